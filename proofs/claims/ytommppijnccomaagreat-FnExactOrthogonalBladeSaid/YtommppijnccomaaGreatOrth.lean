/-
  The vectors that are orthogonal to others, and OrthogonalBlade: the program's functions and the reference's.
-/
import Derived.Test.YtommppijnccomaaGreatBld
import Derived.Test.YtommppijnccomaaGreatBlo
import Derived.Test.YtommppijnccomaaGreatSpan
namespace Go.Proofs.YtommppijnccomaaGreat
open Go.RowKit

/-- The reduced basis of the vectors that are orthogonal to those of a list. -/
def orthL (P : Int) (sq : List Int) (n : Nat) (L : List (List Int)) : List (List Int) := kernL P (L.map (weiL P sq)) n
theorem weis_tab {P : Int} (hp : 0 < P) (sq : List Int) {n : Nat} {L : List (List Int)} (hL : Tab P n L) : Tab P n (L.map (weiL P sq)) := fun x hx => by
  obtain ⟨v, hv, rfl⟩ := List.mem_map.1 hx
  exact ⟨by rw [weiL_len, (hL v hv).1], weiL_nums hp sq v⟩
theorem orthL_tab {P : Int} (hp : 2 ≤ P) (sq : List Int) (n : Nat) (L : List (List Int)) : Tab P n (orthL P sq n L) := kernL_tab hp _ _
theorem orthL_len {P : Int} (HP : isP P = true) (sq : List Int) (n : Nat) (L : List (List Int)) : (orthL P sq n L).length ≤ n := kernL_len HP _ _
theorem unitM_ent {n i k : Nat} (hi : i < n) (hk : k < n) : ent (unitM n) i k = if i = k then 1 else 0 := by
  have hl : i < (unitM n).length := by rw [unitM_len]; exact hi
  unfold ent
  rw [getD_of_lt [] hl, unitM_get n i hl]
  unfold unitRow
  rw [getD_set, List.length_replicate]
  by_cases h : i = k
  · rw [if_pos ⟨h, hi⟩, if_pos h]
  · rw [if_neg (fun hh => h hh.1), if_neg h, getD_of_lt 0 (by simpa using hk)]; simp
theorem unitM_ld {n i : Nat} (hi : i < n) : ld (unitM n) i = i := by
  have hl : i < (unitM n).length := by rw [unitM_len]; exact hi
  have hr : ((unitM n).getD i []).length = n := by rw [getD_of_lt [] hl, unitM_get n i hl, unitRow_len]
  unfold ld
  refine leadL_eq _ _ (fun j hj => ?_) (.inr ⟨by rw [hr]; exact hi, ?_⟩)
  · have := unitM_ent (n := n) hi (show j < n by omega)
    unfold ent at this
    rw [this, if_neg (by omega)]
  · have := unitM_ent (n := n) hi hi
    unfold ent at this
    rw [this, if_pos rfl]; decide
theorem unitM_red (n : Nat) : Red n (unitM n) := by
  have hl := unitM_len n
  refine ⟨fun i hi => by rw [unitM_ld (by omega)]; omega, fun i hi => by rw [unitM_ld (by omega), unitM_ent (by omega) (by omega), if_pos rfl], fun i r hi hr hri => by rw [unitM_ld (by omega), unitM_ent (by omega) (by omega), if_neg hri], fun i j hij hj => by rw [unitM_ld (by omega), unitM_ld (by omega)]; exact hij⟩
theorem kernL_nil {P : Int} (HP : isP P = true) (n : Nat) : kernL P [] n = unitM n := by
  have hp : 2 ≤ P := by have := isP_ge HP; omega
  have hl := unitM_len n
  refine (kernL_red HP [] n).unique hp (unitM_red n) (kernL_tab hp _ _) (unitM_tab hp n) (fun i hi => ?_) (fun i hi => (kernL_sp HP (Tab.nil _ _)).2 fun r hr => absurd hr (by simp))
  refine ⟨fun j => ent (kernL P [] n) i j, fun q hq => ?_⟩
  rw [hl, sumTo_one (f := fun j => ent (kernL P [] n) i j * ent (unitM n) j q) q hq (fun j hj hjq => by rw [unitM_ent hj hq, if_neg hjq, Int.mul_zero]), unitM_ent hq hq, if_pos rfl, Int.mul_one]

theorem l02Unit_any (n : Nat) (w : World) (hn : n ≤ 65536) :
    Calls Tryz.prog 119 #[.int .i64 n] w fun e w' => ∃ A c, e = .returned (.slice A n c) ∧ MkII w w' A n c (unitM n) := by
  have hmk := make_i (P := Tryz.prog) 22 2 Tryz.underlying22 info_i n (by omega)
  have hM0 : MkII w (w.alloc (.cells #[] 22)) (some ⟨w.heap.size, 0, none⟩) 0 0 [] := MkII.empty (Below.refl _ _)
  go_enter Tryz.func119, Tryz.ntmps119
  go_wp2
  go_loopw [3, 4] (fun out i wr => ∃ (k : Nat) (A : Option Addr) (c : Nat), k ≤ n ∧ i = .int .i64 k ∧ out = .slice A k c ∧ MkII w wr A k c ((unitM n).take k)) (fun _ i _ => n - (intOf i).toNat)
  case atStart => exact ⟨0, _, _, by omega, rfl, rfl, by simpa using hM0⟩
  case round =>
    obtain ⟨k, A, c, hk, rfl, rfl, hM⟩ := hrel
    clear hM0
    by_cases hlt : k < n
    · have hm1 := Mk.made (E := 2) (n := n) (z := .int .i64 0) (Below.refl wr.heap.size wr) (by simp only [maxLen]; omega)
      rw [ints_replicate] at hm1
      obtain ⟨u1, hc1⟩ := hm1.2.cellI hlt
      have hf1 := hm1.2.frozen_ k
      have hm2 := (hm1.set k (.int .i64 1)).1
      rw [ints_set, World.setCell_alloc_at _ _ _ _ _ rfl] at hm2
      have HM := Lib.hid hM
      have HM2 := Lib.hid hm2
      clear hM hm1 hm2
      go_wp2_with (at_builtin; refine wpList_appRow w wr _ rfl _ _ rfl A k c _ _ n n _ HM.out HM2.out (by omega) rfl ?_ ?_; (go_simp); intro A' c' w' hM')
      go_roundw
      case rel => exact ⟨k + 1, A', c', by omega, by go_num, rfl, by rw [unitM_take n k hlt]; exact hM'⟩
      case measure => simp [intOf]; omega
    · go_wp2
      go_ret
      obtain rfl : k = n := by omega
      rw [List.take_of_length_le (by rw [unitM_len]; omega)] at hM
      exact ⟨_, _, rfl, hM⟩

set_option maxHeartbeats 3200000 in
set_option maxRecDepth 8000 in
theorem orthogonal_any (P : Int) (A : Option Addr) (n c : Nat) (sq : List Int) (B : Option Addr) (m d : Nat) (L : List (List Int)) (w : World) (HP : isP P = true) (hn : n ≤ 6) (h0 : 0 < n) (hm : m ≤ 65536) (ha : Rd w A n (ints sq)) (hs : NumsL P sq) (hb : RdII w B m L) (hL : Tab P n L) :
    Calls Tryz.prog 80 #[.agg #[.int .i64 P, .slice A n c], .slice B m d] w fun e w' => ∃ A' c', e = .returned (.slice A' (orthL P sq n L).length c') ∧ MkII w w' A' (orthL P sq n L).length c' (orthL P sq n L) := by
  obtain ⟨hp3, hp2⟩ := isP_ge HP
  have hp : 2 ≤ P := by omega
  have HML := Lib.hid hb.len
  have HTL := Lib.hid hL
  have HPP := Lib.hid HP
  have HSQ := Lib.hid hs
  have hB0 : Below w.heap.size w (w.alloc (.cells #[.int .i64 P, .slice A n c] 28)) := (Below.refl _ _).alloc (Nat.le_refl _) _
  have k0 : Blk (w.alloc (.cells #[.int .i64 P, .slice A n c] 28)) w.heap.size 28 #[.int .i64 P, .slice A n c] := Blk.new _ _ _
  have hB1 := hB0.alloc (by simp) (.cells #[] 22)
  have k1 := k0.alloc (.cells #[] 22)
  have hM1 : MkII w ((w.alloc (.cells #[.int .i64 P, .slice A n c] 28)).alloc (.cells #[] 22)) (some ⟨w.heap.size + 1, 0, none⟩) 0 0 [] := by
    have := MkII.empty hB0
    simpa using this
  clear k0 hB0 hL hs HP hB1
  go_enter Tryz.func80, Tryz.ntmps80
  go_wp2
  go_loopw [5, 7, 11] (fun out _ i wr => ∃ (k : Nat) (A' : Option Addr) (c' : Nat), k ≤ m ∧ i = .int .i64 k ∧ out = .slice A' k c' ∧ MkII w wr A' k c' ((L.map (weiL P sq)).take k) ∧ Blk wr w.heap.size 28 #[.int .i64 P, .slice A n c]) (fun _ _ i _ => m - (intOf i).toNat)
  case atStart => exact ⟨0, _, _, by omega, rfl, rfl, by simpa using hM1, k1⟩
  case round =>
    obtain ⟨k, A', c', hk, rfl, rfl, hM, k2⟩ := hrel
    clear hM1 k1
    obtain ⟨q0, q1⟩ := k2.two
    by_cases hlt : k < m
    · obtain ⟨g, o, rfl, hxk, A1, c1, hcx, hr1, hcc⟩ := (hb.below hM.b).at_ hlt
      have hr := HTL.out L[k] (List.getElem_mem hxk)
      rw [hr.1] at hcx hr1
      have hcall := weighted_any P A n c sq A1 c1 L[k] wr hp hp2 hn (ha.below hM.b) HSQ.out hr1 hr.2
      have HV : Hid ((L.map (weiL P sq)).take (k + 1) = (L.map (weiL P sq)).take k ++ [weiL P sq L[k]]) := Lib.hid (by rw [List.take_succ_eq_append_getElem (by rw [List.length_map]; exact hxk), List.getElem_map])
      have HM := Lib.hid hM
      obtain ⟨u, hu⟩ : ∃ u, u = weiL P sq L[k] := ⟨_, rfl⟩
      rw [← hu] at hcall HV
      clear hM hr1 hcc hr hu hxk
      go_wp2_with fail
      refine hcall.mono ?_
      rintro e w5 ⟨A5, c5, rfl, hM5⟩
      have k3 := k2.below hM5.b k2.lt
      clear hcall q0 q1 k2
      go_wp2_with (at_builtin; refine wpList_appRowG w wr _ rfl _ _ rfl A' k c' _ A5 n c5 _ HM.out hM5 (by omega) rfl ?_ ?_; (go_simp); intro A6 c6 w6 hM6 hgr _)
      have k4 := k3.grown hgr ((HM.out.below hM5.b).ne_blk k3 (by decide))
      clear k3 hgr
      go_roundw
      case rel => exact ⟨k + 1, A6, c6, by omega, by go_num, rfl, by rw [HV.out]; exact hM6, k4⟩
      case measure => simp [intOf]; omega
    · obtain rfl : k = m := by omega
      rw [List.take_of_length_le (by rw [List.length_map, HML.out]; exact Nat.le_refl _)] at hM
      obtain ⟨w3, hw3⟩ : ∃ W, W = wr := ⟨_, rfl⟩
      subst hw3
      have k3 := k2
      have HKER : Hid (∀ w', Below w3.heap.size w3 w' → Calls Tryz.prog 78 #[.int .i64 P, .slice A' k c', .int .i64 n] w' fun e w'' => ∃ A2 c2, e = .returned (.slice A2 (orthL P sq n L).length c2) ∧ MkII w' w'' A2 (orthL P sq n L).length c2 (orthL P sq n L)) := Lib.hid fun w' h => kernel_any P A' k c' (L.map (weiL P sq)) n w' HPP.out hm (by omega) (hM.rd.below h) (weis_tab (by omega) sq HTL.out)
      have HMB := Lib.hid hM.b
      clear hM k2
      go_wp2
      refine wp_obs 7 [[], [0], [], [], [3], [0, 1, 2, 3, 4], [0, 1, 2, 3, 4, 5]] [VIs (.agg #[.int .i64 P, .slice A n c]), VIs (.int .i64 (P)), VIs (.slice A' k c'), VIs (.agg #[.int .i64 P, .slice A n c]), VIs (.int .i64 (n)), VMat w3 (orthL P sq n L).length (orthL P sq n L), VMat w3 (orthL P sq n L).length (orthL P sq n L)] (fun w' => Blk w' w.heap.size 28 #[.int .i64 P, .slice A n c] ∧ Below w3.heap.size w3 w') (by kernel_rfl) (by kernel_rfl) (fun _ _ h hb => ⟨h.1.below hb h.1.lt, h.2.trans (hb.mono h.2.size)⟩) (⟨k3.drew, (Below.refl _ _).drew⟩) (fun x => ?_)
      refine obs_step (Eq.trans (by simp only [List.getElem?_toArray, List.getElem?_cons_zero]; exact rfl) rfl) rfl (fun w' hS hV K hK => ?_) ?_
      · obtain ⟨q0, q1⟩ := hS.1.two
        go_simp
        exact hK.out _ _ _ rfl rfl rfl (Below.refl _ _)
      simp only [List.setIfInBounds_toArray, List.set_cons_zero, List.set_cons_succ]
      refine obs_step (Eq.trans (by simp only [List.getElem?_toArray, List.getElem?_cons_succ, List.getElem?_cons_zero]; exact rfl) rfl) rfl (fun w' hS hV K hK => ?_) ?_
      · have e0 : x 0 = (.agg #[.int .i64 P, .slice A n c]) := hV 0 (by decide)
        obtain ⟨q0, q1⟩ := hS.1.two
        go_simp
        refine (field_any _ _ _ _ _).mono ?_
        rintro e v1 ⟨rfl, hb⟩
        exact hK.out _ _ _ rfl rfl rfl hb
      simp only [List.setIfInBounds_toArray, List.set_cons_zero, List.set_cons_succ]
      refine obs_step (Eq.trans (by simp only [List.getElem?_toArray, List.getElem?_cons_succ, List.getElem?_cons_zero]; exact rfl) rfl) rfl (fun w' hS hV K hK => ?_) ?_
      · obtain ⟨q0, q1⟩ := hS.1.two
        go_simp
        exact hK.out _ _ _ rfl rfl rfl (Below.refl _ _)
      simp only [List.setIfInBounds_toArray, List.set_cons_zero, List.set_cons_succ]
      refine obs_step (Eq.trans (by simp only [List.getElem?_toArray, List.getElem?_cons_succ, List.getElem?_cons_zero]; exact rfl) rfl) rfl (fun w' hS hV K hK => ?_) ?_
      · obtain ⟨q0, q1⟩ := hS.1.two
        go_simp
        exact hK.out _ _ _ rfl rfl rfl (Below.refl _ _)
      simp only [List.setIfInBounds_toArray, List.set_cons_zero, List.set_cons_succ]
      refine obs_step (Eq.trans (by simp only [List.getElem?_toArray, List.getElem?_cons_succ, List.getElem?_cons_zero]; exact rfl) rfl) rfl (fun w' hS hV K hK => ?_) ?_
      · have e3 : x 3 = (.agg #[.int .i64 P, .slice A n c]) := hV 3 (by decide)
        obtain ⟨q0, q1⟩ := hS.1.two
        go_simp
        refine (dim_any _ _ _ _ _).mono ?_
        rintro e v1 ⟨rfl, hb⟩
        exact hK.out _ _ _ rfl rfl rfl hb
      simp only [List.setIfInBounds_toArray, List.set_cons_zero, List.set_cons_succ]
      refine obs_step (Eq.trans (by simp only [List.getElem?_toArray, List.getElem?_cons_succ, List.getElem?_cons_zero]; exact rfl) rfl) rfl (fun w' hS hV K hK => ?_) ?_
      · have e0 : x 0 = (.agg #[.int .i64 P, .slice A n c]) := hV 0 (by decide)
        have e1 : x 1 = (.int .i64 (P)) := hV 1 (by decide)
        have e2 : x 2 = (.slice A' k c') := hV 2 (by decide)
        have e3 : x 3 = (.agg #[.int .i64 P, .slice A n c]) := hV 3 (by decide)
        have e4 : x 4 = (.int .i64 (n)) := hV 4 (by decide)
        obtain ⟨q0, q1⟩ := hS.1.two
        go_simp
        refine (HKER.out _ hS.2).mono ?_
        rintro e v1 ⟨A2, c2, rfl, hM⟩
        exact hK.out _ _ _ rfl rfl ⟨_, _, rfl, hM.after hS.2⟩ hM.b
      simp only [List.setIfInBounds_toArray, List.set_cons_zero, List.set_cons_succ]
      refine obs_step (Eq.trans (by simp only [List.getElem?_toArray, List.getElem?_cons_succ, List.getElem?_cons_zero]; exact rfl) rfl) rfl (fun w' hS hV K hK => ?_) ?_
      · have e0 : x 0 = (.agg #[.int .i64 P, .slice A n c]) := hV 0 (by decide)
        have e1 : x 1 = (.int .i64 (P)) := hV 1 (by decide)
        have e2 : x 2 = (.slice A' k c') := hV 2 (by decide)
        have e3 : x 3 = (.agg #[.int .i64 P, .slice A n c]) := hV 3 (by decide)
        have e4 : x 4 = (.int .i64 (n)) := hV 4 (by decide)
        obtain ⟨A5, c5, e5, h5⟩ := hV 5 (by decide)
        obtain ⟨q0, q1⟩ := hS.1.two
        go_simp
        exact hK.out _ _ _ rfl rfl ⟨_, _, rfl, h5⟩ (Below.refl _ _)
      simp only [List.setIfInBounds_toArray, List.set_cons_zero, List.set_cons_succ]
      refine fun w' hS hV => ?_
      have e0 : x 0 = (.agg #[.int .i64 P, .slice A n c]) := hV 0 (by decide)
      have e1 : x 1 = (.int .i64 (P)) := hV 1 (by decide)
      have e2 : x 2 = (.slice A' k c') := hV 2 (by decide)
      have e3 : x 3 = (.agg #[.int .i64 P, .slice A n c]) := hV 3 (by decide)
      have e4 : x 4 = (.int .i64 (n)) := hV 4 (by decide)
      obtain ⟨A5, c5, e5, h5⟩ := hV 5 (by decide)
      obtain ⟨A6, c6, e6, h6⟩ := hV 6 (by decide)
      simp only [e0, e1, e2, e3, e4, e5, e6]
      clear e0 e1 e2 e3 e4 e5 e6
      refine wpAny_done (by kernel_rfl) ?_ _
      go_wp2
      go_ret
      exact ⟨_, _, rfl, h6.after HMB.out⟩

set_option maxHeartbeats 3200000 in
set_option maxRecDepth 8000 in
theorem l03Orthogonal_any (P : Int) (A : Option Addr) (n c : Nat) (sq : List Int) (B : Option Addr) (m d : Nat) (L : List (List Int)) (w : World) (HP : isP P = true) (hn : n ≤ 6) (h0 : 0 < n) (hm : m ≤ 65536) (ha : Rd w A n (ints sq)) (hs : NumsL P sq) (hb : RdII w B m L) (hL : Tab P n L) :
    Calls Tryz.prog 79 #[.agg #[.int .i64 P, .slice A n c], .slice B m d] w fun e w' => ∃ A' c', e = .returned (.slice A' (orthL P sq n L).length c') ∧ MkII w w' A' (orthL P sq n L).length c' (orthL P sq n L) := by
  obtain ⟨hp3, hp2⟩ := isP_ge HP
  have hp : 2 ≤ P := by omega
  have hML := hb.len
  by_cases hm0 : m = 0
  · subst hm0
    obtain rfl : L = [] := List.eq_nil_of_length_eq_zero hML
    have HOL : Hid (orthL P sq n [] = unitM n) := Lib.hid (kernL_nil HP n)
    have HUL := Lib.hid (unitM_len n)
    have hB0 : Below w.heap.size w (w.alloc (.cells #[.int .i64 P, .slice A n c] 28)) := (Below.refl _ _).alloc (Nat.le_refl _) _
    have k0 : Blk (w.alloc (.cells #[.int .i64 P, .slice A n c] 28)) w.heap.size 28 #[.int .i64 P, .slice A n c] := Blk.new _ _ _
    obtain ⟨q0, q1⟩ := k0.two
    clear hL hs HP hML hb
    go_enter Tryz.func79, Tryz.ntmps79
    go_wp2_with fail
    refine (l02Unit_any n _ (by omega)).mono ?_
    rintro e w2 ⟨A2, c2, rfl, hM⟩
    go_wp2
    go_ret
    rw [HOL.out, HUL.out]
    exact ⟨_, _, rfl, hM.after hB0⟩
  have HML := Lib.hid hML
  have HTL := Lib.hid hL
  have HPP := Lib.hid HP
  have HSQ := Lib.hid hs
  have hm1 : ((m : Int) == 0) = false := by simp; omega
  have hB0 : Below w.heap.size w (w.alloc (.cells #[.int .i64 P, .slice A n c] 28)) := (Below.refl _ _).alloc (Nat.le_refl _) _
  have k0 : Blk (w.alloc (.cells #[.int .i64 P, .slice A n c] 28)) w.heap.size 28 #[.int .i64 P, .slice A n c] := Blk.new _ _ _
  have k1 := k0.alloc (.cells #[] 22)
  have hM1 : MkII w ((w.alloc (.cells #[.int .i64 P, .slice A n c] 28)).alloc (.cells #[] 22)) (some ⟨w.heap.size + 1, 0, none⟩) 0 0 [] := by
    have := MkII.empty hB0
    simpa using this
  clear k0 hB0 hL hs HP hML
  go_enter Tryz.func79, Tryz.ntmps79
  go_wp2
  go_loopw [5, 6] (fun out i wr => ∃ (k : Nat) (A' : Option Addr) (c' : Nat), k ≤ m ∧ i = .int .i64 k ∧ out = .slice A' k c' ∧ MkII w wr A' k c' ((L.map (weiL P sq)).take k) ∧ Blk wr w.heap.size 28 #[.int .i64 P, .slice A n c]) (fun _ i _ => m - (intOf i).toNat)
  case atStart => exact ⟨0, _, _, by omega, rfl, rfl, by simpa using hM1, k1⟩
  case round =>
    obtain ⟨k, A', c', hk, rfl, rfl, hM, k2⟩ := hrel
    clear hM1 k1
    obtain ⟨wo, rfl⟩ : ∃ W, W = wr := ⟨_, rfl⟩
    by_cases hlt : k < m
    · have hr0 := Mk.lit (E := 2) (Below.refl wo.heap.size wo) #[] (by simp)
      have hR0 : MkI wo (wo.alloc (.cells #[] 2)) (some ⟨wo.heap.size, 0, none⟩) 0 0 [] := by simpa [MkI, ints] using hr0
      have k3 := k2.alloc (.cells #[] 2)
      have hxk : k < L.length := by rw [HML.out]; exact hlt
      have HRN := Lib.hid (HTL.out L[k] (List.getElem_mem hxk))
      have HV : Hid ((L.map (weiL P sq)).take (k + 1) = (L.map (weiL P sq)).take k ++ [tab n fun i => L[k].getD i 0 * sq.getD i 0 % P]) := Lib.hid (by
        rw [List.take_succ_eq_append_getElem (by rw [List.length_map]; exact hxk), List.getElem_map]
        unfold weiL
        rw [HRN.out.1])
      obtain ⟨v, hv⟩ : ∃ v, v = L[k] := ⟨_, rfl⟩
      have HVK := Lib.hid hv
      rw [← hv] at HV HRN
      have HM := Lib.hid hM
      clear hr0 hM k2 hv
      go_wp2
      go_loopw [7, 8] (fun row i wi => ∃ (j : Nat) (A2 : Option Addr) (c2 : Nat), j ≤ n ∧ i = .int .i64 j ∧ row = .slice A2 j c2 ∧ MkI wo wi A2 j c2 (tab j fun i => v.getD i 0 * sq.getD i 0 % P) ∧ Blk wi w.heap.size 28 #[.int .i64 P, .slice A n c]) (fun _ i _ => n - (intOf i).toNat)
      case atStart => exact ⟨0, _, _, by omega, rfl, rfl, by simpa [tab] using hR0, k3⟩
      case round =>
        obtain ⟨j, A2, c2, hj, rfl, rfl, hR, k2⟩ := hrel
        clear hR0 k3
        obtain ⟨wi, rfl⟩ : ∃ W, W = wr := ⟨_, rfl⟩
        obtain ⟨q0, q1⟩ := k2.two
        have HR := Lib.hid hR
        have hbb := HM.out.b.trans (hR.b.mono HM.out.b.size)
        by_cases hlj : j < n
        · obtain ⟨g, o, rfl, hxk2, A1, c1, hcx, hr1, hcc⟩ := (hb.below hbb).at_ hlt
          rw [← HVK.out] at hcx hr1
          rw [HRN.out.1] at hcx hr1
          obtain ⟨g2, o2, rfl, hxj, hcj⟩ := hr1.int hlj
          obtain ⟨g3, o3, rfl, hzj, hcz⟩ := (ha.below hbb).int hlj
          obtain ⟨x1, x2⟩ := HRN.out.2 _ (List.getElem_mem hxj)
          obtain ⟨y1, y2⟩ := HSQ.out _ (List.getElem_mem hzj)
          have HVV : Hid ((tab (j + 1) fun i => v.getD i 0 * sq.getD i 0 % P) = (tab j fun i => v.getD i 0 * sq.getD i 0 % P) ++ [v[j] * sq[j] % P]) := Lib.hid (by rw [tab_succ, getD_of_lt 0 hxj, getD_of_lt 0 hzj])
          obtain ⟨xa, hxe⟩ : ∃ x, x = v[j] := ⟨_, rfl⟩
          obtain ⟨ya, hye⟩ : ∃ x, x = sq[j] := ⟨_, rfl⟩
          rw [← hxe] at hcj x1 x2 HVV
          rw [← hye] at hcz y1 y2 HVV
          obtain ⟨m1, m2⟩ := mul_small x1 (show xa ≤ 13 by omega) y1 (show ya ≤ 13 by omega)
          have W1 := i64_fit (xa * ya) (by omega) (by omega)
          have T1 := Int.tmod_eq_emod_of_nonneg (b := P) m1
          have hP0 : (P == 0) = false := by simp; omega
          have hP1 : (P == -1) = false := by simp; omega
          have hP2 : ¬ P = 0 := by omega
          have i1 : (0 : Int) ≤ (j : Int) := by omega
          have i2 : (j : Int) < (n : Int) := by omega
          have i3 : (0 : Int) ≤ (k : Int) := by omega
          have i4 : (k : Int) < (m : Int) := by omega
          clear hR hr1 hcc hxe hye hxj hzj hxk2 hbb
          go_wp2
          refine wp_obs 18 [[], [], [], [1, 2], [1, 2, 3], [], [1, 2, 3, 4, 5], [1, 2, 3, 4, 5, 6], [], [8], [], [8, 9, 10], [8, 9, 10, 11], [1, 2, 3, 4, 5, 6, 7, 8, 9, 10, 11, 12], [], [14], [1, 2, 3, 4, 5, 6, 7, 8, 9, 10, 11, 12, 13, 14, 15], [1, 2, 3, 4, 5, 6, 7, 8, 9, 10, 11, 12, 13, 14, 15, 16], [0, 1, 2, 3, 4, 5, 6, 7, 8, 9, 10, 11, 12, 13, 14, 15, 16, 17], [0, 1, 2, 3, 4, 5, 6, 7, 8, 9, 10, 11, 12, 13, 14, 15, 16, 17, 18]] [VIs (.slice A2 j c2), VIs (.slice (some ⟨g, o, none⟩) m d), VIs (.int .i64 (k)), VIs (.pointer (some ⟨g, o + k, none⟩)), VIs (.slice (some ⟨g2, o2, none⟩) n c1), VIs (.int .i64 (j)), VIs (.pointer (some ⟨g2, o2 + j, none⟩)), VIs (.int .i64 (xa)), VIs (.pointer (some ⟨w.heap.size, 1, none⟩)), VIs (.slice (some ⟨g3, o3, none⟩) n c), VIs (.int .i64 (j)), VIs (.pointer (some ⟨g3, o3 + j, none⟩)), VIs (.int .i64 (ya)), VIs (.int .i64 (xa * ya)), VIs (.pointer (some ⟨w.heap.size, 0, none⟩)), VIs (.int .i64 (P)), VIs (.int .i64 (xa * ya % P)), VBs 2 #[.int .i64 (xa * ya % P)]] (fun w' => w'.cell? ⟨g, o + k, none⟩ = some (.slice (some ⟨g2, o2, none⟩) n c1) ∧ w'.cell? ⟨g2, o2 + j, none⟩ = some (.int .i64 xa) ∧ w'.cell? ⟨g3, o3 + j, none⟩ = some (.int .i64 ya) ∧ Blk w' w.heap.size 28 #[.int .i64 P, .slice (some ⟨g3, o3, none⟩) n c] ∧ Below wi.heap.size wi w') (by kernel_rfl) (by kernel_rfl) (fun _ _ h hb => ⟨(hb.cell (World.block_lt_of_cell? _ _ h.1)).trans h.1, (hb.cell (World.block_lt_of_cell? _ _ h.2.1)).trans h.2.1, (hb.cell (World.block_lt_of_cell? _ _ h.2.2.1)).trans h.2.2.1, h.2.2.2.1.below hb h.2.2.2.1.lt, h.2.2.2.2.trans (hb.mono h.2.2.2.2.size)⟩) (⟨hcx, hcj, hcz, k2.drew, (Below.refl _ _).drew⟩) (fun x => ?_)
          refine obs_step (Eq.trans (by simp only [List.getElem?_toArray, List.getElem?_cons_zero]; exact rfl) rfl) rfl (fun w' hS hV K hK => ?_) ?_
          · have q2 := hS.1; have q3 := hS.2.1; have q4 := hS.2.2.1; obtain ⟨q0, q1⟩ := hS.2.2.2.1.two
            go_simp
            exact hK.out _ _ _ rfl rfl rfl (Below.refl _ _)
          simp only [List.setIfInBounds_toArray, List.set_cons_zero, List.set_cons_succ]
          refine obs_step (Eq.trans (by simp only [List.getElem?_toArray, List.getElem?_cons_succ, List.getElem?_cons_zero]; exact rfl) rfl) rfl (fun w' hS hV K hK => ?_) ?_
          · have q2 := hS.1; have q3 := hS.2.1; have q4 := hS.2.2.1; obtain ⟨q0, q1⟩ := hS.2.2.2.1.two
            go_simp
            exact hK.out _ _ _ rfl rfl rfl (Below.refl _ _)
          simp only [List.setIfInBounds_toArray, List.set_cons_zero, List.set_cons_succ]
          refine obs_step (Eq.trans (by simp only [List.getElem?_toArray, List.getElem?_cons_succ, List.getElem?_cons_zero]; exact rfl) rfl) rfl (fun w' hS hV K hK => ?_) ?_
          · have q2 := hS.1; have q3 := hS.2.1; have q4 := hS.2.2.1; obtain ⟨q0, q1⟩ := hS.2.2.2.1.two
            go_simp
            exact hK.out _ _ _ rfl rfl rfl (Below.refl _ _)
          simp only [List.setIfInBounds_toArray, List.set_cons_zero, List.set_cons_succ]
          refine obs_step (Eq.trans (by simp only [List.getElem?_toArray, List.getElem?_cons_succ, List.getElem?_cons_zero]; exact rfl) rfl) rfl (fun w' hS hV K hK => ?_) ?_
          · have e1 : x 1 = (.slice (some ⟨g, o, none⟩) m d) := hV 1 (by decide)
            have e2 : x 2 = (.int .i64 (k)) := hV 2 (by decide)
            have q2 := hS.1; have q3 := hS.2.1; have q4 := hS.2.2.1; obtain ⟨q0, q1⟩ := hS.2.2.2.1.two
            go_simp
            exact hK.out _ _ _ rfl rfl rfl (Below.refl _ _)
          simp only [List.setIfInBounds_toArray, List.set_cons_zero, List.set_cons_succ]
          refine obs_step (Eq.trans (by simp only [List.getElem?_toArray, List.getElem?_cons_succ, List.getElem?_cons_zero]; exact rfl) rfl) rfl (fun w' hS hV K hK => ?_) ?_
          · have e1 : x 1 = (.slice (some ⟨g, o, none⟩) m d) := hV 1 (by decide)
            have e2 : x 2 = (.int .i64 (k)) := hV 2 (by decide)
            have e3 : x 3 = (.pointer (some ⟨g, o + k, none⟩)) := hV 3 (by decide)
            have q2 := hS.1; have q3 := hS.2.1; have q4 := hS.2.2.1; obtain ⟨q0, q1⟩ := hS.2.2.2.1.two
            go_simp
            exact hK.out _ _ _ rfl rfl rfl (Below.refl _ _)
          simp only [List.setIfInBounds_toArray, List.set_cons_zero, List.set_cons_succ]
          refine obs_step (Eq.trans (by simp only [List.getElem?_toArray, List.getElem?_cons_succ, List.getElem?_cons_zero]; exact rfl) rfl) rfl (fun w' hS hV K hK => ?_) ?_
          · have q2 := hS.1; have q3 := hS.2.1; have q4 := hS.2.2.1; obtain ⟨q0, q1⟩ := hS.2.2.2.1.two
            go_simp
            exact hK.out _ _ _ rfl rfl rfl (Below.refl _ _)
          simp only [List.setIfInBounds_toArray, List.set_cons_zero, List.set_cons_succ]
          refine obs_step (Eq.trans (by simp only [List.getElem?_toArray, List.getElem?_cons_succ, List.getElem?_cons_zero]; exact rfl) rfl) rfl (fun w' hS hV K hK => ?_) ?_
          · have e1 : x 1 = (.slice (some ⟨g, o, none⟩) m d) := hV 1 (by decide)
            have e2 : x 2 = (.int .i64 (k)) := hV 2 (by decide)
            have e3 : x 3 = (.pointer (some ⟨g, o + k, none⟩)) := hV 3 (by decide)
            have e4 : x 4 = (.slice (some ⟨g2, o2, none⟩) n c1) := hV 4 (by decide)
            have e5 : x 5 = (.int .i64 (j)) := hV 5 (by decide)
            have q2 := hS.1; have q3 := hS.2.1; have q4 := hS.2.2.1; obtain ⟨q0, q1⟩ := hS.2.2.2.1.two
            go_simp
            exact hK.out _ _ _ rfl rfl rfl (Below.refl _ _)
          simp only [List.setIfInBounds_toArray, List.set_cons_zero, List.set_cons_succ]
          refine obs_step (Eq.trans (by simp only [List.getElem?_toArray, List.getElem?_cons_succ, List.getElem?_cons_zero]; exact rfl) rfl) rfl (fun w' hS hV K hK => ?_) ?_
          · have e1 : x 1 = (.slice (some ⟨g, o, none⟩) m d) := hV 1 (by decide)
            have e2 : x 2 = (.int .i64 (k)) := hV 2 (by decide)
            have e3 : x 3 = (.pointer (some ⟨g, o + k, none⟩)) := hV 3 (by decide)
            have e4 : x 4 = (.slice (some ⟨g2, o2, none⟩) n c1) := hV 4 (by decide)
            have e5 : x 5 = (.int .i64 (j)) := hV 5 (by decide)
            have e6 : x 6 = (.pointer (some ⟨g2, o2 + j, none⟩)) := hV 6 (by decide)
            have q2 := hS.1; have q3 := hS.2.1; have q4 := hS.2.2.1; obtain ⟨q0, q1⟩ := hS.2.2.2.1.two
            go_simp
            exact hK.out _ _ _ rfl rfl rfl (Below.refl _ _)
          simp only [List.setIfInBounds_toArray, List.set_cons_zero, List.set_cons_succ]
          refine obs_step (Eq.trans (by simp only [List.getElem?_toArray, List.getElem?_cons_succ, List.getElem?_cons_zero]; exact rfl) rfl) rfl (fun w' hS hV K hK => ?_) ?_
          · have q2 := hS.1; have q3 := hS.2.1; have q4 := hS.2.2.1; obtain ⟨q0, q1⟩ := hS.2.2.2.1.two
            go_simp
            exact hK.out _ _ _ rfl rfl rfl (Below.refl _ _)
          simp only [List.setIfInBounds_toArray, List.set_cons_zero, List.set_cons_succ]
          refine obs_step (Eq.trans (by simp only [List.getElem?_toArray, List.getElem?_cons_succ, List.getElem?_cons_zero]; exact rfl) rfl) rfl (fun w' hS hV K hK => ?_) ?_
          · have e8 : x 8 = (.pointer (some ⟨w.heap.size, 1, none⟩)) := hV 8 (by decide)
            have q2 := hS.1; have q3 := hS.2.1; have q4 := hS.2.2.1; obtain ⟨q0, q1⟩ := hS.2.2.2.1.two
            go_simp
            exact hK.out _ _ _ rfl rfl rfl (Below.refl _ _)
          simp only [List.setIfInBounds_toArray, List.set_cons_zero, List.set_cons_succ]
          refine obs_step (Eq.trans (by simp only [List.getElem?_toArray, List.getElem?_cons_succ, List.getElem?_cons_zero]; exact rfl) rfl) rfl (fun w' hS hV K hK => ?_) ?_
          · have q2 := hS.1; have q3 := hS.2.1; have q4 := hS.2.2.1; obtain ⟨q0, q1⟩ := hS.2.2.2.1.two
            go_simp
            exact hK.out _ _ _ rfl rfl rfl (Below.refl _ _)
          simp only [List.setIfInBounds_toArray, List.set_cons_zero, List.set_cons_succ]
          refine obs_step (Eq.trans (by simp only [List.getElem?_toArray, List.getElem?_cons_succ, List.getElem?_cons_zero]; exact rfl) rfl) rfl (fun w' hS hV K hK => ?_) ?_
          · have e8 : x 8 = (.pointer (some ⟨w.heap.size, 1, none⟩)) := hV 8 (by decide)
            have e9 : x 9 = (.slice (some ⟨g3, o3, none⟩) n c) := hV 9 (by decide)
            have e10 : x 10 = (.int .i64 (j)) := hV 10 (by decide)
            have q2 := hS.1; have q3 := hS.2.1; have q4 := hS.2.2.1; obtain ⟨q0, q1⟩ := hS.2.2.2.1.two
            go_simp
            exact hK.out _ _ _ rfl rfl rfl (Below.refl _ _)
          simp only [List.setIfInBounds_toArray, List.set_cons_zero, List.set_cons_succ]
          refine obs_step (Eq.trans (by simp only [List.getElem?_toArray, List.getElem?_cons_succ, List.getElem?_cons_zero]; exact rfl) rfl) rfl (fun w' hS hV K hK => ?_) ?_
          · have e8 : x 8 = (.pointer (some ⟨w.heap.size, 1, none⟩)) := hV 8 (by decide)
            have e9 : x 9 = (.slice (some ⟨g3, o3, none⟩) n c) := hV 9 (by decide)
            have e10 : x 10 = (.int .i64 (j)) := hV 10 (by decide)
            have e11 : x 11 = (.pointer (some ⟨g3, o3 + j, none⟩)) := hV 11 (by decide)
            have q2 := hS.1; have q3 := hS.2.1; have q4 := hS.2.2.1; obtain ⟨q0, q1⟩ := hS.2.2.2.1.two
            go_simp
            exact hK.out _ _ _ rfl rfl rfl (Below.refl _ _)
          simp only [List.setIfInBounds_toArray, List.set_cons_zero, List.set_cons_succ]
          refine obs_step (Eq.trans (by simp only [List.getElem?_toArray, List.getElem?_cons_succ, List.getElem?_cons_zero]; exact rfl) rfl) rfl (fun w' hS hV K hK => ?_) ?_
          · have e1 : x 1 = (.slice (some ⟨g, o, none⟩) m d) := hV 1 (by decide)
            have e2 : x 2 = (.int .i64 (k)) := hV 2 (by decide)
            have e3 : x 3 = (.pointer (some ⟨g, o + k, none⟩)) := hV 3 (by decide)
            have e4 : x 4 = (.slice (some ⟨g2, o2, none⟩) n c1) := hV 4 (by decide)
            have e5 : x 5 = (.int .i64 (j)) := hV 5 (by decide)
            have e6 : x 6 = (.pointer (some ⟨g2, o2 + j, none⟩)) := hV 6 (by decide)
            have e7 : x 7 = (.int .i64 (xa)) := hV 7 (by decide)
            have e8 : x 8 = (.pointer (some ⟨w.heap.size, 1, none⟩)) := hV 8 (by decide)
            have e9 : x 9 = (.slice (some ⟨g3, o3, none⟩) n c) := hV 9 (by decide)
            have e10 : x 10 = (.int .i64 (j)) := hV 10 (by decide)
            have e11 : x 11 = (.pointer (some ⟨g3, o3 + j, none⟩)) := hV 11 (by decide)
            have e12 : x 12 = (.int .i64 (ya)) := hV 12 (by decide)
            have q2 := hS.1; have q3 := hS.2.1; have q4 := hS.2.2.1; obtain ⟨q0, q1⟩ := hS.2.2.2.1.two
            go_simp
            exact hK.out _ _ _ rfl rfl rfl (Below.refl _ _)
          simp only [List.setIfInBounds_toArray, List.set_cons_zero, List.set_cons_succ]
          refine obs_step (Eq.trans (by simp only [List.getElem?_toArray, List.getElem?_cons_succ, List.getElem?_cons_zero]; exact rfl) rfl) rfl (fun w' hS hV K hK => ?_) ?_
          · have q2 := hS.1; have q3 := hS.2.1; have q4 := hS.2.2.1; obtain ⟨q0, q1⟩ := hS.2.2.2.1.two
            go_simp
            exact hK.out _ _ _ rfl rfl rfl (Below.refl _ _)
          simp only [List.setIfInBounds_toArray, List.set_cons_zero, List.set_cons_succ]
          refine obs_step (Eq.trans (by simp only [List.getElem?_toArray, List.getElem?_cons_succ, List.getElem?_cons_zero]; exact rfl) rfl) rfl (fun w' hS hV K hK => ?_) ?_
          · have e14 : x 14 = (.pointer (some ⟨w.heap.size, 0, none⟩)) := hV 14 (by decide)
            have q2 := hS.1; have q3 := hS.2.1; have q4 := hS.2.2.1; obtain ⟨q0, q1⟩ := hS.2.2.2.1.two
            go_simp
            exact hK.out _ _ _ rfl rfl rfl (Below.refl _ _)
          simp only [List.setIfInBounds_toArray, List.set_cons_zero, List.set_cons_succ]
          refine obs_step (Eq.trans (by simp only [List.getElem?_toArray, List.getElem?_cons_succ, List.getElem?_cons_zero]; exact rfl) rfl) rfl (fun w' hS hV K hK => ?_) ?_
          · have e1 : x 1 = (.slice (some ⟨g, o, none⟩) m d) := hV 1 (by decide)
            have e2 : x 2 = (.int .i64 (k)) := hV 2 (by decide)
            have e3 : x 3 = (.pointer (some ⟨g, o + k, none⟩)) := hV 3 (by decide)
            have e4 : x 4 = (.slice (some ⟨g2, o2, none⟩) n c1) := hV 4 (by decide)
            have e5 : x 5 = (.int .i64 (j)) := hV 5 (by decide)
            have e6 : x 6 = (.pointer (some ⟨g2, o2 + j, none⟩)) := hV 6 (by decide)
            have e7 : x 7 = (.int .i64 (xa)) := hV 7 (by decide)
            have e8 : x 8 = (.pointer (some ⟨w.heap.size, 1, none⟩)) := hV 8 (by decide)
            have e9 : x 9 = (.slice (some ⟨g3, o3, none⟩) n c) := hV 9 (by decide)
            have e10 : x 10 = (.int .i64 (j)) := hV 10 (by decide)
            have e11 : x 11 = (.pointer (some ⟨g3, o3 + j, none⟩)) := hV 11 (by decide)
            have e12 : x 12 = (.int .i64 (ya)) := hV 12 (by decide)
            have e13 : x 13 = (.int .i64 (xa * ya)) := hV 13 (by decide)
            have e14 : x 14 = (.pointer (some ⟨w.heap.size, 0, none⟩)) := hV 14 (by decide)
            have e15 : x 15 = (.int .i64 (P)) := hV 15 (by decide)
            have q2 := hS.1; have q3 := hS.2.1; have q4 := hS.2.2.1; obtain ⟨q0, q1⟩ := hS.2.2.2.1.two
            go_simp
            exact hK.out _ _ _ rfl rfl rfl (Below.refl _ _)
          simp only [List.setIfInBounds_toArray, List.set_cons_zero, List.set_cons_succ]
          refine obs_step (Eq.trans (by simp only [List.getElem?_toArray, List.getElem?_cons_succ, List.getElem?_cons_zero]; exact rfl) rfl) rfl (fun w' hS hV K hK => ?_) ?_
          · have e1 : x 1 = (.slice (some ⟨g, o, none⟩) m d) := hV 1 (by decide)
            have e2 : x 2 = (.int .i64 (k)) := hV 2 (by decide)
            have e3 : x 3 = (.pointer (some ⟨g, o + k, none⟩)) := hV 3 (by decide)
            have e4 : x 4 = (.slice (some ⟨g2, o2, none⟩) n c1) := hV 4 (by decide)
            have e5 : x 5 = (.int .i64 (j)) := hV 5 (by decide)
            have e6 : x 6 = (.pointer (some ⟨g2, o2 + j, none⟩)) := hV 6 (by decide)
            have e7 : x 7 = (.int .i64 (xa)) := hV 7 (by decide)
            have e8 : x 8 = (.pointer (some ⟨w.heap.size, 1, none⟩)) := hV 8 (by decide)
            have e9 : x 9 = (.slice (some ⟨g3, o3, none⟩) n c) := hV 9 (by decide)
            have e10 : x 10 = (.int .i64 (j)) := hV 10 (by decide)
            have e11 : x 11 = (.pointer (some ⟨g3, o3 + j, none⟩)) := hV 11 (by decide)
            have e12 : x 12 = (.int .i64 (ya)) := hV 12 (by decide)
            have e13 : x 13 = (.int .i64 (xa * ya)) := hV 13 (by decide)
            have e14 : x 14 = (.pointer (some ⟨w.heap.size, 0, none⟩)) := hV 14 (by decide)
            have e15 : x 15 = (.int .i64 (P)) := hV 15 (by decide)
            have e16 : x 16 = (.int .i64 (xa * ya % P)) := hV 16 (by decide)
            have q2 := hS.1; have q3 := hS.2.1; have q4 := hS.2.2.1; obtain ⟨q0, q1⟩ := hS.2.2.2.1.two
            go_simp
            exact hK.out _ _ _ rfl rfl ⟨_, rfl, Blk.new _ _ _⟩ ((Below.refl _ _).alloc (Nat.le_refl _) _)
          simp only [List.setIfInBounds_toArray, List.set_cons_zero, List.set_cons_succ]
          refine fun w' hS hV => ?_
          have e0 : x 0 = (.slice A2 j c2) := hV 0 (by decide)
          have e1 : x 1 = (.slice (some ⟨g, o, none⟩) m d) := hV 1 (by decide)
          have e2 : x 2 = (.int .i64 (k)) := hV 2 (by decide)
          have e3 : x 3 = (.pointer (some ⟨g, o + k, none⟩)) := hV 3 (by decide)
          have e4 : x 4 = (.slice (some ⟨g2, o2, none⟩) n c1) := hV 4 (by decide)
          have e5 : x 5 = (.int .i64 (j)) := hV 5 (by decide)
          have e6 : x 6 = (.pointer (some ⟨g2, o2 + j, none⟩)) := hV 6 (by decide)
          have e7 : x 7 = (.int .i64 (xa)) := hV 7 (by decide)
          have e8 : x 8 = (.pointer (some ⟨w.heap.size, 1, none⟩)) := hV 8 (by decide)
          have e9 : x 9 = (.slice (some ⟨g3, o3, none⟩) n c) := hV 9 (by decide)
          have e10 : x 10 = (.int .i64 (j)) := hV 10 (by decide)
          have e11 : x 11 = (.pointer (some ⟨g3, o3 + j, none⟩)) := hV 11 (by decide)
          have e12 : x 12 = (.int .i64 (ya)) := hV 12 (by decide)
          have e13 : x 13 = (.int .i64 (xa * ya)) := hV 13 (by decide)
          have e14 : x 14 = (.pointer (some ⟨w.heap.size, 0, none⟩)) := hV 14 (by decide)
          have e15 : x 15 = (.int .i64 (P)) := hV 15 (by decide)
          have e16 : x 16 = (.int .i64 (xa * ya % P)) := hV 16 (by decide)
          obtain ⟨b17, e17, h17⟩ := hV 17 (by decide)
          simp only [e0, e1, e2, e3, e4, e5, e6, e7, e8, e9, e10, e11, e12, e13, e14, e15, e16, e17]
          clear e0 e1 e2 e3 e4 e5 e6 e7 e8 e9 e10 e11 e12 e13 e14 e15 e16 e17
          have s1 := HR.out.below hS.2.2.2.2
          have k3 := hS.2.2.2.1
          refine any_plain (j := 18) (by kernel_rfl) (Eq.trans (by simp only [List.getElem?_toArray, List.getElem?_cons_succ, List.getElem?_cons_zero]; exact rfl) rfl) rfl (fun K hK => ?_)
          refine wp_app1 wo w' 22 2 _ _ Tryz.underlying22 info_i rfl (by omega) _ _ rfl A2 j c2 _ _ s1 (by omega) rfl _ h17 (by rfl) (by rfl) ?_
          intro A5 c5 w5 hM5 hgr
          refine hK.out _ _ ?_
          simp only [Act.put, List.setIfInBounds_toArray, List.set_cons_zero, List.set_cons_succ]
          refine any_one (j := 19) (by kernel_rfl) (Eq.trans (by simp only [List.getElem?_toArray, List.getElem?_cons_succ, List.getElem?_cons_zero]; exact rfl) rfl) (fun K hK => ?_)
          go_simp
          refine hK.out _ _ (wpAny_done (by kernel_rfl) ?_ _)
          have k4 := k3.grown hgr (s1.2.ne_blk k3 (by decide))
          clear W1 T1 s1 k3 hgr hS
          go_wp2
          go_roundw
          case rel => exact ⟨j + 1, A5, c5, by omega, by go_num, rfl, by rw [HVV.out]; simpa [MkI, ints] using hM5, k4⟩
          case measure => simp [intOf]; omega
        · obtain rfl : j = n := by omega
          clear hR hbb
          go_wp2_with (at_builtin; refine wpList_appRowG w wo _ rfl _ _ rfl A' k c' _ A2 j c2 _ HM.out HR.out (by omega) rfl ?_ ?_; (go_simp); intro A6 c6 w6 hM6 hgr _)
          have k4 := k2.grown hgr ((HM.out.below HR.out.b).ne_blk k2 (by decide))
          clear k2 hgr
          go_roundw
          case rel => exact ⟨k + 1, A6, c6, by omega, by go_num, rfl, by rw [HV.out]; exact hM6, k4⟩
          case measure => simp [intOf]; omega
    · obtain rfl : k = m := by omega
      rw [List.take_of_length_le (by rw [List.length_map, HML.out]; exact Nat.le_refl _)] at hM
      obtain ⟨q0, q1⟩ := k2.two
      have hcall := l02Kernel_any P A' k c' (L.map (weiL P sq)) n wo HPP.out (by omega) hm (by omega) hM.rd (weis_tab (by omega) sq HTL.out)
      obtain ⟨R, hR⟩ : ∃ R, R = kernL P (L.map (weiL P sq)) n := ⟨_, rfl⟩
      have HRR : Hid (orthL P sq n L = R) := Lib.hid hR.symm
      rw [← hR] at hcall
      clear hR
      go_wp2_with fail
      refine hcall.mono ?_
      rintro e w4 ⟨A4, c4, rfl, hM4⟩
      go_wp2
      go_ret
      rw [HRR.out]
      exact ⟨_, _, rfl, hM4.after hM.b⟩

/-- OrthogonalBlade. -/
def orbR (P : Int) (sq : List Int) (xs : List Int) : List Int × Int := if codeL P sq [xs] = 0 then (blaL P sq sq.length (orthL P sq sq.length (subL P sq sq.length xs)), 0) else ([], codeL P sq [xs])
theorem orbR_ok {P : Int} {sq xs : List Int} (h : codeL P sq [xs] = 0) : orbR P sq xs = (blaL P sq sq.length (orthL P sq sq.length (subL P sq sq.length xs)), 0) := by unfold orbR; rw [if_pos h]
theorem orbR_bad {P : Int} {sq xs : List Int} (h : ¬ codeL P sq [xs] = 0) : orbR P sq xs = ([], codeL P sq [xs]) := by unfold orbR; rw [if_neg h]

theorem orbR_len (P : Int) (sq xs : List Int) : (orbR P sq xs).1.length ≤ 1048576 := by
  by_cases h : codeL P sq [xs] = 0
  · obtain ⟨HP, hp, _, h1, h6, _, _⟩ := codeM_spec3 (codeL_zero h).1
    rw [orbR_ok h]
    show (blaL _ _ _ _).length ≤ _
    rw [blaL_len]
    exact Nat.le_trans (pw_le h6) (by decide)
  · rw [orbR_bad h]; simp

set_option maxHeartbeats 3200000 in
set_option maxRecDepth 8000 in
theorem OrthogonalBlade_any (P : Int) (A : Option Addr) (n c : Nat) (sq : List Int) (X : Option Addr) (m cx : Nat) (xs : List Int) (w : World) (hn : n ≤ 1048576) (hm : m ≤ 1048576) (ha : Rd w A n (ints sq)) (hx : Rd w X m (ints xs)) (hcx : m ≤ cx) :
    Calls Tryz.prog 42 #[.agg #[.int .i64 P, .slice A n c], .slice X m cx] w fun e w' => ∃ (A' : Option Addr) (k c' : Nat), e = .returned (.tuple #[.slice A' k c', .int .i64 (orbR P sq xs).2]) ∧ MkI w w' A' k c' (orbR P sq xs).1 := by
  have hB0 : Below w.heap.size w (w.alloc (.cells #[.int .i64 P, .slice A n c] 28)) := (Below.refl _ _).alloc (Nat.le_refl _) _
  have k0 : Blk (w.alloc (.cells #[.int .i64 P, .slice A n c] 28)) w.heap.size 28 #[.int .i64 P, .slice A n c] := Blk.new _ _ _
  have hB1 : Below w.heap.size w ((w.alloc (.cells #[.int .i64 P, .slice A n c] 28)).alloc (.cells #[.slice X m cx] 22)) := hB0.alloc (by simp) _
  have k1 : Blk ((w.alloc (.cells #[.int .i64 P, .slice A n c] 28)).alloc (.cells #[.slice X m cx] 22)) w.heap.size 28 #[.int .i64 P, .slice A n c] := k0.alloc _
  have hreg := checkBlades_any P A (some ⟨w.heap.size + 1, 0, none⟩) n c 1 1 sq [xs] ((w.alloc (.cells #[.int .i64 P, .slice A n c] 28)).alloc (.cells #[.slice X m cx] 22)) hn (by omega) (ha.below hB1) (rdII_one' (Blk.newAt3 (by simp)) (hx.below hB1) hcx) (all_one (by rw [hx.lenI]; exact hm))
  by_cases hr0 : codeL P sq [xs] = 0
  · skip
    have hcM := (codeL_zero hr0).1
    rw [hr0] at hreg
    have HR0 := Lib.hid hr0
    clear hr0
    obtain ⟨HP, hp, hp2, hd1, hd2, hs0, hms⟩ := codeM_spec3 hcM
    have hsl := ha.lenI
    obtain ⟨hx1, hxs0⟩ := hms xs (by simp)
    have hmx : m = pw n := by rw [← hx.lenI, hx1, hsl]
    subst hmx
    have HSL := Lib.hid hsl
    have HS0 := Lib.hid hs0
    have HXS := Lib.hid hxs0
    have hn6 : n ≤ 6 := by omega
    have hn0 : 0 < n := by omega
    clear hsl hms hx1 hs0 hxs0 hd1 hd2 hcM
    go_enter Tryz.func42, Tryz.ntmps42
    go_wp2_with fail
    refine hreg.mono ?_
    rintro e w2 ⟨rfl, hb2⟩
    have hB2 := hB1.trans (hb2.mono hB1.size)
    have k2 := k1.below hb2 k1.lt
    obtain ⟨q0, q1⟩ := k2.two
    clear k0 hB0 k1 hB1 hb2
    have HOK : Hid (orbR P sq xs = (blaL P sq n (orthL P sq n (subL P sq n xs)), 0)) := Lib.hid (by rw [orbR_ok HR0.out, HSL.out])
    have hls := subL_len HP sq n xs
    have hlo := orthL_len HP sq n (subL P sq n xs)
    have HSUB := Lib.hid fun (w' : World) (h : Below w2.heap.size w2 w') => subspace_any P A n c sq X cx xs w' HP hn6 hn0 ((ha.below hB2).below h) HS0.out ((hx.below hB2).below h) HXS.out
    have HORT := Lib.hid fun (w' : World) (B : Option Addr) (d : Nat) (h : Below w2.heap.size w2 w') (hb : RdII w' B (subL P sq n xs).length (subL P sq n xs)) => orthogonal_any P A n c sq B _ d _ w' HP hn6 hn0 (by omega) ((ha.below hB2).below h) HS0.out hb (subL_tab hp sq n xs)
    have HBLA := Lib.hid fun (w' : World) (B : Option Addr) (d : Nat) (h : Below w2.heap.size w2 w') (hb : RdII w' B (orthL P sq n (subL P sq n xs)).length (orthL P sq n (subL P sq n xs))) => bladeOf_any P A n c sq B _ d _ w' HP hn6 hn0 (by omega) ((ha.below hB2).below h) HS0.out hb (orthL_tab hp sq n _)
    clear hls hlo
    obtain ⟨LB, hLB⟩ : ∃ R, R = blaL P sq n (orthL P sq n (subL P sq n xs)) := ⟨_, rfl⟩
    rw [← hLB] at HOK HBLA
    obtain ⟨LO, hLO⟩ : ∃ R, R = orthL P sq n (subL P sq n xs) := ⟨_, rfl⟩
    rw [← hLO] at HBLA HORT
    obtain ⟨LS, hLS⟩ : ∃ R, R = subL P sq n xs := ⟨_, rfl⟩
    rw [← hLS] at HORT HSUB
    clear hLB hLO hLS
    go_wp2
    refine wp_obs 9 [[], [], [], [], [2, 3], [1, 2, 3, 4], [0, 1, 2, 3, 4, 5], [0, 1, 2, 3, 4, 5, 6], []] [VIs (.agg #[.int .i64 P, .slice A n c]), VIs (.agg #[.int .i64 P, .slice A n c]), VIs (.agg #[.int .i64 P, .slice A n c]), VIs (.slice X (pw n) cx), VMat w2 LS.length LS, VMat w2 LO.length LO, VSl w2 (pw n) LB, VSl w2 (pw n) LB, VIs (.int .i64 0)] (fun w' => Blk w' w.heap.size 28 #[.int .i64 P, .slice A n c] ∧ Below w2.heap.size w2 w') (by kernel_rfl) (by kernel_rfl) (fun _ _ h hb => ⟨h.1.below hb h.1.lt, h.2.trans (hb.mono h.2.size)⟩) (⟨k2.drew, (Below.refl _ _).drew⟩) (fun x => ?_)
    refine obs_step (Eq.trans (by simp only [List.getElem?_toArray, List.getElem?_cons_zero]; exact rfl) rfl) rfl (fun w' hS hV K hK => ?_) ?_
    · obtain ⟨q0, q1⟩ := hS.1.two
      go_simp
      exact hK.out _ _ _ rfl rfl rfl (Below.refl _ _)
    simp only [List.setIfInBounds_toArray, List.set_cons_zero, List.set_cons_succ]
    refine obs_step (Eq.trans (by simp only [List.getElem?_toArray, List.getElem?_cons_succ, List.getElem?_cons_zero]; exact rfl) rfl) rfl (fun w' hS hV K hK => ?_) ?_
    · obtain ⟨q0, q1⟩ := hS.1.two
      go_simp
      exact hK.out _ _ _ rfl rfl rfl (Below.refl _ _)
    simp only [List.setIfInBounds_toArray, List.set_cons_zero, List.set_cons_succ]
    refine obs_step (Eq.trans (by simp only [List.getElem?_toArray, List.getElem?_cons_succ, List.getElem?_cons_zero]; exact rfl) rfl) rfl (fun w' hS hV K hK => ?_) ?_
    · obtain ⟨q0, q1⟩ := hS.1.two
      go_simp
      exact hK.out _ _ _ rfl rfl rfl (Below.refl _ _)
    simp only [List.setIfInBounds_toArray, List.set_cons_zero, List.set_cons_succ]
    refine obs_step (Eq.trans (by simp only [List.getElem?_toArray, List.getElem?_cons_succ, List.getElem?_cons_zero]; exact rfl) rfl) rfl (fun w' hS hV K hK => ?_) ?_
    · obtain ⟨q0, q1⟩ := hS.1.two
      go_simp
      exact hK.out _ _ _ rfl rfl rfl (Below.refl _ _)
    simp only [List.setIfInBounds_toArray, List.set_cons_zero, List.set_cons_succ]
    refine obs_step (Eq.trans (by simp only [List.getElem?_toArray, List.getElem?_cons_succ, List.getElem?_cons_zero]; exact rfl) rfl) rfl (fun w' hS hV K hK => ?_) ?_
    · have e2 : x 2 = (.agg #[.int .i64 P, .slice A n c]) := hV 2 (by decide)
      have e3 : x 3 = (.slice X (pw n) cx) := hV 3 (by decide)
      obtain ⟨q0, q1⟩ := hS.1.two
      go_simp
      refine (HSUB.out _ hS.2).mono ?_
      rintro e v1 ⟨A2, c2, rfl, hM⟩
      exact hK.out _ _ _ rfl rfl ⟨_, _, rfl, hM.after hS.2⟩ hM.b
    simp only [List.setIfInBounds_toArray, List.set_cons_zero, List.set_cons_succ]
    refine obs_step (Eq.trans (by simp only [List.getElem?_toArray, List.getElem?_cons_succ, List.getElem?_cons_zero]; exact rfl) rfl) rfl (fun w' hS hV K hK => ?_) ?_
    · have e1 : x 1 = (.agg #[.int .i64 P, .slice A n c]) := hV 1 (by decide)
      have e2 : x 2 = (.agg #[.int .i64 P, .slice A n c]) := hV 2 (by decide)
      have e3 : x 3 = (.slice X (pw n) cx) := hV 3 (by decide)
      obtain ⟨A4, c4, e4, h4⟩ := hV 4 (by decide)
      obtain ⟨q0, q1⟩ := hS.1.two
      go_simp
      refine (HORT.out _ _ _ hS.2 h4.rd).mono ?_
      rintro e v1 ⟨A2, c2, rfl, hM⟩
      exact hK.out _ _ _ rfl rfl ⟨_, _, rfl, hM.after hS.2⟩ hM.b
    simp only [List.setIfInBounds_toArray, List.set_cons_zero, List.set_cons_succ]
    refine obs_step (Eq.trans (by simp only [List.getElem?_toArray, List.getElem?_cons_succ, List.getElem?_cons_zero]; exact rfl) rfl) rfl (fun w' hS hV K hK => ?_) ?_
    · have e0 : x 0 = (.agg #[.int .i64 P, .slice A n c]) := hV 0 (by decide)
      have e1 : x 1 = (.agg #[.int .i64 P, .slice A n c]) := hV 1 (by decide)
      have e2 : x 2 = (.agg #[.int .i64 P, .slice A n c]) := hV 2 (by decide)
      have e3 : x 3 = (.slice X (pw n) cx) := hV 3 (by decide)
      obtain ⟨A4, c4, e4, h4⟩ := hV 4 (by decide)
      obtain ⟨A5, c5, e5, h5⟩ := hV 5 (by decide)
      obtain ⟨q0, q1⟩ := hS.1.two
      go_simp
      refine (HBLA.out _ _ _ hS.2 h5.rd).mono ?_
      rintro e v1 ⟨A2, c2, rfl, hM⟩
      exact hK.out _ _ _ rfl rfl ⟨_, _, rfl, hM.after hS.2⟩ hM.b
    simp only [List.setIfInBounds_toArray, List.set_cons_zero, List.set_cons_succ]
    refine obs_step (Eq.trans (by simp only [List.getElem?_toArray, List.getElem?_cons_succ, List.getElem?_cons_zero]; exact rfl) rfl) rfl (fun w' hS hV K hK => ?_) ?_
    · have e0 : x 0 = (.agg #[.int .i64 P, .slice A n c]) := hV 0 (by decide)
      have e1 : x 1 = (.agg #[.int .i64 P, .slice A n c]) := hV 1 (by decide)
      have e2 : x 2 = (.agg #[.int .i64 P, .slice A n c]) := hV 2 (by decide)
      have e3 : x 3 = (.slice X (pw n) cx) := hV 3 (by decide)
      obtain ⟨A4, c4, e4, h4⟩ := hV 4 (by decide)
      obtain ⟨A5, c5, e5, h5⟩ := hV 5 (by decide)
      obtain ⟨A6, c6, e6, h6⟩ := hV 6 (by decide)
      obtain ⟨q0, q1⟩ := hS.1.two
      go_simp
      exact hK.out _ _ _ rfl rfl ⟨_, _, rfl, h6⟩ (Below.refl _ _)
    simp only [List.setIfInBounds_toArray, List.set_cons_zero, List.set_cons_succ]
    refine obs_step (Eq.trans (by simp only [List.getElem?_toArray, List.getElem?_cons_succ, List.getElem?_cons_zero]; exact rfl) rfl) rfl (fun w' hS hV K hK => ?_) ?_
    · obtain ⟨q0, q1⟩ := hS.1.two
      go_simp
      exact hK.out _ _ _ rfl rfl rfl (Below.refl _ _)
    simp only [List.setIfInBounds_toArray, List.set_cons_zero, List.set_cons_succ]
    refine fun w' hS hV => ?_
    have e0 : x 0 = (.agg #[.int .i64 P, .slice A n c]) := hV 0 (by decide)
    have e1 : x 1 = (.agg #[.int .i64 P, .slice A n c]) := hV 1 (by decide)
    have e2 : x 2 = (.agg #[.int .i64 P, .slice A n c]) := hV 2 (by decide)
    have e3 : x 3 = (.slice X (pw n) cx) := hV 3 (by decide)
    obtain ⟨A4, c4, e4, h4⟩ := hV 4 (by decide)
    obtain ⟨A5, c5, e5, h5⟩ := hV 5 (by decide)
    obtain ⟨A6, c6, e6, h6⟩ := hV 6 (by decide)
    obtain ⟨A7, c7, e7, h7⟩ := hV 7 (by decide)
    have e8 : x 8 = (.int .i64 0) := hV 8 (by decide)
    simp only [e0, e1, e2, e3, e4, e5, e6, e7, e8]
    clear e0 e1 e2 e3 e4 e5 e6 e7 e8
    refine wpAny_done (by kernel_rfl) ?_ _
    go_wp2
    go_ret2
    exact aRow3 HOK.out (h7.after hB2)
  · obtain ⟨r, hr⟩ : ∃ r, r = codeL P sq [xs] := ⟨_, rfl⟩
    have HR := Lib.hid hr
    have HR0 := Lib.hid hr0
    have b0 : (r != 0) = true := code_ne (by rw [hr]; exact hr0)
    rw [← hr] at hreg
    clear hr hr0
    go_enter Tryz.func42, Tryz.ntmps42
    go_wp2_with fail
    refine hreg.mono ?_
    rintro e w2 ⟨rfl, hb2⟩
    have hB2 := hB1.trans (hb2.mono hB1.size)
    have k2 := k1.below hb2 k1.lt
    obtain ⟨q0, q1⟩ := k2.two
    clear k0 hB0 k1 hB1 hb2
    go_wp2
    go_ret2
    exact noRow3 (by rw [orbR_bad HR0.out, HR.out]) hB2

set_option maxHeartbeats 3200000 in
set_option maxRecDepth 8000 in
theorem specOrthogonalBlade_any (P : Int) (A : Option Addr) (n c : Nat) (sq : List Int) (X : Option Addr) (m cx : Nat) (xs : List Int) (w : World) (hn : n ≤ 1048576) (hm : m ≤ 1048576) (ha : Rd w A n (ints sq)) (hx : Rd w X m (ints xs)) (hcx : m ≤ cx) :
    Calls Tryz.prog 41 #[.agg #[.int .i64 P, .slice A n c], .slice X m cx] w fun e w' => ∃ (A' : Option Addr) (k c' : Nat), e = .returned (.tuple #[.slice A' k c', .int .i64 (orbR P sq xs).2]) ∧ MkI w w' A' k c' (orbR P sq xs).1 := by
  have hB0 : Below w.heap.size w (w.alloc (.cells #[.int .i64 P, .slice A n c] 28)) := (Below.refl _ _).alloc (Nat.le_refl _) _
  have k0 : Blk (w.alloc (.cells #[.int .i64 P, .slice A n c] 28)) w.heap.size 28 #[.int .i64 P, .slice A n c] := Blk.new _ _ _
  have hB1 : Below w.heap.size w ((w.alloc (.cells #[.int .i64 P, .slice A n c] 28)).alloc (.cells #[.slice X m cx] 22)) := hB0.alloc (by simp) _
  have k1 : Blk ((w.alloc (.cells #[.int .i64 P, .slice A n c] 28)).alloc (.cells #[.slice X m cx] 22)) w.heap.size 28 #[.int .i64 P, .slice A n c] := k0.alloc _
  have hreg := l06Code_any P A (some ⟨w.heap.size + 1, 0, none⟩) n c 1 1 sq [xs] ((w.alloc (.cells #[.int .i64 P, .slice A n c] 28)).alloc (.cells #[.slice X m cx] 22)) hn (by omega) (ha.below hB1) (rdII_one' (Blk.newAt3 (by simp)) (hx.below hB1) hcx) (all_one (by rw [hx.lenI]; exact hm))
  by_cases hr0 : codeL P sq [xs] = 0
  · skip
    have hcM := (codeL_zero hr0).1
    rw [hr0] at hreg
    have HR0 := Lib.hid hr0
    clear hr0
    obtain ⟨HP, hp, hp2, hd1, hd2, hs0, hms⟩ := codeM_spec3 hcM
    have hsl := ha.lenI
    obtain ⟨hx1, hxs0⟩ := hms xs (by simp)
    have hmx : m = pw n := by rw [← hx.lenI, hx1, hsl]
    subst hmx
    have HSL := Lib.hid hsl
    have HS0 := Lib.hid hs0
    have HXS := Lib.hid hxs0
    have hn6 : n ≤ 6 := by omega
    have hn0 : 0 < n := by omega
    clear hsl hms hx1 hs0 hxs0 hd1 hd2 hcM
    go_enter Tryz.func41, Tryz.ntmps41
    go_wp2_with fail
    refine hreg.mono ?_
    rintro e w2 ⟨rfl, hb2⟩
    have hB2 := hB1.trans (hb2.mono hB1.size)
    have k2 := k1.below hb2 k1.lt
    obtain ⟨q0, q1⟩ := k2.two
    clear k0 hB0 k1 hB1 hb2
    have HOK : Hid (orbR P sq xs = (blaL P sq n (orthL P sq n (subL P sq n xs)), 0)) := Lib.hid (by rw [orbR_ok HR0.out, HSL.out])
    have hls := subL_len HP sq n xs
    have hlo := orthL_len HP sq n (subL P sq n xs)
    have HSUB := Lib.hid fun (w' : World) (h : Below w2.heap.size w2 w') => l06Subspace_any P A n c sq X cx xs w' HP hn6 hn0 ((ha.below hB2).below h) HS0.out ((hx.below hB2).below h) HXS.out
    have HORT := Lib.hid fun (w' : World) (B : Option Addr) (d : Nat) (h : Below w2.heap.size w2 w') (hb : RdII w' B (subL P sq n xs).length (subL P sq n xs)) => l03Orthogonal_any P A n c sq B _ d _ w' HP hn6 hn0 (by omega) ((ha.below hB2).below h) HS0.out hb (subL_tab hp sq n xs)
    have HBLA := Lib.hid fun (w' : World) (B : Option Addr) (d : Nat) (h : Below w2.heap.size w2 w') (hb : RdII w' B (orthL P sq n (subL P sq n xs)).length (orthL P sq n (subL P sq n xs))) => l06Blade_any P A n c sq B _ d _ w' HP hn6 hn0 (by omega) ((ha.below hB2).below h) HS0.out hb (orthL_tab hp sq n _)
    clear hls hlo
    obtain ⟨LB, hLB⟩ : ∃ R, R = blaL P sq n (orthL P sq n (subL P sq n xs)) := ⟨_, rfl⟩
    rw [← hLB] at HOK HBLA
    obtain ⟨LO, hLO⟩ : ∃ R, R = orthL P sq n (subL P sq n xs) := ⟨_, rfl⟩
    rw [← hLO] at HBLA HORT
    obtain ⟨LS, hLS⟩ : ∃ R, R = subL P sq n xs := ⟨_, rfl⟩
    rw [← hLS] at HORT HSUB
    clear hLB hLO hLS
    go_wp2
    refine wp_obs 9 [[], [], [], [], [2, 3], [1, 2, 3, 4], [0, 1, 2, 3, 4, 5], [0, 1, 2, 3, 4, 5, 6], []] [VIs (.agg #[.int .i64 P, .slice A n c]), VIs (.agg #[.int .i64 P, .slice A n c]), VIs (.agg #[.int .i64 P, .slice A n c]), VIs (.slice X (pw n) cx), VMat w2 LS.length LS, VMat w2 LO.length LO, VSl w2 (pw n) LB, VSl w2 (pw n) LB, VIs (.int .i64 0)] (fun w' => Blk w' w.heap.size 28 #[.int .i64 P, .slice A n c] ∧ Below w2.heap.size w2 w') (by kernel_rfl) (by kernel_rfl) (fun _ _ h hb => ⟨h.1.below hb h.1.lt, h.2.trans (hb.mono h.2.size)⟩) (⟨k2.drew, (Below.refl _ _).drew⟩) (fun x => ?_)
    refine obs_step (Eq.trans (by simp only [List.getElem?_toArray, List.getElem?_cons_zero]; exact rfl) rfl) rfl (fun w' hS hV K hK => ?_) ?_
    · obtain ⟨q0, q1⟩ := hS.1.two
      go_simp
      exact hK.out _ _ _ rfl rfl rfl (Below.refl _ _)
    simp only [List.setIfInBounds_toArray, List.set_cons_zero, List.set_cons_succ]
    refine obs_step (Eq.trans (by simp only [List.getElem?_toArray, List.getElem?_cons_succ, List.getElem?_cons_zero]; exact rfl) rfl) rfl (fun w' hS hV K hK => ?_) ?_
    · obtain ⟨q0, q1⟩ := hS.1.two
      go_simp
      exact hK.out _ _ _ rfl rfl rfl (Below.refl _ _)
    simp only [List.setIfInBounds_toArray, List.set_cons_zero, List.set_cons_succ]
    refine obs_step (Eq.trans (by simp only [List.getElem?_toArray, List.getElem?_cons_succ, List.getElem?_cons_zero]; exact rfl) rfl) rfl (fun w' hS hV K hK => ?_) ?_
    · obtain ⟨q0, q1⟩ := hS.1.two
      go_simp
      exact hK.out _ _ _ rfl rfl rfl (Below.refl _ _)
    simp only [List.setIfInBounds_toArray, List.set_cons_zero, List.set_cons_succ]
    refine obs_step (Eq.trans (by simp only [List.getElem?_toArray, List.getElem?_cons_succ, List.getElem?_cons_zero]; exact rfl) rfl) rfl (fun w' hS hV K hK => ?_) ?_
    · obtain ⟨q0, q1⟩ := hS.1.two
      go_simp
      exact hK.out _ _ _ rfl rfl rfl (Below.refl _ _)
    simp only [List.setIfInBounds_toArray, List.set_cons_zero, List.set_cons_succ]
    refine obs_step (Eq.trans (by simp only [List.getElem?_toArray, List.getElem?_cons_succ, List.getElem?_cons_zero]; exact rfl) rfl) rfl (fun w' hS hV K hK => ?_) ?_
    · have e2 : x 2 = (.agg #[.int .i64 P, .slice A n c]) := hV 2 (by decide)
      have e3 : x 3 = (.slice X (pw n) cx) := hV 3 (by decide)
      obtain ⟨q0, q1⟩ := hS.1.two
      go_simp
      refine (HSUB.out _ hS.2).mono ?_
      rintro e v1 ⟨A2, c2, rfl, hM⟩
      exact hK.out _ _ _ rfl rfl ⟨_, _, rfl, hM.after hS.2⟩ hM.b
    simp only [List.setIfInBounds_toArray, List.set_cons_zero, List.set_cons_succ]
    refine obs_step (Eq.trans (by simp only [List.getElem?_toArray, List.getElem?_cons_succ, List.getElem?_cons_zero]; exact rfl) rfl) rfl (fun w' hS hV K hK => ?_) ?_
    · have e1 : x 1 = (.agg #[.int .i64 P, .slice A n c]) := hV 1 (by decide)
      have e2 : x 2 = (.agg #[.int .i64 P, .slice A n c]) := hV 2 (by decide)
      have e3 : x 3 = (.slice X (pw n) cx) := hV 3 (by decide)
      obtain ⟨A4, c4, e4, h4⟩ := hV 4 (by decide)
      obtain ⟨q0, q1⟩ := hS.1.two
      go_simp
      refine (HORT.out _ _ _ hS.2 h4.rd).mono ?_
      rintro e v1 ⟨A2, c2, rfl, hM⟩
      exact hK.out _ _ _ rfl rfl ⟨_, _, rfl, hM.after hS.2⟩ hM.b
    simp only [List.setIfInBounds_toArray, List.set_cons_zero, List.set_cons_succ]
    refine obs_step (Eq.trans (by simp only [List.getElem?_toArray, List.getElem?_cons_succ, List.getElem?_cons_zero]; exact rfl) rfl) rfl (fun w' hS hV K hK => ?_) ?_
    · have e0 : x 0 = (.agg #[.int .i64 P, .slice A n c]) := hV 0 (by decide)
      have e1 : x 1 = (.agg #[.int .i64 P, .slice A n c]) := hV 1 (by decide)
      have e2 : x 2 = (.agg #[.int .i64 P, .slice A n c]) := hV 2 (by decide)
      have e3 : x 3 = (.slice X (pw n) cx) := hV 3 (by decide)
      obtain ⟨A4, c4, e4, h4⟩ := hV 4 (by decide)
      obtain ⟨A5, c5, e5, h5⟩ := hV 5 (by decide)
      obtain ⟨q0, q1⟩ := hS.1.two
      go_simp
      refine (HBLA.out _ _ _ hS.2 h5.rd).mono ?_
      rintro e v1 ⟨A2, c2, rfl, hM⟩
      exact hK.out _ _ _ rfl rfl ⟨_, _, rfl, hM.after hS.2⟩ hM.b
    simp only [List.setIfInBounds_toArray, List.set_cons_zero, List.set_cons_succ]
    refine obs_step (Eq.trans (by simp only [List.getElem?_toArray, List.getElem?_cons_succ, List.getElem?_cons_zero]; exact rfl) rfl) rfl (fun w' hS hV K hK => ?_) ?_
    · have e0 : x 0 = (.agg #[.int .i64 P, .slice A n c]) := hV 0 (by decide)
      have e1 : x 1 = (.agg #[.int .i64 P, .slice A n c]) := hV 1 (by decide)
      have e2 : x 2 = (.agg #[.int .i64 P, .slice A n c]) := hV 2 (by decide)
      have e3 : x 3 = (.slice X (pw n) cx) := hV 3 (by decide)
      obtain ⟨A4, c4, e4, h4⟩ := hV 4 (by decide)
      obtain ⟨A5, c5, e5, h5⟩ := hV 5 (by decide)
      obtain ⟨A6, c6, e6, h6⟩ := hV 6 (by decide)
      obtain ⟨q0, q1⟩ := hS.1.two
      go_simp
      exact hK.out _ _ _ rfl rfl ⟨_, _, rfl, h6⟩ (Below.refl _ _)
    simp only [List.setIfInBounds_toArray, List.set_cons_zero, List.set_cons_succ]
    refine obs_step (Eq.trans (by simp only [List.getElem?_toArray, List.getElem?_cons_succ, List.getElem?_cons_zero]; exact rfl) rfl) rfl (fun w' hS hV K hK => ?_) ?_
    · obtain ⟨q0, q1⟩ := hS.1.two
      go_simp
      exact hK.out _ _ _ rfl rfl rfl (Below.refl _ _)
    simp only [List.setIfInBounds_toArray, List.set_cons_zero, List.set_cons_succ]
    refine fun w' hS hV => ?_
    have e0 : x 0 = (.agg #[.int .i64 P, .slice A n c]) := hV 0 (by decide)
    have e1 : x 1 = (.agg #[.int .i64 P, .slice A n c]) := hV 1 (by decide)
    have e2 : x 2 = (.agg #[.int .i64 P, .slice A n c]) := hV 2 (by decide)
    have e3 : x 3 = (.slice X (pw n) cx) := hV 3 (by decide)
    obtain ⟨A4, c4, e4, h4⟩ := hV 4 (by decide)
    obtain ⟨A5, c5, e5, h5⟩ := hV 5 (by decide)
    obtain ⟨A6, c6, e6, h6⟩ := hV 6 (by decide)
    obtain ⟨A7, c7, e7, h7⟩ := hV 7 (by decide)
    have e8 : x 8 = (.int .i64 0) := hV 8 (by decide)
    simp only [e0, e1, e2, e3, e4, e5, e6, e7, e8]
    clear e0 e1 e2 e3 e4 e5 e6 e7 e8
    refine wpAny_done (by kernel_rfl) ?_ _
    go_wp2
    go_ret2
    exact aRow3 HOK.out (h7.after hB2)
  · obtain ⟨r, hr⟩ : ∃ r, r = codeL P sq [xs] := ⟨_, rfl⟩
    have HR := Lib.hid hr
    have HR0 := Lib.hid hr0
    have b0 : (r != 0) = true := code_ne (by rw [hr]; exact hr0)
    rw [← hr] at hreg
    clear hr hr0
    go_enter Tryz.func41, Tryz.ntmps41
    go_wp2_with fail
    refine hreg.mono ?_
    rintro e w2 ⟨rfl, hb2⟩
    have hB2 := hB1.trans (hb2.mono hB1.size)
    have k2 := k1.below hb2 k1.lt
    obtain ⟨q0, q1⟩ := k2.two
    clear k0 hB0 k1 hB1 hb2
    go_wp2
    go_ret2
    exact noRow3 (by rw [orbR_bad HR0.out, HR.out]) hB2

end Go.Proofs.YtommppijnccomaaGreat

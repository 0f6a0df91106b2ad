/-
  LawFnLeftIdeals: part 3 of the texts that the proof needs. No condition.
-/
import Derived.Test.YtmkjdpnoloofjaaGreatV2
namespace Go.Proofs.YtmkjdpnoloofjaaGreat
open Go.RowKit
theorem ent_at' {M : List (List Int)} {i k : Nat} (hi : i < M.length) (hk : k < M[i].length) : ent M i k = M[i][k] := by
 unfold ent
 rw [getD_of_lt [] hi, getD_of_lt 0 hk]
theorem i64_small {x : Int} (h1 : -1000000 ≤ x) (h2 : x ≤ 1000000) : IntKind.i64.wrap x = x := i64_fit x (by omega) (by omega)
theorem clearTo_same {p : Int} {m : List (List Int)} {d k j : Nat} (hj : j < m.length) (h0 : ent m j k = 0) (hN : NumsL p (m.getD j [])) : clearTo p m d k (j + 1) = clearTo p m d k j := by
 refine tab_congr fun r _ => ?_
 by_cases hr : r = j
 · subst hr
   by_cases hd : r = d
   · rw [if_neg (fun h => h.2 hd), if_neg (fun h => h.2 hd)]
   · rw [if_pos ⟨by omega, hd⟩, if_neg (by omega), h0]
     exact plusL_zero _ _ hN
 · by_cases hd : r = d
   · rw [if_neg (fun h => h.2 hd), if_neg (fun h => h.2 hd)]
   · by_cases hl : r < j
     · rw [if_pos ⟨by omega, hd⟩, if_pos ⟨hl, hd⟩]
     · rw [if_neg (by omega), if_neg (by omega)]
theorem keepR3 {B : Nat} {W0 w1 w2 : World} {p q r : Addr} {u v x : Value} (h : w1.cell? p = some u ∧ w1.cell? q = some v ∧ w1.cell? r = some x ∧ Below B W0 w1) (hb : Below w1.heap.size w1 w2) (hB : B ≤ W0.heap.size) :
    w2.cell? p = some u ∧ w2.cell? q = some v ∧ w2.cell? r = some x ∧ Below B W0 w2 :=
 ⟨(hb.cell (World.block_lt_of_cell? _ _ h.1)).trans h.1, (hb.cell (World.block_lt_of_cell? _ _ h.2.1)).trans h.2.1, (hb.cell (World.block_lt_of_cell? _ _ h.2.2.1)).trans h.2.2.1, h.2.2.2.trans (hb.mono (Nat.le_trans hB h.2.2.2.size))⟩
set_option maxRecDepth 8000 in
set_option maxHeartbeats 400000 in
set_option maxRecDepth 8000 in
theorem l01Own_any (A : Option Addr) (n c : Nat) (xs : List Int) (w : World) (hn : n ≤ 65536) (ha : Rd w A n (ints xs)) :
    Calls Tryz.prog 81 #[.slice A n c] w fun e w' => ∃ A' c', e = .returned (.slice A' n c') ∧ MkI w w' A' n c' xs := by
 have hxl : xs.length = n := by have := ha.1; rwa [ints_length] at this
 have hM0 := Mk.lit (E := 2) (Below.refl w.heap.size w) #[] (by simp)
 obtain ⟨i, hi, h1, h2, h3⟩ := info_parts info_i
 obtain ⟨b1, b2⟩ := bound_of (Nat.le_trans hn (by decide))
 clear b1
 have HB := Lib.hid b2
 clear b2
 obtain ⟨p, hnews⟩ : ∃ p : Addr, (∀ (j : Nat) (u : Value), (ints xs)[j]? = some u → (w.alloc (.cells #[] 2)).cell? (p.add j) = some u) ∧ (A = some p ∨ (A = none ∧ n = 0)) := by
  cases A with
  | none =>
   have h0 : n = 0 := by
    rcases Nat.eq_zero_or_pos n with h | h
    · exact h
    · obtain ⟨g, o, e, _⟩ := ha.2 h; cases e
   exact ⟨⟨0, 0, none⟩, fun j u hu => by have := (List.getElem?_eq_some_iff.1 hu).1; rw [ints_length] at this; omega, .inr ⟨rfl, h0⟩⟩
  | some p =>
   refine ⟨p, fun j u hu => ?_, .inl rfl⟩
   have hj : j < n := by have := (List.getElem?_eq_some_iff.1 hu).1; rw [ints_length] at this; omega
   obtain ⟨g, o, e, hc⟩ := (ha.below ((Below.refl _ w).alloc (Nat.le_refl _) (.cells #[] 2))).2 (by omega)
   injection e with e; subst e
   rw [Addr.add_lit]
   exact hc j u hu
 have Hx := Lib.hid hxl
 have HI := Lib.hid hi
 have H1 := Lib.hid h1
 have H2 := Lib.hid h2
 have H3 := Lib.hid h3
 have HN := Lib.hid hnews.1
 have hA := hnews.2
 clear hnews hi h1 h2 h3 hxl
 rcases hA with rfl | ⟨rfl, rfl⟩
 · go_enter Tryz.func81, Tryz.ntmps81
   go_wp2_with (at_builtin; refine wpList_append_own_at (w.alloc (.cells #[] 2)) rfl _ _ 24 rfl w.heap.size 2 i _ 1 8 Tryz.underlying24 HI.out H1.out H2.out H3.out rfl (by omega) (.slice (some ⟨w.heap.size, 0, none⟩) 0 0) 0 [] rfl hM0.2 p n c (ints xs) rfl (by rw [ints_length, Hx.out, Nat.mul_one]) HN.out (by intro u hu; obtain ⟨y, _, rfl⟩ := List.mem_map.1 hu; rfl) (by simp only [maxLen]; omega) (by have := HB.out 8 (by omega); omega) (by simp) ?_; intro v' w' hown hg _ _)
   have hb' : Below w.heap.size w w' := hM0.1.grown hg (by simp) (fun k hk => (hM0.2.lt k hk).1)
   rw [Nat.zero_add, List.nil_append] at hown
   rcases hown.2 with ⟨rfl, h0⟩ | ⟨g, cap, cur, rfl, hr⟩
   · subst h0
     go_ret
     exact ⟨none, 0, rfl, hb', hown⟩
   · go_ret
     exact ⟨_, _, rfl, hb', hown⟩
 · have hxs : xs = [] := List.eq_nil_of_length_eq_zero Hx.out
   subst hxs
   go_enter Tryz.func81, Tryz.ntmps81
   go_wp2
   go_ret
   exact ⟨_, _, rfl, hM0⟩
set_option maxHeartbeats 1600000 in
set_option maxRecDepth 8000 in
theorem cloneRows_any (p : Int) (A : Option Addr) (n c : Nat) (M : List (List Int)) (m : Nat) (w : World) (hn : n ≤ 65536) (hm : m ≤ 65536) (ha : RdII w A n M) (hT : Tab p m M) :
    Calls Tryz.prog 93 #[.slice A n c] w fun e w' => ∃ A' c', e = .returned (.slice A' n c') ∧ MkII w w' A' n c' M := by
 have hML := ha.len
 have HT := Lib.hid hT
 have HML := Lib.hid hML
 have hM0 : MkII w (w.alloc (.cells #[] 24)) (some ⟨w.heap.size, 0, none⟩) 0 0 [] := MkII.empty zG
 clear hT hML
 go_enter Tryz.func93, Tryz.ntmps93
 go_wp2
 obtain ⟨w1, hw1⟩ : ∃ W, W = w.alloc (.cells #[] 24) := ⟨_, rfl⟩
 rw [← hw1] at hM0 ⊢
 clear hw1
 go_loopw [3, 5, 9] (fun out _ i wr => ∃ (k : Nat) (A' : Option Addr) (c' : Nat), k ≤ n ∧ i = .int .i64 k ∧ out = .slice A' k c' ∧ MkII w wr A' k c' (M.take k)) (fun _ _ i _ => n - (intOf i).toNat)
 case atStart => exact ⟨0, _, _, by omega, rfl, rfl, by simpa using hM0⟩
 case round =>
  obtain ⟨k, A', c', hk, rfl, rfl, hM⟩ := hrel
  clear hM0
  by_cases hlt : k < n
  · obtain ⟨g, o, rfl, hxk, A1, c1, hcx, hr1, _⟩ := (ha.below hM.b).at_ hlt
    have hl1 : M[k].length = m := (HT.out M[k] (List.getElem_mem hxk)).1
    rw [hl1] at hcx hr1
    have hcall := clone_any A1 m c1 M[k] wr hm hr1
    have HV : Hid (M.take (k + 1) = M.take k ++ [M[k]]) := Lib.hid (List.take_succ_eq_append_getElem hxk)
    have HM := Lib.hid hM
    clear hM hr1 hl1 ha
    go_wp2_with fail
    refine hcall.mono ?_
    rintro e w5 ⟨A5, c5, rfl, hM5⟩
    clear hcall
    go_wp2_with (at_builtin; refine wpList_appRow w wr _ rfl _ _ rfl A' k c' _ A5 m c5 _ HM.out hM5 (by omega) rfl ?_ ?_; (go_simp); intro A6 c6 w6 hM6)
    go_roundw
    case rel => exact ⟨k + 1, A6, c6, by omega, by go_num, rfl, by rw [HV.out]; exact hM6⟩
    case measure => simp [intOf]; omega
  · obtain rfl : k = n := by omega
    go_wp2
    go_ret
    rw [List.take_of_length_le (by rw [HML.out]; exact Nat.le_refl _)] at hM
    exact ⟨_, _, rfl, hM⟩
set_option maxHeartbeats 1600000 in
set_option maxRecDepth 8000 in
theorem l01Own2_any (p : Int) (A : Option Addr) (n c : Nat) (M : List (List Int)) (m : Nat) (w : World) (hn : n ≤ 65536) (hm : m ≤ 65536) (ha : RdII w A n M) (hT : Tab p m M) :
    Calls Tryz.prog 155 #[.slice A n c] w fun e w' => ∃ A' c', e = .returned (.slice A' n c') ∧ MkII w w' A' n c' M := by
 have hML := ha.len
 have HT := Lib.hid hT
 have HML := Lib.hid hML
 have hM0 : MkII w (w.alloc (.cells #[] 24)) (some ⟨w.heap.size, 0, none⟩) 0 0 [] := MkII.empty zG
 clear hT hML
 go_enter Tryz.func155, Tryz.ntmps155
 go_wp2
 obtain ⟨w1, hw1⟩ : ∃ W, W = w.alloc (.cells #[] 24) := ⟨_, rfl⟩
 rw [← hw1] at hM0 ⊢
 clear hw1
 go_loopw [3, 4] (fun out i wr => ∃ (k : Nat) (A' : Option Addr) (c' : Nat), k ≤ n ∧ i = .int .i64 k ∧ out = .slice A' k c' ∧ MkII w wr A' k c' (M.take k)) (fun _ i _ => n - (intOf i).toNat)
 case atStart => exact ⟨0, _, _, by omega, rfl, rfl, by simpa using hM0⟩
 case round =>
  obtain ⟨k, A', c', hk, rfl, rfl, hM⟩ := hrel
  clear hM0
  by_cases hlt : k < n
  · obtain ⟨g, o, rfl, hxk, A1, c1, hcx, hr1, _⟩ := (ha.below hM.b).at_ hlt
    have hl1 : M[k].length = m := (HT.out M[k] (List.getElem_mem hxk)).1
    rw [hl1] at hcx hr1
    have hcall := l01Own_any A1 m c1 M[k] wr hm hr1
    have HV : Hid (M.take (k + 1) = M.take k ++ [M[k]]) := Lib.hid (List.take_succ_eq_append_getElem hxk)
    have HM := Lib.hid hM
    clear hM hr1 hl1 ha
    go_wp2_with fail
    refine hcall.mono ?_
    rintro e w5 ⟨A5, c5, rfl, hM5⟩
    clear hcall
    go_wp2_with (at_builtin; refine wpList_appRow w wr _ rfl _ _ rfl A' k c' _ A5 m c5 _ HM.out hM5 (by omega) rfl ?_ ?_; (go_simp); intro A6 c6 w6 hM6)
    go_roundw
    case rel => exact ⟨k + 1, A6, c6, by omega, by go_num, rfl, by rw [HV.out]; exact hM6⟩
    case measure => simp [intOf]; omega
  · obtain rfl : k = n := by omega
    go_wp2
    go_ret
    rw [List.take_of_length_le (by rw [HML.out]; exact Nat.le_refl _)] at hM
    exact ⟨_, _, rfl, hM⟩
set_option maxHeartbeats 6400000 in
set_option maxRecDepth 8000 in
theorem basis_any (p : Int) (A : Option Addr) (n c : Nat) (M : List (List Int)) (m : Nat) (w : World) (HP : isP p = true) (hn : n ≤ 65536) (hm : m ≤ 65536) (ha : RdII w A n M) (hT : Tab p m M) :
    Calls Tryz.prog 153 #[.int .i64 p, .slice A n c] w fun e w' => ∃ A' c', e = .returned (.slice A' (basisL p M).length c') ∧ MkII w w' A' (basisL p M).length c' (basisL p M) := by
 have hML := ha.len
 obtain ⟨hp3, hp2⟩ := isP_ge HP
 have hp : 2 ≤ p := by omega
 have hclone := cloneRows_any p A n c M m w hn hm ha hT
 have HT := Lib.hid hT
 have HP' := Lib.hid HP
 by_cases h0 : 0 < n
 · have HBL : Hid (basisL p M = (basisTo p M m).1.take (basisTo p M m).2) := Lib.hid (by unfold basisL; rw [row0_len hT (by omega)])
   have HINV : Hid (∀ k, Tab p m (basisTo p M k).1 ∧ (basisTo p M k).1.length = n ∧ (basisTo p M k).2 ≤ n) := Lib.hid (fun k => by
    have := basisTo_inv (p := p) (by omega) M hT k
    rw [hML] at this
    exact this)
   clear hT HP hML ha
   go_enter Tryz.func153, Tryz.ntmps153
   go_wp2_with fail
   refine hclone.mono ?_
   rintro e w1 ⟨A1, c1, rfl, hM1⟩
   clear hclone
   obtain ⟨g, rfl, -⟩ := hM1.at_ h0
   go_wp2
   go_loopw [6, 7] (fun d q wr => ∃ dn kn : Nat, d = .int .i64 dn ∧ q = .int .i64 kn ∧ kn ≤ m ∧ dn = (basisTo p M kn).2 ∧ MkII w wr (some ⟨g, 0, none⟩) n c1 (basisTo p M kn).1) (fun _ q _ => m - (intOf q).toNat)
   case atStart => exact ⟨0, 0, rfl, rfl, by omega, rfl, hM1⟩
   case round =>
    obtain ⟨dn, kn, rfl, rfl, hkm, hdn, hM⟩ := hrel
    clear hM1
    obtain ⟨hT1, hl1, hd1⟩ := HINV.out kn
    rw [← hdn] at hd1
    have HSUC : Hid (basisTo p M (kn + 1) = stepB p kn ((basisTo p M kn).1, dn)) := Lib.hid (by rw [hdn]; rfl)
    have HFULL : Hid (dn = n → basisL p M = (basisTo p M kn).1.take dn) := Lib.hid (fun h => by
     rw [HBL.out, basisTo_full p M kn m hkm (by rw [← hdn, hl1]; exact h), ← hdn])
    have HEND : Hid (kn = m → basisL p M = (basisTo p M kn).1.take dn) := Lib.hid (fun h => by rw [HBL.out, ← h, ← hdn])
    obtain ⟨L, hL⟩ : ∃ L, L = (basisTo p M kn).1 := ⟨_, rfl⟩
    rw [← hL] at hM hT1 hl1 HSUC HFULL HEND
    clear hL hdn
    have HT1 := Lib.hid hT1
    have HL1 := Lib.hid hl1
    have HM := Lib.hid hM
    have hcap : n ≤ c1 := by obtain ⟨rows, hm', _⟩ := hM; exact hm'.2.cap
    obtain ⟨g0, e0, hx0, A0, c0, hc0, -⟩ := hM.at_ h0
    injection e0 with e0; injection e0 with e0 _ _; subst e0
    have hl0 : L[0].length = m := (HT1.out L[0] (List.getElem_mem hx0)).1
    rw [hl0] at hc0
    clear hl0 hT1 hl1 hM
    by_cases hgo : kn < m ∧ dn < n
    · obtain ⟨hlk, hld⟩ := hgo
      go_wp2
      go_loop [8] (fun i => ∃ j : Nat, dn ≤ j ∧ j ≤ n ∧ i = .int .i64 j ∧ Hid (piv L kn (n - j) j = pivOf L kn dn)) (fun i => n - (intOf i).toNat)
      case atStart => exact ⟨dn, by omega, by omega, rfl, Lib.hid (by unfold pivOf; rw [HL1.out])⟩
      case round =>
       obtain ⟨j, hj1, hj2, rfl, hj3⟩ := hrel
       by_cases hlj : j < n
       · have hld : dn < n := by omega
         obtain ⟨g0, e0, hxj, Aj, cj, hcj, hrj⟩ := HM.out.at_ hlj
         injection e0 with e0; injection e0 with e0 _ _; subst e0
         have HRJ := Lib.hid (HT1.out L[j] (List.getElem_mem hxj))
         have hlj2 : L[j].length = m := HRJ.out.1
         rw [hlj2] at hcj hrj
         obtain ⟨gj, oj, rfl, hxe, hce⟩ := hrj.rd.int hlk
         have HE : Hid (ent L j kn = L[j][kn]) := Lib.hid (ent_at' hxj hxe)
         have HPV : Hid (piv L kn (n - j) j = if ent L j kn = 0 then piv L kn (n - (j + 1)) (j + 1) else j) := Lib.hid (by
          rw [show n - j = (n - (j + 1)) + 1 by omega]; rfl)
         have HROW : Hid ((swapL L dn j)[dn]? = some L[j]) := Lib.hid (by
          rw [swapL_get? L (by rw [HL1.out]; exact hld) hxj]
          by_cases hdj : dn = j
          · subst hdj; rw [if_pos rfl]; exact List.getElem?_eq_getElem hxj
          · rw [if_neg hdj, if_pos rfl]; exact List.getElem?_eq_getElem hxj)
         have HGD : Hid (L.getD j [] = L[j]) := Lib.hid (getD_of_lt [] hxj)
         obtain ⟨R, hR⟩ : ∃ R, R = L[j] := ⟨_, rfl⟩
         have HXE : Hid (∀ h : kn < R.length, R[kn] = L[j][kn]) := Lib.hid (fun h => by simp only [hR])
         rw [← hR] at hrj HRJ HROW HGD
         clear hlj2
         obtain ⟨xe, hxe'⟩ : ∃ x, x = L[j][kn] := ⟨_, rfl⟩
         rw [← hxe'] at hce HE HXE
         have HX : Hid (0 ≤ xe ∧ xe < p) := Lib.hid (hxe' ▸ ((HT1.out L[j] (List.getElem_mem hxj)).2 _ (List.getElem_mem hxe)))
         clear hxe' hxe hR hxj
         cases hz : (xe == 0)
         · have hne : xe ≠ 0 := by simpa using hz
           have HVP : Hid (pivOf L kn dn = j) := Lib.hid (by rw [← hj3.out, HPV.out, if_neg (by rw [HE.out]; exact hne)])
           obtain ⟨g0, e0, hxd, Ad, cd, hcd, hrd⟩ := HM.out.at_ hld
           injection e0 with e0; injection e0 with e0 _ _; subst e0
           have hld2 : L[dn].length = m := (HT1.out L[dn] (List.getElem_mem hxd)).1
           rw [hld2] at hcd hrd
           have fd := HM.out.frozen_ dn
           have fj := HM.out.frozen_ j
           have HSC : Hid (scaledAt p L kn dn = (swapL L dn j).set dn (scaleL p R (invF p xe))) := Lib.hid (by unfold scaledAt; rw [HVP.out, HGD.out, HE.out])
           have HTS : Hid (Tab p m (scaledAt p L kn dn) ∧ (scaledAt p L kn dn).length = n) := Lib.hid ⟨scaledAt_tab (by omega) HT1.out (by rw [HL1.out]; exact hld) (by rw [HVP.out, HL1.out]; exact hlj), by rw [scaledAt_len, HL1.out]⟩
           have HNEXT : Hid (basisTo p M (kn + 1) = (clearTo p (scaledAt p L kn dn) dn kn n, dn + 1)) := Lib.hid (by
            rw [HSUC.out]; unfold stepB; rw [if_neg (by simp only; rw [HVP.out, HL1.out]; omega)]; simp only [HL1.out])
           have HSCD : Hid ((scaledAt p L kn dn).getD dn [] = scaleL p R (invF p xe)) := Lib.hid (by
            rw [HSC.out, getD_set, if_pos ⟨rfl, by rw [swapL_len, HL1.out]; exact hld⟩])
           have HSW := Lib.hid (HM.out.swap hld hlj hcd hcj)
           obtain ⟨uj, hcs⟩ := HM.out.cellSet dn (A1 := some ⟨gj, oj, none⟩) (m := m) (c1 := cj) hlj
           clear hrj hrd hld2 hxd
           go_wp2
           go_region
           obtain ⟨w2, hw2⟩ : ∃ W, W = ((wr.setCell ⟨g, dn, none⟩ (.slice (some ⟨gj, oj, none⟩) m cj)).setCell ⟨g, j, none⟩ (.slice Ad m cd)).drew := ⟨_, rfl⟩
           have hM2 : MkII w w2 (some ⟨g, 0, none⟩) n c1 (swapL L dn j) := by rw [hw2]; exact HSW.out.below (zG.drew)
           rw [← hw2]
           clear hw2 HSW hcs fd fj hcd hcj hce hc0
           obtain ⟨g0, e0, hxs, As, cs, hcs2, hrs⟩ := hM2.at_ hld
           injection e0 with e0; injection e0 with e0 _ _; subst e0
           have hrow : (swapL L dn j)[dn] = R := by have := HROW.out; rw [List.getElem?_eq_getElem hxs] at this; exact Option.some.inj this
           rw [hrow] at hcs2 hrs
           have hRl := HRJ.out.1
           rw [hRl] at hcs2 hrs
           obtain ⟨gs, os, rfl, hxe2, hce2⟩ := hrs.rd.int hlk
           rw [HXE.out hxe2] at hce2
           have HM2 := Lib.hid hM2
           have HRS := Lib.hid hrs
           clear hM2 hrs hrow hxe2 hxs hRl
           have hiv := invF_small hp xe
           have hx1 := HX.out
           have fd := HM2.out.frozen_ dn
           go_wp2
           refine wp_obs 18 [[],[],[],[],[],[3,4],[3,4,5],[],[],[],[8,9],[8,9,10],[],[8,9,10,11,12],[8,9,10,11,12,13],[7,8,9,10,11,12,13,14],[2,3,4,5,6,7,8,9,10,11,12,13,14,15],[0,1],[0,1,2,3,4,5,6,7,8,9,10,11,12,13,14,15,16,17]] [VIs (.slice (some ⟨g, 0, none⟩) n c1), VIs (.int .i64 (dn)), VIs (.int .i64 (p)), VIs (.slice (some ⟨g, 0, none⟩) n c1), VIs (.int .i64 (dn)), VIs (.pointer (some ⟨g, dn, none⟩)), VIs (.slice (some ⟨gs, os, none⟩) m cs), VIs (.int .i64 (p)), VIs (.slice (some ⟨g, 0, none⟩) n c1), VIs (.int .i64 (dn)), VIs (.pointer (some ⟨g, dn, none⟩)), VIs (.slice (some ⟨gs, os, none⟩) m cs), VIs (.int .i64 (kn)), VIs (.pointer (some ⟨gs, os + kn, none⟩)), VIs (.int .i64 (xe)), VIs (.int .i64 (invF p xe)), VSl w2 m (scaleL p R (invF p xe)), VIs (.pointer (some ⟨g, dn, none⟩))] (fun w' => w'.cell? ⟨g, dn, none⟩ = some (.slice (some ⟨gs, os, none⟩) m cs) ∧ w'.cell? ⟨gs, os + kn, none⟩ = some (.int .i64 xe) ∧ Below w2.heap.size w2 w') (by kernel_rfl) (by kernel_rfl) (fun _ _ h hb => keepB2 h hb (Nat.le_refl _)) (⟨hcs2, hce2, zG.drew⟩) (fun x => ?_)
           refine zS (fun w' hS hV K hK => ?_) ?_
           · have q0 := hS.1; have q1 := hS.2.1; have q2 := hS.2.2; go_simp; exact zO hK
           refine zS (fun w' hS hV K hK => ?_) ?_
           · have q0 := hS.1; have q1 := hS.2.1; have q2 := hS.2.2; go_simp; exact zO hK
           refine zS (fun w' hS hV K hK => ?_) ?_
           · have q0 := hS.1; have q1 := hS.2.1; have q2 := hS.2.2; go_simp; exact zO hK
           refine zS (fun w' hS hV K hK => ?_) ?_
           · have q0 := hS.1; have q1 := hS.2.1; have q2 := hS.2.2; go_simp; exact zO hK
           refine zS (fun w' hS hV K hK => ?_) ?_
           · have q0 := hS.1; have q1 := hS.2.1; have q2 := hS.2.2; go_simp; exact zO hK
           refine zS (fun w' hS hV K hK => ?_) ?_
           · have e3 := zQ hV 3; have e4 := zQ hV 4; have q0 := hS.1; have q1 := hS.2.1; have q2 := hS.2.2; go_simp; exact zO hK
           refine zS (fun w' hS hV K hK => ?_) ?_
           · have e5 := zQ hV 5; have q0 := hS.1; have q1 := hS.2.1; have q2 := hS.2.2; go_simp; exact zO hK
           refine zS (fun w' hS hV K hK => ?_) ?_
           · have q0 := hS.1; have q1 := hS.2.1; have q2 := hS.2.2; go_simp; exact zO hK
           refine zS (fun w' hS hV K hK => ?_) ?_
           · have q0 := hS.1; have q1 := hS.2.1; have q2 := hS.2.2; go_simp; exact zO hK
           refine zS (fun w' hS hV K hK => ?_) ?_
           · have q0 := hS.1; have q1 := hS.2.1; have q2 := hS.2.2; go_simp; exact zO hK
           refine zS (fun w' hS hV K hK => ?_) ?_
           · have e8 := zQ hV 8; have e9 := zQ hV 9; have q0 := hS.1; have q1 := hS.2.1; have q2 := hS.2.2; go_simp; exact zO hK
           refine zS (fun w' hS hV K hK => ?_) ?_
           · have e10 := zQ hV 10; have q0 := hS.1; have q1 := hS.2.1; have q2 := hS.2.2; go_simp; exact zO hK
           refine zS (fun w' hS hV K hK => ?_) ?_
           · have q0 := hS.1; have q1 := hS.2.1; have q2 := hS.2.2; go_simp; exact zO hK
           refine zS (fun w' hS hV K hK => ?_) ?_
           · have e11 := zQ hV 11; have e12 := zQ hV 12; have q0 := hS.1; have q1 := hS.2.1; have q2 := hS.2.2; go_simp; exact zO hK
           refine zS (fun w' hS hV K hK => ?_) ?_
           · have e13 := zQ hV 13; have q0 := hS.1; have q1 := hS.2.1; have q2 := hS.2.2; go_simp; exact zO hK
           refine zS (fun w' hS hV K hK => ?_) ?_
           · have e7 := zQ hV 7; have e14 := zQ hV 14; have q0 := hS.1; have q1 := hS.2.1; have q2 := hS.2.2; go_simp; refine (inv_any p xe _ hp hp2 hx1.1 hx1.2).mono ?_; rintro e v1 ⟨rfl, rfl⟩; exact zO hK
           refine zS (fun w' hS hV K hK => ?_) ?_
           · have e2 := zQ hV 2; have e6 := zQ hV 6; have e15 := zQ hV 15; have q0 := hS.1; have q1 := hS.2.1; have q2 := hS.2.2; go_simp; refine (scaled_any p _ m _ (invF p xe) R _ hp hp2 hm (HRS.out.rd.below hS.2.2) HRJ.out.2 (by omega) (by omega)).mono ?_; rintro e v1 ⟨A2, c2, rfl, hM⟩; exact hK.out _ _ _ rfl rfl ⟨_, _, rfl, hM.after hS.2.2⟩ hM.b
           refine zS (fun w' hS hV K hK => ?_) ?_
           · have e0 := zQ hV 0; have e1 := zQ hV 1; have q0 := hS.1; have q1 := hS.2.1; have q2 := hS.2.2; go_simp; exact zO hK
           refine fun w' hS hV => ?_
           have e0 := zT hV 0
           have e1 := zT hV 1
           have e2 := zT hV 2
           have e3 := zT hV 3
           have e4 := zT hV 4
           have e5 := zT hV 5
           have e6 := zT hV 6
           have e7 := zT hV 7
           have e8 := zT hV 8
           have e9 := zT hV 9
           have e10 := zT hV 10
           have e11 := zT hV 11
           have e12 := zT hV 12
           have e13 := zT hV 13
           have e14 := zT hV 14
           have e15 := zT hV 15
           obtain ⟨A16, c16, e16, h16⟩ := hV 16 (by decide)
           have e17 := zT hV 17
           simp only [e0, e1, e2, e3, e4, e5, e6, e7, e8, e9, e10, e11, e12, e13, e14, e15, e16, e17]
           clear e0 e1 e2 e3 e4 e5 e6 e7 e8 e9 e10 e11 e12 e13 e14 e15 e16 e17
           obtain ⟨q0, q1, q2⟩ := hS
           have ff := (HM2.out.below q2).frozen_ dn
           refine any_one (j := 18) (by kernel_rfl) (Eq.trans (by simp only [zA, zB, zC]; exact rfl) rfl) (fun K hK => ?_)
           go_simp
           refine hK.out _ _ (wpAny_done (by kernel_rfl) ?_ _)
           have hM3 := HM2.out.setRow h16 dn
           rw [← HSC.out] at hM3
           clear q0 q1 q2 ff hV hcs2 hce2 fd h16
           obtain ⟨w3, hw3⟩ : ∃ W, W = w'.setCell ⟨g, dn, none⟩ (.slice A16 m c16) := ⟨_, rfl⟩
           rw [← hw3] at hM3 ⊢
           clear hw3 HM2 HRS
           have hM0 : MkII w w3 (some ⟨g, 0, none⟩) n c1 (clearTo p (scaledAt p L kn dn) dn kn 0) := by rw [clearTo_zero]; exact hM3
           obtain ⟨N, hN⟩ : ∃ N, N = scaledAt p L kn dn := ⟨_, rfl⟩
           rw [← hN] at hM0 HTS HNEXT HSCD
           clear hM3 hN HSC
           go_wp2
           go_loopw [86] (fun i w4 => ∃ r : Nat, r ≤ n ∧ i = .int .i64 r ∧ MkII w w4 (some ⟨g, 0, none⟩) n c1 (clearTo p N dn kn r)) (fun i _ => n - (intOf i).toNat)
           case atStart => exact ⟨0, by omega, rfl, hM0⟩
           case round =>
            obtain ⟨r, hr, rfl, hM4⟩ := hrel
            clear hM0
            by_cases hlr : r < n
            · by_cases hrd : r = dn
              · subst hrd
                have HM4 := Lib.hid hM4
                clear hM4
                go_wp2
                go_roundw
                case rel => exact ⟨r + 1, by omega, by go_num, by rw [clearTo_skip]; exact HM4.out⟩
                case measure => simp [intOf]; omega
              · have hT4 : Tab p m (clearTo p N dn kn r) := clearTo_tab (by omega) HTS.out.1 dn kn r
                have hr4 : (clearTo p N dn kn r).getD r [] = N.getD r [] := by rw [clearTo_getD (by rw [HTS.out.2]; exact hlr), if_neg (by omega)]
                have hd4 : (clearTo p N dn kn r).getD dn [] = N.getD dn [] := by rw [clearTo_getD (by rw [HTS.out.2]; exact hld), if_neg (fun h => h.2 rfl)]
                obtain ⟨g0, e0, hxr, Ar, cr, hcr, hrr⟩ := hM4.at_ hlr
                injection e0 with e0; injection e0 with e0 _ _; subst e0
                obtain ⟨g0, e0, hxd, Ad2, cd2, hcd2, hrd2⟩ := hM4.at_ hld
                injection e0 with e0; injection e0 with e0 _ _; subst e0
                have HR1 := Lib.hid (hT4 _ (List.getElem_mem hxr))
                have HD1 := Lib.hid (hT4 _ (List.getElem_mem hxd))
                have hl1 := HR1.out.1
                have hl2 := HD1.out.1
                rw [getD_of_lt [] hxr] at hr4
                rw [getD_of_lt [] hxd] at hd4
                rw [hl1] at hcr hrr
                rw [hl2] at hcd2 hrd2
                rw [hr4] at hrr HR1
                rw [hd4] at hrd2 HD1
                obtain ⟨gr, or', rfl, hxy, hcy⟩ := hrr.rd.int hlk
                have hey : ent N r kn = (N.getD r [])[kn] := by unfold ent; rw [getD_of_lt 0 hxy]
                obtain ⟨y, hy⟩ : ∃ y, y = (N.getD r [])[kn] := ⟨_, rfl⟩
                have hyb : 0 ≤ y ∧ y < p := hy ▸ HR1.out.2 _ (List.getElem_mem hxy)
                rw [← hy] at hcy hey
                have HEY := Lib.hid hey
                have HM4 := Lib.hid hM4
                have HRR := Lib.hid hrr
                have HRD := Lib.hid hrd2
                clear hy hT4 hr4 hd4 hl1 hl2 hxr hxd hxy hey hM4 hrr hrd2
                cases hyz : (y != 0)
                · have hy0 : y = 0 := by simpa using hyz
                  go_wp2
                  go_roundw
                  case rel => exact ⟨r + 1, by omega, by go_num, by rw [clearTo_same (by rw [HTS.out.2]; exact hlr) (by rw [HEY.out]; exact hy0) HR1.out.2]; exact HM4.out⟩
                  case measure => simp [intOf]; omega
                · have hwy := i64_small (x := -y) (by omega) (by omega)
                  go_wp2
                  refine wp_obs 21 [[],[],[],[],[],[3,4],[3,4,5],[],[],[7,8],[7,8,9],[],[],[11,12],[11,12,13],[],[11,12,13,14,15],[11,12,13,14,15,16],[11,12,13,14,15,16,17],[2,3,4,5,6,7,8,9,10,11,12,13,14,15,16,17,18],[0,1],[0,1,2,3,4,5,6,7,8,9,10,11,12,13,14,15,16,17,18,19,20]] [VIs (.slice (some ⟨g, 0, none⟩) n c1), VIs (.int .i64 (r)), VIs (.int .i64 (p)), VIs (.slice (some ⟨g, 0, none⟩) n c1), VIs (.int .i64 (r)), VIs (.pointer (some ⟨g, r, none⟩)), VIs (.slice (some ⟨gr, or', none⟩) m cr), VIs (.slice (some ⟨g, 0, none⟩) n c1), VIs (.int .i64 (dn)), VIs (.pointer (some ⟨g, dn, none⟩)), VIs (.slice Ad2 m cd2), VIs (.slice (some ⟨g, 0, none⟩) n c1), VIs (.int .i64 (r)), VIs (.pointer (some ⟨g, r, none⟩)), VIs (.slice (some ⟨gr, or', none⟩) m cr), VIs (.int .i64 (kn)), VIs (.pointer (some ⟨gr, or' + kn, none⟩)), VIs (.int .i64 (y)), VIs (.int .i64 (-y)), VSl wr m (plusL p (N.getD r []) (N.getD dn []) (-y)), VIs (.pointer (some ⟨g, r, none⟩))] (fun w' => w'.cell? ⟨g, r, none⟩ = some (.slice (some ⟨gr, or', none⟩) m cr) ∧ w'.cell? ⟨g, dn, none⟩ = some (.slice Ad2 m cd2) ∧ w'.cell? ⟨gr, or' + kn, none⟩ = some (.int .i64 y) ∧ Below wr.heap.size wr w') (by kernel_rfl) (by kernel_rfl) (fun _ _ h hb => keepR3 h hb (Nat.le_refl _)) (⟨hcr, hcd2, hcy, zG.drew⟩) (fun x => ?_)
                  refine zS (fun w' hS hV K hK => ?_) ?_
                  · have q0 := hS.1; have q1 := hS.2.1; have q2 := hS.2.2.1; have q3 := hS.2.2.2; go_simp; exact zO hK
                  refine zS (fun w' hS hV K hK => ?_) ?_
                  · have q0 := hS.1; have q1 := hS.2.1; have q2 := hS.2.2.1; have q3 := hS.2.2.2; go_simp; exact zO hK
                  refine zS (fun w' hS hV K hK => ?_) ?_
                  · have q0 := hS.1; have q1 := hS.2.1; have q2 := hS.2.2.1; have q3 := hS.2.2.2; go_simp; exact zO hK
                  refine zS (fun w' hS hV K hK => ?_) ?_
                  · have q0 := hS.1; have q1 := hS.2.1; have q2 := hS.2.2.1; have q3 := hS.2.2.2; go_simp; exact zO hK
                  refine zS (fun w' hS hV K hK => ?_) ?_
                  · have q0 := hS.1; have q1 := hS.2.1; have q2 := hS.2.2.1; have q3 := hS.2.2.2; go_simp; exact zO hK
                  refine zS (fun w' hS hV K hK => ?_) ?_
                  · have e3 := zQ hV 3; have e4 := zQ hV 4; have q0 := hS.1; have q1 := hS.2.1; have q2 := hS.2.2.1; have q3 := hS.2.2.2; go_simp; exact zO hK
                  refine zS (fun w' hS hV K hK => ?_) ?_
                  · have e5 := zQ hV 5; have q0 := hS.1; have q1 := hS.2.1; have q2 := hS.2.2.1; have q3 := hS.2.2.2; go_simp; exact zO hK
                  refine zS (fun w' hS hV K hK => ?_) ?_
                  · have q0 := hS.1; have q1 := hS.2.1; have q2 := hS.2.2.1; have q3 := hS.2.2.2; go_simp; exact zO hK
                  refine zS (fun w' hS hV K hK => ?_) ?_
                  · have q0 := hS.1; have q1 := hS.2.1; have q2 := hS.2.2.1; have q3 := hS.2.2.2; go_simp; exact zO hK
                  refine zS (fun w' hS hV K hK => ?_) ?_
                  · have e7 := zQ hV 7; have e8 := zQ hV 8; have q0 := hS.1; have q1 := hS.2.1; have q2 := hS.2.2.1; have q3 := hS.2.2.2; go_simp; exact zO hK
                  refine zS (fun w' hS hV K hK => ?_) ?_
                  · have e9 := zQ hV 9; have q0 := hS.1; have q1 := hS.2.1; have q2 := hS.2.2.1; have q3 := hS.2.2.2; go_simp; exact zO hK
                  refine zS (fun w' hS hV K hK => ?_) ?_
                  · have q0 := hS.1; have q1 := hS.2.1; have q2 := hS.2.2.1; have q3 := hS.2.2.2; go_simp; exact zO hK
                  refine zS (fun w' hS hV K hK => ?_) ?_
                  · have q0 := hS.1; have q1 := hS.2.1; have q2 := hS.2.2.1; have q3 := hS.2.2.2; go_simp; exact zO hK
                  refine zS (fun w' hS hV K hK => ?_) ?_
                  · have e11 := zQ hV 11; have e12 := zQ hV 12; have q0 := hS.1; have q1 := hS.2.1; have q2 := hS.2.2.1; have q3 := hS.2.2.2; go_simp; exact zO hK
                  refine zS (fun w' hS hV K hK => ?_) ?_
                  · have e13 := zQ hV 13; have q0 := hS.1; have q1 := hS.2.1; have q2 := hS.2.2.1; have q3 := hS.2.2.2; go_simp; exact zO hK
                  refine zS (fun w' hS hV K hK => ?_) ?_
                  · have q0 := hS.1; have q1 := hS.2.1; have q2 := hS.2.2.1; have q3 := hS.2.2.2; go_simp; exact zO hK
                  refine zS (fun w' hS hV K hK => ?_) ?_
                  · have e14 := zQ hV 14; have e15 := zQ hV 15; have q0 := hS.1; have q1 := hS.2.1; have q2 := hS.2.2.1; have q3 := hS.2.2.2; go_simp; exact zO hK
                  refine zS (fun w' hS hV K hK => ?_) ?_
                  · have e16 := zQ hV 16; have q0 := hS.1; have q1 := hS.2.1; have q2 := hS.2.2.1; have q3 := hS.2.2.2; go_simp; exact zO hK
                  refine zS (fun w' hS hV K hK => ?_) ?_
                  · have e17 := zQ hV 17; have q0 := hS.1; have q1 := hS.2.1; have q2 := hS.2.2.1; have q3 := hS.2.2.2; go_simp; exact zO hK
                  refine zS (fun w' hS hV K hK => ?_) ?_
                  · have e2 := zQ hV 2; have e6 := zQ hV 6; have e10 := zQ hV 10; have e18 := zQ hV 18; have q0 := hS.1; have q1 := hS.2.1; have q2 := hS.2.2.1; have q3 := hS.2.2.2; go_simp; refine (plus_any p _ m _ _ m _ (-y) _ _ _ hp hp2 hm (Nat.le_refl _) (HRR.out.rd.below hS.2.2.2) HR1.out.2 (HRD.out.rd.below hS.2.2.2) HD1.out.2 (by omega) (by omega)).mono ?_; rintro e v1 ⟨A2, c2, rfl, hM⟩; exact hK.out _ _ _ rfl rfl ⟨_, _, rfl, hM.after hS.2.2.2⟩ hM.b
                  refine zS (fun w' hS hV K hK => ?_) ?_
                  · have e0 := zQ hV 0; have e1 := zQ hV 1; have q0 := hS.1; have q1 := hS.2.1; have q2 := hS.2.2.1; have q3 := hS.2.2.2; go_simp; exact zO hK
                  refine fun w' hS hV => ?_
                  have e0 := zT hV 0
                  have e1 := zT hV 1
                  have e2 := zT hV 2
                  have e3 := zT hV 3
                  have e4 := zT hV 4
                  have e5 := zT hV 5
                  have e6 := zT hV 6
                  have e7 := zT hV 7
                  have e8 := zT hV 8
                  have e9 := zT hV 9
                  have e10 := zT hV 10
                  have e11 := zT hV 11
                  have e12 := zT hV 12
                  have e13 := zT hV 13
                  have e14 := zT hV 14
                  have e15 := zT hV 15
                  have e16 := zT hV 16
                  have e17 := zT hV 17
                  have e18 := zT hV 18
                  obtain ⟨A19, c19, e19, h19⟩ := hV 19 (by decide)
                  have e20 := zT hV 20
                  simp only [e0, e1, e2, e3, e4, e5, e6, e7, e8, e9, e10, e11, e12, e13, e14, e15, e16, e17, e18, e19, e20]
                  clear e0 e1 e2 e3 e4 e5 e6 e7 e8 e9 e10 e11 e12 e13 e14 e15 e16 e17 e18 e19 e20
                  obtain ⟨q0, q1, q2, q3⟩ := hS
                  have ff := (HM4.out.below q3).frozen_ r
                  refine any_one (j := 21) (by kernel_rfl) (Eq.trans (by simp only [zA, zB, zC]; exact rfl) rfl) (fun K hK => ?_)
                  go_simp
                  refine hK.out _ _ (wpAny_done (by kernel_rfl) ?_ _)
                  have hM5 := HM4.out.setRow h19 r
                  have hM6 : MkII w (w'.setCell ⟨g, r, none⟩ (.slice A19 m c19)) (some ⟨g, 0, none⟩) n c1 (clearTo p N dn kn (r + 1)) := by
                   rw [clearTo_succ p N dn kn r (by rw [HTS.out.2]; exact hlr) hrd, HEY.out]; exact hM5
                  clear q0 q1 q2 q3 ff hM5 h19
                  go_wp2
                  go_roundw
                  case rel => exact ⟨r + 1, by omega, by go_num, hM6⟩
                  case measure => simp [intOf]; omega
            · obtain rfl : r = n := by omega
              have HM4 := Lib.hid hM4
              clear hM4
              go_wp2
              go_roundw
              case rel => exact ⟨dn + 1, kn + 1, by go_num, by go_num, by omega, by rw [HNEXT.out], by rw [HNEXT.out]; exact HM4.out⟩
              case measure => simp [intOf]; omega
         · have hx0' : xe = 0 := by simpa using hz
           go_wp2
           go_round
           case rel => exact ⟨j + 1, by omega, by omega, by go_num, Lib.hid (by rw [← hj3.out, HPV.out, if_pos (by rw [HE.out]; exact hx0')])⟩
           case measure => simp [intOf]; omega
       · obtain rfl : j = n := by omega
         have HVP : Hid (pivOf L kn dn = j) := Lib.hid (by rw [← hj3.out, Nat.sub_self]; rfl)
         have HNEXT : Hid (basisTo p M (kn + 1) = (L, dn)) := Lib.hid (by
          rw [HSUC.out]; unfold stepB; rw [if_pos (by simp only; rw [HVP.out, HL1.out])])
         go_wp2
         go_roundw
         case rel => exact ⟨dn, kn + 1, rfl, by go_num, by omega, by rw [HNEXT.out], by rw [HNEXT.out]; exact HM.out⟩
         case measure => simp [intOf]; omega
    · have HBE : Hid (basisL p M = L.take dn ∧ (L.take dn).length = dn) := Lib.hid ⟨by
       by_cases hk2 : kn = m
       · exact HEND.out hk2
       · exact HFULL.out (by omega), by rw [List.length_take, HL1.out]; omega⟩
      by_cases hk3 : kn < m
      all_goals go_wp2
      all_goals
       go_ret
       rw [HBE.out.1, HBE.out.2]
       exact ⟨_, _, rfl, HM.out.cut hd1⟩
 · obtain rfl : n = 0 := by omega
   obtain rfl : M = [] := List.eq_nil_of_length_eq_zero hML
   clear hT HT
   have HBN := Lib.hid (basisL_nil p)
   go_enter Tryz.func153, Tryz.ntmps153
   go_wp2_with fail
   refine hclone.mono ?_
   rintro e w1 ⟨A1, c1, rfl, hM1⟩
   clear hclone
   go_wp2
   go_loopw [6, 7] (fun d q wr => d = .int .i64 0 ∧ q = .int .i64 0 ∧ wr = w1) (fun _ _ _ => 0)
   case atStart => exact ⟨rfl, rfl, rfl⟩
   case round =>
    obtain ⟨rfl, rfl, rfl⟩ := hrel
    rcases hM1 with ⟨rows, hm1, hn1⟩
    have hcap := hm1.2.cap
    rcases hm1.2.form with ⟨rfl, _⟩ | ⟨g, rfl, _, _⟩
    all_goals
     go_wp2
     go_ret
     rw [HBN.out]
     exact ⟨_, _, rfl, rows, hm1, hn1⟩
end Go.Proofs.YtmkjdpnoloofjaaGreat
namespace Go.Proofs.YtmkjdpnoloofjaaGreat
open Go.RowKit Go.Maps
/-- The map from the places of the firsts to the rows, of the first j rows. -/
structure Places {H : Type} (B : List (List Int)) (j : Nat) (D : DataW H) : Prop where
 map : IsMap D
 has : ∀ k : Nat, Maps.has D (.int .i64 k) = true ↔ ∃ i, i < j ∧ ld B i = k
 only : ∀ z : Lit, Maps.has D z = true → ∃ k : Nat, z = .int .i64 k
 val : ∀ i, i < j → ∀ zd, D.atKey (.int .i64 (ld B i)) zd = .lit (.int .i64 i)
theorem Places.start {H : Type} (B : List (List Int)) : Places B 0 (.map [] : DataW H) :=
 ⟨isMap_empty, fun k => ⟨fun h => by simp [has_eq] at h, fun ⟨i, hi, _⟩ => absurd hi (by omega)⟩, fun z h => by simp [has_eq] at h, fun i hi => absurd hi (by omega)⟩
theorem lit_ne {a b : Int} (h : a ≠ b) : Lit.int .i64 a ≠ Lit.int .i64 b := fun e => h (by injection e)
theorem Places.step {H : Type} {n : Nat} {B : List (List Int)} (hR : Red n B) {j : Nat} {D : DataW H} (h : Places B j D) (hj : j < B.length) : Places B (j + 1) (D.put (.int .i64 (ld B j)) (.lit (.int .i64 j))) := by
 refine ⟨h.map.put _ _, fun k => ?_, fun z hz => ?_, fun i hi zd => ?_⟩
 · by_cases hk : k = ld B j
   · subst hk
     exact ⟨fun _ => ⟨j, by omega, rfl⟩, fun _ => has_put_same h.map (show WideAt.IsKeyLit (.int .i64 (ld B j)) from trivial) _⟩
   · rw [has_put_other (lit_ne (by omega)), h.has k]
     constructor
     · rintro ⟨i, hi, e⟩; exact ⟨i, by omega, e⟩
     · rintro ⟨i, hi, e⟩
       refine ⟨i, ?_, e⟩
       by_cases hij : i = j
       · subst hij; exact absurd e.symm hk
       · omega
 · by_cases hk : z = .int .i64 (ld B j)
   · exact ⟨_, hk⟩
   · rw [has_put_other hk] at hz
     exact h.only z hz
 · by_cases hij : i = j
   · subst hij
     exact atKey_put_same h.map (show WideAt.IsKeyLit (.int .i64 (ld B i)) from trivial) _ _
   · rw [atKey_put_other (lit_ne (fun e => hij (hR.inj (by omega) hj (by omega))))]
     exact h.val i (by omega) zd
theorem Places.isLd {H : Type} {B : List (List Int)} {D : DataW H} (h : Places B B.length D) (k : Nat) : Maps.has D (.int .i64 k) = isLd B k := by
 cases hh : Maps.has D (.int .i64 k) with
 | true => exact (isLd_iff.2 ((h.has k).1 hh)).symm
 | false =>
  cases hi : Proofs.YtmkjdpnoloofjaaGreat.isLd B k with
  | false => rfl
  | true => rw [(h.has k).2 (isLd_iff.1 hi)] at hh; cases hh
theorem ownsMap_below {H : Type} {P : Program} {k : TypeId} {R : Value → Option (DataW H × List MemPlace)} {w w' : World} {b n X : Nat} {D : DataW H} (h : w.ownsMap P k R b n D) (hb : Below X w w') (hX : b < X) : w'.ownsMap P k R b n D := by
 obtain ⟨es, clock, e, r⟩ := h
 exact ⟨es, clock, (hb.block b hX).trans e, r⟩
theorem below_grown_of {w w' : World} {row : Option Nat} {X : Nat} {a : World} (h : Below X a w) (hg : w.grownBy w' row) (hX : X ≤ w.heap.size) (hr : ∀ k, row = some k → X ≤ k) : Below X a w' := h.grown hg hX (fun k hk => hr k hk)
theorem keyedInt : Keyed Tryz.prog 3 := int_keyed Tryz.underlying3
theorem sameKey_int (a b : Int) : (Lit.int .i64 a).sameKey (.int .i64 b) = (a == b) := by
 rw [Bool.eq_iff_iff]
 simp [Lit.sameKey]
theorem zero_int (w : World) : (zeroValue 3).run Tryz.prog w = .ok (.int .i64 0) w := by kernel_rfl
set_option maxHeartbeats 6400000 in
set_option maxRecDepth 8000 in
theorem kernel_any (p : Int) (A : Option Addr) (r0 c : Nat) (M : List (List Int)) (n : Nat) (w : World) (HP : isP p = true) (hr0 : r0 ≤ 65536) (hn : n ≤ 65536) (ha : RdII w A r0 M) (hT : Tab p n M) :
    Calls Tryz.prog 76 #[.int .i64 p, .slice A r0 c, .int .i64 n] w fun e w' => ∃ A' c', e = .returned (.slice A' (kernL p M n).length c') ∧ MkII w w' A' (kernL p M n).length c' (kernL p M n) := by
 obtain ⟨hp3, hp2⟩ := isP_ge HP
 have hp : 2 ≤ p := by omega
 have hbas := basis_any p A r0 c M n w HP hr0 hn ha hT
 have hred := basisL_red HP M hT
 have htab := basisL_tab (p := p) (by omega) M hT
 have HKL : Hid (kernL p M n = basisL p (freeTo p (basisL p M) n n)) := Lib.hid rfl
 have hdl := hred.len
 obtain ⟨B, hB⟩ : ∃ B, B = basisL p M := ⟨_, rfl⟩
 rw [← hB] at hbas hred htab hdl HKL
 have HRED := Lib.hid hred
 have HTAB := Lib.hid htab
 have HP' := Lib.hid HP
 obtain ⟨d, hd⟩ : ∃ d, d = B.length := ⟨_, rfl⟩
 rw [← hd] at hbas hdl
 have HD := Lib.hid hd
 clear hB hT ha hred htab HP hd
 have hmm := @run_makeMap Tryz.prog
 go_enter Tryz.func76, Tryz.ntmps76
 go_wp2_with fail
 refine hbas.mono ?_
 rintro e w1 ⟨A1, c1, rfl, hM1⟩
 clear hbas
 go_wp2
 obtain ⟨b, hb⟩ : ∃ b, b = w1.heap.size := ⟨_, rfl⟩
 obtain ⟨w2, hw2⟩ : ∃ W, W = w1.alloc (.map #[] 0) := ⟨_, rfl⟩
 have hown0 : w2.ownsMap (H := Unit) Tryz.prog 3 (plainElem Tryz.prog 3) b 0 (.map []) := by rw [hw2, hb]; exact World.ownsMap_made _ _ _ _
 have hB0 : Below b w1 w2 := by rw [hw2, hb]; exact zG.alloc (Nat.le_refl _) _
 have hsz2 : w2.heap.size = b + 1 := by rw [hw2, hb]; simp
 have hbsz : b ≤ w2.heap.size := by omega
 rw [← hw2]
 try rw [← hb]
 clear hw2 hmm
 have HM1 := Lib.hid hM1
 have HBB := Lib.hid hb
 clear hM1 hb
 go_loopw [9, 10, 24] (fun _ _ i wr => ∃ (j : Nat) (D : DataW Unit), j ≤ d ∧ i = .int .i64 j ∧ wr.ownsMap Tryz.prog 3 (plainElem Tryz.prog 3) b j D ∧ Hid (Places B j D) ∧ Below b w1 wr ∧ b < wr.heap.size) (fun _ _ i _ => d - (intOf i).toNat)
 case atStart => exact ⟨0, _, by omega, rfl, hown0, Lib.hid (Places.start B), hB0, by omega⟩
 case round =>
  obtain ⟨j, D, hj, rfl, hown, hpl, hBl, hbl⟩ := hrel
  clear hown0 hB0 hsz2 hbsz
  by_cases hlj : j < d
  · obtain ⟨g, o, rfl, hxj, Aj, cj, hcj, hrj, -⟩ := (HM1.out.rd.below (by rw [← HBB.out]; exact hBl)).at_ hlj
    have HRJ := Lib.hid (HTAB.out B[j] (List.getElem_mem hxj))
    have hl := HRJ.out.1
    rw [hl] at hcj hrj
    have HLD : Hid (leadL B[j] = ld B j) := Lib.hid (by unfold ld; rw [getD_of_lt [] hxj])
    have hld := HRED.out.lt j hxj
    have hlead := fun w' (h : Rd w' Aj n (ints B[j])) => lead_any Aj n cj B[j] w' (by omega) h
    rw [HLD.out] at hlead
    have HPL : Hid (Places B (j + 1) (D.put (.int .i64 (ld B j)) (.lit (.int .i64 j)))) := Lib.hid (hpl.out.step HRED.out hxj)
    obtain ⟨l, hl'⟩ : ∃ l, l = ld B j := ⟨_, rfl⟩
    rw [← hl'] at hlead HPL hld
    clear hl hl' HLD
    go_wp2_with (first
     | (go_at_call 187; refine (hlead _ hrj).mono ?_; rintro e w' ⟨rfl, rfl⟩)
     | (at_mapUpdate; refine wpList_mapUpdate_own _ rfl _ _ _ 145 rfl 3 3 keyedInt Tryz.underlying145 _ b j _ rfl hown (by unfold maxLen; omega) _ _ _ rfl rfl (keyOf_int_mk Tryz.underlying3 (WalkArith.wf_i64 (by omega))) _ [] (plainElem_int Tryz.underlying3 (WalkArith.wf_i64 (by omega))) ?_; intro w3 hown3 hgrow3))
    go_roundw
    case rel => exact ⟨j + 1, _, by omega, by go_num, hown3, HPL, below_grown_of hBl hgrow3 (by omega) (fun k hk => by injection hk with hk; omega), by have := hgrow3.size; omega⟩
    case measure => simp [intOf]; omega
  · obtain rfl : j = d := by omega
    have HPL : Hid (Places B B.length D) := Lib.hid (by rw [← HD.out]; exact hpl.out)
    have hM0 : MkII wr (wr.alloc (.cells #[] 24)) (some ⟨wr.heap.size, 0, none⟩) 0 0 (freeTo p B n 0) := MkII.empty zG
    obtain ⟨wb, hwb⟩ : ∃ W, W = wr := ⟨_, rfl⟩
    rw [← hwb] at hM0 hown hBl hbl ⊢
    clear hwb hpl
    have hmk := make_i (P := Tryz.prog) 24 2 Tryz.underlying24 info_i n (by omega)
    go_wp2
    obtain ⟨w4, hw4⟩ : ∃ W, W = wb.alloc (.cells #[] 24) := ⟨_, rfl⟩
    rw [← hw4] at hM0 ⊢
    clear hw4
    go_loopw [11, 36] (fun out i wr => ∃ (f q : Nat) (A' : Option Addr) (c' : Nat), f ≤ n ∧ q ≤ f ∧ i = .int .i64 f ∧ out = .slice A' q c' ∧ MkII wb wr A' q c' (freeTo p B n f)) (fun _ i _ => n - (intOf i).toNat)
    case atStart => exact ⟨0, 0, _, _, by omega, by omega, rfl, rfl, hM0⟩
    case round =>
     obtain ⟨f, q, A', c', hf, hq, rfl, rfl, hM⟩ := hrel
     clear hM0
     obtain ⟨wo, rfl⟩ : ∃ W, W = wr := ⟨_, rfl⟩
     have hsz := hM.b.size
     have hownO := ownsMap_below hown hM.b hbl
     have hisl := HPL.out.isLd f
     have HM := Lib.hid hM
     clear hM
     by_cases hlf : f < n
     · cases hlb : isLd B f
       · rw [hlb] at hisl
         have HIS := Lib.hid hisl
         have hm1 := Mk.made (E := 2) (n := n) (z := .int .i64 0) (Below.refl wo.heap.size wo) (by simp only [maxLen]; omega)
         rw [ints_replicate] at hm1
         obtain ⟨u1, hc1⟩ := hm1.2.cellI hlf
         have hf1 := hm1.2.frozen_ f
         have hm2 := (hm1.set f (.int .i64 1)).1
         rw [ints_set, World.setCell_alloc_at _ _ _ _ _ rfl] at hm2
         have HM2 := Lib.hid hm2
         have HOWN := Lib.hid (ownsMap_below hown (HM.out.b.trans (hm2.b.mono HM.out.b.size)) hbl)
         clear hm1 hm2 hisl
         go_wp2_with (first
          | (at_lookup; refine wpList_lookup_own_ok_int _ rfl _ _ 145 rfl 3 3 .i64 keyedInt Tryz.underlying145 Tryz.underlying3 (zero_int _) b j D rfl hownO _ _ rfl (keyOf_int_mk Tryz.underlying3 (WalkArith.wf_i64 (by omega))) ?_; intro cv hat hwc; rw [HIS.out]; clear hat hwc)
          | (at_range; refine wpList_range_own _ rfl _ 145 rfl 3 3 keyedInt Tryz.underlying145 _ b j D rfl HOWN.out ?_; intro w0 hrg0 hg0 hs0))
         go_frame
         have e1 : w0.heap.size = wo.heap.size + 1 + 1 := by rw [hs0]; simp
         rw [show ∀ o : Obj, (wo.alloc o).heap.size = wo.heap.size + 1 from fun o => by simp] at hrg0 ⊢
         have hm3 : MkI wo w0 (some ⟨wo.heap.size, 0, none⟩) n n (unitRow n f) := ⟨HM2.out.1.grown hg0 HM2.out.1.size (fun k hk => by cases hk), HM2.out.2.grown hg0 (.inr (by simp [Value.ownBlock]))⟩
         clear hg0 hs0 HM2 HOWN hc1 hf1 hownO
         go_loopw [16] (fun _ wr => ∃ (left : Lit → Bool) (cnt : Nat), wr.ranges Tryz.prog 3 (plainElem Tryz.prog 3) b (wo.heap.size + 1) j D left cnt ∧ MkI wo wr (some ⟨wo.heap.size, 0, none⟩) n n (freePart p B n f (fun k => left (.int .i64 k))) ∧ Hid (∀ z, left z = true → Maps.has D z = true)) (fun _ wr => wr.rangeLeft b (wo.heap.size + 1))
         case atStart => exact ⟨_, _, hrg0, by rw [freePart_start p B n f hlf _ (fun k _ hk => by rw [HPL.out.isLd]; exact hk)]; exact hm3, Lib.hid (fun _ h => h)⟩
         case round =>
          obtain ⟨left, cnt, hrg, hmv, hsub⟩ := hrel
          clear hrg0 hm3 e1
          go_wp2_with (at_next; refine wpList_next_ranges_ii _ rfl _ rfl 3 3 .i64 .i64 keyedInt Tryz.underlying3 Tryz.underlying3 b (wo.heap.size + 1) j _ _ _ rfl hrg ?_ ?_)
          · intro hc0 hl0
            have hfin : freePart p B n f (fun k => left (.int .i64 k)) = freeRow p B n f := freePart_congr p B n f (fun k _ => hl0 _)
            rw [hfin] at hmv
            have HMV := Lib.hid hmv
            clear hmv hfin hl0
            go_wp2_with (at_builtin; refine wpList_appRow wb wo _ rfl _ _ rfl A' q c' _ _ n n _ HM.out HMV.out (by omega) rfl ?_ ?_; (go_simp); intro A6 c6 w6 hM6)
            go_roundw
            case rel => exact ⟨f + 1, q + 1, A6, c6, by omega, by omega, by go_num, rfl, by rw [freeTo_take hlb]; exact hM6⟩
            case measure => simp [intOf]; omega
          · intro x cv w7 cnt1 hwx hwc hlx hat hrg1 hlt hg1 hs1 hen
            obtain ⟨kx, hkx⟩ := HPL.out.only _ (hsub.out _ hlx)
            obtain ⟨i, hi, hik⟩ := (HPL.out.has kx).1 (by rw [← hkx]; exact hsub.out _ hlx)
            have hxi : x = ((ld B i : Nat) : Int) := by injection hkx with _ hkx; rw [hkx, hik]
            have hcv : cv = (i : Int) := by
             have h1 := HPL.out.val i hi (.lit (.int .i64 0))
             have h2 := hat (.lit (.int .i64 0))
             rw [hxi, h1] at h2
             injection h2 with h2
             injection h2 with _ h2
             exact h2.symm
            have hb7 : Below w1.heap.size w1 w7 := by
             have h1 : Below b wb wo := HM.out.b.mono (by omega)
             have h2 : Below b wo wr := hmv.b.mono (by omega)
             have h3 := ((hBl.trans h1).trans h2).grown hg1 (by have := hmv.b.size; omega) (fun k hk => by injection hk with hk; omega)
             rw [← HBB.out]; exact h3
            have hmv7 : MkI wo w7 (some ⟨wo.heap.size, 0, none⟩) n n (freePart p B n f (fun k => left (.int .i64 k))) := ⟨hmv.1.grown hg1 hmv.1.size (fun k hk => by injection hk with hk; omega), hmv.2.grown hg1 (.inr (by simp [Value.ownBlock]))⟩
            obtain ⟨g, o, rfl, hxl, Ai, ci, hci, hri, -⟩ := (HM1.out.rd.below hb7).at_ (show i < j by rw [HD.out]; exact hi)
            have HRI := Lib.hid (HTAB.out B[i] (List.getElem_mem hxl))
            have hl := HRI.out.1
            rw [hl] at hci hri
            obtain ⟨gi, oi, rfl, hxe, hce⟩ := hri.int hlf
            have HE : Hid (ent B i f = B[i][f]) := Lib.hid (ent_at' hxl hxe)
            obtain ⟨y, hy⟩ : ∃ y, y = B[i][f] := ⟨_, rfl⟩
            have hyb : 0 ≤ y ∧ y < p := hy ▸ HRI.out.2 _ (List.getElem_mem hxe)
            rw [← hy] at hce HE
            have hld := HRED.out.lt i hi
            have hij : i < j := by rw [HD.out]; exact hi
            obtain ⟨hoc, hof⟩ := mkI_at hmv7 hld
            have HSET := Lib.hid (hmv7.set (ld B i) (.int .i64 ((-y) % p)))
            have HST : Hid ((freePart p B n f (fun k => left (.int .i64 k))).set (ld B i) ((-y) % p) = freePart p B n f (fun k => left (.int .i64 k) && !(k == ld B i))) := Lib.hid (by rw [← HE.out]; exact freePart_step HRED.out hi hlb _)
            have hmb := emod_small (-y) p (by omega)
            have HRG := Lib.hid hrg
            have HRG1 := Lib.hid hrg1
            have HSUB := Lib.hid hsub
            subst hxi
            subst hcv
            have hwy := i64_small (x := -y) (by omega) (by omega)
            obtain ⟨l, hl'⟩ : ∃ l, l = ld B i := ⟨_, rfl⟩
            rw [← hl'] at hoc hof HSET HST HRG1 hen hld ⊢
            clear hl hl' hy hri HRI hxl hxe hat hkx hik hlx hwx hwc hmv7 hb7 hmv hsub hrg hrg1 hg1 hs1
            go_wp2_with (go_at_call 122; refine (num_any p (-y) _ (by omega) hp2 (by omega) (by omega)).mono ?_; rintro e w' ⟨rfl, rfl⟩)
            go_roundw
            case rel =>
             have hs := HSET.out.1
             rw [ints_set, HST.out] at hs
             refine ⟨_, cnt1, HRG1.out.kept HSET.out.2 (fun e => by have := Option.some.inj e; omega) (fun e => by have := Option.some.inj e; omega), ?_, Lib.hid (fun z hz => HSUB.out.out z (by simp only [Bool.and_eq_true] at hz; exact hz.1))⟩
             refine (freePart_congr p B n f (fun k _ => ?_)) ▸ hs
             show (left (.int .i64 k) && !(k == l)) = (left (.int .i64 k) && !(Lit.int .i64 (k : Int)).sameKey (.int .i64 (l : Int)))
             have e : (k == l) = ((k : Int) == (l : Int)) := by
              rw [Bool.eq_iff_iff, beq_iff_eq, beq_iff_eq]
              constructor <;> intro h <;> omega
             rw [sameKey_int, e]
            case measure => rw [(HRG1.out.kept HSET.out.2 (fun e => by have := Option.some.inj e; omega) (fun e => by have := Option.some.inj e; omega)).left_eq, HRG.out.left_eq]; exact hlt
       · rw [hlb] at hisl
         have HIS := Lib.hid hisl
         clear hisl
         go_wp2_with (at_lookup; refine wpList_lookup_own_ok_int _ rfl _ _ 145 rfl 3 3 .i64 keyedInt Tryz.underlying145 Tryz.underlying3 (zero_int _) b j D rfl hownO _ _ rfl (keyOf_int_mk Tryz.underlying3 (WalkArith.wf_i64 (by omega))) ?_; intro cv hat hwc; rw [HIS.out]; clear hat hwc)
         go_roundw
         case rel => exact ⟨f + 1, q, A', c', by omega, by omega, by go_num, rfl, by rw [freeTo_skip hlb]; exact HM.out⟩
         case measure => simp [intOf]; omega
     · obtain rfl : f = n := by omega
       have hlast := basis_any p A' q c' (freeTo p B f f) f wo HP'.out (by omega) hn HM.out.rd (freeTo_tab hp B f f)
       have hbw : Below w.heap.size w wo := by
        have h1 : Below w1.heap.size w1 wb := HBB.out ▸ hBl
        exact (HM1.out.b.trans (h1.mono HM1.out.b.size)).trans (HM.out.b.mono (by have := HM1.out.b.size; have := h1.size; omega))
       go_wp2_with fail
       refine hlast.mono ?_
       rintro e w5 ⟨A5, c5, rfl, hM5⟩
       go_wp2
       go_ret
       rw [HKL.out]
       exact ⟨_, _, rfl, hM5.after hbw⟩
end Go.Proofs.YtmkjdpnoloofjaaGreat
namespace Go.Proofs.YtmkjdpnoloofjaaGreat
open Go.RowKit
set_option maxHeartbeats 6400000 in
set_option maxRecDepth 8000 in
theorem l02Basis_any (p : Int) (A : Option Addr) (n c : Nat) (M : List (List Int)) (m : Nat) (w : World) (HP : isP p = true) (hn : n ≤ 65536) (hm : m ≤ 65536) (ha : RdII w A n M) (hT : Tab p m M) :
    Calls Tryz.prog 189 #[.int .i64 p, .slice A n c] w fun e w' => ∃ A' c', e = .returned (.slice A' (basisL p M).length c') ∧ MkII w w' A' (basisL p M).length c' (basisL p M) := by
 have hML := ha.len
 obtain ⟨hp3, hp2⟩ := isP_ge HP
 have hp : 2 ≤ p := by omega
 have hclone := l01Own2_any p A n c M m w hn hm ha hT
 have HT := Lib.hid hT
 have HP' := Lib.hid HP
 by_cases h0 : 0 < n
 · have HBL : Hid (basisL p M = (basisTo p M m).1.take (basisTo p M m).2) := Lib.hid (by unfold basisL; rw [row0_len hT (by omega)])
   have HINV : Hid (∀ k, Tab p m (basisTo p M k).1 ∧ (basisTo p M k).1.length = n ∧ (basisTo p M k).2 ≤ n) := Lib.hid (fun k => by
    have := basisTo_inv (p := p) (by omega) M hT k
    rw [hML] at this
    exact this)
   clear hT HP hML ha
   go_enter Tryz.func189, Tryz.ntmps189
   go_wp2_with fail
   refine hclone.mono ?_
   rintro e w1 ⟨A1, c1, rfl, hM1⟩
   clear hclone
   obtain ⟨g, rfl, -⟩ := hM1.at_ h0
   go_wp2
   go_loopw [6, 7] (fun d q wr => ∃ dn kn : Nat, d = .int .i64 dn ∧ q = .int .i64 kn ∧ kn ≤ m ∧ dn = (basisTo p M kn).2 ∧ MkII w wr (some ⟨g, 0, none⟩) n c1 (basisTo p M kn).1) (fun _ q _ => m - (intOf q).toNat)
   case atStart => exact ⟨0, 0, rfl, rfl, by omega, rfl, hM1⟩
   case round =>
    obtain ⟨dn, kn, rfl, rfl, hkm, hdn, hM⟩ := hrel
    clear hM1
    obtain ⟨hT1, hl1, hd1⟩ := HINV.out kn
    rw [← hdn] at hd1
    have HSUC : Hid (basisTo p M (kn + 1) = stepB p kn ((basisTo p M kn).1, dn)) := Lib.hid (by rw [hdn]; rfl)
    have HFULL : Hid (dn = n → basisL p M = (basisTo p M kn).1.take dn) := Lib.hid (fun h => by
     rw [HBL.out, basisTo_full p M kn m hkm (by rw [← hdn, hl1]; exact h), ← hdn])
    have HEND : Hid (kn = m → basisL p M = (basisTo p M kn).1.take dn) := Lib.hid (fun h => by rw [HBL.out, ← h, ← hdn])
    obtain ⟨L, hL⟩ : ∃ L, L = (basisTo p M kn).1 := ⟨_, rfl⟩
    rw [← hL] at hM hT1 hl1 HSUC HFULL HEND
    clear hL hdn
    have HT1 := Lib.hid hT1
    have HL1 := Lib.hid hl1
    have HM := Lib.hid hM
    have hcap : n ≤ c1 := by obtain ⟨rows, hm', _⟩ := hM; exact hm'.2.cap
    obtain ⟨g0, e0, hx0, A0, c0, hc0, -⟩ := hM.at_ h0
    injection e0 with e0; injection e0 with e0 _ _; subst e0
    have hl0 : L[0].length = m := (HT1.out L[0] (List.getElem_mem hx0)).1
    rw [hl0] at hc0
    clear hl0 hT1 hl1 hM
    by_cases hlk : kn < m
    · skip
      go_wp2
      go_loop [8] (fun i => ∃ j : Nat, dn ≤ j ∧ j ≤ n ∧ i = .int .i64 j ∧ Hid (piv L kn (n - j) j = pivOf L kn dn)) (fun i => n - (intOf i).toNat)
      case atStart => exact ⟨dn, by omega, by omega, rfl, Lib.hid (by unfold pivOf; rw [HL1.out])⟩
      case round =>
       obtain ⟨j, hj1, hj2, rfl, hj3⟩ := hrel
       by_cases hlj : j < n
       · have hld : dn < n := by omega
         obtain ⟨g0, e0, hxj, Aj, cj, hcj, hrj⟩ := HM.out.at_ hlj
         injection e0 with e0; injection e0 with e0 _ _; subst e0
         have HRJ := Lib.hid (HT1.out L[j] (List.getElem_mem hxj))
         have hlj2 : L[j].length = m := HRJ.out.1
         rw [hlj2] at hcj hrj
         obtain ⟨gj, oj, rfl, hxe, hce⟩ := hrj.rd.int hlk
         have HE : Hid (ent L j kn = L[j][kn]) := Lib.hid (ent_at' hxj hxe)
         have HPV : Hid (piv L kn (n - j) j = if ent L j kn = 0 then piv L kn (n - (j + 1)) (j + 1) else j) := Lib.hid (by
          rw [show n - j = (n - (j + 1)) + 1 by omega]; rfl)
         have HROW : Hid ((swapL L dn j)[dn]? = some L[j]) := Lib.hid (by
          rw [swapL_get? L (by rw [HL1.out]; exact hld) hxj]
          by_cases hdj : dn = j
          · subst hdj; rw [if_pos rfl]; exact List.getElem?_eq_getElem hxj
          · rw [if_neg hdj, if_pos rfl]; exact List.getElem?_eq_getElem hxj)
         have HGD : Hid (L.getD j [] = L[j]) := Lib.hid (getD_of_lt [] hxj)
         obtain ⟨R, hR⟩ : ∃ R, R = L[j] := ⟨_, rfl⟩
         have HXE : Hid (∀ h : kn < R.length, R[kn] = L[j][kn]) := Lib.hid (fun h => by simp only [hR])
         rw [← hR] at hrj HRJ HROW HGD
         clear hlj2
         obtain ⟨xe, hxe'⟩ : ∃ x, x = L[j][kn] := ⟨_, rfl⟩
         rw [← hxe'] at hce HE HXE
         have HX : Hid (0 ≤ xe ∧ xe < p) := Lib.hid (hxe' ▸ ((HT1.out L[j] (List.getElem_mem hxj)).2 _ (List.getElem_mem hxe)))
         clear hxe' hxe hR hxj
         cases hz : (xe == 0)
         · have hne : xe ≠ 0 := by simpa using hz
           have HVP : Hid (pivOf L kn dn = j) := Lib.hid (by rw [← hj3.out, HPV.out, if_neg (by rw [HE.out]; exact hne)])
           obtain ⟨g0, e0, hxd, Ad, cd, hcd, hrd⟩ := HM.out.at_ hld
           injection e0 with e0; injection e0 with e0 _ _; subst e0
           have hld2 : L[dn].length = m := (HT1.out L[dn] (List.getElem_mem hxd)).1
           rw [hld2] at hcd hrd
           have fd := HM.out.frozen_ dn
           have fj := HM.out.frozen_ j
           have HSC : Hid (scaledAt p L kn dn = (swapL L dn j).set dn (scaleL p R (invF p xe))) := Lib.hid (by unfold scaledAt; rw [HVP.out, HGD.out, HE.out])
           have HTS : Hid (Tab p m (scaledAt p L kn dn) ∧ (scaledAt p L kn dn).length = n) := Lib.hid ⟨scaledAt_tab (by omega) HT1.out (by rw [HL1.out]; exact hld) (by rw [HVP.out, HL1.out]; exact hlj), by rw [scaledAt_len, HL1.out]⟩
           have HNEXT : Hid (basisTo p M (kn + 1) = (clearTo p (scaledAt p L kn dn) dn kn n, dn + 1)) := Lib.hid (by
            rw [HSUC.out]; unfold stepB; rw [if_neg (by simp only; rw [HVP.out, HL1.out]; omega)]; simp only [HL1.out])
           have HSCD : Hid ((scaledAt p L kn dn).getD dn [] = scaleL p R (invF p xe)) := Lib.hid (by
            rw [HSC.out, getD_set, if_pos ⟨rfl, by rw [swapL_len, HL1.out]; exact hld⟩])
           have HM1b := Lib.hid (HM.out.rowKept hrj.2 j (.slice Ad m cd))
           have HSWS := Lib.hid (fun (w2 : World) (A1 : Option Addr) (c2 : Nat) (xs : List Int) (h : Mk (wr.setCell ⟨g, j, none⟩ (.slice Ad m cd)) w2 2 A1 m c2 (ints xs)) => HM.out.swapSet hlj hld hcj hcd h)
           obtain ⟨us, hOut⟩ := HM.out.outSet j (.slice Ad m cd)
           obtain ⟨gj', oj', ej', hxe2, hce2⟩ := (Own.rd HM1b.out).int hlk
           injection ej' with ej'; injection ej' with ej1 ej2 _
           subst ej1; subst ej2
           rw [HXE.out hxe2] at hce2
           have HOut := Lib.hid hOut
           clear hrj hrd hld2 hxd hxe2 hOut
           have hiv := invF_small hp xe
           have hx1 := HX.out
           have hP0 : (p == 0) = false := by simp; omega
           have hP1 : (p == -1) = false := by simp; omega
           have hP2 : ¬ p = 0 := by omega
           have hcallI := fun w' => l01Inv_any p xe w' HP'.out (by omega) hx1.2
           have hcallS := l02Scale_any p (some ⟨gj, oj, none⟩) m cj (invF p xe) R (wr.setCell ⟨g, j, none⟩ (.slice Ad m cd)) hp hp2 hm (Own.rd HM1b.out) HRJ.out.2 (by omega) (by omega)
           go_wp2_with fail
           refine (hcallI _).mono ?_
           rintro e v1 ⟨rfl, rfl⟩
           go_wp2_with fail
           refine hcallS.mono ?_
           rintro e w2 ⟨A5, c5, rfl, hM5⟩
           have hOut2 := HOut.out.below hM5.b
           obtain ⟨ud2, -, hud2⟩ := hOut2.2.cell_ hld
           have fd2 := hOut2.2.frozen_ dn
           have hM3 := HSWS.out w2 A5 c5 _ hM5
           rw [← HSC.out] at hM3
           have hOW : Own w2 w.heap.size 2 A5 m c5 (ints (scaleL p R (invF p xe))) := hM5.2.base HOut.out.1.size
           have hOW3 := hOW.grown (hOut2.set dn (.slice A5 m c5)).2 (hOW.ne hOut2.2 (by decide))
           rw [← HSCD.out] at hOW3
           have hM0 : MkII w (w2.setCell ⟨g, dn, none⟩ (.slice A5 m c5)) (some ⟨g, 0, none⟩) n c1 (clearTo p (scaledAt p L kn dn) dn kn 0) := by rw [clearTo_zero]; exact hM3
           obtain ⟨N, hN⟩ : ∃ N, N = scaledAt p L kn dn := ⟨_, rfl⟩
           rw [← hN] at hM0 HTS HNEXT hOW3
           clear hM3 hN HSC HSCD hOW hOut2 hM5 hcallI hcallS hcj hcd hce2 hc0 hce fd fj HM1b HSWS HOut
           go_wp2
           obtain ⟨w3, hw3⟩ : ∃ W, W = w2.setCell ⟨g, dn, none⟩ (.slice A5 m c5) := ⟨_, rfl⟩
           rw [← hw3] at hM0 hOW3 ⊢
           clear hw3 hud2 fd2
           go_loopw [10] (fun i w4 => ∃ r : Nat, r ≤ n ∧ i = .int .i64 r ∧ MkII w w4 (some ⟨g, 0, none⟩) n c1 (clearTo p N dn kn r) ∧ Own w4 w.heap.size 2 A5 m c5 (ints (N.getD dn []))) (fun i _ => n - (intOf i).toNat)
           case atStart => exact ⟨0, by omega, rfl, hM0, hOW3⟩
           case round =>
            obtain ⟨r, hr, rfl, hM4, hO4⟩ := hrel
            clear hM0 hOW3
            by_cases hlr : r < n
            · by_cases hrd : r = dn
              · subst hrd
                have HM4 := Lib.hid hM4
                have HO4 := Lib.hid hO4
                clear hM4 hO4
                go_wp2
                go_roundw
                case rel => exact ⟨r + 1, by omega, by go_num, by rw [clearTo_skip]; exact HM4.out, HO4.out⟩
                case measure => simp [intOf]; omega
              · have hT4 : Tab p m (clearTo p N dn kn r) := clearTo_tab (by omega) HTS.out.1 dn kn r
                have hr4 : (clearTo p N dn kn r).getD r [] = N.getD r [] := by rw [clearTo_getD (by rw [HTS.out.2]; exact hlr), if_neg (by omega)]
                obtain ⟨g0, e0, hxr, Ar, cr, hcr, hrr⟩ := hM4.at_ hlr
                injection e0 with e0; injection e0 with e0 _ _; subst e0
                have HR1 := Lib.hid (hT4 _ (List.getElem_mem hxr))
                have HD1 := Lib.hid ((HTS.out.1.row (by rw [HTS.out.2]; exact hld)).2)
                have hl1 := HR1.out.1
                rw [getD_of_lt [] hxr] at hr4
                rw [hl1] at hcr hrr
                rw [hr4] at hrr HR1
                obtain ⟨gr, or', rfl, hxy, hcy⟩ := hrr.rd.int hlk
                have hey : ent N r kn = (N.getD r [])[kn] := by unfold ent; rw [getD_of_lt 0 hxy]
                obtain ⟨y, hy⟩ : ∃ y, y = (N.getD r [])[kn] := ⟨_, rfl⟩
                have hyb : 0 ≤ y ∧ y < p := hy ▸ HR1.out.2 _ (List.getElem_mem hxy)
                rw [← hy] at hcy hey
                have HEY := Lib.hid hey
                have HM4 := Lib.hid hM4
                have HRR := Lib.hid hrr
                have HO4 := Lib.hid hO4
                have hmb := emod_small (-y) p (by omega)
                clear hy hT4 hr4 hl1 hxr hxy hey hM4 hrr hO4
                have hwy := i64_small (x := p - y) (by omega) (by omega)
                have hty : (p - y).tmod p = (-y) % p := by rw [Int.tmod_eq_emod_of_nonneg (by omega)]; simp
                go_wp2
                refine wp_obs 21 [[],[],[],[],[],[3,4],[3,4,5],[],[],[],[],[9,10],[9,10,11],[],[9,10,11,12,13],[9,10,11,12,13,14],[8,9,10,11,12,13,14,15],[],[8,9,10,11,12,13,14,15,16,17],[2,3,4,5,6,7,8,9,10,11,12,13,14,15,16,17,18],[0,1],[0,1,2,3,4,5,6,7,8,9,10,11,12,13,14,15,16,17,18,19,20]] [VIs (.slice (some ⟨g, 0, none⟩) n c1), VIs (.int .i64 (r)), VIs (.int .i64 (p)), VIs (.slice (some ⟨g, 0, none⟩) n c1), VIs (.int .i64 (r)), VIs (.pointer (some ⟨g, r, none⟩)), VIs (.slice (some ⟨gr, or', none⟩) m cr), VIs (.slice A5 m c5), VIs (.int .i64 (p)), VIs (.slice (some ⟨g, 0, none⟩) n c1), VIs (.int .i64 (r)), VIs (.pointer (some ⟨g, r, none⟩)), VIs (.slice (some ⟨gr, or', none⟩) m cr), VIs (.int .i64 (kn)), VIs (.pointer (some ⟨gr, or' + kn, none⟩)), VIs (.int .i64 (y)), VIs (.int .i64 (p - y)), VIs (.int .i64 (p)), VIs (.int .i64 ((-y) % p)), VSl wr m (plusL p (N.getD r []) (N.getD dn []) ((-y) % p)), VIs (.pointer (some ⟨g, r, none⟩))] (fun w' => w'.cell? ⟨g, r, none⟩ = some (.slice (some ⟨gr, or', none⟩) m cr) ∧ w'.cell? ⟨gr, or' + kn, none⟩ = some (.int .i64 y) ∧ Below wr.heap.size wr w') (by kernel_rfl) (by kernel_rfl) (fun _ _ h hb => keepB2 h hb (Nat.le_refl _)) (⟨hcr, hcy, zG.drew⟩) (fun x => ?_)
                refine zS (fun w' hS hV K hK => ?_) ?_
                · have q0 := hS.1; have q1 := hS.2.1; have q2 := hS.2.2; go_simp; exact zO hK
                refine zS (fun w' hS hV K hK => ?_) ?_
                · have q0 := hS.1; have q1 := hS.2.1; have q2 := hS.2.2; go_simp; exact zO hK
                refine zS (fun w' hS hV K hK => ?_) ?_
                · have q0 := hS.1; have q1 := hS.2.1; have q2 := hS.2.2; go_simp; exact zO hK
                refine zS (fun w' hS hV K hK => ?_) ?_
                · have q0 := hS.1; have q1 := hS.2.1; have q2 := hS.2.2; go_simp; exact zO hK
                refine zS (fun w' hS hV K hK => ?_) ?_
                · have q0 := hS.1; have q1 := hS.2.1; have q2 := hS.2.2; go_simp; exact zO hK
                refine zS (fun w' hS hV K hK => ?_) ?_
                · have e3 := zQ hV 3; have e4 := zQ hV 4; have q0 := hS.1; have q1 := hS.2.1; have q2 := hS.2.2; go_simp; exact zO hK
                refine zS (fun w' hS hV K hK => ?_) ?_
                · have e5 := zQ hV 5; have q0 := hS.1; have q1 := hS.2.1; have q2 := hS.2.2; go_simp; exact zO hK
                refine zS (fun w' hS hV K hK => ?_) ?_
                · have q0 := hS.1; have q1 := hS.2.1; have q2 := hS.2.2; go_simp; exact zO hK
                refine zS (fun w' hS hV K hK => ?_) ?_
                · have q0 := hS.1; have q1 := hS.2.1; have q2 := hS.2.2; go_simp; exact zO hK
                refine zS (fun w' hS hV K hK => ?_) ?_
                · have q0 := hS.1; have q1 := hS.2.1; have q2 := hS.2.2; go_simp; exact zO hK
                refine zS (fun w' hS hV K hK => ?_) ?_
                · have q0 := hS.1; have q1 := hS.2.1; have q2 := hS.2.2; go_simp; exact zO hK
                refine zS (fun w' hS hV K hK => ?_) ?_
                · have e9 := zQ hV 9; have e10 := zQ hV 10; have q0 := hS.1; have q1 := hS.2.1; have q2 := hS.2.2; go_simp; exact zO hK
                refine zS (fun w' hS hV K hK => ?_) ?_
                · have e11 := zQ hV 11; have q0 := hS.1; have q1 := hS.2.1; have q2 := hS.2.2; go_simp; exact zO hK
                refine zS (fun w' hS hV K hK => ?_) ?_
                · have q0 := hS.1; have q1 := hS.2.1; have q2 := hS.2.2; go_simp; exact zO hK
                refine zS (fun w' hS hV K hK => ?_) ?_
                · have e12 := zQ hV 12; have e13 := zQ hV 13; have q0 := hS.1; have q1 := hS.2.1; have q2 := hS.2.2; go_simp; exact zO hK
                refine zS (fun w' hS hV K hK => ?_) ?_
                · have e14 := zQ hV 14; have q0 := hS.1; have q1 := hS.2.1; have q2 := hS.2.2; go_simp; exact zO hK
                refine zS (fun w' hS hV K hK => ?_) ?_
                · have e8 := zQ hV 8; have e15 := zQ hV 15; have q0 := hS.1; have q1 := hS.2.1; have q2 := hS.2.2; go_simp; exact zO hK
                refine zS (fun w' hS hV K hK => ?_) ?_
                · have q0 := hS.1; have q1 := hS.2.1; have q2 := hS.2.2; go_simp; exact zO hK
                refine zS (fun w' hS hV K hK => ?_) ?_
                · have e16 := zQ hV 16; have e17 := zQ hV 17; have q0 := hS.1; have q1 := hS.2.1; have q2 := hS.2.2; go_simp; exact zO hK
                refine zS (fun w' hS hV K hK => ?_) ?_
                · have e2 := zQ hV 2; have e6 := zQ hV 6; have e7 := zQ hV 7; have e18 := zQ hV 18; have q0 := hS.1; have q1 := hS.2.1; have q2 := hS.2.2; go_simp; refine (l02Plus_any p _ m _ _ m _ ((-y) % p) _ _ _ hp hp2 hm (Nat.le_refl _) (HRR.out.rd.below hS.2.2) HR1.out.2 ((Own.rd HO4.out).below hS.2.2) HD1.out (by omega) (by omega)).mono ?_; rintro e v1 ⟨A2, c2, rfl, hM⟩; exact hK.out _ _ _ rfl rfl ⟨_, _, rfl, hM.after hS.2.2⟩ hM.b
                refine zS (fun w' hS hV K hK => ?_) ?_
                · have e0 := zQ hV 0; have e1 := zQ hV 1; have q0 := hS.1; have q1 := hS.2.1; have q2 := hS.2.2; go_simp; exact zO hK
                refine fun w' hS hV => ?_
                have e0 := zT hV 0
                have e1 := zT hV 1
                have e2 := zT hV 2
                have e3 := zT hV 3
                have e4 := zT hV 4
                have e5 := zT hV 5
                have e6 := zT hV 6
                have e7 := zT hV 7
                have e8 := zT hV 8
                have e9 := zT hV 9
                have e10 := zT hV 10
                have e11 := zT hV 11
                have e12 := zT hV 12
                have e13 := zT hV 13
                have e14 := zT hV 14
                have e15 := zT hV 15
                have e16 := zT hV 16
                have e17 := zT hV 17
                have e18 := zT hV 18
                obtain ⟨A19, c19, e19, h19⟩ := hV 19 (by decide)
                have e20 := zT hV 20
                simp only [e0, e1, e2, e3, e4, e5, e6, e7, e8, e9, e10, e11, e12, e13, e14, e15, e16, e17, e18, e19, e20]
                clear e0 e1 e2 e3 e4 e5 e6 e7 e8 e9 e10 e11 e12 e13 e14 e15 e16 e17 e18 e19 e20
                obtain ⟨q0, q1, q2⟩ := hS
                have ff := (HM4.out.below q2).frozen_ r
                refine any_one (j := 21) (by kernel_rfl) (Eq.trans (by simp only [zA, zB, zC]; exact rfl) rfl) (fun K hK => ?_)
                go_simp
                refine hK.out _ _ (wpAny_done (by kernel_rfl) ?_ _)
                have hM5 := HM4.out.setRow h19 r
                have hM6 : MkII w (w'.setCell ⟨g, r, none⟩ (.slice A19 m c19)) (some ⟨g, 0, none⟩) n c1 (clearTo p N dn kn (r + 1)) := by
                 rw [clearTo_succ p N dn kn r (by rw [HTS.out.2]; exact hlr) hrd, HEY.out, plusL_mod p _ _ (k' := (-y) % p) (by rw [Int.emod_emod_of_dvd _ (Int.dvd_refl _)])]; exact hM5
                have hO6 := (HM4.out.below q2).rowKept (HO4.out.below q2) r (.slice A19 m c19)
                clear q0 q1 q2 ff hM5 h19
                go_wp2
                go_roundw
                case rel => exact ⟨r + 1, by omega, by go_num, hM6, hO6⟩
                case measure => simp [intOf]; omega
            · obtain rfl : r = n := by omega
              have HM4 := Lib.hid hM4
              clear hM4
              go_wp2
              go_roundw
              case rel => exact ⟨dn + 1, kn + 1, by go_num, by go_num, by omega, by rw [HNEXT.out], by rw [HNEXT.out]; exact HM4.out⟩
              case measure => simp [intOf]; omega
         · have hx0' : xe = 0 := by simpa using hz
           go_wp2
           go_round
           case rel => exact ⟨j + 1, by omega, by omega, by go_num, Lib.hid (by rw [← hj3.out, HPV.out, if_pos (by rw [HE.out]; exact hx0')])⟩
           case measure => simp [intOf]; omega
       · obtain rfl : j = n := by omega
         have HVP : Hid (pivOf L kn dn = j) := Lib.hid (by rw [← hj3.out, Nat.sub_self]; rfl)
         have HNEXT : Hid (basisTo p M (kn + 1) = (L, dn)) := Lib.hid (by
          rw [HSUC.out]; unfold stepB; rw [if_pos (by simp only; rw [HVP.out, HL1.out])])
         go_wp2
         go_roundw
         case rel => exact ⟨dn, kn + 1, rfl, by go_num, by omega, by rw [HNEXT.out], by rw [HNEXT.out]; exact HM.out⟩
         case measure => simp [intOf]; omega
    · have HBE : Hid (basisL p M = L.take dn ∧ (L.take dn).length = dn) := Lib.hid ⟨by
       by_cases hk2 : kn = m
       · exact HEND.out hk2
       · exact HFULL.out (by omega), by rw [List.length_take, HL1.out]; omega⟩
      go_wp2
      all_goals
       go_ret
       rw [HBE.out.1, HBE.out.2]
       exact ⟨_, _, rfl, HM.out.cut hd1⟩
 · obtain rfl : n = 0 := by omega
   obtain rfl : M = [] := List.eq_nil_of_length_eq_zero hML
   clear hT HT
   have HBN := Lib.hid (basisL_nil p)
   go_enter Tryz.func189, Tryz.ntmps189
   go_wp2_with fail
   refine hclone.mono ?_
   rintro e w1 ⟨A1, c1, rfl, hM1⟩
   clear hclone
   go_wp2
   go_loopw [6, 7] (fun d q wr => d = .int .i64 0 ∧ q = .int .i64 0 ∧ wr = w1) (fun _ _ _ => 0)
   case atStart => exact ⟨rfl, rfl, rfl⟩
   case round =>
    obtain ⟨rfl, rfl, rfl⟩ := hrel
    rcases hM1 with ⟨rows, hm1, hn1⟩
    have hcap := hm1.2.cap
    rcases hm1.2.form with ⟨rfl, _⟩ | ⟨g, rfl, _, _⟩
    all_goals
     go_wp2
     go_ret
     rw [HBN.out]
     exact ⟨_, _, rfl, rows, hm1, hn1⟩
theorem ldIdx_spec {B : List (List Int)} {k i : Nat} (h : ldIdx B k = some i) : i < B.length ∧ ld B i = k := by
 unfold ldIdx at h
 exact ⟨by simpa using List.mem_of_find?_eq_some h, by simpa using List.find?_some h⟩
/-- Is the row with the first at place k not among the first j? -/
def leftFrom (B : List (List Int)) (j k : Nat) : Bool := match ldIdx B k with | some i => decide (j ≤ i) | none => false
theorem leftFrom_zero {n : Nat} {B : List (List Int)} (hR : Red n B) {k : Nat} (h : isLd B k = true) : leftFrom B 0 k = true := by
 obtain ⟨i, hi, rfl⟩ := isLd_iff.1 h
 unfold leftFrom
 rw [ldIdx_some hR hi]
 simp
theorem leftFrom_succ {n : Nat} {B : List (List Int)} (hR : Red n B) {j : Nat} (hj : j < B.length) (k : Nat) : (leftFrom B j k && !(k == ld B j)) = leftFrom B (j + 1) k := by
 unfold leftFrom
 cases h : ldIdx B k with
 | none => rfl
 | some i =>
  obtain ⟨hi, hk⟩ := ldIdx_spec h
  by_cases hij : i = j
  · subst hij
    simp [hk]
  · have hne : ¬ k = ld B j := fun e => hij (hR.inj hi hj (hk.trans e))
    have : (k == ld B j) = false := by simpa using hne
    simp only [this, Bool.not_false, Bool.and_true]
    rw [Bool.eq_iff_iff, decide_eq_true_eq, decide_eq_true_eq]
    omega
theorem leftFrom_end {B : List (List Int)} (k : Nat) : leftFrom B B.length k = false := by
 unfold leftFrom
 cases h : ldIdx B k with
 | none => rfl
 | some i =>
  have := (ldIdx_spec h).1
  simp only [decide_eq_false_iff_not]
  omega
theorem lds_contains (B : List (List Int)) (k : Nat) : (tab B.length fun i => ((ld B i : Nat) : Int)).contains (k : Int) = isLd B k := by
 rw [Bool.eq_iff_iff, List.contains_iff_mem, isLd_iff]
 constructor
 · intro h
   obtain ⟨i, hi, e⟩ := tab_mem h
   exact ⟨i, hi, by omega⟩
 · rintro ⟨i, hi, rfl⟩
   unfold tab
   exact List.mem_map.2 ⟨i, by simpa using hi, rfl⟩
theorem firstL_ld {n : Nat} {B : List (List Int)} (hR : Red n B) {j : Nat} (hj : j < B.length) (hl : B[j].length = n) : firstL B[j] = ((ld B j : Nat) : Int) := by
 have h1 := hR.lt j hj
 unfold ld at h1 ⊢
 rw [getD_of_lt [] hj] at h1 ⊢
 unfold firstL
 rw [if_pos (by omega)]
set_option maxHeartbeats 400000 in
set_option maxRecDepth 8000 in
theorem l01Index_any (A : Option Addr) (n c : Nat) (xs : List Int) (v : Int) (w : World) (hn : n ≤ 1099511627776) (ha : Rd w A n (ints xs)) :
    Calls Tryz.prog 252 #[.slice A n c, .int .i64 v] w fun e w' => ∃ r : Int, e = .returned (.int .i64 r) ∧ decide (0 ≤ r) = xs.contains v ∧ w = w' := by
 have hxl : xs.length = n := by have := ha.1; rwa [ints_length] at this
 have Hx := Lib.hid hxl; clear hxl
 go_enter Tryz.func252, Tryz.ntmps252
 go_wp2
 go_loop [5] (fun i => ∃ k : Nat, k ≤ n ∧ i = .int .i64 k ∧ (xs.take k).contains v = false) (fun i => n - (intOf i).toNat)
 case atStart => exact ⟨0, by omega, rfl, by simp⟩
 case round =>
  obtain ⟨k, hk, rfl, ht⟩ := hrel
  have H := Lib.hid ht; clear ht
  by_cases hlt : k < n
  · obtain ⟨g, o, rfl, hx, hcx⟩ := ha.int hlt
    clear ha
    cases hi : (xs[k] == v)
    all_goals
     have HI := Lib.hid hi
     go_wp2
    · go_round
      case rel =>
       refine ⟨k + 1, by omega, by go_num, ?_⟩
       rw [List.take_succ_eq_append_getElem hx, List.contains_eq_any_beq, List.any_append, ← List.contains_eq_any_beq, H.out]
       have := HI.out
       simp only [beq_eq_false_iff_ne, ne_eq] at this
       simp only [List.any_cons, List.any_nil, Bool.or_false, Bool.false_or, beq_eq_false_iff_ne, ne_eq]
       exact fun e => this e.symm
      case measure => simp [intOf]; omega
    · go_ret
      refine ⟨_, rfl, ?_, rfl⟩
      have hv : xs[k] = v := by simpa using HI.out
      have : xs.contains v = true := by rw [List.contains_iff_mem, ← hv]; exact List.getElem_mem hx
      simpa using this
  · go_wp2
    go_ret
    refine ⟨_, rfl, ?_, rfl⟩
    have := H.out
    rw [List.take_of_length_le (by rw [Hx.out]; omega)] at this
    simpa using this
set_option maxHeartbeats 400000 in
set_option maxRecDepth 8000 in
theorem l01Has_any (A : Option Addr) (n c : Nat) (xs : List Int) (v : Int) (w : World) (hn : n ≤ 1099511627776) (ha : Rd w A n (ints xs)) :
    Calls Tryz.prog 190 #[.slice A n c, .int .i64 v] w fun e w' => e = .returned (.bool (xs.contains v)) ∧ w = w' := by
 go_enter Tryz.func190, Tryz.ntmps190
 go_wp2_with fail
 refine (l01Index_any _ _ _ _ _ _ hn ha).mono ?_
 rintro e w1 ⟨r, rfl, hr, rfl⟩
 have HR := Lib.hid hr; clear hr
 go_wp2
 go_ret
 exact ⟨ret_bool HR.out, rfl⟩
theorem l01Has_b {b : Bool} (A : Option Addr) (n c : Nat) (xs : List Int) (v : Int) (w : World) (hn : n ≤ 1099511627776) (ha : Rd w A n (ints xs)) (h : xs.contains v = b) :
    Calls Tryz.prog 190 #[.slice A n c, .int .i64 v] w fun e w' => e = .returned (.bool b) ∧ w = w' := h ▸ l01Has_any A n c xs v w hn ha
set_option maxHeartbeats 6400000 in
set_option maxRecDepth 8000 in
theorem l02Kernel_any (p : Int) (A : Option Addr) (r0 c : Nat) (M : List (List Int)) (n : Nat) (w : World) (HP : isP p = true) (h0 : 0 < r0) (hr0 : r0 ≤ 65536) (hn : n ≤ 65536) (ha : RdII w A r0 M) (hT : Tab p n M) :
    Calls Tryz.prog 82 #[.int .i64 p, .slice A r0 c] w fun e w' => ∃ A' c', e = .returned (.slice A' (kernL p M n).length c') ∧ MkII w w' A' (kernL p M n).length c' (kernL p M n) := by
 obtain ⟨hp3, hp2⟩ := isP_ge HP
 have hp : 2 ≤ p := by omega
 have hbas := fun w' (hb : Below w.heap.size w w') => l02Basis_any p A r0 c M n w' HP hr0 hn (ha.below hb) hT
 have hred := basisL_red HP M hT
 have htab := basisL_tab (p := p) (by omega) M hT
 have HKL : Hid (kernL p M n = basisL p (freeTo p (basisL p M) n n)) := Lib.hid rfl
 have HKT := Lib.hid (kernL_tab hp M n)
 have HKN := Lib.hid (kernL_len HP M n)
 have hdl := hred.len
 obtain ⟨g, o, rfl, -⟩ := ha.at_ h0
 obtain ⟨A0, c0, hc0⟩ := ha.row0 h0 hT
 obtain ⟨B, hB⟩ : ∃ B, B = basisL p M := ⟨_, rfl⟩
 rw [← hB] at hbas hred htab hdl HKL
 have HRED := Lib.hid hred
 have HTAB := Lib.hid htab
 have HP' := Lib.hid HP
 obtain ⟨d, hd⟩ : ∃ d, d = B.length := ⟨_, rfl⟩
 rw [← hd] at hbas hdl
 have HD := Lib.hid hd
 have HBAS := Lib.hid hbas
 clear hB hT ha hred htab HP hd hbas
 have hP0 : (p == 0) = false := by simp; omega
 have hP1 : (p == -1) = false := by simp; omega
 have hP2 : ¬ p = 0 := by omega
 go_enter Tryz.func82, Tryz.ntmps82
 go_wp2
 refine wp_obs 9 [[],[],[0,1],[],[3],[3,4],[3,4,5],[0,1,2],[3,4,5,6]] [VIs (.int .i64 (p)), VIs (.slice (some ⟨g, o, none⟩) r0 c), VMat w d B, VIs (.slice (some ⟨g, o, none⟩) r0 c), VIs (.pointer (some ⟨g, o, none⟩)), VIs (.slice A0 n c0), VIs (.int .i64 (n)), VMat w d B, VIs (.int .i64 (n))] (fun w' => w'.cell? ⟨g, o, none⟩ = some (.slice A0 n c0) ∧ Below w.heap.size w w') (by kernel_rfl) (by kernel_rfl) (fun _ _ h hb => keepB1 h hb (Nat.le_refl _)) (⟨hc0, zG.drew⟩) (fun x => ?_)
 refine zS (fun w' hS hV K hK => ?_) ?_
 · have q0 := hS.1; have q1 := hS.2; go_simp; exact zO hK
 refine zS (fun w' hS hV K hK => ?_) ?_
 · have q0 := hS.1; have q1 := hS.2; go_simp; exact zO hK
 refine zS (fun w' hS hV K hK => ?_) ?_
 · have e0 := zQ hV 0; have e1 := zQ hV 1; have q0 := hS.1; have q1 := hS.2; go_simp; refine (HBAS.out _ hS.2).mono ?_; rintro e v1 ⟨A2, c2, rfl, hM⟩; exact hK.out _ _ _ rfl rfl ⟨_, _, rfl, hM.after hS.2⟩ hM.b
 refine zS (fun w' hS hV K hK => ?_) ?_
 · have q0 := hS.1; have q1 := hS.2; go_simp; exact zO hK
 refine zS (fun w' hS hV K hK => ?_) ?_
 · have e3 := zQ hV 3; have q0 := hS.1; have q1 := hS.2; go_simp; exact zO hK
 refine zS (fun w' hS hV K hK => ?_) ?_
 · have e4 := zQ hV 4; have q0 := hS.1; have q1 := hS.2; go_simp; exact zO hK
 refine zS (fun w' hS hV K hK => ?_) ?_
 · have e5 := zQ hV 5; have q0 := hS.1; have q1 := hS.2; go_simp; exact zO hK
 refine zS (fun w' hS hV K hK => ?_) ?_
 · obtain ⟨A2, c2, e2, h2⟩ := hV 2 (by decide); have q0 := hS.1; have q1 := hS.2; go_simp; exact hK.out _ _ _ rfl rfl ⟨_, _, rfl, h2⟩ zG
 refine zS (fun w' hS hV K hK => ?_) ?_
 · have e6 := zQ hV 6; have q0 := hS.1; have q1 := hS.2; go_simp; exact zO hK
 refine fun w' hS hV => ?_
 have e0 := zT hV 0
 have e1 := zT hV 1
 obtain ⟨A2, c2, e2, h2⟩ := hV 2 (by decide)
 have e3 := zT hV 3
 have e4 := zT hV 4
 have e5 := zT hV 5
 have e6 := zT hV 6
 obtain ⟨A7, c7, e7, h7⟩ := hV 7 (by decide)
 have e8 := zT hV 8
 simp only [e0, e1, e2, e3, e4, e5, e6, e7, e8]
 clear e0 e1 e2 e3 e4 e5 e6 e7 e8
 refine wpAny_done (by kernel_rfl) ?_ _
 obtain ⟨q0, q1⟩ := hS
 have HB7 := Lib.hid h7
 obtain ⟨wb, hwb⟩ : ∃ W, W = w' := ⟨_, rfl⟩
 rw [← hwb] at HB7 q1 ⊢
 clear h7 h2 hV q0 hwb hc0 HBAS
 have HQ := Lib.hid q1
 clear q1
 have hp0 := Mk.lit (E := 2) (Below.refl wb.heap.size wb) #[] (by simp)
 have hP0' : MkI wb ((wb.alloc (.cells #[] 2)).alloc (.cells #[] 24)) (some ⟨wb.heap.size, 0, none⟩) 0 0 (tab 0 fun i => ((ld B i : Nat) : Int)) := by
  have := hp0.alloc (.cells #[] 24)
  simpa [MkI, ints, tab] using this
 have hl0 : Mk wb ((wb.alloc (.cells #[] 2)).alloc (.cells #[] 24)) 24 (some ⟨wb.heap.size + 1, 0, none⟩) 0 0 [] := by
  have := Mk.lit (E := 24) (w0 := wb) (w := wb.alloc (.cells #[] 2)) (zG.alloc (Nat.le_refl _) _) #[] (by simp)
  simpa using this
 clear hp0
 go_wp2
 obtain ⟨w2, hw2⟩ : ∃ W, W = (wb.alloc (.cells #[] 2)).alloc (.cells #[] 24) := ⟨_, rfl⟩
 rw [← hw2] at hP0' hl0 ⊢
 clear hw2
 have hlo : Own w2 wb.heap.size 24 (some ⟨wb.heap.size + 1, 0, none⟩) 0 0 [] := hl0.2
 clear hl0
 go_loopw [7, 9] (fun pv i wr => ∃ (j : Nat) (A' : Option Addr) (c' : Nat), j ≤ d ∧ i = .int .i64 j ∧ pv = .slice A' j c' ∧ MkI wb wr A' j c' (tab j fun i => ((ld B i : Nat) : Int)) ∧ Own wr wb.heap.size 24 (some ⟨wb.heap.size + 1, 0, none⟩) 0 0 []) (fun _ i _ => d - (intOf i).toNat)
 case atStart => exact ⟨0, _, _, by omega, rfl, rfl, hP0', hlo⟩
 case round =>
  obtain ⟨j, A', c', hj, rfl, rfl, hM, hlo2⟩ := hrel
  clear hP0' hlo
  have HLO := Lib.hid hlo2
  clear hlo2
  by_cases hlj : j < d
  · obtain ⟨g7, o7, rfl, hxj, Aj, cj, hcj, hrj, -⟩ := (HB7.out.rd.below hM.b).at_ hlj
    have HRJ := Lib.hid (HTAB.out B[j] (List.getElem_mem hxj))
    have hl := HRJ.out.1
    have hfl := firstL_ld HRED.out hxj hl
    rw [hl] at hcj hrj
    have hlead := l02First_any Aj n cj B[j] wr (by omega) hrj
    rw [hfl] at hlead
    have HV : Hid ((tab (j + 1) fun i => ((ld B i : Nat) : Int)) = (tab j fun i => ((ld B i : Nat) : Int)) ++ [((ld B j : Nat) : Int)]) := Lib.hid (tab_succ _ _)
    obtain ⟨l, hl'⟩ : ∃ l, l = ld B j := ⟨_, rfl⟩
    rw [← hl'] at hlead HV
    have HM := Lib.hid hM
    clear hl hl' hfl hrj hM HRJ
    go_wp2_with (first
     | (go_at_call 151; refine hlead.mono ?_; rintro e w' ⟨rfl, rfl⟩)
     | (at_builtin; refine wpList_app1 wb _ 24 2 _ _ Tryz.underlying24 info_i rfl (by omega) rfl _ _ rfl A' j c' _ _ HM.out (by omega) rfl rfl rfl ?_; intro A4 c4 w4 hM4 hg4 _))
    go_roundw
    case rel => exact ⟨j + 1, A4, c4, by omega, by go_num, rfl, by rw [HV.out]; simpa [MkI, ints] using hM4, HLO.out.grown hg4 (HLO.out.ne HM.out.2 (by decide))⟩
    case measure => simp [intOf]; omega
  · obtain rfl : j = d := by omega
    have HPV := Lib.hid hM
    have HCON : Hid (∀ f : Nat, (tab j fun i => ((ld B i : Nat) : Int)).contains (f : Int) = isLd B f) := Lib.hid (fun f => by rw [HD.out]; exact lds_contains B f)
    have hM0 : MkII wb wr (some ⟨wb.heap.size + 1, 0, none⟩) 0 0 (freeTo p B n 0) := ⟨[], ⟨hM.b, HLO.out⟩, Nest.nil _ _⟩
    have hpo : Own wr wb.heap.size 2 A' j c' (ints (tab j fun i => ((ld B i : Nat) : Int))) := hM.2
    have hmk := make_i (P := Tryz.prog) 24 2 Tryz.underlying24 info_i n (by omega)
    clear hM
    go_wp2
    go_loopw [8, 10] (fun out i wr => ∃ (f q : Nat) (A2 : Option Addr) (c2 : Nat), f ≤ n ∧ q ≤ f ∧ i = .int .i64 f ∧ out = .slice A2 q c2 ∧ MkII wb wr A2 q c2 (freeTo p B n f) ∧ Own wr wb.heap.size 2 A' j c' (ints (tab j fun i => ((ld B i : Nat) : Int)))) (fun _ i _ => n - (intOf i).toNat)
    case atStart => exact ⟨0, 0, _, _, by omega, by omega, rfl, rfl, hM0, hpo⟩
    case round =>
     obtain ⟨f, q, A2, c2, hf, hq, rfl, rfl, hM, hpo2⟩ := hrel
     clear hM0 hpo
     obtain ⟨wo, rfl⟩ : ∃ W, W = wr := ⟨_, rfl⟩
     have HM := Lib.hid hM
     have HPO := Lib.hid hpo2
     clear hM hpo2
     by_cases hlf : f < n
     · cases hlb : isLd B f
       · have hhas := l01Has_b A' j c' (tab j fun i => ((ld B i : Nat) : Int)) (f : Int) wo (by omega) (Own.rd HPO.out) ((HCON.out f).trans hlb)
         have hm1 := Mk.made (E := 2) (n := n) (z := .int .i64 0) (Below.refl wo.heap.size wo) (by simp only [maxLen]; omega)
         rw [ints_replicate] at hm1
         obtain ⟨u1, hc1⟩ := hm1.2.cellI hlf
         have hf1 := hm1.2.frozen_ f
         have hm2 := (hm1.set f (.int .i64 1)).1
         rw [ints_set, World.setCell_alloc_at _ _ _ _ _ rfl] at hm2
         have hm3 := hm2
         rw [show (List.replicate n (0 : Int)).set f 1 = freePart p B n f (leftFrom B 0) from (freePart_start p B n f hlf (leftFrom B 0) (fun k _ hk => leftFrom_zero HRED.out hk)).symm] at hm3
         clear hm1 hm2
         go_wp2_with (go_at_call 190; refine hhas.mono ?_; rintro e w' ⟨rfl, rfl⟩)
         go_loopw [12] (fun i wr => ∃ k : Nat, k ≤ j ∧ i = .int .i64 k ∧ MkI wo wr (some ⟨wo.heap.size, 0, none⟩) n n (freePart p B n f (leftFrom B k))) (fun i _ => j - (intOf i).toNat)
         case atStart => exact ⟨0, by omega, rfl, hm3⟩
         case round =>
          obtain ⟨k, hk, rfl, hmv⟩ := hrel
          clear hm3 hc1 hf1 hhas
          have HMV := Lib.hid hmv
          clear hmv
          by_cases hlk : k < j
          · have hbo := HM.out.b.trans (HMV.out.b.mono HM.out.b.size)
            obtain ⟨g7, o7, rfl, hxl, Ai, ci, hci, hri, -⟩ := (HB7.out.rd.below hbo).at_ hlk
            have HRI := Lib.hid (HTAB.out B[k] (List.getElem_mem hxl))
            have hl := HRI.out.1
            rw [hl] at hci hri
            obtain ⟨gi, oi, rfl, hxe, hce⟩ := hri.int hlf
            have HE : Hid (ent B k f = B[k][f]) := Lib.hid (ent_at hxl hxe)
            obtain ⟨y, hy⟩ : ∃ y, y = B[k][f] := ⟨_, rfl⟩
            have hyb : 0 ≤ y ∧ y < p := hy ▸ HRI.out.2 _ (List.getElem_mem hxe)
            rw [← hy] at hce HE
            have hld := HRED.out.lt k (by rw [← HD.out]; exact hlk)
            obtain ⟨gp, op, rfl, hxp, hcp⟩ := ((Own.rd HPO.out).below HMV.out.b).int hlk
            have hep : (tab j fun i => ((ld B i : Nat) : Int))[k] = ((ld B k : Nat) : Int) := tab_get j _ k hxp
            rw [hep] at hcp
            have HST : Hid ((freePart p B n f (leftFrom B k)).set (ld B k) ((-y) % p) = freePart p B n f (leftFrom B (k + 1))) := Lib.hid (by
             rw [← HE.out, freePart_step HRED.out (by rw [← HD.out]; exact hlk) hlb]
             exact freePart_congr p B n f (fun k' _ => leftFrom_succ HRED.out (by rw [← HD.out]; exact hlk) k'))
            have hmb := emod_small (-y) p (by omega)
            have hwy := i64_small (x := p - y) (by omega) (by omega)
            have hty : (p - y).tmod p = (-y) % p := by rw [Int.tmod_eq_emod_of_nonneg (by omega)]; simp
            obtain ⟨l, hl'⟩ : ∃ l, l = ld B k := ⟨_, rfl⟩
            rw [← hl'] at hcp HST hld
            clear hl hl' hy hri HRI hxl hxe hxp hep hbo
            go_wp2
            refine wp_obs 17 [[],[],[],[1,2],[1,2,3],[],[],[],[6,7],[6,7,8],[],[6,7,8,9,10],[6,7,8,9,10,11],[5,6,7,8,9,10,11,12],[],[5,6,7,8,9,10,11,12,13,14],[0,1,2,3,4],[0,1,2,3,4,5,6,7,8,9,10,11,12,13,14,15,16]] [VIs (.slice (some ⟨wo.heap.size, 0, none⟩) n n), VIs (.slice (some ⟨gp, op, none⟩) j c'), VIs (.int .i64 (k)), VIs (.pointer (some ⟨gp, op + k, none⟩)), VIs (.int .i64 (l)), VIs (.int .i64 (p)), VIs (.slice (some ⟨g7, o7, none⟩) j c7), VIs (.int .i64 (k)), VIs (.pointer (some ⟨g7, o7 + k, none⟩)), VIs (.slice (some ⟨gi, oi, none⟩) n ci), VIs (.int .i64 (f)), VIs (.pointer (some ⟨gi, oi + f, none⟩)), VIs (.int .i64 (y)), VIs (.int .i64 (p - y)), VIs (.int .i64 (p)), VIs (.int .i64 ((-y) % p)), VIs (.pointer (some ⟨wo.heap.size, l, none⟩))] (fun w' => w'.cell? ⟨gp, op + k, none⟩ = some (.int .i64 l) ∧ w'.cell? ⟨g7, o7 + k, none⟩ = some (.slice (some ⟨gi, oi, none⟩) n ci) ∧ w'.cell? ⟨gi, oi + f, none⟩ = some (.int .i64 y) ∧ Below wr.heap.size wr w') (by kernel_rfl) (by kernel_rfl) (fun _ _ h hb => keepR3 h hb (Nat.le_refl _)) (⟨hcp, hci, hce, zG.drew⟩) (fun x => ?_)
            refine zS (fun w' hS hV K hK => ?_) ?_
            · have q0 := hS.1; have q1 := hS.2.1; have q2 := hS.2.2.1; have q3 := hS.2.2.2; go_simp; exact zO hK
            refine zS (fun w' hS hV K hK => ?_) ?_
            · have q0 := hS.1; have q1 := hS.2.1; have q2 := hS.2.2.1; have q3 := hS.2.2.2; go_simp; exact zO hK
            refine zS (fun w' hS hV K hK => ?_) ?_
            · have q0 := hS.1; have q1 := hS.2.1; have q2 := hS.2.2.1; have q3 := hS.2.2.2; go_simp; exact zO hK
            refine zS (fun w' hS hV K hK => ?_) ?_
            · have e1 := zQ hV 1; have e2 := zQ hV 2; have q0 := hS.1; have q1 := hS.2.1; have q2 := hS.2.2.1; have q3 := hS.2.2.2; go_simp; exact zO hK
            refine zS (fun w' hS hV K hK => ?_) ?_
            · have e3 := zQ hV 3; have q0 := hS.1; have q1 := hS.2.1; have q2 := hS.2.2.1; have q3 := hS.2.2.2; go_simp; exact zO hK
            refine zS (fun w' hS hV K hK => ?_) ?_
            · have q0 := hS.1; have q1 := hS.2.1; have q2 := hS.2.2.1; have q3 := hS.2.2.2; go_simp; exact zO hK
            refine zS (fun w' hS hV K hK => ?_) ?_
            · have q0 := hS.1; have q1 := hS.2.1; have q2 := hS.2.2.1; have q3 := hS.2.2.2; go_simp; exact zO hK
            refine zS (fun w' hS hV K hK => ?_) ?_
            · have q0 := hS.1; have q1 := hS.2.1; have q2 := hS.2.2.1; have q3 := hS.2.2.2; go_simp; exact zO hK
            refine zS (fun w' hS hV K hK => ?_) ?_
            · have e6 := zQ hV 6; have e7 := zQ hV 7; have q0 := hS.1; have q1 := hS.2.1; have q2 := hS.2.2.1; have q3 := hS.2.2.2; go_simp; exact zO hK
            refine zS (fun w' hS hV K hK => ?_) ?_
            · have e8 := zQ hV 8; have q0 := hS.1; have q1 := hS.2.1; have q2 := hS.2.2.1; have q3 := hS.2.2.2; go_simp; exact zO hK
            refine zS (fun w' hS hV K hK => ?_) ?_
            · have q0 := hS.1; have q1 := hS.2.1; have q2 := hS.2.2.1; have q3 := hS.2.2.2; go_simp; exact zO hK
            refine zS (fun w' hS hV K hK => ?_) ?_
            · have e9 := zQ hV 9; have e10 := zQ hV 10; have q0 := hS.1; have q1 := hS.2.1; have q2 := hS.2.2.1; have q3 := hS.2.2.2; go_simp; exact zO hK
            refine zS (fun w' hS hV K hK => ?_) ?_
            · have e11 := zQ hV 11; have q0 := hS.1; have q1 := hS.2.1; have q2 := hS.2.2.1; have q3 := hS.2.2.2; go_simp; exact zO hK
            refine zS (fun w' hS hV K hK => ?_) ?_
            · have e5 := zQ hV 5; have e12 := zQ hV 12; have q0 := hS.1; have q1 := hS.2.1; have q2 := hS.2.2.1; have q3 := hS.2.2.2; go_simp; exact zO hK
            refine zS (fun w' hS hV K hK => ?_) ?_
            · have q0 := hS.1; have q1 := hS.2.1; have q2 := hS.2.2.1; have q3 := hS.2.2.2; go_simp; exact zO hK
            refine zS (fun w' hS hV K hK => ?_) ?_
            · have e13 := zQ hV 13; have e14 := zQ hV 14; have q0 := hS.1; have q1 := hS.2.1; have q2 := hS.2.2.1; have q3 := hS.2.2.2; go_simp; exact zO hK
            refine zS (fun w' hS hV K hK => ?_) ?_
            · have e0 := zQ hV 0; have e4 := zQ hV 4; have q0 := hS.1; have q1 := hS.2.1; have q2 := hS.2.2.1; have q3 := hS.2.2.2; go_simp; exact zO hK
            refine fun w' hS hV => ?_
            have e0 := zT hV 0
            have e1 := zT hV 1
            have e2 := zT hV 2
            have e3 := zT hV 3
            have e4 := zT hV 4
            have e5 := zT hV 5
            have e6 := zT hV 6
            have e7 := zT hV 7
            have e8 := zT hV 8
            have e9 := zT hV 9
            have e10 := zT hV 10
            have e11 := zT hV 11
            have e12 := zT hV 12
            have e13 := zT hV 13
            have e14 := zT hV 14
            have e15 := zT hV 15
            have e16 := zT hV 16
            simp only [e0, e1, e2, e3, e4, e5, e6, e7, e8, e9, e10, e11, e12, e13, e14, e15, e16]
            clear e0 e1 e2 e3 e4 e5 e6 e7 e8 e9 e10 e11 e12 e13 e14 e15 e16
            obtain ⟨q0, q1, q2, q3⟩ := hS
            have hm5 := HMV.out.below q3
            obtain ⟨hoc, hof⟩ := mkI_at hm5 hld
            refine any_one (j := 17) (by kernel_rfl) (Eq.trans (by simp only [zA, zB, zC]; exact rfl) rfl) (fun K hK => ?_)
            go_simp
            refine hK.out _ _ (wpAny_done (by kernel_rfl) ?_ _)
            have hset := (hm5.set l (.int .i64 ((-y) % p))).1
            rw [ints_set, HST.out] at hset
            clear q0 q1 q2 q3 hm5 hoc hof
            go_wp2
            go_roundw
            case rel => exact ⟨k + 1, by omega, by go_num, hset⟩
            case measure => simp [intOf]; omega
          · obtain rfl : k = j := by omega
            have HFR : Hid (MkI wo wr (some ⟨wo.heap.size, 0, none⟩) n n (freeRow p B n f)) := Lib.hid (by
             have e : freePart p B n f (leftFrom B k) = freeRow p B n f := freePart_congr p B n f (fun k' _ => by rw [HD.out]; exact leftFrom_end k')
             rw [← e]; exact HMV.out)
            go_wp2_with (at_builtin; refine wpList_appRowG wb wo _ rfl _ _ rfl A2 q c2 _ _ n n _ HM.out HFR.out (by omega) rfl ?_ ?_; (go_simp); intro A6 c6 w6 hM6 hg6 _)
            have hpn := (HPO.out.below HFR.out.b).grown hg6 ((HPO.out.below HFR.out.b).ne (HM.out.outer.choose_spec.below HFR.out.b).2 (by decide))
            go_roundw
            case rel => exact ⟨f + 1, q + 1, A6, c6, by omega, by omega, by go_num, rfl, by rw [freeTo_take hlb]; exact hM6, hpn⟩
            case measure => simp [intOf]; omega
       · have hhas := l01Has_b A' j c' (tab j fun i => ((ld B i : Nat) : Int)) (f : Int) wo (by omega) (Own.rd HPO.out) ((HCON.out f).trans hlb)
         go_wp2_with (go_at_call 190; refine hhas.mono ?_; rintro e w' ⟨rfl, rfl⟩)
         go_roundw
         case rel => exact ⟨f + 1, q, A2, c2, by omega, by omega, by go_num, rfl, by rw [freeTo_skip hlb]; exact HM.out, HPO.out⟩
         case measure => simp [intOf]; omega
     · obtain rfl : f = n := by omega
       have hlast := l02Basis_any p A2 q c2 (freeTo p B f f) f wo HP'.out (by omega) hn HM.out.rd (freeTo_tab hp B f f)
       rw [← HKL.out] at hlast
       have hbw : Below w.heap.size w wo := HQ.out.trans (HM.out.b.mono HQ.out.size)
       go_wp2_with fail
       refine hlast.mono ?_
       rintro e w5 ⟨A5, c5, rfl, hM5⟩
       have hcopy := l01Own2_any p A5 _ c5 (kernL p M f) f w5 (by have := HKN.out; omega) hn hM5.rd HKT.out
       go_wp2_with fail
       refine hcopy.mono ?_
       rintro e w6 ⟨A6, c6, rfl, hM6⟩
       go_wp2
       go_ret
       exact ⟨_, _, rfl, (hM6.after hM5.b).after hbw⟩
set_option maxHeartbeats 1600000 in
set_option maxRecDepth 8000 in
theorem transpose_any (p : Int) (A : Option Addr) (n c : Nat) (M : List (List Int)) (m : Nat) (w : World) (h0 : 0 < n) (hn : n ≤ 65536) (hm : m ≤ 65536) (ha : RdII w A n M) (hT : Tab p m M) :
    Calls Tryz.prog 154 #[.slice A n c] w fun e w' => ∃ A' c', e = .returned (.slice A' m c') ∧ MkII w w' A' m c' (transL M) := by
 have hML := ha.len
 have HTL : Hid (transL M = tab m fun k => tab n fun i => ent M i k) := Lib.hid (by unfold transL; rw [(hT.row (show 0 < M.length by omega)).1, hML])
 have HT := Lib.hid hT
 have HML := Lib.hid hML
 have hM0 : MkII w (w.alloc (.cells #[] 24)) (some ⟨w.heap.size, 0, none⟩) 0 0 [] := MkII.empty zG
 obtain ⟨g, o, rfl, hx0, A0, c0, hcx0, _, _⟩ := (ha.below hM0.b).at_ h0
 have hl0 : M[0].length = m := (HT.out M[0] (List.getElem_mem hx0)).1
 rw [hl0, Nat.add_zero] at hcx0
 clear hT hML hl0
 go_enter Tryz.func154, Tryz.ntmps154
 go_wp2
 clear hcx0
 obtain ⟨w1, hw1⟩ : ∃ W, W = w.alloc (.cells #[] 24) := ⟨_, rfl⟩
 rw [← hw1] at hM0 ⊢
 clear hw1
 go_loopw [3, 12] (fun out i wr => ∃ (k : Nat) (A' : Option Addr) (c' : Nat), k ≤ m ∧ i = .int .i64 k ∧ out = .slice A' k c' ∧ MkII w wr A' k c' (tab k fun k => tab n fun i => ent M i k)) (fun _ i _ => m - (intOf i).toNat)
 case atStart => exact ⟨0, _, _, by omega, rfl, rfl, by simpa [tab] using hM0⟩
 case round =>
  obtain ⟨k, A', c', hk, rfl, rfl, hM⟩ := hrel
  clear hM0
  obtain ⟨wo, rfl⟩ : ∃ W, W = wr := ⟨_, rfl⟩
  by_cases hlt : k < m
  · have hr0 := Mk.lit (E := 2) (Below.refl wo.heap.size wo) #[] (by simp)
    have hR0 : MkI wo (wo.alloc (.cells #[] 2)) (some ⟨wo.heap.size, 0, none⟩) 0 0 [] := by simpa [MkI, ints] using hr0
    have HM := Lib.hid hM
    clear hr0 hM
    go_wp2
    go_loopw [5, 18] (fun row i w2 => ∃ (j : Nat) (A2 : Option Addr) (c2 : Nat), j ≤ n ∧ i = .int .i64 j ∧ row = .slice A2 j c2 ∧ MkI wo w2 A2 j c2 (tab j fun i => ent M i k)) (fun _ i _ => n - (intOf i).toNat)
    case atStart => exact ⟨0, _, _, by omega, rfl, rfl, by simpa [tab] using hR0⟩
    case round =>
     obtain ⟨j, A2, c2, hj, rfl, rfl, hR⟩ := hrel
     clear hR0
     have HR := Lib.hid hR
     by_cases hlj : j < n
     · have hbb := HM.out.b.trans (hR.b.mono HM.out.b.size)
       obtain ⟨g', o', e', hxj, A3, c3, hcx, hr3, _⟩ := (ha.below hbb).at_ hlj
       injection e' with e'; injection e' with e1 e2 _
       subst e1; subst e2
       have hl3 : M[j].length = m := (HT.out M[j] (List.getElem_mem hxj)).1
       rw [hl3] at hcx hr3
       obtain ⟨g3, o3, rfl, hx3, hc3⟩ := hr3.int hlt
       have HV : Hid ((tab (j + 1) fun i => ent M i k) = (tab j fun i => ent M i k) ++ [M[j][k]]) := Lib.hid (by rw [tab_succ, ent_at hxj hx3])
       clear hR hr3 hl3 hbb ha
       go_wp2_with (at_builtin; refine wpList_app1 wo _ 24 2 _ _ Tryz.underlying24 info_i rfl (by omega) rfl _ _ rfl A2 j c2 _ _ HR.out (by omega) rfl rfl rfl ?_; intro A4 c4 w4 hM4 _ _)
       go_roundw
       case rel => exact ⟨j + 1, A4, c4, by omega, by go_num, rfl, by rw [HV.out]; simpa [MkI, ints] using hM4⟩
       case measure => simp [intOf]; omega
     · obtain rfl : j = n := by omega
       clear hR ha
       go_wp2_with (at_builtin; refine wpList_appRow w wo _ rfl _ _ rfl A' k c' _ A2 j c2 _ HM.out HR.out (by omega) rfl ?_ ?_; (go_simp); intro A4 c4 w4 hM4)
       go_roundw
       case rel => exact ⟨k + 1, A4, c4, by omega, by go_num, rfl, by rw [tab_succ]; exact hM4⟩
       case measure => simp [intOf]; omega
  · go_wp2
    go_ret
    obtain rfl : k = m := by omega
    exact ⟨_, _, rfl, by rw [HTL.out]; exact hM⟩
set_option maxHeartbeats 1600000 in
set_option maxRecDepth 8000 in
theorem l02Turn_any (p : Int) (A : Option Addr) (n c : Nat) (M : List (List Int)) (m : Nat) (w : World) (h0 : 0 < n) (hn : n ≤ 65536) (hm : m ≤ 65536) (ha : RdII w A n M) (hT : Tab p m M) :
    Calls Tryz.prog 165 #[.slice A n c] w fun e w' => ∃ A' c', e = .returned (.slice A' m c') ∧ MkII w w' A' m c' (transL M) := by
 have hML := ha.len
 have HTL : Hid (transL M = tab m fun k => tab n fun i => ent M i k) := Lib.hid (by unfold transL; rw [(hT.row (show 0 < M.length by omega)).1, hML])
 have HT := Lib.hid hT
 have HML := Lib.hid hML
 have hM0 : MkII w (w.alloc (.cells #[] 24)) (some ⟨w.heap.size, 0, none⟩) 0 0 [] := MkII.empty zG
 obtain ⟨g, o, rfl, _⟩ := ha.at_ h0
 clear hT hML
 go_enter Tryz.func165, Tryz.ntmps165
 go_wp2
 obtain ⟨w1, hw1⟩ : ∃ W, W = w.alloc (.cells #[] 24) := ⟨_, rfl⟩
 rw [← hw1] at hM0 ⊢
 clear hw1
 go_loopw [3, 4] (fun out i wr => ∃ (k : Nat) (A' : Option Addr) (c' : Nat), k ≤ m ∧ i = .int .i64 k ∧ out = .slice A' k c' ∧ MkII w wr A' k c' (tab k fun k => tab n fun i => ent M i k)) (fun _ i _ => m - (intOf i).toNat)
 case atStart => exact ⟨0, _, _, by omega, rfl, rfl, by simpa [tab] using hM0⟩
 case round =>
  obtain ⟨k, A', c', hk, rfl, rfl, hM⟩ := hrel
  clear hM0
  obtain ⟨wo, rfl⟩ : ∃ W, W = wr := ⟨_, rfl⟩
  obtain ⟨A0, c0, hcx0⟩ := (ha.below hM.b).row0 h0 HT.out
  by_cases hlt : k < m
  · have hr0 := Mk.lit (E := 2) (Below.refl wo.heap.size wo) #[] (by simp)
    have hR0 : MkI wo (wo.alloc (.cells #[] 2)) (some ⟨wo.heap.size, 0, none⟩) 0 0 [] := by simpa [MkI, ints] using hr0
    have HM := Lib.hid hM
    clear hr0 hM
    go_wp2
    go_loopw [5, 6] (fun row i w2 => ∃ (j : Nat) (A2 : Option Addr) (c2 : Nat), j ≤ n ∧ i = .int .i64 j ∧ row = .slice A2 j c2 ∧ MkI wo w2 A2 j c2 (tab j fun i => ent M i k)) (fun _ i _ => n - (intOf i).toNat)
    case atStart => exact ⟨0, _, _, by omega, rfl, rfl, by simpa [tab] using hR0⟩
    case round =>
     obtain ⟨j, A2, c2, hj, rfl, rfl, hR⟩ := hrel
     clear hR0 hcx0
     have HR := Lib.hid hR
     by_cases hlj : j < n
     · have hbb := HM.out.b.trans (hR.b.mono HM.out.b.size)
       obtain ⟨g', o', e', hxj, A3, c3, hcx, hr3, _⟩ := (ha.below hbb).at_ hlj
       injection e' with e'; injection e' with e1 e2 _
       subst e1; subst e2
       have hl3 : M[j].length = m := (HT.out M[j] (List.getElem_mem hxj)).1
       rw [hl3] at hcx hr3
       obtain ⟨g3, o3, rfl, hx3, hc3⟩ := hr3.int hlt
       have HV : Hid ((tab (j + 1) fun i => ent M i k) = (tab j fun i => ent M i k) ++ [M[j][k]]) := Lib.hid (by rw [tab_succ, ent_at hxj hx3])
       clear hR hr3 hl3 hbb ha
       go_wp2_with (at_builtin; refine wpList_app1 wo _ 24 2 _ _ Tryz.underlying24 info_i rfl (by omega) rfl _ _ rfl A2 j c2 _ _ HR.out (by omega) rfl rfl rfl ?_; intro A4 c4 w4 hM4 _ _)
       go_roundw
       case rel => exact ⟨j + 1, A4, c4, by omega, by go_num, rfl, by rw [HV.out]; simpa [MkI, ints] using hM4⟩
       case measure => simp [intOf]; omega
     · obtain rfl : j = n := by omega
       clear hR ha
       go_wp2_with (at_builtin; refine wpList_appRow w wo _ rfl _ _ rfl A' k c' _ A2 j c2 _ HM.out HR.out (by omega) rfl ?_ ?_; (go_simp); intro A4 c4 w4 hM4)
       go_roundw
       case rel => exact ⟨k + 1, A4, c4, by omega, by go_num, rfl, by rw [tab_succ]; exact hM4⟩
       case measure => simp [intOf]; omega
  · go_wp2
    go_ret
    obtain rfl : k = m := by omega
    exact ⟨_, _, rfl, by rw [HTL.out]; exact hM⟩
set_option maxHeartbeats 400000 in
set_option maxRecDepth 8000 in
theorem l01Prime_any (p : Int) (w : World) :
    Calls Tryz.prog 244 #[.int .i64 p] w fun e w' => e = .returned (.bool (isP p)) ∧ w = w' := by
 by_cases h3 : p = 3
 · subst h3
   go_enter Tryz.func244, Tryz.ntmps244
   go_wp2
   go_ret
   exact ⟨rfl, rfl⟩
 have b3 : (p == 3) = false := by simpa using h3
 by_cases h5 : p = 5
 · subst h5
   go_enter Tryz.func244, Tryz.ntmps244
   go_wp2
   go_ret
   exact ⟨rfl, rfl⟩
 have b5 : (p == 5) = false := by simpa using h5
 by_cases h7 : p = 7
 · subst h7
   go_enter Tryz.func244, Tryz.ntmps244
   go_wp2
   go_ret
   exact ⟨rfl, rfl⟩
 have b7 : (p == 7) = false := by simpa using h7
 by_cases h11 : p = 11
 · subst h11
   go_enter Tryz.func244, Tryz.ntmps244
   go_wp2
   go_ret
   exact ⟨rfl, rfl⟩
 have b11 : (p == 11) = false := by simpa using h11
 go_enter Tryz.func244, Tryz.ntmps244
 go_wp2
 go_ret
 exact ⟨ret_bool (by simp [isP, b3, b5, b7, b11]), rfl⟩
theorem l01Prime_b {b : Bool} (p : Int) (w : World) (h : isP p = b) :
    Calls Tryz.prog 244 #[.int .i64 p] w fun e w' => e = .returned (.bool b) ∧ w = w' := h ▸ l01Prime_any p w
set_option maxHeartbeats 400000 in
set_option maxRecDepth 8000 in
theorem l01In_any (n lo hi : Int) (w : World) :
    Calls Tryz.prog 245 #[.int .i64 n, .int .i64 lo, .int .i64 hi] w fun e w' => e = .returned (.bool (inR n lo hi)) ∧ w = w' := by
 by_cases h : lo ≤ n
 · go_enter Tryz.func245, Tryz.ntmps245
   go_wp2
   go_ret
   exact ⟨ret_bool (by simp [inR, h]), rfl⟩
 · go_enter Tryz.func245, Tryz.ntmps245
   go_wp2
   go_ret
   exact ⟨ret_bool (by simp [inR]; omega), rfl⟩
theorem l01In_b {b : Bool} (n lo hi : Int) (w : World) (h : inR n lo hi = b) :
    Calls Tryz.prog 245 #[.int .i64 n, .int .i64 lo, .int .i64 hi] w fun e w' => e = .returned (.bool b) ∧ w = w' := h ▸ l01In_any n lo hi w
set_option maxHeartbeats 400000 in
set_option maxRecDepth 8000 in
theorem l01Numbers_any (p : Int) (A : Option Addr) (n c : Nat) (xs : List Int) (w : World) (hp : 0 < p) (hp2 : p ≤ 100) (hn : n ≤ 1099511627776) (ha : Rd w A n (ints xs)) :
    Calls Tryz.prog 241 #[.int .i64 p, .slice A n c] w fun e w' => e = .returned (.bool (nums p xs)) ∧ w = w' := by
 have hxl : xs.length = n := by have := ha.1; rwa [ints_length] at this
 have Hx := Lib.hid hxl; clear hxl
 go_enter Tryz.func241, Tryz.ntmps241
 go_wp2
 go_loop [5] (fun i => ∃ k : Nat, k ≤ n ∧ i = .int .i64 k ∧ nums p (xs.take k) = true) (fun i => n - (intOf i).toNat)
 case atStart => exact ⟨0, by omega, rfl, by simp [nums]⟩
 case round =>
  obtain ⟨k, hk, rfl, ht⟩ := hrel
  have H := Lib.hid ht; clear ht
  by_cases hlt : k < n
  · obtain ⟨g, o, rfl, hx, hcx⟩ := ha.int hlt
    clear ha
    cases hi : inR xs[k] 0 (p - 1)
    all_goals
     have HI := Lib.hid hi; clear hi
     go_wp2_with (go_at_call 245; refine (l01In_b _ _ _ _ HI.out).mono ?_; rintro e w' ⟨rfl, rfl⟩)
    · go_ret
      exact ⟨ret_bool (nums_bad p xs k hx HI.out).symm, rfl⟩
    · go_round
      case rel => exact ⟨k + 1, by omega, by go_num, nums_take p xs k hx H.out HI.out⟩
      case measure => simp [intOf]; omega
  · go_wp2
    go_ret
    have := H.out
    rw [List.take_of_length_le (by rw [Hx.out]; omega)] at this
    exact ⟨ret_bool this.symm, rfl⟩
set_option maxHeartbeats 800000 in
set_option maxRecDepth 8000 in
theorem l03Is_any (P : Int) (A : Option Addr) (n c : Nat) (xs : List Int) (w : World) (hn : n ≤ 1099511627776) (ha : Rd w A n (ints xs)) :
    Calls Tryz.prog 168 #[.agg #[.int .i64 P, .slice A n c]] w fun e w' => e = .returned (.bool (isSp P xs)) ∧ Below w.heap.size w w' := by
 have hxl : xs.length = n := by have := ha.1; rwa [ints_length] at this
 have Hx := Lib.hid hxl; clear hxl
 have hB : Below w.heap.size w (w.alloc (.cells #[.int .i64 P, .slice A n c] 26)) := zG.alloc (Nat.le_refl _) _
 have ha' := ha.below hB
 cases h1 : isP P
 · have H1 := Lib.hid h1; clear h1
   go_enter Tryz.func168, Tryz.ntmps168
   go_wp2_with (go_at_call 244; refine (l01Prime_b _ _ H1.out).mono ?_; rintro e w' ⟨rfl, rfl⟩)
   go_ret
   exact ⟨ret_bool (by simp [isSp, H1.out]), hB⟩
 · obtain ⟨hp0, hp1⟩ := isP_pos h1
   have H1 := Lib.hid h1; clear h1
   cases h2 : inR n 1 6
   · have H2 := Lib.hid h2; clear h2
     go_enter Tryz.func168, Tryz.ntmps168
     go_wp2_with (first | (go_at_call 244; refine (l01Prime_b _ _ H1.out).mono ?_; rintro e w' ⟨rfl, rfl⟩) | (go_at_call 245; refine (l01In_b _ _ _ _ H2.out).mono ?_; rintro e w' ⟨rfl, rfl⟩))
     go_ret
     exact ⟨ret_bool (by simp [isSp, H1.out, H2.out, Hx.out]), hB⟩
   · have H2 := Lib.hid h2; clear h2
     go_enter Tryz.func168, Tryz.ntmps168
     go_wp2_with (first | (go_at_call 244; refine (l01Prime_b _ _ H1.out).mono ?_; rintro e w' ⟨rfl, rfl⟩) | (go_at_call 245; refine (l01In_b _ _ _ _ H2.out).mono ?_; rintro e w' ⟨rfl, rfl⟩) | (go_at_call 241; refine (l01Numbers_any _ _ _ _ _ _ hp0 (by omega) hn ha').mono ?_; rintro e w' ⟨rfl, rfl⟩))
     go_ret
     exact ⟨ret_bool (by simp [isSp, H1.out, H2.out, Hx.out]), hB⟩
theorem l03Is_b {b : Bool} (P : Int) (A : Option Addr) (n c : Nat) (xs : List Int) (w : World) (hn : n ≤ 1099511627776) (ha : Rd w A n (ints xs)) (h : isSp P xs = b) :
    Calls Tryz.prog 168 #[.agg #[.int .i64 P, .slice A n c]] w fun e w' => e = .returned (.bool b) ∧ Below w.heap.size w w' := h ▸ l03Is_any P A n c xs w hn ha
set_option maxHeartbeats 400000 in
set_option maxRecDepth 8000 in
theorem l04Size_any (P : Int) (A : Option Addr) (n c : Nat) (w : World) (hn : n ≤ 30) :
    Calls Tryz.prog 236 #[.agg #[.int .i64 P, .slice A n c]] w fun e w' => e = .returned (.int .i64 (pw n)) ∧ Below w.heap.size w w' := by
 go_enter Tryz.func236, Tryz.ntmps236
 go_wp2
 go_ret
 exact ⟨ret_int (wrap_pw n hn), zG.alloc (Nat.le_refl _) _⟩
/-- Is it a multivector of a space with the squares xs? -/
def isMu (P : Int) (xs ys : List Int) : Bool := (((ys.length : Nat) : Int) == ((pw xs.length : Nat) : Int)) && nums P ys
theorem inR_16 {n : Nat} (h : inR n 1 6 = true) : 1 ≤ n ∧ n ≤ 6 := by simp [inR] at h; omega
theorem isSp_dim {P : Int} {xs : List Int} (h : isSp P xs = true) : isP P = true ∧ 1 ≤ xs.length ∧ xs.length ≤ 6 ∧ nums P xs = true := by
 simp only [isSp, Bool.and_eq_true] at h
 obtain ⟨⟨h1, h2⟩, h3⟩ := h
 obtain ⟨h4, h5⟩ := inR_16 h2
 exact ⟨h1, h4, h5, h3⟩
set_option maxHeartbeats 1000000 in
set_option maxRecDepth 8000 in
theorem l04Is_any (P : Int) (A B : Option Addr) (n c m d : Nat) (xs ys : List Int) (w : World) (hn : n ≤ 1048576) (hm : m ≤ 1048576) (ha : Rd w A n (ints xs)) (hb : Rd w B m (ints ys)) :
    Calls Tryz.prog 149 #[.agg #[.int .i64 P, .slice A n c], .slice B m d] w fun e w' => e = .returned (.bool (isSp P xs && isMu P xs ys)) ∧ Below w.heap.size w w' := by
 have hxl : xs.length = n := by have := ha.1; rwa [ints_length] at this
 have hyl : ys.length = m := by have := hb.1; rwa [ints_length] at this
 have hB : Below w.heap.size w (w.alloc (.cells #[.int .i64 P, .slice A n c] 26)) := zG.alloc (Nat.le_refl _) _
 have k0 : Blk (w.alloc (.cells #[.int .i64 P, .slice A n c] 26)) w.heap.size 26 #[.int .i64 P, .slice A n c] := Blk.new _ _ _
 cases h1 : isSp P xs
 · have H1 := Lib.hid h1; clear h1
   have Hx := Lib.hid hxl; have Hy := Lib.hid hyl; clear hxl hyl
   go_enter Tryz.func149, Tryz.ntmps149
   go_wp2_with fail
   refine (l03Is_b _ _ _ _ _ _ (by omega) (ha.below hB) H1.out).mono ?_
   rintro e w1 ⟨rfl, hb1⟩
   go_wp2
   go_ret
   exact ⟨rfl, hB.trans (hb1.mono (by simp))⟩
 · obtain ⟨hp, hd1, hd2, hnum⟩ := isSp_dim h1
   obtain ⟨hp0, hp1⟩ := isP_pos hp
   have H1 := Lib.hid h1; clear h1 hp hnum
   have hmu : isMu P xs ys = ((((m : Nat) : Int) == ((pw n : Nat) : Int)) && nums P ys) := by unfold isMu; rw [hxl, hyl]
   have Hmu := Lib.hid hmu; clear hmu
   rw [hxl] at hd1 hd2
   have Hx := Lib.hid hxl; have Hy := Lib.hid hyl; clear hxl hyl
   cases h2 : (((m : Nat) : Int) == ((pw n : Nat) : Int))
   all_goals
    go_enter Tryz.func149, Tryz.ntmps149
    go_wp2_with fail
    refine (l03Is_b _ _ _ _ _ _ (by omega) (ha.below hB) H1.out).mono ?_
    rintro e w1 ⟨rfl, hb1⟩
    have k1 := k0.below hb1 k0.lt
    obtain ⟨q0, q1⟩ := k1.two
    have hB1 := hB.trans (hb1.mono (by simp))
    clear k0
    go_wp2_with fail
    refine (l04Size_any _ _ _ _ _ (by omega)).mono ?_
    rintro e w2 ⟨rfl, hb2⟩
    have k2 := k1.below hb2 k1.lt
    obtain ⟨p0, p1⟩ := k2.two
    have hB2 := hB1.trans (hb2.mono hB1.size)
    clear k1 q0 q1
    go_wp2_with fail
   · go_ret
     exact ⟨ret_bool (by rw [Hmu.out, h2]; rfl), hB2⟩
   · refine (l01Numbers_any _ _ _ _ _ _ hp0 (by omega) (by omega) (hb.below hB2)).mono ?_
     rintro e w3 ⟨rfl, rfl⟩
     go_wp2
     go_ret
     exact ⟨ret_bool (by rw [Hmu.out, h2]; rfl), hB2⟩
theorem l04Is_b {b : Bool} (P : Int) (A B : Option Addr) (n c m d : Nat) (xs ys : List Int) (w : World) (hn : n ≤ 1048576) (hm : m ≤ 1048576) (ha : Rd w A n (ints xs)) (hb : Rd w B m (ints ys)) (h : (isSp P xs && isMu P xs ys) = b) :
    Calls Tryz.prog 149 #[.agg #[.int .i64 P, .slice A n c], .slice B m d] w fun e w' => e = .returned (.bool b) ∧ Below w.heap.size w w' := h ▸ l04Is_any P A B n c m d xs ys w hn hm ha hb
set_option maxHeartbeats 400000 in
set_option maxRecDepth 8000 in
theorem l04Zero_any (P : Int) (A : Option Addr) (n c : Nat) (w : World) (hn : n ≤ 10) :
    Calls Tryz.prog 138 #[.agg #[.int .i64 P, .slice A n c]] w fun e w' => ∃ A' c', e = .returned (.slice A' (pw n) c') ∧ MkI w w' A' (pw n) c' (List.replicate (pw n) 0) := by
 have hp : pw n ≤ 1024 := pw_le hn
 have hmk := make_i (P := Tryz.prog) 24 2 Tryz.underlying24 info_i (pw n) (by omega)
 go_enter Tryz.func138, Tryz.ntmps138
 go_wp2_with (go_at_call 236; refine (l04Size_any _ _ _ _ _ (by omega)).mono ?_; rintro e w1 ⟨rfl, hb1⟩)
 go_ret
 have hb2 := ((zG.alloc (Nat.le_refl _) _).trans (hb1.mono (by simp)))
 exact ⟨_, _, rfl, by have := Mk.made (E := 2) (n := pw n) (z := .int .i64 0) hb2 (by simp only [maxLen]; omega); rwa [ints_replicate] at this⟩
set_option maxHeartbeats 400000 in
set_option maxRecDepth 8000 in
theorem l04One_any (P : Int) (A : Option Addr) (n c : Nat) (w : World) (hn : n ≤ 10) :
    Calls Tryz.prog 163 #[.agg #[.int .i64 P, .slice A n c]] w fun e w' => ∃ A' c', e = .returned (.slice A' (pw n) c') ∧ MkI w w' A' (pw n) c' (bladeL n 0) := by
 have hB0 : Below w.heap.size w (w.alloc (.cells #[.int .i64 P, .slice A n c] 26)) := (Below.refl _ w).alloc (Nat.le_refl _) _
 have hm := pw_pos n
 go_enter Tryz.func163, Tryz.ntmps163
 go_wp2_with (go_at_call 138; refine (l04Zero_any _ _ _ _ _ hn).mono ?_; rintro e w1 ⟨G, c1, rfl, hM1⟩; have hM := hM1.after hB0; rcases hM.2.form with ⟨_, h0⟩ | ⟨g, rfl, hg, _⟩; (omega); obtain ⟨u1, hc1⟩ := hM.2.cellI hm; have hf1 := hM.2.frozen_ 0; have hset := (hM.set 0 (.int .i64 1)).1; rw [ints_set] at hset; have HS := Lib.hid hset; clear hM hM1 hset)
 go_ret
 exact ⟨_, _, rfl, HS.out⟩
set_option maxHeartbeats 800000 in
set_option maxRecDepth 8000 in
theorem l04Vector_any (P : Int) (A : Option Addr) (n c : Nat) (X : Option Addr) (cx : Nat) (v : List Int) (w : World) (hn : n ≤ 10) (hx : Rd w X n (ints v)) :
    Calls Tryz.prog 170 #[.agg #[.int .i64 P, .slice A n c], .slice X n cx] w fun e w' => ∃ A' c', e = .returned (.slice A' (pw n) c') ∧ MkI w w' A' (pw n) c' (vecTo n v n) := by
 have hB0 : Below w.heap.size w (w.alloc (.cells #[.int .i64 P, .slice A n c] 26)) := (Below.refl _ w).alloc (Nat.le_refl _) _
 go_enter Tryz.func170, Tryz.ntmps170
 go_wp2_with (go_at_call 138; refine (l04Zero_any _ _ _ _ _ hn).mono ?_; rintro e w1 ⟨G, c1, rfl, hM1⟩)
 have hM := hM1.after hB0
 have hpos := pw_pos n
 rcases hM.2.form with ⟨_, h0⟩ | ⟨g, rfl, hg, _⟩
 · omega
 clear hM1 hB0 hg hpos
 go_loopw [6] (fun i wr => ∃ k : Nat, k ≤ n ∧ i = .int .i64 k ∧ MkI w wr (some ⟨g, 0, none⟩) (pw n) c1 (vecTo n v k)) (fun i _ => n - (intOf i).toNat)
 case atStart => exact ⟨0, by omega, rfl, by simpa [vecTo] using hM⟩
 case round =>
  obtain ⟨k, hk, rfl, hM2⟩ := hrel
  clear hM
  by_cases hlt : k < n
  · obtain ⟨gx, ox, rfl, hxk, hcx⟩ := (hx.below hM2.b).int hlt
    have hvn : v.getD k 0 = v[k] := by rw [List.getD_eq_getElem?_getD, List.getElem?_eq_getElem hxk]; rfl
    have h2 := two_lt hlt
    have hset := (hM2.set (2 ^ k) (.int .i64 v[k])).1
    rw [ints_set, ← hvn, ← vecTo_succ, hvn] at hset
    have hw : wrap64 (2 ^ k) = ((2 ^ k : Nat) : Int) := wrap_pw k (by omega)
    obtain ⟨q, hq⟩ : ∃ q : Nat, q = 2 ^ k := ⟨_, rfl⟩
    rw [← hq] at h2 hset hw
    obtain ⟨hoc, hof⟩ := mkI_at hM2 h2
    have HS := Lib.hid hset
    clear hq
    clear hvn hset hM2
    go_wp2
    go_roundw
    case rel => exact ⟨k + 1, by omega, by go_num, HS.out⟩
    case measure => simp [intOf]; omega
  · obtain rfl : k = n := by omega
    go_wp2
    go_ret
    exact ⟨_, _, rfl, hM2⟩
/-- The value is a slice of one new row in a block of its own. -/
def VNew (w0 : World) (n : Nat) (L : List Int) : VP := ⟨fun v w => ∃ g A c, v = .slice (some ⟨g, 0, none⟩) 1 1 ∧ Blk w g 24 #[.slice A n c] ∧ MkI w0 w A n c L, fun _ _ _ ⟨g, A, c, e, b, h⟩ hb => ⟨g, A, c, e, b.below hb b.lt, h.below hb⟩⟩
/-- A new row, in a block of its own, is appended. -/
theorem wp_appRow {o : Oper} {a : Act} {K : Act → World → Prop} {Q : Exit → Act → World → Prop} (w0 wr w1 : World)
    (s x : Operand) (ho : o.op = .call { callee := .builtin .append, args := #[s, x], argTypes := #[27, 27] })
    (A : Option Addr) (n c : Nat) (xss : List (List Int)) (A1 : Option Addr) (m c1 : Nat) (xs : List Int) (hM : MkII w0 wr A n c xss) (hr : Mk wr w1 2 A1 m c1 (ints xs)) (hn : n ≤ 1099511627776) (g : Nat) (hB : Blk w1 g 24 #[.slice A1 m c1])
    (hs : a.eval s = .slice A n c) (hx : a.eval x = .slice (some ⟨g, 0, none⟩) 1 1)
    (h : ∀ A' c' w', MkII w0 w' A' (n + 1) c' (xss ++ [xs]) → w1.grownBy w' (Value.slice A n c).ownBlock → (∃ g, A' = some ⟨g, 0, none⟩ ∧ ((Value.slice A n c).ownBlock = some g ∨ w1.heap.size ≤ g)) → K (a.put o.dst (.slice A' (n + 1) c')) w') : o.wp Tryz.prog a w1 K Q := by
 obtain ⟨rows, hm, hnest⟩ := hM
 have hm1 := hm.below hr.1
 have hn1 := hnest.snoc hr hm.1.size
 obtain ⟨i, hi, h1, h2, h3⟩ := info_parts info_s
 obtain ⟨b1, b2⟩ := bound_of hn
 refine wp_append_lies w1 s x 27 ho w0.heap.size 24 i (.slice none 0 0) 1 24 Tryz.underlying27 hi h1 h2 h3 rfl (by omega) (.slice A n c) n rows hs hm1.2 ⟨g, 0, none⟩ 1 1 [.slice A1 m c1] hx rfl (fun j v hv => ?_)
  (by intro v hv; simp at hv; rw [hv]; rfl) (by omega) b1 (b2 _ (by omega)) hm1.1.size _ rfl (fun g' cap w' hown hg hat _ => h _ _ _ ⟨_, ⟨hm1.1.grown hg hm1.1.size (fun k hk => (hm1.2.lt k hk).1), hown⟩, hn1.grown hm1.2 (by decide) hg⟩ hg ⟨g', rfl, hat.imp id (fun e => by omega)⟩)
 match j, hv with
 | 0, hv => simp at hv; subst hv; rw [Addr.add_lit]; exact hB.cell 0
theorem is_b {b : Bool} (p : Int) (A : Option Addr) (n c : Nat) (xs : List Int) (w : World) (hp : 0 < p) (hp2 : p ≤ 100) (hn : n ≤ 1099511627776) (ha : Rd w A n (ints xs)) (h : nums p xs = b) :
    Calls Tryz.prog 89 #[.int .i64 p, .slice A n c] w fun e w' => e = .returned (.bool b) ∧ w = w' := h ▸ is_any p A n c xs w hp hp2 hn ha
set_option maxHeartbeats 1000000 in
set_option maxRecDepth 8000 in
theorem isMulti_any (P : Int) (A B : Option Addr) (n c m d : Nat) (xs ys : List Int) (w : World) (hn : n ≤ 6) (hxl : xs.length = n) (hm : m ≤ 1048576) (hp0 : 0 < P) (hp1 : P ≤ 13) (hb : Rd w B m (ints ys)) :
    Calls Tryz.prog 207 #[.agg #[.int .i64 P, .slice A n c], .slice B m d] w fun e w' => e = .returned (.bool (isMu P xs ys)) ∧ Below w.heap.size w w' := by
 have hyl : ys.length = m := by have := hb.1; rwa [ints_length] at this
 have hmu : isMu P xs ys = ((((m : Nat) : Int) == ((pw n : Nat) : Int)) && nums P ys) := by unfold isMu; rw [hxl, hyl]
 have Hmu := Lib.hid hmu
 have hB : Below w.heap.size w (w.alloc (.cells #[.int .i64 P, .slice A n c] 26)) := zG.alloc (Nat.le_refl _) _
 have k0 : Blk (w.alloc (.cells #[.int .i64 P, .slice A n c] 26)) w.heap.size 26 #[.int .i64 P, .slice A n c] := Blk.new _ _ _
 have hw := wrap_pw n (by omega)
 clear hmu hxl hyl
 cases h2 : (((m : Nat) : Int) == ((pw n : Nat) : Int))
 all_goals
  have H2 := Lib.hid h2
  rw [← hw] at h2
  have Hw := Lib.hid hw
  clear hw
  go_enter Tryz.func207, Tryz.ntmps207
  go_wp2_with fail
  refine (dim_any _ _ _ _ _).mono ?_
  rintro e w1 ⟨rfl, hb1⟩
  have k1 := k0.below hb1 k0.lt
  obtain ⟨q0, q1⟩ := k1.two
  have hB1 := hB.trans (hb1.mono (by simp))
  clear k0
  go_wp2_with fail
 · go_ret
   exact ⟨ret_bool (by rw [Hmu.out, H2.out]; rfl), hB1⟩
 · refine (field_any _ _ _ _ _).mono ?_
   rintro e w2 ⟨rfl, hb2⟩
   have hB2 := hB1.trans (hb2.mono hB1.size)
   go_wp2_with fail
   refine (is_any _ _ _ _ _ _ hp0 (by omega) (by omega) (hb.below hB2)).mono ?_
   rintro e w3 ⟨rfl, rfl⟩
   go_wp2
   go_ret
   exact ⟨ret_bool (by rw [Hmu.out, H2.out]; rfl), hB2⟩
theorem IsSpace_b {b : Bool} (P : Int) (A : Option Addr) (n c : Nat) (xs : List Int) (w : World) (hn : n ≤ 1099511627776) (ha : Rd w A n (ints xs)) (h : isSp P xs = b) :
    Calls Tryz.prog 119 #[.agg #[.int .i64 P, .slice A n c]] w fun e w' => e = .returned (.bool b) ∧ Below w.heap.size w w' := h ▸ IsSpace_any P A n c xs w hn ha
/-- The code of a space and of multivectors. -/
def codeM (P : Int) (sq : List Int) (yss : List (List Int)) : Int := if isSp P sq then (if yss.any fun ys => !(isMu P sq ys) then 2 else 0) else 1
/-- Is no square 0? -/
def regB (sq : List Int) : Bool := !(sq.contains 0)
set_option maxHeartbeats 800000 in
set_option maxRecDepth 8000 in
theorem notMu (P : Int) (n : Nat) (g : Nat) (A : Option Addr) (c : Nat) (sq : List Int) (w : World) (hn : n ≤ 6) (hsq : sq.length = n) (hp0 : 0 < P) (hp1 : P ≤ 13) (hk : Blk w g 26 #[.int .i64 P, .slice A n c]) :
    Tells 206 #[.pointer (some ⟨g, 0, none⟩)] w (fun ys => !(isMu P sq ys)) (fun ys => ys.length ≤ 1048576) := by
 intro w' D m d ys hb hr hm
 have hyl : ys.length = m := by have := hr.1; rwa [ints_length] at this
 rw [hyl] at hm
 have k0 := hk.below hb hk.lt
 obtain ⟨q0, q1⟩ := k0.two
 have Hsq := Lib.hid hsq
 clear hyl hsq
 simp only [List.append_toArray, List.cons_append, List.nil_append]
 go_enter Tryz.func206, Tryz.ntmps206
 go_wp2_with fail
 refine (isMulti_any P A D n c m d sq ys _ hn Hsq.out hm hp0 hp1 hr).mono ?_
 rintro e w1 ⟨rfl, hb1⟩
 obtain ⟨b, hb'⟩ : ∃ b, b = isMu P sq ys := ⟨_, rfl⟩
 rw [← hb']
 have HB := Lib.hid hb'; clear hb'
 go_wp2
 go_ret
 exact ⟨ret_bool (by rw [HB.out]), hb1⟩
set_option maxRecDepth 8000 in
set_option maxHeartbeats 1000000 in
set_option maxRecDepth 8000 in
theorem checkMultis_any (P : Int) (A B : Option Addr) (n c m d : Nat) (sq : List Int) (yss : List (List Int)) (w : World) (hn : n ≤ 1048576) (hm : m ≤ 1048576) (ha : Rd w A n (ints sq)) (hb : RdII w B m yss) (hys : ∀ ys ∈ yss, ys.length ≤ 1048576) :
    Calls Tryz.prog 104 #[.agg #[.int .i64 P, .slice A n c], .slice B m d] w fun e w' => e = .returned (.int .i64 (codeM P sq yss)) ∧ Below w.heap.size w w' := by
 have hxl : sq.length = n := by have := ha.1; rwa [ints_length] at this
 have hB : Below w.heap.size w (w.alloc (.cells #[.int .i64 P, .slice A n c] 26)) := zG.alloc (Nat.le_refl _) _
 have k0 : Blk (w.alloc (.cells #[.int .i64 P, .slice A n c] 26)) w.heap.size 26 #[.int .i64 P, .slice A n c] := Blk.new _ _ _
 have hmf : ∀ (fn : Fn) (first cap : Array Value) (w : World), (Instr.makeFunc fn first cap).run Tryz.prog w = .ok (.func fn first cap) w := fun _ _ _ _ => rfl
 cases h1 : isSp P sq
 · have H1 := Lib.hid h1; clear h1 hxl
   go_enter Tryz.func104, Tryz.ntmps104
   go_wp2_with fail
   refine (IsSpace_b _ _ _ _ _ _ (by omega) (ha.below hB) H1.out).mono ?_
   rintro e w1 ⟨rfl, hb1⟩
   go_wp2
   go_ret
   exact ⟨ret_int (by unfold codeM; rw [H1.out]; rfl), hB.trans (hb1.mono (by simp))⟩
 obtain ⟨hp, hd1, hd2, -⟩ := isSp_dim h1
 obtain ⟨hp0, hp1⟩ := isP_pos hp
 rw [hxl] at hd1 hd2
 have H1 := Lib.hid h1; have Hx := Lib.hid hxl; clear h1 hp hxl
 cases h2 : (yss.any fun ys => !(isMu P sq ys))
 all_goals
  have H2 := Lib.hid h2; clear h2
  go_enter Tryz.func104, Tryz.ntmps104
  go_wp2_with fail
  refine (IsSpace_b _ _ _ _ _ _ (by omega) (ha.below hB) H1.out).mono ?_
  rintro e w1 ⟨rfl, hb1⟩
  have hB1 := hB.trans (hb1.mono (by simp))
  have hT := notMu P n w.heap.size A c sq w1 (by omega) Hx.out hp0 hp1 (k0.below hb1 k0.lt)
  go_wp2_with fail
  refine (ContainsFunc_any _ _ _ _ _ _ _ _ _ (by omega) (hb.below hB1) hys hT (fun _ _ => rfl)).mono ?_
  rintro e w2 ⟨rfl, hb2⟩
  rw [H2.out]
  go_wp2
  go_ret
  exact ⟨ret_int (by unfold codeM; rw [H1.out, H2.out]; rfl), hB1.trans (hb2.mono hB1.size)⟩
set_option maxHeartbeats 400000 in
set_option maxRecDepth 8000 in
theorem regular_any (P : Int) (A : Option Addr) (n c : Nat) (sq : List Int) (w : World) (hn : n ≤ 1048576) (ha : Rd w A n (ints sq)) :
    Calls Tryz.prog 116 #[.agg #[.int .i64 P, .slice A n c]] w fun e w' => e = .returned (.bool (regB sq)) ∧ Below w.heap.size w w' := by
 have hB : Below w.heap.size w (w.alloc (.cells #[.int .i64 P, .slice A n c] 26)) := zG.alloc (Nat.le_refl _) _
 have k0 : Blk (w.alloc (.cells #[.int .i64 P, .slice A n c] 26)) w.heap.size 26 #[.int .i64 P, .slice A n c] := Blk.new _ _ _
 obtain ⟨b, hb⟩ : ∃ b, b = sq.contains 0 := ⟨_, rfl⟩
 have HB := Lib.hid hb
 clear hb
 go_enter Tryz.func116, Tryz.ntmps116
 go_wp2_with (go_at_call 223; refine (Contains_b _ _ _ _ _ _ (by omega) (ha.below hB) HB.out.symm).mono ?_; rintro e w' ⟨rfl, rfl⟩)
 go_ret
 exact ⟨ret_bool (by unfold regB; rw [HB.out]), hB⟩
theorem code_ne {a : Int} (h : ¬ a = 0) : (a != 0) = true := by simp [h]
theorem any_take_succ {α : Type} {q : α → Bool} {xs : List α} {k : Nat} (hk : k < xs.length) (h : (xs.take k).any q = false) (h2 : q xs[k] = false) : (xs.take (k + 1)).any q = false := by
 rw [List.take_succ_eq_append_getElem hk, List.any_append, h]; simpa using h2
set_option maxRecDepth 8000 in
set_option maxHeartbeats 1600000 in
set_option maxRecDepth 8000 in
theorem l04Code_any (P : Int) (A B : Option Addr) (n c m d : Nat) (sq : List Int) (yss : List (List Int)) (w : World) (hn : n ≤ 1048576) (hm : m ≤ 1048576) (ha : Rd w A n (ints sq)) (hb : RdII w B m yss) (hys : ∀ ys ∈ yss, ys.length ≤ 1048576) :
    Calls Tryz.prog 106 #[.agg #[.int .i64 P, .slice A n c], .slice B m d] w fun e w' => e = .returned (.int .i64 (codeM P sq yss)) ∧ Below w.heap.size w w' := by
 have hyl := hb.len
 have hB : Below w.heap.size w (w.alloc (.cells #[.int .i64 P, .slice A n c] 26)) := zG.alloc (Nat.le_refl _) _
 have k0 : Blk (w.alloc (.cells #[.int .i64 P, .slice A n c] 26)) w.heap.size 26 #[.int .i64 P, .slice A n c] := Blk.new _ _ _
 have HY := Lib.hid hyl; clear hyl
 cases h1 : isSp P sq
 · have H1 := Lib.hid h1; clear h1
   go_enter Tryz.func106, Tryz.ntmps106
   go_wp2_with fail
   refine (l03Is_b _ _ _ _ _ _ (by omega) (ha.below hB) H1.out).mono ?_
   rintro e w1 ⟨rfl, hb1⟩
   go_wp2
   go_ret
   exact ⟨ret_int (by unfold codeM; rw [H1.out]; rfl), hB.trans (hb1.mono (by simp))⟩
 have H1 := Lib.hid h1; clear h1
 go_enter Tryz.func106, Tryz.ntmps106
 go_wp2_with fail
 refine (l03Is_b _ _ _ _ _ _ (by omega) (ha.below hB) H1.out).mono ?_
 rintro e w1 ⟨rfl, hb1⟩
 have hB1 := hB.trans (hb1.mono (by simp))
 have k1 := k0.below hb1 k0.lt
 clear k0 hb1 hB
 go_wp2_with fail
 go_loopw [5] (fun i wr => ∃ k : Nat, k ≤ m ∧ i = .int .i64 k ∧ (yss.take k).any (fun ys => !(isMu P sq ys)) = false ∧ Blk wr w.heap.size 26 #[.int .i64 P, .slice A n c] ∧ Below w.heap.size w wr) (fun i _ => m - (intOf i).toNat)
 case atStart => exact ⟨0, by omega, rfl, by simp, k1, hB1⟩
 case round =>
  obtain ⟨k, hk, rfl, ht, hk2, hBr⟩ := hrel
  have HT := Lib.hid ht
  clear k1 hB1 ht
  by_cases hlt : k < m
  · obtain ⟨g, o, rfl, hxk, A', c', hcx, hr, hcc⟩ := (hb.below hBr).at_ hlt
    have hr := (hb.at_ hlt)
    obtain ⟨g', o', e', hx', A'', c'', hcw, hrw, _⟩ := hr
    have hr0 : Rd w A' yss[k].length (ints yss[k]) := by
     injection e' with e'; injection e' with e1 e2 _
     subst e1; subst e2
     have := (hBr.cell (World.block_lt_of_cell? _ _ hcw)).trans hcw
     rw [hcx] at this
     injection this with this
     injection this with e3 _ _
     rw [e3]; exact hrw
    clear hcw hrw e' hr
    have hr := hr0
    clear hr0
    have HL := hys yss[k] (List.getElem_mem hxk)
    have i1 : (0 : Int) ≤ (k : Int) := by omega
    have i2 : (k : Int) < (m : Int) := by omega
    cases hi : (isSp P sq && isMu P sq yss[k])
    · have HI := Lib.hid hi
      clear hi
      go_wp2
      refine wp_obs 7 [[],[],[],[1,2],[1,2,3],[0,1,2,3,4],[0,1,2,3,4,5]] [VIs (.agg #[.int .i64 P, .slice A n c]), VIs (.slice (some ⟨g, o, none⟩) m d), VIs (.int .i64 k), VIs (.pointer (some ⟨g, o + k, none⟩)), VIs (.slice A' yss[k].length c'), VIs (.bool false), VIs (.bool true)] (fun w' => Blk w' w.heap.size 26 #[.int .i64 P, .slice A n c] ∧ Below w.heap.size w w' ∧ w'.cell? ⟨g, o + k, none⟩ = some (.slice A' yss[k].length c')) (by kernel_rfl) (by kernel_rfl) (fun _ _ h hb => ⟨h.1.below hb h.1.lt, h.2.1.trans (hb.mono h.2.1.size), (hb.cell (World.block_lt_of_cell? _ _ h.2.2)).trans h.2.2⟩) (⟨hk2.drew, hBr.drew, hcx⟩) (fun x => ?_)
      refine zS (fun w' hS hV K hK => ?_) ?_
      · obtain ⟨q0, q1⟩ := hS.1.two; have q2 := hS.2.2; go_simp; exact zO hK
      refine zS (fun w' hS hV K hK => ?_) ?_
      · obtain ⟨q0, q1⟩ := hS.1.two; have q2 := hS.2.2; go_simp; exact zO hK
      refine zS (fun w' hS hV K hK => ?_) ?_
      · obtain ⟨q0, q1⟩ := hS.1.two; have q2 := hS.2.2; go_simp; exact zO hK
      refine zS (fun w' hS hV K hK => ?_) ?_
      · have e1 := zQ hV 1; have e2 := zQ hV 2; obtain ⟨q0, q1⟩ := hS.1.two; have q2 := hS.2.2; go_simp; exact zO hK
      refine zS (fun w' hS hV K hK => ?_) ?_
      · have e3 := zQ hV 3; obtain ⟨q0, q1⟩ := hS.1.two; have q2 := hS.2.2; go_simp; exact zO hK
      refine zS (fun w' hS hV K hK => ?_) ?_
      · have e0 := zQ hV 0; have e4 := zQ hV 4; obtain ⟨q0, q1⟩ := hS.1.two; have q2 := hS.2.2; go_simp; refine (l04Is_b P A A' n c _ c' sq yss[k] _ hn HL (ha.below hS.2.1) (hr.below hS.2.1) HI.out).mono ?_; rintro e w1 ⟨rfl, hb⟩; exact hK.out _ _ _ rfl rfl rfl hb
      refine zS (fun w' hS hV K hK => ?_) ?_
      · have e5 := zQ hV 5; obtain ⟨q0, q1⟩ := hS.1.two; have q2 := hS.2.2; go_simp; exact zO hK
      refine fun w' hS hV => ?_
      have hV := fun i hi => hV i (List.mem_range.1 hi)
      simp only [List.range, List.range.loop, zL, zM, zH, zI, VIs, VAny] at hV
      obtain ⟨e0, e1, e2, e3, e4, e5, e6⟩ := hV
      simp only [e0, e1, e2, e3, e4, e5, e6]
      clear e0 e1 e2 e3 e4 e5 e6
      refine wpAny_done (by kernel_rfl) ?_ _
      go_wp2
      go_ret
      refine ⟨ret_int ?_, hS.2.1⟩
      have hmu : isMu P sq yss[k] = false := by have := HI.out; rw [H1.out] at this; simpa using this
      have : (yss.any fun ys => !(isMu P sq ys)) = true := List.any_eq_true.2 ⟨yss[k], List.getElem_mem hxk, by rw [hmu]; rfl⟩
      unfold codeM
      rw [H1.out, if_pos rfl, if_pos this]
    · have HI := Lib.hid hi
      clear hi
      go_wp2
      refine wp_obs 7 [[],[],[],[1,2],[1,2,3],[0,1,2,3,4],[0,1,2,3,4,5]] [VIs (.agg #[.int .i64 P, .slice A n c]), VIs (.slice (some ⟨g, o, none⟩) m d), VIs (.int .i64 k), VIs (.pointer (some ⟨g, o + k, none⟩)), VIs (.slice A' yss[k].length c'), VIs (.bool true), VIs (.bool false)] (fun w' => Blk w' w.heap.size 26 #[.int .i64 P, .slice A n c] ∧ Below w.heap.size w w' ∧ w'.cell? ⟨g, o + k, none⟩ = some (.slice A' yss[k].length c')) (by kernel_rfl) (by kernel_rfl) (fun _ _ h hb => ⟨h.1.below hb h.1.lt, h.2.1.trans (hb.mono h.2.1.size), (hb.cell (World.block_lt_of_cell? _ _ h.2.2)).trans h.2.2⟩) (⟨hk2.drew, hBr.drew, hcx⟩) (fun x => ?_)
      refine zS (fun w' hS hV K hK => ?_) ?_
      · obtain ⟨q0, q1⟩ := hS.1.two; have q2 := hS.2.2; go_simp; exact zO hK
      refine zS (fun w' hS hV K hK => ?_) ?_
      · obtain ⟨q0, q1⟩ := hS.1.two; have q2 := hS.2.2; go_simp; exact zO hK
      refine zS (fun w' hS hV K hK => ?_) ?_
      · obtain ⟨q0, q1⟩ := hS.1.two; have q2 := hS.2.2; go_simp; exact zO hK
      refine zS (fun w' hS hV K hK => ?_) ?_
      · have e1 := zQ hV 1; have e2 := zQ hV 2; obtain ⟨q0, q1⟩ := hS.1.two; have q2 := hS.2.2; go_simp; exact zO hK
      refine zS (fun w' hS hV K hK => ?_) ?_
      · have e3 := zQ hV 3; obtain ⟨q0, q1⟩ := hS.1.two; have q2 := hS.2.2; go_simp; exact zO hK
      refine zS (fun w' hS hV K hK => ?_) ?_
      · have e0 := zQ hV 0; have e4 := zQ hV 4; obtain ⟨q0, q1⟩ := hS.1.two; have q2 := hS.2.2; go_simp; refine (l04Is_b P A A' n c _ c' sq yss[k] _ hn HL (ha.below hS.2.1) (hr.below hS.2.1) HI.out).mono ?_; rintro e w1 ⟨rfl, hb⟩; exact hK.out _ _ _ rfl rfl rfl hb
      refine zS (fun w' hS hV K hK => ?_) ?_
      · have e5 := zQ hV 5; obtain ⟨q0, q1⟩ := hS.1.two; have q2 := hS.2.2; go_simp; exact zO hK
      refine fun w' hS hV => ?_
      have hV := fun i hi => hV i (List.mem_range.1 hi)
      simp only [List.range, List.range.loop, zL, zM, zH, zI, VIs, VAny] at hV
      obtain ⟨e0, e1, e2, e3, e4, e5, e6⟩ := hV
      simp only [e0, e1, e2, e3, e4, e5, e6]
      clear e0 e1 e2 e3 e4 e5 e6
      refine wpAny_done (by kernel_rfl) ?_ _
      go_wp2
      have hmu : isMu P sq yss[k] = true := by have := HI.out; rw [H1.out] at this; simpa using this
      have HN := Lib.hid (any_take_succ (q := fun ys => !(isMu P sq ys)) hxk HT.out (by rw [hmu]; rfl))
      clear hmu
      go_roundw
      case rel => exact ⟨k + 1, by omega, by go_num, HN.out, hS.1, hS.2.1⟩
      case measure => simp [intOf]; omega
  · obtain rfl : k = m := by omega
    go_wp2
    go_ret
    refine ⟨ret_int ?_, hBr⟩
    have := HT.out
    rw [List.take_of_length_le (by rw [HY.out]; omega)] at this
    unfold codeM
    rw [H1.out, this]; rfl
theorem mul_zero_all : ∀ p ∈ [(3 : Nat), 5, 7, 11, 13], ∀ a < p, ∀ b < p, a * b % p = 0 → a = 0 ∨ b = 0 := by decide +kernel
theorem mul_zero_mod {p a b : Int} (h : isP p = true) (ha : 0 ≤ a ∧ a < p) (hb : 0 ≤ b ∧ b < p) (h0 : a * b % p = 0) : a = 0 ∨ b = 0 := by
 have hm : p.toNat ∈ [(3 : Nat), 5, 7, 11, 13] := by
  have : p = 3 ∨ p = 5 ∨ p = 7 ∨ p = 11 ∨ p = 13 := by simp [isP] at h; omega
  rcases this with rfl | rfl | rfl | rfl | rfl <;> decide
 have hp : 0 < p := by omega
 have e : ((a.toNat * b.toNat % p.toNat : Nat) : Int) = 0 := by
  rw [Int.natCast_emod, Int.natCast_mul, Int.toNat_of_nonneg ha.1, Int.toNat_of_nonneg hb.1, Int.toNat_of_nonneg (by omega)]; exact h0
 have := mul_zero_all p.toNat hm a.toNat (by omega) b.toNat (by omega) (by omega)
 omega
theorem nums_numsL {P : Int} {xs : List Int} (h : nums P xs = true) : NumsL P xs := fun x hx => by
 have := List.all_eq_true.1 h x hx
 simp [inR] at this
 omega
theorem codeM_sp {P : Int} {sq : List Int} {ms : List (List Int)} (h : codeM P sq ms = 0) : isSp P sq = true ∧ ∀ ys ∈ ms, isMu P sq ys = true := by
 unfold codeM at h
 cases h1 : isSp P sq
 · rw [h1] at h; simp at h
 · rw [h1, if_pos rfl] at h
   refine ⟨rfl, fun ys hy => ?_⟩
   cases h2 : isMu P sq ys
   · exfalso
     have : (ms.any fun ys => !(isMu P sq ys)) = true := List.any_eq_true.2 ⟨ys, hy, by rw [h2]; rfl⟩
     rw [if_pos this] at h
     omega
   · rfl
end Go.Proofs.YtmkjdpnoloofjaaGreat

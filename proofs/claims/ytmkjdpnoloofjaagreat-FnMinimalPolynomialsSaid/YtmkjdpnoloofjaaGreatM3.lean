/-
  LawFnMinimalPolynomials: part 3 of the texts that the proof needs. No condition.
-/
import Derived.Test.YtmkjdpnoloofjaaGreatM2
namespace Go.Proofs.YtmkjdpnoloofjaaGreat
open Go.RowKit
theorem ent_at' {M : List (List Int)} {i k : Nat} (hi : i < M.length) (hk : k < M[i].length) : ent M i k = M[i][k] := by
 unfold ent
 rw [getD_of_lt [] hi, getD_of_lt 0 hk]
theorem i64_small {x : Int} (h1 : -1000000 ≤ x) (h2 : x ≤ 1000000) : IntKind.i64.wrap x = x := i64_fit x (by omega) (by omega)
theorem clearTo_same {p : Int} {m : List (List Int)} {d k j : Nat} (hj : j < m.length) (h0 : ent m j k = 0) (hN : NumsL p (m.getD j [])) : clearTo p m d k (j + 1) = clearTo p m d k j := by
 refine tab_congr fun r _ => ?_
 by_cases hr : r = j
 · subst hr
   by_cases hd : r = d
   · rw [if_neg (fun h => h.2 hd), if_neg (fun h => h.2 hd)]
   · rw [if_pos ⟨by omega, hd⟩, if_neg (by omega), h0]
     exact plusL_zero _ _ hN
 · by_cases hd : r = d
   · rw [if_neg (fun h => h.2 hd), if_neg (fun h => h.2 hd)]
   · by_cases hl : r < j
     · rw [if_pos ⟨by omega, hd⟩, if_pos ⟨hl, hd⟩]
     · rw [if_neg (by omega), if_neg (by omega)]
theorem keepR3 {B : Nat} {W0 w1 w2 : World} {p q r : Addr} {u v x : Value} (h : w1.cell? p = some u ∧ w1.cell? q = some v ∧ w1.cell? r = some x ∧ Below B W0 w1) (hb : Below w1.heap.size w1 w2) (hB : B ≤ W0.heap.size) :
    w2.cell? p = some u ∧ w2.cell? q = some v ∧ w2.cell? r = some x ∧ Below B W0 w2 :=
 ⟨(hb.cell (World.block_lt_of_cell? _ _ h.1)).trans h.1, (hb.cell (World.block_lt_of_cell? _ _ h.2.1)).trans h.2.1, (hb.cell (World.block_lt_of_cell? _ _ h.2.2.1)).trans h.2.2.1, h.2.2.2.trans (hb.mono (Nat.le_trans hB h.2.2.2.size))⟩
set_option maxRecDepth 8000 in
set_option maxHeartbeats 400000 in
set_option maxRecDepth 8000 in
theorem l01Own_any (A : Option Addr) (n c : Nat) (xs : List Int) (w : World) (hn : n ≤ 65536) (ha : Rd w A n (ints xs)) :
    Calls Tryz.prog 81 #[.slice A n c] w fun e w' => ∃ A' c', e = .returned (.slice A' n c') ∧ MkI w w' A' n c' xs := by
 have hxl : xs.length = n := by have := ha.1; rwa [ints_length] at this
 have hM0 := Mk.lit (E := 2) (Below.refl w.heap.size w) #[] (by simp)
 obtain ⟨i, hi, h1, h2, h3⟩ := info_parts info_i
 obtain ⟨b1, b2⟩ := bound_of (Nat.le_trans hn (by decide))
 clear b1
 have HB := Lib.hid b2
 clear b2
 obtain ⟨p, hnews⟩ : ∃ p : Addr, (∀ (j : Nat) (u : Value), (ints xs)[j]? = some u → (w.alloc (.cells #[] 2)).cell? (p.add j) = some u) ∧ (A = some p ∨ (A = none ∧ n = 0)) := by
  cases A with
  | none =>
   have h0 : n = 0 := by
    rcases Nat.eq_zero_or_pos n with h | h
    · exact h
    · obtain ⟨g, o, e, _⟩ := ha.2 h; cases e
   exact ⟨⟨0, 0, none⟩, fun j u hu => by have := (List.getElem?_eq_some_iff.1 hu).1; rw [ints_length] at this; omega, .inr ⟨rfl, h0⟩⟩
  | some p =>
   refine ⟨p, fun j u hu => ?_, .inl rfl⟩
   have hj : j < n := by have := (List.getElem?_eq_some_iff.1 hu).1; rw [ints_length] at this; omega
   obtain ⟨g, o, e, hc⟩ := (ha.below ((Below.refl _ w).alloc (Nat.le_refl _) (.cells #[] 2))).2 (by omega)
   injection e with e; subst e
   rw [Addr.add_lit]
   exact hc j u hu
 have Hx := Lib.hid hxl
 have HI := Lib.hid hi
 have H1 := Lib.hid h1
 have H2 := Lib.hid h2
 have H3 := Lib.hid h3
 have HN := Lib.hid hnews.1
 have hA := hnews.2
 clear hnews hi h1 h2 h3 hxl
 rcases hA with rfl | ⟨rfl, rfl⟩
 · go_enter Tryz.func81, Tryz.ntmps81
   go_wp2_with (at_builtin; refine wpList_append_own_at (w.alloc (.cells #[] 2)) rfl _ _ 24 rfl w.heap.size 2 i _ 1 8 Tryz.underlying24 HI.out H1.out H2.out H3.out rfl (by omega) (.slice (some ⟨w.heap.size, 0, none⟩) 0 0) 0 [] rfl hM0.2 p n c (ints xs) rfl (by rw [ints_length, Hx.out, Nat.mul_one]) HN.out (by intro u hu; obtain ⟨y, _, rfl⟩ := List.mem_map.1 hu; rfl) (by simp only [maxLen]; omega) (by have := HB.out 8 (by omega); omega) (by simp) ?_; intro v' w' hown hg _ _)
   have hb' : Below w.heap.size w w' := hM0.1.grown hg (by simp) (fun k hk => (hM0.2.lt k hk).1)
   rw [Nat.zero_add, List.nil_append] at hown
   rcases hown.2 with ⟨rfl, h0⟩ | ⟨g, cap, cur, rfl, hr⟩
   · subst h0
     go_ret
     exact ⟨none, 0, rfl, hb', hown⟩
   · go_ret
     exact ⟨_, _, rfl, hb', hown⟩
 · have hxs : xs = [] := List.eq_nil_of_length_eq_zero Hx.out
   subst hxs
   go_enter Tryz.func81, Tryz.ntmps81
   go_wp2
   go_ret
   exact ⟨_, _, rfl, hM0⟩
set_option maxHeartbeats 1600000 in
set_option maxRecDepth 8000 in
theorem cloneRows_any (p : Int) (A : Option Addr) (n c : Nat) (M : List (List Int)) (m : Nat) (w : World) (hn : n ≤ 65536) (hm : m ≤ 65536) (ha : RdII w A n M) (hT : Tab p m M) :
    Calls Tryz.prog 93 #[.slice A n c] w fun e w' => ∃ A' c', e = .returned (.slice A' n c') ∧ MkII w w' A' n c' M := by
 have hML := ha.len
 have HT := Lib.hid hT
 have HML := Lib.hid hML
 have hM0 : MkII w (w.alloc (.cells #[] 24)) (some ⟨w.heap.size, 0, none⟩) 0 0 [] := MkII.empty zG
 clear hT hML
 go_enter Tryz.func93, Tryz.ntmps93
 go_wp2
 obtain ⟨w1, hw1⟩ : ∃ W, W = w.alloc (.cells #[] 24) := ⟨_, rfl⟩
 rw [← hw1] at hM0 ⊢
 clear hw1
 go_loopw [3, 5, 9] (fun out _ i wr => ∃ (k : Nat) (A' : Option Addr) (c' : Nat), k ≤ n ∧ i = .int .i64 k ∧ out = .slice A' k c' ∧ MkII w wr A' k c' (M.take k)) (fun _ _ i _ => n - (intOf i).toNat)
 case atStart => exact ⟨0, _, _, by omega, rfl, rfl, by simpa using hM0⟩
 case round =>
  obtain ⟨k, A', c', hk, rfl, rfl, hM⟩ := hrel
  clear hM0
  by_cases hlt : k < n
  · obtain ⟨g, o, rfl, hxk, A1, c1, hcx, hr1, _⟩ := (ha.below hM.b).at_ hlt
    have hl1 : M[k].length = m := (HT.out M[k] (List.getElem_mem hxk)).1
    rw [hl1] at hcx hr1
    have hcall := clone_any A1 m c1 M[k] wr hm hr1
    have HV : Hid (M.take (k + 1) = M.take k ++ [M[k]]) := Lib.hid (List.take_succ_eq_append_getElem hxk)
    have HM := Lib.hid hM
    clear hM hr1 hl1 ha
    go_wp2_with fail
    refine hcall.mono ?_
    rintro e w5 ⟨A5, c5, rfl, hM5⟩
    clear hcall
    go_wp2_with (at_builtin; refine wpList_appRow w wr _ rfl _ _ rfl A' k c' _ A5 m c5 _ HM.out hM5 (by omega) rfl ?_ ?_; (go_simp); intro A6 c6 w6 hM6)
    go_roundw
    case rel => exact ⟨k + 1, A6, c6, by omega, by go_num, rfl, by rw [HV.out]; exact hM6⟩
    case measure => simp [intOf]; omega
  · obtain rfl : k = n := by omega
    go_wp2
    go_ret
    rw [List.take_of_length_le (by rw [HML.out]; exact Nat.le_refl _)] at hM
    exact ⟨_, _, rfl, hM⟩
set_option maxHeartbeats 1600000 in
set_option maxRecDepth 8000 in
theorem l01Own2_any (p : Int) (A : Option Addr) (n c : Nat) (M : List (List Int)) (m : Nat) (w : World) (hn : n ≤ 65536) (hm : m ≤ 65536) (ha : RdII w A n M) (hT : Tab p m M) :
    Calls Tryz.prog 155 #[.slice A n c] w fun e w' => ∃ A' c', e = .returned (.slice A' n c') ∧ MkII w w' A' n c' M := by
 have hML := ha.len
 have HT := Lib.hid hT
 have HML := Lib.hid hML
 have hM0 : MkII w (w.alloc (.cells #[] 24)) (some ⟨w.heap.size, 0, none⟩) 0 0 [] := MkII.empty zG
 clear hT hML
 go_enter Tryz.func155, Tryz.ntmps155
 go_wp2
 obtain ⟨w1, hw1⟩ : ∃ W, W = w.alloc (.cells #[] 24) := ⟨_, rfl⟩
 rw [← hw1] at hM0 ⊢
 clear hw1
 go_loopw [3, 4] (fun out i wr => ∃ (k : Nat) (A' : Option Addr) (c' : Nat), k ≤ n ∧ i = .int .i64 k ∧ out = .slice A' k c' ∧ MkII w wr A' k c' (M.take k)) (fun _ i _ => n - (intOf i).toNat)
 case atStart => exact ⟨0, _, _, by omega, rfl, rfl, by simpa using hM0⟩
 case round =>
  obtain ⟨k, A', c', hk, rfl, rfl, hM⟩ := hrel
  clear hM0
  by_cases hlt : k < n
  · obtain ⟨g, o, rfl, hxk, A1, c1, hcx, hr1, _⟩ := (ha.below hM.b).at_ hlt
    have hl1 : M[k].length = m := (HT.out M[k] (List.getElem_mem hxk)).1
    rw [hl1] at hcx hr1
    have hcall := l01Own_any A1 m c1 M[k] wr hm hr1
    have HV : Hid (M.take (k + 1) = M.take k ++ [M[k]]) := Lib.hid (List.take_succ_eq_append_getElem hxk)
    have HM := Lib.hid hM
    clear hM hr1 hl1 ha
    go_wp2_with fail
    refine hcall.mono ?_
    rintro e w5 ⟨A5, c5, rfl, hM5⟩
    clear hcall
    go_wp2_with (at_builtin; refine wpList_appRow w wr _ rfl _ _ rfl A' k c' _ A5 m c5 _ HM.out hM5 (by omega) rfl ?_ ?_; (go_simp); intro A6 c6 w6 hM6)
    go_roundw
    case rel => exact ⟨k + 1, A6, c6, by omega, by go_num, rfl, by rw [HV.out]; exact hM6⟩
    case measure => simp [intOf]; omega
  · obtain rfl : k = n := by omega
    go_wp2
    go_ret
    rw [List.take_of_length_le (by rw [HML.out]; exact Nat.le_refl _)] at hM
    exact ⟨_, _, rfl, hM⟩
set_option maxHeartbeats 6400000 in
set_option maxRecDepth 8000 in
theorem basis_any (p : Int) (A : Option Addr) (n c : Nat) (M : List (List Int)) (m : Nat) (w : World) (HP : isP p = true) (hn : n ≤ 65536) (hm : m ≤ 65536) (ha : RdII w A n M) (hT : Tab p m M) :
    Calls Tryz.prog 153 #[.int .i64 p, .slice A n c] w fun e w' => ∃ A' c', e = .returned (.slice A' (basisL p M).length c') ∧ MkII w w' A' (basisL p M).length c' (basisL p M) := by
 have hML := ha.len
 obtain ⟨hp3, hp2⟩ := isP_ge HP
 have hp : 2 ≤ p := by omega
 have hclone := cloneRows_any p A n c M m w hn hm ha hT
 have HT := Lib.hid hT
 have HP' := Lib.hid HP
 by_cases h0 : 0 < n
 · have HBL : Hid (basisL p M = (basisTo p M m).1.take (basisTo p M m).2) := Lib.hid (by unfold basisL; rw [row0_len hT (by omega)])
   have HINV : Hid (∀ k, Tab p m (basisTo p M k).1 ∧ (basisTo p M k).1.length = n ∧ (basisTo p M k).2 ≤ n) := Lib.hid (fun k => by
    have := basisTo_inv (p := p) (by omega) M hT k
    rw [hML] at this
    exact this)
   clear hT HP hML ha
   go_enter Tryz.func153, Tryz.ntmps153
   go_wp2_with fail
   refine hclone.mono ?_
   rintro e w1 ⟨A1, c1, rfl, hM1⟩
   clear hclone
   obtain ⟨g, rfl, -⟩ := hM1.at_ h0
   go_wp2
   go_loopw [6, 7] (fun d q wr => ∃ dn kn : Nat, d = .int .i64 dn ∧ q = .int .i64 kn ∧ kn ≤ m ∧ dn = (basisTo p M kn).2 ∧ MkII w wr (some ⟨g, 0, none⟩) n c1 (basisTo p M kn).1) (fun _ q _ => m - (intOf q).toNat)
   case atStart => exact ⟨0, 0, rfl, rfl, by omega, rfl, hM1⟩
   case round =>
    obtain ⟨dn, kn, rfl, rfl, hkm, hdn, hM⟩ := hrel
    clear hM1
    obtain ⟨hT1, hl1, hd1⟩ := HINV.out kn
    rw [← hdn] at hd1
    have HSUC : Hid (basisTo p M (kn + 1) = stepB p kn ((basisTo p M kn).1, dn)) := Lib.hid (by rw [hdn]; rfl)
    have HFULL : Hid (dn = n → basisL p M = (basisTo p M kn).1.take dn) := Lib.hid (fun h => by
     rw [HBL.out, basisTo_full p M kn m hkm (by rw [← hdn, hl1]; exact h), ← hdn])
    have HEND : Hid (kn = m → basisL p M = (basisTo p M kn).1.take dn) := Lib.hid (fun h => by rw [HBL.out, ← h, ← hdn])
    obtain ⟨L, hL⟩ : ∃ L, L = (basisTo p M kn).1 := ⟨_, rfl⟩
    rw [← hL] at hM hT1 hl1 HSUC HFULL HEND
    clear hL hdn
    have HT1 := Lib.hid hT1
    have HL1 := Lib.hid hl1
    have HM := Lib.hid hM
    have hcap : n ≤ c1 := by obtain ⟨rows, hm', _⟩ := hM; exact hm'.2.cap
    obtain ⟨g0, e0, hx0, A0, c0, hc0, -⟩ := hM.at_ h0
    injection e0 with e0; injection e0 with e0 _ _; subst e0
    have hl0 : L[0].length = m := (HT1.out L[0] (List.getElem_mem hx0)).1
    rw [hl0] at hc0
    clear hl0 hT1 hl1 hM
    by_cases hgo : kn < m ∧ dn < n
    · obtain ⟨hlk, hld⟩ := hgo
      go_wp2
      go_loop [8] (fun i => ∃ j : Nat, dn ≤ j ∧ j ≤ n ∧ i = .int .i64 j ∧ Hid (piv L kn (n - j) j = pivOf L kn dn)) (fun i => n - (intOf i).toNat)
      case atStart => exact ⟨dn, by omega, by omega, rfl, Lib.hid (by unfold pivOf; rw [HL1.out])⟩
      case round =>
       obtain ⟨j, hj1, hj2, rfl, hj3⟩ := hrel
       by_cases hlj : j < n
       · have hld : dn < n := by omega
         obtain ⟨g0, e0, hxj, Aj, cj, hcj, hrj⟩ := HM.out.at_ hlj
         injection e0 with e0; injection e0 with e0 _ _; subst e0
         have HRJ := Lib.hid (HT1.out L[j] (List.getElem_mem hxj))
         have hlj2 : L[j].length = m := HRJ.out.1
         rw [hlj2] at hcj hrj
         obtain ⟨gj, oj, rfl, hxe, hce⟩ := hrj.rd.int hlk
         have HE : Hid (ent L j kn = L[j][kn]) := Lib.hid (ent_at' hxj hxe)
         have HPV : Hid (piv L kn (n - j) j = if ent L j kn = 0 then piv L kn (n - (j + 1)) (j + 1) else j) := Lib.hid (by
          rw [show n - j = (n - (j + 1)) + 1 by omega]; rfl)
         have HROW : Hid ((swapL L dn j)[dn]? = some L[j]) := Lib.hid (by
          rw [swapL_get? L (by rw [HL1.out]; exact hld) hxj]
          by_cases hdj : dn = j
          · subst hdj; rw [if_pos rfl]; exact List.getElem?_eq_getElem hxj
          · rw [if_neg hdj, if_pos rfl]; exact List.getElem?_eq_getElem hxj)
         have HGD : Hid (L.getD j [] = L[j]) := Lib.hid (getD_of_lt [] hxj)
         obtain ⟨R, hR⟩ : ∃ R, R = L[j] := ⟨_, rfl⟩
         have HXE : Hid (∀ h : kn < R.length, R[kn] = L[j][kn]) := Lib.hid (fun h => by simp only [hR])
         rw [← hR] at hrj HRJ HROW HGD
         clear hlj2
         obtain ⟨xe, hxe'⟩ : ∃ x, x = L[j][kn] := ⟨_, rfl⟩
         rw [← hxe'] at hce HE HXE
         have HX : Hid (0 ≤ xe ∧ xe < p) := Lib.hid (hxe' ▸ ((HT1.out L[j] (List.getElem_mem hxj)).2 _ (List.getElem_mem hxe)))
         clear hxe' hxe hR hxj
         cases hz : (xe == 0)
         · have hne : xe ≠ 0 := by simpa using hz
           have HVP : Hid (pivOf L kn dn = j) := Lib.hid (by rw [← hj3.out, HPV.out, if_neg (by rw [HE.out]; exact hne)])
           obtain ⟨g0, e0, hxd, Ad, cd, hcd, hrd⟩ := HM.out.at_ hld
           injection e0 with e0; injection e0 with e0 _ _; subst e0
           have hld2 : L[dn].length = m := (HT1.out L[dn] (List.getElem_mem hxd)).1
           rw [hld2] at hcd hrd
           have fd := HM.out.frozen_ dn
           have fj := HM.out.frozen_ j
           have HSC : Hid (scaledAt p L kn dn = (swapL L dn j).set dn (scaleL p R (invF p xe))) := Lib.hid (by unfold scaledAt; rw [HVP.out, HGD.out, HE.out])
           have HTS : Hid (Tab p m (scaledAt p L kn dn) ∧ (scaledAt p L kn dn).length = n) := Lib.hid ⟨scaledAt_tab (by omega) HT1.out (by rw [HL1.out]; exact hld) (by rw [HVP.out, HL1.out]; exact hlj), by rw [scaledAt_len, HL1.out]⟩
           have HNEXT : Hid (basisTo p M (kn + 1) = (clearTo p (scaledAt p L kn dn) dn kn n, dn + 1)) := Lib.hid (by
            rw [HSUC.out]; unfold stepB; rw [if_neg (by simp only; rw [HVP.out, HL1.out]; omega)]; simp only [HL1.out])
           have HSCD : Hid ((scaledAt p L kn dn).getD dn [] = scaleL p R (invF p xe)) := Lib.hid (by
            rw [HSC.out, getD_set, if_pos ⟨rfl, by rw [swapL_len, HL1.out]; exact hld⟩])
           have HSW := Lib.hid (HM.out.swap hld hlj hcd hcj)
           obtain ⟨uj, hcs⟩ := HM.out.cellSet dn (A1 := some ⟨gj, oj, none⟩) (m := m) (c1 := cj) hlj
           clear hrj hrd hld2 hxd
           go_wp2
           go_region
           obtain ⟨w2, hw2⟩ : ∃ W, W = ((wr.setCell ⟨g, dn, none⟩ (.slice (some ⟨gj, oj, none⟩) m cj)).setCell ⟨g, j, none⟩ (.slice Ad m cd)).drew := ⟨_, rfl⟩
           have hM2 : MkII w w2 (some ⟨g, 0, none⟩) n c1 (swapL L dn j) := by rw [hw2]; exact HSW.out.below (zG.drew)
           rw [← hw2]
           clear hw2 HSW hcs fd fj hcd hcj hce hc0
           obtain ⟨g0, e0, hxs, As, cs, hcs2, hrs⟩ := hM2.at_ hld
           injection e0 with e0; injection e0 with e0 _ _; subst e0
           have hrow : (swapL L dn j)[dn] = R := by have := HROW.out; rw [List.getElem?_eq_getElem hxs] at this; exact Option.some.inj this
           rw [hrow] at hcs2 hrs
           have hRl := HRJ.out.1
           rw [hRl] at hcs2 hrs
           obtain ⟨gs, os, rfl, hxe2, hce2⟩ := hrs.rd.int hlk
           rw [HXE.out hxe2] at hce2
           have HM2 := Lib.hid hM2
           have HRS := Lib.hid hrs
           clear hM2 hrs hrow hxe2 hxs hRl
           have hiv := invF_small hp xe
           have hx1 := HX.out
           have fd := HM2.out.frozen_ dn
           go_wp2
           refine wp_obs 18 [[],[],[],[],[],[3,4],[3,4,5],[],[],[],[8,9],[8,9,10],[],[8,9,10,11,12],[8,9,10,11,12,13],[7,8,9,10,11,12,13,14],[2,3,4,5,6,7,8,9,10,11,12,13,14,15],[0,1],[0,1,2,3,4,5,6,7,8,9,10,11,12,13,14,15,16,17]] [VIs (.slice (some ⟨g, 0, none⟩) n c1), VIs (.int .i64 (dn)), VIs (.int .i64 (p)), VIs (.slice (some ⟨g, 0, none⟩) n c1), VIs (.int .i64 (dn)), VIs (.pointer (some ⟨g, dn, none⟩)), VIs (.slice (some ⟨gs, os, none⟩) m cs), VIs (.int .i64 (p)), VIs (.slice (some ⟨g, 0, none⟩) n c1), VIs (.int .i64 (dn)), VIs (.pointer (some ⟨g, dn, none⟩)), VIs (.slice (some ⟨gs, os, none⟩) m cs), VIs (.int .i64 (kn)), VIs (.pointer (some ⟨gs, os + kn, none⟩)), VIs (.int .i64 (xe)), VIs (.int .i64 (invF p xe)), VSl w2 m (scaleL p R (invF p xe)), VIs (.pointer (some ⟨g, dn, none⟩))] (fun w' => w'.cell? ⟨g, dn, none⟩ = some (.slice (some ⟨gs, os, none⟩) m cs) ∧ w'.cell? ⟨gs, os + kn, none⟩ = some (.int .i64 xe) ∧ Below w2.heap.size w2 w') (by kernel_rfl) (by kernel_rfl) (fun _ _ h hb => keepB2 h hb (Nat.le_refl _)) (⟨hcs2, hce2, zG.drew⟩) (fun x => ?_)
           refine zS (fun w' hS hV K hK => ?_) ?_
           · have q0 := hS.1; have q1 := hS.2.1; have q2 := hS.2.2; go_simp; exact zO hK
           refine zS (fun w' hS hV K hK => ?_) ?_
           · have q0 := hS.1; have q1 := hS.2.1; have q2 := hS.2.2; go_simp; exact zO hK
           refine zS (fun w' hS hV K hK => ?_) ?_
           · have q0 := hS.1; have q1 := hS.2.1; have q2 := hS.2.2; go_simp; exact zO hK
           refine zS (fun w' hS hV K hK => ?_) ?_
           · have q0 := hS.1; have q1 := hS.2.1; have q2 := hS.2.2; go_simp; exact zO hK
           refine zS (fun w' hS hV K hK => ?_) ?_
           · have q0 := hS.1; have q1 := hS.2.1; have q2 := hS.2.2; go_simp; exact zO hK
           refine zS (fun w' hS hV K hK => ?_) ?_
           · have e3 := zQ hV 3; have e4 := zQ hV 4; have q0 := hS.1; have q1 := hS.2.1; have q2 := hS.2.2; go_simp; exact zO hK
           refine zS (fun w' hS hV K hK => ?_) ?_
           · have e5 := zQ hV 5; have q0 := hS.1; have q1 := hS.2.1; have q2 := hS.2.2; go_simp; exact zO hK
           refine zS (fun w' hS hV K hK => ?_) ?_
           · have q0 := hS.1; have q1 := hS.2.1; have q2 := hS.2.2; go_simp; exact zO hK
           refine zS (fun w' hS hV K hK => ?_) ?_
           · have q0 := hS.1; have q1 := hS.2.1; have q2 := hS.2.2; go_simp; exact zO hK
           refine zS (fun w' hS hV K hK => ?_) ?_
           · have q0 := hS.1; have q1 := hS.2.1; have q2 := hS.2.2; go_simp; exact zO hK
           refine zS (fun w' hS hV K hK => ?_) ?_
           · have e8 := zQ hV 8; have e9 := zQ hV 9; have q0 := hS.1; have q1 := hS.2.1; have q2 := hS.2.2; go_simp; exact zO hK
           refine zS (fun w' hS hV K hK => ?_) ?_
           · have e10 := zQ hV 10; have q0 := hS.1; have q1 := hS.2.1; have q2 := hS.2.2; go_simp; exact zO hK
           refine zS (fun w' hS hV K hK => ?_) ?_
           · have q0 := hS.1; have q1 := hS.2.1; have q2 := hS.2.2; go_simp; exact zO hK
           refine zS (fun w' hS hV K hK => ?_) ?_
           · have e11 := zQ hV 11; have e12 := zQ hV 12; have q0 := hS.1; have q1 := hS.2.1; have q2 := hS.2.2; go_simp; exact zO hK
           refine zS (fun w' hS hV K hK => ?_) ?_
           · have e13 := zQ hV 13; have q0 := hS.1; have q1 := hS.2.1; have q2 := hS.2.2; go_simp; exact zO hK
           refine zS (fun w' hS hV K hK => ?_) ?_
           · have e7 := zQ hV 7; have e14 := zQ hV 14; have q0 := hS.1; have q1 := hS.2.1; have q2 := hS.2.2; go_simp; refine (inv_any p xe _ hp hp2 hx1.1 hx1.2).mono ?_; rintro e v1 ⟨rfl, rfl⟩; exact zO hK
           refine zS (fun w' hS hV K hK => ?_) ?_
           · have e2 := zQ hV 2; have e6 := zQ hV 6; have e15 := zQ hV 15; have q0 := hS.1; have q1 := hS.2.1; have q2 := hS.2.2; go_simp; refine (scaled_any p _ m _ (invF p xe) R _ hp hp2 hm (HRS.out.rd.below hS.2.2) HRJ.out.2 (by omega) (by omega)).mono ?_; rintro e v1 ⟨A2, c2, rfl, hM⟩; exact hK.out _ _ _ rfl rfl ⟨_, _, rfl, hM.after hS.2.2⟩ hM.b
           refine zS (fun w' hS hV K hK => ?_) ?_
           · have e0 := zQ hV 0; have e1 := zQ hV 1; have q0 := hS.1; have q1 := hS.2.1; have q2 := hS.2.2; go_simp; exact zO hK
           refine fun w' hS hV => ?_
           have e0 := zT hV 0
           have e1 := zT hV 1
           have e2 := zT hV 2
           have e3 := zT hV 3
           have e4 := zT hV 4
           have e5 := zT hV 5
           have e6 := zT hV 6
           have e7 := zT hV 7
           have e8 := zT hV 8
           have e9 := zT hV 9
           have e10 := zT hV 10
           have e11 := zT hV 11
           have e12 := zT hV 12
           have e13 := zT hV 13
           have e14 := zT hV 14
           have e15 := zT hV 15
           obtain ⟨A16, c16, e16, h16⟩ := hV 16 (by decide)
           have e17 := zT hV 17
           simp only [e0, e1, e2, e3, e4, e5, e6, e7, e8, e9, e10, e11, e12, e13, e14, e15, e16, e17]
           clear e0 e1 e2 e3 e4 e5 e6 e7 e8 e9 e10 e11 e12 e13 e14 e15 e16 e17
           obtain ⟨q0, q1, q2⟩ := hS
           have ff := (HM2.out.below q2).frozen_ dn
           refine any_one (j := 18) (by kernel_rfl) (Eq.trans (by simp only [zA, zB, zC]; exact rfl) rfl) (fun K hK => ?_)
           go_simp
           refine hK.out _ _ (wpAny_done (by kernel_rfl) ?_ _)
           have hM3 := HM2.out.setRow h16 dn
           rw [← HSC.out] at hM3
           clear q0 q1 q2 ff hV hcs2 hce2 fd h16
           obtain ⟨w3, hw3⟩ : ∃ W, W = w'.setCell ⟨g, dn, none⟩ (.slice A16 m c16) := ⟨_, rfl⟩
           rw [← hw3] at hM3 ⊢
           clear hw3 HM2 HRS
           have hM0 : MkII w w3 (some ⟨g, 0, none⟩) n c1 (clearTo p (scaledAt p L kn dn) dn kn 0) := by rw [clearTo_zero]; exact hM3
           obtain ⟨N, hN⟩ : ∃ N, N = scaledAt p L kn dn := ⟨_, rfl⟩
           rw [← hN] at hM0 HTS HNEXT HSCD
           clear hM3 hN HSC
           go_wp2
           go_loopw [86] (fun i w4 => ∃ r : Nat, r ≤ n ∧ i = .int .i64 r ∧ MkII w w4 (some ⟨g, 0, none⟩) n c1 (clearTo p N dn kn r)) (fun i _ => n - (intOf i).toNat)
           case atStart => exact ⟨0, by omega, rfl, hM0⟩
           case round =>
            obtain ⟨r, hr, rfl, hM4⟩ := hrel
            clear hM0
            by_cases hlr : r < n
            · by_cases hrd : r = dn
              · subst hrd
                have HM4 := Lib.hid hM4
                clear hM4
                go_wp2
                go_roundw
                case rel => exact ⟨r + 1, by omega, by go_num, by rw [clearTo_skip]; exact HM4.out⟩
                case measure => simp [intOf]; omega
              · have hT4 : Tab p m (clearTo p N dn kn r) := clearTo_tab (by omega) HTS.out.1 dn kn r
                have hr4 : (clearTo p N dn kn r).getD r [] = N.getD r [] := by rw [clearTo_getD (by rw [HTS.out.2]; exact hlr), if_neg (by omega)]
                have hd4 : (clearTo p N dn kn r).getD dn [] = N.getD dn [] := by rw [clearTo_getD (by rw [HTS.out.2]; exact hld), if_neg (fun h => h.2 rfl)]
                obtain ⟨g0, e0, hxr, Ar, cr, hcr, hrr⟩ := hM4.at_ hlr
                injection e0 with e0; injection e0 with e0 _ _; subst e0
                obtain ⟨g0, e0, hxd, Ad2, cd2, hcd2, hrd2⟩ := hM4.at_ hld
                injection e0 with e0; injection e0 with e0 _ _; subst e0
                have HR1 := Lib.hid (hT4 _ (List.getElem_mem hxr))
                have HD1 := Lib.hid (hT4 _ (List.getElem_mem hxd))
                have hl1 := HR1.out.1
                have hl2 := HD1.out.1
                rw [getD_of_lt [] hxr] at hr4
                rw [getD_of_lt [] hxd] at hd4
                rw [hl1] at hcr hrr
                rw [hl2] at hcd2 hrd2
                rw [hr4] at hrr HR1
                rw [hd4] at hrd2 HD1
                obtain ⟨gr, or', rfl, hxy, hcy⟩ := hrr.rd.int hlk
                have hey : ent N r kn = (N.getD r [])[kn] := by unfold ent; rw [getD_of_lt 0 hxy]
                obtain ⟨y, hy⟩ : ∃ y, y = (N.getD r [])[kn] := ⟨_, rfl⟩
                have hyb : 0 ≤ y ∧ y < p := hy ▸ HR1.out.2 _ (List.getElem_mem hxy)
                rw [← hy] at hcy hey
                have HEY := Lib.hid hey
                have HM4 := Lib.hid hM4
                have HRR := Lib.hid hrr
                have HRD := Lib.hid hrd2
                clear hy hT4 hr4 hd4 hl1 hl2 hxr hxd hxy hey hM4 hrr hrd2
                cases hyz : (y != 0)
                · have hy0 : y = 0 := by simpa using hyz
                  go_wp2
                  go_roundw
                  case rel => exact ⟨r + 1, by omega, by go_num, by rw [clearTo_same (by rw [HTS.out.2]; exact hlr) (by rw [HEY.out]; exact hy0) HR1.out.2]; exact HM4.out⟩
                  case measure => simp [intOf]; omega
                · have hwy := i64_small (x := -y) (by omega) (by omega)
                  go_wp2
                  refine wp_obs 21 [[],[],[],[],[],[3,4],[3,4,5],[],[],[7,8],[7,8,9],[],[],[11,12],[11,12,13],[],[11,12,13,14,15],[11,12,13,14,15,16],[11,12,13,14,15,16,17],[2,3,4,5,6,7,8,9,10,11,12,13,14,15,16,17,18],[0,1],[0,1,2,3,4,5,6,7,8,9,10,11,12,13,14,15,16,17,18,19,20]] [VIs (.slice (some ⟨g, 0, none⟩) n c1), VIs (.int .i64 (r)), VIs (.int .i64 (p)), VIs (.slice (some ⟨g, 0, none⟩) n c1), VIs (.int .i64 (r)), VIs (.pointer (some ⟨g, r, none⟩)), VIs (.slice (some ⟨gr, or', none⟩) m cr), VIs (.slice (some ⟨g, 0, none⟩) n c1), VIs (.int .i64 (dn)), VIs (.pointer (some ⟨g, dn, none⟩)), VIs (.slice Ad2 m cd2), VIs (.slice (some ⟨g, 0, none⟩) n c1), VIs (.int .i64 (r)), VIs (.pointer (some ⟨g, r, none⟩)), VIs (.slice (some ⟨gr, or', none⟩) m cr), VIs (.int .i64 (kn)), VIs (.pointer (some ⟨gr, or' + kn, none⟩)), VIs (.int .i64 (y)), VIs (.int .i64 (-y)), VSl wr m (plusL p (N.getD r []) (N.getD dn []) (-y)), VIs (.pointer (some ⟨g, r, none⟩))] (fun w' => w'.cell? ⟨g, r, none⟩ = some (.slice (some ⟨gr, or', none⟩) m cr) ∧ w'.cell? ⟨g, dn, none⟩ = some (.slice Ad2 m cd2) ∧ w'.cell? ⟨gr, or' + kn, none⟩ = some (.int .i64 y) ∧ Below wr.heap.size wr w') (by kernel_rfl) (by kernel_rfl) (fun _ _ h hb => keepR3 h hb (Nat.le_refl _)) (⟨hcr, hcd2, hcy, zG.drew⟩) (fun x => ?_)
                  refine zS (fun w' hS hV K hK => ?_) ?_
                  · have q0 := hS.1; have q1 := hS.2.1; have q2 := hS.2.2.1; have q3 := hS.2.2.2; go_simp; exact zO hK
                  refine zS (fun w' hS hV K hK => ?_) ?_
                  · have q0 := hS.1; have q1 := hS.2.1; have q2 := hS.2.2.1; have q3 := hS.2.2.2; go_simp; exact zO hK
                  refine zS (fun w' hS hV K hK => ?_) ?_
                  · have q0 := hS.1; have q1 := hS.2.1; have q2 := hS.2.2.1; have q3 := hS.2.2.2; go_simp; exact zO hK
                  refine zS (fun w' hS hV K hK => ?_) ?_
                  · have q0 := hS.1; have q1 := hS.2.1; have q2 := hS.2.2.1; have q3 := hS.2.2.2; go_simp; exact zO hK
                  refine zS (fun w' hS hV K hK => ?_) ?_
                  · have q0 := hS.1; have q1 := hS.2.1; have q2 := hS.2.2.1; have q3 := hS.2.2.2; go_simp; exact zO hK
                  refine zS (fun w' hS hV K hK => ?_) ?_
                  · have e3 := zQ hV 3; have e4 := zQ hV 4; have q0 := hS.1; have q1 := hS.2.1; have q2 := hS.2.2.1; have q3 := hS.2.2.2; go_simp; exact zO hK
                  refine zS (fun w' hS hV K hK => ?_) ?_
                  · have e5 := zQ hV 5; have q0 := hS.1; have q1 := hS.2.1; have q2 := hS.2.2.1; have q3 := hS.2.2.2; go_simp; exact zO hK
                  refine zS (fun w' hS hV K hK => ?_) ?_
                  · have q0 := hS.1; have q1 := hS.2.1; have q2 := hS.2.2.1; have q3 := hS.2.2.2; go_simp; exact zO hK
                  refine zS (fun w' hS hV K hK => ?_) ?_
                  · have q0 := hS.1; have q1 := hS.2.1; have q2 := hS.2.2.1; have q3 := hS.2.2.2; go_simp; exact zO hK
                  refine zS (fun w' hS hV K hK => ?_) ?_
                  · have e7 := zQ hV 7; have e8 := zQ hV 8; have q0 := hS.1; have q1 := hS.2.1; have q2 := hS.2.2.1; have q3 := hS.2.2.2; go_simp; exact zO hK
                  refine zS (fun w' hS hV K hK => ?_) ?_
                  · have e9 := zQ hV 9; have q0 := hS.1; have q1 := hS.2.1; have q2 := hS.2.2.1; have q3 := hS.2.2.2; go_simp; exact zO hK
                  refine zS (fun w' hS hV K hK => ?_) ?_
                  · have q0 := hS.1; have q1 := hS.2.1; have q2 := hS.2.2.1; have q3 := hS.2.2.2; go_simp; exact zO hK
                  refine zS (fun w' hS hV K hK => ?_) ?_
                  · have q0 := hS.1; have q1 := hS.2.1; have q2 := hS.2.2.1; have q3 := hS.2.2.2; go_simp; exact zO hK
                  refine zS (fun w' hS hV K hK => ?_) ?_
                  · have e11 := zQ hV 11; have e12 := zQ hV 12; have q0 := hS.1; have q1 := hS.2.1; have q2 := hS.2.2.1; have q3 := hS.2.2.2; go_simp; exact zO hK
                  refine zS (fun w' hS hV K hK => ?_) ?_
                  · have e13 := zQ hV 13; have q0 := hS.1; have q1 := hS.2.1; have q2 := hS.2.2.1; have q3 := hS.2.2.2; go_simp; exact zO hK
                  refine zS (fun w' hS hV K hK => ?_) ?_
                  · have q0 := hS.1; have q1 := hS.2.1; have q2 := hS.2.2.1; have q3 := hS.2.2.2; go_simp; exact zO hK
                  refine zS (fun w' hS hV K hK => ?_) ?_
                  · have e14 := zQ hV 14; have e15 := zQ hV 15; have q0 := hS.1; have q1 := hS.2.1; have q2 := hS.2.2.1; have q3 := hS.2.2.2; go_simp; exact zO hK
                  refine zS (fun w' hS hV K hK => ?_) ?_
                  · have e16 := zQ hV 16; have q0 := hS.1; have q1 := hS.2.1; have q2 := hS.2.2.1; have q3 := hS.2.2.2; go_simp; exact zO hK
                  refine zS (fun w' hS hV K hK => ?_) ?_
                  · have e17 := zQ hV 17; have q0 := hS.1; have q1 := hS.2.1; have q2 := hS.2.2.1; have q3 := hS.2.2.2; go_simp; exact zO hK
                  refine zS (fun w' hS hV K hK => ?_) ?_
                  · have e2 := zQ hV 2; have e6 := zQ hV 6; have e10 := zQ hV 10; have e18 := zQ hV 18; have q0 := hS.1; have q1 := hS.2.1; have q2 := hS.2.2.1; have q3 := hS.2.2.2; go_simp; refine (plus_any p _ m _ _ m _ (-y) _ _ _ hp hp2 hm (Nat.le_refl _) (HRR.out.rd.below hS.2.2.2) HR1.out.2 (HRD.out.rd.below hS.2.2.2) HD1.out.2 (by omega) (by omega)).mono ?_; rintro e v1 ⟨A2, c2, rfl, hM⟩; exact hK.out _ _ _ rfl rfl ⟨_, _, rfl, hM.after hS.2.2.2⟩ hM.b
                  refine zS (fun w' hS hV K hK => ?_) ?_
                  · have e0 := zQ hV 0; have e1 := zQ hV 1; have q0 := hS.1; have q1 := hS.2.1; have q2 := hS.2.2.1; have q3 := hS.2.2.2; go_simp; exact zO hK
                  refine fun w' hS hV => ?_
                  have e0 := zT hV 0
                  have e1 := zT hV 1
                  have e2 := zT hV 2
                  have e3 := zT hV 3
                  have e4 := zT hV 4
                  have e5 := zT hV 5
                  have e6 := zT hV 6
                  have e7 := zT hV 7
                  have e8 := zT hV 8
                  have e9 := zT hV 9
                  have e10 := zT hV 10
                  have e11 := zT hV 11
                  have e12 := zT hV 12
                  have e13 := zT hV 13
                  have e14 := zT hV 14
                  have e15 := zT hV 15
                  have e16 := zT hV 16
                  have e17 := zT hV 17
                  have e18 := zT hV 18
                  obtain ⟨A19, c19, e19, h19⟩ := hV 19 (by decide)
                  have e20 := zT hV 20
                  simp only [e0, e1, e2, e3, e4, e5, e6, e7, e8, e9, e10, e11, e12, e13, e14, e15, e16, e17, e18, e19, e20]
                  clear e0 e1 e2 e3 e4 e5 e6 e7 e8 e9 e10 e11 e12 e13 e14 e15 e16 e17 e18 e19 e20
                  obtain ⟨q0, q1, q2, q3⟩ := hS
                  have ff := (HM4.out.below q3).frozen_ r
                  refine any_one (j := 21) (by kernel_rfl) (Eq.trans (by simp only [zA, zB, zC]; exact rfl) rfl) (fun K hK => ?_)
                  go_simp
                  refine hK.out _ _ (wpAny_done (by kernel_rfl) ?_ _)
                  have hM5 := HM4.out.setRow h19 r
                  have hM6 : MkII w (w'.setCell ⟨g, r, none⟩ (.slice A19 m c19)) (some ⟨g, 0, none⟩) n c1 (clearTo p N dn kn (r + 1)) := by
                   rw [clearTo_succ p N dn kn r (by rw [HTS.out.2]; exact hlr) hrd, HEY.out]; exact hM5
                  clear q0 q1 q2 q3 ff hM5 h19
                  go_wp2
                  go_roundw
                  case rel => exact ⟨r + 1, by omega, by go_num, hM6⟩
                  case measure => simp [intOf]; omega
            · obtain rfl : r = n := by omega
              have HM4 := Lib.hid hM4
              clear hM4
              go_wp2
              go_roundw
              case rel => exact ⟨dn + 1, kn + 1, by go_num, by go_num, by omega, by rw [HNEXT.out], by rw [HNEXT.out]; exact HM4.out⟩
              case measure => simp [intOf]; omega
         · have hx0' : xe = 0 := by simpa using hz
           go_wp2
           go_round
           case rel => exact ⟨j + 1, by omega, by omega, by go_num, Lib.hid (by rw [← hj3.out, HPV.out, if_pos (by rw [HE.out]; exact hx0')])⟩
           case measure => simp [intOf]; omega
       · obtain rfl : j = n := by omega
         have HVP : Hid (pivOf L kn dn = j) := Lib.hid (by rw [← hj3.out, Nat.sub_self]; rfl)
         have HNEXT : Hid (basisTo p M (kn + 1) = (L, dn)) := Lib.hid (by
          rw [HSUC.out]; unfold stepB; rw [if_pos (by simp only; rw [HVP.out, HL1.out])])
         go_wp2
         go_roundw
         case rel => exact ⟨dn, kn + 1, rfl, by go_num, by omega, by rw [HNEXT.out], by rw [HNEXT.out]; exact HM.out⟩
         case measure => simp [intOf]; omega
    · have HBE : Hid (basisL p M = L.take dn ∧ (L.take dn).length = dn) := Lib.hid ⟨by
       by_cases hk2 : kn = m
       · exact HEND.out hk2
       · exact HFULL.out (by omega), by rw [List.length_take, HL1.out]; omega⟩
      by_cases hk3 : kn < m
      all_goals go_wp2
      all_goals
       go_ret
       rw [HBE.out.1, HBE.out.2]
       exact ⟨_, _, rfl, HM.out.cut hd1⟩
 · obtain rfl : n = 0 := by omega
   obtain rfl : M = [] := List.eq_nil_of_length_eq_zero hML
   clear hT HT
   have HBN := Lib.hid (basisL_nil p)
   go_enter Tryz.func153, Tryz.ntmps153
   go_wp2_with fail
   refine hclone.mono ?_
   rintro e w1 ⟨A1, c1, rfl, hM1⟩
   clear hclone
   go_wp2
   go_loopw [6, 7] (fun d q wr => d = .int .i64 0 ∧ q = .int .i64 0 ∧ wr = w1) (fun _ _ _ => 0)
   case atStart => exact ⟨rfl, rfl, rfl⟩
   case round =>
    obtain ⟨rfl, rfl, rfl⟩ := hrel
    rcases hM1 with ⟨rows, hm1, hn1⟩
    have hcap := hm1.2.cap
    rcases hm1.2.form with ⟨rfl, _⟩ | ⟨g, rfl, _, _⟩
    all_goals
     go_wp2
     go_ret
     rw [HBN.out]
     exact ⟨_, _, rfl, rows, hm1, hn1⟩
set_option maxHeartbeats 6400000 in
set_option maxRecDepth 8000 in
theorem l02Basis_any (p : Int) (A : Option Addr) (n c : Nat) (M : List (List Int)) (m : Nat) (w : World) (HP : isP p = true) (hn : n ≤ 65536) (hm : m ≤ 65536) (ha : RdII w A n M) (hT : Tab p m M) :
    Calls Tryz.prog 189 #[.int .i64 p, .slice A n c] w fun e w' => ∃ A' c', e = .returned (.slice A' (basisL p M).length c') ∧ MkII w w' A' (basisL p M).length c' (basisL p M) := by
 have hML := ha.len
 obtain ⟨hp3, hp2⟩ := isP_ge HP
 have hp : 2 ≤ p := by omega
 have hclone := l01Own2_any p A n c M m w hn hm ha hT
 have HT := Lib.hid hT
 have HP' := Lib.hid HP
 by_cases h0 : 0 < n
 · have HBL : Hid (basisL p M = (basisTo p M m).1.take (basisTo p M m).2) := Lib.hid (by unfold basisL; rw [row0_len hT (by omega)])
   have HINV : Hid (∀ k, Tab p m (basisTo p M k).1 ∧ (basisTo p M k).1.length = n ∧ (basisTo p M k).2 ≤ n) := Lib.hid (fun k => by
    have := basisTo_inv (p := p) (by omega) M hT k
    rw [hML] at this
    exact this)
   clear hT HP hML ha
   go_enter Tryz.func189, Tryz.ntmps189
   go_wp2_with fail
   refine hclone.mono ?_
   rintro e w1 ⟨A1, c1, rfl, hM1⟩
   clear hclone
   obtain ⟨g, rfl, -⟩ := hM1.at_ h0
   go_wp2
   go_loopw [6, 7] (fun d q wr => ∃ dn kn : Nat, d = .int .i64 dn ∧ q = .int .i64 kn ∧ kn ≤ m ∧ dn = (basisTo p M kn).2 ∧ MkII w wr (some ⟨g, 0, none⟩) n c1 (basisTo p M kn).1) (fun _ q _ => m - (intOf q).toNat)
   case atStart => exact ⟨0, 0, rfl, rfl, by omega, rfl, hM1⟩
   case round =>
    obtain ⟨dn, kn, rfl, rfl, hkm, hdn, hM⟩ := hrel
    clear hM1
    obtain ⟨hT1, hl1, hd1⟩ := HINV.out kn
    rw [← hdn] at hd1
    have HSUC : Hid (basisTo p M (kn + 1) = stepB p kn ((basisTo p M kn).1, dn)) := Lib.hid (by rw [hdn]; rfl)
    have HFULL : Hid (dn = n → basisL p M = (basisTo p M kn).1.take dn) := Lib.hid (fun h => by
     rw [HBL.out, basisTo_full p M kn m hkm (by rw [← hdn, hl1]; exact h), ← hdn])
    have HEND : Hid (kn = m → basisL p M = (basisTo p M kn).1.take dn) := Lib.hid (fun h => by rw [HBL.out, ← h, ← hdn])
    obtain ⟨L, hL⟩ : ∃ L, L = (basisTo p M kn).1 := ⟨_, rfl⟩
    rw [← hL] at hM hT1 hl1 HSUC HFULL HEND
    clear hL hdn
    have HT1 := Lib.hid hT1
    have HL1 := Lib.hid hl1
    have HM := Lib.hid hM
    have hcap : n ≤ c1 := by obtain ⟨rows, hm', _⟩ := hM; exact hm'.2.cap
    obtain ⟨g0, e0, hx0, A0, c0, hc0, -⟩ := hM.at_ h0
    injection e0 with e0; injection e0 with e0 _ _; subst e0
    have hl0 : L[0].length = m := (HT1.out L[0] (List.getElem_mem hx0)).1
    rw [hl0] at hc0
    clear hl0 hT1 hl1 hM
    by_cases hlk : kn < m
    · skip
      go_wp2
      go_loop [8] (fun i => ∃ j : Nat, dn ≤ j ∧ j ≤ n ∧ i = .int .i64 j ∧ Hid (piv L kn (n - j) j = pivOf L kn dn)) (fun i => n - (intOf i).toNat)
      case atStart => exact ⟨dn, by omega, by omega, rfl, Lib.hid (by unfold pivOf; rw [HL1.out])⟩
      case round =>
       obtain ⟨j, hj1, hj2, rfl, hj3⟩ := hrel
       by_cases hlj : j < n
       · have hld : dn < n := by omega
         obtain ⟨g0, e0, hxj, Aj, cj, hcj, hrj⟩ := HM.out.at_ hlj
         injection e0 with e0; injection e0 with e0 _ _; subst e0
         have HRJ := Lib.hid (HT1.out L[j] (List.getElem_mem hxj))
         have hlj2 : L[j].length = m := HRJ.out.1
         rw [hlj2] at hcj hrj
         obtain ⟨gj, oj, rfl, hxe, hce⟩ := hrj.rd.int hlk
         have HE : Hid (ent L j kn = L[j][kn]) := Lib.hid (ent_at' hxj hxe)
         have HPV : Hid (piv L kn (n - j) j = if ent L j kn = 0 then piv L kn (n - (j + 1)) (j + 1) else j) := Lib.hid (by
          rw [show n - j = (n - (j + 1)) + 1 by omega]; rfl)
         have HROW : Hid ((swapL L dn j)[dn]? = some L[j]) := Lib.hid (by
          rw [swapL_get? L (by rw [HL1.out]; exact hld) hxj]
          by_cases hdj : dn = j
          · subst hdj; rw [if_pos rfl]; exact List.getElem?_eq_getElem hxj
          · rw [if_neg hdj, if_pos rfl]; exact List.getElem?_eq_getElem hxj)
         have HGD : Hid (L.getD j [] = L[j]) := Lib.hid (getD_of_lt [] hxj)
         obtain ⟨R, hR⟩ : ∃ R, R = L[j] := ⟨_, rfl⟩
         have HXE : Hid (∀ h : kn < R.length, R[kn] = L[j][kn]) := Lib.hid (fun h => by simp only [hR])
         rw [← hR] at hrj HRJ HROW HGD
         clear hlj2
         obtain ⟨xe, hxe'⟩ : ∃ x, x = L[j][kn] := ⟨_, rfl⟩
         rw [← hxe'] at hce HE HXE
         have HX : Hid (0 ≤ xe ∧ xe < p) := Lib.hid (hxe' ▸ ((HT1.out L[j] (List.getElem_mem hxj)).2 _ (List.getElem_mem hxe)))
         clear hxe' hxe hR hxj
         cases hz : (xe == 0)
         · have hne : xe ≠ 0 := by simpa using hz
           have HVP : Hid (pivOf L kn dn = j) := Lib.hid (by rw [← hj3.out, HPV.out, if_neg (by rw [HE.out]; exact hne)])
           obtain ⟨g0, e0, hxd, Ad, cd, hcd, hrd⟩ := HM.out.at_ hld
           injection e0 with e0; injection e0 with e0 _ _; subst e0
           have hld2 : L[dn].length = m := (HT1.out L[dn] (List.getElem_mem hxd)).1
           rw [hld2] at hcd hrd
           have fd := HM.out.frozen_ dn
           have fj := HM.out.frozen_ j
           have HSC : Hid (scaledAt p L kn dn = (swapL L dn j).set dn (scaleL p R (invF p xe))) := Lib.hid (by unfold scaledAt; rw [HVP.out, HGD.out, HE.out])
           have HTS : Hid (Tab p m (scaledAt p L kn dn) ∧ (scaledAt p L kn dn).length = n) := Lib.hid ⟨scaledAt_tab (by omega) HT1.out (by rw [HL1.out]; exact hld) (by rw [HVP.out, HL1.out]; exact hlj), by rw [scaledAt_len, HL1.out]⟩
           have HNEXT : Hid (basisTo p M (kn + 1) = (clearTo p (scaledAt p L kn dn) dn kn n, dn + 1)) := Lib.hid (by
            rw [HSUC.out]; unfold stepB; rw [if_neg (by simp only; rw [HVP.out, HL1.out]; omega)]; simp only [HL1.out])
           have HSCD : Hid ((scaledAt p L kn dn).getD dn [] = scaleL p R (invF p xe)) := Lib.hid (by
            rw [HSC.out, getD_set, if_pos ⟨rfl, by rw [swapL_len, HL1.out]; exact hld⟩])
           have HM1b := Lib.hid (HM.out.rowKept hrj.2 j (.slice Ad m cd))
           have HSWS := Lib.hid (fun (w2 : World) (A1 : Option Addr) (c2 : Nat) (xs : List Int) (h : Mk (wr.setCell ⟨g, j, none⟩ (.slice Ad m cd)) w2 2 A1 m c2 (ints xs)) => HM.out.swapSet hlj hld hcj hcd h)
           obtain ⟨us, hOut⟩ := HM.out.outSet j (.slice Ad m cd)
           obtain ⟨gj', oj', ej', hxe2, hce2⟩ := (Own.rd HM1b.out).int hlk
           injection ej' with ej'; injection ej' with ej1 ej2 _
           subst ej1; subst ej2
           rw [HXE.out hxe2] at hce2
           have HOut := Lib.hid hOut
           clear hrj hrd hld2 hxd hxe2 hOut
           have hiv := invF_small hp xe
           have hx1 := HX.out
           have hP0 : (p == 0) = false := by simp; omega
           have hP1 : (p == -1) = false := by simp; omega
           have hP2 : ¬ p = 0 := by omega
           have hcallI := fun w' => l01Inv_any p xe w' HP'.out (by omega) hx1.2
           have hcallS := l02Scale_any p (some ⟨gj, oj, none⟩) m cj (invF p xe) R (wr.setCell ⟨g, j, none⟩ (.slice Ad m cd)) hp hp2 hm (Own.rd HM1b.out) HRJ.out.2 (by omega) (by omega)
           go_wp2_with fail
           refine (hcallI _).mono ?_
           rintro e v1 ⟨rfl, rfl⟩
           go_wp2_with fail
           refine hcallS.mono ?_
           rintro e w2 ⟨A5, c5, rfl, hM5⟩
           have hOut2 := HOut.out.below hM5.b
           obtain ⟨ud2, -, hud2⟩ := hOut2.2.cell_ hld
           have fd2 := hOut2.2.frozen_ dn
           have hM3 := HSWS.out w2 A5 c5 _ hM5
           rw [← HSC.out] at hM3
           have hOW : Own w2 w.heap.size 2 A5 m c5 (ints (scaleL p R (invF p xe))) := hM5.2.base HOut.out.1.size
           have hOW3 := hOW.grown (hOut2.set dn (.slice A5 m c5)).2 (hOW.ne hOut2.2 (by decide))
           rw [← HSCD.out] at hOW3
           have hM0 : MkII w (w2.setCell ⟨g, dn, none⟩ (.slice A5 m c5)) (some ⟨g, 0, none⟩) n c1 (clearTo p (scaledAt p L kn dn) dn kn 0) := by rw [clearTo_zero]; exact hM3
           obtain ⟨N, hN⟩ : ∃ N, N = scaledAt p L kn dn := ⟨_, rfl⟩
           rw [← hN] at hM0 HTS HNEXT hOW3
           clear hM3 hN HSC HSCD hOW hOut2 hM5 hcallI hcallS hcj hcd hce2 hc0 hce fd fj HM1b HSWS HOut
           go_wp2
           obtain ⟨w3, hw3⟩ : ∃ W, W = w2.setCell ⟨g, dn, none⟩ (.slice A5 m c5) := ⟨_, rfl⟩
           rw [← hw3] at hM0 hOW3 ⊢
           clear hw3 hud2 fd2
           go_loopw [10] (fun i w4 => ∃ r : Nat, r ≤ n ∧ i = .int .i64 r ∧ MkII w w4 (some ⟨g, 0, none⟩) n c1 (clearTo p N dn kn r) ∧ Own w4 w.heap.size 2 A5 m c5 (ints (N.getD dn []))) (fun i _ => n - (intOf i).toNat)
           case atStart => exact ⟨0, by omega, rfl, hM0, hOW3⟩
           case round =>
            obtain ⟨r, hr, rfl, hM4, hO4⟩ := hrel
            clear hM0 hOW3
            by_cases hlr : r < n
            · by_cases hrd : r = dn
              · subst hrd
                have HM4 := Lib.hid hM4
                have HO4 := Lib.hid hO4
                clear hM4 hO4
                go_wp2
                go_roundw
                case rel => exact ⟨r + 1, by omega, by go_num, by rw [clearTo_skip]; exact HM4.out, HO4.out⟩
                case measure => simp [intOf]; omega
              · have hT4 : Tab p m (clearTo p N dn kn r) := clearTo_tab (by omega) HTS.out.1 dn kn r
                have hr4 : (clearTo p N dn kn r).getD r [] = N.getD r [] := by rw [clearTo_getD (by rw [HTS.out.2]; exact hlr), if_neg (by omega)]
                obtain ⟨g0, e0, hxr, Ar, cr, hcr, hrr⟩ := hM4.at_ hlr
                injection e0 with e0; injection e0 with e0 _ _; subst e0
                have HR1 := Lib.hid (hT4 _ (List.getElem_mem hxr))
                have HD1 := Lib.hid ((HTS.out.1.row (by rw [HTS.out.2]; exact hld)).2)
                have hl1 := HR1.out.1
                rw [getD_of_lt [] hxr] at hr4
                rw [hl1] at hcr hrr
                rw [hr4] at hrr HR1
                obtain ⟨gr, or', rfl, hxy, hcy⟩ := hrr.rd.int hlk
                have hey : ent N r kn = (N.getD r [])[kn] := by unfold ent; rw [getD_of_lt 0 hxy]
                obtain ⟨y, hy⟩ : ∃ y, y = (N.getD r [])[kn] := ⟨_, rfl⟩
                have hyb : 0 ≤ y ∧ y < p := hy ▸ HR1.out.2 _ (List.getElem_mem hxy)
                rw [← hy] at hcy hey
                have HEY := Lib.hid hey
                have HM4 := Lib.hid hM4
                have HRR := Lib.hid hrr
                have HO4 := Lib.hid hO4
                have hmb := emod_small (-y) p (by omega)
                clear hy hT4 hr4 hl1 hxr hxy hey hM4 hrr hO4
                have hwy := i64_small (x := p - y) (by omega) (by omega)
                have hty : (p - y).tmod p = (-y) % p := by rw [Int.tmod_eq_emod_of_nonneg (by omega)]; simp
                go_wp2
                refine wp_obs 21 [[],[],[],[],[],[3,4],[3,4,5],[],[],[],[],[9,10],[9,10,11],[],[9,10,11,12,13],[9,10,11,12,13,14],[8,9,10,11,12,13,14,15],[],[8,9,10,11,12,13,14,15,16,17],[2,3,4,5,6,7,8,9,10,11,12,13,14,15,16,17,18],[0,1],[0,1,2,3,4,5,6,7,8,9,10,11,12,13,14,15,16,17,18,19,20]] [VIs (.slice (some ⟨g, 0, none⟩) n c1), VIs (.int .i64 (r)), VIs (.int .i64 (p)), VIs (.slice (some ⟨g, 0, none⟩) n c1), VIs (.int .i64 (r)), VIs (.pointer (some ⟨g, r, none⟩)), VIs (.slice (some ⟨gr, or', none⟩) m cr), VIs (.slice A5 m c5), VIs (.int .i64 (p)), VIs (.slice (some ⟨g, 0, none⟩) n c1), VIs (.int .i64 (r)), VIs (.pointer (some ⟨g, r, none⟩)), VIs (.slice (some ⟨gr, or', none⟩) m cr), VIs (.int .i64 (kn)), VIs (.pointer (some ⟨gr, or' + kn, none⟩)), VIs (.int .i64 (y)), VIs (.int .i64 (p - y)), VIs (.int .i64 (p)), VIs (.int .i64 ((-y) % p)), VSl wr m (plusL p (N.getD r []) (N.getD dn []) ((-y) % p)), VIs (.pointer (some ⟨g, r, none⟩))] (fun w' => w'.cell? ⟨g, r, none⟩ = some (.slice (some ⟨gr, or', none⟩) m cr) ∧ w'.cell? ⟨gr, or' + kn, none⟩ = some (.int .i64 y) ∧ Below wr.heap.size wr w') (by kernel_rfl) (by kernel_rfl) (fun _ _ h hb => keepB2 h hb (Nat.le_refl _)) (⟨hcr, hcy, zG.drew⟩) (fun x => ?_)
                refine zS (fun w' hS hV K hK => ?_) ?_
                · have q0 := hS.1; have q1 := hS.2.1; have q2 := hS.2.2; go_simp; exact zO hK
                refine zS (fun w' hS hV K hK => ?_) ?_
                · have q0 := hS.1; have q1 := hS.2.1; have q2 := hS.2.2; go_simp; exact zO hK
                refine zS (fun w' hS hV K hK => ?_) ?_
                · have q0 := hS.1; have q1 := hS.2.1; have q2 := hS.2.2; go_simp; exact zO hK
                refine zS (fun w' hS hV K hK => ?_) ?_
                · have q0 := hS.1; have q1 := hS.2.1; have q2 := hS.2.2; go_simp; exact zO hK
                refine zS (fun w' hS hV K hK => ?_) ?_
                · have q0 := hS.1; have q1 := hS.2.1; have q2 := hS.2.2; go_simp; exact zO hK
                refine zS (fun w' hS hV K hK => ?_) ?_
                · have e3 := zQ hV 3; have e4 := zQ hV 4; have q0 := hS.1; have q1 := hS.2.1; have q2 := hS.2.2; go_simp; exact zO hK
                refine zS (fun w' hS hV K hK => ?_) ?_
                · have e5 := zQ hV 5; have q0 := hS.1; have q1 := hS.2.1; have q2 := hS.2.2; go_simp; exact zO hK
                refine zS (fun w' hS hV K hK => ?_) ?_
                · have q0 := hS.1; have q1 := hS.2.1; have q2 := hS.2.2; go_simp; exact zO hK
                refine zS (fun w' hS hV K hK => ?_) ?_
                · have q0 := hS.1; have q1 := hS.2.1; have q2 := hS.2.2; go_simp; exact zO hK
                refine zS (fun w' hS hV K hK => ?_) ?_
                · have q0 := hS.1; have q1 := hS.2.1; have q2 := hS.2.2; go_simp; exact zO hK
                refine zS (fun w' hS hV K hK => ?_) ?_
                · have q0 := hS.1; have q1 := hS.2.1; have q2 := hS.2.2; go_simp; exact zO hK
                refine zS (fun w' hS hV K hK => ?_) ?_
                · have e9 := zQ hV 9; have e10 := zQ hV 10; have q0 := hS.1; have q1 := hS.2.1; have q2 := hS.2.2; go_simp; exact zO hK
                refine zS (fun w' hS hV K hK => ?_) ?_
                · have e11 := zQ hV 11; have q0 := hS.1; have q1 := hS.2.1; have q2 := hS.2.2; go_simp; exact zO hK
                refine zS (fun w' hS hV K hK => ?_) ?_
                · have q0 := hS.1; have q1 := hS.2.1; have q2 := hS.2.2; go_simp; exact zO hK
                refine zS (fun w' hS hV K hK => ?_) ?_
                · have e12 := zQ hV 12; have e13 := zQ hV 13; have q0 := hS.1; have q1 := hS.2.1; have q2 := hS.2.2; go_simp; exact zO hK
                refine zS (fun w' hS hV K hK => ?_) ?_
                · have e14 := zQ hV 14; have q0 := hS.1; have q1 := hS.2.1; have q2 := hS.2.2; go_simp; exact zO hK
                refine zS (fun w' hS hV K hK => ?_) ?_
                · have e8 := zQ hV 8; have e15 := zQ hV 15; have q0 := hS.1; have q1 := hS.2.1; have q2 := hS.2.2; go_simp; exact zO hK
                refine zS (fun w' hS hV K hK => ?_) ?_
                · have q0 := hS.1; have q1 := hS.2.1; have q2 := hS.2.2; go_simp; exact zO hK
                refine zS (fun w' hS hV K hK => ?_) ?_
                · have e16 := zQ hV 16; have e17 := zQ hV 17; have q0 := hS.1; have q1 := hS.2.1; have q2 := hS.2.2; go_simp; exact zO hK
                refine zS (fun w' hS hV K hK => ?_) ?_
                · have e2 := zQ hV 2; have e6 := zQ hV 6; have e7 := zQ hV 7; have e18 := zQ hV 18; have q0 := hS.1; have q1 := hS.2.1; have q2 := hS.2.2; go_simp; refine (l02Plus_any p _ m _ _ m _ ((-y) % p) _ _ _ hp hp2 hm (Nat.le_refl _) (HRR.out.rd.below hS.2.2) HR1.out.2 ((Own.rd HO4.out).below hS.2.2) HD1.out (by omega) (by omega)).mono ?_; rintro e v1 ⟨A2, c2, rfl, hM⟩; exact hK.out _ _ _ rfl rfl ⟨_, _, rfl, hM.after hS.2.2⟩ hM.b
                refine zS (fun w' hS hV K hK => ?_) ?_
                · have e0 := zQ hV 0; have e1 := zQ hV 1; have q0 := hS.1; have q1 := hS.2.1; have q2 := hS.2.2; go_simp; exact zO hK
                refine fun w' hS hV => ?_
                have e0 := zT hV 0
                have e1 := zT hV 1
                have e2 := zT hV 2
                have e3 := zT hV 3
                have e4 := zT hV 4
                have e5 := zT hV 5
                have e6 := zT hV 6
                have e7 := zT hV 7
                have e8 := zT hV 8
                have e9 := zT hV 9
                have e10 := zT hV 10
                have e11 := zT hV 11
                have e12 := zT hV 12
                have e13 := zT hV 13
                have e14 := zT hV 14
                have e15 := zT hV 15
                have e16 := zT hV 16
                have e17 := zT hV 17
                have e18 := zT hV 18
                obtain ⟨A19, c19, e19, h19⟩ := hV 19 (by decide)
                have e20 := zT hV 20
                simp only [e0, e1, e2, e3, e4, e5, e6, e7, e8, e9, e10, e11, e12, e13, e14, e15, e16, e17, e18, e19, e20]
                clear e0 e1 e2 e3 e4 e5 e6 e7 e8 e9 e10 e11 e12 e13 e14 e15 e16 e17 e18 e19 e20
                obtain ⟨q0, q1, q2⟩ := hS
                have ff := (HM4.out.below q2).frozen_ r
                refine any_one (j := 21) (by kernel_rfl) (Eq.trans (by simp only [zA, zB, zC]; exact rfl) rfl) (fun K hK => ?_)
                go_simp
                refine hK.out _ _ (wpAny_done (by kernel_rfl) ?_ _)
                have hM5 := HM4.out.setRow h19 r
                have hM6 : MkII w (w'.setCell ⟨g, r, none⟩ (.slice A19 m c19)) (some ⟨g, 0, none⟩) n c1 (clearTo p N dn kn (r + 1)) := by
                 rw [clearTo_succ p N dn kn r (by rw [HTS.out.2]; exact hlr) hrd, HEY.out, plusL_mod p _ _ (k' := (-y) % p) (by rw [Int.emod_emod_of_dvd _ (Int.dvd_refl _)])]; exact hM5
                have hO6 := (HM4.out.below q2).rowKept (HO4.out.below q2) r (.slice A19 m c19)
                clear q0 q1 q2 ff hM5 h19
                go_wp2
                go_roundw
                case rel => exact ⟨r + 1, by omega, by go_num, hM6, hO6⟩
                case measure => simp [intOf]; omega
            · obtain rfl : r = n := by omega
              have HM4 := Lib.hid hM4
              clear hM4
              go_wp2
              go_roundw
              case rel => exact ⟨dn + 1, kn + 1, by go_num, by go_num, by omega, by rw [HNEXT.out], by rw [HNEXT.out]; exact HM4.out⟩
              case measure => simp [intOf]; omega
         · have hx0' : xe = 0 := by simpa using hz
           go_wp2
           go_round
           case rel => exact ⟨j + 1, by omega, by omega, by go_num, Lib.hid (by rw [← hj3.out, HPV.out, if_pos (by rw [HE.out]; exact hx0')])⟩
           case measure => simp [intOf]; omega
       · obtain rfl : j = n := by omega
         have HVP : Hid (pivOf L kn dn = j) := Lib.hid (by rw [← hj3.out, Nat.sub_self]; rfl)
         have HNEXT : Hid (basisTo p M (kn + 1) = (L, dn)) := Lib.hid (by
          rw [HSUC.out]; unfold stepB; rw [if_pos (by simp only; rw [HVP.out, HL1.out])])
         go_wp2
         go_roundw
         case rel => exact ⟨dn, kn + 1, rfl, by go_num, by omega, by rw [HNEXT.out], by rw [HNEXT.out]; exact HM.out⟩
         case measure => simp [intOf]; omega
    · have HBE : Hid (basisL p M = L.take dn ∧ (L.take dn).length = dn) := Lib.hid ⟨by
       by_cases hk2 : kn = m
       · exact HEND.out hk2
       · exact HFULL.out (by omega), by rw [List.length_take, HL1.out]; omega⟩
      go_wp2
      all_goals
       go_ret
       rw [HBE.out.1, HBE.out.2]
       exact ⟨_, _, rfl, HM.out.cut hd1⟩
 · obtain rfl : n = 0 := by omega
   obtain rfl : M = [] := List.eq_nil_of_length_eq_zero hML
   clear hT HT
   have HBN := Lib.hid (basisL_nil p)
   go_enter Tryz.func189, Tryz.ntmps189
   go_wp2_with fail
   refine hclone.mono ?_
   rintro e w1 ⟨A1, c1, rfl, hM1⟩
   clear hclone
   go_wp2
   go_loopw [6, 7] (fun d q wr => d = .int .i64 0 ∧ q = .int .i64 0 ∧ wr = w1) (fun _ _ _ => 0)
   case atStart => exact ⟨rfl, rfl, rfl⟩
   case round =>
    obtain ⟨rfl, rfl, rfl⟩ := hrel
    rcases hM1 with ⟨rows, hm1, hn1⟩
    have hcap := hm1.2.cap
    rcases hm1.2.form with ⟨rfl, _⟩ | ⟨g, rfl, _, _⟩
    all_goals
     go_wp2
     go_ret
     rw [HBN.out]
     exact ⟨_, _, rfl, rows, hm1, hn1⟩
theorem firstL_ld {n : Nat} {B : List (List Int)} (hR : Red n B) {j : Nat} (hj : j < B.length) (hl : B[j].length = n) : firstL B[j] = ((ld B j : Nat) : Int) := by
 have h1 := hR.lt j hj
 unfold ld at h1 ⊢
 rw [getD_of_lt [] hj] at h1 ⊢
 unfold firstL
 rw [if_pos (by omega)]
set_option maxHeartbeats 1600000 in
set_option maxRecDepth 8000 in
theorem transpose_any (p : Int) (A : Option Addr) (n c : Nat) (M : List (List Int)) (m : Nat) (w : World) (h0 : 0 < n) (hn : n ≤ 65536) (hm : m ≤ 65536) (ha : RdII w A n M) (hT : Tab p m M) :
    Calls Tryz.prog 154 #[.slice A n c] w fun e w' => ∃ A' c', e = .returned (.slice A' m c') ∧ MkII w w' A' m c' (transL M) := by
 have hML := ha.len
 have HTL : Hid (transL M = tab m fun k => tab n fun i => ent M i k) := Lib.hid (by unfold transL; rw [(hT.row (show 0 < M.length by omega)).1, hML])
 have HT := Lib.hid hT
 have HML := Lib.hid hML
 have hM0 : MkII w (w.alloc (.cells #[] 24)) (some ⟨w.heap.size, 0, none⟩) 0 0 [] := MkII.empty zG
 obtain ⟨g, o, rfl, hx0, A0, c0, hcx0, _, _⟩ := (ha.below hM0.b).at_ h0
 have hl0 : M[0].length = m := (HT.out M[0] (List.getElem_mem hx0)).1
 rw [hl0, Nat.add_zero] at hcx0
 clear hT hML hl0
 go_enter Tryz.func154, Tryz.ntmps154
 go_wp2
 clear hcx0
 obtain ⟨w1, hw1⟩ : ∃ W, W = w.alloc (.cells #[] 24) := ⟨_, rfl⟩
 rw [← hw1] at hM0 ⊢
 clear hw1
 go_loopw [3, 12] (fun out i wr => ∃ (k : Nat) (A' : Option Addr) (c' : Nat), k ≤ m ∧ i = .int .i64 k ∧ out = .slice A' k c' ∧ MkII w wr A' k c' (tab k fun k => tab n fun i => ent M i k)) (fun _ i _ => m - (intOf i).toNat)
 case atStart => exact ⟨0, _, _, by omega, rfl, rfl, by simpa [tab] using hM0⟩
 case round =>
  obtain ⟨k, A', c', hk, rfl, rfl, hM⟩ := hrel
  clear hM0
  obtain ⟨wo, rfl⟩ : ∃ W, W = wr := ⟨_, rfl⟩
  by_cases hlt : k < m
  · have hr0 := Mk.lit (E := 2) (Below.refl wo.heap.size wo) #[] (by simp)
    have hR0 : MkI wo (wo.alloc (.cells #[] 2)) (some ⟨wo.heap.size, 0, none⟩) 0 0 [] := by simpa [MkI, ints] using hr0
    have HM := Lib.hid hM
    clear hr0 hM
    go_wp2
    go_loopw [5, 18] (fun row i w2 => ∃ (j : Nat) (A2 : Option Addr) (c2 : Nat), j ≤ n ∧ i = .int .i64 j ∧ row = .slice A2 j c2 ∧ MkI wo w2 A2 j c2 (tab j fun i => ent M i k)) (fun _ i _ => n - (intOf i).toNat)
    case atStart => exact ⟨0, _, _, by omega, rfl, rfl, by simpa [tab] using hR0⟩
    case round =>
     obtain ⟨j, A2, c2, hj, rfl, rfl, hR⟩ := hrel
     clear hR0
     have HR := Lib.hid hR
     by_cases hlj : j < n
     · have hbb := HM.out.b.trans (hR.b.mono HM.out.b.size)
       obtain ⟨g', o', e', hxj, A3, c3, hcx, hr3, _⟩ := (ha.below hbb).at_ hlj
       injection e' with e'; injection e' with e1 e2 _
       subst e1; subst e2
       have hl3 : M[j].length = m := (HT.out M[j] (List.getElem_mem hxj)).1
       rw [hl3] at hcx hr3
       obtain ⟨g3, o3, rfl, hx3, hc3⟩ := hr3.int hlt
       have HV : Hid ((tab (j + 1) fun i => ent M i k) = (tab j fun i => ent M i k) ++ [M[j][k]]) := Lib.hid (by rw [tab_succ, ent_at hxj hx3])
       clear hR hr3 hl3 hbb ha
       go_wp2_with (at_builtin; refine wpList_app1 wo _ 24 2 _ _ Tryz.underlying24 info_i rfl (by omega) rfl _ _ rfl A2 j c2 _ _ HR.out (by omega) rfl rfl rfl ?_; intro A4 c4 w4 hM4 _ _)
       go_roundw
       case rel => exact ⟨j + 1, A4, c4, by omega, by go_num, rfl, by rw [HV.out]; simpa [MkI, ints] using hM4⟩
       case measure => simp [intOf]; omega
     · obtain rfl : j = n := by omega
       clear hR ha
       go_wp2_with (at_builtin; refine wpList_appRow w wo _ rfl _ _ rfl A' k c' _ A2 j c2 _ HM.out HR.out (by omega) rfl ?_ ?_; (go_simp); intro A4 c4 w4 hM4)
       go_roundw
       case rel => exact ⟨k + 1, A4, c4, by omega, by go_num, rfl, by rw [tab_succ]; exact hM4⟩
       case measure => simp [intOf]; omega
  · go_wp2
    go_ret
    obtain rfl : k = m := by omega
    exact ⟨_, _, rfl, by rw [HTL.out]; exact hM⟩
set_option maxHeartbeats 1600000 in
set_option maxRecDepth 8000 in
theorem l02Turn_any (p : Int) (A : Option Addr) (n c : Nat) (M : List (List Int)) (m : Nat) (w : World) (h0 : 0 < n) (hn : n ≤ 65536) (hm : m ≤ 65536) (ha : RdII w A n M) (hT : Tab p m M) :
    Calls Tryz.prog 165 #[.slice A n c] w fun e w' => ∃ A' c', e = .returned (.slice A' m c') ∧ MkII w w' A' m c' (transL M) := by
 have hML := ha.len
 have HTL : Hid (transL M = tab m fun k => tab n fun i => ent M i k) := Lib.hid (by unfold transL; rw [(hT.row (show 0 < M.length by omega)).1, hML])
 have HT := Lib.hid hT
 have HML := Lib.hid hML
 have hM0 : MkII w (w.alloc (.cells #[] 24)) (some ⟨w.heap.size, 0, none⟩) 0 0 [] := MkII.empty zG
 obtain ⟨g, o, rfl, _⟩ := ha.at_ h0
 clear hT hML
 go_enter Tryz.func165, Tryz.ntmps165
 go_wp2
 obtain ⟨w1, hw1⟩ : ∃ W, W = w.alloc (.cells #[] 24) := ⟨_, rfl⟩
 rw [← hw1] at hM0 ⊢
 clear hw1
 go_loopw [3, 4] (fun out i wr => ∃ (k : Nat) (A' : Option Addr) (c' : Nat), k ≤ m ∧ i = .int .i64 k ∧ out = .slice A' k c' ∧ MkII w wr A' k c' (tab k fun k => tab n fun i => ent M i k)) (fun _ i _ => m - (intOf i).toNat)
 case atStart => exact ⟨0, _, _, by omega, rfl, rfl, by simpa [tab] using hM0⟩
 case round =>
  obtain ⟨k, A', c', hk, rfl, rfl, hM⟩ := hrel
  clear hM0
  obtain ⟨wo, rfl⟩ : ∃ W, W = wr := ⟨_, rfl⟩
  obtain ⟨A0, c0, hcx0⟩ := (ha.below hM.b).row0 h0 HT.out
  by_cases hlt : k < m
  · have hr0 := Mk.lit (E := 2) (Below.refl wo.heap.size wo) #[] (by simp)
    have hR0 : MkI wo (wo.alloc (.cells #[] 2)) (some ⟨wo.heap.size, 0, none⟩) 0 0 [] := by simpa [MkI, ints] using hr0
    have HM := Lib.hid hM
    clear hr0 hM
    go_wp2
    go_loopw [5, 6] (fun row i w2 => ∃ (j : Nat) (A2 : Option Addr) (c2 : Nat), j ≤ n ∧ i = .int .i64 j ∧ row = .slice A2 j c2 ∧ MkI wo w2 A2 j c2 (tab j fun i => ent M i k)) (fun _ i _ => n - (intOf i).toNat)
    case atStart => exact ⟨0, _, _, by omega, rfl, rfl, by simpa [tab] using hR0⟩
    case round =>
     obtain ⟨j, A2, c2, hj, rfl, rfl, hR⟩ := hrel
     clear hR0 hcx0
     have HR := Lib.hid hR
     by_cases hlj : j < n
     · have hbb := HM.out.b.trans (hR.b.mono HM.out.b.size)
       obtain ⟨g', o', e', hxj, A3, c3, hcx, hr3, _⟩ := (ha.below hbb).at_ hlj
       injection e' with e'; injection e' with e1 e2 _
       subst e1; subst e2
       have hl3 : M[j].length = m := (HT.out M[j] (List.getElem_mem hxj)).1
       rw [hl3] at hcx hr3
       obtain ⟨g3, o3, rfl, hx3, hc3⟩ := hr3.int hlt
       have HV : Hid ((tab (j + 1) fun i => ent M i k) = (tab j fun i => ent M i k) ++ [M[j][k]]) := Lib.hid (by rw [tab_succ, ent_at hxj hx3])
       clear hR hr3 hl3 hbb ha
       go_wp2_with (at_builtin; refine wpList_app1 wo _ 24 2 _ _ Tryz.underlying24 info_i rfl (by omega) rfl _ _ rfl A2 j c2 _ _ HR.out (by omega) rfl rfl rfl ?_; intro A4 c4 w4 hM4 _ _)
       go_roundw
       case rel => exact ⟨j + 1, A4, c4, by omega, by go_num, rfl, by rw [HV.out]; simpa [MkI, ints] using hM4⟩
       case measure => simp [intOf]; omega
     · obtain rfl : j = n := by omega
       clear hR ha
       go_wp2_with (at_builtin; refine wpList_appRow w wo _ rfl _ _ rfl A' k c' _ A2 j c2 _ HM.out HR.out (by omega) rfl ?_ ?_; (go_simp); intro A4 c4 w4 hM4)
       go_roundw
       case rel => exact ⟨k + 1, A4, c4, by omega, by go_num, rfl, by rw [tab_succ]; exact hM4⟩
       case measure => simp [intOf]; omega
  · go_wp2
    go_ret
    obtain rfl : k = m := by omega
    exact ⟨_, _, rfl, by rw [HTL.out]; exact hM⟩
set_option maxHeartbeats 400000 in
set_option maxRecDepth 8000 in
theorem l01Prime_any (p : Int) (w : World) :
    Calls Tryz.prog 244 #[.int .i64 p] w fun e w' => e = .returned (.bool (isP p)) ∧ w = w' := by
 by_cases h3 : p = 3
 · subst h3
   go_enter Tryz.func244, Tryz.ntmps244
   go_wp2
   go_ret
   exact ⟨rfl, rfl⟩
 have b3 : (p == 3) = false := by simpa using h3
 by_cases h5 : p = 5
 · subst h5
   go_enter Tryz.func244, Tryz.ntmps244
   go_wp2
   go_ret
   exact ⟨rfl, rfl⟩
 have b5 : (p == 5) = false := by simpa using h5
 by_cases h7 : p = 7
 · subst h7
   go_enter Tryz.func244, Tryz.ntmps244
   go_wp2
   go_ret
   exact ⟨rfl, rfl⟩
 have b7 : (p == 7) = false := by simpa using h7
 by_cases h11 : p = 11
 · subst h11
   go_enter Tryz.func244, Tryz.ntmps244
   go_wp2
   go_ret
   exact ⟨rfl, rfl⟩
 have b11 : (p == 11) = false := by simpa using h11
 go_enter Tryz.func244, Tryz.ntmps244
 go_wp2
 go_ret
 exact ⟨ret_bool (by simp [isP, b3, b5, b7, b11]), rfl⟩
theorem l01Prime_b {b : Bool} (p : Int) (w : World) (h : isP p = b) :
    Calls Tryz.prog 244 #[.int .i64 p] w fun e w' => e = .returned (.bool b) ∧ w = w' := h ▸ l01Prime_any p w
set_option maxHeartbeats 400000 in
set_option maxRecDepth 8000 in
theorem l01In_any (n lo hi : Int) (w : World) :
    Calls Tryz.prog 245 #[.int .i64 n, .int .i64 lo, .int .i64 hi] w fun e w' => e = .returned (.bool (inR n lo hi)) ∧ w = w' := by
 by_cases h : lo ≤ n
 · go_enter Tryz.func245, Tryz.ntmps245
   go_wp2
   go_ret
   exact ⟨ret_bool (by simp [inR, h]), rfl⟩
 · go_enter Tryz.func245, Tryz.ntmps245
   go_wp2
   go_ret
   exact ⟨ret_bool (by simp [inR]; omega), rfl⟩
theorem l01In_b {b : Bool} (n lo hi : Int) (w : World) (h : inR n lo hi = b) :
    Calls Tryz.prog 245 #[.int .i64 n, .int .i64 lo, .int .i64 hi] w fun e w' => e = .returned (.bool b) ∧ w = w' := h ▸ l01In_any n lo hi w
set_option maxHeartbeats 400000 in
set_option maxRecDepth 8000 in
theorem l01Numbers_any (p : Int) (A : Option Addr) (n c : Nat) (xs : List Int) (w : World) (hp : 0 < p) (hp2 : p ≤ 100) (hn : n ≤ 1099511627776) (ha : Rd w A n (ints xs)) :
    Calls Tryz.prog 241 #[.int .i64 p, .slice A n c] w fun e w' => e = .returned (.bool (nums p xs)) ∧ w = w' := by
 have hxl : xs.length = n := by have := ha.1; rwa [ints_length] at this
 have Hx := Lib.hid hxl; clear hxl
 go_enter Tryz.func241, Tryz.ntmps241
 go_wp2
 go_loop [5] (fun i => ∃ k : Nat, k ≤ n ∧ i = .int .i64 k ∧ nums p (xs.take k) = true) (fun i => n - (intOf i).toNat)
 case atStart => exact ⟨0, by omega, rfl, by simp [nums]⟩
 case round =>
  obtain ⟨k, hk, rfl, ht⟩ := hrel
  have H := Lib.hid ht; clear ht
  by_cases hlt : k < n
  · obtain ⟨g, o, rfl, hx, hcx⟩ := ha.int hlt
    clear ha
    cases hi : inR xs[k] 0 (p - 1)
    all_goals
     have HI := Lib.hid hi; clear hi
     go_wp2_with (go_at_call 245; refine (l01In_b _ _ _ _ HI.out).mono ?_; rintro e w' ⟨rfl, rfl⟩)
    · go_ret
      exact ⟨ret_bool (nums_bad p xs k hx HI.out).symm, rfl⟩
    · go_round
      case rel => exact ⟨k + 1, by omega, by go_num, nums_take p xs k hx H.out HI.out⟩
      case measure => simp [intOf]; omega
  · go_wp2
    go_ret
    have := H.out
    rw [List.take_of_length_le (by rw [Hx.out]; omega)] at this
    exact ⟨ret_bool this.symm, rfl⟩
set_option maxHeartbeats 800000 in
set_option maxRecDepth 8000 in
theorem l03Is_any (P : Int) (A : Option Addr) (n c : Nat) (xs : List Int) (w : World) (hn : n ≤ 1099511627776) (ha : Rd w A n (ints xs)) :
    Calls Tryz.prog 168 #[.agg #[.int .i64 P, .slice A n c]] w fun e w' => e = .returned (.bool (isSp P xs)) ∧ Below w.heap.size w w' := by
 have hxl : xs.length = n := by have := ha.1; rwa [ints_length] at this
 have Hx := Lib.hid hxl; clear hxl
 have hB : Below w.heap.size w (w.alloc (.cells #[.int .i64 P, .slice A n c] 26)) := zG.alloc (Nat.le_refl _) _
 have ha' := ha.below hB
 cases h1 : isP P
 · have H1 := Lib.hid h1; clear h1
   go_enter Tryz.func168, Tryz.ntmps168
   go_wp2_with (go_at_call 244; refine (l01Prime_b _ _ H1.out).mono ?_; rintro e w' ⟨rfl, rfl⟩)
   go_ret
   exact ⟨ret_bool (by simp [isSp, H1.out]), hB⟩
 · obtain ⟨hp0, hp1⟩ := isP_pos h1
   have H1 := Lib.hid h1; clear h1
   cases h2 : inR n 1 6
   · have H2 := Lib.hid h2; clear h2
     go_enter Tryz.func168, Tryz.ntmps168
     go_wp2_with (first | (go_at_call 244; refine (l01Prime_b _ _ H1.out).mono ?_; rintro e w' ⟨rfl, rfl⟩) | (go_at_call 245; refine (l01In_b _ _ _ _ H2.out).mono ?_; rintro e w' ⟨rfl, rfl⟩))
     go_ret
     exact ⟨ret_bool (by simp [isSp, H1.out, H2.out, Hx.out]), hB⟩
   · have H2 := Lib.hid h2; clear h2
     go_enter Tryz.func168, Tryz.ntmps168
     go_wp2_with (first | (go_at_call 244; refine (l01Prime_b _ _ H1.out).mono ?_; rintro e w' ⟨rfl, rfl⟩) | (go_at_call 245; refine (l01In_b _ _ _ _ H2.out).mono ?_; rintro e w' ⟨rfl, rfl⟩) | (go_at_call 241; refine (l01Numbers_any _ _ _ _ _ _ hp0 (by omega) hn ha').mono ?_; rintro e w' ⟨rfl, rfl⟩))
     go_ret
     exact ⟨ret_bool (by simp [isSp, H1.out, H2.out, Hx.out]), hB⟩
theorem l03Is_b {b : Bool} (P : Int) (A : Option Addr) (n c : Nat) (xs : List Int) (w : World) (hn : n ≤ 1099511627776) (ha : Rd w A n (ints xs)) (h : isSp P xs = b) :
    Calls Tryz.prog 168 #[.agg #[.int .i64 P, .slice A n c]] w fun e w' => e = .returned (.bool b) ∧ Below w.heap.size w w' := h ▸ l03Is_any P A n c xs w hn ha
set_option maxHeartbeats 400000 in
set_option maxRecDepth 8000 in
theorem l04Size_any (P : Int) (A : Option Addr) (n c : Nat) (w : World) (hn : n ≤ 30) :
    Calls Tryz.prog 236 #[.agg #[.int .i64 P, .slice A n c]] w fun e w' => e = .returned (.int .i64 (pw n)) ∧ Below w.heap.size w w' := by
 go_enter Tryz.func236, Tryz.ntmps236
 go_wp2
 go_ret
 exact ⟨ret_int (wrap_pw n hn), zG.alloc (Nat.le_refl _) _⟩
/-- Is it a multivector of a space with the squares xs? -/
def isMu (P : Int) (xs ys : List Int) : Bool := (((ys.length : Nat) : Int) == ((pw xs.length : Nat) : Int)) && nums P ys
theorem inR_16 {n : Nat} (h : inR n 1 6 = true) : 1 ≤ n ∧ n ≤ 6 := by simp [inR] at h; omega
theorem isSp_dim {P : Int} {xs : List Int} (h : isSp P xs = true) : isP P = true ∧ 1 ≤ xs.length ∧ xs.length ≤ 6 ∧ nums P xs = true := by
 simp only [isSp, Bool.and_eq_true] at h
 obtain ⟨⟨h1, h2⟩, h3⟩ := h
 obtain ⟨h4, h5⟩ := inR_16 h2
 exact ⟨h1, h4, h5, h3⟩
set_option maxHeartbeats 1000000 in
set_option maxRecDepth 8000 in
theorem l04Is_any (P : Int) (A B : Option Addr) (n c m d : Nat) (xs ys : List Int) (w : World) (hn : n ≤ 1048576) (hm : m ≤ 1048576) (ha : Rd w A n (ints xs)) (hb : Rd w B m (ints ys)) :
    Calls Tryz.prog 149 #[.agg #[.int .i64 P, .slice A n c], .slice B m d] w fun e w' => e = .returned (.bool (isSp P xs && isMu P xs ys)) ∧ Below w.heap.size w w' := by
 have hxl : xs.length = n := by have := ha.1; rwa [ints_length] at this
 have hyl : ys.length = m := by have := hb.1; rwa [ints_length] at this
 have hB : Below w.heap.size w (w.alloc (.cells #[.int .i64 P, .slice A n c] 26)) := zG.alloc (Nat.le_refl _) _
 have k0 : Blk (w.alloc (.cells #[.int .i64 P, .slice A n c] 26)) w.heap.size 26 #[.int .i64 P, .slice A n c] := Blk.new _ _ _
 cases h1 : isSp P xs
 · have H1 := Lib.hid h1; clear h1
   have Hx := Lib.hid hxl; have Hy := Lib.hid hyl; clear hxl hyl
   go_enter Tryz.func149, Tryz.ntmps149
   go_wp2_with fail
   refine (l03Is_b _ _ _ _ _ _ (by omega) (ha.below hB) H1.out).mono ?_
   rintro e w1 ⟨rfl, hb1⟩
   go_wp2
   go_ret
   exact ⟨rfl, hB.trans (hb1.mono (by simp))⟩
 · obtain ⟨hp, hd1, hd2, hnum⟩ := isSp_dim h1
   obtain ⟨hp0, hp1⟩ := isP_pos hp
   have H1 := Lib.hid h1; clear h1 hp hnum
   have hmu : isMu P xs ys = ((((m : Nat) : Int) == ((pw n : Nat) : Int)) && nums P ys) := by unfold isMu; rw [hxl, hyl]
   have Hmu := Lib.hid hmu; clear hmu
   rw [hxl] at hd1 hd2
   have Hx := Lib.hid hxl; have Hy := Lib.hid hyl; clear hxl hyl
   cases h2 : (((m : Nat) : Int) == ((pw n : Nat) : Int))
   all_goals
    go_enter Tryz.func149, Tryz.ntmps149
    go_wp2_with fail
    refine (l03Is_b _ _ _ _ _ _ (by omega) (ha.below hB) H1.out).mono ?_
    rintro e w1 ⟨rfl, hb1⟩
    have k1 := k0.below hb1 k0.lt
    obtain ⟨q0, q1⟩ := k1.two
    have hB1 := hB.trans (hb1.mono (by simp))
    clear k0
    go_wp2_with fail
    refine (l04Size_any _ _ _ _ _ (by omega)).mono ?_
    rintro e w2 ⟨rfl, hb2⟩
    have k2 := k1.below hb2 k1.lt
    obtain ⟨p0, p1⟩ := k2.two
    have hB2 := hB1.trans (hb2.mono hB1.size)
    clear k1 q0 q1
    go_wp2_with fail
   · go_ret
     exact ⟨ret_bool (by rw [Hmu.out, h2]; rfl), hB2⟩
   · refine (l01Numbers_any _ _ _ _ _ _ hp0 (by omega) (by omega) (hb.below hB2)).mono ?_
     rintro e w3 ⟨rfl, rfl⟩
     go_wp2
     go_ret
     exact ⟨ret_bool (by rw [Hmu.out, h2]; rfl), hB2⟩
theorem l04Is_b {b : Bool} (P : Int) (A B : Option Addr) (n c m d : Nat) (xs ys : List Int) (w : World) (hn : n ≤ 1048576) (hm : m ≤ 1048576) (ha : Rd w A n (ints xs)) (hb : Rd w B m (ints ys)) (h : (isSp P xs && isMu P xs ys) = b) :
    Calls Tryz.prog 149 #[.agg #[.int .i64 P, .slice A n c], .slice B m d] w fun e w' => e = .returned (.bool b) ∧ Below w.heap.size w w' := h ▸ l04Is_any P A B n c m d xs ys w hn hm ha hb
set_option maxHeartbeats 400000 in
set_option maxRecDepth 8000 in
theorem l04Zero_any (P : Int) (A : Option Addr) (n c : Nat) (w : World) (hn : n ≤ 10) :
    Calls Tryz.prog 138 #[.agg #[.int .i64 P, .slice A n c]] w fun e w' => ∃ A' c', e = .returned (.slice A' (pw n) c') ∧ MkI w w' A' (pw n) c' (List.replicate (pw n) 0) := by
 have hp : pw n ≤ 1024 := pw_le hn
 have hmk := make_i (P := Tryz.prog) 24 2 Tryz.underlying24 info_i (pw n) (by omega)
 go_enter Tryz.func138, Tryz.ntmps138
 go_wp2_with (go_at_call 236; refine (l04Size_any _ _ _ _ _ (by omega)).mono ?_; rintro e w1 ⟨rfl, hb1⟩)
 go_ret
 have hb2 := ((zG.alloc (Nat.le_refl _) _).trans (hb1.mono (by simp)))
 exact ⟨_, _, rfl, by have := Mk.made (E := 2) (n := pw n) (z := .int .i64 0) hb2 (by simp only [maxLen]; omega); rwa [ints_replicate] at this⟩
set_option maxHeartbeats 400000 in
set_option maxRecDepth 8000 in
theorem l04One_any (P : Int) (A : Option Addr) (n c : Nat) (w : World) (hn : n ≤ 10) :
    Calls Tryz.prog 163 #[.agg #[.int .i64 P, .slice A n c]] w fun e w' => ∃ A' c', e = .returned (.slice A' (pw n) c') ∧ MkI w w' A' (pw n) c' (bladeL n 0) := by
 have hB0 : Below w.heap.size w (w.alloc (.cells #[.int .i64 P, .slice A n c] 26)) := (Below.refl _ w).alloc (Nat.le_refl _) _
 have hm := pw_pos n
 go_enter Tryz.func163, Tryz.ntmps163
 go_wp2_with (go_at_call 138; refine (l04Zero_any _ _ _ _ _ hn).mono ?_; rintro e w1 ⟨G, c1, rfl, hM1⟩; have hM := hM1.after hB0; rcases hM.2.form with ⟨_, h0⟩ | ⟨g, rfl, hg, _⟩; (omega); obtain ⟨u1, hc1⟩ := hM.2.cellI hm; have hf1 := hM.2.frozen_ 0; have hset := (hM.set 0 (.int .i64 1)).1; rw [ints_set] at hset; have HS := Lib.hid hset; clear hM hM1 hset)
 go_ret
 exact ⟨_, _, rfl, HS.out⟩
set_option maxHeartbeats 800000 in
set_option maxRecDepth 8000 in
theorem l04Vector_any (P : Int) (A : Option Addr) (n c : Nat) (X : Option Addr) (cx : Nat) (v : List Int) (w : World) (hn : n ≤ 10) (hx : Rd w X n (ints v)) :
    Calls Tryz.prog 170 #[.agg #[.int .i64 P, .slice A n c], .slice X n cx] w fun e w' => ∃ A' c', e = .returned (.slice A' (pw n) c') ∧ MkI w w' A' (pw n) c' (vecTo n v n) := by
 have hB0 : Below w.heap.size w (w.alloc (.cells #[.int .i64 P, .slice A n c] 26)) := (Below.refl _ w).alloc (Nat.le_refl _) _
 go_enter Tryz.func170, Tryz.ntmps170
 go_wp2_with (go_at_call 138; refine (l04Zero_any _ _ _ _ _ hn).mono ?_; rintro e w1 ⟨G, c1, rfl, hM1⟩)
 have hM := hM1.after hB0
 have hpos := pw_pos n
 rcases hM.2.form with ⟨_, h0⟩ | ⟨g, rfl, hg, _⟩
 · omega
 clear hM1 hB0 hg hpos
 go_loopw [6] (fun i wr => ∃ k : Nat, k ≤ n ∧ i = .int .i64 k ∧ MkI w wr (some ⟨g, 0, none⟩) (pw n) c1 (vecTo n v k)) (fun i _ => n - (intOf i).toNat)
 case atStart => exact ⟨0, by omega, rfl, by simpa [vecTo] using hM⟩
 case round =>
  obtain ⟨k, hk, rfl, hM2⟩ := hrel
  clear hM
  by_cases hlt : k < n
  · obtain ⟨gx, ox, rfl, hxk, hcx⟩ := (hx.below hM2.b).int hlt
    have hvn : v.getD k 0 = v[k] := by rw [List.getD_eq_getElem?_getD, List.getElem?_eq_getElem hxk]; rfl
    have h2 := two_lt hlt
    have hset := (hM2.set (2 ^ k) (.int .i64 v[k])).1
    rw [ints_set, ← hvn, ← vecTo_succ, hvn] at hset
    have hw : wrap64 (2 ^ k) = ((2 ^ k : Nat) : Int) := wrap_pw k (by omega)
    obtain ⟨q, hq⟩ : ∃ q : Nat, q = 2 ^ k := ⟨_, rfl⟩
    rw [← hq] at h2 hset hw
    obtain ⟨hoc, hof⟩ := mkI_at hM2 h2
    have HS := Lib.hid hset
    clear hq
    clear hvn hset hM2
    go_wp2
    go_roundw
    case rel => exact ⟨k + 1, by omega, by go_num, HS.out⟩
    case measure => simp [intOf]; omega
  · obtain rfl : k = n := by omega
    go_wp2
    go_ret
    exact ⟨_, _, rfl, hM2⟩
/-- The value is a slice of one new row in a block of its own. -/
def VNew (w0 : World) (n : Nat) (L : List Int) : VP := ⟨fun v w => ∃ g A c, v = .slice (some ⟨g, 0, none⟩) 1 1 ∧ Blk w g 24 #[.slice A n c] ∧ MkI w0 w A n c L, fun _ _ _ ⟨g, A, c, e, b, h⟩ hb => ⟨g, A, c, e, b.below hb b.lt, h.below hb⟩⟩
/-- A new row, in a block of its own, is appended. -/
theorem wp_appRow {o : Oper} {a : Act} {K : Act → World → Prop} {Q : Exit → Act → World → Prop} (w0 wr w1 : World)
    (s x : Operand) (ho : o.op = .call { callee := .builtin .append, args := #[s, x], argTypes := #[27, 27] })
    (A : Option Addr) (n c : Nat) (xss : List (List Int)) (A1 : Option Addr) (m c1 : Nat) (xs : List Int) (hM : MkII w0 wr A n c xss) (hr : Mk wr w1 2 A1 m c1 (ints xs)) (hn : n ≤ 1099511627776) (g : Nat) (hB : Blk w1 g 24 #[.slice A1 m c1])
    (hs : a.eval s = .slice A n c) (hx : a.eval x = .slice (some ⟨g, 0, none⟩) 1 1)
    (h : ∀ A' c' w', MkII w0 w' A' (n + 1) c' (xss ++ [xs]) → w1.grownBy w' (Value.slice A n c).ownBlock → (∃ g, A' = some ⟨g, 0, none⟩ ∧ ((Value.slice A n c).ownBlock = some g ∨ w1.heap.size ≤ g)) → K (a.put o.dst (.slice A' (n + 1) c')) w') : o.wp Tryz.prog a w1 K Q := by
 obtain ⟨rows, hm, hnest⟩ := hM
 have hm1 := hm.below hr.1
 have hn1 := hnest.snoc hr hm.1.size
 obtain ⟨i, hi, h1, h2, h3⟩ := info_parts info_s
 obtain ⟨b1, b2⟩ := bound_of hn
 refine wp_append_lies w1 s x 27 ho w0.heap.size 24 i (.slice none 0 0) 1 24 Tryz.underlying27 hi h1 h2 h3 rfl (by omega) (.slice A n c) n rows hs hm1.2 ⟨g, 0, none⟩ 1 1 [.slice A1 m c1] hx rfl (fun j v hv => ?_)
  (by intro v hv; simp at hv; rw [hv]; rfl) (by omega) b1 (b2 _ (by omega)) hm1.1.size _ rfl (fun g' cap w' hown hg hat _ => h _ _ _ ⟨_, ⟨hm1.1.grown hg hm1.1.size (fun k hk => (hm1.2.lt k hk).1), hown⟩, hn1.grown hm1.2 (by decide) hg⟩ hg ⟨g', rfl, hat.imp id (fun e => by omega)⟩)
 match j, hv with
 | 0, hv => simp at hv; subst hv; rw [Addr.add_lit]; exact hB.cell 0
theorem is_b {b : Bool} (p : Int) (A : Option Addr) (n c : Nat) (xs : List Int) (w : World) (hp : 0 < p) (hp2 : p ≤ 100) (hn : n ≤ 1099511627776) (ha : Rd w A n (ints xs)) (h : nums p xs = b) :
    Calls Tryz.prog 89 #[.int .i64 p, .slice A n c] w fun e w' => e = .returned (.bool b) ∧ w = w' := h ▸ is_any p A n c xs w hp hp2 hn ha
set_option maxHeartbeats 1000000 in
set_option maxRecDepth 8000 in
theorem isMulti_any (P : Int) (A B : Option Addr) (n c m d : Nat) (xs ys : List Int) (w : World) (hn : n ≤ 6) (hxl : xs.length = n) (hm : m ≤ 1048576) (hp0 : 0 < P) (hp1 : P ≤ 13) (hb : Rd w B m (ints ys)) :
    Calls Tryz.prog 207 #[.agg #[.int .i64 P, .slice A n c], .slice B m d] w fun e w' => e = .returned (.bool (isMu P xs ys)) ∧ Below w.heap.size w w' := by
 have hyl : ys.length = m := by have := hb.1; rwa [ints_length] at this
 have hmu : isMu P xs ys = ((((m : Nat) : Int) == ((pw n : Nat) : Int)) && nums P ys) := by unfold isMu; rw [hxl, hyl]
 have Hmu := Lib.hid hmu
 have hB : Below w.heap.size w (w.alloc (.cells #[.int .i64 P, .slice A n c] 26)) := zG.alloc (Nat.le_refl _) _
 have k0 : Blk (w.alloc (.cells #[.int .i64 P, .slice A n c] 26)) w.heap.size 26 #[.int .i64 P, .slice A n c] := Blk.new _ _ _
 have hw := wrap_pw n (by omega)
 clear hmu hxl hyl
 cases h2 : (((m : Nat) : Int) == ((pw n : Nat) : Int))
 all_goals
  have H2 := Lib.hid h2
  rw [← hw] at h2
  have Hw := Lib.hid hw
  clear hw
  go_enter Tryz.func207, Tryz.ntmps207
  go_wp2_with fail
  refine (dim_any _ _ _ _ _).mono ?_
  rintro e w1 ⟨rfl, hb1⟩
  have k1 := k0.below hb1 k0.lt
  obtain ⟨q0, q1⟩ := k1.two
  have hB1 := hB.trans (hb1.mono (by simp))
  clear k0
  go_wp2_with fail
 · go_ret
   exact ⟨ret_bool (by rw [Hmu.out, H2.out]; rfl), hB1⟩
 · refine (field_any _ _ _ _ _).mono ?_
   rintro e w2 ⟨rfl, hb2⟩
   have hB2 := hB1.trans (hb2.mono hB1.size)
   go_wp2_with fail
   refine (is_any _ _ _ _ _ _ hp0 (by omega) (by omega) (hb.below hB2)).mono ?_
   rintro e w3 ⟨rfl, rfl⟩
   go_wp2
   go_ret
   exact ⟨ret_bool (by rw [Hmu.out, H2.out]; rfl), hB2⟩
theorem IsSpace_b {b : Bool} (P : Int) (A : Option Addr) (n c : Nat) (xs : List Int) (w : World) (hn : n ≤ 1099511627776) (ha : Rd w A n (ints xs)) (h : isSp P xs = b) :
    Calls Tryz.prog 119 #[.agg #[.int .i64 P, .slice A n c]] w fun e w' => e = .returned (.bool b) ∧ Below w.heap.size w w' := h ▸ IsSpace_any P A n c xs w hn ha
/-- The code of a space and of multivectors. -/
def codeM (P : Int) (sq : List Int) (yss : List (List Int)) : Int := if isSp P sq then (if yss.any fun ys => !(isMu P sq ys) then 2 else 0) else 1
set_option maxHeartbeats 800000 in
set_option maxRecDepth 8000 in
theorem notMu (P : Int) (n : Nat) (g : Nat) (A : Option Addr) (c : Nat) (sq : List Int) (w : World) (hn : n ≤ 6) (hsq : sq.length = n) (hp0 : 0 < P) (hp1 : P ≤ 13) (hk : Blk w g 26 #[.int .i64 P, .slice A n c]) :
    Tells 206 #[.pointer (some ⟨g, 0, none⟩)] w (fun ys => !(isMu P sq ys)) (fun ys => ys.length ≤ 1048576) := by
 intro w' D m d ys hb hr hm
 have hyl : ys.length = m := by have := hr.1; rwa [ints_length] at this
 rw [hyl] at hm
 have k0 := hk.below hb hk.lt
 obtain ⟨q0, q1⟩ := k0.two
 have Hsq := Lib.hid hsq
 clear hyl hsq
 simp only [List.append_toArray, List.cons_append, List.nil_append]
 go_enter Tryz.func206, Tryz.ntmps206
 go_wp2_with fail
 refine (isMulti_any P A D n c m d sq ys _ hn Hsq.out hm hp0 hp1 hr).mono ?_
 rintro e w1 ⟨rfl, hb1⟩
 obtain ⟨b, hb'⟩ : ∃ b, b = isMu P sq ys := ⟨_, rfl⟩
 rw [← hb']
 have HB := Lib.hid hb'; clear hb'
 go_wp2
 go_ret
 exact ⟨ret_bool (by rw [HB.out]), hb1⟩
set_option maxRecDepth 8000 in
set_option maxHeartbeats 1000000 in
set_option maxRecDepth 8000 in
theorem checkMultis_any (P : Int) (A B : Option Addr) (n c m d : Nat) (sq : List Int) (yss : List (List Int)) (w : World) (hn : n ≤ 1048576) (hm : m ≤ 1048576) (ha : Rd w A n (ints sq)) (hb : RdII w B m yss) (hys : ∀ ys ∈ yss, ys.length ≤ 1048576) :
    Calls Tryz.prog 104 #[.agg #[.int .i64 P, .slice A n c], .slice B m d] w fun e w' => e = .returned (.int .i64 (codeM P sq yss)) ∧ Below w.heap.size w w' := by
 have hxl : sq.length = n := by have := ha.1; rwa [ints_length] at this
 have hB : Below w.heap.size w (w.alloc (.cells #[.int .i64 P, .slice A n c] 26)) := zG.alloc (Nat.le_refl _) _
 have k0 : Blk (w.alloc (.cells #[.int .i64 P, .slice A n c] 26)) w.heap.size 26 #[.int .i64 P, .slice A n c] := Blk.new _ _ _
 have hmf : ∀ (fn : Fn) (first cap : Array Value) (w : World), (Instr.makeFunc fn first cap).run Tryz.prog w = .ok (.func fn first cap) w := fun _ _ _ _ => rfl
 cases h1 : isSp P sq
 · have H1 := Lib.hid h1; clear h1 hxl
   go_enter Tryz.func104, Tryz.ntmps104
   go_wp2_with fail
   refine (IsSpace_b _ _ _ _ _ _ (by omega) (ha.below hB) H1.out).mono ?_
   rintro e w1 ⟨rfl, hb1⟩
   go_wp2
   go_ret
   exact ⟨ret_int (by unfold codeM; rw [H1.out]; rfl), hB.trans (hb1.mono (by simp))⟩
 obtain ⟨hp, hd1, hd2, -⟩ := isSp_dim h1
 obtain ⟨hp0, hp1⟩ := isP_pos hp
 rw [hxl] at hd1 hd2
 have H1 := Lib.hid h1; have Hx := Lib.hid hxl; clear h1 hp hxl
 cases h2 : (yss.any fun ys => !(isMu P sq ys))
 all_goals
  have H2 := Lib.hid h2; clear h2
  go_enter Tryz.func104, Tryz.ntmps104
  go_wp2_with fail
  refine (IsSpace_b _ _ _ _ _ _ (by omega) (ha.below hB) H1.out).mono ?_
  rintro e w1 ⟨rfl, hb1⟩
  have hB1 := hB.trans (hb1.mono (by simp))
  have hT := notMu P n w.heap.size A c sq w1 (by omega) Hx.out hp0 hp1 (k0.below hb1 k0.lt)
  go_wp2_with fail
  refine (ContainsFunc_any _ _ _ _ _ _ _ _ _ (by omega) (hb.below hB1) hys hT (fun _ _ => rfl)).mono ?_
  rintro e w2 ⟨rfl, hb2⟩
  rw [H2.out]
  go_wp2
  go_ret
  exact ⟨ret_int (by unfold codeM; rw [H1.out, H2.out]; rfl), hB1.trans (hb2.mono hB1.size)⟩
theorem code_ne {a : Int} (h : ¬ a = 0) : (a != 0) = true := by simp [h]
theorem any_take_succ {α : Type} {q : α → Bool} {xs : List α} {k : Nat} (hk : k < xs.length) (h : (xs.take k).any q = false) (h2 : q xs[k] = false) : (xs.take (k + 1)).any q = false := by
 rw [List.take_succ_eq_append_getElem hk, List.any_append, h]; simpa using h2
set_option maxRecDepth 8000 in
set_option maxHeartbeats 1600000 in
set_option maxRecDepth 8000 in
theorem l04Code_any (P : Int) (A B : Option Addr) (n c m d : Nat) (sq : List Int) (yss : List (List Int)) (w : World) (hn : n ≤ 1048576) (hm : m ≤ 1048576) (ha : Rd w A n (ints sq)) (hb : RdII w B m yss) (hys : ∀ ys ∈ yss, ys.length ≤ 1048576) :
    Calls Tryz.prog 106 #[.agg #[.int .i64 P, .slice A n c], .slice B m d] w fun e w' => e = .returned (.int .i64 (codeM P sq yss)) ∧ Below w.heap.size w w' := by
 have hyl := hb.len
 have hB : Below w.heap.size w (w.alloc (.cells #[.int .i64 P, .slice A n c] 26)) := zG.alloc (Nat.le_refl _) _
 have k0 : Blk (w.alloc (.cells #[.int .i64 P, .slice A n c] 26)) w.heap.size 26 #[.int .i64 P, .slice A n c] := Blk.new _ _ _
 have HY := Lib.hid hyl; clear hyl
 cases h1 : isSp P sq
 · have H1 := Lib.hid h1; clear h1
   go_enter Tryz.func106, Tryz.ntmps106
   go_wp2_with fail
   refine (l03Is_b _ _ _ _ _ _ (by omega) (ha.below hB) H1.out).mono ?_
   rintro e w1 ⟨rfl, hb1⟩
   go_wp2
   go_ret
   exact ⟨ret_int (by unfold codeM; rw [H1.out]; rfl), hB.trans (hb1.mono (by simp))⟩
 have H1 := Lib.hid h1; clear h1
 go_enter Tryz.func106, Tryz.ntmps106
 go_wp2_with fail
 refine (l03Is_b _ _ _ _ _ _ (by omega) (ha.below hB) H1.out).mono ?_
 rintro e w1 ⟨rfl, hb1⟩
 have hB1 := hB.trans (hb1.mono (by simp))
 have k1 := k0.below hb1 k0.lt
 clear k0 hb1 hB
 go_wp2_with fail
 go_loopw [5] (fun i wr => ∃ k : Nat, k ≤ m ∧ i = .int .i64 k ∧ (yss.take k).any (fun ys => !(isMu P sq ys)) = false ∧ Blk wr w.heap.size 26 #[.int .i64 P, .slice A n c] ∧ Below w.heap.size w wr) (fun i _ => m - (intOf i).toNat)
 case atStart => exact ⟨0, by omega, rfl, by simp, k1, hB1⟩
 case round =>
  obtain ⟨k, hk, rfl, ht, hk2, hBr⟩ := hrel
  have HT := Lib.hid ht
  clear k1 hB1 ht
  by_cases hlt : k < m
  · obtain ⟨g, o, rfl, hxk, A', c', hcx, hr, hcc⟩ := (hb.below hBr).at_ hlt
    have hr := (hb.at_ hlt)
    obtain ⟨g', o', e', hx', A'', c'', hcw, hrw, _⟩ := hr
    have hr0 : Rd w A' yss[k].length (ints yss[k]) := by
     injection e' with e'; injection e' with e1 e2 _
     subst e1; subst e2
     have := (hBr.cell (World.block_lt_of_cell? _ _ hcw)).trans hcw
     rw [hcx] at this
     injection this with this
     injection this with e3 _ _
     rw [e3]; exact hrw
    clear hcw hrw e' hr
    have hr := hr0
    clear hr0
    have HL := hys yss[k] (List.getElem_mem hxk)
    have i1 : (0 : Int) ≤ (k : Int) := by omega
    have i2 : (k : Int) < (m : Int) := by omega
    cases hi : (isSp P sq && isMu P sq yss[k])
    · have HI := Lib.hid hi
      clear hi
      go_wp2
      refine wp_obs 7 [[],[],[],[1,2],[1,2,3],[0,1,2,3,4],[0,1,2,3,4,5]] [VIs (.agg #[.int .i64 P, .slice A n c]), VIs (.slice (some ⟨g, o, none⟩) m d), VIs (.int .i64 k), VIs (.pointer (some ⟨g, o + k, none⟩)), VIs (.slice A' yss[k].length c'), VIs (.bool false), VIs (.bool true)] (fun w' => Blk w' w.heap.size 26 #[.int .i64 P, .slice A n c] ∧ Below w.heap.size w w' ∧ w'.cell? ⟨g, o + k, none⟩ = some (.slice A' yss[k].length c')) (by kernel_rfl) (by kernel_rfl) (fun _ _ h hb => ⟨h.1.below hb h.1.lt, h.2.1.trans (hb.mono h.2.1.size), (hb.cell (World.block_lt_of_cell? _ _ h.2.2)).trans h.2.2⟩) (⟨hk2.drew, hBr.drew, hcx⟩) (fun x => ?_)
      refine zS (fun w' hS hV K hK => ?_) ?_
      · obtain ⟨q0, q1⟩ := hS.1.two; have q2 := hS.2.2; go_simp; exact zO hK
      refine zS (fun w' hS hV K hK => ?_) ?_
      · obtain ⟨q0, q1⟩ := hS.1.two; have q2 := hS.2.2; go_simp; exact zO hK
      refine zS (fun w' hS hV K hK => ?_) ?_
      · obtain ⟨q0, q1⟩ := hS.1.two; have q2 := hS.2.2; go_simp; exact zO hK
      refine zS (fun w' hS hV K hK => ?_) ?_
      · have e1 := zQ hV 1; have e2 := zQ hV 2; obtain ⟨q0, q1⟩ := hS.1.two; have q2 := hS.2.2; go_simp; exact zO hK
      refine zS (fun w' hS hV K hK => ?_) ?_
      · have e3 := zQ hV 3; obtain ⟨q0, q1⟩ := hS.1.two; have q2 := hS.2.2; go_simp; exact zO hK
      refine zS (fun w' hS hV K hK => ?_) ?_
      · have e0 := zQ hV 0; have e4 := zQ hV 4; obtain ⟨q0, q1⟩ := hS.1.two; have q2 := hS.2.2; go_simp; refine (l04Is_b P A A' n c _ c' sq yss[k] _ hn HL (ha.below hS.2.1) (hr.below hS.2.1) HI.out).mono ?_; rintro e w1 ⟨rfl, hb⟩; exact hK.out _ _ _ rfl rfl rfl hb
      refine zS (fun w' hS hV K hK => ?_) ?_
      · have e5 := zQ hV 5; obtain ⟨q0, q1⟩ := hS.1.two; have q2 := hS.2.2; go_simp; exact zO hK
      refine fun w' hS hV => ?_
      have hV := fun i hi => hV i (List.mem_range.1 hi)
      simp only [List.range, List.range.loop, zL, zM, zH, zI, VIs, VAny] at hV
      obtain ⟨e0, e1, e2, e3, e4, e5, e6⟩ := hV
      simp only [e0, e1, e2, e3, e4, e5, e6]
      clear e0 e1 e2 e3 e4 e5 e6
      refine wpAny_done (by kernel_rfl) ?_ _
      go_wp2
      go_ret
      refine ⟨ret_int ?_, hS.2.1⟩
      have hmu : isMu P sq yss[k] = false := by have := HI.out; rw [H1.out] at this; simpa using this
      have : (yss.any fun ys => !(isMu P sq ys)) = true := List.any_eq_true.2 ⟨yss[k], List.getElem_mem hxk, by rw [hmu]; rfl⟩
      unfold codeM
      rw [H1.out, if_pos rfl, if_pos this]
    · have HI := Lib.hid hi
      clear hi
      go_wp2
      refine wp_obs 7 [[],[],[],[1,2],[1,2,3],[0,1,2,3,4],[0,1,2,3,4,5]] [VIs (.agg #[.int .i64 P, .slice A n c]), VIs (.slice (some ⟨g, o, none⟩) m d), VIs (.int .i64 k), VIs (.pointer (some ⟨g, o + k, none⟩)), VIs (.slice A' yss[k].length c'), VIs (.bool true), VIs (.bool false)] (fun w' => Blk w' w.heap.size 26 #[.int .i64 P, .slice A n c] ∧ Below w.heap.size w w' ∧ w'.cell? ⟨g, o + k, none⟩ = some (.slice A' yss[k].length c')) (by kernel_rfl) (by kernel_rfl) (fun _ _ h hb => ⟨h.1.below hb h.1.lt, h.2.1.trans (hb.mono h.2.1.size), (hb.cell (World.block_lt_of_cell? _ _ h.2.2)).trans h.2.2⟩) (⟨hk2.drew, hBr.drew, hcx⟩) (fun x => ?_)
      refine zS (fun w' hS hV K hK => ?_) ?_
      · obtain ⟨q0, q1⟩ := hS.1.two; have q2 := hS.2.2; go_simp; exact zO hK
      refine zS (fun w' hS hV K hK => ?_) ?_
      · obtain ⟨q0, q1⟩ := hS.1.two; have q2 := hS.2.2; go_simp; exact zO hK
      refine zS (fun w' hS hV K hK => ?_) ?_
      · obtain ⟨q0, q1⟩ := hS.1.two; have q2 := hS.2.2; go_simp; exact zO hK
      refine zS (fun w' hS hV K hK => ?_) ?_
      · have e1 := zQ hV 1; have e2 := zQ hV 2; obtain ⟨q0, q1⟩ := hS.1.two; have q2 := hS.2.2; go_simp; exact zO hK
      refine zS (fun w' hS hV K hK => ?_) ?_
      · have e3 := zQ hV 3; obtain ⟨q0, q1⟩ := hS.1.two; have q2 := hS.2.2; go_simp; exact zO hK
      refine zS (fun w' hS hV K hK => ?_) ?_
      · have e0 := zQ hV 0; have e4 := zQ hV 4; obtain ⟨q0, q1⟩ := hS.1.two; have q2 := hS.2.2; go_simp; refine (l04Is_b P A A' n c _ c' sq yss[k] _ hn HL (ha.below hS.2.1) (hr.below hS.2.1) HI.out).mono ?_; rintro e w1 ⟨rfl, hb⟩; exact hK.out _ _ _ rfl rfl rfl hb
      refine zS (fun w' hS hV K hK => ?_) ?_
      · have e5 := zQ hV 5; obtain ⟨q0, q1⟩ := hS.1.two; have q2 := hS.2.2; go_simp; exact zO hK
      refine fun w' hS hV => ?_
      have hV := fun i hi => hV i (List.mem_range.1 hi)
      simp only [List.range, List.range.loop, zL, zM, zH, zI, VIs, VAny] at hV
      obtain ⟨e0, e1, e2, e3, e4, e5, e6⟩ := hV
      simp only [e0, e1, e2, e3, e4, e5, e6]
      clear e0 e1 e2 e3 e4 e5 e6
      refine wpAny_done (by kernel_rfl) ?_ _
      go_wp2
      have hmu : isMu P sq yss[k] = true := by have := HI.out; rw [H1.out] at this; simpa using this
      have HN := Lib.hid (any_take_succ (q := fun ys => !(isMu P sq ys)) hxk HT.out (by rw [hmu]; rfl))
      clear hmu
      go_roundw
      case rel => exact ⟨k + 1, by omega, by go_num, HN.out, hS.1, hS.2.1⟩
      case measure => simp [intOf]; omega
  · obtain rfl : k = m := by omega
    go_wp2
    go_ret
    refine ⟨ret_int ?_, hBr⟩
    have := HT.out
    rw [List.take_of_length_le (by rw [HY.out]; omega)] at this
    unfold codeM
    rw [H1.out, this]; rfl
theorem mul_zero_all : ∀ p ∈ [(3 : Nat), 5, 7, 11, 13], ∀ a < p, ∀ b < p, a * b % p = 0 → a = 0 ∨ b = 0 := by decide +kernel
theorem mul_zero_mod {p a b : Int} (h : isP p = true) (ha : 0 ≤ a ∧ a < p) (hb : 0 ≤ b ∧ b < p) (h0 : a * b % p = 0) : a = 0 ∨ b = 0 := by
 have hm : p.toNat ∈ [(3 : Nat), 5, 7, 11, 13] := by
  have : p = 3 ∨ p = 5 ∨ p = 7 ∨ p = 11 ∨ p = 13 := by simp [isP] at h; omega
  rcases this with rfl | rfl | rfl | rfl | rfl <;> decide
 have hp : 0 < p := by omega
 have e : ((a.toNat * b.toNat % p.toNat : Nat) : Int) = 0 := by
  rw [Int.natCast_emod, Int.natCast_mul, Int.toNat_of_nonneg ha.1, Int.toNat_of_nonneg hb.1, Int.toNat_of_nonneg (by omega)]; exact h0
 have := mul_zero_all p.toNat hm a.toNat (by omega) b.toNat (by omega) (by omega)
 omega
theorem nums_numsL {P : Int} {xs : List Int} (h : nums P xs = true) : NumsL P xs := fun x hx => by
 have := List.all_eq_true.1 h x hx
 simp [inR] at this
 omega
theorem codeM_sp {P : Int} {sq : List Int} {ms : List (List Int)} (h : codeM P sq ms = 0) : isSp P sq = true ∧ ∀ ys ∈ ms, isMu P sq ys = true := by
 unfold codeM at h
 cases h1 : isSp P sq
 · rw [h1] at h; simp at h
 · rw [h1, if_pos rfl] at h
   refine ⟨rfl, fun ys hy => ?_⟩
   cases h2 : isMu P sq ys
   · exfalso
     have : (ms.any fun ys => !(isMu P sq ys)) = true := List.any_eq_true.2 ⟨ys, hy, by rw [h2]; rfl⟩
     rw [if_pos this] at h
     omega
   · rfl
end Go.Proofs.YtmkjdpnoloofjaaGreat
namespace Go.Proofs.YtmkjdpnoloofjaaGreat
theorem xor_eq_iff (a k m : Nat) : a ^^^ k = m ↔ k = a ^^^ m := by
 constructor
 · rintro rfl; rw [← Nat.xor_assoc, Nat.xor_self, Nat.zero_xor]
 · rintro rfl; rw [← Nat.xor_assoc, Nat.xor_self, Nat.zero_xor]
/-- What row a adds to place m. -/
def term (p : Int) (sq : List Int) (t : Nat → Nat → Bool) (x y : List Int) (m a : Nat) : Int :=
 if t a (a ^^^ m) = true then x.getD a 0 * y.getD (a ^^^ m) 0 * fac p sq a (a ^^^ m) else 0
theorem addRow_getD (p : Int) (sq : List Int) (t : Nat → Nat → Bool) (x y : List Int) (a : Nat) (out : List Int) (m : Nat) (hm : m < out.length) (h0 : out.getD m 0 % p = out.getD m 0) :
    ∀ k, (addRow p sq t x y a out k).getD m 0 = if a ^^^ m < k then (out.getD m 0 + term p sq t x y m a) % p else out.getD m 0 := by
 intro k
 induction k with
 | zero => rw [if_neg (by omega)]; simp [addRow]
 | succ k ih =>
  rw [addRow_succ]
  have hl : (addRow p sq t x y a out k).length = out.length := addRow_len _ _ _ _ _ _ _ _
  unfold addPair
  by_cases hk : a ^^^ k = m
  · have hk' := (xor_eq_iff a k m).1 hk
    have h1 : ¬ a ^^^ m < k := by omega
    have h2 : a ^^^ m < k + 1 := by omega
    rw [if_neg h1] at ih
    rw [if_pos (c := a ^^^ m < k + 1) h2]
    unfold term
    rw [← hk']
    by_cases hc : x.getD a 0 ≠ 0 ∧ y.getD k 0 ≠ 0 ∧ t a k = true
    · rw [if_pos hc, if_pos hc.2.2, getD_set, if_pos ⟨hk, by rw [hl, hk]; exact hm⟩, hk, ih]
    · rw [if_neg hc, ih]
      by_cases ht : t a k = true
      · rw [if_pos ht]
        have : x.getD a 0 * y.getD k 0 = 0 := by
         by_cases h1 : x.getD a 0 = 0
         · rw [h1, Int.zero_mul]
         · by_cases h2 : y.getD k 0 = 0
           · rw [h2, Int.mul_zero]
           · exact absurd ⟨h1, h2, ht⟩ hc
        rw [this, Int.zero_mul, Int.add_zero, h0]
      · rw [if_neg ht, Int.add_zero, h0]
  · have hk' : k ≠ a ^^^ m := fun e => hk ((xor_eq_iff a k m).2 e)
    have e : (if x.getD a 0 ≠ 0 ∧ y.getD k 0 ≠ 0 ∧ t a k = true then (addRow p sq t x y a out k).set (a ^^^ k) (((addRow p sq t x y a out k).getD (a ^^^ k) 0 + x.getD a 0 * y.getD k 0 * fac p sq a k) % p) else addRow p sq t x y a out k).getD m 0 = (addRow p sq t x y a out k).getD m 0 := by
     split
     · rw [getD_set, if_neg (fun h => hk h.1)]
     · rfl
    rw [e, ih]
    by_cases h1 : a ^^^ m < k
    · rw [if_pos h1, if_pos (by omega)]
    · rw [if_neg h1, if_neg (by omega)]
theorem addRows_getD (p : Int) (sq : List Int) (t : Nat → Nat → Bool) (x y : List Int) (n m : Nat) (hy : y.length = pw n) (hm : m < pw n) :
    ∀ k, k ≤ pw n → (addRows p sq t x y (List.replicate (pw n) 0) k).getD m 0 = sumTo k (term p sq t x y m) % p := by
 intro k
 induction k with
 | zero =>
  intro _
  rw [show addRows p sq t x y (List.replicate (pw n) 0) 0 = List.replicate (pw n) 0 from rfl, getD_of_lt 0 (by simpa using hm)]
  simp [sumTo]
 | succ k ih =>
  intro hk
  have ih := ih (by omega)
  have hl : (addRows p sq t x y (List.replicate (pw n) 0) k).length = pw n := by rw [addRows_len]; simp
  rw [addRows_succ, addRow_getD p sq t x y k _ m (by rw [hl]; exact hm) (by rw [ih, Int.emod_emod_of_dvd _ (Int.dvd_refl p)]), if_pos (by rw [hy]; exact xor_lt (by omega) hm), ih]
  exact sumTo_step p k _
theorem prodL_getD (p : Int) (sq : List Int) (t : Nat → Nat → Bool) (x y : List Int) (n m : Nat) (hx : x.length = pw n) (hy : y.length = pw n) (hm : m < pw n) :
    (prodL p sq t x y).getD m 0 = sumTo (pw n) (term p sq t x y m) % p := by
 unfold prodL
 rw [hx]
 exact addRows_getD p sq t x y n m hy hm _ (Nat.le_refl _)
theorem sumTo_zero {n : Nat} {f : Nat → Int} (h : ∀ i, i < n → f i = 0) : sumTo n f = 0 := by
 induction n with
 | zero => rfl
 | succ n ih => rw [sumTo_succ, ih (fun i hi => h i (by omega)), h n (by omega)]; rfl
theorem sumTo_one {n : Nat} {f : Nat → Int} (k : Nat) (hk : k < n) (h : ∀ i, i < n → i ≠ k → f i = 0) : sumTo n f = f k := by
 induction n with
 | zero => omega
 | succ n ih =>
  rw [sumTo_succ]
  by_cases e : k = n
  · subst e; rw [sumTo_zero (fun i hi => h i (by omega) (by omega)), Int.zero_add]
  · rw [ih (by omega) (fun i hi => h i (by omega)), h n (by omega) (by omega), Int.add_zero]
theorem sumTo_add (n : Nat) (f g : Nat → Int) : sumTo n (fun i => f i + g i) = sumTo n f + sumTo n g := by
 induction n with
 | zero => rfl
 | succ n ih => rw [sumTo_succ, sumTo_succ, sumTo_succ, ih]; omega
theorem sumTo_mul (n : Nat) (f : Nat → Int) (c : Int) : sumTo n (fun i => c * f i) = c * sumTo n f := by
 induction n with
 | zero => simp [sumTo]
 | succ n ih => rw [sumTo_succ, sumTo_succ, ih, Int.mul_add]
theorem sumTo_comm (n m : Nat) (f : Nat → Nat → Int) : sumTo n (fun i => sumTo m (f i)) = sumTo m (fun j => sumTo n (fun i => f i j)) := by
 induction n with
 | zero => exact (sumTo_zero (fun _ _ => rfl)).symm
 | succ n ih => rw [sumTo_succ, ih, ← sumTo_add]; rfl
theorem pc_zero : pc 0 = 0 := by simp [pc]
theorem bit_zero (i : Nat) : bit 0 i = 0 := by simp [bit]
theorem fac_zero_left (p : Int) (sq : List Int) (b : Nat) : fac p sq 0 b = 1 := by
 have h1 : ∀ i, swaps 0 b i = 0 := by
  intro i
  induction i with
  | zero => rfl
  | succ i ih => simp [swaps, ih, pc_zero]
 have h2 : ∀ i, common p sq 0 b i = 1 := by
  intro i
  induction i with
  | zero => rfl
  | succ i ih => simp [common, ih, bit_zero]
 unfold fac
 rw [h1, h2]; rfl
theorem bladeL_getD (n m i : Nat) (hi : i < pw n) : (bladeL n m).getD i 0 = if m = i then 1 else 0 := by
 unfold bladeL
 rw [getD_set]
 by_cases h : m = i
 · subst h; rw [if_pos ⟨rfl, by simpa using hi⟩, if_pos rfl]
 · rw [if_neg (fun hh => h hh.1), if_neg h, getD_of_lt 0 (by simpa using hi)]; simp
/-- 1 times a multivector. -/
theorem one_mul (p : Int) (sq : List Int) (n : Nat) (xs : List Int) (hx : xs.length = pw n) (hn : NumsL p xs) : mulL p sq (bladeL n 0) xs = xs := by
 apply list_ext_getD 0 (by unfold mulL; rw [prodL_len, bladeL_len, hx])
 intro m hm
 have hm : m < pw n := by unfold mulL at hm; rwa [prodL_len, bladeL_len] at hm
 unfold mulL
 rw [prodL_getD p sq _ _ xs n m (bladeL_len n 0) hx hm, sumTo_one 0 (pw_pos n) (fun i hi h0 => by unfold term; rw [if_pos rfl, bladeL_getD n 0 i hi, if_neg (fun e => h0 e.symm), Int.zero_mul, Int.zero_mul])]
 unfold term
 rw [if_pos rfl, bladeL_getD n 0 0 (pw_pos n), if_pos rfl, Nat.zero_xor, fac_zero_left, Int.one_mul, Int.mul_one]
 obtain ⟨h1, h2⟩ := hn _ (getD_mem 0 (by rw [hx]; exact hm))
 exact Int.emod_eq_of_lt h1 h2
theorem mulL_len (p : Int) (sq xs ys : List Int) : (mulL p sq xs ys).length = xs.length := prodL_len _ _ _ _ _
theorem mulL_nums {p : Int} (hp : 0 < p) (sq xs ys : List Int) : NumsL p (mulL p sq xs ys) := prodL_nums sq _ _ _ hp
theorem timesL_two (p : Int) (sq : List Int) (n : Nat) (xs ys : List Int) (hx : xs.length = pw n) (hn : NumsL p xs) : timesL p sq n [xs, ys] = mulL p sq xs ys := by
 show mulL p sq (mulL p sq (bladeL n 0) xs) ys = _
 rw [one_mul p sq n xs hx hn]
end Go.Proofs.YtmkjdpnoloofjaaGreat
namespace Go.Proofs.YtmkjdpnoloofjaaGreat
open Go.RowKit
/-- The places 1, 2, 4, .. of a list. -/
def partL (n : Nat) (x : List Int) : List Int := (List.range n).map fun i => x.getD (2 ^ i) 0
theorem partL_len (n : Nat) (x : List Int) : (partL n x).length = n := by simp [partL]
theorem partL_nums {p : Int} (hp : 0 < p) (n : Nat) (x : List Int) (h : NumsL p x) : NumsL p (partL n x) := fun y hy => by
 obtain ⟨i, _, rfl⟩ := List.mem_map.1 hy
 exact h.getD hp _
theorem partL_succ (k : Nat) (x : List Int) : partL (k + 1) x = partL k x ++ [x.getD (2 ^ k) 0] := by simp [partL, List.range_succ]
set_option maxHeartbeats 800000 in
set_option maxRecDepth 8000 in
theorem vectorPart_any (P : Int) (A : Option Addr) (n c : Nat) (X : Option Addr) (cx : Nat) (x : List Int) (w : World) (hn : n ≤ 10) (hx : Rd w X (pw n) (ints x)) :
    Calls Tryz.prog 172 #[.agg #[.int .i64 P, .slice A n c], .slice X (pw n) cx] w fun e w' => ∃ A' c', e = .returned (.slice A' n c') ∧ MkI w w' A' n c' (partL n x) := by
 have hB0 : Below w.heap.size w (w.alloc (.cells #[.int .i64 P, .slice A n c] 26)) := (Below.refl _ w).alloc (Nat.le_refl _) _
 have hM0 := Mk.lit (E := 2) hB0 #[] (by simp)
 go_enter Tryz.func172, Tryz.ntmps172
 go_wp2_with (go_at_call 79; refine (dim_any _ _ _ _ _).mono ?_; rintro e w1 ⟨rfl, hb1⟩)
 have hM : MkI w w1 (some ⟨w.heap.size + 1, 0, none⟩) 0 0 [] := by have := hM0.below hb1; simpa [MkI, ints] using this
 clear hM0 hb1 hB0
 go_loopw [5, 6, 10] (fun out _ i wr => ∃ (k : Nat) (A' : Option Addr) (c' : Nat), k ≤ n ∧ i = .int .i64 k ∧ out = .slice A' k c' ∧ MkI w wr A' k c' (partL k x)) (fun _ _ i _ => n - (intOf i).toNat)
 case atStart => exact ⟨0, _, _, by omega, rfl, rfl, by simpa [partL] using hM⟩
 case round =>
  obtain ⟨k, A', c', hk, rfl, rfl, hM2⟩ := hrel
  clear hM
  by_cases hlt : k < n
  · have h2 := two_lt hlt
    have hw : wrap64 (2 ^ k) = ((2 ^ k : Nat) : Int) := wrap_pw k (by omega)
    obtain ⟨q, hq⟩ : ∃ q : Nat, q = 2 ^ k := ⟨_, rfl⟩
    rw [← hq] at h2 hw
    obtain ⟨gx, ox, rfl, hxk, hcx⟩ := (hx.below hM2.b).int h2
    have HV : Hid (partL (k + 1) x = partL k x ++ [x[q]]) := Lib.hid (by rw [partL_succ, ← hq, List.getD_eq_getElem?_getD, List.getElem?_eq_getElem hxk]; rfl)
    have HM := Lib.hid hM2
    clear hq hM2
    go_wp2_with (at_builtin; refine wpList_app1 w _ 24 2 _ _ Tryz.underlying24 info_i rfl (by omega) rfl _ _ rfl A' k c' _ _ HM.out (by omega) rfl rfl rfl ?_; intro A2 c2 w2 hM3 _ _)
    go_roundw
    case rel => exact ⟨k + 1, A2, c2, by omega, by go_num, rfl, by rw [HV.out]; simpa [MkI, ints] using hM3⟩
    case measure => simp [intOf]; omega
  · obtain rfl : k = n := by omega
    go_wp2
    go_ret
    exact ⟨_, _, rfl, hM2⟩
set_option maxHeartbeats 800000 in
set_option maxRecDepth 8000 in
theorem l04List_any (P : Int) (A : Option Addr) (n c : Nat) (X : Option Addr) (cx : Nat) (x : List Int) (w : World) (hn : n ≤ 10) (hx : Rd w X (pw n) (ints x)) :
    Calls Tryz.prog 176 #[.agg #[.int .i64 P, .slice A n c], .slice X (pw n) cx] w fun e w' => ∃ A' c', e = .returned (.slice A' n c') ∧ MkI w w' A' n c' (partL n x) := by
 have hB0 : Below w.heap.size w (w.alloc (.cells #[.int .i64 P, .slice A n c] 26)) := (Below.refl _ w).alloc (Nat.le_refl _) _
 have hk0 : Blk (w.alloc (.cells #[.int .i64 P, .slice A n c] 26)) w.heap.size 26 #[.int .i64 P, .slice A n c] := Blk.new w _ _
 have hM0 := Mk.lit (E := 2) hB0 #[] (by simp)
 have hM : MkI w ((w.alloc (.cells #[.int .i64 P, .slice A n c] 26)).alloc (.cells #[] 2)) (some ⟨w.heap.size + 1, 0, none⟩) 0 0 [] := by simpa [MkI, ints] using hM0
 have hk1 := hk0.alloc (.cells #[] 2)
 go_enter Tryz.func176, Tryz.ntmps176
 go_wp2
 clear hM0 hB0 hk0
 obtain ⟨w1, hw1⟩ : ∃ W, W = (w.alloc (.cells #[.int .i64 P, .slice A n c] 26)).alloc (.cells #[] 2) := ⟨_, rfl⟩
 rw [← hw1] at hM hk1 ⊢
 clear hw1
 go_loopw [5, 6] (fun out i wr => ∃ (k : Nat) (A' : Option Addr) (c' : Nat), k ≤ n ∧ i = .int .i64 k ∧ out = .slice A' k c' ∧ MkI w wr A' k c' (partL k x) ∧ Blk wr w.heap.size 26 #[.int .i64 P, .slice A n c]) (fun _ i _ => n - (intOf i).toNat)
 case atStart => exact ⟨0, _, _, by omega, rfl, rfl, by simpa [partL] using hM, hk1⟩
 case round =>
  obtain ⟨k, A', c', hk, rfl, rfl, hM2, hk2⟩ := hrel
  clear hM hk1
  obtain ⟨kc0, kc1⟩ := hk2.two
  by_cases hlt : k < n
  · have h2 := two_lt hlt
    have hw : wrap64 (2 ^ k) = ((2 ^ k : Nat) : Int) := wrap_pw k (by omega)
    obtain ⟨q, hq⟩ : ∃ q : Nat, q = 2 ^ k := ⟨_, rfl⟩
    rw [← hq] at h2 hw
    obtain ⟨gx, ox, rfl, hxk, hcx⟩ := (hx.below hM2.b).int h2
    have HV : Hid (partL (k + 1) x = partL k x ++ [x[q]]) := Lib.hid (by rw [partL_succ, ← hq, List.getD_eq_getElem?_getD, List.getElem?_eq_getElem hxk]; rfl)
    have HM := Lib.hid hM2
    have HNE := Lib.hid (Own.ne_blk hM2.2 hk2 (by decide))
    clear hq hM2
    go_wp2_with (at_builtin; refine wpList_app1 w _ 24 2 _ _ Tryz.underlying24 info_i rfl (by omega) rfl _ _ rfl A' k c' _ _ HM.out (by omega) rfl rfl rfl ?_; intro A2 c2 w2 hM3 hgr _)
    have hk3 := hk2.grown hgr HNE.out
    go_roundw
    case rel => exact ⟨k + 1, A2, c2, by omega, by go_num, rfl, by rw [HV.out]; simpa [MkI, ints] using hM3, hk3⟩
    case measure => simp [intOf]; omega
  · obtain rfl : k = n := by omega
    go_wp2
    go_ret
    exact ⟨_, _, rfl, hM2⟩
theorem isMu_spec3 {P : Int} {sq ys : List Int} (h : isMu P sq ys = true) : ys.length = pw sq.length ∧ NumsL P ys := by
 unfold isMu at h
 simp only [Bool.and_eq_true, beq_iff_eq] at h
 exact ⟨by have := h.1; omega, nums_numsL h.2⟩
theorem codeM_spec3 {P : Int} {sq : List Int} {ms : List (List Int)} (h : codeM P sq ms = 0) : isP P = true ∧ 2 ≤ P ∧ P ≤ 13 ∧ 1 ≤ sq.length ∧ sq.length ≤ 6 ∧ NumsL P sq ∧ ∀ ys ∈ ms, ys.length = pw sq.length ∧ NumsL P ys := by
 obtain ⟨h1, h2⟩ := codeM_sp h
 obtain ⟨hp, hd1, hd2, hnum⟩ := isSp_dim h1
 have := isP_ge hp
 exact ⟨hp, by omega, by omega, hd1, hd2, nums_numsL hnum, fun ys hy => isMu_spec3 (h2 ys hy)⟩
theorem Blk.newAt3 {w : World} {t : TypeId} {cs : Array Value} {g : Nat} (hg : g = w.heap.size) : Blk (w.alloc (.cells cs t)) g t cs := hg ▸ Blk.new w t cs
theorem noRow3 {w w' : World} {R : List Int × Int} {x : Int} (hR : R = ([], x)) (hB : Below w.heap.size w w') :
    ∃ (A' : Option Addr) (k c' : Nat), Ending.returned (.tuple #[.slice none 0 0, .int .i64 x]) = .returned (.tuple #[.slice A' k c', .int .i64 R.2]) ∧ MkI w w' A' k c' R.1 := by
 subst hR
 exact ⟨none, 0, 0, rfl, Mk.nil hB⟩
theorem aRow3 {w w' : World} {R : List Int × Int} {A : Option Addr} {k c : Nat} {L : List Int} {x : Int} (hR : R = (L, x)) (hM : MkI w w' A k c L) :
    ∃ (A' : Option Addr) (k' c' : Nat), Ending.returned (.tuple #[.slice A k c, .int .i64 x]) = .returned (.tuple #[.slice A' k' c', .int .i64 R.2]) ∧ MkI w w' A' k' c' R.1 := by
 subst hR
 exact ⟨_, _, _, rfl, hM⟩
theorem sumTo_169 {n : Nat} {f : Nat → Int} (h : ∀ i, i < n → 0 ≤ f i ∧ f i ≤ 169) : 0 ≤ sumTo n f ∧ sumTo n f ≤ 169 * (n : Int) := by
 induction n with
 | zero => simp [sumTo]
 | succ n ih =>
  obtain ⟨a, b⟩ := ih fun i hi => h i (by omega)
  obtain ⟨c, d⟩ := h n (by omega)
  rw [sumTo_succ]
  omega
set_option maxHeartbeats 800000 in
set_option maxRecDepth 8000 in
theorem dot_any (p : Int) (A : Option Addr) (n c : Nat) (B : Option Addr) (m d : Nat) (xs ys : List Int) (w : World) (hp : 2 ≤ p) (hp2 : p ≤ 13) (hn : n ≤ 65536) (hnm : n ≤ m) (ha : Rd w A n (ints xs)) (hx : NumsL p xs) (hb : Rd w B m (ints ys)) (hy : NumsL p ys) :
    Calls Tryz.prog 196 #[.int .i64 p, .slice A n c, .slice B m d] w fun e w' => e = .returned (.int .i64 (dotL p xs ys)) ∧ w = w' := by
 have hxl := ha.lenI
 have hyl := hb.lenI
 have hsb : Hid (∀ j, j ≤ n → 0 ≤ (sumTo j fun i => xs.getD i 0 * ys.getD i 0) ∧ (sumTo j fun i => xs.getD i 0 * ys.getD i 0) ≤ 169 * (j : Int)) := Lib.hid (fun j hj => sumTo_169 (n := j) (f := fun i => xs.getD i 0 * ys.getD i 0) fun i hi => by
  show 0 ≤ xs.getD i 0 * ys.getD i 0 ∧ xs.getD i 0 * ys.getD i 0 ≤ 169
  have h1 : i < xs.length := by omega
  have h2 : i < ys.length := by omega
  rw [getD_of_lt 0 h1, getD_of_lt 0 h2]
  obtain ⟨a1, a2⟩ := hx _ (List.getElem_mem h1)
  obtain ⟨b1, b2⟩ := hy _ (List.getElem_mem h2)
  exact mul_small a1 (show xs[i] ≤ 13 by omega) b1 (show ys[i] ≤ 13 by omega))
 have Hx := Lib.hid hxl
 clear hxl hyl
 go_enter Tryz.func196, Tryz.ntmps196
 go_wp2
 go_loopw [7, 8, 9, 12] (fun s _ _ i wr => ∃ j : Nat, j ≤ n ∧ i = .int .i64 j ∧ s = .int .i64 (sumTo j fun i => xs.getD i 0 * ys.getD i 0) ∧ wr = w) (fun _ _ _ i _ => n - (intOf i).toNat)
 case atStart => exact ⟨0, by omega, rfl, rfl, rfl⟩
 case round =>
  obtain ⟨j, hj, rfl, rfl, rfl⟩ := hrel
  obtain ⟨b1, b2⟩ := hsb.out j hj
  have hsucc : Hid ((sumTo (j + 1) fun i => xs.getD i 0 * ys.getD i 0) = (sumTo j fun i => xs.getD i 0 * ys.getD i 0) + xs.getD j 0 * ys.getD j 0) := Lib.hid (sumTo_succ _ _)
  have hdot : Hid (j = n → dotL p xs ys = (sumTo j fun i => xs.getD i 0 * ys.getD i 0) % p) := Lib.hid (fun h => by unfold dotL; rw [Hx.out, h])
  obtain ⟨s, hs⟩ : ∃ s, s = sumTo j fun i => xs.getD i 0 * ys.getD i 0 := ⟨_, rfl⟩
  rw [← hs] at b1 b2 hsucc hdot ⊢
  clear hs
  by_cases hlt : j < n
  · obtain ⟨g, o, rfl, hxj, hcx⟩ := ha.int hlt
    obtain ⟨g2, o2, rfl, hyj, hcy⟩ := hb.int (show j < m by omega)
    obtain ⟨x1, x2⟩ := hx _ (List.getElem_mem hxj)
    obtain ⟨y1, y2⟩ := hy _ (List.getElem_mem hyj)
    obtain ⟨m1, m2⟩ := mul_small x1 (show xs[j] ≤ 13 by omega) y1 (show ys[j] ≤ 13 by omega)
    have HV : Hid ((sumTo (j + 1) fun i => xs.getD i 0 * ys.getD i 0) = s + xs[j] * ys[j]) := Lib.hid (by rw [hsucc.out, getD_of_lt 0 hxj, getD_of_lt 0 hyj])
    clear ha hb
    go_wp2
    go_roundw
    case rel => exact ⟨j + 1, by omega, by go_num, by rw [HV.out], trivial⟩
    case measure => simp [intOf]; omega
  · go_wp2_with fail
    refine (num_any p s _ (by omega) hp2 (by omega) (by omega)).mono ?_
    rintro e w' ⟨rfl, rfl⟩
    go_wp2
    go_ret
    exact ⟨ret_int (hdot.out (by omega)).symm, rfl⟩
/-- A vector with all numbers multiplied by the squares. -/
def weiL (P : Int) (sq v : List Int) : List Int := tab v.length fun i => v.getD i 0 * sq.getD i 0 % P
theorem weiL_len (P : Int) (sq v : List Int) : (weiL P sq v).length = v.length := tab_len _ _
theorem weiL_nums {P : Int} (hp : 0 < P) (sq v : List Int) : NumsL P (weiL P sq v) := NumsL.tab fun i _ => ⟨Int.emod_nonneg _ (by omega), Int.emod_lt_of_pos _ hp⟩
/-- The product of two vectors. -/
def pairL (P : Int) (sq v u : List Int) : Int := dotL P (weiL P sq v) u
theorem pairL_sum {P : Int} {sq v u : List Int} {n : Nat} (hv : v.length = n) : pairL P sq v u = (sumTo n fun i => v.getD i 0 * u.getD i 0 % P * sq.getD i 0) % P := by
 unfold pairL dotL
 rw [weiL_len, hv]
 refine sumTo_mod P fun i hi => ?_
 unfold weiL
 rw [tab_getD (by omega), Int.mul_emod, Int.emod_emod_of_dvd _ (Int.dvd_refl P), ← Int.mul_emod, Int.mul_emod (v.getD i 0 * u.getD i 0 % P), Int.emod_emod_of_dvd _ (Int.dvd_refl P), ← Int.mul_emod, Int.mul_assoc, Int.mul_comm (sq.getD i 0), ← Int.mul_assoc]
set_option maxHeartbeats 3200000 in
set_option maxRecDepth 8000 in
theorem weighted_any (P : Int) (A : Option Addr) (n c : Nat) (sq : List Int) (X : Option Addr) (cx : Nat) (v : List Int) (w : World) (hp : 2 ≤ P) (hp2 : P ≤ 13) (hn : n ≤ 6) (ha : Rd w A n (ints sq)) (hs : NumsL P sq) (hx : Rd w X n (ints v)) (hv : NumsL P v) :
    Calls Tryz.prog 264 #[.agg #[.int .i64 P, .slice A n c], .slice X n cx] w fun e w' => ∃ A' c', e = .returned (.slice A' n c') ∧ MkI w w' A' n c' (weiL P sq v) := by
 have HL : Hid (weiL P sq v = tab n fun i => v.getD i 0 * sq.getD i 0 % P) := Lib.hid (by unfold weiL; rw [hx.lenI])
 have hB0 : Below w.heap.size w (w.alloc (.cells #[.int .i64 P, .slice A n c] 26)) := zG.alloc (Nat.le_refl _) _
 have k0 : Blk (w.alloc (.cells #[.int .i64 P, .slice A n c] 26)) w.heap.size 26 #[.int .i64 P, .slice A n c] := Blk.new _ _ _
 have k1 := k0.alloc (.cells #[] 2)
 have hM0 := Mk.lit (E := 2) hB0 #[] (by simp)
 have hM1 : MkI w ((w.alloc (.cells #[.int .i64 P, .slice A n c] 26)).alloc (.cells #[] 2)) (some ⟨w.heap.size + 1, 0, none⟩) 0 0 (tab 0 fun i => v.getD i 0 * sq.getD i 0 % P) := by
  simpa [MkI, ints, tab] using hM0
 clear k0 hB0 hM0
 go_enter Tryz.func264, Tryz.ntmps264
 go_wp2
 go_loopw [5, 6, 7, 11] (fun out _ _ i wr => ∃ (j : Nat) (A' : Option Addr) (c' : Nat), j ≤ n ∧ i = .int .i64 j ∧ out = .slice A' j c' ∧ MkI w wr A' j c' (tab j fun i => v.getD i 0 * sq.getD i 0 % P) ∧ Blk wr w.heap.size 26 #[.int .i64 P, .slice A n c]) (fun _ _ _ i _ => n - (intOf i).toNat)
 case atStart => exact ⟨0, _, _, by omega, rfl, rfl, hM1, k1⟩
 case round =>
  obtain ⟨j, A', c', hj, rfl, rfl, hM, k2⟩ := hrel
  clear hM1 k1
  obtain ⟨q0, q1⟩ := k2.two
  by_cases hlt : j < n
  · obtain ⟨g, o, rfl, hxj, hcx⟩ := (hx.below hM.b).int hlt
    obtain ⟨g2, o2, rfl, hyj, hcy⟩ := (ha.below hM.b).int hlt
    obtain ⟨x1, x2⟩ := hv _ (List.getElem_mem hxj)
    obtain ⟨y1, y2⟩ := hs _ (List.getElem_mem hyj)
    have HV : Hid ((tab (j + 1) fun i => v.getD i 0 * sq.getD i 0 % P) = (tab j fun i => v.getD i 0 * sq.getD i 0 % P) ++ [v[j] * sq[j] % P]) := Lib.hid (by rw [tab_succ, getD_of_lt 0 hxj, getD_of_lt 0 hyj])
    obtain ⟨xa, hxe⟩ : ∃ xa, xa = v[j] := ⟨_, rfl⟩
    obtain ⟨ya, hye⟩ : ∃ ya, ya = sq[j] := ⟨_, rfl⟩
    rw [← hxe] at hcx x1 x2 HV
    rw [← hye] at hcy y1 y2 HV
    obtain ⟨m1, m2⟩ := mul_small x1 (show xa ≤ 13 by omega) y1 (show ya ≤ 13 by omega)
    have W1 := i64_fit (xa * ya) (by omega) (by omega)
    have i1 : (0 : Int) ≤ (j : Int) := by omega
    have i2 : (j : Int) < (n : Int) := by omega
    have HM := Lib.hid hM
    clear hxe hye hxj hyj hM
    go_wp2
    refine wp_obs 12 [[],[],[1],[],[],[4],[],[4,5,6],[4,5,6,7],[3,4,5,6,7,8],[1,2,3,4,5,6,7,8,9],[1,2,3,4,5,6,7,8,9,10],[0,1,2,3,4,5,6,7,8,9,10,11],[0,1,2,3,4,5,6,7,8,9,10,11,12]] [VIs (.slice A' j c'), VIs (.agg #[.int .i64 P, .slice (some ⟨g2, o2, none⟩) n c]), VIs (.int .i64 (P)), VIs (.int .i64 (xa)), VIs (.pointer (some ⟨w.heap.size, 1, none⟩)), VIs (.slice (some ⟨g2, o2, none⟩) n c), VIs (.int .i64 (j)), VIs (.pointer (some ⟨g2, o2 + j, none⟩)), VIs (.int .i64 (ya)), VIs (.int .i64 (xa * ya)), VIs (.int .i64 (xa * ya % P)), VBs 2 #[.int .i64 (xa * ya % P)]] (fun w' => w'.cell? ⟨g2, o2 + j, none⟩ = some (.int .i64 ya) ∧ Blk w' w.heap.size 26 #[.int .i64 P, .slice (some ⟨g2, o2, none⟩) n c] ∧ Below wr.heap.size wr w') (by kernel_rfl) (by kernel_rfl) (fun _ _ h hb => ⟨(hb.cell (World.block_lt_of_cell? _ _ h.1)).trans h.1, h.2.1.below hb h.2.1.lt, h.2.2.trans (hb.mono h.2.2.size)⟩) (⟨hcy, k2.drew, zG.drew⟩) (fun x => ?_)
    refine zS (fun w' hS hV K hK => ?_) ?_
    · have q2 := hS.1; obtain ⟨q0, q1⟩ := hS.2.1.two; go_simp; exact zO hK
    refine zS (fun w' hS hV K hK => ?_) ?_
    · have q2 := hS.1; obtain ⟨q0, q1⟩ := hS.2.1.two; go_simp; exact zO hK
    refine zS (fun w' hS hV K hK => ?_) ?_
    · have e1 := zQ hV 1; have q2 := hS.1; obtain ⟨q0, q1⟩ := hS.2.1.two; go_simp; refine (field_any _ _ _ _ _).mono ?_; rintro e v1 ⟨rfl, hb⟩; exact hK.out _ _ _ rfl rfl rfl hb
    refine zS (fun w' hS hV K hK => ?_) ?_
    · have q2 := hS.1; obtain ⟨q0, q1⟩ := hS.2.1.two; go_simp; exact zO hK
    refine zS (fun w' hS hV K hK => ?_) ?_
    · have q2 := hS.1; obtain ⟨q0, q1⟩ := hS.2.1.two; go_simp; exact zO hK
    refine zS (fun w' hS hV K hK => ?_) ?_
    · have e4 := zQ hV 4; have q2 := hS.1; obtain ⟨q0, q1⟩ := hS.2.1.two; go_simp; exact zO hK
    refine zS (fun w' hS hV K hK => ?_) ?_
    · have q2 := hS.1; obtain ⟨q0, q1⟩ := hS.2.1.two; go_simp; exact zO hK
    refine zS (fun w' hS hV K hK => ?_) ?_
    · have e5 := zQ hV 5; have e6 := zQ hV 6; have q2 := hS.1; obtain ⟨q0, q1⟩ := hS.2.1.two; go_simp; exact zO hK
    refine zS (fun w' hS hV K hK => ?_) ?_
    · have e7 := zQ hV 7; have q2 := hS.1; obtain ⟨q0, q1⟩ := hS.2.1.two; go_simp; exact zO hK
    refine zS (fun w' hS hV K hK => ?_) ?_
    · have e3 := zQ hV 3; have e8 := zQ hV 8; have q2 := hS.1; obtain ⟨q0, q1⟩ := hS.2.1.two; go_simp; exact zO hK
    refine zS (fun w' hS hV K hK => ?_) ?_
    · have e2 := zQ hV 2; have e9 := zQ hV 9; have q2 := hS.1; obtain ⟨q0, q1⟩ := hS.2.1.two; go_simp; refine (num_any P (xa * ya) _ (by omega) hp2 (by omega) (by omega)).mono ?_; rintro e v1 ⟨rfl, rfl⟩; exact zO hK
    refine zS (fun w' hS hV K hK => ?_) ?_
    · have e10 := zQ hV 10; have q2 := hS.1; obtain ⟨q0, q1⟩ := hS.2.1.two; go_simp; exact hK.out _ _ _ rfl rfl ⟨_, rfl, Blk.new _ _ _⟩ (zG.alloc (Nat.le_refl _) _)
    refine fun w' hS hV => ?_
    have e0 := zT hV 0
    have e1 := zT hV 1
    have e2 := zT hV 2
    have e3 := zT hV 3
    have e4 := zT hV 4
    have e5 := zT hV 5
    have e6 := zT hV 6
    have e7 := zT hV 7
    have e8 := zT hV 8
    have e9 := zT hV 9
    have e10 := zT hV 10
    obtain ⟨b11, e11, h11⟩ := hV 11 (by decide)
    simp only [e0, e1, e2, e3, e4, e5, e6, e7, e8, e9, e10, e11]
    clear e0 e1 e2 e3 e4 e5 e6 e7 e8 e9 e10 e11
    have s1 := HM.out.below hS.2.2
    have k3 := hS.2.1
    refine any_plain (j := 12) (by kernel_rfl) (Eq.trans (by simp only [zA, zB, zC]; exact rfl) rfl) rfl (fun K hK => ?_)
    refine wp_app1 w w' 24 2 _ _ Tryz.underlying24 info_i rfl (by omega) _ _ rfl A' j c' _ _ s1 (by omega) rfl _ h11 (by rfl) (by rfl) ?_
    intro A2 c2 w2 hM2 hgr
    refine hK.out _ _ ?_
    simp only [Act.put, zD, zE, zF]
    refine any_one (j := 13) (by kernel_rfl) (Eq.trans (by simp only [zA, zB, zC]; exact rfl) rfl) (fun K hK => ?_)
    go_simp
    refine hK.out _ _ (wpAny_done (by kernel_rfl) ?_ _)
    have k4 := k3.grown hgr (s1.2.ne_blk k3 (by decide))
    clear W1 s1 k3 hgr hS
    go_wp2
    go_roundw
    case rel => exact ⟨j + 1, A2, c2, by omega, by go_num, rfl, by rw [HV.out]; simpa [MkI, ints] using hM2, k4⟩
    case measure => simp [intOf]; omega
  · obtain rfl : j = n := by omega
    go_wp2
    go_ret
    exact ⟨_, _, rfl, by rw [HL.out]; exact hM⟩
set_option maxHeartbeats 1600000 in
set_option maxRecDepth 8000 in
theorem pair_any (P : Int) (A : Option Addr) (n c : Nat) (sq : List Int) (X : Option Addr) (cx : Nat) (v : List Int) (Y : Option Addr) (cy : Nat) (u : List Int) (w : World) (hp : 2 ≤ P) (hp2 : P ≤ 13) (hn : n ≤ 6) (ha : Rd w A n (ints sq)) (hs : NumsL P sq) (hx : Rd w X n (ints v)) (hv : NumsL P v) (hy : Rd w Y n (ints u)) (hu : NumsL P u) :
    Calls Tryz.prog 222 #[.agg #[.int .i64 P, .slice A n c], .slice X n cx, .slice Y n cy] w fun e w' => e = .returned (.int .i64 (pairL P sq v u)) ∧ Below w.heap.size w w' := by
 have HPL : Hid (pairL P sq v u = dotL P (weiL P sq v) u) := Lib.hid rfl
 have hB0 : Below w.heap.size w (w.alloc (.cells #[.int .i64 P, .slice A n c] 26)) := zG.alloc (Nat.le_refl _) _
 have k0 : Blk (w.alloc (.cells #[.int .i64 P, .slice A n c] 26)) w.heap.size 26 #[.int .i64 P, .slice A n c] := Blk.new _ _ _
 go_enter Tryz.func222, Tryz.ntmps222
 go_wp2
 refine wp_obs 8 [[],[0],[],[],[2,3],[],[0,1,2,3,4,5],[0,1,2,3,4,5,6]] [VIs (.agg #[.int .i64 P, .slice A n c]), VIs (.int .i64 (P)), VIs (.agg #[.int .i64 P, .slice A n c]), VIs (.slice X n cx), VSl w n (weiL P sq v), VIs (.slice Y n cy), VIs (.int .i64 (pairL P sq v u)), VIs (.int .i64 (pairL P sq v u))] (fun w' => Blk w' w.heap.size 26 #[.int .i64 P, .slice A n c] ∧ Below w.heap.size w w') (by kernel_rfl) (by kernel_rfl) (fun _ _ h hb => ⟨h.1.below hb h.1.lt, h.2.trans (hb.mono h.2.size)⟩) (⟨k0.drew, hB0.drew⟩) (fun x => ?_)
 refine zS (fun w' hS hV K hK => ?_) ?_
 · obtain ⟨q0, q1⟩ := hS.1.two; go_simp; exact zO hK
 refine zS (fun w' hS hV K hK => ?_) ?_
 · have e0 := zQ hV 0; obtain ⟨q0, q1⟩ := hS.1.two; go_simp; refine (field_any _ _ _ _ _).mono ?_; rintro e v1 ⟨rfl, hb⟩; exact hK.out _ _ _ rfl rfl rfl hb
 refine zS (fun w' hS hV K hK => ?_) ?_
 · obtain ⟨q0, q1⟩ := hS.1.two; go_simp; exact zO hK
 refine zS (fun w' hS hV K hK => ?_) ?_
 · obtain ⟨q0, q1⟩ := hS.1.two; go_simp; exact zO hK
 refine zS (fun w' hS hV K hK => ?_) ?_
 · have e2 := zQ hV 2; have e3 := zQ hV 3; obtain ⟨q0, q1⟩ := hS.1.two; go_simp; refine (weighted_any P A n c sq X cx v _ hp hp2 hn (ha.below hS.2) hs (hx.below hS.2) hv).mono ?_; rintro e v1 ⟨A2, c2, rfl, hM⟩; exact hK.out _ _ _ rfl rfl ⟨_, _, rfl, hM.after hS.2⟩ hM.b
 refine zS (fun w' hS hV K hK => ?_) ?_
 · obtain ⟨q0, q1⟩ := hS.1.two; go_simp; exact zO hK
 refine zS (fun w' hS hV K hK => ?_) ?_
 · have e1 := zQ hV 1; obtain ⟨A4, c4, e4, h4⟩ := hV 4 (by decide); have e5 := zQ hV 5; obtain ⟨q0, q1⟩ := hS.1.two; go_simp; refine (dot_any P _ n _ _ n _ (weiL P sq v) u _ hp hp2 (by omega) (Nat.le_refl _) h4.rd (weiL_nums (by omega) _ _) (hy.below hS.2) hu).mono ?_; rw [← HPL.out]; rintro e v1 ⟨rfl, rfl⟩; exact zO hK
 refine zS (fun w' hS hV K hK => ?_) ?_
 · obtain ⟨A4, c4, e4, h4⟩ := hV 4 (by decide); have e6 := zQ hV 6; obtain ⟨q0, q1⟩ := hS.1.two; go_simp; exact zO hK
 refine fun w' hS hV => ?_
 have e0 := zT hV 0
 have e1 := zT hV 1
 have e2 := zT hV 2
 have e3 := zT hV 3
 obtain ⟨A4, c4, e4, h4⟩ := hV 4 (by decide)
 have e5 := zT hV 5
 have e6 := zT hV 6
 have e7 := zT hV 7
 simp only [e0, e1, e2, e3, e4, e5, e6, e7]
 clear e0 e1 e2 e3 e4 e5 e6 e7
 refine wpAny_done (by kernel_rfl) ?_ _
 go_wp2
 go_ret
 exact ⟨rfl, hS.2⟩
set_option maxHeartbeats 3200000 in
set_option maxRecDepth 8000 in
theorem l03Pair_any (P : Int) (A : Option Addr) (n c : Nat) (sq : List Int) (X : Option Addr) (cx : Nat) (v : List Int) (Y : Option Addr) (cy : Nat) (u : List Int) (w : World) (hp : 2 ≤ P) (hp2 : P ≤ 13) (hn : n ≤ 6) (ha : Rd w A n (ints sq)) (hs : NumsL P sq) (hx : Rd w X n (ints v)) (hv : NumsL P v) (hy : Rd w Y n (ints u)) (hu : NumsL P u) :
    Calls Tryz.prog 178 #[.agg #[.int .i64 P, .slice A n c], .slice X n cx, .slice Y n cy] w fun e w' => e = .returned (.int .i64 (pairL P sq v u)) ∧ Below w.heap.size w w' := by
 have HPL : Hid (pairL P sq v u = (sumTo n fun i => v.getD i 0 * u.getD i 0 % P * sq.getD i 0) % P) := Lib.hid (pairL_sum hx.lenI)
 have hB0 : Below w.heap.size w (w.alloc (.cells #[.int .i64 P, .slice A n c] 26)) := zG.alloc (Nat.le_refl _) _
 have k0 : Blk (w.alloc (.cells #[.int .i64 P, .slice A n c] 26)) w.heap.size 26 #[.int .i64 P, .slice A n c] := Blk.new _ _ _
 go_enter Tryz.func178, Tryz.ntmps178
 go_wp2
 go_loopw [7, 8] (fun s i wr => ∃ j : Nat, j ≤ n ∧ i = .int .i64 j ∧ s = .int .i64 ((sumTo j fun i => v.getD i 0 * u.getD i 0 % P * sq.getD i 0) % P) ∧ Below w.heap.size w wr ∧ Blk wr w.heap.size 26 #[.int .i64 P, .slice A n c]) (fun _ i _ => n - (intOf i).toNat)
 case atStart => exact ⟨0, by omega, rfl, by simp [sumTo], hB0, k0⟩
 case round =>
  obtain ⟨j, hj, rfl, rfl, hB1, k1⟩ := hrel
  clear hB0 k0
  have hsb := emod_small (sumTo j fun i => v.getD i 0 * u.getD i 0 % P * sq.getD i 0) P (by omega)
  have hst := sumTo_step P j fun i => v.getD i 0 * u.getD i 0 % P * sq.getD i 0
  have HEN : Hid (j = n → pairL P sq v u = (sumTo j fun i => v.getD i 0 * u.getD i 0 % P * sq.getD i 0) % P) := Lib.hid (fun h => by rw [HPL.out, h])
  obtain ⟨s, hse⟩ : ∃ s, s = (sumTo j fun i => v.getD i 0 * u.getD i 0 % P * sq.getD i 0) % P := ⟨_, rfl⟩
  rw [← hse] at hsb hst HEN ⊢
  clear hse
  by_cases hlt : j < n
  · obtain ⟨g, o, rfl, hxj, hcx⟩ := (hx.below hB1).int hlt
    obtain ⟨g2, o2, rfl, hyj, hcy⟩ := (hy.below hB1).int hlt
    obtain ⟨g3, o3, rfl, hzj, hcz⟩ := (ha.below hB1).int hlt
    obtain ⟨x1, x2⟩ := hv _ (List.getElem_mem hxj)
    obtain ⟨y1, y2⟩ := hu _ (List.getElem_mem hyj)
    obtain ⟨z1, z2⟩ := hs _ (List.getElem_mem hzj)
    have HST : Hid ((sumTo (j + 1) fun i => v.getD i 0 * u.getD i 0 % P * sq.getD i 0) % P = (s + v[j] * u[j] % P * sq[j]) % P) := Lib.hid (by rw [← hst, getD_of_lt 0 hxj, getD_of_lt 0 hyj, getD_of_lt 0 hzj])
    clear hst
    obtain ⟨xa, hxe⟩ : ∃ xa, xa = v[j] := ⟨_, rfl⟩
    obtain ⟨ya, hye⟩ : ∃ ya, ya = u[j] := ⟨_, rfl⟩
    obtain ⟨za, hze⟩ : ∃ za, za = sq[j] := ⟨_, rfl⟩
    rw [← hxe] at hcx x1 x2 HST
    rw [← hye] at hcy y1 y2 HST
    rw [← hze] at hcz z1 z2 HST
    obtain ⟨m1, m2⟩ := mul_small x1 (show xa ≤ 13 by omega) y1 (show ya ≤ 13 by omega)
    obtain ⟨r1, r2⟩ := emod_small (xa * ya) P (by omega)
    obtain ⟨m3, m4⟩ := mul_small r1 (show xa * ya % P ≤ 13 by omega) z1 (show za ≤ 13 by omega)
    have W1 := i64_fit (xa * ya) (by omega) (by omega)
    have W2 := i64_fit (xa * ya % P * za) (by omega) (by omega)
    have W3 := i64_fit (s + xa * ya % P * za) (by omega) (by omega)
    have T1 := Int.tmod_eq_emod_of_nonneg (b := P) m1
    have T2 := Int.tmod_eq_emod_of_nonneg (a := s + xa * ya % P * za) (b := P) (by omega)
    have hP0 : (P == 0) = false := by simp; omega
    have hP1 : (P == -1) = false := by simp; omega
    have hP2 : ¬ P = 0 := by omega
    have i1 : (0 : Int) ≤ (j : Int) := by omega
    have i2 : (j : Int) < (n : Int) := by omega
    obtain ⟨q0, q1⟩ := k1.two
    clear hxe hye hze hxj hyj hzj
    go_wp2
    refine wp_obs 23 [[],[],[],[1,2],[1,2,3],[],[],[5,6],[5,6,7],[1,2,3,4,5,6,7,8],[],[10],[1,2,3,4,5,6,7,8,9,10,11],[],[13],[],[13,14,15],[13,14,15,16],[1,2,3,4,5,6,7,8,9,10,11,12,13,14,15,16,17],[0,1,2,3,4,5,6,7,8,9,10,11,12,13,14,15,16,17,18],[],[20],[0,1,2,3,4,5,6,7,8,9,10,11,12,13,14,15,16,17,18,19,20,21],[0,1,2,3,4,5,6,7,8,9,10,11,12,13,14,15,16,17,18,19,20,21,22]] [VIs (.int .i64 (s)), VIs (.slice (some ⟨g, o, none⟩) n cx), VIs (.int .i64 (j)), VIs (.pointer (some ⟨g, o + j, none⟩)), VIs (.int .i64 (xa)), VIs (.slice (some ⟨g2, o2, none⟩) n cy), VIs (.int .i64 (j)), VIs (.pointer (some ⟨g2, o2 + j, none⟩)), VIs (.int .i64 (ya)), VIs (.int .i64 (xa * ya)), VIs (.pointer (some ⟨w.heap.size, 0, none⟩)), VIs (.int .i64 (P)), VIs (.int .i64 (xa * ya % P)), VIs (.pointer (some ⟨w.heap.size, 1, none⟩)), VIs (.slice (some ⟨g3, o3, none⟩) n c), VIs (.int .i64 (j)), VIs (.pointer (some ⟨g3, o3 + j, none⟩)), VIs (.int .i64 (za)), VIs (.int .i64 (xa * ya % P * za)), VIs (.int .i64 (s + xa * ya % P * za)), VIs (.pointer (some ⟨w.heap.size, 0, none⟩)), VIs (.int .i64 (P)), VIs (.int .i64 ((s + xa * ya % P * za) % P))] (fun w' => w'.cell? ⟨g, o + j, none⟩ = some (.int .i64 xa) ∧ w'.cell? ⟨g2, o2 + j, none⟩ = some (.int .i64 ya) ∧ w'.cell? ⟨g3, o3 + j, none⟩ = some (.int .i64 za) ∧ Blk w' w.heap.size 26 #[.int .i64 P, .slice (some ⟨g3, o3, none⟩) n c] ∧ Below wr.heap.size wr w') (by kernel_rfl) (by kernel_rfl) (fun _ _ h hb => ⟨(hb.cell (World.block_lt_of_cell? _ _ h.1)).trans h.1, (hb.cell (World.block_lt_of_cell? _ _ h.2.1)).trans h.2.1, (hb.cell (World.block_lt_of_cell? _ _ h.2.2.1)).trans h.2.2.1, h.2.2.2.1.below hb h.2.2.2.1.lt, h.2.2.2.2.trans (hb.mono h.2.2.2.2.size)⟩) (⟨hcx, hcy, hcz, k1.drew, zG.drew⟩) (fun x => ?_)
    refine zS (fun w' hS hV K hK => ?_) ?_
    · have q2 := hS.1; have q3 := hS.2.1; have q4 := hS.2.2.1; obtain ⟨q0, q1⟩ := hS.2.2.2.1.two; go_simp; exact zO hK
    refine zS (fun w' hS hV K hK => ?_) ?_
    · have q2 := hS.1; have q3 := hS.2.1; have q4 := hS.2.2.1; obtain ⟨q0, q1⟩ := hS.2.2.2.1.two; go_simp; exact zO hK
    refine zS (fun w' hS hV K hK => ?_) ?_
    · have q2 := hS.1; have q3 := hS.2.1; have q4 := hS.2.2.1; obtain ⟨q0, q1⟩ := hS.2.2.2.1.two; go_simp; exact zO hK
    refine zS (fun w' hS hV K hK => ?_) ?_
    · have e1 := zQ hV 1; have e2 := zQ hV 2; have q2 := hS.1; have q3 := hS.2.1; have q4 := hS.2.2.1; obtain ⟨q0, q1⟩ := hS.2.2.2.1.two; go_simp; exact zO hK
    refine zS (fun w' hS hV K hK => ?_) ?_
    · have e3 := zQ hV 3; have q2 := hS.1; have q3 := hS.2.1; have q4 := hS.2.2.1; obtain ⟨q0, q1⟩ := hS.2.2.2.1.two; go_simp; exact zO hK
    refine zS (fun w' hS hV K hK => ?_) ?_
    · have q2 := hS.1; have q3 := hS.2.1; have q4 := hS.2.2.1; obtain ⟨q0, q1⟩ := hS.2.2.2.1.two; go_simp; exact zO hK
    refine zS (fun w' hS hV K hK => ?_) ?_
    · have q2 := hS.1; have q3 := hS.2.1; have q4 := hS.2.2.1; obtain ⟨q0, q1⟩ := hS.2.2.2.1.two; go_simp; exact zO hK
    refine zS (fun w' hS hV K hK => ?_) ?_
    · have e5 := zQ hV 5; have e6 := zQ hV 6; have q2 := hS.1; have q3 := hS.2.1; have q4 := hS.2.2.1; obtain ⟨q0, q1⟩ := hS.2.2.2.1.two; go_simp; exact zO hK
    refine zS (fun w' hS hV K hK => ?_) ?_
    · have e7 := zQ hV 7; have q2 := hS.1; have q3 := hS.2.1; have q4 := hS.2.2.1; obtain ⟨q0, q1⟩ := hS.2.2.2.1.two; go_simp; exact zO hK
    refine zS (fun w' hS hV K hK => ?_) ?_
    · have e4 := zQ hV 4; have e8 := zQ hV 8; have q2 := hS.1; have q3 := hS.2.1; have q4 := hS.2.2.1; obtain ⟨q0, q1⟩ := hS.2.2.2.1.two; go_simp; exact zO hK
    refine zS (fun w' hS hV K hK => ?_) ?_
    · have q2 := hS.1; have q3 := hS.2.1; have q4 := hS.2.2.1; obtain ⟨q0, q1⟩ := hS.2.2.2.1.two; go_simp; exact zO hK
    refine zS (fun w' hS hV K hK => ?_) ?_
    · have e10 := zQ hV 10; have q2 := hS.1; have q3 := hS.2.1; have q4 := hS.2.2.1; obtain ⟨q0, q1⟩ := hS.2.2.2.1.two; go_simp; exact zO hK
    refine zS (fun w' hS hV K hK => ?_) ?_
    · have e9 := zQ hV 9; have e11 := zQ hV 11; have q2 := hS.1; have q3 := hS.2.1; have q4 := hS.2.2.1; obtain ⟨q0, q1⟩ := hS.2.2.2.1.two; go_simp; exact zO hK
    refine zS (fun w' hS hV K hK => ?_) ?_
    · have q2 := hS.1; have q3 := hS.2.1; have q4 := hS.2.2.1; obtain ⟨q0, q1⟩ := hS.2.2.2.1.two; go_simp; exact zO hK
    refine zS (fun w' hS hV K hK => ?_) ?_
    · have e13 := zQ hV 13; have q2 := hS.1; have q3 := hS.2.1; have q4 := hS.2.2.1; obtain ⟨q0, q1⟩ := hS.2.2.2.1.two; go_simp; exact zO hK
    refine zS (fun w' hS hV K hK => ?_) ?_
    · have q2 := hS.1; have q3 := hS.2.1; have q4 := hS.2.2.1; obtain ⟨q0, q1⟩ := hS.2.2.2.1.two; go_simp; exact zO hK
    refine zS (fun w' hS hV K hK => ?_) ?_
    · have e14 := zQ hV 14; have e15 := zQ hV 15; have q2 := hS.1; have q3 := hS.2.1; have q4 := hS.2.2.1; obtain ⟨q0, q1⟩ := hS.2.2.2.1.two; go_simp; exact zO hK
    refine zS (fun w' hS hV K hK => ?_) ?_
    · have e16 := zQ hV 16; have q2 := hS.1; have q3 := hS.2.1; have q4 := hS.2.2.1; obtain ⟨q0, q1⟩ := hS.2.2.2.1.two; go_simp; exact zO hK
    refine zS (fun w' hS hV K hK => ?_) ?_
    · have e12 := zQ hV 12; have e17 := zQ hV 17; have q2 := hS.1; have q3 := hS.2.1; have q4 := hS.2.2.1; obtain ⟨q0, q1⟩ := hS.2.2.2.1.two; go_simp; exact zO hK
    refine zS (fun w' hS hV K hK => ?_) ?_
    · have e0 := zQ hV 0; have e18 := zQ hV 18; have q2 := hS.1; have q3 := hS.2.1; have q4 := hS.2.2.1; obtain ⟨q0, q1⟩ := hS.2.2.2.1.two; go_simp; exact zO hK
    refine zS (fun w' hS hV K hK => ?_) ?_
    · have q2 := hS.1; have q3 := hS.2.1; have q4 := hS.2.2.1; obtain ⟨q0, q1⟩ := hS.2.2.2.1.two; go_simp; exact zO hK
    refine zS (fun w' hS hV K hK => ?_) ?_
    · have e20 := zQ hV 20; have q2 := hS.1; have q3 := hS.2.1; have q4 := hS.2.2.1; obtain ⟨q0, q1⟩ := hS.2.2.2.1.two; go_simp; exact zO hK
    refine zS (fun w' hS hV K hK => ?_) ?_
    · have e19 := zQ hV 19; have e21 := zQ hV 21; have q2 := hS.1; have q3 := hS.2.1; have q4 := hS.2.2.1; obtain ⟨q0, q1⟩ := hS.2.2.2.1.two; go_simp; exact zO hK
    refine fun w' hS hV => ?_
    have e0 := zT hV 0
    have e1 := zT hV 1
    have e2 := zT hV 2
    have e3 := zT hV 3
    have e4 := zT hV 4
    have e5 := zT hV 5
    have e6 := zT hV 6
    have e7 := zT hV 7
    have e8 := zT hV 8
    have e9 := zT hV 9
    have e10 := zT hV 10
    have e11 := zT hV 11
    have e12 := zT hV 12
    have e13 := zT hV 13
    have e14 := zT hV 14
    have e15 := zT hV 15
    have e16 := zT hV 16
    have e17 := zT hV 17
    have e18 := zT hV 18
    have e19 := zT hV 19
    have e20 := zT hV 20
    have e21 := zT hV 21
    have e22 := zT hV 22
    simp only [e0, e1, e2, e3, e4, e5, e6, e7, e8, e9, e10, e11, e12, e13, e14, e15, e16, e17, e18, e19, e20, e21, e22]
    clear e0 e1 e2 e3 e4 e5 e6 e7 e8 e9 e10 e11 e12 e13 e14 e15 e16 e17 e18 e19 e20 e21 e22
    refine any_one (j := 23) (by kernel_rfl) (Eq.trans (by simp only [zA, zB, zC]; exact rfl) rfl) (fun K hK => ?_)
    go_simp
    refine hK.out _ _ (wpAny_done (by kernel_rfl) ?_ _)
    have k3 := hS.2.2.2.1
    have HB3 := Lib.hid (hB1.trans (hS.2.2.2.2.mono hB1.size))
    clear W1 W2 W3 T1 T2 hS
    go_wp2
    go_roundw
    case rel => exact ⟨j + 1, by omega, by go_num, by rw [HST.out], HB3.out, k3⟩
    case measure => simp [intOf]; omega
  · obtain rfl : j = n := by omega
    clear hst
    go_wp2
    go_ret
    exact ⟨ret_int (HEN.out trivial).symm, hB1⟩
end Go.Proofs.YtmkjdpnoloofjaaGreat

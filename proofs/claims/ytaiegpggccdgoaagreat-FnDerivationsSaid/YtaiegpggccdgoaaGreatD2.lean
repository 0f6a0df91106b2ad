/-
  LawFnDerivations: part 2 of the texts that the proof needs. No condition.
-/
import Derived.Test.YtaiegpggccdgoaaGreatD1
namespace Go.Proofs.YtaiegpggccdgoaaGreat
open Go.RowKit
theorem mul_range {x k : Int} (x1 : 0 ≤ x) (x2 : x ≤ 13) (k1 : -1000 ≤ k) (k2 : k ≤ 1000) : -13000 ≤ k * x ∧ k * x ≤ 13000 := by
 have h1 := Int.mul_le_mul_of_nonneg_right k2 x1
 have h2 := Int.mul_le_mul_of_nonneg_right k1 x1
 omega
set_option maxHeartbeats 800000 in
set_option maxRecDepth 8000 in
theorem plus_any (p : Int) (A : Option Addr) (n c : Nat) (B : Option Addr) (m d : Nat) (k : Int) (xs ys : List Int) (w : World) (hp : 2 ≤ p) (hp2 : p ≤ 13) (hn : n ≤ 65536) (hnm : n ≤ m) (ha : Rd w A n (ints xs)) (hx : NumsL p xs) (hb : Rd w B m (ints ys)) (hy : NumsL p ys) (hk1 : -1000 ≤ k) (hk2 : k ≤ 1000) :
    Calls Tryz.prog 58 #[.int .i64 p, .slice A n c, .slice B m d, .int .i64 k] w fun e w' => ∃ A' c', e = .returned (.slice A' n c') ∧ MkI w w' A' n c' (plusL p xs ys k) := by
 have hxl : xs.length = n := by have := ha.1; rwa [ints_length] at this
 have Hx := Lib.hid hxl; clear hxl
 have hM0 := Mk.lit (E := 2) (Below.refl w.heap.size w) #[] (by simp)
 go_enter Tryz.func58, Tryz.ntmps58
 go_wp2
 go_loopw [9, 10, 11, 15] (fun out _ _ i wr => ∃ (j : Nat) (A' : Option Addr) (c' : Nat), j ≤ n ∧ i = .int .i64 j ∧ out = .slice A' j c' ∧ MkI w wr A' j c' (tab j fun i => (xs.getD i 0 + k * ys.getD i 0) % p)) (fun _ _ _ i _ => n - (intOf i).toNat)
 case atStart => exact ⟨0, _, _, by omega, rfl, rfl, by simpa [MkI, ints, tab] using hM0⟩
 case round =>
  obtain ⟨j, A', c', hj, rfl, rfl, hM⟩ := hrel
  clear hM0
  by_cases hlt : j < n
  · obtain ⟨g, o, rfl, hxj, hcx⟩ := (ha.below hM.b).int hlt
    obtain ⟨g2, o2, rfl, hyj, hcy⟩ := (hb.below hM.b).int (show j < m by omega)
    obtain ⟨x1, x2⟩ := hx _ (List.getElem_mem hxj)
    obtain ⟨y1, y2⟩ := hy _ (List.getElem_mem hyj)
    obtain ⟨m1, m2⟩ := mul_range y1 (show ys[j] ≤ 13 by omega) hk1 hk2
    have HV : Hid ((tab (j + 1) fun i => (xs.getD i 0 + k * ys.getD i 0) % p) = (tab j fun i => (xs.getD i 0 + k * ys.getD i 0) % p) ++ [(xs[j] + k * ys[j]) % p]) := Lib.hid (by rw [tab_succ, getD_of_lt 0 hxj, getD_of_lt 0 hyj])
    have HM := Lib.hid hM
    clear ha hb hM
    go_wp2_with (first
     | (go_at_call 86; refine (num_any _ (xs[j] + k * ys[j]) _ (by omega) hp2 (by omega) (by omega)).mono ?_; rintro e w' ⟨rfl, rfl⟩)
     | (at_builtin; refine wpList_app1 w _ 24 2 _ _ Tryz.underlying24 info_i rfl (by omega) rfl _ _ rfl A' j c' _ _ HM.out (by omega) rfl rfl rfl ?_; intro A2 c2 w2 hM2 _ _))
    go_roundw
    case rel => exact ⟨j + 1, A2, c2, by omega, by go_num, rfl, by rw [HV.out]; simpa [MkI, ints] using hM2⟩
    case measure => simp [intOf]; omega
  · go_wp2
    go_ret
    obtain rfl : j = n := by omega
    exact ⟨_, _, rfl, by unfold plusL; rw [Hx.out]; exact hM⟩
theorem ent_at' {M : List (List Int)} {i k : Nat} (hi : i < M.length) (hk : k < M[i].length) : ent M i k = M[i][k] := by
 unfold ent
 rw [getD_of_lt [] hi, getD_of_lt 0 hk]
theorem i64_small {x : Int} (h1 : -1000000 ≤ x) (h2 : x ≤ 1000000) : IntKind.i64.wrap x = x := i64_fit x (by omega) (by omega)
theorem clearTo_same {p : Int} {m : List (List Int)} {d k j : Nat} (hj : j < m.length) (h0 : ent m j k = 0) (hN : NumsL p (m.getD j [])) : clearTo p m d k (j + 1) = clearTo p m d k j := by
 refine tab_congr fun r _ => ?_
 by_cases hr : r = j
 · subst hr
   by_cases hd : r = d
   · rw [if_neg (fun h => h.2 hd), if_neg (fun h => h.2 hd)]
   · rw [if_pos ⟨by omega, hd⟩, if_neg (by omega), h0]
     exact plusL_zero _ _ hN
 · by_cases hd : r = d
   · rw [if_neg (fun h => h.2 hd), if_neg (fun h => h.2 hd)]
   · by_cases hl : r < j
     · rw [if_pos ⟨by omega, hd⟩, if_pos ⟨hl, hd⟩]
     · rw [if_neg (by omega), if_neg (by omega)]
theorem keepR3 {B : Nat} {W0 w1 w2 : World} {p q r : Addr} {u v x : Value} (h : w1.cell? p = some u ∧ w1.cell? q = some v ∧ w1.cell? r = some x ∧ Below B W0 w1) (hb : Below w1.heap.size w1 w2) (hB : B ≤ W0.heap.size) :
    w2.cell? p = some u ∧ w2.cell? q = some v ∧ w2.cell? r = some x ∧ Below B W0 w2 :=
 ⟨(hb.cell (World.block_lt_of_cell? _ _ h.1)).trans h.1, (hb.cell (World.block_lt_of_cell? _ _ h.2.1)).trans h.2.1, (hb.cell (World.block_lt_of_cell? _ _ h.2.2.1)).trans h.2.2.1, h.2.2.2.trans (hb.mono (Nat.le_trans hB h.2.2.2.size))⟩
set_option maxRecDepth 8000 in
set_option maxHeartbeats 400000 in
set_option maxRecDepth 8000 in
theorem l01Own_any (A : Option Addr) (n c : Nat) (xs : List Int) (w : World) (hn : n ≤ 65536) (ha : Rd w A n (ints xs)) :
    Calls Tryz.prog 154 #[.slice A n c] w fun e w' => ∃ A' c', e = .returned (.slice A' n c') ∧ MkI w w' A' n c' xs := by
 have hxl : xs.length = n := by have := ha.1; rwa [ints_length] at this
 have hM0 := Mk.lit (E := 2) (Below.refl w.heap.size w) #[] (by simp)
 obtain ⟨i, hi, h1, h2, h3⟩ := info_parts info_i
 obtain ⟨b1, b2⟩ := bound_of (Nat.le_trans hn (by decide))
 clear b1
 have HB := Lib.hid b2
 clear b2
 obtain ⟨p, hnews⟩ : ∃ p : Addr, (∀ (j : Nat) (u : Value), (ints xs)[j]? = some u → (w.alloc (.cells #[] 2)).cell? (p.add j) = some u) ∧ (A = some p ∨ (A = none ∧ n = 0)) := by
  cases A with
  | none =>
   have h0 : n = 0 := by
    rcases Nat.eq_zero_or_pos n with h | h
    · exact h
    · obtain ⟨g, o, e, _⟩ := ha.2 h; cases e
   exact ⟨⟨0, 0, none⟩, fun j u hu => by have := (List.getElem?_eq_some_iff.1 hu).1; rw [ints_length] at this; omega, .inr ⟨rfl, h0⟩⟩
  | some p =>
   refine ⟨p, fun j u hu => ?_, .inl rfl⟩
   have hj : j < n := by have := (List.getElem?_eq_some_iff.1 hu).1; rw [ints_length] at this; omega
   obtain ⟨g, o, e, hc⟩ := (ha.below ((Below.refl _ w).alloc (Nat.le_refl _) (.cells #[] 2))).2 (by omega)
   injection e with e; subst e
   rw [Addr.add_lit]
   exact hc j u hu
 have Hx := Lib.hid hxl
 have HI := Lib.hid hi
 have H1 := Lib.hid h1
 have H2 := Lib.hid h2
 have H3 := Lib.hid h3
 have HN := Lib.hid hnews.1
 have hA := hnews.2
 clear hnews hi h1 h2 h3 hxl
 rcases hA with rfl | ⟨rfl, rfl⟩
 · go_enter Tryz.func154, Tryz.ntmps154
   go_wp2_with (at_builtin; refine wpList_append_own_at (w.alloc (.cells #[] 2)) rfl _ _ 24 rfl w.heap.size 2 i _ 1 8 Tryz.underlying24 HI.out H1.out H2.out H3.out rfl (by omega) (.slice (some ⟨w.heap.size, 0, none⟩) 0 0) 0 [] rfl hM0.2 p n c (ints xs) rfl (by rw [ints_length, Hx.out, Nat.mul_one]) HN.out (by intro u hu; obtain ⟨y, _, rfl⟩ := List.mem_map.1 hu; rfl) (by simp only [maxLen]; omega) (by have := HB.out 8 (by omega); omega) (by simp) ?_; intro v' w' hown hg _ _)
   have hb' : Below w.heap.size w w' := hM0.1.grown hg (by simp) (fun k hk => (hM0.2.lt k hk).1)
   rw [Nat.zero_add, List.nil_append] at hown
   rcases hown.2 with ⟨rfl, h0⟩ | ⟨g, cap, cur, rfl, hr⟩
   · subst h0
     go_ret
     exact ⟨none, 0, rfl, hb', hown⟩
   · go_ret
     exact ⟨_, _, rfl, hb', hown⟩
 · have hxs : xs = [] := List.eq_nil_of_length_eq_zero Hx.out
   subst hxs
   go_enter Tryz.func154, Tryz.ntmps154
   go_wp2
   go_ret
   exact ⟨_, _, rfl, hM0⟩
set_option maxHeartbeats 1600000 in
set_option maxRecDepth 8000 in
theorem cloneRows_any (p : Int) (A : Option Addr) (n c : Nat) (M : List (List Int)) (m : Nat) (w : World) (hn : n ≤ 65536) (hm : m ≤ 65536) (ha : RdII w A n M) (hT : Tab p m M) :
    Calls Tryz.prog 62 #[.slice A n c] w fun e w' => ∃ A' c', e = .returned (.slice A' n c') ∧ MkII w w' A' n c' M := by
 have hML := ha.len
 have HT := Lib.hid hT
 have HML := Lib.hid hML
 have hM0 : MkII w (w.alloc (.cells #[] 24)) (some ⟨w.heap.size, 0, none⟩) 0 0 [] := MkII.empty zG
 clear hT hML
 go_enter Tryz.func62, Tryz.ntmps62
 go_wp2
 obtain ⟨w1, hw1⟩ : ∃ W, W = w.alloc (.cells #[] 24) := ⟨_, rfl⟩
 rw [← hw1] at hM0 ⊢
 clear hw1
 go_loopw [3, 5, 9] (fun out _ i wr => ∃ (k : Nat) (A' : Option Addr) (c' : Nat), k ≤ n ∧ i = .int .i64 k ∧ out = .slice A' k c' ∧ MkII w wr A' k c' (M.take k)) (fun _ _ i _ => n - (intOf i).toNat)
 case atStart => exact ⟨0, _, _, by omega, rfl, rfl, by simpa using hM0⟩
 case round =>
  obtain ⟨k, A', c', hk, rfl, rfl, hM⟩ := hrel
  clear hM0
  by_cases hlt : k < n
  · obtain ⟨g, o, rfl, hxk, A1, c1, hcx, hr1, _⟩ := (ha.below hM.b).at_ hlt
    have hl1 : M[k].length = m := (HT.out M[k] (List.getElem_mem hxk)).1
    rw [hl1] at hcx hr1
    have hcall := clone_any A1 m c1 M[k] wr hm hr1
    have HV : Hid (M.take (k + 1) = M.take k ++ [M[k]]) := Lib.hid (List.take_succ_eq_append_getElem hxk)
    have HM := Lib.hid hM
    clear hM hr1 hl1 ha
    go_wp2_with fail
    refine hcall.mono ?_
    rintro e w5 ⟨A5, c5, rfl, hM5⟩
    clear hcall
    go_wp2_with (at_builtin; refine wpList_appRow w wr _ rfl _ _ rfl A' k c' _ A5 m c5 _ HM.out hM5 (by omega) rfl ?_ ?_; (go_simp); intro A6 c6 w6 hM6)
    go_roundw
    case rel => exact ⟨k + 1, A6, c6, by omega, by go_num, rfl, by rw [HV.out]; exact hM6⟩
    case measure => simp [intOf]; omega
  · obtain rfl : k = n := by omega
    go_wp2
    go_ret
    rw [List.take_of_length_le (by rw [HML.out]; exact Nat.le_refl _)] at hM
    exact ⟨_, _, rfl, hM⟩
set_option maxHeartbeats 6400000 in
set_option maxRecDepth 8000 in
theorem basis_any (p : Int) (A : Option Addr) (n c : Nat) (M : List (List Int)) (m : Nat) (w : World) (HP : isP p = true) (hn : n ≤ 65536) (hm : m ≤ 65536) (ha : RdII w A n M) (hT : Tab p m M) :
    Calls Tryz.prog 127 #[.int .i64 p, .slice A n c] w fun e w' => ∃ A' c', e = .returned (.slice A' (basisL p M).length c') ∧ MkII w w' A' (basisL p M).length c' (basisL p M) := by
 have hML := ha.len
 obtain ⟨hp3, hp2⟩ := isP_ge HP
 have hp : 2 ≤ p := by omega
 have hclone := cloneRows_any p A n c M m w hn hm ha hT
 have HT := Lib.hid hT
 have HP' := Lib.hid HP
 by_cases h0 : 0 < n
 · have HBL : Hid (basisL p M = (basisTo p M m).1.take (basisTo p M m).2) := Lib.hid (by unfold basisL; rw [row0_len hT (by omega)])
   have HINV : Hid (∀ k, Tab p m (basisTo p M k).1 ∧ (basisTo p M k).1.length = n ∧ (basisTo p M k).2 ≤ n) := Lib.hid (fun k => by
    have := basisTo_inv (p := p) (by omega) M hT k
    rw [hML] at this
    exact this)
   clear hT HP hML ha
   go_enter Tryz.func127, Tryz.ntmps127
   go_wp2_with fail
   refine hclone.mono ?_
   rintro e w1 ⟨A1, c1, rfl, hM1⟩
   clear hclone
   obtain ⟨g, rfl, -⟩ := hM1.at_ h0
   go_wp2
   go_loopw [6, 7] (fun d q wr => ∃ dn kn : Nat, d = .int .i64 dn ∧ q = .int .i64 kn ∧ kn ≤ m ∧ dn = (basisTo p M kn).2 ∧ MkII w wr (some ⟨g, 0, none⟩) n c1 (basisTo p M kn).1) (fun _ q _ => m - (intOf q).toNat)
   case atStart => exact ⟨0, 0, rfl, rfl, by omega, rfl, hM1⟩
   case round =>
    obtain ⟨dn, kn, rfl, rfl, hkm, hdn, hM⟩ := hrel
    clear hM1
    obtain ⟨hT1, hl1, hd1⟩ := HINV.out kn
    rw [← hdn] at hd1
    have HSUC : Hid (basisTo p M (kn + 1) = stepB p kn ((basisTo p M kn).1, dn)) := Lib.hid (by rw [hdn]; rfl)
    have HFULL : Hid (dn = n → basisL p M = (basisTo p M kn).1.take dn) := Lib.hid (fun h => by
     rw [HBL.out, basisTo_full p M kn m hkm (by rw [← hdn, hl1]; exact h), ← hdn])
    have HEND : Hid (kn = m → basisL p M = (basisTo p M kn).1.take dn) := Lib.hid (fun h => by rw [HBL.out, ← h, ← hdn])
    obtain ⟨L, hL⟩ : ∃ L, L = (basisTo p M kn).1 := ⟨_, rfl⟩
    rw [← hL] at hM hT1 hl1 HSUC HFULL HEND
    clear hL hdn
    have HT1 := Lib.hid hT1
    have HL1 := Lib.hid hl1
    have HM := Lib.hid hM
    have hcap : n ≤ c1 := by obtain ⟨rows, hm', _⟩ := hM; exact hm'.2.cap
    obtain ⟨g0, e0, hx0, A0, c0, hc0, -⟩ := hM.at_ h0
    injection e0 with e0; injection e0 with e0 _ _; subst e0
    have hl0 : L[0].length = m := (HT1.out L[0] (List.getElem_mem hx0)).1
    rw [hl0] at hc0
    clear hl0 hT1 hl1 hM
    by_cases hgo : kn < m ∧ dn < n
    · obtain ⟨hlk, hld⟩ := hgo
      go_wp2
      go_loop [8] (fun i => ∃ j : Nat, dn ≤ j ∧ j ≤ n ∧ i = .int .i64 j ∧ Hid (piv L kn (n - j) j = pivOf L kn dn)) (fun i => n - (intOf i).toNat)
      case atStart => exact ⟨dn, by omega, by omega, rfl, Lib.hid (by unfold pivOf; rw [HL1.out])⟩
      case round =>
       obtain ⟨j, hj1, hj2, rfl, hj3⟩ := hrel
       by_cases hlj : j < n
       · have hld : dn < n := by omega
         obtain ⟨g0, e0, hxj, Aj, cj, hcj, hrj⟩ := HM.out.at_ hlj
         injection e0 with e0; injection e0 with e0 _ _; subst e0
         have HRJ := Lib.hid (HT1.out L[j] (List.getElem_mem hxj))
         have hlj2 : L[j].length = m := HRJ.out.1
         rw [hlj2] at hcj hrj
         obtain ⟨gj, oj, rfl, hxe, hce⟩ := hrj.rd.int hlk
         have HE : Hid (ent L j kn = L[j][kn]) := Lib.hid (ent_at' hxj hxe)
         have HPV : Hid (piv L kn (n - j) j = if ent L j kn = 0 then piv L kn (n - (j + 1)) (j + 1) else j) := Lib.hid (by
          rw [show n - j = (n - (j + 1)) + 1 by omega]; rfl)
         have HROW : Hid ((swapL L dn j)[dn]? = some L[j]) := Lib.hid (by
          rw [swapL_get? L (by rw [HL1.out]; exact hld) hxj]
          by_cases hdj : dn = j
          · subst hdj; rw [if_pos rfl]; exact List.getElem?_eq_getElem hxj
          · rw [if_neg hdj, if_pos rfl]; exact List.getElem?_eq_getElem hxj)
         have HGD : Hid (L.getD j [] = L[j]) := Lib.hid (getD_of_lt [] hxj)
         obtain ⟨R, hR⟩ : ∃ R, R = L[j] := ⟨_, rfl⟩
         have HXE : Hid (∀ h : kn < R.length, R[kn] = L[j][kn]) := Lib.hid (fun h => by simp only [hR])
         rw [← hR] at hrj HRJ HROW HGD
         clear hlj2
         obtain ⟨xe, hxe'⟩ : ∃ x, x = L[j][kn] := ⟨_, rfl⟩
         rw [← hxe'] at hce HE HXE
         have HX : Hid (0 ≤ xe ∧ xe < p) := Lib.hid (hxe' ▸ ((HT1.out L[j] (List.getElem_mem hxj)).2 _ (List.getElem_mem hxe)))
         clear hxe' hxe hR hxj
         cases hz : (xe == 0)
         · have hne : xe ≠ 0 := by simpa using hz
           have HVP : Hid (pivOf L kn dn = j) := Lib.hid (by rw [← hj3.out, HPV.out, if_neg (by rw [HE.out]; exact hne)])
           obtain ⟨g0, e0, hxd, Ad, cd, hcd, hrd⟩ := HM.out.at_ hld
           injection e0 with e0; injection e0 with e0 _ _; subst e0
           have hld2 : L[dn].length = m := (HT1.out L[dn] (List.getElem_mem hxd)).1
           rw [hld2] at hcd hrd
           have fd := HM.out.frozen_ dn
           have fj := HM.out.frozen_ j
           have HSC : Hid (scaledAt p L kn dn = (swapL L dn j).set dn (scaleL p R (invF p xe))) := Lib.hid (by unfold scaledAt; rw [HVP.out, HGD.out, HE.out])
           have HTS : Hid (Tab p m (scaledAt p L kn dn) ∧ (scaledAt p L kn dn).length = n) := Lib.hid ⟨scaledAt_tab (by omega) HT1.out (by rw [HL1.out]; exact hld) (by rw [HVP.out, HL1.out]; exact hlj), by rw [scaledAt_len, HL1.out]⟩
           have HNEXT : Hid (basisTo p M (kn + 1) = (clearTo p (scaledAt p L kn dn) dn kn n, dn + 1)) := Lib.hid (by
            rw [HSUC.out]; unfold stepB; rw [if_neg (by simp only; rw [HVP.out, HL1.out]; omega)]; simp only [HL1.out])
           have HSCD : Hid ((scaledAt p L kn dn).getD dn [] = scaleL p R (invF p xe)) := Lib.hid (by
            rw [HSC.out, getD_set, if_pos ⟨rfl, by rw [swapL_len, HL1.out]; exact hld⟩])
           have HSW := Lib.hid (HM.out.swap hld hlj hcd hcj)
           obtain ⟨uj, hcs⟩ := HM.out.cellSet dn (A1 := some ⟨gj, oj, none⟩) (m := m) (c1 := cj) hlj
           clear hrj hrd hld2 hxd
           go_wp2
           go_region
           obtain ⟨w2, hw2⟩ : ∃ W, W = ((wr.setCell ⟨g, dn, none⟩ (.slice (some ⟨gj, oj, none⟩) m cj)).setCell ⟨g, j, none⟩ (.slice Ad m cd)).drew := ⟨_, rfl⟩
           have hM2 : MkII w w2 (some ⟨g, 0, none⟩) n c1 (swapL L dn j) := by rw [hw2]; exact HSW.out.below (zG.drew)
           rw [← hw2]
           clear hw2 HSW hcs fd fj hcd hcj hce hc0
           obtain ⟨g0, e0, hxs, As, cs, hcs2, hrs⟩ := hM2.at_ hld
           injection e0 with e0; injection e0 with e0 _ _; subst e0
           have hrow : (swapL L dn j)[dn] = R := by have := HROW.out; rw [List.getElem?_eq_getElem hxs] at this; exact Option.some.inj this
           rw [hrow] at hcs2 hrs
           have hRl := HRJ.out.1
           rw [hRl] at hcs2 hrs
           obtain ⟨gs, os, rfl, hxe2, hce2⟩ := hrs.rd.int hlk
           rw [HXE.out hxe2] at hce2
           have HM2 := Lib.hid hM2
           have HRS := Lib.hid hrs
           clear hM2 hrs hrow hxe2 hxs hRl
           have hiv := invF_small hp xe
           have hx1 := HX.out
           have fd := HM2.out.frozen_ dn
           go_wp2
           refine wp_obs 18 [[],[],[],[],[],[3,4],[3,4,5],[],[],[],[8,9],[8,9,10],[],[8,9,10,11,12],[8,9,10,11,12,13],[7,8,9,10,11,12,13,14],[2,3,4,5,6,7,8,9,10,11,12,13,14,15],[0,1],[0,1,2,3,4,5,6,7,8,9,10,11,12,13,14,15,16,17]] [VIs (.slice (some ⟨g, 0, none⟩) n c1), VIs (.int .i64 (dn)), VIs (.int .i64 (p)), VIs (.slice (some ⟨g, 0, none⟩) n c1), VIs (.int .i64 (dn)), VIs (.pointer (some ⟨g, dn, none⟩)), VIs (.slice (some ⟨gs, os, none⟩) m cs), VIs (.int .i64 (p)), VIs (.slice (some ⟨g, 0, none⟩) n c1), VIs (.int .i64 (dn)), VIs (.pointer (some ⟨g, dn, none⟩)), VIs (.slice (some ⟨gs, os, none⟩) m cs), VIs (.int .i64 (kn)), VIs (.pointer (some ⟨gs, os + kn, none⟩)), VIs (.int .i64 (xe)), VIs (.int .i64 (invF p xe)), VSl w2 m (scaleL p R (invF p xe)), VIs (.pointer (some ⟨g, dn, none⟩))] (fun w' => w'.cell? ⟨g, dn, none⟩ = some (.slice (some ⟨gs, os, none⟩) m cs) ∧ w'.cell? ⟨gs, os + kn, none⟩ = some (.int .i64 xe) ∧ Below w2.heap.size w2 w') (by kernel_rfl) (by kernel_rfl) (fun _ _ h hb => keepB2 h hb (Nat.le_refl _)) (⟨hcs2, hce2, zG.drew⟩) (fun x => ?_)
           refine zS (fun w' hS hV K hK => ?_) ?_
           · have q0 := hS.1; have q1 := hS.2.1; have q2 := hS.2.2; go_simp; exact zO hK
           refine zS (fun w' hS hV K hK => ?_) ?_
           · have q0 := hS.1; have q1 := hS.2.1; have q2 := hS.2.2; go_simp; exact zO hK
           refine zS (fun w' hS hV K hK => ?_) ?_
           · have q0 := hS.1; have q1 := hS.2.1; have q2 := hS.2.2; go_simp; exact zO hK
           refine zS (fun w' hS hV K hK => ?_) ?_
           · have q0 := hS.1; have q1 := hS.2.1; have q2 := hS.2.2; go_simp; exact zO hK
           refine zS (fun w' hS hV K hK => ?_) ?_
           · have q0 := hS.1; have q1 := hS.2.1; have q2 := hS.2.2; go_simp; exact zO hK
           refine zS (fun w' hS hV K hK => ?_) ?_
           · have e3 := zQ hV 3; have e4 := zQ hV 4; have q0 := hS.1; have q1 := hS.2.1; have q2 := hS.2.2; go_simp; exact zO hK
           refine zS (fun w' hS hV K hK => ?_) ?_
           · have e5 := zQ hV 5; have q0 := hS.1; have q1 := hS.2.1; have q2 := hS.2.2; go_simp; exact zO hK
           refine zS (fun w' hS hV K hK => ?_) ?_
           · have q0 := hS.1; have q1 := hS.2.1; have q2 := hS.2.2; go_simp; exact zO hK
           refine zS (fun w' hS hV K hK => ?_) ?_
           · have q0 := hS.1; have q1 := hS.2.1; have q2 := hS.2.2; go_simp; exact zO hK
           refine zS (fun w' hS hV K hK => ?_) ?_
           · have q0 := hS.1; have q1 := hS.2.1; have q2 := hS.2.2; go_simp; exact zO hK
           refine zS (fun w' hS hV K hK => ?_) ?_
           · have e8 := zQ hV 8; have e9 := zQ hV 9; have q0 := hS.1; have q1 := hS.2.1; have q2 := hS.2.2; go_simp; exact zO hK
           refine zS (fun w' hS hV K hK => ?_) ?_
           · have e10 := zQ hV 10; have q0 := hS.1; have q1 := hS.2.1; have q2 := hS.2.2; go_simp; exact zO hK
           refine zS (fun w' hS hV K hK => ?_) ?_
           · have q0 := hS.1; have q1 := hS.2.1; have q2 := hS.2.2; go_simp; exact zO hK
           refine zS (fun w' hS hV K hK => ?_) ?_
           · have e11 := zQ hV 11; have e12 := zQ hV 12; have q0 := hS.1; have q1 := hS.2.1; have q2 := hS.2.2; go_simp; exact zO hK
           refine zS (fun w' hS hV K hK => ?_) ?_
           · have e13 := zQ hV 13; have q0 := hS.1; have q1 := hS.2.1; have q2 := hS.2.2; go_simp; exact zO hK
           refine zS (fun w' hS hV K hK => ?_) ?_
           · have e7 := zQ hV 7; have e14 := zQ hV 14; have q0 := hS.1; have q1 := hS.2.1; have q2 := hS.2.2; go_simp; refine (inv_any p xe _ hp hp2 hx1.1 hx1.2).mono ?_; rintro e v1 ⟨rfl, rfl⟩; exact zO hK
           refine zS (fun w' hS hV K hK => ?_) ?_
           · have e2 := zQ hV 2; have e6 := zQ hV 6; have e15 := zQ hV 15; have q0 := hS.1; have q1 := hS.2.1; have q2 := hS.2.2; go_simp; refine (scaled_any p _ m _ (invF p xe) R _ hp hp2 hm (HRS.out.rd.below hS.2.2) HRJ.out.2 (by omega) (by omega)).mono ?_; rintro e v1 ⟨A2, c2, rfl, hM⟩; exact hK.out _ _ _ rfl rfl ⟨_, _, rfl, hM.after hS.2.2⟩ hM.b
           refine zS (fun w' hS hV K hK => ?_) ?_
           · have e0 := zQ hV 0; have e1 := zQ hV 1; have q0 := hS.1; have q1 := hS.2.1; have q2 := hS.2.2; go_simp; exact zO hK
           refine fun w' hS hV => ?_
           have e0 := zT hV 0
           have e1 := zT hV 1
           have e2 := zT hV 2
           have e3 := zT hV 3
           have e4 := zT hV 4
           have e5 := zT hV 5
           have e6 := zT hV 6
           have e7 := zT hV 7
           have e8 := zT hV 8
           have e9 := zT hV 9
           have e10 := zT hV 10
           have e11 := zT hV 11
           have e12 := zT hV 12
           have e13 := zT hV 13
           have e14 := zT hV 14
           have e15 := zT hV 15
           obtain ⟨A16, c16, e16, h16⟩ := hV 16 (by decide)
           have e17 := zT hV 17
           simp only [e0, e1, e2, e3, e4, e5, e6, e7, e8, e9, e10, e11, e12, e13, e14, e15, e16, e17]
           clear e0 e1 e2 e3 e4 e5 e6 e7 e8 e9 e10 e11 e12 e13 e14 e15 e16 e17
           obtain ⟨q0, q1, q2⟩ := hS
           have ff := (HM2.out.below q2).frozen_ dn
           refine any_one (j := 18) (by kernel_rfl) (Eq.trans (by simp only [zA, zB, zC]; exact rfl) rfl) (fun K hK => ?_)
           go_simp
           refine hK.out _ _ (wpAny_done (by kernel_rfl) ?_ _)
           have hM3 := HM2.out.setRow h16 dn
           rw [← HSC.out] at hM3
           clear q0 q1 q2 ff hV hcs2 hce2 fd h16
           obtain ⟨w3, hw3⟩ : ∃ W, W = w'.setCell ⟨g, dn, none⟩ (.slice A16 m c16) := ⟨_, rfl⟩
           rw [← hw3] at hM3 ⊢
           clear hw3 HM2 HRS
           have hM0 : MkII w w3 (some ⟨g, 0, none⟩) n c1 (clearTo p (scaledAt p L kn dn) dn kn 0) := by rw [clearTo_zero]; exact hM3
           obtain ⟨N, hN⟩ : ∃ N, N = scaledAt p L kn dn := ⟨_, rfl⟩
           rw [← hN] at hM0 HTS HNEXT HSCD
           clear hM3 hN HSC
           go_wp2
           go_loopw [86] (fun i w4 => ∃ r : Nat, r ≤ n ∧ i = .int .i64 r ∧ MkII w w4 (some ⟨g, 0, none⟩) n c1 (clearTo p N dn kn r)) (fun i _ => n - (intOf i).toNat)
           case atStart => exact ⟨0, by omega, rfl, hM0⟩
           case round =>
            obtain ⟨r, hr, rfl, hM4⟩ := hrel
            clear hM0
            by_cases hlr : r < n
            · by_cases hrd : r = dn
              · subst hrd
                have HM4 := Lib.hid hM4
                clear hM4
                go_wp2
                go_roundw
                case rel => exact ⟨r + 1, by omega, by go_num, by rw [clearTo_skip]; exact HM4.out⟩
                case measure => simp [intOf]; omega
              · have hT4 : Tab p m (clearTo p N dn kn r) := clearTo_tab (by omega) HTS.out.1 dn kn r
                have hr4 : (clearTo p N dn kn r).getD r [] = N.getD r [] := by rw [clearTo_getD (by rw [HTS.out.2]; exact hlr), if_neg (by omega)]
                have hd4 : (clearTo p N dn kn r).getD dn [] = N.getD dn [] := by rw [clearTo_getD (by rw [HTS.out.2]; exact hld), if_neg (fun h => h.2 rfl)]
                obtain ⟨g0, e0, hxr, Ar, cr, hcr, hrr⟩ := hM4.at_ hlr
                injection e0 with e0; injection e0 with e0 _ _; subst e0
                obtain ⟨g0, e0, hxd, Ad2, cd2, hcd2, hrd2⟩ := hM4.at_ hld
                injection e0 with e0; injection e0 with e0 _ _; subst e0
                have HR1 := Lib.hid (hT4 _ (List.getElem_mem hxr))
                have HD1 := Lib.hid (hT4 _ (List.getElem_mem hxd))
                have hl1 := HR1.out.1
                have hl2 := HD1.out.1
                rw [getD_of_lt [] hxr] at hr4
                rw [getD_of_lt [] hxd] at hd4
                rw [hl1] at hcr hrr
                rw [hl2] at hcd2 hrd2
                rw [hr4] at hrr HR1
                rw [hd4] at hrd2 HD1
                obtain ⟨gr, or', rfl, hxy, hcy⟩ := hrr.rd.int hlk
                have hey : ent N r kn = (N.getD r [])[kn] := by unfold ent; rw [getD_of_lt 0 hxy]
                obtain ⟨y, hy⟩ : ∃ y, y = (N.getD r [])[kn] := ⟨_, rfl⟩
                have hyb : 0 ≤ y ∧ y < p := hy ▸ HR1.out.2 _ (List.getElem_mem hxy)
                rw [← hy] at hcy hey
                have HEY := Lib.hid hey
                have HM4 := Lib.hid hM4
                have HRR := Lib.hid hrr
                have HRD := Lib.hid hrd2
                clear hy hT4 hr4 hd4 hl1 hl2 hxr hxd hxy hey hM4 hrr hrd2
                cases hyz : (y != 0)
                · have hy0 : y = 0 := by simpa using hyz
                  go_wp2
                  go_roundw
                  case rel => exact ⟨r + 1, by omega, by go_num, by rw [clearTo_same (by rw [HTS.out.2]; exact hlr) (by rw [HEY.out]; exact hy0) HR1.out.2]; exact HM4.out⟩
                  case measure => simp [intOf]; omega
                · have hwy := i64_small (x := -y) (by omega) (by omega)
                  go_wp2
                  refine wp_obs 21 [[],[],[],[],[],[3,4],[3,4,5],[],[],[7,8],[7,8,9],[],[],[11,12],[11,12,13],[],[11,12,13,14,15],[11,12,13,14,15,16],[11,12,13,14,15,16,17],[2,3,4,5,6,7,8,9,10,11,12,13,14,15,16,17,18],[0,1],[0,1,2,3,4,5,6,7,8,9,10,11,12,13,14,15,16,17,18,19,20]] [VIs (.slice (some ⟨g, 0, none⟩) n c1), VIs (.int .i64 (r)), VIs (.int .i64 (p)), VIs (.slice (some ⟨g, 0, none⟩) n c1), VIs (.int .i64 (r)), VIs (.pointer (some ⟨g, r, none⟩)), VIs (.slice (some ⟨gr, or', none⟩) m cr), VIs (.slice (some ⟨g, 0, none⟩) n c1), VIs (.int .i64 (dn)), VIs (.pointer (some ⟨g, dn, none⟩)), VIs (.slice Ad2 m cd2), VIs (.slice (some ⟨g, 0, none⟩) n c1), VIs (.int .i64 (r)), VIs (.pointer (some ⟨g, r, none⟩)), VIs (.slice (some ⟨gr, or', none⟩) m cr), VIs (.int .i64 (kn)), VIs (.pointer (some ⟨gr, or' + kn, none⟩)), VIs (.int .i64 (y)), VIs (.int .i64 (-y)), VSl wr m (plusL p (N.getD r []) (N.getD dn []) (-y)), VIs (.pointer (some ⟨g, r, none⟩))] (fun w' => w'.cell? ⟨g, r, none⟩ = some (.slice (some ⟨gr, or', none⟩) m cr) ∧ w'.cell? ⟨g, dn, none⟩ = some (.slice Ad2 m cd2) ∧ w'.cell? ⟨gr, or' + kn, none⟩ = some (.int .i64 y) ∧ Below wr.heap.size wr w') (by kernel_rfl) (by kernel_rfl) (fun _ _ h hb => keepR3 h hb (Nat.le_refl _)) (⟨hcr, hcd2, hcy, zG.drew⟩) (fun x => ?_)
                  refine zS (fun w' hS hV K hK => ?_) ?_
                  · have q0 := hS.1; have q1 := hS.2.1; have q2 := hS.2.2.1; have q3 := hS.2.2.2; go_simp; exact zO hK
                  refine zS (fun w' hS hV K hK => ?_) ?_
                  · have q0 := hS.1; have q1 := hS.2.1; have q2 := hS.2.2.1; have q3 := hS.2.2.2; go_simp; exact zO hK
                  refine zS (fun w' hS hV K hK => ?_) ?_
                  · have q0 := hS.1; have q1 := hS.2.1; have q2 := hS.2.2.1; have q3 := hS.2.2.2; go_simp; exact zO hK
                  refine zS (fun w' hS hV K hK => ?_) ?_
                  · have q0 := hS.1; have q1 := hS.2.1; have q2 := hS.2.2.1; have q3 := hS.2.2.2; go_simp; exact zO hK
                  refine zS (fun w' hS hV K hK => ?_) ?_
                  · have q0 := hS.1; have q1 := hS.2.1; have q2 := hS.2.2.1; have q3 := hS.2.2.2; go_simp; exact zO hK
                  refine zS (fun w' hS hV K hK => ?_) ?_
                  · have e3 := zQ hV 3; have e4 := zQ hV 4; have q0 := hS.1; have q1 := hS.2.1; have q2 := hS.2.2.1; have q3 := hS.2.2.2; go_simp; exact zO hK
                  refine zS (fun w' hS hV K hK => ?_) ?_
                  · have e5 := zQ hV 5; have q0 := hS.1; have q1 := hS.2.1; have q2 := hS.2.2.1; have q3 := hS.2.2.2; go_simp; exact zO hK
                  refine zS (fun w' hS hV K hK => ?_) ?_
                  · have q0 := hS.1; have q1 := hS.2.1; have q2 := hS.2.2.1; have q3 := hS.2.2.2; go_simp; exact zO hK
                  refine zS (fun w' hS hV K hK => ?_) ?_
                  · have q0 := hS.1; have q1 := hS.2.1; have q2 := hS.2.2.1; have q3 := hS.2.2.2; go_simp; exact zO hK
                  refine zS (fun w' hS hV K hK => ?_) ?_
                  · have e7 := zQ hV 7; have e8 := zQ hV 8; have q0 := hS.1; have q1 := hS.2.1; have q2 := hS.2.2.1; have q3 := hS.2.2.2; go_simp; exact zO hK
                  refine zS (fun w' hS hV K hK => ?_) ?_
                  · have e9 := zQ hV 9; have q0 := hS.1; have q1 := hS.2.1; have q2 := hS.2.2.1; have q3 := hS.2.2.2; go_simp; exact zO hK
                  refine zS (fun w' hS hV K hK => ?_) ?_
                  · have q0 := hS.1; have q1 := hS.2.1; have q2 := hS.2.2.1; have q3 := hS.2.2.2; go_simp; exact zO hK
                  refine zS (fun w' hS hV K hK => ?_) ?_
                  · have q0 := hS.1; have q1 := hS.2.1; have q2 := hS.2.2.1; have q3 := hS.2.2.2; go_simp; exact zO hK
                  refine zS (fun w' hS hV K hK => ?_) ?_
                  · have e11 := zQ hV 11; have e12 := zQ hV 12; have q0 := hS.1; have q1 := hS.2.1; have q2 := hS.2.2.1; have q3 := hS.2.2.2; go_simp; exact zO hK
                  refine zS (fun w' hS hV K hK => ?_) ?_
                  · have e13 := zQ hV 13; have q0 := hS.1; have q1 := hS.2.1; have q2 := hS.2.2.1; have q3 := hS.2.2.2; go_simp; exact zO hK
                  refine zS (fun w' hS hV K hK => ?_) ?_
                  · have q0 := hS.1; have q1 := hS.2.1; have q2 := hS.2.2.1; have q3 := hS.2.2.2; go_simp; exact zO hK
                  refine zS (fun w' hS hV K hK => ?_) ?_
                  · have e14 := zQ hV 14; have e15 := zQ hV 15; have q0 := hS.1; have q1 := hS.2.1; have q2 := hS.2.2.1; have q3 := hS.2.2.2; go_simp; exact zO hK
                  refine zS (fun w' hS hV K hK => ?_) ?_
                  · have e16 := zQ hV 16; have q0 := hS.1; have q1 := hS.2.1; have q2 := hS.2.2.1; have q3 := hS.2.2.2; go_simp; exact zO hK
                  refine zS (fun w' hS hV K hK => ?_) ?_
                  · have e17 := zQ hV 17; have q0 := hS.1; have q1 := hS.2.1; have q2 := hS.2.2.1; have q3 := hS.2.2.2; go_simp; exact zO hK
                  refine zS (fun w' hS hV K hK => ?_) ?_
                  · have e2 := zQ hV 2; have e6 := zQ hV 6; have e10 := zQ hV 10; have e18 := zQ hV 18; have q0 := hS.1; have q1 := hS.2.1; have q2 := hS.2.2.1; have q3 := hS.2.2.2; go_simp; refine (plus_any p _ m _ _ m _ (-y) _ _ _ hp hp2 hm (Nat.le_refl _) (HRR.out.rd.below hS.2.2.2) HR1.out.2 (HRD.out.rd.below hS.2.2.2) HD1.out.2 (by omega) (by omega)).mono ?_; rintro e v1 ⟨A2, c2, rfl, hM⟩; exact hK.out _ _ _ rfl rfl ⟨_, _, rfl, hM.after hS.2.2.2⟩ hM.b
                  refine zS (fun w' hS hV K hK => ?_) ?_
                  · have e0 := zQ hV 0; have e1 := zQ hV 1; have q0 := hS.1; have q1 := hS.2.1; have q2 := hS.2.2.1; have q3 := hS.2.2.2; go_simp; exact zO hK
                  refine fun w' hS hV => ?_
                  have e0 := zT hV 0
                  have e1 := zT hV 1
                  have e2 := zT hV 2
                  have e3 := zT hV 3
                  have e4 := zT hV 4
                  have e5 := zT hV 5
                  have e6 := zT hV 6
                  have e7 := zT hV 7
                  have e8 := zT hV 8
                  have e9 := zT hV 9
                  have e10 := zT hV 10
                  have e11 := zT hV 11
                  have e12 := zT hV 12
                  have e13 := zT hV 13
                  have e14 := zT hV 14
                  have e15 := zT hV 15
                  have e16 := zT hV 16
                  have e17 := zT hV 17
                  have e18 := zT hV 18
                  obtain ⟨A19, c19, e19, h19⟩ := hV 19 (by decide)
                  have e20 := zT hV 20
                  simp only [e0, e1, e2, e3, e4, e5, e6, e7, e8, e9, e10, e11, e12, e13, e14, e15, e16, e17, e18, e19, e20]
                  clear e0 e1 e2 e3 e4 e5 e6 e7 e8 e9 e10 e11 e12 e13 e14 e15 e16 e17 e18 e19 e20
                  obtain ⟨q0, q1, q2, q3⟩ := hS
                  have ff := (HM4.out.below q3).frozen_ r
                  refine any_one (j := 21) (by kernel_rfl) (Eq.trans (by simp only [zA, zB, zC]; exact rfl) rfl) (fun K hK => ?_)
                  go_simp
                  refine hK.out _ _ (wpAny_done (by kernel_rfl) ?_ _)
                  have hM5 := HM4.out.setRow h19 r
                  have hM6 : MkII w (w'.setCell ⟨g, r, none⟩ (.slice A19 m c19)) (some ⟨g, 0, none⟩) n c1 (clearTo p N dn kn (r + 1)) := by
                   rw [clearTo_succ p N dn kn r (by rw [HTS.out.2]; exact hlr) hrd, HEY.out]; exact hM5
                  clear q0 q1 q2 q3 ff hM5 h19
                  go_wp2
                  go_roundw
                  case rel => exact ⟨r + 1, by omega, by go_num, hM6⟩
                  case measure => simp [intOf]; omega
            · obtain rfl : r = n := by omega
              have HM4 := Lib.hid hM4
              clear hM4
              go_wp2
              go_roundw
              case rel => exact ⟨dn + 1, kn + 1, by go_num, by go_num, by omega, by rw [HNEXT.out], by rw [HNEXT.out]; exact HM4.out⟩
              case measure => simp [intOf]; omega
         · have hx0' : xe = 0 := by simpa using hz
           go_wp2
           go_round
           case rel => exact ⟨j + 1, by omega, by omega, by go_num, Lib.hid (by rw [← hj3.out, HPV.out, if_pos (by rw [HE.out]; exact hx0')])⟩
           case measure => simp [intOf]; omega
       · obtain rfl : j = n := by omega
         have HVP : Hid (pivOf L kn dn = j) := Lib.hid (by rw [← hj3.out, Nat.sub_self]; rfl)
         have HNEXT : Hid (basisTo p M (kn + 1) = (L, dn)) := Lib.hid (by
          rw [HSUC.out]; unfold stepB; rw [if_pos (by simp only; rw [HVP.out, HL1.out])])
         go_wp2
         go_roundw
         case rel => exact ⟨dn, kn + 1, rfl, by go_num, by omega, by rw [HNEXT.out], by rw [HNEXT.out]; exact HM.out⟩
         case measure => simp [intOf]; omega
    · have HBE : Hid (basisL p M = L.take dn ∧ (L.take dn).length = dn) := Lib.hid ⟨by
       by_cases hk2 : kn = m
       · exact HEND.out hk2
       · exact HFULL.out (by omega), by rw [List.length_take, HL1.out]; omega⟩
      by_cases hk3 : kn < m
      all_goals go_wp2
      all_goals
       go_ret
       rw [HBE.out.1, HBE.out.2]
       exact ⟨_, _, rfl, HM.out.cut hd1⟩
 · obtain rfl : n = 0 := by omega
   obtain rfl : M = [] := List.eq_nil_of_length_eq_zero hML
   clear hT HT
   have HBN := Lib.hid (basisL_nil p)
   go_enter Tryz.func127, Tryz.ntmps127
   go_wp2_with fail
   refine hclone.mono ?_
   rintro e w1 ⟨A1, c1, rfl, hM1⟩
   clear hclone
   go_wp2
   go_loopw [6, 7] (fun d q wr => d = .int .i64 0 ∧ q = .int .i64 0 ∧ wr = w1) (fun _ _ _ => 0)
   case atStart => exact ⟨rfl, rfl, rfl⟩
   case round =>
    obtain ⟨rfl, rfl, rfl⟩ := hrel
    rcases hM1 with ⟨rows, hm1, hn1⟩
    have hcap := hm1.2.cap
    rcases hm1.2.form with ⟨rfl, _⟩ | ⟨g, rfl, _, _⟩
    all_goals
     go_wp2
     go_ret
     rw [HBN.out]
     exact ⟨_, _, rfl, rows, hm1, hn1⟩
end Go.Proofs.YtaiegpggccdgoaaGreat
namespace Go.Proofs.YtaiegpggccdgoaaGreat
open Go.RowKit Go.Maps
/-- The map from the places of the firsts to the rows, of the first j rows. -/
structure Places {H : Type} (B : List (List Int)) (j : Nat) (D : DataW H) : Prop where
 map : IsMap D
 has : ∀ k : Nat, Maps.has D (.int .i64 k) = true ↔ ∃ i, i < j ∧ ld B i = k
 only : ∀ z : Lit, Maps.has D z = true → ∃ k : Nat, z = .int .i64 k
 val : ∀ i, i < j → ∀ zd, D.atKey (.int .i64 (ld B i)) zd = .lit (.int .i64 i)
theorem Places.start {H : Type} (B : List (List Int)) : Places B 0 (.map [] : DataW H) :=
 ⟨isMap_empty, fun k => ⟨fun h => by simp [has_eq] at h, fun ⟨i, hi, _⟩ => absurd hi (by omega)⟩, fun z h => by simp [has_eq] at h, fun i hi => absurd hi (by omega)⟩
theorem lit_ne {a b : Int} (h : a ≠ b) : Lit.int .i64 a ≠ Lit.int .i64 b := fun e => h (by injection e)
theorem Places.step {H : Type} {n : Nat} {B : List (List Int)} (hR : Red n B) {j : Nat} {D : DataW H} (h : Places B j D) (hj : j < B.length) : Places B (j + 1) (D.put (.int .i64 (ld B j)) (.lit (.int .i64 j))) := by
 refine ⟨h.map.put _ _, fun k => ?_, fun z hz => ?_, fun i hi zd => ?_⟩
 · by_cases hk : k = ld B j
   · subst hk
     exact ⟨fun _ => ⟨j, by omega, rfl⟩, fun _ => has_put_same h.map (show WideAt.IsKeyLit (.int .i64 (ld B j)) from trivial) _⟩
   · rw [has_put_other (lit_ne (by omega)), h.has k]
     constructor
     · rintro ⟨i, hi, e⟩; exact ⟨i, by omega, e⟩
     · rintro ⟨i, hi, e⟩
       refine ⟨i, ?_, e⟩
       by_cases hij : i = j
       · subst hij; exact absurd e.symm hk
       · omega
 · by_cases hk : z = .int .i64 (ld B j)
   · exact ⟨_, hk⟩
   · rw [has_put_other hk] at hz
     exact h.only z hz
 · by_cases hij : i = j
   · subst hij
     exact atKey_put_same h.map (show WideAt.IsKeyLit (.int .i64 (ld B i)) from trivial) _ _
   · rw [atKey_put_other (lit_ne (fun e => hij (hR.inj (by omega) hj (by omega))))]
     exact h.val i (by omega) zd
theorem Places.isLd {H : Type} {B : List (List Int)} {D : DataW H} (h : Places B B.length D) (k : Nat) : Maps.has D (.int .i64 k) = isLd B k := by
 cases hh : Maps.has D (.int .i64 k) with
 | true => exact (isLd_iff.2 ((h.has k).1 hh)).symm
 | false =>
  cases hi : Proofs.YtaiegpggccdgoaaGreat.isLd B k with
  | false => rfl
  | true => rw [(h.has k).2 (isLd_iff.1 hi)] at hh; cases hh
theorem ownsMap_below {H : Type} {P : Program} {k : TypeId} {R : Value → Option (DataW H × List MemPlace)} {w w' : World} {b n X : Nat} {D : DataW H} (h : w.ownsMap P k R b n D) (hb : Below X w w') (hX : b < X) : w'.ownsMap P k R b n D := by
 obtain ⟨es, clock, e, r⟩ := h
 exact ⟨es, clock, (hb.block b hX).trans e, r⟩
theorem below_grown_of {w w' : World} {row : Option Nat} {X : Nat} {a : World} (h : Below X a w) (hg : w.grownBy w' row) (hX : X ≤ w.heap.size) (hr : ∀ k, row = some k → X ≤ k) : Below X a w' := h.grown hg hX (fun k hk => hr k hk)
theorem keyedInt : Keyed Tryz.prog 3 := int_keyed Tryz.underlying3
theorem sameKey_int (a b : Int) : (Lit.int .i64 a).sameKey (.int .i64 b) = (a == b) := by
 rw [Bool.eq_iff_iff]
 simp [Lit.sameKey]
theorem zero_int (w : World) : (zeroValue 3).run Tryz.prog w = .ok (.int .i64 0) w := by kernel_rfl
set_option maxHeartbeats 6400000 in
set_option maxRecDepth 8000 in
theorem kernel_any (p : Int) (A : Option Addr) (r0 c : Nat) (M : List (List Int)) (n : Nat) (w : World) (HP : isP p = true) (hr0 : r0 ≤ 65536) (hn : n ≤ 65536) (ha : RdII w A r0 M) (hT : Tab p n M) :
    Calls Tryz.prog 95 #[.int .i64 p, .slice A r0 c, .int .i64 n] w fun e w' => ∃ A' c', e = .returned (.slice A' (kernL p M n).length c') ∧ MkII w w' A' (kernL p M n).length c' (kernL p M n) := by
 obtain ⟨hp3, hp2⟩ := isP_ge HP
 have hp : 2 ≤ p := by omega
 have hbas := basis_any p A r0 c M n w HP hr0 hn ha hT
 have hred := basisL_red HP M hT
 have htab := basisL_tab (p := p) (by omega) M hT
 have HKL : Hid (kernL p M n = basisL p (freeTo p (basisL p M) n n)) := Lib.hid rfl
 have hdl := hred.len
 obtain ⟨B, hB⟩ : ∃ B, B = basisL p M := ⟨_, rfl⟩
 rw [← hB] at hbas hred htab hdl HKL
 have HRED := Lib.hid hred
 have HTAB := Lib.hid htab
 have HP' := Lib.hid HP
 obtain ⟨d, hd⟩ : ∃ d, d = B.length := ⟨_, rfl⟩
 rw [← hd] at hbas hdl
 have HD := Lib.hid hd
 clear hB hT ha hred htab HP hd
 have hmm := @run_makeMap Tryz.prog
 go_enter Tryz.func95, Tryz.ntmps95
 go_wp2_with fail
 refine hbas.mono ?_
 rintro e w1 ⟨A1, c1, rfl, hM1⟩
 clear hbas
 go_wp2
 obtain ⟨b, hb⟩ : ∃ b, b = w1.heap.size := ⟨_, rfl⟩
 obtain ⟨w2, hw2⟩ : ∃ W, W = w1.alloc (.map #[] 0) := ⟨_, rfl⟩
 have hown0 : w2.ownsMap (H := Unit) Tryz.prog 3 (plainElem Tryz.prog 3) b 0 (.map []) := by rw [hw2, hb]; exact World.ownsMap_made _ _ _ _
 have hB0 : Below b w1 w2 := by rw [hw2, hb]; exact zG.alloc (Nat.le_refl _) _
 have hsz2 : w2.heap.size = b + 1 := by rw [hw2, hb]; simp
 have hbsz : b ≤ w2.heap.size := by omega
 rw [← hw2]
 try rw [← hb]
 clear hw2 hmm
 have HM1 := Lib.hid hM1
 have HBB := Lib.hid hb
 clear hM1 hb
 go_loopw [9, 10, 24] (fun _ _ i wr => ∃ (j : Nat) (D : DataW Unit), j ≤ d ∧ i = .int .i64 j ∧ wr.ownsMap Tryz.prog 3 (plainElem Tryz.prog 3) b j D ∧ Hid (Places B j D) ∧ Below b w1 wr ∧ b < wr.heap.size) (fun _ _ i _ => d - (intOf i).toNat)
 case atStart => exact ⟨0, _, by omega, rfl, hown0, Lib.hid (Places.start B), hB0, by omega⟩
 case round =>
  obtain ⟨j, D, hj, rfl, hown, hpl, hBl, hbl⟩ := hrel
  clear hown0 hB0 hsz2 hbsz
  by_cases hlj : j < d
  · obtain ⟨g, o, rfl, hxj, Aj, cj, hcj, hrj, -⟩ := (HM1.out.rd.below (by rw [← HBB.out]; exact hBl)).at_ hlj
    have HRJ := Lib.hid (HTAB.out B[j] (List.getElem_mem hxj))
    have hl := HRJ.out.1
    rw [hl] at hcj hrj
    have HLD : Hid (leadL B[j] = ld B j) := Lib.hid (by unfold ld; rw [getD_of_lt [] hxj])
    have hld := HRED.out.lt j hxj
    have hlead := fun w' (h : Rd w' Aj n (ints B[j])) => lead_any Aj n cj B[j] w' (by omega) h
    rw [HLD.out] at hlead
    have HPL : Hid (Places B (j + 1) (D.put (.int .i64 (ld B j)) (.lit (.int .i64 j)))) := Lib.hid (hpl.out.step HRED.out hxj)
    obtain ⟨l, hl'⟩ : ∃ l, l = ld B j := ⟨_, rfl⟩
    rw [← hl'] at hlead HPL hld
    clear hl hl' HLD
    go_wp2_with (first
     | (go_at_call 139; refine (hlead _ hrj).mono ?_; rintro e w' ⟨rfl, rfl⟩)
     | (at_mapUpdate; refine wpList_mapUpdate_own _ rfl _ _ _ 145 rfl 3 3 keyedInt Tryz.underlying145 _ b j _ rfl hown (by unfold maxLen; omega) _ _ _ rfl rfl (keyOf_int_mk Tryz.underlying3 (WalkArith.wf_i64 (by omega))) _ [] (plainElem_int Tryz.underlying3 (WalkArith.wf_i64 (by omega))) ?_; intro w3 hown3 hgrow3))
    go_roundw
    case rel => exact ⟨j + 1, _, by omega, by go_num, hown3, HPL, below_grown_of hBl hgrow3 (by omega) (fun k hk => by injection hk with hk; omega), by have := hgrow3.size; omega⟩
    case measure => simp [intOf]; omega
  · obtain rfl : j = d := by omega
    have HPL : Hid (Places B B.length D) := Lib.hid (by rw [← HD.out]; exact hpl.out)
    have hM0 : MkII wr (wr.alloc (.cells #[] 24)) (some ⟨wr.heap.size, 0, none⟩) 0 0 (freeTo p B n 0) := MkII.empty zG
    obtain ⟨wb, hwb⟩ : ∃ W, W = wr := ⟨_, rfl⟩
    rw [← hwb] at hM0 hown hBl hbl ⊢
    clear hwb hpl
    have hmk := make_i (P := Tryz.prog) 24 2 Tryz.underlying24 info_i n (by omega)
    go_wp2
    obtain ⟨w4, hw4⟩ : ∃ W, W = wb.alloc (.cells #[] 24) := ⟨_, rfl⟩
    rw [← hw4] at hM0 ⊢
    clear hw4
    go_loopw [11, 36] (fun out i wr => ∃ (f q : Nat) (A' : Option Addr) (c' : Nat), f ≤ n ∧ q ≤ f ∧ i = .int .i64 f ∧ out = .slice A' q c' ∧ MkII wb wr A' q c' (freeTo p B n f)) (fun _ i _ => n - (intOf i).toNat)
    case atStart => exact ⟨0, 0, _, _, by omega, by omega, rfl, rfl, hM0⟩
    case round =>
     obtain ⟨f, q, A', c', hf, hq, rfl, rfl, hM⟩ := hrel
     clear hM0
     obtain ⟨wo, rfl⟩ : ∃ W, W = wr := ⟨_, rfl⟩
     have hsz := hM.b.size
     have hownO := ownsMap_below hown hM.b hbl
     have hisl := HPL.out.isLd f
     have HM := Lib.hid hM
     clear hM
     by_cases hlf : f < n
     · cases hlb : isLd B f
       · rw [hlb] at hisl
         have HIS := Lib.hid hisl
         have hm1 := Mk.made (E := 2) (n := n) (z := .int .i64 0) (Below.refl wo.heap.size wo) (by simp only [maxLen]; omega)
         rw [ints_replicate] at hm1
         obtain ⟨u1, hc1⟩ := hm1.2.cellI hlf
         have hf1 := hm1.2.frozen_ f
         have hm2 := (hm1.set f (.int .i64 1)).1
         rw [ints_set, World.setCell_alloc_at _ _ _ _ _ rfl] at hm2
         have HM2 := Lib.hid hm2
         have HOWN := Lib.hid (ownsMap_below hown (HM.out.b.trans (hm2.b.mono HM.out.b.size)) hbl)
         clear hm1 hm2 hisl
         go_wp2_with (first
          | (at_lookup; refine wpList_lookup_own_ok_int _ rfl _ _ 145 rfl 3 3 .i64 keyedInt Tryz.underlying145 Tryz.underlying3 (zero_int _) b j D rfl hownO _ _ rfl (keyOf_int_mk Tryz.underlying3 (WalkArith.wf_i64 (by omega))) ?_; intro cv hat hwc; rw [HIS.out]; clear hat hwc)
          | (at_range; refine wpList_range_own _ rfl _ 145 rfl 3 3 keyedInt Tryz.underlying145 _ b j D rfl HOWN.out ?_; intro w0 hrg0 hg0 hs0))
         go_frame
         have e1 : w0.heap.size = wo.heap.size + 1 + 1 := by rw [hs0]; simp
         rw [show ∀ o : Obj, (wo.alloc o).heap.size = wo.heap.size + 1 from fun o => by simp] at hrg0 ⊢
         have hm3 : MkI wo w0 (some ⟨wo.heap.size, 0, none⟩) n n (unitRow n f) := ⟨HM2.out.1.grown hg0 HM2.out.1.size (fun k hk => by cases hk), HM2.out.2.grown hg0 (.inr (by simp [Value.ownBlock]))⟩
         clear hg0 hs0 HM2 HOWN hc1 hf1 hownO
         go_loopw [16] (fun _ wr => ∃ (left : Lit → Bool) (cnt : Nat), wr.ranges Tryz.prog 3 (plainElem Tryz.prog 3) b (wo.heap.size + 1) j D left cnt ∧ MkI wo wr (some ⟨wo.heap.size, 0, none⟩) n n (freePart p B n f (fun k => left (.int .i64 k))) ∧ Hid (∀ z, left z = true → Maps.has D z = true)) (fun _ wr => wr.rangeLeft b (wo.heap.size + 1))
         case atStart => exact ⟨_, _, hrg0, by rw [freePart_start p B n f hlf _ (fun k _ hk => by rw [HPL.out.isLd]; exact hk)]; exact hm3, Lib.hid (fun _ h => h)⟩
         case round =>
          obtain ⟨left, cnt, hrg, hmv, hsub⟩ := hrel
          clear hrg0 hm3 e1
          go_wp2_with (at_next; refine wpList_next_ranges_ii _ rfl _ rfl 3 3 .i64 .i64 keyedInt Tryz.underlying3 Tryz.underlying3 b (wo.heap.size + 1) j _ _ _ rfl hrg ?_ ?_)
          · intro hc0 hl0
            have hfin : freePart p B n f (fun k => left (.int .i64 k)) = freeRow p B n f := freePart_congr p B n f (fun k _ => hl0 _)
            rw [hfin] at hmv
            have HMV := Lib.hid hmv
            clear hmv hfin hl0
            go_wp2_with (at_builtin; refine wpList_appRow wb wo _ rfl _ _ rfl A' q c' _ _ n n _ HM.out HMV.out (by omega) rfl ?_ ?_; (go_simp); intro A6 c6 w6 hM6)
            go_roundw
            case rel => exact ⟨f + 1, q + 1, A6, c6, by omega, by omega, by go_num, rfl, by rw [freeTo_take hlb]; exact hM6⟩
            case measure => simp [intOf]; omega
          · intro x cv w7 cnt1 hwx hwc hlx hat hrg1 hlt hg1 hs1 hen
            obtain ⟨kx, hkx⟩ := HPL.out.only _ (hsub.out _ hlx)
            obtain ⟨i, hi, hik⟩ := (HPL.out.has kx).1 (by rw [← hkx]; exact hsub.out _ hlx)
            have hxi : x = ((ld B i : Nat) : Int) := by injection hkx with _ hkx; rw [hkx, hik]
            have hcv : cv = (i : Int) := by
             have h1 := HPL.out.val i hi (.lit (.int .i64 0))
             have h2 := hat (.lit (.int .i64 0))
             rw [hxi, h1] at h2
             injection h2 with h2
             injection h2 with _ h2
             exact h2.symm
            have hb7 : Below w1.heap.size w1 w7 := by
             have h1 : Below b wb wo := HM.out.b.mono (by omega)
             have h2 : Below b wo wr := hmv.b.mono (by omega)
             have h3 := ((hBl.trans h1).trans h2).grown hg1 (by have := hmv.b.size; omega) (fun k hk => by injection hk with hk; omega)
             rw [← HBB.out]; exact h3
            have hmv7 : MkI wo w7 (some ⟨wo.heap.size, 0, none⟩) n n (freePart p B n f (fun k => left (.int .i64 k))) := ⟨hmv.1.grown hg1 hmv.1.size (fun k hk => by injection hk with hk; omega), hmv.2.grown hg1 (.inr (by simp [Value.ownBlock]))⟩
            obtain ⟨g, o, rfl, hxl, Ai, ci, hci, hri, -⟩ := (HM1.out.rd.below hb7).at_ (show i < j by rw [HD.out]; exact hi)
            have HRI := Lib.hid (HTAB.out B[i] (List.getElem_mem hxl))
            have hl := HRI.out.1
            rw [hl] at hci hri
            obtain ⟨gi, oi, rfl, hxe, hce⟩ := hri.int hlf
            have HE : Hid (ent B i f = B[i][f]) := Lib.hid (ent_at' hxl hxe)
            obtain ⟨y, hy⟩ : ∃ y, y = B[i][f] := ⟨_, rfl⟩
            have hyb : 0 ≤ y ∧ y < p := hy ▸ HRI.out.2 _ (List.getElem_mem hxe)
            rw [← hy] at hce HE
            have hld := HRED.out.lt i hi
            have hij : i < j := by rw [HD.out]; exact hi
            obtain ⟨hoc, hof⟩ := mkI_at hmv7 hld
            have HSET := Lib.hid (hmv7.set (ld B i) (.int .i64 ((-y) % p)))
            have HST : Hid ((freePart p B n f (fun k => left (.int .i64 k))).set (ld B i) ((-y) % p) = freePart p B n f (fun k => left (.int .i64 k) && !(k == ld B i))) := Lib.hid (by rw [← HE.out]; exact freePart_step HRED.out hi hlb _)
            have hmb := emod_small (-y) p (by omega)
            have HRG := Lib.hid hrg
            have HRG1 := Lib.hid hrg1
            have HSUB := Lib.hid hsub
            subst hxi
            subst hcv
            have hwy := i64_small (x := -y) (by omega) (by omega)
            obtain ⟨l, hl'⟩ : ∃ l, l = ld B i := ⟨_, rfl⟩
            rw [← hl'] at hoc hof HSET HST HRG1 hen hld ⊢
            clear hl hl' hy hri HRI hxl hxe hat hkx hik hlx hwx hwc hmv7 hb7 hmv hsub hrg hrg1 hg1 hs1
            go_wp2_with (go_at_call 86; refine (num_any p (-y) _ (by omega) hp2 (by omega) (by omega)).mono ?_; rintro e w' ⟨rfl, rfl⟩)
            go_roundw
            case rel =>
             have hs := HSET.out.1
             rw [ints_set, HST.out] at hs
             refine ⟨_, cnt1, HRG1.out.kept HSET.out.2 (fun e => by have := Option.some.inj e; omega) (fun e => by have := Option.some.inj e; omega), ?_, Lib.hid (fun z hz => HSUB.out.out z (by simp only [Bool.and_eq_true] at hz; exact hz.1))⟩
             refine (freePart_congr p B n f (fun k _ => ?_)) ▸ hs
             show (left (.int .i64 k) && !(k == l)) = (left (.int .i64 k) && !(Lit.int .i64 (k : Int)).sameKey (.int .i64 (l : Int)))
             have e : (k == l) = ((k : Int) == (l : Int)) := by
              rw [Bool.eq_iff_iff, beq_iff_eq, beq_iff_eq]
              constructor <;> intro h <;> omega
             rw [sameKey_int, e]
            case measure => rw [(HRG1.out.kept HSET.out.2 (fun e => by have := Option.some.inj e; omega) (fun e => by have := Option.some.inj e; omega)).left_eq, HRG.out.left_eq]; exact hlt
       · rw [hlb] at hisl
         have HIS := Lib.hid hisl
         clear hisl
         go_wp2_with (at_lookup; refine wpList_lookup_own_ok_int _ rfl _ _ 145 rfl 3 3 .i64 keyedInt Tryz.underlying145 Tryz.underlying3 (zero_int _) b j D rfl hownO _ _ rfl (keyOf_int_mk Tryz.underlying3 (WalkArith.wf_i64 (by omega))) ?_; intro cv hat hwc; rw [HIS.out]; clear hat hwc)
         go_roundw
         case rel => exact ⟨f + 1, q, A', c', by omega, by omega, by go_num, rfl, by rw [freeTo_skip hlb]; exact HM.out⟩
         case measure => simp [intOf]; omega
     · obtain rfl : f = n := by omega
       have hlast := basis_any p A' q c' (freeTo p B f f) f wo HP'.out (by omega) hn HM.out.rd (freeTo_tab hp B f f)
       have hbw : Below w.heap.size w wo := by
        have h1 : Below w1.heap.size w1 wb := HBB.out ▸ hBl
        exact (HM1.out.b.trans (h1.mono HM1.out.b.size)).trans (HM.out.b.mono (by have := HM1.out.b.size; have := h1.size; omega))
       go_wp2_with fail
       refine hlast.mono ?_
       rintro e w5 ⟨A5, c5, rfl, hM5⟩
       go_wp2
       go_ret
       rw [HKL.out]
       exact ⟨_, _, rfl, hM5.after hbw⟩
end Go.Proofs.YtaiegpggccdgoaaGreat
namespace Go.Proofs.YtaiegpggccdgoaaGreat
open Go.RowKit
theorem ldIdx_spec {B : List (List Int)} {k i : Nat} (h : ldIdx B k = some i) : i < B.length ∧ ld B i = k := by
 unfold ldIdx at h
 exact ⟨by simpa using List.mem_of_find?_eq_some h, by simpa using List.find?_some h⟩
/-- Is the row with the first at place k not among the first j? -/
def leftFrom (B : List (List Int)) (j k : Nat) : Bool := match ldIdx B k with | some i => decide (j ≤ i) | none => false
theorem leftFrom_zero {n : Nat} {B : List (List Int)} (hR : Red n B) {k : Nat} (h : isLd B k = true) : leftFrom B 0 k = true := by
 obtain ⟨i, hi, rfl⟩ := isLd_iff.1 h
 unfold leftFrom
 rw [ldIdx_some hR hi]
 simp
theorem leftFrom_succ {n : Nat} {B : List (List Int)} (hR : Red n B) {j : Nat} (hj : j < B.length) (k : Nat) : (leftFrom B j k && !(k == ld B j)) = leftFrom B (j + 1) k := by
 unfold leftFrom
 cases h : ldIdx B k with
 | none => rfl
 | some i =>
  obtain ⟨hi, hk⟩ := ldIdx_spec h
  by_cases hij : i = j
  · subst hij
    simp [hk]
  · have hne : ¬ k = ld B j := fun e => hij (hR.inj hi hj (hk.trans e))
    have : (k == ld B j) = false := by simpa using hne
    simp only [this, Bool.not_false, Bool.and_true]
    rw [Bool.eq_iff_iff, decide_eq_true_eq, decide_eq_true_eq]
    omega
theorem leftFrom_end {B : List (List Int)} (k : Nat) : leftFrom B B.length k = false := by
 unfold leftFrom
 cases h : ldIdx B k with
 | none => rfl
 | some i =>
  have := (ldIdx_spec h).1
  simp only [decide_eq_false_iff_not]
  omega
theorem lds_contains (B : List (List Int)) (k : Nat) : (tab B.length fun i => ((ld B i : Nat) : Int)).contains (k : Int) = isLd B k := by
 rw [Bool.eq_iff_iff, List.contains_iff_mem, isLd_iff]
 constructor
 · intro h
   obtain ⟨i, hi, e⟩ := tab_mem h
   exact ⟨i, hi, by omega⟩
 · rintro ⟨i, hi, rfl⟩
   unfold tab
   exact List.mem_map.2 ⟨i, by simpa using hi, rfl⟩
set_option maxHeartbeats 400000 in
set_option maxRecDepth 8000 in
theorem l01Index_any (A : Option Addr) (n c : Nat) (xs : List Int) (v : Int) (w : World) (hn : n ≤ 1099511627776) (ha : Rd w A n (ints xs)) :
    Calls Tryz.prog 158 #[.slice A n c, .int .i64 v] w fun e w' => ∃ r : Int, e = .returned (.int .i64 r) ∧ decide (0 ≤ r) = xs.contains v ∧ w = w' := by
 have hxl : xs.length = n := by have := ha.1; rwa [ints_length] at this
 have Hx := Lib.hid hxl; clear hxl
 go_enter Tryz.func158, Tryz.ntmps158
 go_wp2
 go_loop [5] (fun i => ∃ k : Nat, k ≤ n ∧ i = .int .i64 k ∧ (xs.take k).contains v = false) (fun i => n - (intOf i).toNat)
 case atStart => exact ⟨0, by omega, rfl, by simp⟩
 case round =>
  obtain ⟨k, hk, rfl, ht⟩ := hrel
  have H := Lib.hid ht; clear ht
  by_cases hlt : k < n
  · obtain ⟨g, o, rfl, hx, hcx⟩ := ha.int hlt
    clear ha
    cases hi : (xs[k] == v)
    all_goals
     have HI := Lib.hid hi
     go_wp2
    · go_round
      case rel =>
       refine ⟨k + 1, by omega, by go_num, ?_⟩
       rw [List.take_succ_eq_append_getElem hx, List.contains_eq_any_beq, List.any_append, ← List.contains_eq_any_beq, H.out]
       have := HI.out
       simp only [beq_eq_false_iff_ne, ne_eq] at this
       simp only [List.any_cons, List.any_nil, Bool.or_false, Bool.false_or, beq_eq_false_iff_ne, ne_eq]
       exact fun e => this e.symm
      case measure => simp [intOf]; omega
    · go_ret
      refine ⟨_, rfl, ?_, rfl⟩
      have hv : xs[k] = v := by simpa using HI.out
      have : xs.contains v = true := by rw [List.contains_iff_mem, ← hv]; exact List.getElem_mem hx
      simpa using this
  · go_wp2
    go_ret
    refine ⟨_, rfl, ?_, rfl⟩
    have := H.out
    rw [List.take_of_length_le (by rw [Hx.out]; omega)] at this
    simpa using this
set_option maxHeartbeats 400000 in
set_option maxRecDepth 8000 in
theorem l01Has_any (A : Option Addr) (n c : Nat) (xs : List Int) (v : Int) (w : World) (hn : n ≤ 1099511627776) (ha : Rd w A n (ints xs)) :
    Calls Tryz.prog 147 #[.slice A n c, .int .i64 v] w fun e w' => e = .returned (.bool (xs.contains v)) ∧ w = w' := by
 go_enter Tryz.func147, Tryz.ntmps147
 go_wp2_with fail
 refine (l01Index_any _ _ _ _ _ _ hn ha).mono ?_
 rintro e w1 ⟨r, rfl, hr, rfl⟩
 have HR := Lib.hid hr; clear hr
 go_wp2
 go_ret
 exact ⟨ret_bool HR.out, rfl⟩
theorem l01Has_b {b : Bool} (A : Option Addr) (n c : Nat) (xs : List Int) (v : Int) (w : World) (hn : n ≤ 1099511627776) (ha : Rd w A n (ints xs)) (h : xs.contains v = b) :
    Calls Tryz.prog 147 #[.slice A n c, .int .i64 v] w fun e w' => e = .returned (.bool b) ∧ w = w' := h ▸ l01Has_any A n c xs v w hn ha
set_option maxHeartbeats 1600000 in
set_option maxRecDepth 8000 in
theorem transpose_any (p : Int) (A : Option Addr) (n c : Nat) (M : List (List Int)) (m : Nat) (w : World) (h0 : 0 < n) (hn : n ≤ 65536) (hm : m ≤ 65536) (ha : RdII w A n M) (hT : Tab p m M) :
    Calls Tryz.prog 109 #[.slice A n c] w fun e w' => ∃ A' c', e = .returned (.slice A' m c') ∧ MkII w w' A' m c' (transL M) := by
 have hML := ha.len
 have HTL : Hid (transL M = tab m fun k => tab n fun i => ent M i k) := Lib.hid (by unfold transL; rw [(hT.row (show 0 < M.length by omega)).1, hML])
 have HT := Lib.hid hT
 have HML := Lib.hid hML
 have hM0 : MkII w (w.alloc (.cells #[] 24)) (some ⟨w.heap.size, 0, none⟩) 0 0 [] := MkII.empty zG
 obtain ⟨g, o, rfl, hx0, A0, c0, hcx0, _, _⟩ := (ha.below hM0.b).at_ h0
 have hl0 : M[0].length = m := (HT.out M[0] (List.getElem_mem hx0)).1
 rw [hl0, Nat.add_zero] at hcx0
 clear hT hML hl0
 go_enter Tryz.func109, Tryz.ntmps109
 go_wp2
 clear hcx0
 obtain ⟨w1, hw1⟩ : ∃ W, W = w.alloc (.cells #[] 24) := ⟨_, rfl⟩
 rw [← hw1] at hM0 ⊢
 clear hw1
 go_loopw [3, 12] (fun out i wr => ∃ (k : Nat) (A' : Option Addr) (c' : Nat), k ≤ m ∧ i = .int .i64 k ∧ out = .slice A' k c' ∧ MkII w wr A' k c' (tab k fun k => tab n fun i => ent M i k)) (fun _ i _ => m - (intOf i).toNat)
 case atStart => exact ⟨0, _, _, by omega, rfl, rfl, by simpa [tab] using hM0⟩
 case round =>
  obtain ⟨k, A', c', hk, rfl, rfl, hM⟩ := hrel
  clear hM0
  obtain ⟨wo, rfl⟩ : ∃ W, W = wr := ⟨_, rfl⟩
  by_cases hlt : k < m
  · have hr0 := Mk.lit (E := 2) (Below.refl wo.heap.size wo) #[] (by simp)
    have hR0 : MkI wo (wo.alloc (.cells #[] 2)) (some ⟨wo.heap.size, 0, none⟩) 0 0 [] := by simpa [MkI, ints] using hr0
    have HM := Lib.hid hM
    clear hr0 hM
    go_wp2
    go_loopw [5, 18] (fun row i w2 => ∃ (j : Nat) (A2 : Option Addr) (c2 : Nat), j ≤ n ∧ i = .int .i64 j ∧ row = .slice A2 j c2 ∧ MkI wo w2 A2 j c2 (tab j fun i => ent M i k)) (fun _ i _ => n - (intOf i).toNat)
    case atStart => exact ⟨0, _, _, by omega, rfl, rfl, by simpa [tab] using hR0⟩
    case round =>
     obtain ⟨j, A2, c2, hj, rfl, rfl, hR⟩ := hrel
     clear hR0
     have HR := Lib.hid hR
     by_cases hlj : j < n
     · have hbb := HM.out.b.trans (hR.b.mono HM.out.b.size)
       obtain ⟨g', o', e', hxj, A3, c3, hcx, hr3, _⟩ := (ha.below hbb).at_ hlj
       injection e' with e'; injection e' with e1 e2 _
       subst e1; subst e2
       have hl3 : M[j].length = m := (HT.out M[j] (List.getElem_mem hxj)).1
       rw [hl3] at hcx hr3
       obtain ⟨g3, o3, rfl, hx3, hc3⟩ := hr3.int hlt
       have HV : Hid ((tab (j + 1) fun i => ent M i k) = (tab j fun i => ent M i k) ++ [M[j][k]]) := Lib.hid (by rw [tab_succ, ent_at hxj hx3])
       clear hR hr3 hl3 hbb ha
       go_wp2_with (at_builtin; refine wpList_app1 wo _ 24 2 _ _ Tryz.underlying24 info_i rfl (by omega) rfl _ _ rfl A2 j c2 _ _ HR.out (by omega) rfl rfl rfl ?_; intro A4 c4 w4 hM4 _ _)
       go_roundw
       case rel => exact ⟨j + 1, A4, c4, by omega, by go_num, rfl, by rw [HV.out]; simpa [MkI, ints] using hM4⟩
       case measure => simp [intOf]; omega
     · obtain rfl : j = n := by omega
       clear hR ha
       go_wp2_with (at_builtin; refine wpList_appRow w wo _ rfl _ _ rfl A' k c' _ A2 j c2 _ HM.out HR.out (by omega) rfl ?_ ?_; (go_simp); intro A4 c4 w4 hM4)
       go_roundw
       case rel => exact ⟨k + 1, A4, c4, by omega, by go_num, rfl, by rw [tab_succ]; exact hM4⟩
       case measure => simp [intOf]; omega
  · go_wp2
    go_ret
    obtain rfl : k = m := by omega
    exact ⟨_, _, rfl, by rw [HTL.out]; exact hM⟩
set_option maxHeartbeats 400000 in
set_option maxRecDepth 8000 in
theorem l01Prime_any (p : Int) (w : World) :
    Calls Tryz.prog 134 #[.int .i64 p] w fun e w' => e = .returned (.bool (isP p)) ∧ w = w' := by
 by_cases h3 : p = 3
 · subst h3
   go_enter Tryz.func134, Tryz.ntmps134
   go_wp2
   go_ret
   exact ⟨rfl, rfl⟩
 have b3 : (p == 3) = false := by simpa using h3
 by_cases h5 : p = 5
 · subst h5
   go_enter Tryz.func134, Tryz.ntmps134
   go_wp2
   go_ret
   exact ⟨rfl, rfl⟩
 have b5 : (p == 5) = false := by simpa using h5
 by_cases h7 : p = 7
 · subst h7
   go_enter Tryz.func134, Tryz.ntmps134
   go_wp2
   go_ret
   exact ⟨rfl, rfl⟩
 have b7 : (p == 7) = false := by simpa using h7
 by_cases h11 : p = 11
 · subst h11
   go_enter Tryz.func134, Tryz.ntmps134
   go_wp2
   go_ret
   exact ⟨rfl, rfl⟩
 have b11 : (p == 11) = false := by simpa using h11
 go_enter Tryz.func134, Tryz.ntmps134
 go_wp2
 go_ret
 exact ⟨ret_bool (by simp [isP, b3, b5, b7, b11]), rfl⟩
theorem l01Prime_b {b : Bool} (p : Int) (w : World) (h : isP p = b) :
    Calls Tryz.prog 134 #[.int .i64 p] w fun e w' => e = .returned (.bool b) ∧ w = w' := h ▸ l01Prime_any p w
set_option maxHeartbeats 400000 in
set_option maxRecDepth 8000 in
theorem l01In_any (n lo hi : Int) (w : World) :
    Calls Tryz.prog 135 #[.int .i64 n, .int .i64 lo, .int .i64 hi] w fun e w' => e = .returned (.bool (inR n lo hi)) ∧ w = w' := by
 by_cases h : lo ≤ n
 · go_enter Tryz.func135, Tryz.ntmps135
   go_wp2
   go_ret
   exact ⟨ret_bool (by simp [inR, h]), rfl⟩
 · go_enter Tryz.func135, Tryz.ntmps135
   go_wp2
   go_ret
   exact ⟨ret_bool (by simp [inR]; omega), rfl⟩
theorem l01In_b {b : Bool} (n lo hi : Int) (w : World) (h : inR n lo hi = b) :
    Calls Tryz.prog 135 #[.int .i64 n, .int .i64 lo, .int .i64 hi] w fun e w' => e = .returned (.bool b) ∧ w = w' := h ▸ l01In_any n lo hi w
/-- The value is a slice of one new row in a block of its own. -/
def VNew (w0 : World) (n : Nat) (L : List Int) : VP := ⟨fun v w => ∃ g A c, v = .slice (some ⟨g, 0, none⟩) 1 1 ∧ Blk w g 24 #[.slice A n c] ∧ MkI w0 w A n c L, fun _ _ _ ⟨g, A, c, e, b, h⟩ hb => ⟨g, A, c, e, b.below hb b.lt, h.below hb⟩⟩
/-- A new row, in a block of its own, is appended. -/
theorem wp_appRow {o : Oper} {a : Act} {K : Act → World → Prop} {Q : Exit → Act → World → Prop} (w0 wr w1 : World)
    (s x : Operand) (ho : o.op = .call { callee := .builtin .append, args := #[s, x], argTypes := #[32, 32] })
    (A : Option Addr) (n c : Nat) (xss : List (List Int)) (A1 : Option Addr) (m c1 : Nat) (xs : List Int) (hM : MkII w0 wr A n c xss) (hr : Mk wr w1 2 A1 m c1 (ints xs)) (hn : n ≤ 1099511627776) (g : Nat) (hB : Blk w1 g 24 #[.slice A1 m c1])
    (hs : a.eval s = .slice A n c) (hx : a.eval x = .slice (some ⟨g, 0, none⟩) 1 1)
    (h : ∀ A' c' w', MkII w0 w' A' (n + 1) c' (xss ++ [xs]) → w1.grownBy w' (Value.slice A n c).ownBlock → (∃ g, A' = some ⟨g, 0, none⟩ ∧ ((Value.slice A n c).ownBlock = some g ∨ w1.heap.size ≤ g)) → K (a.put o.dst (.slice A' (n + 1) c')) w') : o.wp Tryz.prog a w1 K Q := by
 obtain ⟨rows, hm, hnest⟩ := hM
 have hm1 := hm.below hr.1
 have hn1 := hnest.snoc hr hm.1.size
 obtain ⟨i, hi, h1, h2, h3⟩ := info_parts info_s
 obtain ⟨b1, b2⟩ := bound_of hn
 refine wp_append_lies w1 s x 32 ho w0.heap.size 24 i (.slice none 0 0) 1 24 Tryz.underlying32 hi h1 h2 h3 rfl (by omega) (.slice A n c) n rows hs hm1.2 ⟨g, 0, none⟩ 1 1 [.slice A1 m c1] hx rfl (fun j v hv => ?_)
  (by intro v hv; simp at hv; rw [hv]; rfl) (by omega) b1 (b2 _ (by omega)) hm1.1.size _ rfl (fun g' cap w' hown hg hat _ => h _ _ _ ⟨_, ⟨hm1.1.grown hg hm1.1.size (fun k hk => (hm1.2.lt k hk).1), hown⟩, hn1.grown hm1.2 (by decide) hg⟩ hg ⟨g', rfl, hat.imp id (fun e => by omega)⟩)
 match j, hv with
 | 0, hv => simp at hv; subst hv; rw [Addr.add_lit]; exact hB.cell 0
theorem is_b {b : Bool} (p : Int) (A : Option Addr) (n c : Nat) (xs : List Int) (w : World) (hp : 0 < p) (hp2 : p ≤ 100) (hn : n ≤ 1099511627776) (ha : Rd w A n (ints xs)) (h : nums p xs = b) :
    Calls Tryz.prog 132 #[.int .i64 p, .slice A n c] w fun e w' => e = .returned (.bool b) ∧ w = w' := h ▸ is_any p A n c xs w hp hp2 hn ha
theorem nums_numsL {P : Int} {xs : List Int} (h : nums P xs = true) : NumsL P xs := fun x hx => by
 have := List.all_eq_true.1 h x hx
 simp [inR] at this
 omega
end Go.Proofs.YtaiegpggccdgoaaGreat
namespace Go.Proofs.YtaiegpggccdgoaaGreat
theorem sumTo_zero {n : Nat} {f : Nat → Int} (h : ∀ i, i < n → f i = 0) : sumTo n f = 0 := by
 induction n with
 | zero => rfl
 | succ n ih => rw [sumTo_succ, ih (fun i hi => h i (by omega)), h n (by omega)]; rfl
theorem sumTo_one {n : Nat} {f : Nat → Int} (k : Nat) (hk : k < n) (h : ∀ i, i < n → i ≠ k → f i = 0) : sumTo n f = f k := by
 induction n with
 | zero => omega
 | succ n ih =>
  rw [sumTo_succ]
  by_cases e : k = n
  · subst e; rw [sumTo_zero (fun i hi => h i (by omega) (by omega)), Int.zero_add]
  · rw [ih (by omega) (fun i hi => h i (by omega)), h n (by omega) (by omega), Int.add_zero]
theorem sumTo_add (n : Nat) (f g : Nat → Int) : sumTo n (fun i => f i + g i) = sumTo n f + sumTo n g := by
 induction n with
 | zero => rfl
 | succ n ih => rw [sumTo_succ, sumTo_succ, sumTo_succ, ih]; omega
theorem sumTo_mul (n : Nat) (f : Nat → Int) (c : Int) : sumTo n (fun i => c * f i) = c * sumTo n f := by
 induction n with
 | zero => simp [sumTo]
 | succ n ih => rw [sumTo_succ, sumTo_succ, ih, Int.mul_add]
theorem sumTo_comm (n m : Nat) (f : Nat → Nat → Int) : sumTo n (fun i => sumTo m (f i)) = sumTo m (fun j => sumTo n (fun i => f i j)) := by
 induction n with
 | zero => exact (sumTo_zero (fun _ _ => rfl)).symm
 | succ n ih => rw [sumTo_succ, ih, ← sumTo_add]; rfl
end Go.Proofs.YtaiegpggccdgoaaGreat
namespace Go.Proofs.YtaiegpggccdgoaaGreat
open Go.RowKit
theorem lengthS_any (A : Option Addr) (n c : Nat) (w : World) :
    Calls Tryz.prog 72 #[.slice A n c] w fun e w' => e = .returned (.int .i64 n) ∧ w = w' := by
 go_enter Tryz.func72, Tryz.ntmps72
 go_wp2
 go_ret
 exact ⟨rfl, rfl⟩
theorem Blk.newAt3 {w : World} {t : TypeId} {cs : Array Value} {g : Nat} (hg : g = w.heap.size) : Blk (w.alloc (.cells cs t)) g t cs := hg ▸ Blk.new w t cs
theorem sumTo_169 {n : Nat} {f : Nat → Int} (h : ∀ i, i < n → 0 ≤ f i ∧ f i ≤ 169) : 0 ≤ sumTo n f ∧ sumTo n f ≤ 169 * (n : Int) := by
 induction n with
 | zero => simp [sumTo]
 | succ n ih =>
  obtain ⟨a, b⟩ := ih fun i hi => h i (by omega)
  obtain ⟨c, d⟩ := h n (by omega)
  rw [sumTo_succ]
  omega
set_option maxHeartbeats 800000 in
set_option maxRecDepth 8000 in
theorem dot_any (p : Int) (A : Option Addr) (n c : Nat) (B : Option Addr) (m d : Nat) (xs ys : List Int) (w : World) (hp : 2 ≤ p) (hp2 : p ≤ 13) (hn : n ≤ 65536) (hnm : n ≤ m) (ha : Rd w A n (ints xs)) (hx : NumsL p xs) (hb : Rd w B m (ints ys)) (hy : NumsL p ys) :
    Calls Tryz.prog 68 #[.int .i64 p, .slice A n c, .slice B m d] w fun e w' => e = .returned (.int .i64 (dotL p xs ys)) ∧ w = w' := by
 have hxl := ha.lenI
 have hyl := hb.lenI
 have hsb : Hid (∀ j, j ≤ n → 0 ≤ (sumTo j fun i => xs.getD i 0 * ys.getD i 0) ∧ (sumTo j fun i => xs.getD i 0 * ys.getD i 0) ≤ 169 * (j : Int)) := Lib.hid (fun j hj => sumTo_169 (n := j) (f := fun i => xs.getD i 0 * ys.getD i 0) fun i hi => by
  show 0 ≤ xs.getD i 0 * ys.getD i 0 ∧ xs.getD i 0 * ys.getD i 0 ≤ 169
  have h1 : i < xs.length := by omega
  have h2 : i < ys.length := by omega
  rw [getD_of_lt 0 h1, getD_of_lt 0 h2]
  obtain ⟨a1, a2⟩ := hx _ (List.getElem_mem h1)
  obtain ⟨b1, b2⟩ := hy _ (List.getElem_mem h2)
  exact mul_small a1 (show xs[i] ≤ 13 by omega) b1 (show ys[i] ≤ 13 by omega))
 have Hx := Lib.hid hxl
 clear hxl hyl
 go_enter Tryz.func68, Tryz.ntmps68
 go_wp2
 go_loopw [7, 8, 9, 12] (fun s _ _ i wr => ∃ j : Nat, j ≤ n ∧ i = .int .i64 j ∧ s = .int .i64 (sumTo j fun i => xs.getD i 0 * ys.getD i 0) ∧ wr = w) (fun _ _ _ i _ => n - (intOf i).toNat)
 case atStart => exact ⟨0, by omega, rfl, rfl, rfl⟩
 case round =>
  obtain ⟨j, hj, rfl, rfl, rfl⟩ := hrel
  obtain ⟨b1, b2⟩ := hsb.out j hj
  have hsucc : Hid ((sumTo (j + 1) fun i => xs.getD i 0 * ys.getD i 0) = (sumTo j fun i => xs.getD i 0 * ys.getD i 0) + xs.getD j 0 * ys.getD j 0) := Lib.hid (sumTo_succ _ _)
  have hdot : Hid (j = n → dotL p xs ys = (sumTo j fun i => xs.getD i 0 * ys.getD i 0) % p) := Lib.hid (fun h => by unfold dotL; rw [Hx.out, h])
  obtain ⟨s, hs⟩ : ∃ s, s = sumTo j fun i => xs.getD i 0 * ys.getD i 0 := ⟨_, rfl⟩
  rw [← hs] at b1 b2 hsucc hdot ⊢
  clear hs
  by_cases hlt : j < n
  · obtain ⟨g, o, rfl, hxj, hcx⟩ := ha.int hlt
    obtain ⟨g2, o2, rfl, hyj, hcy⟩ := hb.int (show j < m by omega)
    obtain ⟨x1, x2⟩ := hx _ (List.getElem_mem hxj)
    obtain ⟨y1, y2⟩ := hy _ (List.getElem_mem hyj)
    obtain ⟨m1, m2⟩ := mul_small x1 (show xs[j] ≤ 13 by omega) y1 (show ys[j] ≤ 13 by omega)
    have HV : Hid ((sumTo (j + 1) fun i => xs.getD i 0 * ys.getD i 0) = s + xs[j] * ys[j]) := Lib.hid (by rw [hsucc.out, getD_of_lt 0 hxj, getD_of_lt 0 hyj])
    clear ha hb
    go_wp2
    go_roundw
    case rel => exact ⟨j + 1, by omega, by go_num, by rw [HV.out], trivial⟩
    case measure => simp [intOf]; omega
  · go_wp2_with fail
    refine (num_any p s _ (by omega) hp2 (by omega) (by omega)).mono ?_
    rintro e w' ⟨rfl, rfl⟩
    go_wp2
    go_ret
    exact ⟨ret_int (hdot.out (by omega)).symm, rfl⟩
end Go.Proofs.YtaiegpggccdgoaaGreat
namespace Go.Proofs.YtaiegpggccdgoaaGreat
theorem cg_add {p a b c d : Int} (h : a % p = b % p) (h' : c % p = d % p) : (a + c) % p = (b + d) % p := by rw [Int.add_emod, h, h', ← Int.add_emod]
theorem cg_mul {p a b c d : Int} (h : a % p = b % p) (h' : c % p = d % p) : a * c % p = b * d % p := by rw [Int.mul_emod, h, h', ← Int.mul_emod]
theorem cg_self (p a : Int) : a % p % p = a % p := Int.emod_emod_of_dvd _ (Int.dvd_refl p)
theorem sumTo_two {n : Nat} {f : Nat → Int} (a b : Nat) (ha : a < n) (hb : b < n) (hab : a ≠ b) (h : ∀ i, i < n → i ≠ a → i ≠ b → f i = 0) : sumTo n f = f a + f b := by
 have e : sumTo n f = sumTo n (fun i => (if i = a then f i else 0) + (if i = a then 0 else f i)) := sumTo_congr fun i _ => by split <;> omega
 rw [e, sumTo_add, sumTo_one (f := fun i => if i = a then f i else 0) a ha (fun i _ hi => if_neg hi), sumTo_one (f := fun i => if i = a then 0 else f i) b hb (fun i hi hib => by
  by_cases hia : i = a
  · exact if_pos hia
  · simp only [if_neg hia]; exact h i hi hia hib)]
 rw [if_pos rfl, if_neg (Ne.symm hab)]
theorem getD_app_left {α : Type} (d : α) {xs : List α} (ys : List α) {i : Nat} (h : i < xs.length) : (xs ++ ys).getD i d = xs.getD i d := by
 rw [getD_of_lt d h, getD_of_lt d (by rw [List.length_append]; omega), List.getElem_append_left h]
theorem getD_app_right {α : Type} (d : α) (xs ys : List α) (i : Nat) : (xs ++ ys).getD (xs.length + i) d = ys.getD i d := by
 by_cases h : i < ys.length
 · rw [getD_of_lt d h, getD_of_lt d (by rw [List.length_append]; omega), List.getElem_append_right (by omega)]
   congr 1; omega
 · rw [getD_of_ge d (show ys.length ≤ i by omega), getD_of_ge d (show (xs ++ ys).length ≤ xs.length + i by rw [List.length_append]; omega)]
/-- A sum of multiples of the rows. -/
def Sp (p : Int) (n : Nat) (m : List (List Int)) (v : Nat → Int) : Prop := ∃ c : Nat → Int, ∀ q, q < n → v q % p = (sumTo m.length fun i => c i * ent m i q) % p
theorem Sp.congr {p : Int} {n : Nat} {m : List (List Int)} {v u : Nat → Int} (h : Sp p n m v) (e : ∀ q, q < n → v q % p = u q % p) : Sp p n m u := by
 obtain ⟨c, hc⟩ := h
 exact ⟨c, fun q hq => (e q hq).symm.trans (hc q hq)⟩
theorem Sp.zero (p : Int) (n : Nat) (m : List (List Int)) : Sp p n m fun _ => 0 := ⟨fun _ => 0, fun q _ => by rw [sumTo_zero fun i _ => Int.zero_mul _]⟩
theorem Sp.add {p : Int} {n : Nat} {m : List (List Int)} {v u : Nat → Int} (h : Sp p n m v) (h' : Sp p n m u) : Sp p n m fun q => v q + u q := by
 obtain ⟨c, hc⟩ := h
 obtain ⟨d, hd⟩ := h'
 refine ⟨fun i => c i + d i, fun q hq => ?_⟩
 rw [sumTo_congr (g := fun i => c i * ent m i q + d i * ent m i q) fun i _ => Int.add_mul _ _ _, sumTo_add]
 exact cg_add (hc q hq) (hd q hq)
theorem Sp.mul {p : Int} {n : Nat} {m : List (List Int)} {v : Nat → Int} (h : Sp p n m v) (k : Int) : Sp p n m fun q => k * v q := by
 obtain ⟨c, hc⟩ := h
 refine ⟨fun i => k * c i, fun q hq => ?_⟩
 rw [sumTo_congr (g := fun i => k * (c i * ent m i q)) fun i _ => Int.mul_assoc _ _ _, sumTo_mul]
 exact cg_mul rfl (hc q hq)
theorem Sp.row {p : Int} {n : Nat} {m : List (List Int)} {i : Nat} (hi : i < m.length) : Sp p n m fun q => ent m i q := by
 refine ⟨fun j => if j = i then 1 else 0, fun q _ => ?_⟩
 rw [sumTo_one (f := fun j => (if j = i then 1 else 0) * ent m j q) i hi (fun j _ hj => by simp only [if_neg hj, Int.zero_mul])]
 simp
theorem Sp.mem {p : Int} {n : Nat} {m : List (List Int)} {x : List Int} (hx : x ∈ m) : Sp p n m fun q => x.getD q 0 := by
 obtain ⟨i, hi, rfl⟩ := List.getElem_of_mem hx
 refine (Sp.row hi).congr fun q _ => ?_
 unfold ent; rw [getD_of_lt [] hi]
theorem Sp.sum {p : Int} {n : Nat} {m : List (List Int)} (k : Nat) {f : Nat → Nat → Int} (h : ∀ i, i < k → Sp p n m (f i)) : Sp p n m fun q => sumTo k fun i => f i q := by
 induction k with
 | zero => exact Sp.zero p n m
 | succ k ih => exact (ih fun i hi => h i (by omega)).add (h k (by omega))
/-- All rows of the first are made of those of the second. -/
def InSp (p : Int) (n : Nat) (m m' : List (List Int)) : Prop := ∀ i, i < m.length → Sp p n m' fun q => ent m i q
theorem InSp.sp {p : Int} {n : Nat} {m m' : List (List Int)} (h : InSp p n m m') {v : Nat → Int} (hv : Sp p n m v) : Sp p n m' v := by
 obtain ⟨c, hc⟩ := hv
 exact (Sp.sum m.length fun i hi => (h i hi).mul (c i)).congr fun q hq => (hc q hq).symm
theorem InSp.refl (p : Int) (n : Nat) (m : List (List Int)) : InSp p n m m := fun _ hi => Sp.row hi
theorem InSp.trans {p : Int} {n : Nat} {m m' m2 : List (List Int)} (h : InSp p n m m') (h' : InSp p n m' m2) : InSp p n m m2 := fun i hi => h'.sp (h i hi)
theorem InSp.of_mem {p : Int} {n : Nat} {m m' : List (List Int)} (h : ∀ x ∈ m, Sp p n m' fun q => x.getD q 0) : InSp p n m m' := fun i hi =>
 (h _ (List.getElem_mem hi)).congr fun q _ => by unfold ent; rw [getD_of_lt [] hi]
theorem InSp.of_sub {p : Int} {n : Nat} {m m' : List (List Int)} (h : ∀ x ∈ m, x ∈ m') : InSp p n m m' := InSp.of_mem fun x hx => Sp.mem (h x hx)
theorem InSp.append {p : Int} {n : Nat} {m1 m2 m' : List (List Int)} (h1 : InSp p n m1 m') (h2 : InSp p n m2 m') : InSp p n (m1 ++ m2) m' := InSp.of_mem fun x hx => by
 rcases List.mem_append.1 hx with h | h
 · exact h1.sp (Sp.mem h)
 · exact h2.sp (Sp.mem h)
/-- Two numbers that have the same remainder and are remainders. -/
theorem cg_eq {p a b : Int} (ha : 0 ≤ a ∧ a < p) (hb : 0 ≤ b ∧ b < p) (h : a % p = b % p) : a = b := by
 rwa [Int.emod_eq_of_lt ha.1 ha.2, Int.emod_eq_of_lt hb.1 hb.2] at h
theorem scaledAt_in {p : Int} (hP : isP p = true) {n : Nat} {m : List (List Int)} (hT : Tab p n m) {k d : Nat} (hd : d < m.length) (hv : pivOf m k d < m.length) :
    InSp p n (scaledAt p m k d) m ∧ InSp p n m (scaledAt p m k d) := by
 have hp : 2 ≤ p := by have := isP_ge hP; omega
 have hlen := scaledAt_len p m k d
 have hE := fun r q hq => ent_scaled (p := p) (k := k) rfl hd hv hT r q hq
 obtain ⟨hb1, hb2⟩ := pivOf_bound m k d (by omega)
 have hx : ent m (pivOf m k d) k ≠ 0 := piv_at m k _ _ (by unfold pivOf at hv; omega)
 obtain ⟨x1, x2⟩ := hT.ent (by omega) (pivOf m k d) k
 obtain ⟨i1, i2, i3⟩ := inv_spec hP (show 0 < ent m (pivOf m k d) k by omega) x2
 have hinv : ent m (pivOf m k d) k * invF p (ent m (pivOf m k d) k) % p = 1 := (i3 _ (by omega) i2).2 rfl
 obtain ⟨v, hv'⟩ : ∃ v, v = pivOf m k d := ⟨_, rfl⟩
 rw [← hv'] at hE hx x1 x2 hinv hv hb1 hb2
 obtain ⟨y, hy⟩ : ∃ y, y = invF p (ent m v k) := ⟨_, rfl⟩
 rw [← hy] at hE hinv
 constructor
 · intro r hr
   rw [hlen] at hr
   by_cases h1 : r = d
   · refine ((Sp.row hv).mul y).congr fun q hq => ?_
     rw [hE r q hq, if_pos h1, cg_self, Int.mul_comm]
   · by_cases h2 : r = v
     · refine (Sp.row hd).congr fun q hq => ?_
       rw [hE r q hq, if_neg h1, if_pos h2]
     · refine (Sp.row hr).congr fun q hq => ?_
       rw [hE r q hq, if_neg h1, if_neg h2]
 · intro r hr
   by_cases h2 : r = v
   · refine ((Sp.row (show d < (scaledAt p m k d).length by omega)).mul (ent m v k)).congr fun q hq => ?_
     rw [hE d q hq, if_pos rfl, h2]
     have e1 : ent m v k * (ent m v q * y % p) % p = ent m v k * (ent m v q * y) % p := cg_mul rfl (cg_self _ _)
     have e2 : ent m v k * (ent m v q * y) = ent m v q * (ent m v k * y) := by rw [Int.mul_comm (ent m v q) y, ← Int.mul_assoc, Int.mul_comm]
     rw [e1, e2]
     have e3 : ent m v q * (ent m v k * y) % p = ent m v q * 1 % p := cg_mul rfl (by rw [hinv, Int.emod_eq_of_lt (by omega) (by omega)])
     rw [e3, Int.mul_one]
   · by_cases h1 : r = d
     · refine (Sp.row (show v < (scaledAt p m k d).length by omega)).congr fun q hq => ?_
       rw [hE v q hq, if_neg (fun e => h2 (h1.trans e.symm)), if_pos rfl, h1]
     · refine (Sp.row (show r < (scaledAt p m k d).length by omega)).congr fun q hq => ?_
       rw [hE r q hq, if_neg h1, if_neg h2]
theorem clearTo_in {p : Int} {n : Nat} {m : List (List Int)} (hT : Tab p n m) {k d : Nat} (hd : d < m.length) :
    InSp p n (clearTo p m d k m.length) m ∧ InSp p n m (clearTo p m d k m.length) := by
 have hlen := clearTo_len p m d k m.length
 have hE := fun r q hr hq => ent_cleared (p := p) hT d k r q hr hq
 constructor
 · intro r hr
   rw [hlen] at hr
   by_cases h1 : r = d
   · refine (Sp.row hd).congr fun q hq => ?_
     rw [hE r q hr hq, if_pos h1]
   · refine ((Sp.row hr).add ((Sp.row hd).mul (-(ent m r k)))).congr fun q hq => ?_
     rw [hE r q hr hq, if_neg h1, cg_self]
 · intro r hr
   by_cases h1 : r = d
   · refine (Sp.row (show d < (clearTo p m d k m.length).length by omega)).congr fun q hq => ?_
     rw [hE d q hd hq, if_pos rfl, h1]
   · refine ((Sp.row (show r < (clearTo p m d k m.length).length by omega)).add ((Sp.row (show d < (clearTo p m d k m.length).length by omega)).mul (ent m r k))).congr fun q hq => ?_
     rw [hE r q hr hq, if_neg h1, hE d q hd hq, if_pos rfl]
     refine (cg_add (cg_self _ _) rfl).trans ?_
     congr 1
     rw [Int.neg_mul]; omega
theorem stepB_in {p : Int} (hP : isP p = true) {n : Nat} {s : List (List Int) × Nat} {k : Nat} (hT : Tab p n s.1) (hd : s.2 ≤ s.1.length) : InSp p n (stepB p k s).1 s.1 ∧ InSp p n s.1 (stepB p k s).1 := by
 unfold stepB
 split
 · exact ⟨InSp.refl _ _ _, InSp.refl _ _ _⟩
 · rename_i hne
   have hb := pivOf_bound s.1 k s.2 hd
   have hp : 2 ≤ p := by have := isP_ge hP; omega
   obtain ⟨a1, a2⟩ := scaledAt_in (k := k) hP hT (show s.2 < s.1.length by omega) (by omega)
   obtain ⟨b1, b2⟩ := clearTo_in (k := k) (d := s.2) (scaledAt_tab (p := p) (k := k) (by omega) hT (show s.2 < s.1.length by omega) (by omega)) (by rw [scaledAt_len]; omega)
   rw [scaledAt_len] at b1 b2
   exact ⟨b1.trans a1, a2.trans b2⟩
theorem basisTo_in {p : Int} (hP : isP p = true) {n : Nat} (m : List (List Int)) (hT : Tab p n m) (k : Nat) (hk : k ≤ n) : InSp p n (basisTo p m k).1 m ∧ InSp p n m (basisTo p m k).1 := by
 have hp : 2 ≤ p := by have := isP_ge hP; omega
 induction k with
 | zero => exact ⟨InSp.refl _ _ _, InSp.refl _ _ _⟩
 | succ k ih =>
  obtain ⟨h1, h2⟩ := ih (by omega)
  obtain ⟨t1, t2, t3⟩ := basisTo_inv (p := p) (by omega) m hT k
  obtain ⟨g1, g2⟩ := stepB_in (k := k) hP (s := basisTo p m k) t1 (by omega)
  exact ⟨g1.trans h1, h2.trans g2⟩
/-- The reduced basis makes what the rows make. -/
theorem basisL_in {p : Int} (hP : isP p = true) {n : Nat} (m : List (List Int)) (hT : Tab p n m) : InSp p n (basisL p m) m ∧ InSp p n m (basisL p m) := by
 have hp : 2 ≤ p := by have := isP_ge hP; omega
 by_cases h0 : 0 < m.length
 · have hl := row0_len hT h0
   obtain ⟨a1, a2⟩ := basisTo_in hP m hT n (Nat.le_refl _)
   obtain ⟨c, hc⟩ := basisTo_ech hP m hT n (Nat.le_refl _)
   obtain ⟨h1, h2, h3⟩ := basisTo_inv (p := p) (by omega) m hT n
   have e : basisL p m = (basisTo p m n).1.take (basisTo p m n).2 := by unfold basisL; rw [hl]
   constructor
   · refine InSp.trans (InSp.of_sub fun x hx => ?_) a1
     rw [e] at hx
     exact List.mem_of_mem_take hx
   · refine a2.trans fun i hi => ?_
     by_cases hid : i < (basisTo p m n).2
     · refine (Sp.mem (x := (basisTo p m n).1[i]) ?_).congr fun q _ => by unfold ent; rw [getD_of_lt [] hi]
       rw [e]
       exact List.mem_take_iff_getElem.2 ⟨i, by omega, rfl⟩
     · exact (Sp.zero _ _ _).congr fun q hq => by rw [hc.rest i (by omega) hi q hq]
 · obtain rfl : m = [] := List.eq_nil_of_length_eq_zero (by omega)
   rw [basisL_nil]
   exact ⟨InSp.refl _ _ _, InSp.refl _ _ _⟩
/-- What a reduced basis makes is told by its numbers at the places of the firsts. -/
theorem Red.coef {p : Int} {n : Nat} {B : List (List Int)} (hR : Red n B) {v : Nat → Int} (hv : Sp p n B v) : ∀ q, q < n → v q % p = (sumTo B.length fun i => v (ld B i) * ent B i q) % p := by
 obtain ⟨c, hc⟩ := hv
 intro q hq
 rw [hc q hq]
 refine sumTo_mod p fun i hi => cg_mul ?_ rfl
 rw [hc _ (hR.lt i hi), sumTo_one (f := fun j => c j * ent B j (ld B i)) i hi (fun j hj hji => by rw [hR.zero i j hi hj hji, Int.mul_zero]), hR.one i hi, Int.mul_one]
theorem Red.lead_of {p : Int} {n : Nat} {B : List (List Int)} (hR : Red n B) {v : Nat → Int} (hv : Sp p n B v) {q0 : Nat} (hq : q0 < n) (h0 : v q0 % p ≠ 0) (hb : ∀ q, q < q0 → v q % p = 0) : ∃ i, i < B.length ∧ ld B i = q0 := by
 refine Classical.byContradiction fun hno => h0 ?_
 rw [hR.coef hv q0 hq]
 refine (sumTo_mod p (g := fun _ => 0) fun i hi => ?_).trans (by rw [sumTo_zero fun _ _ => rfl]; rfl)
 rcases Nat.lt_trichotomy (ld B i) q0 with h | h | h
 · rw [Int.mul_emod, hb _ h]; simp
 · exact absurd ⟨i, hi, h⟩ hno
 · rw [hR.before i q0 h, Int.mul_zero]
theorem Red.leads_le {p : Int} (hp : 2 ≤ p) {n : Nat} {B C : List (List Int)} (hB : Red n B) (hC : Red n C) (h1 : InSp p n B C) (h2 : InSp p n C B) : ∀ i, i < B.length → i < C.length ∧ ld C i = ld B i := by
 have one : ∀ (B C : List (List Int)), Red n B → Red n C → InSp p n B C → ∀ i, i < B.length → ∃ j, j < C.length ∧ ld C j = ld B i := fun B C hB hC h i hi =>
  hC.lead_of (h i hi) (hB.lt i hi) (by rw [hB.one i hi, Int.emod_eq_of_lt (by omega) (by omega)]; omega) (fun q hq => by rw [hB.before i q hq]; simp)
 intro i
 induction i using Nat.strongRecOn with
 | _ i ih =>
  intro hi
  obtain ⟨j, hj, e⟩ := one B C hB hC h1 i hi
  have hij : i ≤ j := by
   refine Nat.le_of_not_lt fun hlt => ?_
   have := (ih j hlt (by omega)).2
   have := hB.inj (i := j) (j := i) (by omega) hi (by omega)
   omega
  have hic : i < C.length := by omega
  refine ⟨hic, ?_⟩
  rcases Nat.lt_or_ge i j with hlt | hge
  · obtain ⟨k, hk, e2⟩ := one C B hC hB h2 i hic
    have m1 := hC.mono i j hlt hj
    rcases Nat.lt_trichotomy k i with h | h | h
    · have := (ih k h (by omega)).2
      have := hC.inj (i := k) (j := i) (by omega) hic (by omega)
      omega
    · subst h; omega
    · have := hB.mono i k h hk; omega
  · obtain rfl : i = j := by omega
    exact e
/-- There is only one reduced basis. -/
theorem Red.unique {p : Int} (hp : 2 ≤ p) {n : Nat} {B C : List (List Int)} (hB : Red n B) (hC : Red n C) (TB : Tab p n B) (TC : Tab p n C) (h1 : InSp p n B C) (h2 : InSp p n C B) : B = C := by
 have a := hB.leads_le hp hC h1 h2
 have b := hC.leads_le hp hB h2 h1
 have hl : B.length = C.length := by
  rcases Nat.lt_trichotomy B.length C.length with h | h | h
  · have := (b B.length h).1; omega
  · exact h
  · have := (a C.length h).1; omega
 refine list_ext_getD [] hl fun i hi => ?_
 have hic : i < C.length := by omega
 obtain ⟨r1, r2⟩ := TB.row hi
 obtain ⟨s1, s2⟩ := TC.row hic
 refine list_ext_getD 0 (by omega) fun q hq => ?_
 rw [r1] at hq
 refine cg_eq (p := p) (TB.ent (by omega) i q) (TC.ent (by omega) i q) ?_
 show ent B i q % p = ent C i q % p
 rw [hC.coef (h1 i hi) q hq]
 congr 1
 rw [sumTo_one (f := fun j => ent B i (ld C j) * ent C j q) i hic (fun j hj hji => by
  rw [← (b j hj).2, hB.zero j i (by omega) hi (Ne.symm hji), Int.zero_mul]), (a i hi).2, hB.one i hi, Int.one_mul]
/-- Orthogonal to all rows. -/
def Orth (p : Int) (n : Nat) (m : List (List Int)) (v : Nat → Int) : Prop := ∀ i, i < m.length → (sumTo n fun q => ent m i q * v q) % p = 0
theorem Orth.sp {p : Int} {n : Nat} {m : List (List Int)} {v : Nat → Int} (h : Orth p n m v) {u : Nat → Int} (hu : Sp p n m u) : (sumTo n fun q => u q * v q) % p = 0 := by
 obtain ⟨c, hc⟩ := hu
 have e1 : (sumTo n fun q => u q * v q) % p = (sumTo n fun q => sumTo m.length fun i => c i * (ent m i q * v q)) % p := by
  refine sumTo_mod p fun q hq => ?_
  rw [sumTo_congr (f := fun i => c i * (ent m i q * v q)) (g := fun i => v q * (c i * ent m i q)) (fun i _ => by rw [Int.mul_comm (v q), Int.mul_assoc]), sumTo_mul, Int.mul_comm (v q)]
  exact cg_mul (hc q hq) rfl
 rw [e1, sumTo_comm]
 refine (sumTo_mod p (g := fun _ => 0) fun i hi => ?_).trans (by rw [sumTo_zero fun _ _ => rfl]; rfl)
 rw [sumTo_mul, Int.mul_emod, h i hi]; simp
theorem Orth.of_in {p : Int} {n : Nat} {m m' : List (List Int)} {v : Nat → Int} (h : Orth p n m v) (hi : InSp p n m' m) : Orth p n m' v := fun i hl => h.sp (hi i hl)
theorem Orth.congr {p : Int} {n : Nat} {m : List (List Int)} {v u : Nat → Int} (h : Orth p n m v) (e : ∀ q, q < n → v q % p = u q % p) : Orth p n m u := fun i hi => by
 rw [← h i hi]; exact (sumTo_mod p fun q hq => cg_mul rfl (e q hq)).symm
theorem freeRow_at {p : Int} {B : List (List Int)} {n f k : Nat} (hk : k < n) : (freeRow p B n f).getD k 0 = if k = f then 1 else match ldIdx B k with | some i => (-(ent B i f)) % p | none => 0 := by
 unfold freeRow freePart
 rw [tab_getD hk]; simp <;> rfl
theorem freeRow_ld {p : Int} {B : List (List Int)} {n f i : Nat} (hR : Red n B) (hi : i < B.length) (hf : isLd B f = false) : (freeRow p B n f).getD (ld B i) 0 = (-(ent B i f)) % p := by
 rw [freeRow_at (hR.lt i hi), if_neg (fun e => by rw [isLd_iff.2 ⟨i, hi, e⟩] at hf; cases hf), ldIdx_some hR hi]
theorem freeRow_own {p : Int} {B : List (List Int)} {n f : Nat} (hf : f < n) : (freeRow p B n f).getD f 0 = 1 := by rw [freeRow_at hf, if_pos rfl]
theorem freeRow_no {p : Int} {B : List (List Int)} {n f k : Nat} (hk : k < n) (hkf : k ≠ f) (hl : isLd B k = false) : (freeRow p B n f).getD k 0 = 0 := by rw [freeRow_at hk, if_neg hkf, ldIdx_none hl]
theorem freeRow_orth {p : Int} {B : List (List Int)} {n f : Nat} (hR : Red n B) (hf : f < n) (hl : isLd B f = false) : Orth p n B fun q => (freeRow p B n f).getD q 0 := fun i hi => by
 have hne : ld B i ≠ f := fun e => by rw [isLd_iff.2 ⟨i, hi, e⟩] at hl; cases hl
 rw [sumTo_two (f := fun q => ent B i q * (freeRow p B n f).getD q 0) (ld B i) f (hR.lt i hi) hf hne (fun q hq h1 h2 => by
  cases hq' : isLd B q with
  | false => simp only [freeRow_no hq h2 hq', Int.mul_zero]
  | true =>
   obtain ⟨j, hj, rfl⟩ := isLd_iff.1 hq'
   simp only [hR.zero j i hj hi (fun e => h1 (by rw [e])), Int.zero_mul]), freeRow_ld hR hi hl, freeRow_own hf, hR.one i hi, Int.one_mul, Int.mul_one]
 refine (cg_add (cg_self _ _) rfl).trans ?_
 rw [Int.add_comm, ← Int.sub_eq_add_neg, Int.sub_self]; rfl
theorem freeTo_mem {p : Int} {B : List (List Int)} {n k : Nat} {x : List Int} : x ∈ freeTo p B n k ↔ ∃ f, f < k ∧ isLd B f = false ∧ x = freeRow p B n f := by
 unfold freeTo
 rw [List.mem_map]
 constructor
 · rintro ⟨f, hf, rfl⟩
   rw [List.mem_filter] at hf
   exact ⟨f, by simpa using hf.1, by simpa using hf.2, rfl⟩
 · rintro ⟨f, h1, h2, rfl⟩
   exact ⟨f, List.mem_filter.2 ⟨by simpa using h1, by simp [h2]⟩, rfl⟩
/-- What the free rows make is what is orthogonal to the reduced basis. -/
theorem freeTo_sp {p : Int} {B : List (List Int)} {n : Nat} (hR : Red n B) {v : Nat → Int} : Sp p n (freeTo p B n n) v ↔ Orth p n B v := by
 constructor
 · rintro ⟨c, hc⟩ i hi
   have h2 : Orth p n (freeTo p B n n) fun q => ent B i q := fun r hr => by
    have hx := List.getElem_mem hr
    obtain ⟨f, hf, hl, e⟩ := freeTo_mem.1 hx
    have := freeRow_orth (p := p) hR hf hl i hi
    rw [sumTo_congr (g := fun q => ent B i q * (freeRow p B n f).getD q 0) fun q _ => by unfold ent; rw [getD_of_lt [] hr, e, Int.mul_comm]]
    exact this
   have := h2.sp ⟨c, hc⟩
   rw [sumTo_congr (g := fun q => v q * ent B i q) fun q _ => Int.mul_comm _ _]
   exact this
 · intro h
   have hmem : Sp p n (freeTo p B n n) fun q => sumTo n fun f => if isLd B f then 0 else v f * (freeRow p B n f).getD q 0 := Sp.sum n fun f hf => by
    cases hl : isLd B f with
    | true => simp only [if_true]; exact Sp.zero _ _ _
    | false => simp only [Bool.false_eq_true, if_false]; exact (Sp.mem (freeTo_mem.2 ⟨f, hf, hl, rfl⟩)).mul (v f)
   refine hmem.congr fun q hq => ?_
   cases hl : isLd B q with
   | false =>
    rw [sumTo_one (f := fun f => if isLd B f then 0 else v f * (freeRow p B n f).getD q 0) q hq (fun f hf hfq => by
     cases hlf : isLd B f with
     | true => simp
     | false => simp only [Bool.false_eq_true, if_false, freeRow_no hq (Ne.symm hfq) hl, Int.mul_zero])]
    simp only [hl, Bool.false_eq_true, if_false, freeRow_own hq, Int.mul_one]
   | true =>
    obtain ⟨i, hi, rfl⟩ := isLd_iff.1 hl
    have ho := h i hi
    have e1 : (sumTo n fun f => ent B i f * v f) % p = (sumTo n fun f => (if f = ld B i then v f else 0) + (-1) * (if isLd B f then 0 else v f * (freeRow p B n f).getD (ld B i) 0)) % p := by
     refine sumTo_mod p fun f hf => ?_
     cases hlf : isLd B f with
     | true =>
      obtain ⟨j, hj, rfl⟩ := isLd_iff.1 hlf
      simp only [if_true, Int.mul_zero, Int.add_zero]
      by_cases hji : j = i
      · subst hji; rw [if_pos rfl, hR.one j hj, Int.one_mul]
      · rw [if_neg (fun e => hji (hR.inj hj hi e)), hR.zero j i hj hi (Ne.symm hji), Int.zero_mul]
     | false =>
      have hne : f ≠ ld B i := fun e => by rw [e, hl] at hlf; cases hlf
      simp only [Bool.false_eq_true, if_false, if_neg hne, Int.zero_add, freeRow_ld hR hi hlf]
      have : -1 * (v f * (-(ent B i f) % p)) % p = -1 * (v f * (-(ent B i f))) % p := cg_mul rfl (cg_mul rfl (cg_self _ _))
      rw [this]; congr 1
      rw [Int.mul_neg, Int.neg_mul, Int.one_mul, Int.neg_neg, Int.mul_comm]
    rw [e1, sumTo_add, sumTo_mul, sumTo_one (f := fun f => if f = ld B i then v f else 0) (ld B i) hq (fun f _ hf => if_neg hf), if_pos rfl] at ho
    obtain ⟨S, hS⟩ : ∃ S, S = sumTo n fun f => if isLd B f then 0 else v f * (freeRow p B n f).getD (ld B i) 0 := ⟨_, rfl⟩
    rw [← hS] at ho ⊢
    have := cg_add (ho.trans (Int.zero_emod p).symm) (show S % p = S % p from rfl)
    rw [Int.zero_add] at this
    rw [← this]; congr 1; omega
theorem kernL_sp {p : Int} (hP : isP p = true) {n : Nat} {m : List (List Int)} (hT : Tab p n m) {v : Nat → Int} : Sp p n (kernL p m n) v ↔ Orth p n m v := by
 have hp : 2 ≤ p := by have := isP_ge hP; omega
 obtain ⟨a1, a2⟩ := basisL_in hP m hT
 obtain ⟨b1, b2⟩ := basisL_in hP _ (freeTo_tab (p := p) hp (basisL p m) n n)
 constructor
 · exact fun h => ((freeTo_sp (basisL_red hP m hT)).1 (b1.sp h)).of_in a2
 · exact fun h => b2.sp ((freeTo_sp (basisL_red hP m hT)).2 (h.of_in a1))
theorem transL_row {m : List (List Int)} {n q : Nat} {p : Int} (hT : Tab p n m) (h0 : 0 < m.length) (hq : q < n) : (transL m).getD q [] = tab m.length fun i => ent m i q := by
 unfold transL
 rw [row0_len hT h0, tab_getD hq]
end Go.Proofs.YtaiegpggccdgoaaGreat
namespace Go.Proofs.YtaiegpggccdgoaaGreat
open Go.RowKit
set_option maxHeartbeats 800000 in
set_option maxRecDepth 8000 in
theorem apply_any (p : Int) (A : Option Addr) (n c : Nat) (M : List (List Int)) (B : Option Addr) (m d : Nat) (v : List Int) (w : World) (hp : 2 ≤ p) (hp2 : p ≤ 13) (hn : n ≤ 65536) (hm : m ≤ 65536) (ha : RdII w A n M) (hM : Tab p m M) (hb : Rd w B m (ints v)) (hv : NumsL p v) :
    Calls Tryz.prog 80 #[.int .i64 p, .slice A n c, .slice B m d] w fun e w' => ∃ A' c', e = .returned (.slice A' n c') ∧ MkI w w' A' n c' (applyL p M v) := by
 have HL := Lib.hid ha.len
 have HT := Lib.hid hM
 have hM0 := Mk.lit (E := 2) (Below.refl w.heap.size w) #[] (by simp)
 clear hM
 go_enter Tryz.func80, Tryz.ntmps80
 go_wp2
 go_loopw [7, 9, 13] (fun out _ i wr => ∃ (j : Nat) (A' : Option Addr) (c' : Nat), j ≤ n ∧ i = .int .i64 j ∧ out = .slice A' j c' ∧ MkI w wr A' j c' (tab j fun i => dotL p (M.getD i []) v)) (fun _ _ i _ => n - (intOf i).toNat)
 case atStart => exact ⟨0, _, _, by omega, rfl, rfl, by simpa [MkI, ints, tab] using hM0⟩
 case round =>
  obtain ⟨j, A', c', hj, rfl, rfl, hM⟩ := hrel
  clear hM0
  by_cases hlt : j < n
  · obtain ⟨g, o, rfl, hxj, A1, c1, hcx, hr1, _⟩ := (ha.below hM.b).at_ hlt
    have HRow := Lib.hid (HT.out M[j] (List.getElem_mem hxj))
    have hle : M[j].length ≤ m := by rw [HRow.out.1]; exact Nat.le_refl _
    have hle2 : M[j].length ≤ 65536 := by omega
    have HV : Hid ((tab (j + 1) fun i => dotL p (M.getD i []) v) = (tab j fun i => dotL p (M.getD i []) v) ++ [dotL p M[j] v]) := Lib.hid (by rw [tab_succ, getD_of_lt [] hxj])
    have hdot := fun w' (hb' : Below wr.heap.size wr w') => dot_any p A1 M[j].length c1 B m d M[j] v w' hp hp2 hle2 hle (hr1.below hb') HRow.out.2 (hb.below (hM.b.trans (hb'.mono hM.b.size))) hv
    have HM := Lib.hid hM
    clear ha hM
    go_wp2_with (first
     | (go_at_call 68; refine (hdot _ zG).mono ?_; rintro e w' ⟨rfl, rfl⟩)
     | (at_builtin; refine wpList_app1 w _ 24 2 _ _ Tryz.underlying24 info_i rfl (by omega) rfl _ _ rfl A' j c' _ _ HM.out (by omega) rfl rfl rfl ?_; intro A2 c2 w2 hM2 _ _))
    go_roundw
    case rel => exact ⟨j + 1, A2, c2, by omega, by go_num, rfl, by rw [HV.out]; simpa [MkI, ints] using hM2⟩
    case measure => simp [intOf]; omega
  · go_wp2
    go_ret
    obtain rfl : j = n := by omega
    exact ⟨_, _, rfl, by unfold applyL; rw [HL.out]; exact hM⟩
end Go.Proofs.YtaiegpggccdgoaaGreat
namespace Go.Proofs.YtaiegpggccdgoaaGreat
/-- 1 or -1: the sign of a number of exchanges. -/
def sg (k : Nat) : Int := if k % 2 = 1 then -1 else 1
/-- The product of the first i squares that both masks have, as an integer. -/
def comZ (sq : List Int) (a b : Nat) : Nat → Int
 | 0 => 1
 | i + 1 => comZ sq a b i * (if bit b i = 1 ∧ bit a i = 1 then sq.getD i 0 else 1)
/-- The number by which the product of two blades is that of their different bits, as an integer. -/
def facZ (sq : List Int) (a b : Nat) : Int := sg (swaps a b sq.length) * comZ sq a b sq.length
theorem xor_self_right (a b : Nat) : (b ^^^ a) ^^^ a = b := by rw [Nat.xor_assoc, Nat.xor_self, Nat.xor_zero]
theorem sumTo_xor {n : Nat} (f : Nat → Int) {c : Nat} (hc : c < pw n) : sumTo (pw n) f = sumTo (pw n) fun a => f (a ^^^ c) := by
 have h : ∀ b, b < pw n → f b = sumTo (pw n) fun a => if a ^^^ c = b then f b else 0 := fun b hb => by
  rw [sumTo_one (b ^^^ c) (xor_lt hb hc) fun i _ hne => if_neg fun e => hne (by rw [← e, xor_self_right]), if_pos (xor_self_right c b)]
 rw [sumTo_congr h, sumTo_comm]
 refine sumTo_congr fun a ha => ?_
 rw [sumTo_one (a ^^^ c) (xor_lt ha hc) fun i _ hne => if_neg fun e => hne e.symm, if_pos rfl]
theorem sumTo_mul_right (n : Nat) (f : Nat → Int) (c : Int) : sumTo n (fun i => f i * c) = sumTo n f * c := by
 rw [Int.mul_comm, ← sumTo_mul]
 exact sumTo_congr fun i _ => Int.mul_comm _ _
/-- The product of multivectors over the integers, at place m. -/
def mulZ (sq : List Int) (x y : Nat → Int) (m : Nat) : Int := sumTo (pw sq.length) fun a => x a * y (a ^^^ m) * facZ sq a (a ^^^ m)
structure Cl (p : Int) (sq : List Int) where
 l : List Int
 len : l.length = pw sq.length
 nums : NumsL p l
 pos : 0 < p
section
variable {p : Int} {sq : List Int}
/-- The number at a place. -/
def Cl.co (x : Cl p sq) (m : Nat) : Int := x.l.getD m 0
theorem Cl.ext {x y : Cl p sq} (h : x.l = y.l) : x = y := by
 cases x; cases y; cases h; rfl
theorem Cl.co_small (x : Cl p sq) (m : Nat) : 0 ≤ x.co m ∧ x.co m < p := x.nums.getD x.pos m
theorem Cl.co_mod (x : Cl p sq) (m : Nat) : x.co m % p = x.co m := Int.emod_eq_of_lt (x.co_small m).1 (x.co_small m).2
theorem Cl.same {x y : Cl p sq} (h : ∀ m, m < pw sq.length → x.co m % p = y.co m % p) : x = y := by
 refine Cl.ext (list_ext_getD 0 (by rw [x.len, y.len]) fun m hm => ?_)
 have := h m (by rw [← x.len]; exact hm)
 rwa [x.co_mod, y.co_mod] at this
/-- The multivector with these numbers. -/
def Cl.of (hp : 0 < p) (f : Nat → Int) : Cl p sq := ⟨tab (pw sq.length) fun m => f m % p, tab_len _ _, NumsL.tab fun _ _ => ⟨Int.emod_nonneg _ (by omega), Int.emod_lt_of_pos _ hp⟩, hp⟩
theorem Cl.of_co (hp : 0 < p) (f : Nat → Int) {m : Nat} (hm : m < pw sq.length) : (Cl.of hp f : Cl p sq).co m = f m % p := tab_getD hm 0
theorem Cl.of_cg (hp : 0 < p) (f : Nat → Int) {m : Nat} (hm : m < pw sq.length) : (Cl.of hp f : Cl p sq).co m % p = f m % p := by rw [Cl.of_co hp f hm, Int.emod_emod_of_dvd _ (Int.dvd_refl p)]
instance : Mul (Cl p sq) := ⟨fun x y => Cl.of x.pos (mulZ sq x.co y.co)⟩
instance : Add (Cl p sq) := ⟨fun x y => Cl.of x.pos fun m => x.co m + y.co m⟩
instance : Neg (Cl p sq) := ⟨fun x => Cl.of x.pos fun m => -(x.co m)⟩
instance : HMul Int (Cl p sq) (Cl p sq) := ⟨fun k x => Cl.of x.pos fun m => k * x.co m⟩
theorem Cl.add_co (x y : Cl p sq) {m : Nat} (hm : m < pw sq.length) : (x + y).co m % p = (x.co m + y.co m) % p := Cl.of_cg _ _ hm
theorem Cl.add_comm (x y : Cl p sq) : x + y = y + x := Cl.same fun m hm => by rw [Cl.add_co _ _ hm, Cl.add_co _ _ hm, Int.add_comm]
theorem Cl.add_assoc (x y z : Cl p sq) : x + y + z = x + (y + z) := Cl.same fun m hm => by
 rw [Cl.add_co _ _ hm, Cl.add_co _ _ hm, Int.add_emod, Cl.add_co _ _ hm, ← Int.add_emod, Int.add_emod (x.co m), Cl.add_co _ _ hm, ← Int.add_emod, Int.add_assoc]
/-- The numbers of a list, and no more than there are places. -/
def Cl.zero (hp : 0 < p) : Cl p sq := Cl.of hp fun _ => 0
/-- The multivector 1. -/
def Cl.one (hp : 0 < p) : Cl p sq := Cl.of hp fun m => if m = 0 then 1 else 0
end
theorem inv_mod {p a : Int} (hP : isP p = true) (h : a % p ≠ 0) : a * invF p (a % p) % p = 1 := by
 have h3 := (isP_ge hP).1
 have h1 := Int.emod_nonneg a (show p ≠ 0 by omega)
 have h2 := Int.emod_lt_of_pos a (show 0 < p by omega)
 have hs := inv_spec hP (show 0 < a % p by omega) h2
 have := (hs.2.2 (invF p (a % p)) (by omega) hs.2.1).2 rfl
 rw [Int.mul_emod, Int.emod_emod_of_dvd _ (Int.dvd_refl p)] at this
 rw [Int.mul_emod]
 exact this
section
variable {p : Int} {sq : List Int}
end
section
variable {p : Int} {sq : List Int}
/-- A vector is a sum of multiples of unit vectors. -/
def Cl.sum (hp : 0 < p) : Nat → (Nat → Cl p sq) → Cl p sq
 | 0, _ => Cl.zero hp
 | n + 1, f => Cl.sum hp n f + f n
end
section
variable {p : Int} {sq : List Int}
instance : Std.Associative (α := Cl p sq) (· + ·) := ⟨Cl.add_assoc⟩
instance : Std.Commutative (α := Cl p sq) (· + ·) := ⟨Cl.add_comm⟩
end
end Go.Proofs.YtaiegpggccdgoaaGreat
namespace Go.Proofs.YtaiegpggccdgoaaGreat
open Go.RowKit
set_option maxHeartbeats 1600000 in
set_option maxRecDepth 8000 in
theorem timesM_any (p : Int) (A : Option Addr) (n c : Nat) (M : List (List Int)) (B : Option Addr) (d : Nat) (N : List (List Int)) (w : World) (hp : 2 ≤ p) (hp2 : p ≤ 13) (h0 : 0 < n) (hn : n ≤ 65536) (ha : RdII w A n M) (hM : Tab p n M) (hb : RdII w B n N) (hN : Tab p n N) :
    Calls Tryz.prog 115 #[.int .i64 p, .slice A n c, .slice B n d] w fun e w' => ∃ A' c', e = .returned (.slice A' n c') ∧ MkII w w' A' n c' (timesM p M N) := by
 have HT := Lib.hid hM
 have HL := Lib.hid ha.len
 have HTT : Hid (Tab p n (transL N)) := Lib.hid (by have := transL_tab (show 0 < p by omega) hN; rwa [hb.len] at this)
 have hcall := transpose_any p B n d N n w h0 hn hn hb hN
 clear hM hN hb
 go_enter Tryz.func115, Tryz.ntmps115
 go_wp2_with fail
 refine hcall.mono ?_
 rintro e w1 ⟨T, cT, rfl, hT1⟩
 have hM0 : MkII w1 (w1.alloc (.cells #[] 24)) (some ⟨w1.heap.size, 0, none⟩) 0 0 [] := MkII.empty zG
 have HB1 := Lib.hid hT1.b
 have ha1 := ha.below hT1.b
 have hTr := hT1.rd
 clear hcall hT1 ha
 go_wp2
 go_loopw [8, 16] (fun out i wr => ∃ (k : Nat) (A' : Option Addr) (c' : Nat), k ≤ n ∧ i = .int .i64 k ∧ out = .slice A' k c' ∧ MkII w1 wr A' k c' (tab k fun i => applyL p (transL N) (M.getD i []))) (fun _ i _ => n - (intOf i).toNat)
 case atStart => exact ⟨0, _, _, by omega, rfl, rfl, by simpa [tab] using hM0⟩
 case round =>
  obtain ⟨k, A', c', hk, rfl, rfl, hM⟩ := hrel
  clear hM0
  by_cases hlt : k < n
  · obtain ⟨g, o, rfl, hxk, A1, c1, hcx, hr1, _⟩ := (ha1.below hM.b).at_ hlt
    obtain ⟨hl1, hn1⟩ := HT.out M[k] (List.getElem_mem hxk)
    rw [hl1] at hcx hr1
    have hap := apply_any p T n cT (transL N) A1 n c1 M[k] wr hp hp2 hn hn (hTr.below hM.b) HTT.out hr1 hn1
    have HV : Hid ((tab (k + 1) fun i => applyL p (transL N) (M.getD i [])) = (tab k fun i => applyL p (transL N) (M.getD i [])) ++ [applyL p (transL N) M[k]]) := Lib.hid (by rw [tab_succ, getD_of_lt [] hxk])
    have HM := Lib.hid hM
    clear hM hr1 hl1 hn1 hTr ha1
    go_wp2_with fail
    refine hap.mono ?_
    rintro e w5 ⟨A5, c5, rfl, hM5⟩
    clear hap
    go_wp2_with (at_builtin; refine wpList_appRow w1 wr _ rfl _ _ rfl A' k c' _ A5 n c5 _ HM.out hM5 (by omega) rfl ?_ ?_; (go_simp); intro A6 c6 w6 hM6)
    go_roundw
    case rel => exact ⟨k + 1, A6, c6, by omega, by go_num, rfl, by rw [HV.out]; exact hM6⟩
    case measure => simp [intOf]; omega
  · obtain rfl : k = n := by omega
    go_wp2
    go_ret
    exact ⟨_, _, rfl, by unfold timesM; rw [HL.out]; exact hM.after HB1.out⟩
theorem dotL_small {p : Int} (hp : 0 < p) (a b : List Int) : 0 ≤ dotL p a b ∧ dotL p a b < p := ⟨Int.emod_nonneg _ (by omega), Int.emod_lt_of_pos _ hp⟩
theorem timesM_tab {p : Int} {n : Nat} {M N : List (List Int)} (hp : 0 < p) (h0 : 0 < n) (hN : Tab p n N) (hNl : N.length = n) : Tab p n (timesM p M N) :=
 Tab.tab fun _ _ => ⟨by unfold applyL; rw [tab_len, transL_len hN (by omega)], NumsL.tab fun _ _ => dotL_small hp _ _⟩
theorem timesM_len (p : Int) (M N : List (List Int)) : (timesM p M N).length = M.length := tab_len _ _
end Go.Proofs.YtaiegpggccdgoaaGreat
namespace Go.Proofs.YtaiegpggccdgoaaGreat
section
variable {p : Int} {sq : List Int}
/-- The multivector with 1 at one place. -/
def Cl.at_ (hp : 0 < p) (m : Nat) : Cl p sq := Cl.of hp fun q => if q = m then 1 else 0
end
/-- All squares 0. -/
abbrev zs (n : Nat) : List Int := List.replicate n 0
section
variable {p : Int} {n : Nat}
end
/-- Rows none of which is a sum of multiples of others. -/
def Ind (p : Int) (n : Nat) (L : List (List Int)) : Prop := ∀ c : Nat → Int, (∀ q, q < n → (sumTo L.length fun i => c i * ent L i q) % p = 0) → ∀ i, i < L.length → c i % p = 0
section
variable {p : Int} {n : Nat}
theorem Red.ind {B : List (List Int)} (hR : Red n B) : Ind p n B := fun c hc i hi => by
 have h := hc _ (hR.lt i hi)
 rwa [sumTo_one (f := fun j => c j * ent B j (ld B i)) i hi (fun j hj hne => by rw [hR.zero i j hi hj hne, Int.mul_zero]), hR.one i hi, Int.mul_one] at h
/-- Leads that fill the first places. -/
theorem Red.fills {B : List (List Int)} (hR : Red n B) {N : Nat} (h : ∀ f, f < N → isLd B f = true) : N ≤ B.length := by
 have key : ∀ f, f < N → ∃ i, i < B.length ∧ ld B i = f ∧ f ≤ i := by
  intro f
  induction f with
  | zero => intro h0; obtain ⟨i, hi, e⟩ := isLd_iff.1 (h 0 h0); exact ⟨i, hi, e, Nat.zero_le _⟩
  | succ f ih =>
   intro hf
   obtain ⟨i, hi, e, hle⟩ := ih (by omega)
   obtain ⟨j, hj, e2⟩ := isLd_iff.1 (h (f + 1) hf)
   refine ⟨j, hj, e2, ?_⟩
   rcases Nat.lt_trichotomy i j with hl | hl | hl
   · omega
   · subst hl; omega
   · have := hR.mono j i hl hi; omega
 rcases Nat.eq_zero_or_pos N with rfl | hN
 · exact Nat.zero_le _
 · obtain ⟨i, hi, -, hle⟩ := key (N - 1) (by omega)
   omega
/-- Independent vectors that others make are no more than these. -/
theorem Ind.le (hP : isP p = true) {L M : List (List Int)} (hI : Ind p n L) (hS : InSp p n L M) : L.length ≤ M.length := by
 have hp : 2 ≤ p := by have := isP_ge hP; omega
 refine Classical.byContradiction fun hlt => ?_
 have hch : ∀ i, ∃ a : Nat → Int, i < L.length → ∀ q, q < n → ent L i q % p = (sumTo M.length fun j => a j * ent M j q) % p := fun i => by
  by_cases hi : i < L.length
  · obtain ⟨a, ha⟩ := hS i hi; exact ⟨a, fun _ => ha⟩
  · exact ⟨fun _ => 0, fun h => absurd h hi⟩
 obtain ⟨a, ha⟩ := Classical.axiomOfChoice hch
 obtain ⟨A, hA⟩ : ∃ A : List (List Int), A = tab M.length fun j => tab L.length fun i => a i j % p := ⟨_, rfl⟩
 have hAl : A.length = M.length := by rw [hA, tab_len]
 have hAT : Tab p L.length A := by
  rw [hA]
  exact Tab.tab fun j _ => ⟨tab_len _ _, NumsL.tab fun i _ => ⟨Int.emod_nonneg _ (by omega), Int.emod_lt_of_pos _ (by omega)⟩⟩
 have hAe : ∀ j i, j < M.length → i < L.length → ent A j i = a i j % p := fun j i hj hi => by
  unfold ent; rw [hA, tab_getD hj, tab_getD hi]
 have hR := basisL_red hP A hAT
 have hRl := (basisL_len (p := p) (by omega) A hAT).2
 have hf : ∃ f, f < L.length ∧ isLd (basisL p A) f = false := Classical.byContradiction fun hno => by
  have := hR.fills (N := L.length) fun f hf => by
   cases e : isLd (basisL p A) f
   · exact absurd ⟨f, hf, e⟩ hno
   · rfl
  omega
 obtain ⟨f, hf, hfl⟩ := hf
 have ho := (freeRow_orth (p := p) hR hf hfl).of_in (basisL_in hP A hAT).2
 obtain ⟨c, hc⟩ : ∃ c : Nat → Int, c = fun q => (freeRow p (basisL p A) L.length f).getD q 0 := ⟨_, rfl⟩
 have h0 := hI c (fun q hq => by
  have e1 : (sumTo L.length fun i => c i * ent L i q) % p = (sumTo L.length fun i => c i * sumTo M.length fun j => a i j * ent M j q) % p := sumTo_mod p fun i hi => cg_mul rfl (ha i hi q hq)
  rw [e1, sumTo_congr (g := fun i => sumTo M.length fun j => c i * (a i j * ent M j q)) fun i _ => (sumTo_mul _ _ _).symm, sumTo_comm]
  refine (sumTo_mod p (g := fun _ => 0) fun j hj => ?_).trans (by rw [sumTo_zero fun _ _ => rfl]; rfl)
  have h1 := ho j (by omega)
  have e2 : (sumTo L.length fun i => c i * (a i j * ent M j q)) = ent M j q * sumTo L.length fun i => a i j * c i := by
   rw [← sumTo_mul]; exact sumTo_congr fun i _ => by rw [← Int.mul_assoc, Int.mul_comm (ent M j q), Int.mul_comm (c i)]
  rw [e2]
  have e3 : (sumTo L.length fun i => a i j * c i) % p = (sumTo L.length fun q => ent A j q * (freeRow p (basisL p A) L.length f).getD q 0) % p := sumTo_mod p fun i hi => by
   rw [hAe j i hj hi, hc]; exact cg_mul (cg_self _ _).symm rfl
  exact (cg_mul rfl (e3.trans h1)).trans (by rw [Int.mul_zero])) f hf
 rw [hc] at h0
 simp only [freeRow_own (p := p) (B := basisL p A) hf] at h0
 rw [Int.emod_eq_of_lt (by omega) (by omega)] at h0
 exact absurd h0 (by decide)
theorem Ind.same (hP : isP p = true) {L M : List (List Int)} (hL : Ind p n L) (hM : Ind p n M) (h1 : InSp p n L M) (h2 : InSp p n M L) : L.length = M.length :=
 Nat.le_antisymm (hL.le hP h1) (hM.le hP h2)
end
section
variable {p : Int} {n : Nat}
theorem applyL_nums (hp : 0 < p) (a : List (List Int)) (v : List Int) : NumsL p (applyL p a v) := NumsL.tab fun i _ => by
 unfold dotL
 exact ⟨Int.emod_nonneg _ (by omega), Int.emod_lt_of_pos _ hp⟩
end
section
variable {p : Int} {n : Nat}
theorem mat_ext {a b : List (List Int)} (ha : Tab p n a) (hb : Tab p n b) (h : a.length = b.length) (he : ∀ i q, i < a.length → q < n → ent a i q = ent b i q) : a = b := by
 refine list_ext_getD [] h fun i hi => ?_
 have h1 := ha.row hi
 have h2 := hb.row (show i < b.length by omega)
 refine list_ext_getD 0 (by rw [h1.1, h2.1]) fun q hq => ?_
 rw [h1.1] at hq
 exact he i q hi hq
end
/-- Matrices with n rows and columns of numbers. -/
structure Mt (p : Int) (n : Nat) where
 l : List (List Int)
 len : l.length = n
 tab : Tab p n l
 pos : 0 < p
section
variable {p : Int} {n : Nat}
def Mt.at (x : Mt p n) (i j : Nat) : Int := ent x.l i j
theorem Mt.ext {x y : Mt p n} (h : x.l = y.l) : x = y := by
 cases x; cases y; simp only at h; subst h; rfl
theorem Mt.small (x : Mt p n) (i j : Nat) : 0 ≤ x.at i j ∧ x.at i j < p := x.tab.ent x.pos i j
theorem Mt.same {x y : Mt p n} (h : ∀ i j, i < n → j < n → x.at i j % p = y.at i j % p) : x = y := Mt.ext (mat_ext x.tab y.tab (x.len.trans y.len.symm) fun i q hi hq => by
 rw [x.len] at hi
 exact cg_eq (x.small i q) (y.small i q) (h i q hi hq))
def Mt.of (hp : 0 < p) (f : Nat → Nat → Int) : Mt p n := ⟨Go.Proofs.YtaiegpggccdgoaaGreat.tab n fun i => Go.Proofs.YtaiegpggccdgoaaGreat.tab n fun j => f i j % p, tab_len _ _, Tab.tab fun i _ => ⟨tab_len _ _, NumsL.tab fun j _ => ⟨Int.emod_nonneg _ (by omega), Int.emod_lt_of_pos _ hp⟩⟩, hp⟩
theorem Mt.of_at (hp : 0 < p) (f : Nat → Nat → Int) {i j : Nat} (hi : i < n) (hj : j < n) : (Mt.of hp f : Mt p n).at i j = f i j % p := by
 show ((Go.Proofs.YtaiegpggccdgoaaGreat.tab n fun i => Go.Proofs.YtaiegpggccdgoaaGreat.tab n fun j => f i j % p).getD i []).getD j 0 = _
 rw [tab_getD hi, tab_getD hj]
theorem Mt.of_cg (hp : 0 < p) (f : Nat → Nat → Int) {i j : Nat} (hi : i < n) (hj : j < n) : (Mt.of hp f : Mt p n).at i j % p = f i j % p := by rw [Mt.of_at hp f hi hj, cg_self]
instance : Mul (Mt p n) := ⟨fun x y => Mt.of x.pos fun i j => sumTo n fun k => x.at i k * y.at k j⟩
instance : Add (Mt p n) := ⟨fun x y => Mt.of x.pos fun i j => x.at i j + y.at i j⟩
instance : HMul Int (Mt p n) (Mt p n) := ⟨fun k x => Mt.of x.pos fun i j => k * x.at i j⟩
def Mt.one (hp : 0 < p) : Mt p n := Mt.of hp fun i j => if i = j then 1 else 0
theorem Mt.add_at (x y : Mt p n) {i j : Nat} (hi : i < n) (hj : j < n) : (x + y).at i j % p = (x.at i j + y.at i j) % p := Mt.of_cg x.pos _ hi hj
theorem Mt.add_comm (x y : Mt p n) : x + y = y + x := Mt.same fun i j hi hj => by rw [Mt.add_at _ _ hi hj, Mt.add_at _ _ hi hj, Int.add_comm]
theorem Mt.add_assoc (x y z : Mt p n) : x + y + z = x + (y + z) := Mt.same fun i j hi hj => by
 rw [Mt.add_at _ _ hi hj, Mt.add_at _ _ hi hj, cg_add (Mt.add_at x y hi hj) rfl, cg_add (rfl : x.at i j % p = x.at i j % p) (Mt.add_at y z hi hj), Int.add_assoc]
end
section
variable {p : Int} {n : Nat}
instance : Std.Associative (α := Mt p n) (· + ·) := ⟨Mt.add_assoc⟩
instance : Std.Commutative (α := Mt p n) (· + ·) := ⟨Mt.add_comm⟩
end
end Go.Proofs.YtaiegpggccdgoaaGreat
namespace Go.Proofs.YtaiegpggccdgoaaGreat
open Go.RowKit
section
variable {P : Program}
/-- A whole list is appended to a row of the call's own. -/
theorem wpList_appAll {ops : Array Oper} {rest : List Oper} {o : Oper} {a : Act} {Q : Exit → Act → World → Prop} (w0 wr : World)
    (hgd : o.guard = none) (s x : Operand) (ho : o.op = .call { callee := .builtin .append, args := #[s, x], argTypes := #[24, 24] })
    (A : Option Addr) (n c : Nat) (xs : List Int) (B : Option Addr) (m d : Nat) (ys : List Int) (hM : MkI w0 wr A n c xs) (hY : Rd wr B m (ints ys)) (h0 : 0 < m) (hn : n ≤ 65536) (hm : m ≤ 65536)
    (hs : a.eval s = .slice A n c) (hx : a.eval x = .slice B m d)
    (h : ∀ A' c' w', MkI w0 w' A' (n + m) c' (xs ++ ys) → wr.grownBy w' (Value.slice A n c).ownBlock → wpList Tryz.prog ops Q rest (a.put o.dst (.slice A' (n + m) c')) w') :
    wpList Tryz.prog ops Q (o :: rest) a wr := by
 obtain ⟨i, hi, h1, h2, h3⟩ := info_parts info_i
 obtain ⟨b1, b2⟩ := bound_of (show n + m ≤ 1099511627776 by omega)
 have hyl : ys.length = m := by have := hY.1; rwa [ints_length] at this
 obtain ⟨g, o', rfl, hc⟩ := hY.2 h0
 refine wpList_append_own_at wr hgd s x 24 ho w0.heap.size 2 i _ 1 8 Tryz.underlying24 hi h1 h2 h3 rfl (by omega) (.slice A n c) n (ints xs) hs hM.2 ⟨g, o', none⟩ m d (ints ys) hx (by rw [ints_length, hyl, Nat.mul_one]) (fun j u hu => by rw [Addr.add_lit]; exact hc j u hu) (by intro u hu; obtain ⟨y, _, rfl⟩ := List.mem_map.1 hu; rfl) (by simp only [maxLen]; omega) (by have := b2 8 (by omega); omega) hM.1.size ?_
 intro v' w' hown hg _ _
 have hb' : Below w0.heap.size w0 w' := hM.1.grown hg hM.1.size (fun k hk => (hM.2.lt k hk).1)
 have e : ints xs ++ ints ys = ints (xs ++ ys) := by unfold ints; rw [List.map_append]
 rw [e] at hown
 rcases hown.2 with ⟨_, h0⟩ | ⟨g, cap, cur, rfl, hr⟩
 · omega
 · exact h _ _ _ ⟨hb', hown⟩ hg
end
def CK (w w' : World) : Prop := ∀ b i u, w.cell? ⟨b, i, none⟩ = some u → w'.cell? ⟨b, i, none⟩ = some u
theorem CK.refl (w : World) : CK w w := fun _ _ _ h => h
theorem Rd.ck {w w' : World} {A : Option Addr} {n : Nat} {us : List Value} (h : Rd w A n us) (k : CK w w') : Rd w' A n us := ⟨h.1, fun hn => by
 obtain ⟨g, o, e, hc⟩ := h.2 hn
 exact ⟨g, o, e, fun j u hu => k _ _ _ (hc j u hu)⟩⟩
theorem RdII.ck {w w' : World} {A : Option Addr} {n : Nat} {xss : List (List Int)} (h : RdII w A n xss) (k : CK w w') : RdII w' A n xss := by
 obtain ⟨rows, hr, hl, hk⟩ := h
 exact ⟨rows, hr.ck k, hl, fun j hj => by obtain ⟨A', c', e, h1, h2⟩ := hk j hj; exact ⟨A', c', e, h1.ck k, h2⟩⟩
theorem Rd.cut {w : World} {A : Option Addr} {n k : Nat} {us : List Value} (h : Rd w A n us) (hk : k ≤ n) : Rd w A k (us.take k) := ⟨by rw [List.length_take, h.1]; omega, fun hn => by
 obtain ⟨g, o, e, hc⟩ := h.2 (by omega)
 exact ⟨g, o, e, fun j u hu => hc j u (by
  rw [List.getElem?_take] at hu
  split at hu
  · exact hu
  · cases hu)⟩⟩
/-- A row that grows; it began as the empty block g; what lay in w is as it was. -/
def Grows (w wr : World) (g : Nat) (v : Value) : Prop := CK w wr ∧ w.heap.size ≤ wr.heap.size ∧ ∀ gb, v.ownBlock = some gb → gb = g ∨ w.heap.size ≤ gb
theorem Grows.step {w wr v1 w' : World} {g : Nat} {T : TypeId} {A A' : Option Addr} {n c n' c' : Nat} (h : Grows w wr g (.slice A n c)) (he : Blk w g T #[]) (hb : Below wr.heap.size wr v1) (hg : v1.grownBy w' (Value.slice A n c).ownBlock)
    (hat : ∃ g', A' = some ⟨g', 0, none⟩ ∧ ((Value.slice A n c).ownBlock = some g' ∨ v1.heap.size ≤ g')) : Grows w w' g (.slice A' n' c') := by
 obtain ⟨h1, h2, h3⟩ := h
 refine ⟨fun b i u hu => ?_, by have := hb.size; have := hg.size; omega, fun gb hgb => ?_⟩
 · refine hg.cell ((hb.cell (World.block_lt_of_cell? _ _ (h1 b i u hu))).trans (h1 b i u hu)) fun e => ?_
   rcases h3 b e.symm with rfl | hge
   · rw [he.cell] at hu; simp at hu
   · have hlt : b < w.heap.size := World.block_lt_of_cell? _ _ hu
     omega
 · obtain ⟨g', rfl, hor⟩ := hat
   simp only [Value.ownBlock, Option.some.injEq] at hgb
   subst hgb
   rcases hor with hor | hor
   · exact h3 _ hor
   · right; have := hb.size; omega
theorem ints_take (xs : List Int) (k : Nat) : (ints xs).take k = ints (xs.take k) := by unfold ints; rw [List.map_take]
end Go.Proofs.YtaiegpggccdgoaaGreat

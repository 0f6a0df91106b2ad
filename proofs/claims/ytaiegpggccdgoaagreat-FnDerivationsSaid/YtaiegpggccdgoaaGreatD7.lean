/-
  LawFnDerivations: part 7 of the texts that the proof needs. No condition.
-/
import Derived.Test.YtaiegpggccdgoaaGreatD6
namespace Go.Proofs.YtaiegpggccdgoaaGreat
open Go Go.RowKit
/-- A row that lies there is appended: the operation alone. -/
theorem wp_appRowO {o : Oper} {a : Act} {K : Act → World → Prop} {Q : Exit → Act → World → Prop} (w0 w1 : World)
    (s x : Operand) (ho : o.op = .call { callee := .builtin .append, args := #[s, x], argTypes := #[32, 32] })
    (A : Option Addr) (n c : Nat) (xss : List (List Int)) (A1 : Option Addr) (m c1 : Nat) (xs : List Int) (hM : MkO w0 w1 A n c xss) (hr : Own w1 0 2 A1 m c1 (ints xs)) (hn : n ≤ 1099511627776) (g : Nat) (hB : Blk w1 g 24 #[.slice A1 m c1])
    (hs : a.eval s = .slice A n c) (hx : a.eval x = .slice (some ⟨g, 0, none⟩) 1 1)
    (h : ∀ A' c' w', MkO w0 w' A' (n + 1) c' (xss ++ [xs]) → w1.grownBy w' (Value.slice A n c).ownBlock → (∃ g, A' = some ⟨g, 0, none⟩ ∧ ((Value.slice A n c).ownBlock = some g ∨ w1.heap.size ≤ g)) → K (a.put o.dst (.slice A' (n + 1) c')) w') : o.wp Tryz.prog a w1 K Q := by
 obtain ⟨rows, hm1, hl, hrow⟩ := hM
 have hml : xs.length = m := by have := hr.len; rwa [ints_length] at this
 subst hml
 obtain ⟨i, hi, h1, h2, h3⟩ := info_parts info_s
 obtain ⟨b1, b2⟩ := bound_of hn
 refine wp_append_lies w1 s x 32 ho w0.heap.size 24 i (.slice none 0 0) 1 24 Tryz.underlying32 hi h1 h2 h3 rfl (by omega) (.slice A n c) n rows hs hm1.2 ⟨g, 0, none⟩ 1 1 [.slice A1 xs.length c1] hx rfl (fun j v hv => ?_)
  (by intro v hv; simp at hv; rw [hv]; rfl) (by omega) b1 (b2 _ (by omega)) hm1.1.size _ rfl (fun g' cap w' hown hg hat _ => h _ _ _ ⟨_, ⟨hm1.1.grown hg hm1.1.size (fun k hk => (hm1.2.lt k hk).1), hown⟩, by simp [hl], fun k hk => ?_⟩ hg ⟨g', rfl, hat.imp id (fun e => by omega)⟩)
 · match j, hv with
   | 0, hv => simp at hv; subst hv; rw [Addr.add_lit]; exact hB.cell 0
 · by_cases hlt : k < xss.length
   · obtain ⟨A2, c2, e, ho2⟩ := hrow k hlt
     simp only [List.getElem_append_left hlt]
     exact ⟨A2, c2, by rw [List.getElem?_append_left (by omega)]; exact e, ho2.grown hg (ho2.ne hm1.2 (by decide))⟩
   · have hk' : k = xss.length := by simp at hk; omega
     subst hk'
     simp only [List.getElem_append_right (Nat.le_refl _), Nat.sub_self, List.getElem_cons_zero]
     exact ⟨A1, c1, by rw [List.getElem?_append_right (by omega), hl, Nat.sub_self]; rfl, hr.grown hg (hr.ne hm1.2 (by decide))⟩
theorem MkO.owned {w0 w : World} {A : Option Addr} {n c : Nat} {xss : List (List Int)} (h : MkO w0 w A n c xss) : ∃ rows, Mk w0 w 24 A n c rows := by
 obtain ⟨rows, hm, _⟩ := h; exact ⟨rows, hm⟩
theorem MkO.keepOwn {w0 w w' : World} {A : Option Addr} {n c : Nat} {xss : List (List Int)} (h : MkO w0 w A n c xss) {R : Option Addr} {m cr : Nat} {us : List Value} (hr : Own w 0 2 R m cr us) (hg : w.grownBy w' (Value.slice A n c).ownBlock) : Own w' 0 2 R m cr us := by
 obtain ⟨rows, hm⟩ := h.owned
 exact hr.grown hg (hr.ne hm.2 (by decide))
set_option maxHeartbeats 1600000 in
set_option maxRecDepth 8000 in
theorem l12Rest_any (p : Int) (A : Option Addr) (r0 c : Nat) (B : List (List Int)) (X : Option Addr) (n cx : Nat) (xs : List Int) (w : World) (hp : 2 ≤ p) (hp2 : p ≤ 13) (hn : n ≤ 65536) (hr0 : r0 ≤ 65536) (ha : RdII w A r0 B) (hT : Tab p n B) (hR : Red n B) (hx : Rd w X n (ints xs)) (hxs : NumsL p xs) :
    Calls Tryz.prog 162 #[.int .i64 p, .slice A r0 c, .slice X n cx] w fun e w' => ∃ A' c', e = .returned (.slice A' n c') ∧ MkI w w' A' n c' (restL p B xs) := by
 have hBl := ha.len
 have hxl := hx.lenI
 have HBL := Lib.hid hBl
 have HT := Lib.hid hT
 have HR := Lib.hid hR
 have HF : Hid (∀ j, j ≤ r0 → (restTo p B xs j).length = n ∧ NumsL p (restTo p B xs j)) := Lib.hid fun j hj => ⟨(restTo_len p B xs j (by omega)).trans hxl, restTo_nums (by omega) B hxs j (by omega)⟩
 have HS : Hid (∀ j (h : j < B.length), restTo p B xs (j + 1) = stepR p (restTo p B xs j) B[j]) := Lib.hid fun j h => by rw [restTo_succ h, getD_of_lt [] h]
 have HE : Hid (restL p B xs = restTo p B xs r0) := Lib.hid (by unfold restL; rw [hBl])
 have hown := l01Own_any X n cx xs w hn hx
 clear hBl hxl hT hR hx hxs
 go_enter Tryz.func162, Tryz.ntmps162
 go_wp2_with fail
 refine hown.mono ?_
 rintro e w1 ⟨A1, c1, rfl, hM1⟩
 clear hown
 go_wp2
 go_loopw [7, 8] (fun out i wr => ∃ (j : Nat) (A' : Option Addr) (c' : Nat), j ≤ r0 ∧ i = .int .i64 j ∧ out = .slice A' n c' ∧ MkI w wr A' n c' (restTo p B xs j)) (fun _ i _ => r0 - (intOf i).toNat)
 case atStart => exact ⟨0, _, _, by omega, rfl, rfl, hM1⟩
 case round =>
  obtain ⟨j, A', c', hj, rfl, rfl, hM⟩ := hrel
  clear hM1
  by_cases hlt : j < r0
  · obtain ⟨g, o, rfl, hxj, Aj, cj, hcj, hrj, hcapj⟩ := (ha.below hM.b).at_ hlt
    obtain ⟨hlj, hnj⟩ := HT.out _ (List.getElem_mem hxj)
    obtain ⟨row, hrow⟩ : ∃ z, z = B[j] := ⟨_, rfl⟩
    have hld : leadL row < n := by have := HR.out.lt j hxj; unfold ld at this; rw [getD_of_lt [] hxj, ← hrow] at this; exact this
    have HST : Hid (restTo p B xs (j + 1) = stepR p (restTo p B xs j) row) := Lib.hid (by rw [HS.out j hxj, hrow])
    rw [← hrow] at hcj hrj hcapj hlj hnj
    rw [hlj] at hcj hrj
    obtain ⟨L, hL⟩ : ∃ L, L = restTo p B xs j := ⟨_, rfl⟩
    obtain ⟨hLl, hLn⟩ := HF.out j hj
    rw [← hL] at hM HST hLl hLn
    obtain ⟨gl, ol, rfl, hxl, hcl⟩ := hM.rd.int hld
    obtain ⟨x, hxe⟩ : ∃ z, z = L[leadL row] := ⟨_, rfl⟩
    obtain ⟨x1, x2⟩ := hLn _ (List.getElem_mem hxl)
    rw [← hxe] at hcl x1 x2
    have HXE : Hid (L.getD (leadL row) 0 = x) := Lib.hid (by rw [hxe, getD_of_lt 0 hxl])
    have HM := Lib.hid hM
    have HRJ := Lib.hid hrj
    have HNJ := Lib.hid hnj
    have HLN := Lib.hid hLn
    have hf := l12First_any Aj n cj row wr (by omega) hrj
    obtain ⟨ld0, hld0⟩ : ∃ z, z = leadL row := ⟨_, rfl⟩
    rw [← hld0] at hf hld hcl HXE
    have HLD := Lib.hid hld0
    clear hM hrj hnj hLn hL hrow hxe hxl hlj hcapj ha hld0
    by_cases h0 : x = 0
    · have HSTE : Hid (restTo p B xs (j + 1) = L) := Lib.hid (by rw [HST.out]; unfold stepR; rw [← HLD.out, HXE.out, if_pos h0])
      subst h0
      clear HST x1 x2
      go_wp2_with fail
      refine hf.mono ?_
      rintro e w3 ⟨rfl, rfl⟩
      go_wp2
      go_roundw
      case rel => exact ⟨j + 1, _, _, by omega, by go_num, rfl, by rw [HSTE.out]; exact HM.out⟩
      case measure => simp [intOf]; omega
    · have HSTE : Hid (restTo p B xs (j + 1) = plusL p L (scaleL p row x) (-1)) := Lib.hid (by rw [HST.out]; unfold stepR; rw [← HLD.out, HXE.out, if_neg h0])
      have h0b : (x == 0) = false := by simpa using h0
      clear HST
      go_wp2_with fail
      refine hf.mono ?_
      rintro e w3 ⟨rfl, rfl⟩
      clear hf
      go_wp2_with fail
      refine (l11Scale_any p x Aj n cj row _ hp hp2 hn HRJ.out HNJ.out x1 (by omega)).mono ?_
      rintro e w4 ⟨A4, c4, rfl, hM4⟩
      go_wp2_with fail
      refine (l11Minus_any p _ n c' L A4 n c4 (scaleL p row x) w4 hp hp2 hn (Nat.le_refl _) (HM.out.below hM4.b).rd HLN.out hM4.rd (scaleL_nums (by omega) _ _)).mono ?_
      rintro e w5 ⟨A5, c5, rfl, hM5⟩
      go_wp2
      go_roundw
      case rel => exact ⟨j + 1, _, _, by omega, by go_num, rfl, by rw [HSTE.out]; exact hM5.after ((HM.out.below hM4.b).b)⟩
      case measure => simp [intOf]; omega
  · obtain rfl : j = r0 := by omega
    go_wp2
    go_ret
    exact ⟨_, _, rfl, by rw [HE.out]; exact hM⟩
set_option maxHeartbeats 6400000 in
set_option maxRecDepth 8000 in
theorem l12Put_any (p : Int) (w0 : World) (A : Option Addr) (d c : Nat) (B : List (List Int)) (X : Option Addr) (n cx : Nat) (xs : List Int) (w : World) (HP : isP p = true) (hn : n ≤ 65535) (hA : MkO w0 w A d c B) (hT : Tab p n B) (hR : Red n B) (hx : Rd w X n (ints xs)) (hxs : NumsL p xs) :
    Calls Tryz.prog 157 #[.int .i64 p, .slice A d c, .slice X n cx] w fun e w' => ∃ A' c', e = .returned (.slice A' (putL p B xs).length c') ∧ MkO w0 w' A' (putL p B xs).length c' (putL p B xs) ∧ Below w.heap.size w w' := by
 obtain ⟨hp3, hp2⟩ := isP_ge HP
 have hp : 2 ≤ p := by omega
 have ha := hA.rd
 have hBl := ha.len
 have hd : d ≤ 65535 := by have := hR.len; omega
 have hxl := hx.lenI
 have hrest := l12Rest_any p A d c B X n cx xs w hp hp2 (by omega) (by omega) ha hT hR hx hxs
 have hRL := (restL_len p B xs).trans hxl
 have hRN := restL_nums (show 0 < p by omega) B hxs
 obtain ⟨Z, hZ⟩ : ∃ Z, Z = putL p B xs := ⟨_, rfl⟩
 rw [← hZ]
 unfold putL at hZ
 rw [hxl, hBl] at hZ
 obtain ⟨R0, hR0⟩ : ∃ R0, R0 = restL p B xs := ⟨_, rfl⟩
 rw [← hR0] at hrest hRL hRN hZ
 obtain ⟨q, hq⟩ : ∃ q, q = leadL R0 := ⟨_, rfl⟩
 have hqn : q ≤ n := by have := leadL_le R0; omega
 have HZ := Lib.hid hZ
 have HT := Lib.hid hT
 have HBL := Lib.hid hBl
 have HRN := Lib.hid hRN
 have HA := Lib.hid hA
 have HQ := Lib.hid hq
 clear hZ hT hBl hR hx hxs hR0 hRN hA hxl ha hq
 by_cases hqz : q = n
 · have HZE : Hid (Z = B) := Lib.hid (by rw [HZ.out, ← HQ.out, if_pos hqz])
   subst hqz
   clear HZ
   go_enter Tryz.func157, Tryz.ntmps157
   go_wp2_with fail
   refine hrest.mono ?_
   rintro e w1 ⟨A1, c1, rfl, hM1⟩
   go_wp2_with fail
   refine (l12First_any A1 q c1 R0 w1 (by omega) hM1.rd).mono ?_
   rw [← HQ.out]
   rintro e w2 ⟨rfl, rfl⟩
   go_wp2
   go_ret
   rw [HZE.out, HBL.out]
   exact ⟨_, _, rfl, HA.out.below hM1.b, hM1.b⟩
 have hqlt : q < n := by omega
 have hne : ((q : Int) == (n : Int)) = false := by simp; omega
 have hne2 : ¬ (q : Int) = (n : Int) := by omega
 obtain ⟨a0, ha0⟩ : ∃ z, z = R0.getD q 0 := ⟨_, rfl⟩
 have ha1 : a0 ≠ 0 := by rw [ha0, HQ.out]; exact leadL_at R0 (by rw [← HQ.out]; omega)
 obtain ⟨ha2, ha3⟩ := HRN.out.getD (show 0 < p by omega) q
 rw [← ha0] at ha2 ha3
 obtain ⟨iv, hiv⟩ : ∃ z, z = invF p a0 := ⟨_, rfl⟩
 obtain ⟨v1, v2, -⟩ := inv_spec HP (show 0 < a0 by omega) ha3
 have hinv := fun w' => l01Inv_any p a0 w' HP (by omega) ha3
 rw [← hiv] at v1 v2 hinv
 obtain ⟨r, hr⟩ : ∃ r, r = scaleL p R0 iv := ⟨_, rfl⟩
 have HRE : Hid (newR p R0 = r) := Lib.hid (by rw [hr, hiv, ha0, HQ.out]; rfl)
 have HRS : Hid (scaleL p R0 iv = r) := Lib.hid hr.symm
 have HRL : Hid (r.length = n) := Lib.hid (by rw [hr, scaleL_len]; exact hRL)
 have HRN2 : Hid (NumsL p r) := Lib.hid (by rw [hr]; exact scaleL_nums (by omega) _ _)
 have HZE : Hid (Z = if (plcL p r q B d).2 = true then (plcL p r q B d).1 else (plcL p r q B d).1 ++ [r]) := Lib.hid (by rw [HZ.out, if_neg (by rw [← HQ.out]; exact hqz), HRE.out, ← HQ.out])
 have HA0 := Lib.hid ha0
 clear hr hiv HP HZ ha0 hRL
 go_enter Tryz.func157, Tryz.ntmps157
 go_wp2_with fail
 refine hrest.mono ?_
 rintro e w1 ⟨A1, c1, rfl, hM1⟩
 clear hrest
 go_wp2_with fail
 refine (l12First_any A1 n c1 R0 w1 (by omega) hM1.rd).mono ?_
 rw [← HQ.out]
 rintro e w2 ⟨rfl, rfl⟩
 obtain ⟨gr, ogr, rfl, hxr, hcr⟩ := hM1.rd.int hqlt
 rw [show R0[q] = a0 by rw [HA0.out, getD_of_lt 0 hxr]] at hcr
 have HM1 := Lib.hid hM1
 clear hM1
 go_wp2_with fail
 refine (hinv _).mono ?_
 rintro e w3 ⟨rfl, rfl⟩
 clear hinv
 go_wp2_with fail
 refine (l11Scale_any p iv _ n c1 R0 w1 hp hp2 (by omega) HM1.out.rd HRN.out (by omega) (by omega)).mono ?_
 rw [HRS.out]
 rintro e w4 ⟨R, cr, rfl, hM4⟩
 have hB4 := HM1.out.b.trans (hM4.b.mono HM1.out.b.size)
 have HRO4 := Lib.hid (hM4.2.base (Nat.zero_le _))
 have hO4 : MkO w (w4.alloc (.cells #[] 24)) (some ⟨w4.heap.size, 0, none⟩) 0 0 [] := (MkII.empty hB4).o
 have HRO5 := Lib.hid (HRO4.out.below (zG.alloc (Nat.le_refl _) (.cells #[] 24)))
 have HRN := HRN2
 clear hM4 HM1 hcr hxr HRO4 HRN2 hB4 HRS
 go_wp2
 go_loopw [9, 10, 11] (fun out pl i wr => ∃ (j on : Nat) (OA : Option Addr) (oc : Nat), j ≤ d ∧ i = .int .i64 j ∧ out = .slice OA on oc ∧ pl = .bool (plcL p r q B j).2 ∧ Hid (Own wr 0 2 R n cr (ints r)) ∧ Hid (MkO w wr OA on oc (plcL p r q B j).1) ∧ Hid ((plcL p r q B j).1.length = on)) (fun _ _ i _ => d - (intOf i).toNat)
 case atStart => exact ⟨0, 0, _, _, by omega, rfl, rfl, rfl, HRO5, Lib.hid hO4, Lib.hid rfl⟩
 case round =>
  obtain ⟨j, on, OA, oc, hj, rfl, rfl, rfl, HRO, HO, HOL⟩ := hrel
  clear hO4 HRO5
  have hon : on ≤ 1000000 := by
   have := HO.out.rd.len
   have h2 := plcL_len p r q B j
   omega
  by_cases hlt : j < d
  · obtain ⟨g, o, rfl, hxj, Aj, cj, hcjw, hrj, hcapj⟩ := HA.out.rd.at_ hlt
    obtain ⟨hlj, hnj⟩ := HT.out _ (List.getElem_mem hxj)
    obtain ⟨row, hrow⟩ : ∃ z, z = B[j] := ⟨_, rfl⟩
    have HPL : Hid (∀ b, plcL p r q B j = b → plcL p r q B (j + 1) = if b.2 = false ∧ q < leadL row then (b.1 ++ [r] ++ [takeR p r q row], true) else (b.1 ++ [takeR p r q row], b.2)) := Lib.hid fun b hb => by
     subst hb
     have : B.getD j [] = row := by rw [getD_of_lt [] hxj, hrow]
     rw [← this]; rfl
    rw [← hrow] at hcjw hrj hcapj hlj hnj
    rw [hlj] at hcjw hrj
    obtain ⟨gj, oj, hAj, hxq, hcxw⟩ := hrj.int hqlt
    obtain ⟨xv, hxe⟩ : ∃ z, z = row[q] := ⟨_, rfl⟩
    obtain ⟨x1, x2⟩ := hnj _ (List.getElem_mem hxq)
    rw [← hxe] at hcxw x1 x2
    subst hAj
    have HTE : Hid (takeR p r q row = plusL p row (scaleL p r xv) (-1)) := Lib.hid (by unfold takeR; rw [hxe, getD_of_lt 0 hxq])
    have HRJw := Lib.hid hrj
    have HNJ := Lib.hid hnj
    have hf := l12First_any (some ⟨gj, oj, none⟩) n cj row wr (by omega) (hrj.below HO.out.b)
    have hcj : wr.cell? ⟨g, o + j, none⟩ = some (.slice (some ⟨gj, oj, none⟩) n cj) := (HO.out.b.cell (World.block_lt_of_cell? _ _ hcjw)).trans hcjw
    have hcx : wr.cell? ⟨gj, oj + q, none⟩ = some (.int .i64 xv) := (HO.out.b.cell (World.block_lt_of_cell? _ _ hcxw)).trans hcxw
    have HCJW := Lib.hid hcjw
    have HCXW := Lib.hid hcxw
    obtain ⟨lr, hlr⟩ : ∃ z, z = leadL row := ⟨_, rfl⟩
    rw [← hlr] at hf HPL
    obtain ⟨pl, hpl⟩ : ∃ z, z = plcL p r q B j := ⟨_, rfl⟩
    rw [← hpl] at HO HOL
    have HPS0 := Lib.hid (HPL.out pl hpl.symm)
    rw [← hpl]
    clear hrj hnj hrow hxe hxq hlj hcapj hlr HPL hpl hcjw hcxw HA HZE HT HBL
    obtain ⟨P1, P2⟩ := pl
    cases P2
    · by_cases hgt : q < lr
      · have HPS : Hid (plcL p r q B (j + 1) = (P1 ++ [r] ++ [takeR p r q row], true)) := Lib.hid (by rw [HPS0.out, if_pos ⟨rfl, hgt⟩])
        clear HPS0
        go_wp2_with fail
        refine hf.mono ?_
        rintro e w3 ⟨rfl, rfl⟩
        clear hf
        go_wp2_with (at_builtin; refine wpList_appRowO w wr rfl _ _ rfl OA on oc _ R n cr r HO.out HRO.out (by omega) rfl rfl ?_; intro A9 c9 w9 hM9 hg9 _)
        clear hcj hcx
        have hcj : w9.cell? ⟨g, o + j, none⟩ = some (.slice (some ⟨gj, oj, none⟩) n cj) := (hM9.b.cell (World.block_lt_of_cell? _ _ HCJW.out)).trans HCJW.out
        have hcx : w9.cell? ⟨gj, oj + q, none⟩ = some (.int .i64 xv) := (hM9.b.cell (World.block_lt_of_cell? _ _ HCXW.out)).trans HCXW.out
        have HRJ := Lib.hid (HRJw.out.below hM9.b)
        have HRO9 := Lib.hid (HO.out.keepOwn HRO.out hg9)
        have HO9 : Hid (MkO w w9 A9 (on + 1) c9 (P1 ++ [r])) := Lib.hid hM9
        have HOL9 : Hid ((P1 ++ [r]).length = on + 1) := Lib.hid (by rw [List.length_append, show P1.length = on from HOL.out]; rfl)
        clear HO HOL HRO hM9 hg9 HRJw HCJW HCXW
        go_wp2
        refine wp_obs 18 [[],[],[],[],[2,3],[2,3,4],[],[],[],[7,8],[7,8,9],[],[7,8,9,10,11],[7,8,9,10,11,12],[],[6,7,8,9,10,11,12,13,14],[1,2,3,4,5,6,7,8,9,10,11,12,13,14,15],[1,2,3,4,5,6,7,8,9,10,11,12,13,14,15,16],[0,1,2,3,4,5,6,7,8,9,10,11,12,13,14,15,16,17],[0,1,2,3,4,5,6,7,8,9,10,11,12,13,14,15,16,17,18]] [VIs (.slice A9 (on + 1) c9), VIs (.int .i64 (p)), VIs (.slice (some ⟨g, o, none⟩) d c), VIs (.int .i64 (j)), VIs (.pointer (some ⟨g, o + j, none⟩)), VIs (.slice (some ⟨gj, oj, none⟩) n cj), VIs (.int .i64 (p)), VIs (.slice (some ⟨g, o, none⟩) d c), VIs (.int .i64 (j)), VIs (.pointer (some ⟨g, o + j, none⟩)), VIs (.slice (some ⟨gj, oj, none⟩) n cj), VIs (.int .i64 (q)), VIs (.pointer (some ⟨gj, oj + q, none⟩)), VIs (.int .i64 (xv)), VIs (.slice R n cr), VSl w9 n (scaleL p r xv), VSl w9 n (takeR p r q row), VNew w9 n (takeR p r q row)] (fun w' => w'.cell? ⟨g, o + j, none⟩ = some (.slice (some ⟨gj, oj, none⟩) n cj) ∧ w'.cell? ⟨gj, oj + q, none⟩ = some (.int .i64 xv) ∧ Below w9.heap.size w9 w') (by kernel_rfl) (by kernel_rfl) (fun _ _ h hb => ⟨(hb.cell (World.block_lt_of_cell? _ _ h.1)).trans h.1, (hb.cell (World.block_lt_of_cell? _ _ h.2.1)).trans h.2.1, h.2.2.trans (hb.mono h.2.2.size)⟩) (⟨hcj, hcx, zG.drew⟩) (fun x => ?_)
        refine zS (fun w' hS hV K hK => ?_) ?_
        · have q1 := hS.1; have q2 := hS.2.1; go_simp; exact zO hK
        refine zS (fun w' hS hV K hK => ?_) ?_
        · have q1 := hS.1; have q2 := hS.2.1; go_simp; exact zO hK
        refine zS (fun w' hS hV K hK => ?_) ?_
        · have q1 := hS.1; have q2 := hS.2.1; go_simp; exact zO hK
        refine zS (fun w' hS hV K hK => ?_) ?_
        · have q1 := hS.1; have q2 := hS.2.1; go_simp; exact zO hK
        refine zS (fun w' hS hV K hK => ?_) ?_
        · have e2 := zQ hV 2; have e3 := zQ hV 3; have q1 := hS.1; have q2 := hS.2.1; go_simp; exact zO hK
        refine zS (fun w' hS hV K hK => ?_) ?_
        · have e4 := zQ hV 4; have q1 := hS.1; have q2 := hS.2.1; go_simp; exact zO hK
        refine zS (fun w' hS hV K hK => ?_) ?_
        · have q1 := hS.1; have q2 := hS.2.1; go_simp; exact zO hK
        refine zS (fun w' hS hV K hK => ?_) ?_
        · have q1 := hS.1; have q2 := hS.2.1; go_simp; exact zO hK
        refine zS (fun w' hS hV K hK => ?_) ?_
        · have q1 := hS.1; have q2 := hS.2.1; go_simp; exact zO hK
        refine zS (fun w' hS hV K hK => ?_) ?_
        · have e7 := zQ hV 7; have e8 := zQ hV 8; have q1 := hS.1; have q2 := hS.2.1; go_simp; exact zO hK
        refine zS (fun w' hS hV K hK => ?_) ?_
        · have e9 := zQ hV 9; have q1 := hS.1; have q2 := hS.2.1; go_simp; exact zO hK
        refine zS (fun w' hS hV K hK => ?_) ?_
        · have q1 := hS.1; have q2 := hS.2.1; go_simp; exact zO hK
        refine zS (fun w' hS hV K hK => ?_) ?_
        · have e10 := zQ hV 10; have e11 := zQ hV 11; have q1 := hS.1; have q2 := hS.2.1; go_simp; exact zO hK
        refine zS (fun w' hS hV K hK => ?_) ?_
        · have e12 := zQ hV 12; have q1 := hS.1; have q2 := hS.2.1; go_simp; exact zO hK
        refine zS (fun w' hS hV K hK => ?_) ?_
        · have q1 := hS.1; have q2 := hS.2.1; go_simp; exact zO hK
        refine zS (fun w' hS hV K hK => ?_) ?_
        · have e6 := zQ hV 6; have e13 := zQ hV 13; have e14 := zQ hV 14; have q1 := hS.1; have q2 := hS.2.1; go_simp; refine (l11Scale_any p xv R n cr r w' hp hp2 (by omega) (HRO9.out.rd.below hS.2.2) HRN.out x1 (by omega)).mono ?_; rintro e v1 ⟨A9, c9, rfl, hM⟩; exact hK.out _ _ _ rfl rfl ⟨_, _, rfl, hM.after hS.2.2⟩ hM.b
        refine zS (fun w' hS hV K hK => ?_) ?_
        · have e1 := zQ hV 1; have e5 := zQ hV 5; obtain ⟨A15, c15, e15, h15⟩ := hV 15 (by decide); have q1 := hS.1; have q2 := hS.2.1; go_simp; refine (l11Minus_any p _ n cj row A15 n c15 (scaleL p r xv) w' hp hp2 (by omega) (Nat.le_refl _) (HRJ.out.below hS.2.2) HNJ.out h15.rd (scaleL_nums (by omega) _ _)).mono ?_; rintro e v1 ⟨A9, c9, rfl, hM⟩; exact hK.out _ _ _ rfl rfl ⟨_, _, rfl, by rw [HTE.out]; exact hM.after hS.2.2⟩ hM.b
        refine zS (fun w' hS hV K hK => ?_) ?_
        · obtain ⟨A15, c15, e15, h15⟩ := hV 15 (by decide); obtain ⟨A16, c16, e16, h16⟩ := hV 16 (by decide); have q1 := hS.1; have q2 := hS.2.1; go_simp; exact hK.out _ _ _ rfl rfl ⟨_, _, _, rfl, Blk.new _ _ _, h16.below (zG.alloc (Nat.le_refl _) _)⟩ (zG.alloc (Nat.le_refl _) _)
        refine fun w' hS hV => ?_
        have e0 := zT hV 0
        have e1 := zT hV 1
        have e2 := zT hV 2
        have e3 := zT hV 3
        have e4 := zT hV 4
        have e5 := zT hV 5
        have e6 := zT hV 6
        have e7 := zT hV 7
        have e8 := zT hV 8
        have e9 := zT hV 9
        have e10 := zT hV 10
        have e11 := zT hV 11
        have e12 := zT hV 12
        have e13 := zT hV 13
        have e14 := zT hV 14
        obtain ⟨A15, c15, e15, h15⟩ := hV 15 (by decide)
        obtain ⟨A16, c16, e16, h16⟩ := hV 16 (by decide)
        obtain ⟨g17, A17, c17, e17, b17, h17⟩ := hV 17 (by decide)
        simp only [e0, e1, e2, e3, e4, e5, e6, e7, e8, e9, e10, e11, e12, e13, e14, e15, e16, e17]
        clear e0 e1 e2 e3 e4 e5 e6 e7 e8 e9 e10 e11 e12 e13 e14 e15 e16 e17
        obtain ⟨-, -, s2⟩ := hS
        refine any_plain (j := 18) (by kernel_rfl) (Eq.trans (by simp only [zA, zB, zC]; exact rfl) rfl) rfl (fun K hK => ?_)
        refine wp_appRowO w w' _ _ rfl A9 (on + 1) c9 _ A17 n c17 _ (HO9.out.below s2) (h17.2.base (Nat.zero_le _)) (by omega) g17 b17 (by rfl) (by rfl) ?_
        intro A20 c20 w20 hM20 hg20 hat20
        refine hK.out _ _ ?_
        simp only [Act.put, zD, zE, zF]
        refine any_one (j := 19) (by kernel_rfl) (Eq.trans (by simp only [zA, zB, zC]; exact rfl) rfl) (fun K hK => ?_)
        go_simp
        refine hK.out _ _ (wpAny_done (by kernel_rfl) ?_ _)
        have HRO2 := Lib.hid ((HO9.out.below s2).keepOwn (HRO9.out.below s2) hg20)
        clear hg20 hat20 HRO9
        go_wp2
        go_roundw
        case rel => exact ⟨j + 1, (on + 1) + 1, A20, c20, by omega, by go_num, rfl, by rw [HPS.out], HRO2, Lib.hid (by rw [HPS.out]; exact hM20), Lib.hid (by rw [HPS.out]; show ((P1 ++ [r]) ++ [_]).length = _; rw [List.length_append, show ((P1 ++ [r])).length = (on + 1) from HOL9.out]; rfl)⟩
        case measure => simp [intOf]; omega
      · have HPS : Hid (plcL p r q B (j + 1) = (P1 ++ [takeR p r q row], false)) := Lib.hid (by rw [HPS0.out, if_neg (fun h => hgt h.2)])
        clear HPS0
        go_wp2_with fail
        refine hf.mono ?_
        rintro e w3 ⟨rfl, rfl⟩
        have HRJ := Lib.hid (HRJw.out.below HO.out.b)
        clear hf HRJw HCJW HCXW
        go_wp2
        refine wp_obs 18 [[],[],[],[],[2,3],[2,3,4],[],[],[],[7,8],[7,8,9],[],[7,8,9,10,11],[7,8,9,10,11,12],[],[6,7,8,9,10,11,12,13,14],[1,2,3,4,5,6,7,8,9,10,11,12,13,14,15],[1,2,3,4,5,6,7,8,9,10,11,12,13,14,15,16],[0,1,2,3,4,5,6,7,8,9,10,11,12,13,14,15,16,17],[0,1,2,3,4,5,6,7,8,9,10,11,12,13,14,15,16,17,18]] [VIs (.slice OA on oc), VIs (.int .i64 (p)), VIs (.slice (some ⟨g, o, none⟩) d c), VIs (.int .i64 (j)), VIs (.pointer (some ⟨g, o + j, none⟩)), VIs (.slice (some ⟨gj, oj, none⟩) n cj), VIs (.int .i64 (p)), VIs (.slice (some ⟨g, o, none⟩) d c), VIs (.int .i64 (j)), VIs (.pointer (some ⟨g, o + j, none⟩)), VIs (.slice (some ⟨gj, oj, none⟩) n cj), VIs (.int .i64 (q)), VIs (.pointer (some ⟨gj, oj + q, none⟩)), VIs (.int .i64 (xv)), VIs (.slice R n cr), VSl wr n (scaleL p r xv), VSl wr n (takeR p r q row), VNew wr n (takeR p r q row)] (fun w' => w'.cell? ⟨g, o + j, none⟩ = some (.slice (some ⟨gj, oj, none⟩) n cj) ∧ w'.cell? ⟨gj, oj + q, none⟩ = some (.int .i64 xv) ∧ Below wr.heap.size wr w') (by kernel_rfl) (by kernel_rfl) (fun _ _ h hb => ⟨(hb.cell (World.block_lt_of_cell? _ _ h.1)).trans h.1, (hb.cell (World.block_lt_of_cell? _ _ h.2.1)).trans h.2.1, h.2.2.trans (hb.mono h.2.2.size)⟩) (⟨hcj, hcx, zG.drew⟩) (fun x => ?_)
        refine zS (fun w' hS hV K hK => ?_) ?_
        · have q1 := hS.1; have q2 := hS.2.1; go_simp; exact zO hK
        refine zS (fun w' hS hV K hK => ?_) ?_
        · have q1 := hS.1; have q2 := hS.2.1; go_simp; exact zO hK
        refine zS (fun w' hS hV K hK => ?_) ?_
        · have q1 := hS.1; have q2 := hS.2.1; go_simp; exact zO hK
        refine zS (fun w' hS hV K hK => ?_) ?_
        · have q1 := hS.1; have q2 := hS.2.1; go_simp; exact zO hK
        refine zS (fun w' hS hV K hK => ?_) ?_
        · have e2 := zQ hV 2; have e3 := zQ hV 3; have q1 := hS.1; have q2 := hS.2.1; go_simp; exact zO hK
        refine zS (fun w' hS hV K hK => ?_) ?_
        · have e4 := zQ hV 4; have q1 := hS.1; have q2 := hS.2.1; go_simp; exact zO hK
        refine zS (fun w' hS hV K hK => ?_) ?_
        · have q1 := hS.1; have q2 := hS.2.1; go_simp; exact zO hK
        refine zS (fun w' hS hV K hK => ?_) ?_
        · have q1 := hS.1; have q2 := hS.2.1; go_simp; exact zO hK
        refine zS (fun w' hS hV K hK => ?_) ?_
        · have q1 := hS.1; have q2 := hS.2.1; go_simp; exact zO hK
        refine zS (fun w' hS hV K hK => ?_) ?_
        · have e7 := zQ hV 7; have e8 := zQ hV 8; have q1 := hS.1; have q2 := hS.2.1; go_simp; exact zO hK
        refine zS (fun w' hS hV K hK => ?_) ?_
        · have e9 := zQ hV 9; have q1 := hS.1; have q2 := hS.2.1; go_simp; exact zO hK
        refine zS (fun w' hS hV K hK => ?_) ?_
        · have q1 := hS.1; have q2 := hS.2.1; go_simp; exact zO hK
        refine zS (fun w' hS hV K hK => ?_) ?_
        · have e10 := zQ hV 10; have e11 := zQ hV 11; have q1 := hS.1; have q2 := hS.2.1; go_simp; exact zO hK
        refine zS (fun w' hS hV K hK => ?_) ?_
        · have e12 := zQ hV 12; have q1 := hS.1; have q2 := hS.2.1; go_simp; exact zO hK
        refine zS (fun w' hS hV K hK => ?_) ?_
        · have q1 := hS.1; have q2 := hS.2.1; go_simp; exact zO hK
        refine zS (fun w' hS hV K hK => ?_) ?_
        · have e6 := zQ hV 6; have e13 := zQ hV 13; have e14 := zQ hV 14; have q1 := hS.1; have q2 := hS.2.1; go_simp; refine (l11Scale_any p xv R n cr r w' hp hp2 (by omega) (HRO.out.rd.below hS.2.2) HRN.out x1 (by omega)).mono ?_; rintro e v1 ⟨A9, c9, rfl, hM⟩; exact hK.out _ _ _ rfl rfl ⟨_, _, rfl, hM.after hS.2.2⟩ hM.b
        refine zS (fun w' hS hV K hK => ?_) ?_
        · have e1 := zQ hV 1; have e5 := zQ hV 5; obtain ⟨A15, c15, e15, h15⟩ := hV 15 (by decide); have q1 := hS.1; have q2 := hS.2.1; go_simp; refine (l11Minus_any p _ n cj row A15 n c15 (scaleL p r xv) w' hp hp2 (by omega) (Nat.le_refl _) (HRJ.out.below hS.2.2) HNJ.out h15.rd (scaleL_nums (by omega) _ _)).mono ?_; rintro e v1 ⟨A9, c9, rfl, hM⟩; exact hK.out _ _ _ rfl rfl ⟨_, _, rfl, by rw [HTE.out]; exact hM.after hS.2.2⟩ hM.b
        refine zS (fun w' hS hV K hK => ?_) ?_
        · obtain ⟨A15, c15, e15, h15⟩ := hV 15 (by decide); obtain ⟨A16, c16, e16, h16⟩ := hV 16 (by decide); have q1 := hS.1; have q2 := hS.2.1; go_simp; exact hK.out _ _ _ rfl rfl ⟨_, _, _, rfl, Blk.new _ _ _, h16.below (zG.alloc (Nat.le_refl _) _)⟩ (zG.alloc (Nat.le_refl _) _)
        refine fun w' hS hV => ?_
        have e0 := zT hV 0
        have e1 := zT hV 1
        have e2 := zT hV 2
        have e3 := zT hV 3
        have e4 := zT hV 4
        have e5 := zT hV 5
        have e6 := zT hV 6
        have e7 := zT hV 7
        have e8 := zT hV 8
        have e9 := zT hV 9
        have e10 := zT hV 10
        have e11 := zT hV 11
        have e12 := zT hV 12
        have e13 := zT hV 13
        have e14 := zT hV 14
        obtain ⟨A15, c15, e15, h15⟩ := hV 15 (by decide)
        obtain ⟨A16, c16, e16, h16⟩ := hV 16 (by decide)
        obtain ⟨g17, A17, c17, e17, b17, h17⟩ := hV 17 (by decide)
        simp only [e0, e1, e2, e3, e4, e5, e6, e7, e8, e9, e10, e11, e12, e13, e14, e15, e16, e17]
        clear e0 e1 e2 e3 e4 e5 e6 e7 e8 e9 e10 e11 e12 e13 e14 e15 e16 e17
        obtain ⟨-, -, s2⟩ := hS
        refine any_plain (j := 18) (by kernel_rfl) (Eq.trans (by simp only [zA, zB, zC]; exact rfl) rfl) rfl (fun K hK => ?_)
        refine wp_appRowO w w' _ _ rfl OA on oc _ A17 n c17 _ (HO.out.below s2) (h17.2.base (Nat.zero_le _)) (by omega) g17 b17 (by rfl) (by rfl) ?_
        intro A20 c20 w20 hM20 hg20 hat20
        refine hK.out _ _ ?_
        simp only [Act.put, zD, zE, zF]
        refine any_one (j := 19) (by kernel_rfl) (Eq.trans (by simp only [zA, zB, zC]; exact rfl) rfl) (fun K hK => ?_)
        go_simp
        refine hK.out _ _ (wpAny_done (by kernel_rfl) ?_ _)
        have HRO2 := Lib.hid ((HO.out.below s2).keepOwn (HRO.out.below s2) hg20)
        clear hg20 hat20 HRO
        go_wp2
        go_roundw
        case rel => exact ⟨j + 1, on + 1, A20, c20, by omega, by go_num, rfl, by rw [HPS.out], HRO2, Lib.hid (by rw [HPS.out]; exact hM20), Lib.hid (by rw [HPS.out]; show (P1 ++ [_]).length = _; rw [List.length_append, show (P1).length = on from HOL.out]; rfl)⟩
        case measure => simp [intOf]; omega
    · have HPS : Hid (plcL p r q B (j + 1) = (P1 ++ [takeR p r q row], true)) := Lib.hid (by rw [HPS0.out, if_neg (fun h => by cases h.1)])
      have HRJ := Lib.hid (HRJw.out.below HO.out.b)
      clear HPS0 hf HRJw HCJW HCXW
      go_wp2
      refine wp_obs 18 [[],[],[],[],[2,3],[2,3,4],[],[],[],[7,8],[7,8,9],[],[7,8,9,10,11],[7,8,9,10,11,12],[],[6,7,8,9,10,11,12,13,14],[1,2,3,4,5,6,7,8,9,10,11,12,13,14,15],[1,2,3,4,5,6,7,8,9,10,11,12,13,14,15,16],[0,1,2,3,4,5,6,7,8,9,10,11,12,13,14,15,16,17],[0,1,2,3,4,5,6,7,8,9,10,11,12,13,14,15,16,17,18]] [VIs (.slice OA on oc), VIs (.int .i64 (p)), VIs (.slice (some ⟨g, o, none⟩) d c), VIs (.int .i64 (j)), VIs (.pointer (some ⟨g, o + j, none⟩)), VIs (.slice (some ⟨gj, oj, none⟩) n cj), VIs (.int .i64 (p)), VIs (.slice (some ⟨g, o, none⟩) d c), VIs (.int .i64 (j)), VIs (.pointer (some ⟨g, o + j, none⟩)), VIs (.slice (some ⟨gj, oj, none⟩) n cj), VIs (.int .i64 (q)), VIs (.pointer (some ⟨gj, oj + q, none⟩)), VIs (.int .i64 (xv)), VIs (.slice R n cr), VSl wr n (scaleL p r xv), VSl wr n (takeR p r q row), VNew wr n (takeR p r q row)] (fun w' => w'.cell? ⟨g, o + j, none⟩ = some (.slice (some ⟨gj, oj, none⟩) n cj) ∧ w'.cell? ⟨gj, oj + q, none⟩ = some (.int .i64 xv) ∧ Below wr.heap.size wr w') (by kernel_rfl) (by kernel_rfl) (fun _ _ h hb => ⟨(hb.cell (World.block_lt_of_cell? _ _ h.1)).trans h.1, (hb.cell (World.block_lt_of_cell? _ _ h.2.1)).trans h.2.1, h.2.2.trans (hb.mono h.2.2.size)⟩) (⟨hcj, hcx, zG.drew⟩) (fun x => ?_)
      refine zS (fun w' hS hV K hK => ?_) ?_
      · have q1 := hS.1; have q2 := hS.2.1; go_simp; exact zO hK
      refine zS (fun w' hS hV K hK => ?_) ?_
      · have q1 := hS.1; have q2 := hS.2.1; go_simp; exact zO hK
      refine zS (fun w' hS hV K hK => ?_) ?_
      · have q1 := hS.1; have q2 := hS.2.1; go_simp; exact zO hK
      refine zS (fun w' hS hV K hK => ?_) ?_
      · have q1 := hS.1; have q2 := hS.2.1; go_simp; exact zO hK
      refine zS (fun w' hS hV K hK => ?_) ?_
      · have e2 := zQ hV 2; have e3 := zQ hV 3; have q1 := hS.1; have q2 := hS.2.1; go_simp; exact zO hK
      refine zS (fun w' hS hV K hK => ?_) ?_
      · have e4 := zQ hV 4; have q1 := hS.1; have q2 := hS.2.1; go_simp; exact zO hK
      refine zS (fun w' hS hV K hK => ?_) ?_
      · have q1 := hS.1; have q2 := hS.2.1; go_simp; exact zO hK
      refine zS (fun w' hS hV K hK => ?_) ?_
      · have q1 := hS.1; have q2 := hS.2.1; go_simp; exact zO hK
      refine zS (fun w' hS hV K hK => ?_) ?_
      · have q1 := hS.1; have q2 := hS.2.1; go_simp; exact zO hK
      refine zS (fun w' hS hV K hK => ?_) ?_
      · have e7 := zQ hV 7; have e8 := zQ hV 8; have q1 := hS.1; have q2 := hS.2.1; go_simp; exact zO hK
      refine zS (fun w' hS hV K hK => ?_) ?_
      · have e9 := zQ hV 9; have q1 := hS.1; have q2 := hS.2.1; go_simp; exact zO hK
      refine zS (fun w' hS hV K hK => ?_) ?_
      · have q1 := hS.1; have q2 := hS.2.1; go_simp; exact zO hK
      refine zS (fun w' hS hV K hK => ?_) ?_
      · have e10 := zQ hV 10; have e11 := zQ hV 11; have q1 := hS.1; have q2 := hS.2.1; go_simp; exact zO hK
      refine zS (fun w' hS hV K hK => ?_) ?_
      · have e12 := zQ hV 12; have q1 := hS.1; have q2 := hS.2.1; go_simp; exact zO hK
      refine zS (fun w' hS hV K hK => ?_) ?_
      · have q1 := hS.1; have q2 := hS.2.1; go_simp; exact zO hK
      refine zS (fun w' hS hV K hK => ?_) ?_
      · have e6 := zQ hV 6; have e13 := zQ hV 13; have e14 := zQ hV 14; have q1 := hS.1; have q2 := hS.2.1; go_simp; refine (l11Scale_any p xv R n cr r w' hp hp2 (by omega) (HRO.out.rd.below hS.2.2) HRN.out x1 (by omega)).mono ?_; rintro e v1 ⟨A9, c9, rfl, hM⟩; exact hK.out _ _ _ rfl rfl ⟨_, _, rfl, hM.after hS.2.2⟩ hM.b
      refine zS (fun w' hS hV K hK => ?_) ?_
      · have e1 := zQ hV 1; have e5 := zQ hV 5; obtain ⟨A15, c15, e15, h15⟩ := hV 15 (by decide); have q1 := hS.1; have q2 := hS.2.1; go_simp; refine (l11Minus_any p _ n cj row A15 n c15 (scaleL p r xv) w' hp hp2 (by omega) (Nat.le_refl _) (HRJ.out.below hS.2.2) HNJ.out h15.rd (scaleL_nums (by omega) _ _)).mono ?_; rintro e v1 ⟨A9, c9, rfl, hM⟩; exact hK.out _ _ _ rfl rfl ⟨_, _, rfl, by rw [HTE.out]; exact hM.after hS.2.2⟩ hM.b
      refine zS (fun w' hS hV K hK => ?_) ?_
      · obtain ⟨A15, c15, e15, h15⟩ := hV 15 (by decide); obtain ⟨A16, c16, e16, h16⟩ := hV 16 (by decide); have q1 := hS.1; have q2 := hS.2.1; go_simp; exact hK.out _ _ _ rfl rfl ⟨_, _, _, rfl, Blk.new _ _ _, h16.below (zG.alloc (Nat.le_refl _) _)⟩ (zG.alloc (Nat.le_refl _) _)
      refine fun w' hS hV => ?_
      have e0 := zT hV 0
      have e1 := zT hV 1
      have e2 := zT hV 2
      have e3 := zT hV 3
      have e4 := zT hV 4
      have e5 := zT hV 5
      have e6 := zT hV 6
      have e7 := zT hV 7
      have e8 := zT hV 8
      have e9 := zT hV 9
      have e10 := zT hV 10
      have e11 := zT hV 11
      have e12 := zT hV 12
      have e13 := zT hV 13
      have e14 := zT hV 14
      obtain ⟨A15, c15, e15, h15⟩ := hV 15 (by decide)
      obtain ⟨A16, c16, e16, h16⟩ := hV 16 (by decide)
      obtain ⟨g17, A17, c17, e17, b17, h17⟩ := hV 17 (by decide)
      simp only [e0, e1, e2, e3, e4, e5, e6, e7, e8, e9, e10, e11, e12, e13, e14, e15, e16, e17]
      clear e0 e1 e2 e3 e4 e5 e6 e7 e8 e9 e10 e11 e12 e13 e14 e15 e16 e17
      obtain ⟨-, -, s2⟩ := hS
      refine any_plain (j := 18) (by kernel_rfl) (Eq.trans (by simp only [zA, zB, zC]; exact rfl) rfl) rfl (fun K hK => ?_)
      refine wp_appRowO w w' _ _ rfl OA on oc _ A17 n c17 _ (HO.out.below s2) (h17.2.base (Nat.zero_le _)) (by omega) g17 b17 (by rfl) (by rfl) ?_
      intro A20 c20 w20 hM20 hg20 hat20
      refine hK.out _ _ ?_
      simp only [Act.put, zD, zE, zF]
      refine any_one (j := 19) (by kernel_rfl) (Eq.trans (by simp only [zA, zB, zC]; exact rfl) rfl) (fun K hK => ?_)
      go_simp
      refine hK.out _ _ (wpAny_done (by kernel_rfl) ?_ _)
      have HRO2 := Lib.hid ((HO.out.below s2).keepOwn (HRO.out.below s2) hg20)
      clear hg20 hat20 HRO
      go_wp2
      go_roundw
      case rel => exact ⟨j + 1, on + 1, A20, c20, by omega, by go_num, rfl, by rw [HPS.out], HRO2, Lib.hid (by rw [HPS.out]; exact hM20), Lib.hid (by rw [HPS.out]; show (P1 ++ [_]).length = _; rw [List.length_append, show (P1).length = on from HOL.out]; rfl)⟩
      case measure => simp [intOf]; omega
  · obtain rfl : j = d := by omega
    obtain ⟨pl, hpl⟩ : ∃ z, z = plcL p r q B j := ⟨_, rfl⟩
    rw [← hpl] at HO HOL HZE ⊢
    obtain ⟨P1, P2⟩ := pl
    have HB4 := Lib.hid HO.out.b
    have HA2 := Lib.hid (HA.out.b)
    clear hpl
    cases P2
    · have HZ2 : Hid (Z = P1 ++ [r]) := Lib.hid (by rw [HZE.out]; rfl)
      go_wp2_with (at_builtin; refine wpList_appRowO w wr rfl _ _ rfl OA on oc _ R n cr r HO.out HRO.out (by omega) rfl rfl ?_; intro A9 c9 w9 hM9 hg9 _)
      go_ret
      refine ⟨A9, c9, ?_, ?_, hM9.b⟩
      · rw [HZ2.out, List.length_append, show P1.length = on from HOL.out]; rfl
      · rw [HZ2.out, List.length_append, show P1.length = on from HOL.out]; exact hM9.after HA2.out
    · have HZ2 : Hid (Z = P1) := Lib.hid (by rw [HZE.out]; rfl)
      go_wp2
      go_ret
      refine ⟨OA, oc, ?_, ?_, HB4.out⟩
      · rw [HZ2.out, show P1.length = on from HOL.out]; rfl
      · rw [HZ2.out, show P1.length = on from HOL.out]; exact HO.out.after HA2.out
set_option maxHeartbeats 1600000 in
set_option maxRecDepth 8000 in
theorem l12Reduced_any (p : Int) (A : Option Addr) (r0 c : Nat) (M : List (List Int)) (n : Nat) (w : World) (HP : isP p = true) (hn : n ≤ 65535) (hr0 : r0 ≤ 1048576) (ha : RdII w A r0 M) (hT : Tab p n M) :
    Calls Tryz.prog 146 #[.int .i64 p, .slice A r0 c] w fun e w' => ∃ A' c', e = .returned (.slice A' (basisL p M).length c') ∧ MkO w w' A' (basisL p M).length c' (basisL p M) := by
 have hMl := ha.len
 have HT := Lib.hid hT
 have HML := Lib.hid hMl
 have HRS : Hid (∀ k, k ≤ r0 → Red n (redTo p M k) ∧ Tab p n (redTo p M k)) := Lib.hid fun k hk => by
  obtain ⟨h1, h2, -⟩ := redTo_spec HP hT k (by omega)
  exact ⟨h1, h2⟩
 have HE : Hid (basisL p M = redTo p M r0) := Lib.hid (by rw [← red_basis HP hT, hMl])
 have hO : MkO w (w.alloc (.cells #[] 24)) (some ⟨w.heap.size, 0, none⟩) 0 0 [] := (MkII.empty zG).o
 clear hMl hT
 go_enter Tryz.func146, Tryz.ntmps146
 go_wp2
 go_loopw [5, 6] (fun out i wr => ∃ (j on : Nat) (OA : Option Addr) (oc : Nat), j ≤ r0 ∧ i = .int .i64 j ∧ out = .slice OA on oc ∧ Hid (MkO w wr OA on oc (redTo p M j)) ∧ Hid ((redTo p M j).length = on)) (fun _ i _ => r0 - (intOf i).toNat)
 case atStart => exact ⟨0, 0, _, _, by omega, rfl, rfl, Lib.hid hO, Lib.hid rfl⟩
 case round =>
  obtain ⟨j, on, OA, oc, hj, rfl, rfl, HO, HOL⟩ := hrel
  clear hO
  by_cases hlt : j < r0
  · obtain ⟨g, o, rfl, hxj, Aj, cj, hcj, hrj, -⟩ := (ha.below HO.out.b).at_ hlt
    obtain ⟨hlj, hnj⟩ := HT.out _ (List.getElem_mem hxj)
    obtain ⟨hR, hTT⟩ := HRS.out j hj
    have hput := l12Put_any p w OA on oc (redTo p M j) Aj n cj M[j] wr HP hn HO.out hTT hR (by rw [hlj] at hrj; exact hrj) hnj
    rw [show putL p (redTo p M j) M[j] = redTo p M (j + 1) by rw [redTo_succ hxj, getD_of_lt [] hxj]] at hput
    rw [hlj] at hcj
    have HPUT := Lib.hid hput
    clear hput hR hTT hrj hnj hlj ha
    go_wp2_with fail
    refine HPUT.out.mono ?_
    rintro e w1 ⟨A1, c1, rfl, hM1, hb1⟩
    go_wp2
    go_roundw
    case rel => exact ⟨j + 1, _, A1, c1, by omega, by go_num, rfl, Lib.hid hM1, Lib.hid rfl⟩
    case measure => simp [intOf]; omega
  · obtain rfl : j = r0 := by omega
    go_wp2
    go_ret
    rw [HE.out, HOL.out]
    exact ⟨_, _, rfl, HO.out⟩
set_option maxHeartbeats 6400000 in
set_option maxRecDepth 8000 in
theorem l12Kernel_any (p : Int) (A : Option Addr) (r0 c : Nat) (M : List (List Int)) (n : Nat) (w : World) (HP : isP p = true) (hn : n ≤ 65535) (hr0 : r0 ≤ 1048576) (ha : RdII w A r0 M) (hT : Tab p n M) :
    Calls Tryz.prog 104 #[.int .i64 p, .int .i64 n, .slice A r0 c] w fun e w' => ∃ A' c', e = .returned (.slice A' (kernL p M n).length c') ∧ MkO w w' A' (kernL p M n).length c' (kernL p M n) := by
 obtain ⟨hp3, hp2⟩ := isP_ge HP
 have hp : 2 ≤ p := by omega
 have hbas := l12Reduced_any p A r0 c M n w HP hn hr0 ha hT
 have hred := basisL_red HP M hT
 have htab := basisL_tab (p := p) (by omega) M hT
 have HKL : Hid (kernL p M n = basisL p (freeTo p (basisL p M) n n)) := Lib.hid rfl
 have hdl := hred.len
 obtain ⟨B, hB⟩ : ∃ B, B = basisL p M := ⟨_, rfl⟩
 rw [← hB] at hbas hred htab hdl HKL
 have HRED := Lib.hid hred
 have HTAB := Lib.hid htab
 have HP' := Lib.hid HP
 obtain ⟨d, hd⟩ : ∃ d, d = B.length := ⟨_, rfl⟩
 rw [← hd] at hbas hdl
 have HD := Lib.hid hd
 clear hB hT ha hred htab HP hd
 go_enter Tryz.func104, Tryz.ntmps104
 go_wp2_with fail
 refine hbas.mono ?_
 rintro e wb ⟨A7, c7, rfl, hM7⟩
 have HB7 := Lib.hid hM7
 clear hM7 hbas
 have hlo : Own ((wb.alloc (.cells #[] 24)).alloc (.cells #[] 2)) wb.heap.size 24 (some ⟨wb.heap.size, 0, none⟩) 0 0 [] := by
  have := (Mk.lit (E := 24) (Below.refl wb.heap.size wb) #[] (by simp)).alloc (.cells #[] 2)
  exact this.2
 have hP0' : MkI wb ((wb.alloc (.cells #[] 24)).alloc (.cells #[] 2)) (some ⟨wb.heap.size + 1, 0, none⟩) 0 0 (tab 0 fun i => ((ld B i : Nat) : Int)) := by
  have := Mk.lit (E := 2) (w0 := wb) (w := wb.alloc (.cells #[] 24)) (zG.alloc (Nat.le_refl _) _) #[] (by simp)
  simpa [MkI, ints, tab] using this
 go_wp2
 obtain ⟨w2, hw2⟩ : ∃ W, W = (wb.alloc (.cells #[] 24)).alloc (.cells #[] 2) := ⟨_, rfl⟩
 rw [← hw2] at hP0' hlo ⊢
 clear hw2
 go_loopw [9, 10] (fun pv i wr => ∃ (j : Nat) (A' : Option Addr) (c' : Nat), j ≤ d ∧ i = .int .i64 j ∧ pv = .slice A' j c' ∧ MkI wb wr A' j c' (tab j fun i => ((ld B i : Nat) : Int)) ∧ Own wr wb.heap.size 24 (some ⟨wb.heap.size, 0, none⟩) 0 0 []) (fun _ i _ => d - (intOf i).toNat)
 case atStart => exact ⟨0, _, _, by omega, rfl, rfl, hP0', hlo⟩
 case round =>
  obtain ⟨j, A', c', hj, rfl, rfl, hM, hlo2⟩ := hrel
  clear hP0' hlo
  have HLO := Lib.hid hlo2
  clear hlo2
  by_cases hlj : j < d
  · obtain ⟨g7, o7, rfl, hxj, Aj, cj, hcj, hrj, -⟩ := (HB7.out.rd.below hM.b).at_ hlj
    have HRJ := Lib.hid (HTAB.out B[j] (List.getElem_mem hxj))
    have hl := HRJ.out.1
    rw [hl] at hcj hrj
    have hlead := l12First_any Aj n cj B[j] wr (by omega) hrj
    rw [show leadL B[j] = ld B j by unfold ld; rw [getD_of_lt [] hxj]] at hlead
    have HV : Hid ((tab (j + 1) fun i => ((ld B i : Nat) : Int)) = (tab j fun i => ((ld B i : Nat) : Int)) ++ [((ld B j : Nat) : Int)]) := Lib.hid (tab_succ _ _)
    obtain ⟨l, hl'⟩ : ∃ l, l = ld B j := ⟨_, rfl⟩
    rw [← hl'] at hlead HV
    have HM := Lib.hid hM
    have hl4 : l ≤ 65535 := by rw [hl']; have := HRED.out.lt j (by rw [← HD.out]; exact hlj); omega
    clear hl hl' hrj hM HRJ
    go_wp2_with (first
     | (go_at_call 91; refine hlead.mono ?_; rintro e w' ⟨rfl, rfl⟩)
     | (at_builtin; refine wpList_app1 wb _ 24 2 _ _ Tryz.underlying24 info_i rfl (by omega) rfl _ _ rfl A' j c' _ _ HM.out (by omega) rfl rfl rfl ?_; intro A4 c4 w4 hM4 hg4 _))
    go_roundw
    case rel => exact ⟨j + 1, A4, c4, by omega, by go_num, rfl, by rw [HV.out]; simpa [MkI, ints] using hM4, HLO.out.grown hg4 (HLO.out.ne HM.out.2 (by decide))⟩
    case measure => simp [intOf]; omega
  · obtain rfl : j = d := by omega
    have HPV := Lib.hid hM
    have HCON : Hid (∀ f : Nat, (tab j fun i => ((ld B i : Nat) : Int)).contains (f : Int) = isLd B f) := Lib.hid (fun f => by rw [HD.out]; exact lds_contains B f)
    have hM0 : MkII wb wr (some ⟨wb.heap.size, 0, none⟩) 0 0 (freeTo p B n 0) := ⟨[], ⟨hM.b, HLO.out⟩, Nest.nil _ _⟩
    have hpo : Own wr wb.heap.size 2 A' j c' (ints (tab j fun i => ((ld B i : Nat) : Int))) := hM.2
    have hmk := make_i (P := Tryz.prog) 24 2 Tryz.underlying24 info_i n (by omega)
    clear hM
    go_wp2
    go_loopw [8, 11] (fun out i wr => ∃ (f q : Nat) (A2 : Option Addr) (c2 : Nat), f ≤ n ∧ q ≤ f ∧ i = .int .i64 f ∧ out = .slice A2 q c2 ∧ MkII wb wr A2 q c2 (freeTo p B n f) ∧ Own wr wb.heap.size 2 A' j c' (ints (tab j fun i => ((ld B i : Nat) : Int)))) (fun _ i _ => n - (intOf i).toNat)
    case atStart => exact ⟨0, 0, _, _, by omega, by omega, rfl, rfl, hM0, hpo⟩
    case round =>
     obtain ⟨f, q, A2, c2, hf, hq, rfl, rfl, hM, hpo2⟩ := hrel
     clear hM0 hpo
     obtain ⟨wo, rfl⟩ : ∃ W, W = wr := ⟨_, rfl⟩
     have HM := Lib.hid hM
     have HPO := Lib.hid hpo2
     clear hM hpo2
     by_cases hlf : f < n
     · cases hlb : isLd B f
       · have hhas := l01Has_b A' j c' (tab j fun i => ((ld B i : Nat) : Int)) (f : Int) wo (by omega) (Own.rd HPO.out) ((HCON.out f).trans hlb)
         have hm1 := Mk.made (E := 2) (n := n) (z := .int .i64 0) (Below.refl wo.heap.size wo) (by simp only [maxLen]; omega)
         rw [ints_replicate] at hm1
         obtain ⟨u1, hc1⟩ := hm1.2.cellI hlf
         have hf1 := hm1.2.frozen_ f
         have hm2 := (hm1.set f (.int .i64 1)).1
         rw [ints_set, World.setCell_alloc_at _ _ _ _ _ rfl] at hm2
         have hm3 := hm2
         rw [show (List.replicate n (0 : Int)).set f 1 = freePart p B n f (leftFrom B 0) from (freePart_start p B n f hlf (leftFrom B 0) (fun k _ hk => leftFrom_zero HRED.out hk)).symm] at hm3
         clear hm1 hm2
         go_wp2_with (go_at_call 147; refine hhas.mono ?_; rintro e w' ⟨rfl, rfl⟩)
         go_loopw [13] (fun i wr => ∃ k : Nat, k ≤ j ∧ i = .int .i64 k ∧ MkI wo wr (some ⟨wo.heap.size, 0, none⟩) n n (freePart p B n f (leftFrom B k))) (fun i _ => j - (intOf i).toNat)
         case atStart => exact ⟨0, by omega, rfl, hm3⟩
         case round =>
          obtain ⟨k, hk, rfl, hmv⟩ := hrel
          clear hm3 hc1 hf1 hhas
          have HMV := Lib.hid hmv
          clear hmv
          by_cases hlk : k < j
          · have hbo := HM.out.b.trans (HMV.out.b.mono HM.out.b.size)
            obtain ⟨g7, o7, rfl, hxl, Ai, ci, hci, hri, -⟩ := (HB7.out.rd.below hbo).at_ hlk
            have HRI := Lib.hid (HTAB.out B[k] (List.getElem_mem hxl))
            have hl := HRI.out.1
            rw [hl] at hci hri
            obtain ⟨gi, oi, rfl, hxe, hce⟩ := hri.int hlf
            have HE : Hid (ent B k f = B[k][f]) := Lib.hid (ent_at hxl hxe)
            obtain ⟨y, hy⟩ : ∃ y, y = B[k][f] := ⟨_, rfl⟩
            have hyb : 0 ≤ y ∧ y < p := hy ▸ HRI.out.2 _ (List.getElem_mem hxe)
            rw [← hy] at hce HE
            have hld := HRED.out.lt k (by rw [← HD.out]; exact hlk)
            obtain ⟨gp, op, rfl, hxp, hcp⟩ := ((Own.rd HPO.out).below HMV.out.b).int hlk
            have hep : (tab j fun i => ((ld B i : Nat) : Int))[k] = ((ld B k : Nat) : Int) := tab_get j _ k hxp
            rw [hep] at hcp
            have HST : Hid ((freePart p B n f (leftFrom B k)).set (ld B k) ((-y) % p) = freePart p B n f (leftFrom B (k + 1))) := Lib.hid (by
             rw [← HE.out, freePart_step HRED.out (by rw [← HD.out]; exact hlk) hlb]
             exact freePart_congr p B n f (fun k' _ => leftFrom_succ HRED.out (by rw [← HD.out]; exact hlk) k'))
            have hwy := i64_small (x := -y) (by omega) (by omega)
            obtain ⟨l, hl'⟩ : ∃ l, l = ld B k := ⟨_, rfl⟩
            rw [← hl'] at hcp HST hld
            have hmod := fun w' => l01Mod_any p (-y) w' (by omega) hp2 (by omega) (by omega)
            obtain ⟨ym, hym⟩ : ∃ z, z = (-y) % p := ⟨_, rfl⟩
            rw [← hym] at hmod HST
            clear hl hl' hy hri HRI hxl hxe hxp hep hbo hym
            go_wp2
            refine wp_obs 16 [[],[],[],[1,2],[1,2,3],[],[],[],[6,7],[6,7,8],[],[6,7,8,9,10],[6,7,8,9,10,11],[6,7,8,9,10,11,12],[5,6,7,8,9,10,11,12,13],[0,1,2,3,4],[0,1,2,3,4,5,6,7,8,9,10,11,12,13,14,15]] [VIs (.slice (some ⟨wo.heap.size, 0, none⟩) n n), VIs (.slice (some ⟨gp, op, none⟩) j c'), VIs (.int .i64 (k)), VIs (.pointer (some ⟨gp, op + k, none⟩)), VIs (.int .i64 (l)), VIs (.int .i64 (p)), VIs (.slice (some ⟨g7, o7, none⟩) j c7), VIs (.int .i64 (k)), VIs (.pointer (some ⟨g7, o7 + k, none⟩)), VIs (.slice (some ⟨gi, oi, none⟩) n ci), VIs (.int .i64 (f)), VIs (.pointer (some ⟨gi, oi + f, none⟩)), VIs (.int .i64 (y)), VIs (.int .i64 (-y)), VIs (.int .i64 (ym)), VIs (.pointer (some ⟨wo.heap.size, l, none⟩))] (fun w' => w'.cell? ⟨gp, op + k, none⟩ = some (.int .i64 l) ∧ w'.cell? ⟨g7, o7 + k, none⟩ = some (.slice (some ⟨gi, oi, none⟩) n ci) ∧ w'.cell? ⟨gi, oi + f, none⟩ = some (.int .i64 y) ∧ Below wr.heap.size wr w') (by kernel_rfl) (by kernel_rfl) (fun _ _ h hb => keepR3 h hb (Nat.le_refl _)) (⟨hcp, hci, hce, zG.drew⟩) (fun x => ?_)
            refine zS (fun w' hS hV K hK => ?_) ?_
            · have q0 := hS.1; have q1 := hS.2.1; have q2 := hS.2.2.1; have q3 := hS.2.2.2; go_simp; exact zO hK
            refine zS (fun w' hS hV K hK => ?_) ?_
            · have q0 := hS.1; have q1 := hS.2.1; have q2 := hS.2.2.1; have q3 := hS.2.2.2; go_simp; exact zO hK
            refine zS (fun w' hS hV K hK => ?_) ?_
            · have q0 := hS.1; have q1 := hS.2.1; have q2 := hS.2.2.1; have q3 := hS.2.2.2; go_simp; exact zO hK
            refine zS (fun w' hS hV K hK => ?_) ?_
            · have e1 := zQ hV 1; have e2 := zQ hV 2; have q0 := hS.1; have q1 := hS.2.1; have q2 := hS.2.2.1; have q3 := hS.2.2.2; go_simp; exact zO hK
            refine zS (fun w' hS hV K hK => ?_) ?_
            · have e3 := zQ hV 3; have q0 := hS.1; have q1 := hS.2.1; have q2 := hS.2.2.1; have q3 := hS.2.2.2; go_simp; exact zO hK
            refine zS (fun w' hS hV K hK => ?_) ?_
            · have q0 := hS.1; have q1 := hS.2.1; have q2 := hS.2.2.1; have q3 := hS.2.2.2; go_simp; exact zO hK
            refine zS (fun w' hS hV K hK => ?_) ?_
            · have q0 := hS.1; have q1 := hS.2.1; have q2 := hS.2.2.1; have q3 := hS.2.2.2; go_simp; exact zO hK
            refine zS (fun w' hS hV K hK => ?_) ?_
            · have q0 := hS.1; have q1 := hS.2.1; have q2 := hS.2.2.1; have q3 := hS.2.2.2; go_simp; exact zO hK
            refine zS (fun w' hS hV K hK => ?_) ?_
            · have e6 := zQ hV 6; have e7 := zQ hV 7; have q0 := hS.1; have q1 := hS.2.1; have q2 := hS.2.2.1; have q3 := hS.2.2.2; go_simp; exact zO hK
            refine zS (fun w' hS hV K hK => ?_) ?_
            · have e8 := zQ hV 8; have q0 := hS.1; have q1 := hS.2.1; have q2 := hS.2.2.1; have q3 := hS.2.2.2; go_simp; exact zO hK
            refine zS (fun w' hS hV K hK => ?_) ?_
            · have q0 := hS.1; have q1 := hS.2.1; have q2 := hS.2.2.1; have q3 := hS.2.2.2; go_simp; exact zO hK
            refine zS (fun w' hS hV K hK => ?_) ?_
            · have e9 := zQ hV 9; have e10 := zQ hV 10; have q0 := hS.1; have q1 := hS.2.1; have q2 := hS.2.2.1; have q3 := hS.2.2.2; go_simp; exact zO hK
            refine zS (fun w' hS hV K hK => ?_) ?_
            · have e11 := zQ hV 11; have q0 := hS.1; have q1 := hS.2.1; have q2 := hS.2.2.1; have q3 := hS.2.2.2; go_simp; exact zO hK
            refine zS (fun w' hS hV K hK => ?_) ?_
            · have e12 := zQ hV 12; have q0 := hS.1; have q1 := hS.2.1; have q2 := hS.2.2.1; have q3 := hS.2.2.2; go_simp; exact zO hK
            refine zS (fun w' hS hV K hK => ?_) ?_
            · have e5 := zQ hV 5; have e13 := zQ hV 13; have q0 := hS.1; have q1 := hS.2.1; have q2 := hS.2.2.1; have q3 := hS.2.2.2; go_simp; refine (hmod w').mono ?_; rintro e v1 ⟨rfl, rfl⟩; exact zO hK
            refine zS (fun w' hS hV K hK => ?_) ?_
            · have e0 := zQ hV 0; have e4 := zQ hV 4; have q0 := hS.1; have q1 := hS.2.1; have q2 := hS.2.2.1; have q3 := hS.2.2.2; go_simp; exact zO hK
            refine fun w' hS hV => ?_
            have e0 := zT hV 0
            have e1 := zT hV 1
            have e2 := zT hV 2
            have e3 := zT hV 3
            have e4 := zT hV 4
            have e5 := zT hV 5
            have e6 := zT hV 6
            have e7 := zT hV 7
            have e8 := zT hV 8
            have e9 := zT hV 9
            have e10 := zT hV 10
            have e11 := zT hV 11
            have e12 := zT hV 12
            have e13 := zT hV 13
            have e14 := zT hV 14
            have e15 := zT hV 15
            simp only [e0, e1, e2, e3, e4, e5, e6, e7, e8, e9, e10, e11, e12, e13, e14, e15]
            clear e0 e1 e2 e3 e4 e5 e6 e7 e8 e9 e10 e11 e12 e13 e14 e15
            obtain ⟨q0, q1, q2, q3⟩ := hS
            have hm5 := HMV.out.below q3
            obtain ⟨hoc, hof⟩ := mkI_at hm5 hld
            refine any_one (j := 16) (by kernel_rfl) (Eq.trans (by simp only [zA, zB, zC]; exact rfl) rfl) (fun K hK => ?_)
            go_simp
            refine hK.out _ _ (wpAny_done (by kernel_rfl) ?_ _)
            have hset := (hm5.set l (.int .i64 ym)).1
            rw [ints_set, HST.out] at hset
            clear q0 q1 q2 q3 hm5 hoc hof hmod
            go_wp2
            go_roundw
            case rel => exact ⟨k + 1, by omega, by go_num, hset⟩
            case measure => simp [intOf]; omega
          · obtain rfl : k = j := by omega
            have HFR : Hid (MkI wo wr (some ⟨wo.heap.size, 0, none⟩) n n (freeRow p B n f)) := Lib.hid (by
             have e : freePart p B n f (leftFrom B k) = freeRow p B n f := freePart_congr p B n f (fun k' _ => by rw [HD.out]; exact leftFrom_end k')
             rw [← e]; exact HMV.out)
            go_wp2_with (at_builtin; refine wpList_appRowG wb wo _ rfl _ _ rfl A2 q c2 _ _ n n _ HM.out HFR.out (by omega) rfl ?_ ?_; (go_simp); intro A6 c6 w6 hM6 hg6 _)
            have hpn := (HPO.out.below HFR.out.b).grown hg6 ((HPO.out.below HFR.out.b).ne (HM.out.outer.choose_spec.below HFR.out.b).2 (by decide))
            go_roundw
            case rel => exact ⟨f + 1, q + 1, A6, c6, by omega, by omega, by go_num, rfl, by rw [freeTo_take hlb]; exact hM6, hpn⟩
            case measure => simp [intOf]; omega
       · have hhas := l01Has_b A' j c' (tab j fun i => ((ld B i : Nat) : Int)) (f : Int) wo (by omega) (Own.rd HPO.out) ((HCON.out f).trans hlb)
         go_wp2_with (go_at_call 147; refine hhas.mono ?_; rintro e w' ⟨rfl, rfl⟩)
         go_roundw
         case rel => exact ⟨f + 1, q, A2, c2, by omega, by omega, by go_num, rfl, by rw [freeTo_skip hlb]; exact HM.out, HPO.out⟩
         case measure => simp [intOf]; omega
     · obtain rfl : f = n := by omega
       have hlast := l12Reduced_any p A2 q c2 (freeTo p B f f) f wo HP'.out hn (by omega) HM.out.rd (freeTo_tab hp B f f)
       rw [← HKL.out] at hlast
       have HBW := Lib.hid (HB7.out.b.trans (HM.out.b.mono HB7.out.b.size))
       go_wp2_with fail
       refine hlast.mono ?_
       rintro e w5 ⟨A5, c5, rfl, hM5⟩
       go_wp2
       go_ret
       exact ⟨_, _, rfl, hM5.after HBW.out⟩
end Go.Proofs.YtaiegpggccdgoaaGreat
namespace Go.Proofs.YtaiegpggccdgoaaGreat
open Go.RowKit
def isTbR (p : Int) (l0 : Nat) (r : List Int) : Bool := (r.length == l0) && decide (1 ≤ r.length) && decide (r.length ≤ 16) && nums p r
def isTb (p : Int) (M : List (List Int)) : Bool := decide (M.length ≤ 16) && M.all (isTbR p (M.getD 0 []).length)
theorem tb_step {p : Int} {l0 : Nat} {M : List (List Int)} {k : Nat} (hk : k < M.length) (h : ((M.take k).all (isTbR p l0)) = true) (h1 : isTbR p l0 M[k] = true) : ((M.take (k + 1)).all (isTbR p l0)) = true := by
 rw [List.take_succ_eq_append_getElem hk, List.all_append, h]; simp [h1]
theorem tb_stop {p : Int} {l0 : Nat} {M : List (List Int)} {k : Nat} (hk : k < M.length) (h1 : isTbR p l0 M[k] = false) : (M.all (isTbR p l0)) = false :=
 List.all_eq_false.2 ⟨M[k], List.getElem_mem hk, by simp [h1]⟩
set_option maxHeartbeats 1600000 in
set_option maxRecDepth 8000 in
theorem isTable_gen (p : Int) (A : Option Addr) (n c : Nat) (M : List (List Int)) (w : World) (hp0 : 0 < p) (hp1 : p ≤ 13) (hn : n ≤ 1048576) (ha : RdII w A n M) (hM : ∀ r ∈ M, r.length ≤ 1048576) :
    Calls Tryz.prog 155 #[.int .i64 p, .slice A n c] w fun e w' => e = .returned (.bool (isTb p M)) ∧ w = w' := by
 have HLN := Lib.hid ha.len
 have HMM := Lib.hid hM
 obtain ⟨R, hR⟩ : ∃ b, b = isTb p M := ⟨_, rfl⟩
 rw [← hR]
 by_cases h16 : 16 < n
 · obtain rfl : R = false := by rw [hR]; unfold isTb; rw [decide_eq_false (by rw [HLN.out]; omega)]; rfl
   have t1 : decide ((16 : Int) < (n : Int)) = true := by simp; omega
   clear hR hM
   go_enter Tryz.func155, Tryz.ntmps155
   go_wp2
   go_ret
   exact ⟨rfl, rfl⟩
 have t1 : decide ((16 : Int) < (n : Int)) = false := by simp; omega
 obtain ⟨l0, hl0⟩ : ∃ l, l = (M.getD 0 []).length := ⟨_, rfl⟩
 have HL0 := Lib.hid hl0
 have HR : Hid (R = M.all (isTbR p l0)) := Lib.hid (by rw [hR]; unfold isTb; rw [decide_eq_true (by rw [HLN.out]; omega), Bool.true_and, hl0])
 clear hM hR hl0
 go_enter Tryz.func155, Tryz.ntmps155
 go_wp2
 go_loopw [12] (fun i wr => ∃ k : Nat, k ≤ n ∧ i = .int .i64 k ∧ wr = w ∧ Hid (((M.take k).all (isTbR p l0)) = true)) (fun i _ => n - (intOf i).toNat)
 case atStart => exact ⟨0, by omega, rfl, rfl, Lib.hid (by simp)⟩
 case round =>
  obtain ⟨k, hk, rfl, rfl, HK⟩ := hrel
  by_cases hlt : k < n
  · obtain ⟨g, o, rfl, hxk, A1, c1, hc1, hr1, -⟩ := ha.at_ hlt
    obtain ⟨g0, o0, e0, hx0, A0, c0, hc0, hr0, -⟩ := ha.at_ (show 0 < n by omega)
    cases e0
    have hll : M[0].length = l0 := by rw [HL0.out, List.getD_eq_getElem?_getD, List.getElem?_eq_getElem hx0]; rfl
    rw [hll, Nat.add_zero] at hc0
    have hml := HMM.out M[k] (List.getElem_mem hxk)
    obtain ⟨m, hm⟩ : ∃ m, m = M[k].length := ⟨_, rfl⟩
    have HSTEP := Lib.hid (tb_step hxk HK.out)
    have HSTOP := Lib.hid (tb_stop (p := p) (l0 := l0) hxk)
    have HTR : Hid (isTbR p l0 M[k] = ((m == l0) && decide (1 ≤ m) && decide (m ≤ 16) && nums p M[k])) := Lib.hid (by rw [hm]; rfl)
    rw [← hm] at hc1 hr1 hml
    clear hr0 ha hll hm
    by_cases e1 : m = l0
    · subst e1
      have t4 : ((m : Int) != (m : Int)) = false := by simp
      by_cases e2 : m < 1
      · obtain rfl : R = false := by rw [HR.out, HSTOP.out (by rw [HTR.out, decide_eq_false (show ¬ 1 ≤ m by omega)]; simp)]
        have t2 : decide ((m : Int) < 1) = true := by simp; omega
        clear HSTEP HSTOP HTR HR
        go_wp2
        go_ret
        exact ⟨rfl, rfl⟩
      have t2 : decide ((m : Int) < 1) = false := by simp; omega
      by_cases e3 : 16 < m
      · obtain rfl : R = false := by rw [HR.out, HSTOP.out (by rw [HTR.out, decide_eq_false (show ¬ m ≤ 16 by omega)]; simp)]
        have t3 : decide ((16 : Int) < (m : Int)) = true := by simp; omega
        clear HSTEP HSTOP HTR HR
        go_wp2
        go_ret
        exact ⟨rfl, rfl⟩
      have t3 : decide ((16 : Int) < (m : Int)) = false := by simp; omega
      obtain ⟨b, hb⟩ : ∃ b, b = nums p M[k] := ⟨_, rfl⟩
      have his := is_b p A1 m c1 M[k] wr (by omega) (by omega) (by omega) hr1 hb.symm
      have HB : Hid (isTbR p m M[k] = b) := Lib.hid (by rw [HTR.out, ← hb, decide_eq_true (show 1 ≤ m by omega), decide_eq_true (show m ≤ 16 by omega)]; simp)
      clear hr1 hb HTR
      go_wp2_with fail
      refine his.mono ?_
      rintro e w1 ⟨rfl, rfl⟩
      cases b
      · obtain rfl : R = false := by rw [HR.out, HSTOP.out HB.out]
        clear HB HSTEP HSTOP HR
        go_wp2
        go_ret
        exact ⟨rfl, rfl⟩
      · have HB1 := Lib.hid (HSTEP.out HB.out)
        clear HB HSTEP HSTOP
        go_wp2
        go_roundw
        case rel => exact ⟨k + 1, by omega, by go_num, by first | rfl | trivial, HB1⟩
        case measure => simp [intOf]; omega
    · obtain rfl : R = false := by rw [HR.out, HSTOP.out (by rw [HTR.out, show (m == l0) = false by simpa using e1]; simp)]
      have t4 : ((m : Int) != (l0 : Int)) = true := by simp; omega
      clear HSTEP HSTOP HTR HR
      go_wp2
      go_ret
      exact ⟨rfl, rfl⟩
  · obtain rfl : k = n := by omega
    have hr := HK.out
    rw [List.take_of_length_le (by rw [HLN.out]; omega)] at hr
    obtain rfl : R = true := HR.out.trans hr
    clear hr HR
    go_wp2
    go_ret
    exact ⟨rfl, rfl⟩
set_option maxHeartbeats 800000 in
set_option maxRecDepth 8000 in
theorem isMatrix_gen (p : Int) (A : Option Addr) (n c : Nat) (M : List (List Int)) (w : World) (hp0 : 0 < p) (hp1 : p ≤ 13) (hn : n ≤ 1048576) (ha : RdII w A n M) (hM : ∀ r ∈ M, r.length ≤ 1048576) :
    Calls Tryz.prog 144 #[.int .i64 p, .slice A n c] w fun e w' => e = .returned (.bool (decide (0 < n) && isTb p M)) ∧ w = w' := by
 have h := isTable_gen p A n c M w hp0 hp1 hn ha hM
 by_cases h0 : 0 < n
 · have t1 : decide ((0 : Int) < (n : Int)) = true := by simp; omega
   rw [decide_eq_true h0, Bool.true_and]
   obtain ⟨R, hR⟩ : ∃ b, b = isTb p M := ⟨_, rfl⟩
   rw [← hR] at h ⊢
   clear hR hM
   go_enter Tryz.func144, Tryz.ntmps144
   go_wp2_with fail
   refine h.mono ?_
   rintro e w1 ⟨rfl, rfl⟩
   go_wp2
   go_ret
   exact ⟨rfl, rfl⟩
 · have t1 : decide ((0 : Int) < (n : Int)) = false := by simp; omega
   rw [decide_eq_false h0, Bool.false_and]
   clear h hM
   go_enter Tryz.func144, Tryz.ntmps144
   go_wp2
   go_ret
   exact ⟨rfl, rfl⟩
end Go.Proofs.YtaiegpggccdgoaaGreat
namespace Go.Proofs.YtaiegpggccdgoaaGreat
open Go Go.RowKit
/-- The slice reads as a list of lists of lists. -/
def RdM3 (w : World) (A : Option Addr) (n : Nat) (mss : List (List (List Int))) : Prop := ∃ rows, Rd w A n rows ∧ rows.length = mss.length ∧
 ∀ (k : Nat) (h : k < mss.length), ∃ A' c', rows[k]? = some (.slice A' mss[k].length c') ∧ RdII w A' mss[k].length mss[k] ∧ mss[k].length ≤ c'
section
variable {w w' : World} {A : Option Addr} {n c : Nat} {mss : List (List (List Int))}
theorem RdM3.len (h : RdM3 w A n mss) : mss.length = n := by obtain ⟨rows, hr, hl, _⟩ := h; rw [← hl]; exact hr.1
theorem RdM3.below (h : RdM3 w A n mss) (hb : Below w.heap.size w w') : RdM3 w' A n mss := by
 obtain ⟨rows, hr, hl, hk⟩ := h
 exact ⟨rows, hr.below hb, hl, fun k hlt => by obtain ⟨A', c', e, h1, h2⟩ := hk k hlt; exact ⟨A', c', e, h1.below hb, h2⟩⟩
theorem RdM3.at_ (h : RdM3 w A n mss) {k : Nat} (hk : k < n) : ∃ g o, A = some ⟨g, o, none⟩ ∧ ∃ (hx : k < mss.length) (A' : Option Addr) (c' : Nat),
    w.cell? ⟨g, o + k, none⟩ = some (.slice A' mss[k].length c') ∧ RdII w A' mss[k].length mss[k] ∧ mss[k].length ≤ c' := by
 have hlen := h.len
 obtain ⟨rows, hr, hl, hrow⟩ := h
 obtain ⟨g, o, e, hc⟩ := hr.2 (by omega)
 have hx : k < mss.length := by omega
 obtain ⟨A', c', he, h1, h2⟩ := hrow k hx
 exact ⟨g, o, e, hx, A', c', hc k _ he, h1, h2⟩
theorem RdM3.nil (w : World) : RdM3 w none 0 [] := ⟨[], Rd.nil _ _, rfl, fun k h => absurd h (by simp)⟩
end
def TellsM3 (f : FuncId) (cap : Array Value) (w : World) (p : List (List Int) → Bool) (ok : List (List Int) → Prop) : Prop :=
 ∀ (w' : World) (A : Option Addr) (m c : Nat) (xs : List (List Int)), Below w.heap.size w w' → RdII w' A m xs → ok xs →
  Calls Tryz.prog f (#[.slice A m c] ++ cap) w' fun e w'' => e = .returned (.bool (p xs)) ∧ Below w'.heap.size w' w''
set_option maxHeartbeats 800000 in
set_option maxRecDepth 8000 in
theorem IndexFuncM3_any (f : FuncId) (q : Addr) (p : List (List Int) → Bool) (ok : List (List Int) → Prop) (A : Option Addr) (n c : Nat) (xss : List (List (List Int))) (w : World) (hn : n ≤ 1099511627776) (ha : RdM3 w A n xss) (hok : ∀ xs ∈ xss, ok xs)
    (hf : TellsM3 f #[.pointer (some q)] w p ok) (hcf : ∀ (args : Array Value) (w : World), (callFunc f args).run Tryz.prog w = .ok (.enter f args) w) :
    Calls Tryz.prog 143 #[.slice A n c, .func (.func f) #[] #[.pointer (some q)]] w fun e w' => ∃ r : Int, e = .returned (.int .i64 r) ∧ decide (0 ≤ r) = xss.any p ∧ Below w.heap.size w w' := by
 have hxl := ha.len
 have Hx := Lib.hid hxl; clear hxl
 go_enter Tryz.func143, Tryz.ntmps143
 go_wp2
 go_loopw [8] (fun i wr => ∃ k : Nat, k ≤ n ∧ i = .int .i64 k ∧ (xss.take k).any p = false ∧ Below w.heap.size w wr) (fun i _ => n - (intOf i).toNat)
 case atStart => exact ⟨0, by omega, rfl, by simp, Below.refl _ _⟩
 case round =>
  obtain ⟨k, hk, rfl, ht, hB⟩ := hrel
  have H := Lib.hid ht; clear ht
  by_cases hlt : k < n
  · obtain ⟨g, o, rfl, hx, A', c', hcx, hr, -⟩ := (ha.below hB).at_ hlt
    have hoki := hok xss[k] (List.getElem_mem hx)
    clear ha
    cases hi : p xss[k]
    all_goals
     have HI := Lib.hid hi; clear hi
     go_wp2_with fail
     refine (hf _ _ _ _ _ hB hr hoki).mono ?_
     rintro e w1 ⟨rfl, hb1⟩
     rw [HI.out]
     go_wp2
    · go_roundw
      case rel =>
       refine ⟨k + 1, by omega, by go_num, ?_, hB.trans (hb1.mono hB.size)⟩
       rw [List.take_succ_eq_append_getElem hx, List.any_append, H.out]
       simpa using HI.out
      case measure => simp [intOf]; omega
    · go_ret
      refine ⟨_, rfl, ?_, hB.trans (hb1.mono hB.size)⟩
      have : xss.any p = true := List.any_eq_true.2 ⟨xss[k], List.getElem_mem hx, HI.out⟩
      rw [this]; simp
  · go_wp2
    go_ret
    refine ⟨_, rfl, ?_, hB⟩
    have := H.out
    rw [List.take_of_length_le (by rw [Hx.out]; omega)] at this
    rw [this]; simp
set_option maxHeartbeats 400000 in
set_option maxRecDepth 8000 in
theorem ContainsFuncM3_any (f : FuncId) (q : Addr) (p : List (List Int) → Bool) (ok : List (List Int) → Prop) (A : Option Addr) (n c : Nat) (xss : List (List (List Int))) (w : World) (hn : n ≤ 1099511627776) (ha : RdM3 w A n xss) (hok : ∀ xs ∈ xss, ok xs)
    (hf : TellsM3 f #[.pointer (some q)] w p ok) (hcf : ∀ (args : Array Value) (w : World), (callFunc f args).run Tryz.prog w = .ok (.enter f args) w) :
    Calls Tryz.prog 97 #[.slice A n c, .func (.func f) #[] #[.pointer (some q)]] w fun e w' => e = .returned (.bool (xss.any p)) ∧ Below w.heap.size w w' := by
 go_enter Tryz.func97, Tryz.ntmps97
 go_wp2_with fail
 refine (IndexFuncM3_any _ _ _ _ _ _ _ _ _ hn ha hok hf hcf).mono ?_
 rintro e w1 ⟨r, rfl, hr, hb⟩
 have HR := Lib.hid hr; clear hr
 go_wp2
 go_ret
 exact ⟨ret_bool HR.out, hb⟩
/-- Is it a matrix for the elements of a doubling? -/
def isMx (p : Int) (k : Nat) (M : List (List Int)) : Bool := (decide (0 < M.length) && isTb p M) && (M.length == pw k) && ((M.getD 0 []).length == pw k)
set_option maxHeartbeats 1600000 in
set_option maxRecDepth 8000 in
theorem isMx_0 (p : Int) (A : Option Addr) (k c : Nat) (D : Option Addr) (r d : Nat) (M : List (List Int)) (w : World) (hp0 : 0 < p) (hp1 : p ≤ 13) (hk : k ≤ 4) (hr : r ≤ 1048576) (hd : RdII w D r M) (hM : ∀ x ∈ M, x.length ≤ 1048576) (hb : (decide (0 < r) && isTb p M) = false) :
    Calls Tryz.prog 99 #[.agg #[.int .i64 p, .slice A k c], .slice D r d] w fun e w' => e = .returned (.bool false) ∧ Below w.heap.size w w' := by
 have hB0 : Below w.heap.size w (w.alloc (.cells #[.int .i64 p, .slice A k c] 26)) := zG.alloc (Nat.le_refl _) _
 have k0 : Blk (w.alloc (.cells #[.int .i64 p, .slice A k c] 26)) w.heap.size 26 #[.int .i64 p, .slice A k c] := Blk.new _ _ _
 have HIM := Lib.hid fun w' (h : Below w.heap.size w w') => isMatrix_gen p D r d M w' hp0 hp1 hr (hd.below h) hM
 rw [hb] at HIM
 have HDS := Lib.hid fun w' => dsize_any p A k c w' hk
 have hpk : pw k ≤ 16 := pw_le hk
 have hpos := pw_pos k
 obtain ⟨N, hN⟩ : ∃ N, N = pw k := ⟨_, rfl⟩
 rw [← hN] at HDS hpk hpos 
 clear hN
 clear hM hd hb
 obtain ⟨q0, q1⟩ := k0.two
 go_enter Tryz.func99, Tryz.ntmps99
 go_wp2
 refine wp_obs 21 [[],[0],[],[0,1,2],[0,1,2,3],[0,1,2,3,4],[0,1,2,3,4,5],[0,1,2,3,4],[0,1,2,3,4,7],[0,1,2,3,4,5,6,7,8],[0,1,2,3,4,5,6,7,8,9],[0,1,2,3,4,5,6,7,8,9,10],[0,1,2,3,4,5,6,7,8,9,10,11],[0,1,2,3,4,5,6,7,8,9,10,11,12],[0,1,2,3,4,5,6,7,8,9,10,11,12,13],[0,1,2,3,4,5,6,7,8,9,10,11,12,13,14],[0,1,2,3,4,5,6,7,8,9,10,11],[0,1,2,3,4,5,6,7,8,9,10,11,16],[0,1,2,3,4,5,6,7,8,9,10,11,12,13,14,15,16,17],[0,1,2,3,4,5,6,7,8,9,10,11,12,13,14,15,16,17,18],[0,1,2,3,4,5,6,7,8,9,10,11,12,13,14,15,16,17,18,19]] [VIs (.agg #[.int .i64 p, .slice A k c]), VIs (.int .i64 (p)), VIs (.slice D r d), VIs (.bool false), VIs (.bool false), VIs undef, VIs undef, VIs undef, VIs undef, VIs undef, VIs (.bool false), VIs (.bool false), VIs undef, VIs undef, VIs undef, VIs undef, VIs undef, VIs undef, VIs undef, VIs (.bool false), VIs (.bool false)] (fun w' => Blk w' w.heap.size 26 #[.int .i64 p, .slice A k c] ∧ Below w.heap.size w w') (by kernel_rfl) (by kernel_rfl) (fun _ _ h hb => ⟨h.1.below hb h.1.lt, h.2.trans (hb.mono h.2.size)⟩) (⟨k0.drew, hB0.drew⟩) (fun x => ?_)
 refine zS (fun w' hS hV K hK => ?_) ?_
 · obtain ⟨q0, q1⟩ := hS.1.two; go_simp; exact zO hK
 refine zS (fun w' hS hV K hK => ?_) ?_
 · have e0 := zQ hV 0; obtain ⟨q0, q1⟩ := hS.1.two; go_simp; refine (dfield_any p A k c w').mono ?_; rintro e v1 ⟨rfl, hb⟩; exact hK.out _ _ _ rfl rfl rfl hb
 refine zS (fun w' hS hV K hK => ?_) ?_
 · obtain ⟨q0, q1⟩ := hS.1.two; go_simp; exact zO hK
 refine zS (fun w' hS hV K hK => ?_) ?_
 · have e1 := zQ hV 1; have e2 := zQ hV 2; obtain ⟨q0, q1⟩ := hS.1.two; go_simp; refine (HIM.out _ hS.2).mono ?_; rintro e v1 ⟨rfl, rfl⟩; exact zO hK
 refine zS (fun w' hS hV K hK => ?_) ?_
 · have e3 := zQ hV 3; obtain ⟨q0, q1⟩ := hS.1.two; go_simp; exact zO hK
 refine zS (fun w' hS hV K hK => ?_) ?_
 · have e4 := zQ hV 4; obtain ⟨q0, q1⟩ := hS.1.two; go_simp; exact zO hK
 refine zS (fun w' hS hV K hK => ?_) ?_
 · have e4 := zQ hV 4; have e5 := zQ hV 5; obtain ⟨q0, q1⟩ := hS.1.two; go_simp; exact zO hK
 refine zS (fun w' hS hV K hK => ?_) ?_
 · have e4 := zQ hV 4; obtain ⟨q0, q1⟩ := hS.1.two; go_simp; exact zO hK
 refine zS (fun w' hS hV K hK => ?_) ?_
 · have e4 := zQ hV 4; have e7 := zQ hV 7; obtain ⟨q0, q1⟩ := hS.1.two; go_simp; exact zO hK
 refine zS (fun w' hS hV K hK => ?_) ?_
 · have e4 := zQ hV 4; have e6 := zQ hV 6; have e8 := zQ hV 8; obtain ⟨q0, q1⟩ := hS.1.two; go_simp; exact zO hK
 refine zS (fun w' hS hV K hK => ?_) ?_
 · have e4 := zQ hV 4; have e9 := zQ hV 9; obtain ⟨q0, q1⟩ := hS.1.two; go_simp; exact zO hK
 refine zS (fun w' hS hV K hK => ?_) ?_
 · have e10 := zQ hV 10; obtain ⟨q0, q1⟩ := hS.1.two; go_simp; exact zO hK
 refine zS (fun w' hS hV K hK => ?_) ?_
 · have e11 := zQ hV 11; obtain ⟨q0, q1⟩ := hS.1.two; go_simp; exact zO hK
 refine zS (fun w' hS hV K hK => ?_) ?_
 · have e11 := zQ hV 11; have e12 := zQ hV 12; obtain ⟨q0, q1⟩ := hS.1.two; go_simp; exact zO hK
 refine zS (fun w' hS hV K hK => ?_) ?_
 · have e11 := zQ hV 11; have e13 := zQ hV 13; obtain ⟨q0, q1⟩ := hS.1.two; go_simp; exact zO hK
 refine zS (fun w' hS hV K hK => ?_) ?_
 · have e11 := zQ hV 11; have e14 := zQ hV 14; obtain ⟨q0, q1⟩ := hS.1.two; go_simp; exact zO hK
 refine zS (fun w' hS hV K hK => ?_) ?_
 · have e11 := zQ hV 11; obtain ⟨q0, q1⟩ := hS.1.two; go_simp; exact zO hK
 refine zS (fun w' hS hV K hK => ?_) ?_
 · have e11 := zQ hV 11; have e16 := zQ hV 16; obtain ⟨q0, q1⟩ := hS.1.two; go_simp; exact zO hK
 refine zS (fun w' hS hV K hK => ?_) ?_
 · have e11 := zQ hV 11; have e15 := zQ hV 15; have e17 := zQ hV 17; obtain ⟨q0, q1⟩ := hS.1.two; go_simp; exact zO hK
 refine zS (fun w' hS hV K hK => ?_) ?_
 · have e11 := zQ hV 11; have e18 := zQ hV 18; obtain ⟨q0, q1⟩ := hS.1.two; go_simp; exact zO hK
 refine zS (fun w' hS hV K hK => ?_) ?_
 · have e19 := zQ hV 19; obtain ⟨q0, q1⟩ := hS.1.two; go_simp; exact zO hK
 refine fun w' hS hV => ?_
 have e0 := zT hV 0
 have e1 := zT hV 1
 have e2 := zT hV 2
 have e3 := zT hV 3
 have e4 := zT hV 4
 have e5 := zT hV 5
 have e6 := zT hV 6
 have e7 := zT hV 7
 have e8 := zT hV 8
 have e9 := zT hV 9
 have e10 := zT hV 10
 have e11 := zT hV 11
 have e12 := zT hV 12
 have e13 := zT hV 13
 have e14 := zT hV 14
 have e15 := zT hV 15
 have e16 := zT hV 16
 have e17 := zT hV 17
 have e18 := zT hV 18
 have e19 := zT hV 19
 have e20 := zT hV 20
 simp only [e0, e1, e2, e3, e4, e5, e6, e7, e8, e9, e10, e11, e12, e13, e14, e15, e16, e17, e18, e19, e20]
 clear e0 e1 e2 e3 e4 e5 e6 e7 e8 e9 e10 e11 e12 e13 e14 e15 e16 e17 e18 e19 e20
 refine wpAny_done (by kernel_rfl) ?_ _
 have hb9 := hS.2
 go_wp2
 go_ret
 exact ⟨rfl, hb9⟩
set_option maxHeartbeats 1600000 in
set_option maxRecDepth 8000 in
theorem isMx_1 (p : Int) (A : Option Addr) (k c : Nat) (D : Option Addr) (r d : Nat) (M : List (List Int)) (w : World) (hp0 : 0 < p) (hp1 : p ≤ 13) (hk : k ≤ 4) (hr : r ≤ 1048576) (hd : RdII w D r M) (hM : ∀ x ∈ M, x.length ≤ 1048576) (hb : (decide (0 < r) && isTb p M) = true) (h1 : r ≠ pw k) :
    Calls Tryz.prog 99 #[.agg #[.int .i64 p, .slice A k c], .slice D r d] w fun e w' => e = .returned (.bool false) ∧ Below w.heap.size w w' := by
 have hB0 : Below w.heap.size w (w.alloc (.cells #[.int .i64 p, .slice A k c] 26)) := zG.alloc (Nat.le_refl _) _
 have k0 : Blk (w.alloc (.cells #[.int .i64 p, .slice A k c] 26)) w.heap.size 26 #[.int .i64 p, .slice A k c] := Blk.new _ _ _
 have HIM := Lib.hid fun w' (h : Below w.heap.size w w') => isMatrix_gen p D r d M w' hp0 hp1 hr (hd.below h) hM
 rw [hb] at HIM
 have HDS := Lib.hid fun w' => dsize_any p A k c w' hk
 have hpk : pw k ≤ 16 := pw_le hk
 have hpos := pw_pos k
 obtain ⟨N, hN⟩ : ∃ N, N = pw k := ⟨_, rfl⟩
 rw [← hN] at HDS hpk hpos h1
 clear hN
 have t4 : ((r : Int) == (N : Int)) = false := by rw [beq_eq_false_iff_ne]; omega
 clear h1
 clear hM hd hb
 obtain ⟨q0, q1⟩ := k0.two
 go_enter Tryz.func99, Tryz.ntmps99
 go_wp2
 refine wp_obs 21 [[],[0],[],[0,1,2],[0,1,2,3],[0,1,2,3,4],[0,1,2,3,4,5],[0,1,2,3,4],[0,1,2,3,4,7],[0,1,2,3,4,5,6,7,8],[0,1,2,3,4,5,6,7,8,9],[0,1,2,3,4,5,6,7,8,9,10],[0,1,2,3,4,5,6,7,8,9,10,11],[0,1,2,3,4,5,6,7,8,9,10,11,12],[0,1,2,3,4,5,6,7,8,9,10,11,12,13],[0,1,2,3,4,5,6,7,8,9,10,11,12,13,14],[0,1,2,3,4,5,6,7,8,9,10,11],[0,1,2,3,4,5,6,7,8,9,10,11,16],[0,1,2,3,4,5,6,7,8,9,10,11,12,13,14,15,16,17],[0,1,2,3,4,5,6,7,8,9,10,11,12,13,14,15,16,17,18],[0,1,2,3,4,5,6,7,8,9,10,11,12,13,14,15,16,17,18,19]] [VIs (.agg #[.int .i64 p, .slice A k c]), VIs (.int .i64 (p)), VIs (.slice D r d), VIs (.bool true), VIs (.bool true), VIs (.slice D r d), VIs (.int .i64 (r)), VIs (.agg #[.int .i64 p, .slice A k c]), VIs (.int .i64 (N)), VIs (.bool false), VIs (.bool false), VIs (.bool false), VIs undef, VIs undef, VIs undef, VIs undef, VIs undef, VIs undef, VIs undef, VIs (.bool false), VIs (.bool false)] (fun w' => Blk w' w.heap.size 26 #[.int .i64 p, .slice A k c] ∧ Below w.heap.size w w') (by kernel_rfl) (by kernel_rfl) (fun _ _ h hb => ⟨h.1.below hb h.1.lt, h.2.trans (hb.mono h.2.size)⟩) (⟨k0.drew, hB0.drew⟩) (fun x => ?_)
 refine zS (fun w' hS hV K hK => ?_) ?_
 · obtain ⟨q0, q1⟩ := hS.1.two; go_simp; exact zO hK
 refine zS (fun w' hS hV K hK => ?_) ?_
 · have e0 := zQ hV 0; obtain ⟨q0, q1⟩ := hS.1.two; go_simp; refine (dfield_any p A k c w').mono ?_; rintro e v1 ⟨rfl, hb⟩; exact hK.out _ _ _ rfl rfl rfl hb
 refine zS (fun w' hS hV K hK => ?_) ?_
 · obtain ⟨q0, q1⟩ := hS.1.two; go_simp; exact zO hK
 refine zS (fun w' hS hV K hK => ?_) ?_
 · have e1 := zQ hV 1; have e2 := zQ hV 2; obtain ⟨q0, q1⟩ := hS.1.two; go_simp; refine (HIM.out _ hS.2).mono ?_; rintro e v1 ⟨rfl, rfl⟩; exact zO hK
 refine zS (fun w' hS hV K hK => ?_) ?_
 · have e3 := zQ hV 3; obtain ⟨q0, q1⟩ := hS.1.two; go_simp; exact zO hK
 refine zS (fun w' hS hV K hK => ?_) ?_
 · have e4 := zQ hV 4; obtain ⟨q0, q1⟩ := hS.1.two; go_simp; exact zO hK
 refine zS (fun w' hS hV K hK => ?_) ?_
 · have e4 := zQ hV 4; have e5 := zQ hV 5; obtain ⟨q0, q1⟩ := hS.1.two; go_simp; exact zO hK
 refine zS (fun w' hS hV K hK => ?_) ?_
 · have e4 := zQ hV 4; obtain ⟨q0, q1⟩ := hS.1.two; go_simp; exact zO hK
 refine zS (fun w' hS hV K hK => ?_) ?_
 · have e4 := zQ hV 4; have e7 := zQ hV 7; obtain ⟨q0, q1⟩ := hS.1.two; go_simp; refine (HDS.out w').mono ?_; rintro e v1 ⟨rfl, hb⟩; exact hK.out _ _ _ rfl rfl rfl hb
 refine zS (fun w' hS hV K hK => ?_) ?_
 · have e4 := zQ hV 4; have e6 := zQ hV 6; have e8 := zQ hV 8; obtain ⟨q0, q1⟩ := hS.1.two; go_simp; exact zO hK
 refine zS (fun w' hS hV K hK => ?_) ?_
 · have e4 := zQ hV 4; have e9 := zQ hV 9; obtain ⟨q0, q1⟩ := hS.1.two; go_simp; exact zO hK
 refine zS (fun w' hS hV K hK => ?_) ?_
 · have e10 := zQ hV 10; obtain ⟨q0, q1⟩ := hS.1.two; go_simp; exact zO hK
 refine zS (fun w' hS hV K hK => ?_) ?_
 · have e11 := zQ hV 11; obtain ⟨q0, q1⟩ := hS.1.two; go_simp; exact zO hK
 refine zS (fun w' hS hV K hK => ?_) ?_
 · have e11 := zQ hV 11; have e12 := zQ hV 12; obtain ⟨q0, q1⟩ := hS.1.two; go_simp; exact zO hK
 refine zS (fun w' hS hV K hK => ?_) ?_
 · have e11 := zQ hV 11; have e13 := zQ hV 13; obtain ⟨q0, q1⟩ := hS.1.two; go_simp; exact zO hK
 refine zS (fun w' hS hV K hK => ?_) ?_
 · have e11 := zQ hV 11; have e14 := zQ hV 14; obtain ⟨q0, q1⟩ := hS.1.two; go_simp; exact zO hK
 refine zS (fun w' hS hV K hK => ?_) ?_
 · have e11 := zQ hV 11; obtain ⟨q0, q1⟩ := hS.1.two; go_simp; exact zO hK
 refine zS (fun w' hS hV K hK => ?_) ?_
 · have e11 := zQ hV 11; have e16 := zQ hV 16; obtain ⟨q0, q1⟩ := hS.1.two; go_simp; exact zO hK
 refine zS (fun w' hS hV K hK => ?_) ?_
 · have e11 := zQ hV 11; have e15 := zQ hV 15; have e17 := zQ hV 17; obtain ⟨q0, q1⟩ := hS.1.two; go_simp; exact zO hK
 refine zS (fun w' hS hV K hK => ?_) ?_
 · have e11 := zQ hV 11; have e18 := zQ hV 18; obtain ⟨q0, q1⟩ := hS.1.two; go_simp; exact zO hK
 refine zS (fun w' hS hV K hK => ?_) ?_
 · have e19 := zQ hV 19; obtain ⟨q0, q1⟩ := hS.1.two; go_simp; exact zO hK
 refine fun w' hS hV => ?_
 have e0 := zT hV 0
 have e1 := zT hV 1
 have e2 := zT hV 2
 have e3 := zT hV 3
 have e4 := zT hV 4
 have e5 := zT hV 5
 have e6 := zT hV 6
 have e7 := zT hV 7
 have e8 := zT hV 8
 have e9 := zT hV 9
 have e10 := zT hV 10
 have e11 := zT hV 11
 have e12 := zT hV 12
 have e13 := zT hV 13
 have e14 := zT hV 14
 have e15 := zT hV 15
 have e16 := zT hV 16
 have e17 := zT hV 17
 have e18 := zT hV 18
 have e19 := zT hV 19
 have e20 := zT hV 20
 simp only [e0, e1, e2, e3, e4, e5, e6, e7, e8, e9, e10, e11, e12, e13, e14, e15, e16, e17, e18, e19, e20]
 clear e0 e1 e2 e3 e4 e5 e6 e7 e8 e9 e10 e11 e12 e13 e14 e15 e16 e17 e18 e19 e20
 refine wpAny_done (by kernel_rfl) ?_ _
 have hb9 := hS.2
 go_wp2
 go_ret
 exact ⟨rfl, hb9⟩
set_option maxHeartbeats 1600000 in
set_option maxRecDepth 8000 in
theorem isMx_2 (p : Int) (A : Option Addr) (k c : Nat) (D : Option Addr) (r d : Nat) (M : List (List Int)) (w : World) (hp0 : 0 < p) (hp1 : p ≤ 13) (hk : k ≤ 4) (hr : r ≤ 1048576) (hd : RdII w D r M) (hM : ∀ x ∈ M, x.length ≤ 1048576) (hb : (decide (0 < r) && isTb p M) = true) (h1 : r = pw k) (h2 : (M.getD 0 []).length ≠ pw k) :
    Calls Tryz.prog 99 #[.agg #[.int .i64 p, .slice A k c], .slice D r d] w fun e w' => e = .returned (.bool false) ∧ Below w.heap.size w w' := by
 have hB0 : Below w.heap.size w (w.alloc (.cells #[.int .i64 p, .slice A k c] 26)) := zG.alloc (Nat.le_refl _) _
 have k0 : Blk (w.alloc (.cells #[.int .i64 p, .slice A k c] 26)) w.heap.size 26 #[.int .i64 p, .slice A k c] := Blk.new _ _ _
 have HIM := Lib.hid fun w' (h : Below w.heap.size w w') => isMatrix_gen p D r d M w' hp0 hp1 hr (hd.below h) hM
 rw [hb] at HIM
 have HDS := Lib.hid fun w' => dsize_any p A k c w' hk
 have hpk : pw k ≤ 16 := pw_le hk
 have hpos := pw_pos k
 obtain ⟨N, hN⟩ : ∃ N, N = pw k := ⟨_, rfl⟩
 rw [← hN] at HDS hpk hpos h1 h2
 clear hN
 obtain ⟨g, o, rfl, hx0, A0, c0, hc0, -, -⟩ := (hd.below hB0).at_ (show 0 < r by omega)
 have hm0 : M[0].length = (M.getD 0 []).length := by rw [List.getD_eq_getElem?_getD, List.getElem?_eq_getElem hx0]; rfl
 rw [hm0, Nat.add_zero] at hc0
 obtain ⟨m, hm⟩ : ∃ m, m = (M.getD 0 []).length := ⟨_, rfl⟩
 rw [← hm] at hc0 h2
 clear hm0 hm
 obtain rfl : r = N := h1
 have hr0 : 0 < r := hpos
 have t4 : ((r : Int) == (r : Int)) = true := by simp
 have t5 : ((m : Int) == (r : Int)) = false := by rw [beq_eq_false_iff_ne]; omega
 clear h2
 clear hM hd hb
 obtain ⟨q0, q1⟩ := k0.two
 go_enter Tryz.func99, Tryz.ntmps99
 go_wp2
 refine wp_obs 21 [[],[0],[],[0,1,2],[0,1,2,3],[0,1,2,3,4],[0,1,2,3,4,5],[0,1,2,3,4],[0,1,2,3,4,7],[0,1,2,3,4,5,6,7,8],[0,1,2,3,4,5,6,7,8,9],[0,1,2,3,4,5,6,7,8,9,10],[0,1,2,3,4,5,6,7,8,9,10,11],[0,1,2,3,4,5,6,7,8,9,10,11,12],[0,1,2,3,4,5,6,7,8,9,10,11,12,13],[0,1,2,3,4,5,6,7,8,9,10,11,12,13,14],[0,1,2,3,4,5,6,7,8,9,10,11],[0,1,2,3,4,5,6,7,8,9,10,11,16],[0,1,2,3,4,5,6,7,8,9,10,11,12,13,14,15,16,17],[0,1,2,3,4,5,6,7,8,9,10,11,12,13,14,15,16,17,18],[0,1,2,3,4,5,6,7,8,9,10,11,12,13,14,15,16,17,18,19]] [VIs (.agg #[.int .i64 p, .slice A k c]), VIs (.int .i64 (p)), VIs (.slice (some ⟨g, o, none⟩) r d), VIs (.bool true), VIs (.bool true), VIs (.slice (some ⟨g, o, none⟩) r d), VIs (.int .i64 (r)), VIs (.agg #[.int .i64 p, .slice A k c]), VIs (.int .i64 (r)), VIs (.bool true), VIs (.bool true), VIs (.bool true), VIs (.slice (some ⟨g, o, none⟩) r d), VIs (.pointer (some ⟨g, o, none⟩)), VIs (.slice A0 m c0), VIs (.int .i64 (m)), VIs (.agg #[.int .i64 p, .slice A k c]), VIs (.int .i64 (r)), VIs (.bool false), VIs (.bool false), VIs (.bool false)] (fun w' => w'.cell? ⟨g, o, none⟩ = some (.slice A0 m c0) ∧ Blk w' w.heap.size 26 #[.int .i64 p, .slice A k c] ∧ Below w.heap.size w w') (by kernel_rfl) (by kernel_rfl) (fun _ _ h hb => ⟨(hb.cell (World.block_lt_of_cell? _ _ h.1)).trans h.1, h.2.1.below hb h.2.1.lt, h.2.2.trans (hb.mono h.2.2.size)⟩) (⟨hc0, k0.drew, hB0.drew⟩) (fun x => ?_)
 refine zS (fun w' hS hV K hK => ?_) ?_
 · have q2 := hS.1; obtain ⟨q0, q1⟩ := hS.2.1.two; go_simp; exact zO hK
 refine zS (fun w' hS hV K hK => ?_) ?_
 · have e0 := zQ hV 0; have q2 := hS.1; obtain ⟨q0, q1⟩ := hS.2.1.two; go_simp; refine (dfield_any p A k c w').mono ?_; rintro e v1 ⟨rfl, hb⟩; exact hK.out _ _ _ rfl rfl rfl hb
 refine zS (fun w' hS hV K hK => ?_) ?_
 · have q2 := hS.1; obtain ⟨q0, q1⟩ := hS.2.1.two; go_simp; exact zO hK
 refine zS (fun w' hS hV K hK => ?_) ?_
 · have e1 := zQ hV 1; have e2 := zQ hV 2; have q2 := hS.1; obtain ⟨q0, q1⟩ := hS.2.1.two; go_simp; refine (HIM.out _ hS.2.2).mono ?_; rintro e v1 ⟨rfl, rfl⟩; exact zO hK
 refine zS (fun w' hS hV K hK => ?_) ?_
 · have e3 := zQ hV 3; have q2 := hS.1; obtain ⟨q0, q1⟩ := hS.2.1.two; go_simp; exact zO hK
 refine zS (fun w' hS hV K hK => ?_) ?_
 · have e4 := zQ hV 4; have q2 := hS.1; obtain ⟨q0, q1⟩ := hS.2.1.two; go_simp; exact zO hK
 refine zS (fun w' hS hV K hK => ?_) ?_
 · have e4 := zQ hV 4; have e5 := zQ hV 5; have q2 := hS.1; obtain ⟨q0, q1⟩ := hS.2.1.two; go_simp; exact zO hK
 refine zS (fun w' hS hV K hK => ?_) ?_
 · have e4 := zQ hV 4; have q2 := hS.1; obtain ⟨q0, q1⟩ := hS.2.1.two; go_simp; exact zO hK
 refine zS (fun w' hS hV K hK => ?_) ?_
 · have e4 := zQ hV 4; have e7 := zQ hV 7; have q2 := hS.1; obtain ⟨q0, q1⟩ := hS.2.1.two; go_simp; refine (HDS.out w').mono ?_; rintro e v1 ⟨rfl, hb⟩; exact hK.out _ _ _ rfl rfl rfl hb
 refine zS (fun w' hS hV K hK => ?_) ?_
 · have e4 := zQ hV 4; have e6 := zQ hV 6; have e8 := zQ hV 8; have q2 := hS.1; obtain ⟨q0, q1⟩ := hS.2.1.two; go_simp; exact zO hK
 refine zS (fun w' hS hV K hK => ?_) ?_
 · have e4 := zQ hV 4; have e9 := zQ hV 9; have q2 := hS.1; obtain ⟨q0, q1⟩ := hS.2.1.two; go_simp; exact zO hK
 refine zS (fun w' hS hV K hK => ?_) ?_
 · have e10 := zQ hV 10; have q2 := hS.1; obtain ⟨q0, q1⟩ := hS.2.1.two; go_simp; exact zO hK
 refine zS (fun w' hS hV K hK => ?_) ?_
 · have e11 := zQ hV 11; have q2 := hS.1; obtain ⟨q0, q1⟩ := hS.2.1.two; go_simp; exact zO hK
 refine zS (fun w' hS hV K hK => ?_) ?_
 · have e11 := zQ hV 11; have e12 := zQ hV 12; have q2 := hS.1; obtain ⟨q0, q1⟩ := hS.2.1.two; go_simp; exact zO hK
 refine zS (fun w' hS hV K hK => ?_) ?_
 · have e11 := zQ hV 11; have e13 := zQ hV 13; have q2 := hS.1; obtain ⟨q0, q1⟩ := hS.2.1.two; go_simp; exact zO hK
 refine zS (fun w' hS hV K hK => ?_) ?_
 · have e11 := zQ hV 11; have e14 := zQ hV 14; have q2 := hS.1; obtain ⟨q0, q1⟩ := hS.2.1.two; go_simp; exact zO hK
 refine zS (fun w' hS hV K hK => ?_) ?_
 · have e11 := zQ hV 11; have q2 := hS.1; obtain ⟨q0, q1⟩ := hS.2.1.two; go_simp; exact zO hK
 refine zS (fun w' hS hV K hK => ?_) ?_
 · have e11 := zQ hV 11; have e16 := zQ hV 16; have q2 := hS.1; obtain ⟨q0, q1⟩ := hS.2.1.two; go_simp; refine (HDS.out w').mono ?_; rintro e v1 ⟨rfl, hb⟩; exact hK.out _ _ _ rfl rfl rfl hb
 refine zS (fun w' hS hV K hK => ?_) ?_
 · have e11 := zQ hV 11; have e15 := zQ hV 15; have e17 := zQ hV 17; have q2 := hS.1; obtain ⟨q0, q1⟩ := hS.2.1.two; go_simp; exact zO hK
 refine zS (fun w' hS hV K hK => ?_) ?_
 · have e11 := zQ hV 11; have e18 := zQ hV 18; have q2 := hS.1; obtain ⟨q0, q1⟩ := hS.2.1.two; go_simp; exact zO hK
 refine zS (fun w' hS hV K hK => ?_) ?_
 · have e19 := zQ hV 19; have q2 := hS.1; obtain ⟨q0, q1⟩ := hS.2.1.two; go_simp; exact zO hK
 refine fun w' hS hV => ?_
 have e0 := zT hV 0
 have e1 := zT hV 1
 have e2 := zT hV 2
 have e3 := zT hV 3
 have e4 := zT hV 4
 have e5 := zT hV 5
 have e6 := zT hV 6
 have e7 := zT hV 7
 have e8 := zT hV 8
 have e9 := zT hV 9
 have e10 := zT hV 10
 have e11 := zT hV 11
 have e12 := zT hV 12
 have e13 := zT hV 13
 have e14 := zT hV 14
 have e15 := zT hV 15
 have e16 := zT hV 16
 have e17 := zT hV 17
 have e18 := zT hV 18
 have e19 := zT hV 19
 have e20 := zT hV 20
 simp only [e0, e1, e2, e3, e4, e5, e6, e7, e8, e9, e10, e11, e12, e13, e14, e15, e16, e17, e18, e19, e20]
 clear e0 e1 e2 e3 e4 e5 e6 e7 e8 e9 e10 e11 e12 e13 e14 e15 e16 e17 e18 e19 e20
 refine wpAny_done (by kernel_rfl) ?_ _
 have hb9 := hS.2.2
 go_wp2
 go_ret
 exact ⟨rfl, hb9⟩
set_option maxHeartbeats 1600000 in
set_option maxRecDepth 8000 in
theorem isMx_3 (p : Int) (A : Option Addr) (k c : Nat) (D : Option Addr) (r d : Nat) (M : List (List Int)) (w : World) (hp0 : 0 < p) (hp1 : p ≤ 13) (hk : k ≤ 4) (hr : r ≤ 1048576) (hd : RdII w D r M) (hM : ∀ x ∈ M, x.length ≤ 1048576) (hb : (decide (0 < r) && isTb p M) = true) (h1 : r = pw k) (h2 : (M.getD 0 []).length = pw k) :
    Calls Tryz.prog 99 #[.agg #[.int .i64 p, .slice A k c], .slice D r d] w fun e w' => e = .returned (.bool true) ∧ Below w.heap.size w w' := by
 have hB0 : Below w.heap.size w (w.alloc (.cells #[.int .i64 p, .slice A k c] 26)) := zG.alloc (Nat.le_refl _) _
 have k0 : Blk (w.alloc (.cells #[.int .i64 p, .slice A k c] 26)) w.heap.size 26 #[.int .i64 p, .slice A k c] := Blk.new _ _ _
 have HIM := Lib.hid fun w' (h : Below w.heap.size w w') => isMatrix_gen p D r d M w' hp0 hp1 hr (hd.below h) hM
 rw [hb] at HIM
 have HDS := Lib.hid fun w' => dsize_any p A k c w' hk
 have hpk : pw k ≤ 16 := pw_le hk
 have hpos := pw_pos k
 obtain ⟨N, hN⟩ : ∃ N, N = pw k := ⟨_, rfl⟩
 rw [← hN] at HDS hpk hpos h1 h2
 clear hN
 obtain ⟨g, o, rfl, hx0, A0, c0, hc0, -, -⟩ := (hd.below hB0).at_ (show 0 < r by omega)
 have hm0 : M[0].length = (M.getD 0 []).length := by rw [List.getD_eq_getElem?_getD, List.getElem?_eq_getElem hx0]; rfl
 rw [hm0, Nat.add_zero] at hc0
 obtain ⟨m, hm⟩ : ∃ m, m = (M.getD 0 []).length := ⟨_, rfl⟩
 rw [← hm] at hc0 h2
 clear hm0 hm
 obtain rfl : r = N := h1
 obtain rfl : m = r := h2
 have hr0 : 0 < m := hpos
 have t4 : ((m : Int) == (m : Int)) = true := by simp
 clear hM hd hb
 obtain ⟨q0, q1⟩ := k0.two
 go_enter Tryz.func99, Tryz.ntmps99
 go_wp2
 refine wp_obs 21 [[],[0],[],[0,1,2],[0,1,2,3],[0,1,2,3,4],[0,1,2,3,4,5],[0,1,2,3,4],[0,1,2,3,4,7],[0,1,2,3,4,5,6,7,8],[0,1,2,3,4,5,6,7,8,9],[0,1,2,3,4,5,6,7,8,9,10],[0,1,2,3,4,5,6,7,8,9,10,11],[0,1,2,3,4,5,6,7,8,9,10,11,12],[0,1,2,3,4,5,6,7,8,9,10,11,12,13],[0,1,2,3,4,5,6,7,8,9,10,11,12,13,14],[0,1,2,3,4,5,6,7,8,9,10,11],[0,1,2,3,4,5,6,7,8,9,10,11,16],[0,1,2,3,4,5,6,7,8,9,10,11,12,13,14,15,16,17],[0,1,2,3,4,5,6,7,8,9,10,11,12,13,14,15,16,17,18],[0,1,2,3,4,5,6,7,8,9,10,11,12,13,14,15,16,17,18,19]] [VIs (.agg #[.int .i64 p, .slice A k c]), VIs (.int .i64 (p)), VIs (.slice (some ⟨g, o, none⟩) m d), VIs (.bool true), VIs (.bool true), VIs (.slice (some ⟨g, o, none⟩) m d), VIs (.int .i64 (m)), VIs (.agg #[.int .i64 p, .slice A k c]), VIs (.int .i64 (m)), VIs (.bool true), VIs (.bool true), VIs (.bool true), VIs (.slice (some ⟨g, o, none⟩) m d), VIs (.pointer (some ⟨g, o, none⟩)), VIs (.slice A0 m c0), VIs (.int .i64 (m)), VIs (.agg #[.int .i64 p, .slice A k c]), VIs (.int .i64 (m)), VIs (.bool true), VIs (.bool true), VIs (.bool true)] (fun w' => w'.cell? ⟨g, o, none⟩ = some (.slice A0 m c0) ∧ Blk w' w.heap.size 26 #[.int .i64 p, .slice A k c] ∧ Below w.heap.size w w') (by kernel_rfl) (by kernel_rfl) (fun _ _ h hb => ⟨(hb.cell (World.block_lt_of_cell? _ _ h.1)).trans h.1, h.2.1.below hb h.2.1.lt, h.2.2.trans (hb.mono h.2.2.size)⟩) (⟨hc0, k0.drew, hB0.drew⟩) (fun x => ?_)
 refine zS (fun w' hS hV K hK => ?_) ?_
 · have q2 := hS.1; obtain ⟨q0, q1⟩ := hS.2.1.two; go_simp; exact zO hK
 refine zS (fun w' hS hV K hK => ?_) ?_
 · have e0 := zQ hV 0; have q2 := hS.1; obtain ⟨q0, q1⟩ := hS.2.1.two; go_simp; refine (dfield_any p A k c w').mono ?_; rintro e v1 ⟨rfl, hb⟩; exact hK.out _ _ _ rfl rfl rfl hb
 refine zS (fun w' hS hV K hK => ?_) ?_
 · have q2 := hS.1; obtain ⟨q0, q1⟩ := hS.2.1.two; go_simp; exact zO hK
 refine zS (fun w' hS hV K hK => ?_) ?_
 · have e1 := zQ hV 1; have e2 := zQ hV 2; have q2 := hS.1; obtain ⟨q0, q1⟩ := hS.2.1.two; go_simp; refine (HIM.out _ hS.2.2).mono ?_; rintro e v1 ⟨rfl, rfl⟩; exact zO hK
 refine zS (fun w' hS hV K hK => ?_) ?_
 · have e3 := zQ hV 3; have q2 := hS.1; obtain ⟨q0, q1⟩ := hS.2.1.two; go_simp; exact zO hK
 refine zS (fun w' hS hV K hK => ?_) ?_
 · have e4 := zQ hV 4; have q2 := hS.1; obtain ⟨q0, q1⟩ := hS.2.1.two; go_simp; exact zO hK
 refine zS (fun w' hS hV K hK => ?_) ?_
 · have e4 := zQ hV 4; have e5 := zQ hV 5; have q2 := hS.1; obtain ⟨q0, q1⟩ := hS.2.1.two; go_simp; exact zO hK
 refine zS (fun w' hS hV K hK => ?_) ?_
 · have e4 := zQ hV 4; have q2 := hS.1; obtain ⟨q0, q1⟩ := hS.2.1.two; go_simp; exact zO hK
 refine zS (fun w' hS hV K hK => ?_) ?_
 · have e4 := zQ hV 4; have e7 := zQ hV 7; have q2 := hS.1; obtain ⟨q0, q1⟩ := hS.2.1.two; go_simp; refine (HDS.out w').mono ?_; rintro e v1 ⟨rfl, hb⟩; exact hK.out _ _ _ rfl rfl rfl hb
 refine zS (fun w' hS hV K hK => ?_) ?_
 · have e4 := zQ hV 4; have e6 := zQ hV 6; have e8 := zQ hV 8; have q2 := hS.1; obtain ⟨q0, q1⟩ := hS.2.1.two; go_simp; exact zO hK
 refine zS (fun w' hS hV K hK => ?_) ?_
 · have e4 := zQ hV 4; have e9 := zQ hV 9; have q2 := hS.1; obtain ⟨q0, q1⟩ := hS.2.1.two; go_simp; exact zO hK
 refine zS (fun w' hS hV K hK => ?_) ?_
 · have e10 := zQ hV 10; have q2 := hS.1; obtain ⟨q0, q1⟩ := hS.2.1.two; go_simp; exact zO hK
 refine zS (fun w' hS hV K hK => ?_) ?_
 · have e11 := zQ hV 11; have q2 := hS.1; obtain ⟨q0, q1⟩ := hS.2.1.two; go_simp; exact zO hK
 refine zS (fun w' hS hV K hK => ?_) ?_
 · have e11 := zQ hV 11; have e12 := zQ hV 12; have q2 := hS.1; obtain ⟨q0, q1⟩ := hS.2.1.two; go_simp; exact zO hK
 refine zS (fun w' hS hV K hK => ?_) ?_
 · have e11 := zQ hV 11; have e13 := zQ hV 13; have q2 := hS.1; obtain ⟨q0, q1⟩ := hS.2.1.two; go_simp; exact zO hK
 refine zS (fun w' hS hV K hK => ?_) ?_
 · have e11 := zQ hV 11; have e14 := zQ hV 14; have q2 := hS.1; obtain ⟨q0, q1⟩ := hS.2.1.two; go_simp; exact zO hK
 refine zS (fun w' hS hV K hK => ?_) ?_
 · have e11 := zQ hV 11; have q2 := hS.1; obtain ⟨q0, q1⟩ := hS.2.1.two; go_simp; exact zO hK
 refine zS (fun w' hS hV K hK => ?_) ?_
 · have e11 := zQ hV 11; have e16 := zQ hV 16; have q2 := hS.1; obtain ⟨q0, q1⟩ := hS.2.1.two; go_simp; refine (HDS.out w').mono ?_; rintro e v1 ⟨rfl, hb⟩; exact hK.out _ _ _ rfl rfl rfl hb
 refine zS (fun w' hS hV K hK => ?_) ?_
 · have e11 := zQ hV 11; have e15 := zQ hV 15; have e17 := zQ hV 17; have q2 := hS.1; obtain ⟨q0, q1⟩ := hS.2.1.two; go_simp; exact zO hK
 refine zS (fun w' hS hV K hK => ?_) ?_
 · have e11 := zQ hV 11; have e18 := zQ hV 18; have q2 := hS.1; obtain ⟨q0, q1⟩ := hS.2.1.two; go_simp; exact zO hK
 refine zS (fun w' hS hV K hK => ?_) ?_
 · have e19 := zQ hV 19; have q2 := hS.1; obtain ⟨q0, q1⟩ := hS.2.1.two; go_simp; exact zO hK
 refine fun w' hS hV => ?_
 have e0 := zT hV 0
 have e1 := zT hV 1
 have e2 := zT hV 2
 have e3 := zT hV 3
 have e4 := zT hV 4
 have e5 := zT hV 5
 have e6 := zT hV 6
 have e7 := zT hV 7
 have e8 := zT hV 8
 have e9 := zT hV 9
 have e10 := zT hV 10
 have e11 := zT hV 11
 have e12 := zT hV 12
 have e13 := zT hV 13
 have e14 := zT hV 14
 have e15 := zT hV 15
 have e16 := zT hV 16
 have e17 := zT hV 17
 have e18 := zT hV 18
 have e19 := zT hV 19
 have e20 := zT hV 20
 simp only [e0, e1, e2, e3, e4, e5, e6, e7, e8, e9, e10, e11, e12, e13, e14, e15, e16, e17, e18, e19, e20]
 clear e0 e1 e2 e3 e4 e5 e6 e7 e8 e9 e10 e11 e12 e13 e14 e15 e16 e17 e18 e19 e20
 refine wpAny_done (by kernel_rfl) ?_ _
 have hb9 := hS.2.2
 go_wp2
 go_ret
 exact ⟨rfl, hb9⟩
theorem disMatrix_any (p : Int) (A : Option Addr) (k c : Nat) (D : Option Addr) (r d : Nat) (M : List (List Int)) (w : World) (hp0 : 0 < p) (hp1 : p ≤ 13) (hk : k ≤ 4) (hr : r ≤ 1048576) (hd : RdII w D r M) (hM : ∀ x ∈ M, x.length ≤ 1048576) :
    Calls Tryz.prog 99 #[.agg #[.int .i64 p, .slice A k c], .slice D r d] w fun e w' => e = .returned (.bool (isMx p k M)) ∧ Below w.heap.size w w' := by
 unfold isMx
 rw [hd.len]
 cases hb : (decide (0 < r) && isTb p M)
 · exact isMx_0 p A k c D r d M w hp0 hp1 hk hr hd hM hb
 · by_cases h1 : r = pw k
   · by_cases h2 : (M.getD 0 []).length = pw k
     · rw [show (r == pw k) = true by simpa using h1, show ((M.getD 0 []).length == pw k) = true by simpa using h2]; exact isMx_3 p A k c D r d M w hp0 hp1 hk hr hd hM hb h1 h2
     · rw [show (r == pw k) = true by simpa using h1, show ((M.getD 0 []).length == pw k) = false by simpa using h2]; exact isMx_2 p A k c D r d M w hp0 hp1 hk hr hd hM hb h1 h2
   · rw [show (r == pw k) = false by simpa using h1]; exact isMx_1 p A k c D r d M w hp0 hp1 hk hr hd hM hb h1
/-- The code for a doubling of at most three steps, elements and matrices. -/
def codeT (p : Int) (st : List Int) (yss : List (List Int)) (mss : List (List (List Int))) : Int := if isDb p st = true then (if 3 < st.length then 3 else if codeD p st yss ≠ 0 ∨ (mss.any fun m => !isMx p st.length m) = true then 2 else 0) else 1
def okM3 (M : List (List Int)) : Prop := M.length ≤ 1048576 ∧ ∀ x ∈ M, x.length ≤ 1048576
set_option maxHeartbeats 800000 in
set_option maxRecDepth 8000 in
theorem notMx (p : Int) (k : Nat) (g : Nat) (A : Option Addr) (c : Nat) (w : World) (hk4 : k ≤ 4) (hp0 : 0 < p) (hp1 : p ≤ 13) (hk : Blk w g 26 #[.int .i64 p, .slice A k c]) :
    TellsM3 98 #[.pointer (some ⟨g, 0, none⟩)] w (fun m => !isMx p k m) okM3 := by
 intro w' D m d ys hb hr hm
 have k0 := hk.below hb hk.lt
 obtain ⟨q0, q1⟩ := k0.two
 have hml : m ≤ 1048576 := by have := hr.len; have := hm.1; omega
 have his := disMatrix_any p A k c D m d ys w' hp0 hp1 hk4 hml hr hm.2
 obtain ⟨b, hb'⟩ : ∃ b, b = isMx p k ys := ⟨_, rfl⟩
 have HB := Lib.hid hb'
 rw [← hb'] at his
 clear hb' hm hr
 simp only [List.append_toArray, List.cons_append, List.nil_append]
 go_enter Tryz.func98, Tryz.ntmps98
 go_wp2_with fail
 refine his.mono ?_
 rintro e w1 ⟨rfl, hb1⟩
 go_wp2
 go_ret
 exact ⟨ret_bool (by rw [← HB.out]), hb1⟩
set_option maxHeartbeats 1600000 in
set_option maxRecDepth 8000 in
theorem checkThree_any (p : Int) (A B C : Option Addr) (k c m d l dl : Nat) (st : List Int) (yss : List (List Int)) (mss : List (List (List Int))) (w : World) (hk6 : k ≤ 65536) (hm : m ≤ 1048576) (hl : l ≤ 1048576) (ha : Rd w A k (ints st)) (hb : RdII w B m yss) (hys : ∀ ys ∈ yss, ys.length ≤ 1048576) (hc : RdM3 w C l mss) (hms : ∀ M ∈ mss, okM3 M) :
    Calls Tryz.prog 41 #[.agg #[.int .i64 p, .slice A k c], .slice B m d, .slice C l dl] w fun e w' => e = .returned (.int .i64 (codeT p st yss mss)) ∧ Below w.heap.size w w' := by
 have hB0 : Below w.heap.size w (w.alloc (.cells #[.int .i64 p, .slice A k c] 26)) := zG.alloc (Nat.le_refl _) _
 have k0 : Blk (w.alloc (.cells #[.int .i64 p, .slice A k c] 26)) w.heap.size 26 #[.int .i64 p, .slice A k c] := Blk.new _ _ _
 have his := IsDoubling_any p A k c st (w.alloc (.cells #[.int .i64 p, .slice A k c] 26)) hk6 (ha.below hB0)
 have hln : st.length = k := ha.lenI
 obtain ⟨R, hR⟩ : ∃ R, R = codeT p st yss mss := ⟨_, rfl⟩
 rw [← hR]
 obtain ⟨q0, q1⟩ := k0.two
 cases hdb : isDb p st
 · have HR : Hid (R = 1) := Lib.hid (by rw [hR]; unfold codeT; rw [if_neg (by rw [hdb]; decide)])
   rw [hdb] at his
   clear hR hdb hln
   go_enter Tryz.func41, Tryz.ntmps41
   go_wp2_with fail
   refine his.mono ?_
   rintro e w1 ⟨rfl, hb1⟩
   go_wp2
   go_ret
   exact ⟨by rw [HR.out]; rfl, hB0.trans (hb1.mono hB0.size)⟩
 rw [hdb] at his
 by_cases h3 : 3 < k
 · have HR : Hid (R = 3) := Lib.hid (by rw [hR]; unfold codeT; rw [if_pos hdb, if_pos (by omega)])
   have t3 : decide ((3 : Int) < (k : Int)) = true := by simp; omega
   clear hR hdb hln
   go_enter Tryz.func41, Tryz.ntmps41
   go_wp2_with fail
   refine his.mono ?_
   rintro e w1 ⟨rfl, hb1⟩
   have k1 := k0.below hb1 k0.lt
   have hB1 := hB0.trans (hb1.mono hB0.size)
   clear q0 q1 his hb1 k0 hB0
   obtain ⟨q0, q1⟩ := k1.two
   go_wp2
   go_ret
   exact ⟨by rw [HR.out]; rfl, hB1⟩
 have t3 : decide ((3 : Int) < (k : Int)) = false := by simp; omega
 obtain ⟨hP, -, hnum⟩ := isDb_facts hdb
 have hge := isP_ge hP
 have hch := fun w' (h : Below w.heap.size w w') => checkElements_any p A B k c m d st yss w' hk6 hm (ha.below h) (hb.below h) hys
 by_cases hcd : codeD p st yss = 0
 · have HR : Hid (R = if (mss.any fun m => !isMx p k m) = true then 2 else 0) := Lib.hid (by
    rw [hR]; unfold codeT
    rw [if_pos hdb, if_neg (by omega), hcd, hln]
    simp)
   rw [hcd] at hch
   clear hR hdb hln hcd hP hnum
   go_enter Tryz.func41, Tryz.ntmps41
   go_wp2_with fail
   refine his.mono ?_
   rintro e w1 ⟨rfl, hb1⟩
   have k1 := k0.below hb1 k0.lt
   have hB1 := hB0.trans (hb1.mono hB0.size)
   clear q0 q1 his hb1 k0 hB0
   obtain ⟨q0, q1⟩ := k1.two
   go_wp2_with fail
   refine (hch _ hB1).mono ?_
   rintro e w2 ⟨rfl, hb2⟩
   have k2 := k1.below hb2 k1.lt
   have hB2 := hB1.trans (hb2.mono hB1.size)
   clear q0 q1 hb2 k1 hB1 hch
   obtain ⟨q0, q1⟩ := k2.two
   have hT := notMx p k w.heap.size A c w2 (by omega) (by omega) (by omega) k2
   go_wp2_with fail
   refine (ContainsFuncM3_any _ _ _ _ _ _ _ _ _ (by omega) (hc.below hB2) hms hT (fun _ _ => rfl)).mono ?_
   rintro e w3 ⟨rfl, hb3⟩
   have hB3 := hB2.trans (hb3.mono hB2.size)
   cases ht : (mss.any fun m => !isMx p k m)
   · rw [ht] at HR
     go_wp2
     go_ret
     exact ⟨by rw [HR.out]; rfl, hB3⟩
   · rw [ht] at HR
     go_wp2
     go_ret
     exact ⟨by rw [HR.out]; rfl, hB3⟩
 · have HR : Hid (R = 2) := Lib.hid (by
    rw [hR]; unfold codeT
    rw [if_pos hdb, if_neg (by omega), if_pos (.inl hcd)])
   obtain ⟨cd, hcd2⟩ : ∃ cd, cd = codeD p st yss := ⟨_, rfl⟩
   rw [← hcd2] at hch hcd
   have t5 : (cd == 0) = false := by simpa using hcd
   have t6 : (cd != 0) = true := by simpa using hcd
   clear hR hdb hln hcd hcd2 hP hnum
   go_enter Tryz.func41, Tryz.ntmps41
   go_wp2_with fail
   refine his.mono ?_
   rintro e w1 ⟨rfl, hb1⟩
   have k1 := k0.below hb1 k0.lt
   have hB1 := hB0.trans (hb1.mono hB0.size)
   clear q0 q1 his hb1 k0 hB0
   obtain ⟨q0, q1⟩ := k1.two
   go_wp2_with fail
   refine (hch _ hB1).mono ?_
   rintro e w2 ⟨rfl, hb2⟩
   have hB2 := hB1.trans (hb2.mono hB1.size)
   go_wp2
   go_ret
   exact ⟨by rw [HR.out]; rfl, hB2⟩
theorem codeT_none (p : Int) (st : List Int) : codeT p st [] [] = if isDb p st = true then (if 3 < st.length then 3 else 0) else 1 := by
 unfold codeT codeD
 cases h : isDb p st
 · rfl
 · simp
set_option maxHeartbeats 1600000 in
set_option maxRecDepth 8000 in
theorem l14Code_any (p : Int) (A : Option Addr) (k c : Nat) (st : List Int) (w : World) (hk6 : k ≤ 1048576) (ha : Rd w A k (ints st)) :
    Calls Tryz.prog 42 #[.agg #[.int .i64 p, .slice A k c]] w fun e w' => e = .returned (.int .i64 (codeT p st [] [])) ∧ Below w.heap.size w w' := by
 have hB0 : Below w.heap.size w (w.alloc (.cells #[.int .i64 p, .slice A k c] 26)) := zG.alloc (Nat.le_refl _) _
 have k0 : Blk (w.alloc (.cells #[.int .i64 p, .slice A k c] 26)) w.heap.size 26 #[.int .i64 p, .slice A k c] := Blk.new _ _ _
 have his := l11Is_any p A k c st (w.alloc (.cells #[.int .i64 p, .slice A k c] 26)) hk6 (ha.below hB0)
 have hln : st.length = k := ha.lenI
 obtain ⟨R, hR⟩ : ∃ R, R = codeT p st [] [] := ⟨_, rfl⟩
 rw [← hR]
 rw [codeT_none, hln] at hR
 obtain ⟨q0, q1⟩ := k0.two
 cases hdb : isDb p st
 · have HR : Hid (R = 1) := Lib.hid (by rw [hR, hdb]; rfl)
   rw [hdb] at his
   clear hR hdb hln
   go_enter Tryz.func42, Tryz.ntmps42
   go_wp2_with fail
   refine his.mono ?_
   rintro e w1 ⟨rfl, hb1⟩
   go_wp2
   go_ret
   exact ⟨by rw [HR.out]; rfl, hB0.trans (hb1.mono hB0.size)⟩
 rw [hdb] at his
 by_cases h3 : 3 < k
 · have HR : Hid (R = 3) := Lib.hid (by rw [hR, hdb, if_pos rfl, if_pos h3])
   have t3 : decide ((3 : Int) < (k : Int)) = true := by simp; omega
   clear hR hdb hln
   go_enter Tryz.func42, Tryz.ntmps42
   go_wp2_with fail
   refine his.mono ?_
   rintro e w1 ⟨rfl, hb1⟩
   have k1 := k0.below hb1 k0.lt
   have hB1 := hB0.trans (hb1.mono hB0.size)
   clear q0 q1 his hb1 k0 hB0
   obtain ⟨q0, q1⟩ := k1.two
   go_wp2
   go_ret
   exact ⟨by rw [HR.out]; rfl, hB1⟩
 · have HR : Hid (R = 0) := Lib.hid (by rw [hR, hdb, if_pos rfl, if_neg h3])
   have t3 : decide ((3 : Int) < (k : Int)) = false := by simp; omega
   clear hR hdb hln
   go_enter Tryz.func42, Tryz.ntmps42
   go_wp2_with fail
   refine his.mono ?_
   rintro e w1 ⟨rfl, hb1⟩
   have k1 := k0.below hb1 k0.lt
   have hB1 := hB0.trans (hb1.mono hB0.size)
   clear q0 q1 his hb1 k0 hB0
   obtain ⟨q0, q1⟩ := k1.two
   go_wp2
   go_ret
   exact ⟨by rw [HR.out]; rfl, hB1⟩
theorem isEl_of {p : Int} {k : Nat} {ys : List Int} (h : isEl p k ys = true) : ys.length = pw k ∧ NumsL p ys := by
 unfold isEl at h
 rw [Bool.and_eq_true] at h
 exact ⟨by have := h.1; simp at this; omega, nums_numsL h.2⟩
theorem codeT_zero {p : Int} {st : List Int} {yss : List (List Int)} {mss : List (List (List Int))} (h : codeT p st yss mss = 0) : isDb p st = true ∧ st.length ≤ 3 ∧ (∀ ys ∈ yss, ys.length = pw st.length ∧ NumsL p ys) ∧ ∀ m ∈ mss, isMx p st.length m = true := by
 unfold codeT at h
 split at h
 · rename_i hdb
   split at h
   · omega
   · rename_i h3
     split at h
     · omega
     · rename_i h2
       refine ⟨hdb, by omega, fun ys hy => ?_, fun m hm => ?_⟩
       · refine isEl_of ?_
         cases he : isEl p st.length ys
         · exact absurd (.inl (by unfold codeD; rw [if_pos hdb, if_pos (List.any_eq_true.2 ⟨ys, hy, by rw [he]; rfl⟩)]; decide)) h2
         · rfl
       · cases he : isMx p st.length m
         · exact absurd (.inr (List.any_eq_true.2 ⟨m, hm, by rw [he]; rfl⟩)) h2
         · rfl
 · omega
theorem codeT_two (p : Int) (st : List Int) (yss : List (List Int)) : codeT p st yss [] = if codeT p st [] [] = 0 then codeD p st yss else codeT p st [] [] := by
 rw [codeT_none]
 unfold codeT
 cases hdb : isDb p st
 · rfl
 · by_cases h3 : 3 < st.length
   · simp [h3]
   · have : codeD p st yss = 0 ∨ codeD p st yss = 2 := by unfold codeD; rw [if_pos hdb]; split <;> simp
     rcases this with e | e <;> simp [h3, e]
theorem innM_tab {p : Int} (hp : 0 < p) (k : Nat) (st x y : List Int) : Tab p (pw k) (innM p k st x y) := by
 have h : Tab p (pw k) (tab (pw k) fun i => innL p k st x y (unitRow (pw k) i)) := Tab.tab fun i _ => ⟨innL_len _ _ _ _ _ _, innL_nums hp _ _ _ _ _⟩
 have := transL_tab hp h
 rwa [tab_len] at this
theorem innM_len {p : Int} (hp : 0 < p) (k : Nat) (st x y : List Int) : (innM p k st x y).length = pw k := by
 have h : Tab p (pw k) (tab (pw k) fun i => innL p k st x y (unitRow (pw k) i)) := Tab.tab fun i _ => ⟨innL_len _ _ _ _ _ _, innL_nums hp _ _ _ _ _⟩
 exact transL_len h (by rw [tab_len]; exact pw_pos k)
set_option maxHeartbeats 1600000 in
set_option maxRecDepth 8000 in
theorem l11Code_any (p : Int) (A B : Option Addr) (k c m d : Nat) (st : List Int) (yss : List (List Int)) (w : World) (hk6 : k ≤ 1048576) (hm : m ≤ 1048576) (ha : Rd w A k (ints st)) (hb : RdII w B m yss) (hys : ∀ ys ∈ yss, ys.length ≤ 1048576) :
    Calls Tryz.prog 110 #[.agg #[.int .i64 p, .slice A k c], .slice B m d] w fun e w' => e = .returned (.int .i64 (codeD p st yss)) ∧ Below w.heap.size w w' := by
 have hB0 : Below w.heap.size w (w.alloc (.cells #[.int .i64 p, .slice A k c] 26)) := zG.alloc (Nat.le_refl _) _
 have k0 : Blk (w.alloc (.cells #[.int .i64 p, .slice A k c] 26)) w.heap.size 26 #[.int .i64 p, .slice A k c] := Blk.new _ _ _
 have his := l11Is_any p A k c st (w.alloc (.cells #[.int .i64 p, .slice A k c] 26)) hk6 (ha.below hB0)
 have hln : st.length = k := ha.lenI
 obtain ⟨R, hR⟩ : ∃ R, R = codeD p st yss := ⟨_, rfl⟩
 rw [← hR]
 obtain ⟨q0, q1⟩ := k0.two
 cases hdb : isDb p st
 · have HR : Hid (R = 1) := Lib.hid (by rw [hR]; unfold codeD; rw [hdb]; rfl)
   rw [hdb] at his
   clear hR hdb hln
   go_enter Tryz.func110, Tryz.ntmps110
   go_wp2_with fail
   refine his.mono ?_
   rintro e w1 ⟨rfl, hb1⟩
   go_wp2
   go_ret
   exact ⟨by rw [HR.out]; rfl, hB0.trans (hb1.mono hB0.size)⟩
 rw [hdb] at his
 obtain ⟨HP, hk4, -⟩ := isDb_facts hdb
 obtain ⟨hp3, hp2⟩ := isP_ge HP
 rw [hln] at hk4
 have HR : Hid (R = if (yss.any fun ys => !isEl p k ys) = true then 2 else 0) := Lib.hid (by rw [hR]; unfold codeD; rw [hdb, hln]; rfl)
 have HML := Lib.hid hb.len
 clear hR hdb hln HP
 go_enter Tryz.func110, Tryz.ntmps110
 go_wp2_with fail
 refine his.mono ?_
 rintro e w1 ⟨rfl, hb1⟩
 have k1 := k0.below hb1 k0.lt
 have hB1 := hB0.trans (hb1.mono hB0.size)
 clear q0 q1 his hb1 k0 hB0
 go_wp2
 go_loopw [5] (fun i wr => ∃ j : Nat, j ≤ m ∧ i = .int .i64 j ∧ Below w.heap.size w wr ∧ Blk wr w.heap.size 26 #[.int .i64 p, .slice A k c] ∧ Hid ((yss.take j).any (fun ys => !isEl p k ys) = false)) (fun i _ => m - (intOf i).toNat)
 case atStart => exact ⟨0, by omega, rfl, hB1, k1, Lib.hid rfl⟩
 case round =>
  obtain ⟨j, hj, rfl, hBr, k4, HT⟩ := hrel
  clear hB1 k1
  obtain ⟨q0, q1⟩ := k4.two
  by_cases hlt : j < m
  · obtain ⟨gb, ob, rfl, hxj, Aj, cj, hcj, hrj, -⟩ := (hb.below hBr).at_ hlt
    have hlj := hys _ (List.getElem_mem hxj)
    obtain ⟨nj, hnj⟩ : ∃ z, z = yss[j].length := ⟨_, rfl⟩
    rw [← hnj] at hcj hrj hlj
    have hel := fun w' (h : Below wr.heap.size wr w') => l11Element_any p A Aj k c nj cj yss[j] w' hk4 hlj (by omega) hp2 (hrj.below h)
    obtain ⟨b, hbe⟩ : ∃ b, b = isEl p k yss[j] := ⟨_, rfl⟩
    rw [← hbe] at hel
    have HBE := Lib.hid hbe
    have HEL := Lib.hid hel
    have HBR := Lib.hid hBr
    clear hrj hnj hel hbe hlj hb hys q0 q1 ha hBr
    go_wp2
    refine wp_obs 7 [[],[],[],[1,2],[1,2,3],[0,1,2,3,4],[0,1,2,3,4,5]] [VIs (.agg #[.int .i64 p, .slice A k c]), VIs (.slice (some ⟨gb, ob, none⟩) m d), VIs (.int .i64 (j)), VIs (.pointer (some ⟨gb, ob + j, none⟩)), VIs (.slice Aj nj cj), VIs (.bool b), VIs (.bool (!b))] (fun w' => Blk w' w.heap.size 26 #[.int .i64 p, .slice A k c] ∧ w'.cell? ⟨gb, ob + j, none⟩ = some (.slice Aj nj cj) ∧ Below wr.heap.size wr w') (by kernel_rfl) (by kernel_rfl) (fun _ _ h hb => ⟨h.1.below hb h.1.lt, (hb.cell (World.block_lt_of_cell? _ _ h.2.1)).trans h.2.1, h.2.2.trans (hb.mono h.2.2.size)⟩) (⟨k4.drew, hcj, zG.drew⟩) (fun x => ?_)
    refine zS (fun w' hS hV K hK => ?_) ?_
    · obtain ⟨q0, q1⟩ := hS.1.two; have q2 := hS.2.1; go_simp; exact zO hK
    refine zS (fun w' hS hV K hK => ?_) ?_
    · obtain ⟨q0, q1⟩ := hS.1.two; have q2 := hS.2.1; go_simp; exact zO hK
    refine zS (fun w' hS hV K hK => ?_) ?_
    · obtain ⟨q0, q1⟩ := hS.1.two; have q2 := hS.2.1; go_simp; exact zO hK
    refine zS (fun w' hS hV K hK => ?_) ?_
    · have e1 := zQ hV 1; have e2 := zQ hV 2; obtain ⟨q0, q1⟩ := hS.1.two; have q2 := hS.2.1; go_simp; exact zO hK
    refine zS (fun w' hS hV K hK => ?_) ?_
    · have e3 := zQ hV 3; obtain ⟨q0, q1⟩ := hS.1.two; have q2 := hS.2.1; go_simp; exact zO hK
    refine zS (fun w' hS hV K hK => ?_) ?_
    · have e0 := zQ hV 0; have e4 := zQ hV 4; obtain ⟨q0, q1⟩ := hS.1.two; have q2 := hS.2.1; go_simp; refine (HEL.out w' hS.2.2).mono ?_; rintro e v1 ⟨rfl, hb9⟩; exact hK.out _ _ _ rfl rfl rfl hb9
    refine zS (fun w' hS hV K hK => ?_) ?_
    · have e5 := zQ hV 5; obtain ⟨q0, q1⟩ := hS.1.two; have q2 := hS.2.1; go_simp; exact zO hK
    refine fun w' hS hV => ?_
    have e0 := zT hV 0
    have e1 := zT hV 1
    have e2 := zT hV 2
    have e3 := zT hV 3
    have e4 := zT hV 4
    have e5 := zT hV 5
    have e6 := zT hV 6
    simp only [e0, e1, e2, e3, e4, e5, e6]
    clear e0 e1 e2 e3 e4 e5 e6
    refine wpAny_done (by kernel_rfl) ?_ _
    obtain ⟨k5, -, s5⟩ := hS
    have hB6 := HBR.out.trans (s5.mono HBR.out.size)
    clear k4 hcj
    cases b
    · go_wp2
      go_ret
      exact ⟨by rw [HR.out, if_pos (List.any_eq_true.2 ⟨_, List.getElem_mem hxj, by rw [← HBE.out]; rfl⟩)]; rfl, hB6⟩
    · go_wp2
      go_roundw
      case rel => exact ⟨j + 1, by omega, by go_num, hB6, k5, Lib.hid (by rw [List.take_succ_eq_append_getElem hxj, List.any_append, HT.out]; simp [← HBE.out])⟩
      case measure => simp [intOf]; omega
  · go_wp2
    go_ret
    obtain rfl : j = m := by omega
    have := HT.out
    rw [List.take_of_length_le (by have := HML.out; omega)] at this
    exact ⟨by rw [HR.out, this]; rfl, hBr⟩
set_option maxHeartbeats 1600000 in
set_option maxRecDepth 8000 in
theorem l14Elements_any (p : Int) (A B : Option Addr) (k c m d : Nat) (st : List Int) (yss : List (List Int)) (w : World) (hk6 : k ≤ 65536) (hm : m ≤ 1048576) (ha : Rd w A k (ints st)) (hb : RdII w B m yss) (hys : ∀ ys ∈ yss, ys.length ≤ 1048576) :
    Calls Tryz.prog 54 #[.agg #[.int .i64 p, .slice A k c], .slice B m d] w fun e w' => e = .returned (.int .i64 (codeT p st yss [])) ∧ Below w.heap.size w w' := by
 have hB0 : Below w.heap.size w (w.alloc (.cells #[.int .i64 p, .slice A k c] 26)) := zG.alloc (Nat.le_refl _) _
 have k0 : Blk (w.alloc (.cells #[.int .i64 p, .slice A k c] 26)) w.heap.size 26 #[.int .i64 p, .slice A k c] := Blk.new _ _ _
 have h14 := l14Code_any p A k c st (w.alloc (.cells #[.int .i64 p, .slice A k c] 26)) (by omega) (ha.below hB0)
 have h11 := fun w' (h : Below w.heap.size w w') => l11Code_any p A B k c m d st yss w' (by omega) hm (ha.below h) (hb.below h) hys
 have hcT := codeT_two p st yss
 obtain ⟨R, hR⟩ : ∃ R, R = codeT p st yss [] := ⟨_, rfl⟩
 obtain ⟨a, hae⟩ : ∃ a, a = codeT p st [] [] := ⟨_, rfl⟩
 obtain ⟨b, hbe⟩ : ∃ b, b = codeD p st yss := ⟨_, rfl⟩
 rw [← hR, ← hae, ← hbe] at hcT
 rw [← hae] at h14
 rw [← hbe] at h11
 rw [← hR]
 clear hR hae hbe
 obtain ⟨q0, q1⟩ := k0.two
 by_cases h0 : a = 0
 · rw [if_pos h0] at hcT
   subst h0 hcT
   go_enter Tryz.func54, Tryz.ntmps54
   go_wp2_with fail
   refine h14.mono ?_
   rintro e w1 ⟨rfl, hb1⟩
   have k1 := k0.below hb1 k0.lt
   have hB1 := hB0.trans (hb1.mono hB0.size)
   clear q0 q1 h14 hb1 k0 hB0
   obtain ⟨q0, q1⟩ := k1.two
   go_wp2_with fail
   refine (h11 _ hB1).mono ?_
   rintro e w2 ⟨rfl, hb2⟩
   go_wp2
   go_ret
   exact ⟨rfl, hB1.trans (hb2.mono hB1.size)⟩
 · rw [if_neg h0] at hcT
   subst hcT
   have hne : (R == 0) = false := by simpa using h0
   go_enter Tryz.func54, Tryz.ntmps54
   go_wp2_with fail
   refine h14.mono ?_
   rintro e w1 ⟨rfl, hb1⟩
   clear h11
   go_wp2
   go_ret
   exact ⟨rfl, hB0.trans (hb1.mono hB0.size)⟩
/-- InnerDerivation. -/
def indR (p : Int) (st xs ys : List Int) : List (List Int) × Int := if codeT p st [xs, ys] [] = 0 then (innM p st.length st xs ys, 0) else ([], codeT p st [xs, ys] [])
set_option maxHeartbeats 1600000 in
set_option maxRecDepth 8000 in
theorem specInnerDerivation_any (p : Int) (A : Option Addr) (k c : Nat) (st : List Int) (X : Option Addr) (n cx : Nat) (xs : List Int) (Y : Option Addr) (m cy : Nat) (ys : List Int) (w : World) (hk6 : k ≤ 65536) (hc : k ≤ c) (hn : n ≤ 1048576) (hcx : n ≤ cx) (hm : m ≤ 1048576) (hcy : m ≤ cy) (ha : Rd w A k (ints st)) (hx : Rd w X n (ints xs)) (hy : Rd w Y m (ints ys)) :
    Calls Tryz.prog 21 #[.agg #[.int .i64 p, .slice A k c], .slice X n cx, .slice Y m cy] w fun e w' => ∃ A' c', e = .returned (.tuple #[.slice A' (indR p st xs ys).1.length c', .int .i64 (indR p st xs ys).2]) ∧ MkII w w' A' (indR p st xs ys).1.length c' (indR p st xs ys).1 := by
 have hB0 : Below w.heap.size w (w.alloc (.cells #[.int .i64 p, .slice A k c] 26)) := zG.alloc (Nat.le_refl _) _
 have k0 : Blk (w.alloc (.cells #[.int .i64 p, .slice A k c] 26)) w.heap.size 26 #[.int .i64 p, .slice A k c] := Blk.new _ _ _
 have hB1 : Below w.heap.size w ((w.alloc (.cells #[.int .i64 p, .slice A k c] 26)).alloc (.cells #[.slice X n cx, .slice Y m cy] 24)) := hB0.alloc (by simp) _
 have k1 := k0.alloc (.cells #[.slice X n cx, .slice Y m cy] 24)
 have hck := l14Elements_any p A (some ⟨w.heap.size + 1, 0, none⟩) k c 2 2 st [xs, ys] ((w.alloc (.cells #[.int .i64 p, .slice A k c] 26)).alloc (.cells #[.slice X n cx, .slice Y m cy] 24)) hk6 (by omega) (ha.below hB1) (rdII_two (Blk.newAt3 (by simp)) (hx.below hB1) (hy.below hB1) hcx hcy) (all_two (by rw [hx.lenI]; omega) (by rw [hy.lenI]; omega))
 obtain ⟨z, hz⟩ : ∃ z, z = indR p st xs ys := ⟨_, rfl⟩
 rw [← hz]
 unfold indR at hz
 obtain ⟨cd, hcd⟩ : ∃ cd, cd = codeT p st [xs, ys] [] := ⟨_, rfl⟩
 rw [← hcd] at hck hz
 clear k0 hB0
 obtain ⟨q0, q1⟩ := k1.two
 by_cases h0 : cd = 0
 · rw [if_pos h0] at hz
   obtain ⟨hdb, hk3, hel, -⟩ := codeT_zero (hcd.symm.trans h0)
   obtain ⟨HP, -, hst⟩ := isDb_facts hdb
   obtain ⟨hp3, hp2⟩ := isP_ge HP
   rw [ha.lenI] at hk3 hel hz
   obtain ⟨e1, hxn⟩ := hel xs (by simp)
   obtain ⟨e2, hyn⟩ := hel ys (by simp)
   rw [hx.lenI] at e1
   rw [hy.lenI] at e2
   subst e1 e2 h0
   have hin := fun w' (h : Below w.heap.size w w') => l14Inner_any p (by omega) hp2 k (by omega) A c st X cx xs Y cy ys w' hc (ha.below h) hst (hx.below h) hxn hcx (hy.below h) hyn hcy
   obtain ⟨M, hM⟩ : ∃ M, M = innM p k st xs ys := ⟨_, rfl⟩
   have hml : M.length = pw k := by rw [hM]; exact innM_len (by omega) _ _ _ _
   rw [← hM] at hz hin
   obtain ⟨nn, hnn⟩ : ∃ nn, nn = pw k := ⟨_, rfl⟩
   rw [hz]
   clear hcd hz hM hdb hel HP hst hxn hyn ha hx hy
   go_enter Tryz.func21, Tryz.ntmps21
   go_wp2_with fail
   refine hck.mono ?_
   rintro e w2 ⟨rfl, hb2⟩
   have k2 := k1.below hb2 k1.lt
   have hB2 := hB1.trans (hb2.mono hB1.size)
   clear q0 q1 hck k1 hb2
   obtain ⟨q0, q1⟩ := k2.two
   go_wp2_with fail
   refine (hin _ hB2).mono ?_
   rintro e w3 ⟨A3, c3, rfl, hM3⟩
   go_wp2
   go_ret2
   show ∃ A' c', _ ∧ MkII w _ A' M.length c' M
   rw [hml]
   exact ⟨A3, c3, rfl, hM3.after hB2⟩
 · rw [if_neg h0] at hz
   have hne : (cd == 0) = false := by simpa using h0
   rw [hz]
   clear hcd hz
   go_enter Tryz.func21, Tryz.ntmps21
   go_wp2_with fail
   refine hck.mono ?_
   rintro e w2 ⟨rfl, hb2⟩
   go_wp2
   go_ret2
   exact ⟨_, _, rfl, MkII.nil (hB1.trans (hb2.mono hB1.size))⟩
set_option maxHeartbeats 1600000 in
set_option maxRecDepth 8000 in
theorem InnerDerivation_any (p : Int) (A : Option Addr) (k c : Nat) (st : List Int) (X : Option Addr) (n cx : Nat) (xs : List Int) (Y : Option Addr) (m cy : Nat) (ys : List Int) (w : World) (hk6 : k ≤ 65536) (hc : k ≤ c) (hn : n ≤ 1048576) (hcx : n ≤ cx) (hm : m ≤ 1048576) (hcy : m ≤ cy) (ha : Rd w A k (ints st)) (hx : Rd w X n (ints xs)) (hy : Rd w Y m (ints ys)) :
    Calls Tryz.prog 16 #[.agg #[.int .i64 p, .slice A k c], .slice X n cx, .slice Y m cy] w fun e w' => ∃ A' c', e = .returned (.tuple #[.slice A' (indR p st xs ys).1.length c', .int .i64 (indR p st xs ys).2]) ∧ MkII w w' A' (indR p st xs ys).1.length c' (indR p st xs ys).1 := by
 have hB1 : Below w.heap.size w ((((w.alloc (.cells #[.int .i64 p, .slice A k c] 26)).alloc (.cells #[.slice X n cx] 24)).alloc (.cells #[.slice Y m cy] 24)).alloc (.cells #[.slice X n cx, .slice Y m cy] 24)) := (((zG.alloc (Nat.le_refl _) _).alloc (by simp) _).alloc (by simp; omega) _).alloc (by simp; omega) _
 have k1 := (((Blk.new w 26 #[.int .i64 p, .slice A k c]).alloc (.cells #[.slice X n cx] 24)).alloc (.cells #[.slice Y m cy] 24)).alloc (.cells #[.slice X n cx, .slice Y m cy] 24)
 have kx := ((Blk.newAt3 (w := (w.alloc (.cells #[.int .i64 p, .slice A k c] 26))) (g := w.heap.size + 1) (t := 24) (cs := #[.slice X n cx]) (by simp)).alloc (.cells #[.slice Y m cy] 24)).alloc (.cells #[.slice X n cx, .slice Y m cy] 24)
 have ky := (Blk.newAt3 (w := (w.alloc (.cells #[.int .i64 p, .slice A k c] 26)).alloc (.cells #[.slice X n cx] 24)) (g := w.heap.size + 2) (t := 24) (cs := #[.slice Y m cy]) (by simp)).alloc (.cells #[.slice X n cx, .slice Y m cy] 24)
 have hck := checkThree_any p A (some ⟨w.heap.size + 3, 0, none⟩) none k c 2 2 0 0 st [xs, ys] [] ((((w.alloc (.cells #[.int .i64 p, .slice A k c] 26)).alloc (.cells #[.slice X n cx] 24)).alloc (.cells #[.slice Y m cy] 24)).alloc (.cells #[.slice X n cx, .slice Y m cy] 24)) hk6 (by omega) (by omega) (ha.below hB1) (rdII_two (Blk.newAt3 (by simp)) (hx.below hB1) (hy.below hB1) hcx hcy) (all_two (by rw [hx.lenI]; omega) (by rw [hy.lenI]; omega)) (RdM3.nil _) (fun M hM => absurd hM (by simp))
 obtain ⟨z, hz⟩ : ∃ z, z = indR p st xs ys := ⟨_, rfl⟩
 rw [← hz]
 unfold indR at hz
 obtain ⟨cd, hcd⟩ : ∃ cd, cd = codeT p st [xs, ys] [] := ⟨_, rfl⟩
 rw [← hcd] at hck hz
 obtain ⟨q0, q1⟩ := k1.two
 have qx := kx.cell 0
 have qy := ky.cell 0
 by_cases h0 : cd = 0
 · rw [if_pos h0] at hz
   obtain ⟨hdb, hk3, hel, -⟩ := codeT_zero (hcd.symm.trans h0)
   obtain ⟨HP, -, hst⟩ := isDb_facts hdb
   obtain ⟨hp3, hp2⟩ := isP_ge HP
   rw [ha.lenI] at hk3 hel hz
   obtain ⟨e1, hxn⟩ := hel xs (by simp)
   obtain ⟨e2, hyn⟩ := hel ys (by simp)
   rw [hx.lenI] at e1
   rw [hy.lenI] at e2
   subst e1 e2 h0
   have hin := fun w' (h : Below w.heap.size w w') (k1 : Blk w' w.heap.size 26 #[.int .i64 p, .slice A k c]) (k2 : Blk w' (w.heap.size + 1) 24 #[.slice X (pw k) cx]) (k3 : Blk w' (w.heap.size + 2) 24 #[.slice Y (pw k) cy]) =>
    matrixOf_any 57 ⟨w.heap.size, 0, none⟩ ⟨w.heap.size + 1, 0, none⟩ ⟨w.heap.size + 2, 0, none⟩ (fun i => innL p k st xs ys (unitRow (pw k) i)) (fun _ _ => rfl) p A k c w' (by omega) (by omega) (fun i _ => ⟨innL_len _ _ _ _ _ _, innL_nums (by omega) _ _ _ _ _⟩)
     (fun i w2 Y2 cy2 hi hb2 hy2 hcy2 => innerAt_any p (by omega) hp2 k (by omega) A c st X cx xs Y cy ys Y2 cy2 (unitRow (pw k) i) w.heap.size (w.heap.size + 1) (w.heap.size + 2) w2 hc ((ha.below h).below hb2) hst ((hx.below h).below hb2) hxn hcx ((hy.below h).below hb2) hyn hcy hy2 (unitRow_nums (by omega) _ _) hcy2 (k1.below hb2 k1.lt) (k2.below hb2 k2.lt) (k3.below hb2 k3.lt))
   obtain ⟨M, hM⟩ : ∃ M, M = innM p k st xs ys := ⟨_, rfl⟩
   have hml : M.length = pw k := by rw [hM]; exact innM_len (by omega) _ _ _ _
   rw [← hM] at hz
   rw [show transL (tab (pw k) fun i => innL p k st xs ys (unitRow (pw k) i)) = M by rw [hM]; rfl] at hin
   rw [hz]
   have HIN := Lib.hid hin
   clear hcd hz hM hdb hel HP hst hxn hyn ha hx hy hin
   go_enter Tryz.func16, Tryz.ntmps16
   go_wp2_with fail
   refine hck.mono ?_
   rintro e w2 ⟨rfl, hb2⟩
   have k2 := k1.below hb2 k1.lt
   have kx2 := kx.below hb2 kx.lt
   have ky2 := ky.below hb2 ky.lt
   have hB2 := hB1.trans (hb2.mono hB1.size)
   clear q0 q1 qx qy hck k1 hb2 kx ky
   obtain ⟨q0, q1⟩ := k2.two
   go_wp2_with fail
   refine (HIN.out _ hB2 k2 kx2 ky2).mono ?_
   rintro e w3 ⟨A3, c3, rfl, hM3⟩
   go_wp2
   go_ret2
   show ∃ A' c', _ ∧ MkII w _ A' M.length c' M
   rw [hml]
   exact ⟨A3, c3, rfl, hM3.after hB2⟩
 · rw [if_neg h0] at hz
   have hne : (cd == 0) = false := by simpa using h0
   rw [hz]
   clear hcd hz
   go_enter Tryz.func16, Tryz.ntmps16
   go_wp2_with fail
   refine hck.mono ?_
   rintro e w2 ⟨rfl, hb2⟩
   go_wp2
   go_ret2
   exact ⟨_, _, rfl, MkII.nil (hB1.trans (hb2.mono hB1.size))⟩
end Go.Proofs.YtaiegpggccdgoaaGreat

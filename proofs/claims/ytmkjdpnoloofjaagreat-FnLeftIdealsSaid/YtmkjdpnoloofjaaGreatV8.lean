/-
  LawFnLeftIdeals: part 8 of the texts that the proof needs. No condition.
-/
import Derived.Test.YtmkjdpnoloofjaaGreatV7
namespace Go.Proofs.YtmkjdpnoloofjaaGreat
open Go.RowKit
set_option maxHeartbeats 1600000 in
set_option maxRecDepth 8000 in
theorem likeRows5_same (A B : Option Addr) (n c d : Nat) (M : List (List Int)) (w : World) (hn : n ≤ 1000) (ha : RdII w A n M) (hb : RdII w B n M) (hM : ∀ v ∈ M, v.length ≤ 1000000) :
    Calls Tryz.prog 14 #[.slice A n c, .slice B n d] w fun e w' => e = .returned (.bool true) ∧ Below w.heap.size w w' := by
 have t4 : ((n : Int) != (n : Int)) = false := by simp
 have HM := Lib.hid hM
 clear hM
 go_enter Tryz.func14, Tryz.ntmps14
 go_wp2
 go_loopw [5] (fun i wr => ∃ k : Nat, k ≤ n ∧ i = .int .i64 k ∧ Below w.heap.size w wr) (fun i _ => n - (intOf i).toNat)
 case atStart => exact ⟨0, by omega, rfl, Below.refl _ _⟩
 case round =>
  obtain ⟨k, hk, rfl, hB⟩ := hrel
  by_cases hlt : k < n
  · obtain ⟨g, o, rfl, hx1, A1, c1, hc1, hr1, -⟩ := (ha.below hB).at_ hlt
    obtain ⟨g2, o2, rfl, hx2, A2, c2, hc2, hr2, -⟩ := (hb.below hB).at_ hlt
    have hml := HM.out M[k] (List.getElem_mem hx1)
    obtain ⟨v, hv⟩ : ∃ v, v = M[k] := ⟨_, rfl⟩
    rw [← hv] at hc1 hc2 hr1 hr2 hml
    obtain ⟨q, hq⟩ : ∃ q, q = v.length := ⟨_, rfl⟩
    rw [← hq] at hc1 hc2 hr1 hr2 hml
    have hr3 : ∀ w', Below w.heap.size w w' → Rd w' A1 q (ints v) ∧ Rd w' A2 q (ints v) := fun w' h => by
     obtain ⟨_, _, e1, hx3, A3, c3, hc3, hr3, -⟩ := ha.at_ hlt
     obtain ⟨_, _, e2, hx4, A4, c4, hc4, hr4, -⟩ := hb.at_ hlt
     cases e1
     cases e2
     rw [(hB.cell (World.block_lt_of_cell? _ _ hc3)), hc3] at hc1
     rw [(hB.cell (World.block_lt_of_cell? _ _ hc4)), hc4] at hc2
     rw [← hv] at hc1 hc2 hr3 hr4
     rw [← hq] at hc1 hc2 hr3 hr4
     cases hc1
     cases hc2
     exact ⟨hr3.below h, hr4.below h⟩
    have hl := fun (w' : World) (h : Below w.heap.size w w') => likeInts_any A1 A2 q q c1 c2 v v w' (by omega) (by omega) (hr3 w' h).1 (hr3 w' h).2
    rw [decide_eq_true rfl] at hl
    clear hv hq ha hb hr1 hr2 hx1 hx2 hr3
    go_wp2
    refine wp_obs 10 [[],[],[0,1],[0,1,2],[],[],[4,5],[4,5,6],[0,1,2,3,4,5,6,7],[0,1,2,3,4,5,6,7,8]] [VIs (.slice (some ⟨g, o, none⟩) n c), VIs (.int .i64 (k)), VIs (.pointer (some ⟨g, o + k, none⟩)), VIs (.slice A1 q c1), VIs (.slice (some ⟨g2, o2, none⟩) n d), VIs (.int .i64 (k)), VIs (.pointer (some ⟨g2, o2 + k, none⟩)), VIs (.slice A2 q c2), VIs (.bool true), VIs (.bool false)] (fun w' => w'.cell? ⟨g, o + k, none⟩ = some (.slice A1 q c1) ∧ w'.cell? ⟨g2, o2 + k, none⟩ = some (.slice A2 q c2) ∧ Below w.heap.size w w') (by kernel_rfl) (by kernel_rfl) (fun _ _ h hb => ⟨(hb.cell (World.block_lt_of_cell? _ _ h.1)).trans h.1, (hb.cell (World.block_lt_of_cell? _ _ h.2.1)).trans h.2.1, h.2.2.trans (hb.mono h.2.2.size)⟩) (⟨hc1, hc2, hB.drew⟩) (fun x => ?_)
    refine zS (fun w' hS hV K hK => ?_) ?_
    · have q0 := hS.1; have q1 := hS.2.1; go_simp; exact zO hK
    refine zS (fun w' hS hV K hK => ?_) ?_
    · have q0 := hS.1; have q1 := hS.2.1; go_simp; exact zO hK
    refine zS (fun w' hS hV K hK => ?_) ?_
    · have e0 := zQ hV 0; have e1 := zQ hV 1; have q0 := hS.1; have q1 := hS.2.1; go_simp; exact zO hK
    refine zS (fun w' hS hV K hK => ?_) ?_
    · have e2 := zQ hV 2; have q0 := hS.1; have q1 := hS.2.1; go_simp; exact zO hK
    refine zS (fun w' hS hV K hK => ?_) ?_
    · have q0 := hS.1; have q1 := hS.2.1; go_simp; exact zO hK
    refine zS (fun w' hS hV K hK => ?_) ?_
    · have q0 := hS.1; have q1 := hS.2.1; go_simp; exact zO hK
    refine zS (fun w' hS hV K hK => ?_) ?_
    · have e4 := zQ hV 4; have e5 := zQ hV 5; have q0 := hS.1; have q1 := hS.2.1; go_simp; exact zO hK
    refine zS (fun w' hS hV K hK => ?_) ?_
    · have e6 := zQ hV 6; have q0 := hS.1; have q1 := hS.2.1; go_simp; exact zO hK
    refine zS (fun w' hS hV K hK => ?_) ?_
    · have e3 := zQ hV 3; have e7 := zQ hV 7; have q0 := hS.1; have q1 := hS.2.1; go_simp; refine (hl _ hS.2.2).mono ?_; rintro e v1 ⟨rfl, j1, rfl⟩; exact hK.out _ _ _ rfl rfl rfl (below_drewN zG j1)
    refine zS (fun w' hS hV K hK => ?_) ?_
    · have e8 := zQ hV 8; have q0 := hS.1; have q1 := hS.2.1; go_simp; exact zO hK
    refine fun w' hS hV => ?_
    have e0 := zT hV 0
    have e1 := zT hV 1
    have e2 := zT hV 2
    have e3 := zT hV 3
    have e4 := zT hV 4
    have e5 := zT hV 5
    have e6 := zT hV 6
    have e7 := zT hV 7
    have e8 := zT hV 8
    have e9 := zT hV 9
    simp only [e0, e1, e2, e3, e4, e5, e6, e7, e8, e9]
    clear e0 e1 e2 e3 e4 e5 e6 e7 e8 e9
    refine wpAny_done (by kernel_rfl) ?_ _
    have hB8 := hS.2.2
    go_wp2
    go_roundw
    case rel => exact ⟨k + 1, by omega, by go_num, hB8⟩
    case measure => simp [intOf]; omega
  · go_wp2
    go_ret
    exact ⟨rfl, hB⟩
theorem big_any (A : Option Addr) (n c : Nat) (w : World) :
    Calls Tryz.prog 8 #[.slice A n c] w fun e w' => e = .returned (.bool (decide (4096 < n))) ∧ w = w' := by
 go_enter Tryz.func8, Tryz.ntmps8
 by_cases h : 4096 < n
 · have d1 : decide ((4096 : Int) < (n : Int)) = true := by rw [decide_eq_true_eq]; omega
   go_wp2
   go_ret
   exact ⟨ret_bool (by rw [eq_comm, decide_eq_true_eq]; exact h), rfl⟩
 · have d1 : decide ((4096 : Int) < (n : Int)) = false := by rw [decide_eq_false_iff_not]; omega
   go_wp2
   go_ret
   exact ⟨ret_bool (by rw [eq_comm, decide_eq_false_iff_not]; exact h), rfl⟩
theorem size5_any (P : Int) (A : Option Addr) (n c : Nat) (w : World) (hn : n ≤ 30) :
    Calls Tryz.prog 40 #[.agg #[.int .i64 P, .slice A n c]] w fun e w' => e = .returned (.int .i64 (pw n)) ∧ Below w.heap.size w w' := by
 go_enter Tryz.func40, Tryz.ntmps40
 go_wp2
 go_ret
 exact ⟨ret_int (wrap_pw n hn), zG.alloc (Nat.le_refl _) _⟩
/-- The value is a die. -/
def VDice (B : Nat) : VP := ⟨fun v w => ∃ g, v = .pointer (some ⟨g, 0, none⟩) ∧ B ≤ g ∧ Src w g 100, fun _ _ _ ⟨g, e, h1, h2⟩ hb => ⟨g, e, h1, h2.below hb⟩⟩
/-- What a throw of a die that was made since the heap had B blocks does. -/
def RelC (B : Nat) (w w' : World) : Prop := ∃ g, B ≤ g ∧ Dr g 100 w w'
/-- The value is a product of something with a multivector. -/
def VPr (B n : Nat) (P : Int) (sq xs : List Int) : VP := ⟨fun v w => ∃ (A : Option Addr) (c : Nat) (V : List Int), v = .slice A n c ∧ (V.length = n ∧ NumsL P V) ∧ Own w B 2 A n c (ints (mulL P sq V xs)), fun _ _ _ ⟨A, c, V, e, hl, ho⟩ hb => ⟨A, c, V, e, hl, ho.below hb⟩⟩
theorem VPr.dr {B n g : Nat} {P : Int} {sq xs : List Int} {T : TypeId} {v : Value} {w w' : World} (h : (VPr B n P sq xs).p v w) (d : Dr g T w w') (hT : 2 ≠ T) : (VPr B n P sq xs).p v w' := by
 obtain ⟨A, c, V, e, hl, ho⟩ := h
 exact ⟨A, c, V, e, hl, ho.dr d hT⟩
theorem pw_16 {n : Nat} (h1 : 1 ≤ n) (h : n ≤ 4) : pw n ≤ 16 := pw_le h
theorem lidR_sz (P : Int) (sq xs : List Int) : (lidR P sq xs).1.length ≤ 16 ∧ ∀ v ∈ (lidR P sq xs).1, v.length ≤ 16 := by
 by_cases hc : codeA P sq [xs] = 0
 · rw [lidR_ok hc]
   obtain ⟨h1, h4⟩ := codeA_zero hc
   obtain ⟨HP, hp, _, h1, h6, _, hms⟩ := codeM_spec3 h1
   obtain ⟨hx, hxn⟩ := hms xs (by simp)
   obtain ⟨_, _, hT, hl⟩ := rm_facts (P := P) (sq := sq) hp hx hxn
   have hpw := pw_16 h1 h4
   have hb := basisL_len (show 0 < P by omega) _ hT
   exact ⟨by show (lidL P sq sq.length xs).length ≤ 16; unfold lidL; omega, fun v hv => by have := (basisL_tab (show 0 < P by omega) _ hT v hv).1; omega⟩
 · rw [lidR_bad hc]; simp
theorem lanR_sz (P : Int) (sq xs : List Int) : (lanR P sq xs).1.length ≤ 16 ∧ ∀ v ∈ (lanR P sq xs).1, v.length ≤ 16 := by
 by_cases hc : codeA P sq [xs] = 0
 · rw [lanR_ok hc]
   obtain ⟨h1, h4⟩ := codeA_zero hc
   obtain ⟨HP, hp, _, h1, h6, _, _⟩ := codeM_spec3 h1
   have hpw := pw_16 h1 h4
   exact ⟨Nat.le_trans (kernL_len HP _ _) hpw, fun v hv => by have := (kernL_tab hp (rmL P sq sq.length xs) (pw sq.length) v hv).1; omega⟩
 · rw [lanR_bad hc]; simp
set_option maxHeartbeats 25600000 in
set_option maxRecDepth 40000 in
theorem FnLeftIdeals_any (B : Option Addr) (nb cb : Nat) (bs : List Int) (w : World) (r : Rd w B nb (bs.map (Value.int .u8))) (hbs : ∀ b ∈ bs, 0 ≤ b ∧ b < 256) (hbg : ∀ a, B = some a → a.block < w.heap.size) :
    Calls Tryz.prog 6 #[.slice B nb cb] w fun e w' => e = .returned (.bool true) ∧ Below w.heap.size w w' := by
 have hbig := big_any B nb cb w
 by_cases hbb : 4096 < nb
 · rw [decide_eq_true hbb] at hbig
   go_enter Tryz.func6, Tryz.ntmps6
   go_wp2_with fail
   refine hbig.mono ?_
   rintro e w1 ⟨rfl, rfl⟩
   go_wp2
   go_ret
   exact ⟨rfl, Below.refl _ _⟩
 · rw [decide_eq_false hbb] at hbig
   have hdr := DrawLeftIdealOf_any B nb cb bs w (by omega) r hbs hbg
   go_enter Tryz.func6, Tryz.ntmps6
   go_wp2_with fail
   refine hbig.mono ?_
   rintro e w1 ⟨rfl, rfl⟩
   clear hbig
   go_wp2_with fail
   refine hdr.mono ?_
   rintro e w2 ⟨P, A, n, c, sq, X, m, cx, xs, rfl, hP, hn, hm, ho, hx, hb2⟩
   have hcx := hx.cap
   have hA : Below w2.heap.size w2 (w2.alloc (.cells #[.int .i64 P, .slice A n c] 26)) := zG.alloc (Nat.le_refl _) _
   have k3 : Blk (w2.alloc (.cells #[.int .i64 P, .slice A n c] 26)) w2.heap.size 26 #[.int .i64 P, .slice A n c] := Blk.new _ _ _
   have hB3 := hb2.alloc (o := .cells #[.int .i64 P, .slice A n c] 26) hb2.size
   have o3 := (ho.below hA).rd
   have x3 := (hx.below hA).rd
   have r3 := r.below hB3
   obtain ⟨w3, hw3⟩ : ∃ W, W = w2.alloc (.cells #[.int .i64 P, .slice A n c] 26) := ⟨_, rfl⟩
   have hb1 := LeftIdealOf_any P A n c sq X m cx xs w3 (by omega) (by omega) (hw3 ▸ o3) (hw3 ▸ x3) hcx
   obtain ⟨⟨G, z⟩, hGz⟩ : ∃ R, R = lidR P sq xs := ⟨_, rfl⟩
   obtain ⟨⟨K, z2⟩, hKz⟩ : ∃ R, R = lanR P sq xs := ⟨_, rfl⟩
   have hsz := lidR_sz P sq xs
   have hsk := lanR_sz P sq xs
   rw [← hGz] at hb1 hsz
   rw [← hKz] at hsk
   have HSZ : Hid (G.length ≤ 16 ∧ ∀ v ∈ G, v.length ≤ 16) := Lib.hid hsz
   have HSK : Hid (K.length ≤ 16 ∧ ∀ v ∈ K, v.length ≤ 16) := Lib.hid hsk
   obtain ⟨q0, q1⟩ := k3.two
   clear hdr ho hx hb2 hA hsz hsk r
   go_wp2_with fail
   rw [← hw3] at k3 hB3 o3 x3 r3 ⊢
   clear hw3
   have HR9 := Lib.hid r3
   have HBS := Lib.hid hbs
   have HBG := Lib.hid hbg
   clear r3 hbs hbg
   refine hb1.mono ?_
   rintro e w4 ⟨Ag, kg, cg, rfl, hM4⟩
   have hW := hM4.b
   have r_x := x3.below hW
   have r_g : RdII w4 Ag kg G := hM4.rd
   clear q0 q1 hb1 hM4 x3
   have kk := k3.below hW k3.lt
   obtain ⟨q0, q1⟩ := kk.two
   clear kk
   have hcall := specLeftIdealOf_any P A n c sq X m cx xs w4 (by omega) (by omega) (o3.below hW) r_x hcx
   rw [← hGz] at hcall
   go_wp2_with fail
   refine hcall.mono ?_
   rintro e w5 ⟨A5, m5, c5, rfl, hM⟩
   replace r_x := r_x.below hM.b
   replace r_g := r_g.below hM.b
   have r_t : RdII w5 A5 m5 G := hM.rd
   replace hW := hW.trans (hM.b.mono hW.size)
   clear hM
   clear hcall q0 q1
   obtain rfl : kg = m5 := by rw [← r_g.len]; exact r_t.len
   have kk := k3.below hW k3.lt
   obtain ⟨q0, q1⟩ := kk.two
   clear kk
   have hcall := LeftAnnihilatorOf_any P A n c sq X m cx xs w5 (by omega) (by omega) (o3.below hW) r_x hcx
   rw [← hKz] at hcall
   go_wp2_with fail
   refine hcall.mono ?_
   rintro e w6 ⟨Ak, kk, ck, rfl, hM⟩
   replace r_x := r_x.below hM.b
   replace r_g := r_g.below hM.b
   replace r_t := r_t.below hM.b
   have r_k : RdII w6 Ak kk K := hM.rd
   replace hW := hW.trans (hM.b.mono hW.size)
   clear hM
   clear hcall q0 q1
   have kk := k3.below hW k3.lt
   obtain ⟨q0, q1⟩ := kk.two
   clear kk
   have hcall := specLeftAnnihilatorOf_any P A n c sq X m cx xs w6 (by omega) (by omega) (o3.below hW) r_x hcx
   rw [← hKz] at hcall
   go_wp2_with fail
   refine hcall.mono ?_
   rintro e w7 ⟨A7, m7, c7, rfl, hM⟩
   replace r_x := r_x.below hM.b
   replace r_g := r_g.below hM.b
   replace r_t := r_t.below hM.b
   replace r_k := r_k.below hM.b
   have r_u : RdII w7 A7 m7 K := hM.rd
   replace hW := hW.trans (hM.b.mono hW.size)
   clear hM
   clear hcall q0 q1
   obtain rfl : kk = m7 := by rw [← r_k.len]; exact r_u.len
   have e0 : (z != z) = false := by simp
   have e1 : (z2 != z2) = false := by simp
   have hkg : kg ≤ 16 := by rw [← r_g.len]; exact HSZ.out.1
   have hkk : kk ≤ 16 := by rw [← r_k.len]; exact HSK.out.1
   have hcall := likeRows5_same Ag A5 kg cg c5 _ w7 (by omega) r_g r_t (fun v hv => by have := HSZ.out.2 v hv; omega)
   go_wp2_with fail
   refine hcall.mono ?_
   rintro e w8 ⟨rfl, hb7⟩
   replace r_x := r_x.below hb7
   replace r_g := r_g.below hb7
   replace r_t := r_t.below hb7
   replace r_k := r_k.below hb7
   replace r_u := r_u.below hb7
   replace hW := hW.trans (hb7.mono hW.size)
   clear hcall hb7
   clear r_t
   have hcall := likeRows5_same Ak A7 kk ck c7 _ w8 (by omega) r_k r_u (fun v hv => by have := HSK.out.2 v hv; omega)
   go_wp2_with fail
   refine hcall.mono ?_
   rintro e w9 ⟨rfl, hb7⟩
   replace r_x := r_x.below hb7
   replace r_g := r_g.below hb7
   replace r_k := r_k.below hb7
   replace r_u := r_u.below hb7
   replace hW := hW.trans (hb7.mono hW.size)
   clear hcall hb7 e0 e1
   clear r_u
   have hsl := o3.lenI
   by_cases hcd : codeA P sq [xs] = 0
   · rw [lidR_ok hcd] at hGz
     rw [lanR_ok hcd] at hKz
     obtain rfl : z = 0 := (Prod.mk.inj hGz).2
     obtain rfl : z2 = 0 := (Prod.mk.inj hKz).2
     have hG := (Prod.mk.inj hGz).1
     have hKL := (Prod.mk.inj hKz).1
     obtain ⟨hcm, hn4⟩ := codeA_zero hcd
     obtain ⟨HP, hp, hp2, hd1, hd2, hnum, hms⟩ := codeM_spec3 hcm
     obtain ⟨hx1, hxn⟩ := hms xs (by simp)
     obtain ⟨hsp, -⟩ := codeM_sp hcm
     have hmn : m = pw n := by rw [← r_x.lenI, hx1, hsl]
     subst hmn
     have hcd0 : codeA P sq [] = 0 := codeA_mk (codeM_mk hsp (fun ys h => by simp at h)) hn4
     have hsum := lid_lan HP hx1 hxn
     have hln : ∀ i, i < (lanL P sq sq.length xs).length → _ := fun i hi => lan_row HP hx1 hxn hi
     have hhas := has_lan HP hx1 hxn
     have HCV : Hid (∀ y : List Int, y.length = pw n → NumsL P y → codeM P sq [y, xs] = 0) := Lib.hid fun y hy hyn => codeM_mk hsp (all_two ⟨by rw [hy, hsl], hyn⟩ ⟨hx1, hxn⟩)
     have hspn : ∀ V : List Int, V.length = pw sq.length → NumsL P V → _ := fun V h1 h2 => lid_span HP hx1 hxn h1 h2
     have hdim := fun hrg : regB sq = true => lid_dim HP hd1 hn4 (fun i hi => reg_ne (show 0 < P by omega) hnum hrg hi) hx1 hxn
     have hgt : Tab P (pw sq.length) (lidL P sq sq.length xs) := basisL_tab (by omega) _ (rm_facts (P := P) (sq := sq) hp hx1 hxn).2.2.1
     have hhi := hinR_ok hcd
     rw [hsl] at hG hKL hsum hln hhas hspn hgt hn4 hd1 hd2 hhi
     rw [hsl] at hdim
     rw [← hG] at hsum hspn hgt hdim
     rw [← hKL] at hsum hln hhas
     have HKK := Lib.hid r_k.len
     have hgl : G.length = kg := r_g.len
     rw [hgl] at hdim hspn
     rw [hgl, HKK.out] at hsum
     rw [HKK.out] at hhas
     have HHI : Hid (hinR P sq xs = (((kk : Int) == 0), 0)) := Lib.hid (by
      rw [hhi, hhas]
      congr 1
      by_cases h : kk = 0
      · simp [h]
      · have : ¬ (kk : Int) = 0 := by omega
        simp [h, this])
     have HLN := Lib.hid hln
     have HSP := Lib.hid hspn
     have HDIM := Lib.hid hdim
     have HGT := Lib.hid hgt
     have HPP := Lib.hid HP
     have hpw : pw n ≤ 16 := pw_le hn4
     have hpn := pw_pos n
     clear hG hKL hGz hKz hcm HP hnum hsp hms hx1 hxn hln hspn hdim hgt hhi hhas HSZ HSK hgl
     have W1 : wrap64 ((kg : Int) + (kk : Int)) = ((pw n : Nat) : Int) := by unfold wrap64; omega
     have e3 : (((pw n : Nat) : Int) != ((pw n : Nat) : Int)) = false := by simp
     have kk := k3.below hW k3.lt
     obtain ⟨q0, q1⟩ := kk.two
     clear kk
     have hcall := size5_any P A n c w9 (by omega)
     go_wp2_with fail
     refine hcall.mono ?_
     rintro e w10 ⟨rfl, hb7⟩
     replace r_x := r_x.below hb7
     replace r_g := r_g.below hb7
     replace r_k := r_k.below hb7
     replace hW := hW.trans (hb7.mono hW.size)
     clear hcall q0 q1
     go_wp2
     clear W1 e3
     go_loopw [13] (fun iv wr => ∃ j : Nat, j ≤ kk ∧ iv = .int .i64 j ∧ Below w10.heap.size w10 wr) (fun iv _ => kk - (intOf iv).toNat)
     case atStart => exact ⟨0, by omega, rfl, Below.refl _ _⟩
     case round =>
      obtain ⟨j, hj, rfl, hbr⟩ := hrel
      by_cases hlt : j < kk
      · have kk9 := k3.below (hW.trans (hbr.mono hW.size)) k3.lt
        obtain ⟨gl, ol, rfl, hxi, Ar, cr, hcell, hr1, hcap⟩ := (r_k.below hbr).at_ hlt
        have hv := HLN.out j (by rw [HKK.out]; omega)
        have hv0 : K.getD j [] = K[j] := by rw [List.getD_eq_getElem?_getD, List.getElem?_eq_getElem hxi]; rfl
        rw [hv0] at hv
        rw [hv.1] at hcell hr1 hcap
        obtain ⟨v, hve⟩ : ∃ v, v = K[j] := ⟨_, rfl⟩
        rw [← hve] at hv hr1
        have oo := o3.below (hW.trans (hbr.mono hW.size))
        obtain ⟨MZ, hMZ⟩ : ∃ M, M = mulL P sq v xs := ⟨_, rfl⟩
        have hcv := HCV.out v hv.1 hv.2.1
        have HT1 := fun (w' : World) (h : Below wr.heap.size wr w') => times5_ok P A n c sq Ar (pw n) cr v X (pw n) cx xs w' (by omega) (by omega) (by omega) (oo.below h) (hr1.below h) hcap ((r_x.below hbr).below h) hcx hcv
        rw [← hMZ] at HT1
        replace HT1 := Lib.hid HT1
        have HZ : Hid (∀ y ∈ MZ, y = 0) := Lib.hid (by rw [hMZ]; exact hv.2.2)
        have b1 : (0 : Int) ≤ (j : Int) := by omega
        have b2 : (j : Int) < (kk : Int) := by omega
        clear hve hv hv0 hcap hxi hr1 hMZ hcv oo
        obtain ⟨q0, q1⟩ := kk9.two
        go_wp2
        refine wp_obs 8 [[],[],[],[1,2],[1,2,3],[],[0,1,2,3,4,5],[0,1,2,3,4,5,6]] [VIs (.agg #[.int .i64 P, .slice A n c]), VIs (.slice (some ⟨gl, ol, none⟩) kk ck), VIs (.int .i64 (j)), VIs (.pointer (some ⟨gl, ol + j, none⟩)), VIs (.slice Ar (pw n) cr), VIs (.slice X (pw n) cx), VSl wr (pw n) MZ, VSl wr (pw n) MZ] (fun w' => w'.cell? ⟨gl, ol + j, none⟩ = some (.slice Ar (pw n) cr) ∧ Blk w' w2.heap.size 26 #[.int .i64 P, .slice A n c] ∧ Below wr.heap.size wr w') (by kernel_rfl) (by kernel_rfl) (fun _ _ h hb => ⟨(hb.cell (World.block_lt_of_cell? _ _ h.1)).trans h.1, h.2.1.below hb h.2.1.lt, h.2.2.trans (hb.mono h.2.2.size)⟩) (⟨hcell, kk9.drew, zG.drew⟩) (fun x => ?_)
        refine zS (fun w' hS hV K hK => ?_) ?_
        · have q2 := hS.1; obtain ⟨q0, q1⟩ := hS.2.1.two; go_simp; exact zO hK
        refine zS (fun w' hS hV K hK => ?_) ?_
        · have q2 := hS.1; obtain ⟨q0, q1⟩ := hS.2.1.two; go_simp; exact zO hK
        refine zS (fun w' hS hV K hK => ?_) ?_
        · have q2 := hS.1; obtain ⟨q0, q1⟩ := hS.2.1.two; go_simp; exact zO hK
        refine zS (fun w' hS hV K hK => ?_) ?_
        · have e1 := zQ hV 1; have e2 := zQ hV 2; have q2 := hS.1; obtain ⟨q0, q1⟩ := hS.2.1.two; go_simp; exact zO hK
        refine zS (fun w' hS hV K hK => ?_) ?_
        · have e3 := zQ hV 3; have q2 := hS.1; obtain ⟨q0, q1⟩ := hS.2.1.two; go_simp; exact zO hK
        refine zS (fun w' hS hV K hK => ?_) ?_
        · have q2 := hS.1; obtain ⟨q0, q1⟩ := hS.2.1.two; go_simp; exact zO hK
        refine zS (fun w' hS hV K hK => ?_) ?_
        · have e0 := zQ hV 0; have e4 := zQ hV 4; have e5 := zQ hV 5; have q2 := hS.1; obtain ⟨q0, q1⟩ := hS.2.1.two; go_simp; refine (HT1.out _ hS.2.2).mono ?_; rintro e v1 ⟨A2, c2, rfl, hM⟩; exact hK.out _ _ _ rfl rfl ⟨_, _, rfl, hM.after hS.2.2⟩ hM.b
        refine zS (fun w' hS hV K hK => ?_) ?_
        · obtain ⟨A6, c6, e6, h6⟩ := hV 6 (by decide); have q2 := hS.1; obtain ⟨q0, q1⟩ := hS.2.1.two; go_simp; exact hK.out _ _ _ rfl rfl ⟨_, _, rfl, h6⟩ zG
        refine fun w' hS hV => ?_
        have e0 := zT hV 0
        have e1 := zT hV 1
        have e2 := zT hV 2
        have e3 := zT hV 3
        have e4 := zT hV 4
        have e5 := zT hV 5
        obtain ⟨A6, c6, e6, h6⟩ := hV 6 (by decide)
        obtain ⟨A7, c7, e7, h7⟩ := hV 7 (by decide)
        simp only [e0, e1, e2, e3, e4, e5, e6, e7]
        clear e0 e1 e2 e3 e4 e5 e6 e7
        refine wpAny_done (by kernel_rfl) ?_ _
        obtain ⟨w18, hw18⟩ : ∃ W, W = w' := ⟨_, rfl⟩
        rw [← hw18] at hS h7 ⊢
        have kk8 := hS.2.1
        have hb18 := hS.2.2
        have rz := h7.rd
        clear hS HT1 q0 q1 hw18 h7 hcell kk9
        obtain ⟨q0, q1⟩ := kk8.two
        have e3 : (((pw n : Nat) : Int) != ((pw n : Nat) : Int)) = false := by simp
        have hcall := size5_any P A n c w18 (by omega)
        go_wp2_with fail
        refine hcall.mono ?_
        rintro e w19 ⟨rfl, hb7⟩
        have hz5 := zero5_any A7 (pw n) c7 MZ w19 (by omega) (rz.below hb7)
        rw [decide_eq_true HZ.out] at hz5
        have hb19 := hbr.trans ((hb18.trans (hb7.mono hb18.size)).mono hbr.size)
        clear hcall q0 q1 hb7 hb18 kk8 rz HZ hbr
        go_wp2_with fail
        refine hz5.mono ?_
        rintro e w20 ⟨rfl, rfl⟩
        clear hz5 e3
        go_wp2
        go_roundw
        case rel => exact ⟨j + 1, by omega, by go_num, hb19⟩
        case measure => simp [intOf]; omega
      · obtain rfl : j = kk := by omega
        replace hW := hW.trans (hbr.mono hW.size)
        replace r_x := r_x.below hbr
        replace r_g := r_g.below hbr
        clear hbr r_k
        have kk9 := k3.below hW k3.lt
        have oo := o3.below hW
        have rx9 := r_x
        have r10 := HR9.out.below hW
        have hbg10 : ∀ a, B = some a → a.block < wr.heap.size := fun a e => Nat.lt_of_lt_of_le (HBG.out a e) (Nat.le_trans hB3.size hW.size)
        obtain ⟨q0, q1⟩ := kk9.two
        go_wp2
        refine wp_obsR 11 (RelC wr.heap.size) [[], [], [1], [], [3], [], [5], [1, 2, 3, 4, 5, 6], [], [0, 1, 2, 3, 4, 5, 6, 7, 8], [0, 1, 2, 3, 4, 5, 6, 7, 8, 9]] [[], [], [], [], [], [], [], [2], [], [], []] (fun x => [VIs (.agg #[.int .i64 P, .slice A n c]), VIs (.slice B nb cb), VDice wr.heap.size, VIs (.agg #[.int .i64 P, .slice A n c]), VIs (.int .i64 (pw n)), VIs (.pointer (some ⟨w2.heap.size, 0, none⟩)), VIs (.int .i64 (P)), VLs wr.heap.size (pw n) P, VIs (.slice X (pw n) cx), VPr wr.heap.size (pw n) P sq xs, VPr wr.heap.size (pw n) P sq xs]) (fun w' => Blk w' w2.heap.size 26 #[.int .i64 P, .slice A n c] ∧ Below wr.heap.size wr w') (by kernel_rfl) (by kernel_rfl) (fun x x' j hx => by
            rcases j with _ | _ | _ | _ | _ | _ | _ | _ | _ | _ | _ | j
            · rfl
            · rfl
            · rfl
            · rfl
            · rfl
            · rfl
            · rfl
            · rfl
            · rfl
            · rfl
            · rfl
            · rfl)
         (weak_ofR [0, 1, 3, 4, 5, 6, 7, 8, 9, 10] (by decide) (fun k hk x v w w' hp hr => by
          simp only [List.mem_cons, zJ, or_false] at hk
          rcases hk with rfl | rfl | rfl | rfl | rfl | rfl | rfl | rfl | rfl | rfl
          · exact hp
          · exact hp
          · exact hp
          · exact hp
          · exact hp
          · exact hp
          · obtain ⟨g, h1, hd⟩ := hr; exact VLs.dr hp hd (by decide)
          · exact hp
          · obtain ⟨g, h1, hd⟩ := hr; exact VPr.dr hp hd (by decide)
          · obtain ⟨g, h1, hd⟩ := hr; exact VPr.dr hp hd (by decide))) (fun j _ _ h hb => hb.either (fun hb => ⟨h.1.below hb h.1.lt, h.2.trans (hb.mono h.2.size)⟩) (fun ⟨g, h1, hd⟩ => ⟨h.1.dr hd (by decide), h.2.trans (hd.b.mono h1)⟩)) (⟨kk9.drew, zG.drew⟩) (fun x => ?_)
        refine zSR (fun w' hS hV K hK => ?_) ?_
        · obtain ⟨q0, q1⟩ := hS.1.two; go_simp; exact hK.out _ _ _ rfl rfl rfl zG
        refine zSR (fun w' hS hV K hK => ?_) ?_
        · obtain ⟨q0, q1⟩ := hS.1.two; go_simp; exact hK.out _ _ _ rfl rfl rfl zG
        refine zSR (fun w' hS hV K hK => ?_) ?_
        · have e1 := zQ hV 1; obtain ⟨q0, q1⟩ := hS.1.two; go_simp; refine (roll_any B nb cb bs 844 w' (by omega) (r10.below hS.2) HBS.out (fun a e => Nat.lt_of_lt_of_le (hbg10 a e) hS.2.size)).mono ?_; rintro e v1 ⟨g, rfl, hg, hs, hb⟩; exact hK.out _ _ _ rfl rfl ⟨g, rfl, Nat.le_trans hS.2.size hg, hs⟩ hb
        refine zSR (fun w' hS hV K hK => ?_) ?_
        · obtain ⟨q0, q1⟩ := hS.1.two; go_simp; exact hK.out _ _ _ rfl rfl rfl zG
        refine zSR (fun w' hS hV K hK => ?_) ?_
        · have e3 := zQ hV 3; obtain ⟨q0, q1⟩ := hS.1.two; go_simp; refine (size5_any P A n c w' (by omega)).mono ?_; rintro e v1 ⟨rfl, hb⟩; exact hK.out _ _ _ rfl rfl rfl hb
        refine zSR (fun w' hS hV K hK => ?_) ?_
        · obtain ⟨q0, q1⟩ := hS.1.two; go_simp; exact hK.out _ _ _ rfl rfl rfl zG
        refine zSR (fun w' hS hV K hK => ?_) ?_
        · have e5 := zQ hV 5; obtain ⟨q0, q1⟩ := hS.1.two; go_simp; exact hK.out _ _ _ rfl rfl rfl zG
        refine zSR (fun w' hS hV K hK => ?_) ?_
        · obtain ⟨g9, e2, hg9, s9⟩ := hV 2 (by decide); have e4 := zQ hV 4; have e6 := zQ hV 6; obtain ⟨q0, q1⟩ := hS.1.two; go_simp; refine (belowList_any g9 P (pw n) w' s9 (by omega) (by omega)).mono ?_; rintro e v1 ⟨A9, c9, xs9, rfl, hl9, hx9, ho9, hd9⟩; exact hK.out _ _ _ rfl rfl ⟨_, _, xs9, rfl, hl9, nums_of (by omega) hx9, ho9.base hS.2.size⟩ (StepR.rel rfl ⟨g9, hg9, hd9⟩)
        refine zSR (fun w' hS hV K hK => ?_) ?_
        · obtain ⟨q0, q1⟩ := hS.1.two; go_simp; exact hK.out _ _ _ rfl rfl rfl zG
        refine zSR (fun w' hS hV K hK => ?_) ?_
        · have e0 := zQ hV 0; obtain ⟨A7, c7, X7, e7, l7, u7, h7⟩ := hV 7 (by decide); have e8 := zQ hV 8; obtain ⟨q0, q1⟩ := hS.1.two; go_simp; refine (times5_ok P A n c sq A7 (pw n) c7 X7 X (pw n) cx xs w' (by omega) (by omega) (by omega) (oo.below hS.2) h7.rd h7.cap (rx9.below hS.2) hcx (HCV.out _ l7 u7)).mono ?_; rintro e v1 ⟨A9, c9, rfl, hM⟩; exact hK.out _ _ _ rfl rfl ⟨_, _, _, rfl, ⟨l7, u7⟩, hM.2.base hS.2.size⟩ hM.b
        refine zSR (fun w' hS hV K hK => ?_) ?_
        · obtain ⟨A7, c7, X7, e7, l7, u7, h7⟩ := hV 7 (by decide); obtain ⟨A9, c9, X9, e9, l9, h9⟩ := hV 9 (by decide); obtain ⟨q0, q1⟩ := hS.1.two; go_simp; exact hK.out _ _ _ rfl rfl ⟨_, _, _, rfl, l9, h9⟩ zG
        refine fun w' hS hV => ?_
        have e0 := zQ hV 0
        have e1 := zQ hV 1
        have e3 := zQ hV 3
        have e4 := zQ hV 4
        have e5 := zQ hV 5
        have e6 := zQ hV 6
        obtain ⟨A7, c7, X7, e7, l7, u7, h7⟩ := hV 7 (by decide)
        have e8 := zQ hV 8
        obtain ⟨A9, c9, X9, e9, l9, h9⟩ := hV 9 (by decide)
        obtain ⟨A10, c10, X10, e10, l10, h10⟩ := hV 10 (by decide)
        simp only [e0, e1, e3, e4, e5, e6, e7, e8, e9, e10]
        clear e0 e1 e3 e4 e5 e6 e7 e8 e9 e10
        refine wpAny_done (by kernel_rfl) ?_ _
        obtain ⟨w11, hw11⟩ : ∃ W, W = w' := ⟨_, rfl⟩
        obtain ⟨V, hV0⟩ : ∃ V, V = X10 := ⟨_, rfl⟩
        obtain ⟨Az, hAz⟩ : ∃ V, V = A10 := ⟨_, rfl⟩
        obtain ⟨cz, hcz⟩ : ∃ V, V = c10 := ⟨_, rfl⟩
        have hb7 := hS.2
        rw [← hV0] at l10 h10
        rw [← hAz, ← hcz] at h10 ⊢
        rw [← hw11] at hb7 h10 ⊢
        replace hW := hW.trans (hb7.mono hW.size)
        replace r_x := r_x.below hb7
        replace r_g := r_g.below hb7
        have hoz := h10.base (B' := 0) (Nat.zero_le _)
        have hsp := HSP.out V l10.1 l10.2
        have HSPN := Lib.hid hsp.1
        have hzz := hsp.2
        clear l10 h10 hV0 hAz hcz hw11 hS hb7 q0 q1 kk9 oo rx9 r10 hbg10 hsp
        by_cases hkg0 : kg = 0
        · have t1 : ((kg : Int) == 0) = true := by simp [hkg0]
          have hz5 := zero5_any Az (pw n) cz (mulL P sq V xs) w11 (by omega) hoz.rd
          rw [decide_eq_true (hzz hkg0)] at hz5
          clear hzz hoz
          go_wp2_with fail
          refine hz5.mono ?_
          rintro e w12 ⟨rfl, rfl⟩
          go_wp2
          go_ret
          exact ⟨rfl, hB3.trans (hW.mono hB3.size)⟩
        · have t1 : ((kg : Int) == 0) = false := by simp; omega
          replace hkg0 : 0 < kg := by omega
          have e7 : (((j : Int) == 0) != ((j : Int) == 0)) = false := by simp
          clear hzz
          by_cases hrg : regB sq = true
          · have hst := strR_ok hcd0 hrg
            have hdim := HDIM.out hrg
            rw [hsl] at hst
            obtain ⟨⟨sb, sr, sd⟩, hsv⟩ : ∃ R, R = strV P sq n := ⟨_, rfl⟩
            rw [← hsv] at hst hdim
            have d1 : (kg : Int) % (sr * sd) = 0 := hdim.1
            have d2 : 0 < sr * sd := hdim.2.1
            have d3 : sr * sd ≤ 4 := hdim.2.2
            obtain ⟨S, hSS⟩ : ∃ S, S = sr * sd := ⟨_, rfl⟩
            rw [← hSS] at d1 d2 d3
            have W2 : wrap64 (sr * sd) = S := by rw [← hSS]; unfold wrap64; omega
            have d4 : S ≤ (kg : Int) := by
             have := Int.le_of_dvd (by omega) (Int.dvd_of_emod_eq_zero d1)
             exact this
            clear hdim hsv
            have kk := k3.below hW k3.lt
            obtain ⟨q0, q1⟩ := kk.two
            clear kk
            have hcall := InSpan_any P Ag kg cg G Az (pw n) cz (mulL P sq V xs) w11 HPP.out hkg0 (by omega) (by omega) (by omega) (r_g.below zG) HGT.out hoz (mulL_nums (by omega) _ _ _)
            rw [decide_eq_true HSPN.out] at hcall
            go_wp2_with fail
            refine hcall.mono ?_
            rintro e w12 ⟨rfl, hb7⟩
            replace r_x := r_x.below hb7
            replace hW := hW.trans (hb7.mono hW.size)
            clear hcall q0 q1
            clear hoz
            have kk := k3.below hW k3.lt
            obtain ⟨q0, q1⟩ := kk.two
            clear kk
            have hcall := HasInverse_any P A n c sq X (pw n) cx xs w12 (by omega) (by omega) (o3.below hW) r_x hcx
            rw [HHI.out] at hcall
            go_wp2_with fail
            refine hcall.mono ?_
            rintro e w13 ⟨rfl, hb7⟩
            replace r_x := r_x.below hb7
            replace hW := hW.trans (hb7.mono hW.size)
            clear hcall q0 q1
            have kk := k3.below hW k3.lt
            obtain ⟨q0, q1⟩ := kk.two
            clear kk
            have hcall := MinimalIdealSize_any P A n c sq w13 (by omega) (o3.below hW)
            rw [hst] at hcall
            dsimp only at hcall
            rw [W2] at hcall
            go_wp2_with fail
            refine hcall.mono ?_
            rintro e w14 ⟨rfl, hb7⟩
            replace r_x := r_x.below hb7
            replace hW := hW.trans (hb7.mono hW.size)
            clear hcall q0 q1
            clear hst W2 hSS
            have t2 : decide ((0 : Int) < S) = true := by simp; omega
            have t3 : decide (S ≤ (kg : Int)) = true := by simp; omega
            have t4 : Int.tmod (kg : Int) S = 0 := by rw [Int.tmod_eq_emod_of_nonneg (by omega)]; exact d1
            have t5 : ¬ S = 0 := by omega
            go_wp2
            go_ret
            exact ⟨rfl, hB3.trans (hW.mono hB3.size)⟩
          · have hst := strR_irr hcd0 (by simpa using hrg)
            have kk := k3.below hW k3.lt
            obtain ⟨q0, q1⟩ := kk.two
            clear kk
            have hcall := InSpan_any P Ag kg cg G Az (pw n) cz (mulL P sq V xs) w11 HPP.out hkg0 (by omega) (by omega) (by omega) (r_g.below zG) HGT.out hoz (mulL_nums (by omega) _ _ _)
            rw [decide_eq_true HSPN.out] at hcall
            go_wp2_with fail
            refine hcall.mono ?_
            rintro e w12 ⟨rfl, hb7⟩
            replace r_x := r_x.below hb7
            replace hW := hW.trans (hb7.mono hW.size)
            clear hcall q0 q1
            clear hoz
            have kk := k3.below hW k3.lt
            obtain ⟨q0, q1⟩ := kk.two
            clear kk
            have hcall := HasInverse_any P A n c sq X (pw n) cx xs w12 (by omega) (by omega) (o3.below hW) r_x hcx
            rw [HHI.out] at hcall
            go_wp2_with fail
            refine hcall.mono ?_
            rintro e w13 ⟨rfl, hb7⟩
            replace r_x := r_x.below hb7
            replace hW := hW.trans (hb7.mono hW.size)
            clear hcall q0 q1
            have kk := k3.below hW k3.lt
            obtain ⟨q0, q1⟩ := kk.two
            clear kk
            have hcall := MinimalIdealSize_any P A n c sq w13 (by omega) (o3.below hW)
            rw [hst] at hcall
            dsimp only at hcall
            go_wp2_with fail
            refine hcall.mono ?_
            rintro e w14 ⟨rfl, hb7⟩
            replace r_x := r_x.below hb7
            replace hW := hW.trans (hb7.mono hW.size)
            clear hcall q0 q1
            clear hst
            go_wp2
            go_ret
            exact ⟨rfl, hB3.trans (hW.mono hB3.size)⟩
   · rw [lidR_bad hcd] at hGz
     rw [lanR_bad hcd] at hKz
     have hz := (Prod.mk.inj hGz).2
     have hz2 := (Prod.mk.inj hKz).2
     have e1 : (z != 0) = true := by rw [hz, bne_iff_ne]; exact hcd
     have e2 : (z2 == z) = true := by rw [hz, hz2]; simp
     clear hcd hz hz2 hGz hKz hsl HSZ HSK r_g r_k r_x
     go_wp2
     go_ret
     exact ⟨rfl, hB3.trans (hW.mono hB3.size)⟩
end Go.Proofs.YtmkjdpnoloofjaaGreat

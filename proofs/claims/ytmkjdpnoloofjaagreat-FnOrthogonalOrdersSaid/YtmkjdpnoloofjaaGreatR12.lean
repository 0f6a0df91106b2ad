/-
  LawFnOrthogonalOrders: part 12 of the texts that the proof needs. No condition.
-/
import Derived.Test.YtmkjdpnoloofjaaGreatR11
namespace Go.Proofs.YtmkjdpnoloofjaaGreat
open Go.RowKit
set_option maxHeartbeats 3200000 in
set_option maxRecDepth 8000 in
theorem GeometricProduct_ok (P : Int) (A : Option Addr) (n c : Nat) (sq : List Int) (X : Option Addr) (m cx : Nat) (xs : List Int) (Y : Option Addr) (l cy : Nat) (ys : List Int) (w : World) (hn : n ≤ 1048576) (hm : m ≤ 1048576) (hl : l ≤ 1048576) (ha : Rd w A n (ints sq)) (hx : Rd w X m (ints xs)) (hcx : m ≤ cx) (hy : Rd w Y l (ints ys)) (hcy : l ≤ cy) (h0 : codeM P sq [xs, ys] = 0) :
    Calls Tryz.prog 28 #[.agg #[.int .i64 P, .slice A n c], .slice X m cx, .slice Y l cy] w fun e w' => ∃ (A' : Option Addr) (c' : Nat), e = .returned (.tuple #[.slice A' (pw n) c', .int .i64 0]) ∧ MkI w w' A' (pw n) c' (mulL P sq xs ys) := by
 have hB0 : Below w.heap.size w (w.alloc (.cells #[.int .i64 P, .slice A n c] 26)) := zG.alloc (Nat.le_refl _) _
 have k0 : Blk (w.alloc (.cells #[.int .i64 P, .slice A n c] 26)) w.heap.size 26 #[.int .i64 P, .slice A n c] := Blk.new _ _ _
 have hB1 : Below w.heap.size w ((w.alloc (.cells #[.int .i64 P, .slice A n c] 26)).alloc (.cells #[.slice X m cx, .slice Y l cy] 24)) := hB0.alloc (by simp) _
 have k1 : Blk ((w.alloc (.cells #[.int .i64 P, .slice A n c] 26)).alloc (.cells #[.slice X m cx, .slice Y l cy] 24)) w.heap.size 26 #[.int .i64 P, .slice A n c] := k0.alloc _
 have hreg := checkMultis_any P A (some ⟨w.heap.size + 1, 0, none⟩) n c 2 2 sq [xs, ys] ((w.alloc (.cells #[.int .i64 P, .slice A n c] 26)).alloc (.cells #[.slice X m cx, .slice Y l cy] 24)) hn (by omega) (ha.below hB1) (rdII_two (Blk.newAt (by simp)) (hx.below hB1) (hy.below hB1) hcx hcy) (all_two (by rw [hx.lenI]; exact hm) (by rw [hy.lenI]; exact hl))
 rw [h0] at hreg
 obtain ⟨HP, hp, hp2, hd1, hd2, hs0, hms⟩ := codeM_spec2 h0
 obtain ⟨hx1, hxs0⟩ := hms xs (by simp)
 obtain ⟨hy1, hys0⟩ := hms ys (by simp)
 have hsl := ha.lenI
 have hmx : m = pw n := by rw [← hx.lenI, hx1, hsl]
 have hly : l = pw n := by rw [← hy.lenI, hy1, hsl]
 subst hmx
 subst hly
 rw [hsl] at hd2
 have HXS := Lib.hid hxs0
 have HYS := Lib.hid hys0
 have HS := Lib.hid hs0
 have HX1 := Lib.hid hx.lenI
 have HY1 := Lib.hid hy.lenI
 have htm := timesL_two P sq n xs ys HX1.out HXS.out
 clear hms hx1 hs0 hxs0 hy1 hys0 h0 hsl
 go_enter Tryz.func28, Tryz.ntmps28
 go_wp2_with fail
 refine hreg.mono ?_
 rintro e w2 ⟨rfl, hb2⟩
 have hB2 := hB1.trans (hb2.mono hB1.size)
 have k2 := k1.below hb2 k1.lt
 obtain ⟨q0, q1⟩ := k2.two
 clear k0 hB0 k1 hB1 hb2 hreg
 have hB3 : Below w.heap.size w (w2.alloc (.cells #[.slice X (pw n) cx, .slice Y (pw n) cy] 24)) := hB2.alloc hB2.size _
 have hcall := times_any P A n c sq (some ⟨w2.heap.size, 0, none⟩) 2 2 [xs, ys] (w2.alloc (.cells #[.slice X (pw n) cx, .slice Y (pw n) cy] 24)) (by omega) hp2 hd2 (by omega) (ha.below hB3) HS.out (rdII_two (Blk.new w2 24 _) (hx.below hB3) (hy.below hB3) hcx hcy) (all_two ⟨HXS.out, HX1.out⟩ ⟨HYS.out, HY1.out⟩)
 rw [htm] at hcall
 go_wp2_with fail
 refine hcall.mono ?_
 rintro e w3 ⟨A', c', rfl, hM⟩
 have hM3 := hM.after hB3
 go_wp2
 go_ret2
 exact ⟨A', c', rfl, hM3⟩
set_option maxHeartbeats 3200000 in
set_option maxRecDepth 8000 in
theorem times5_ok (P : Int) (A : Option Addr) (n c : Nat) (sq : List Int) (X : Option Addr) (m cx : Nat) (xs : List Int) (Y : Option Addr) (l cy : Nat) (ys : List Int) (w : World) (hn : n ≤ 1048576) (hm : m ≤ 1048576) (hl : l ≤ 1048576) (ha : Rd w A n (ints sq)) (hx : Rd w X m (ints xs)) (hcx : m ≤ cx) (hy : Rd w Y l (ints ys)) (hcy : l ≤ cy) (h0 : codeM P sq [xs, ys] = 0) :
    Calls Tryz.prog 23 #[.agg #[.int .i64 P, .slice A n c], .slice X m cx, .slice Y l cy] w fun e w' => ∃ (A' : Option Addr) (c' : Nat), e = .returned (.slice A' (pw n) c') ∧ MkI w w' A' (pw n) c' (mulL P sq xs ys) := by
 have hB0 : Below w.heap.size w (w.alloc (.cells #[.int .i64 P, .slice A n c] 26)) := zG.alloc (Nat.le_refl _) _
 have k0 : Blk (w.alloc (.cells #[.int .i64 P, .slice A n c] 26)) w.heap.size 26 #[.int .i64 P, .slice A n c] := Blk.new _ _ _
 have hgp := GeometricProduct_ok P A n c sq X m cx xs Y l cy ys (w.alloc (.cells #[.int .i64 P, .slice A n c] 26)) hn hm hl (ha.below hB0) (hx.below hB0) hcx (hy.below hB0) hcy h0
 clear h0
 go_enter Tryz.func23, Tryz.ntmps23
 go_wp2_with fail
 refine hgp.mono ?_
 rintro e w2 ⟨A', c', rfl, hM⟩
 have hM3 := hM.after hB0
 go_wp2
 go_ret
 exact ⟨A', c', rfl, hM3⟩
set_option maxHeartbeats 1600000 in
set_option maxRecDepth 8000 in
theorem likeRows5_same (A B : Option Addr) (n c d : Nat) (M : List (List Int)) (w : World) (hn : n ≤ 1000) (ha : RdII w A n M) (hb : RdII w B n M) (hM : ∀ v ∈ M, v.length ≤ 1000000) :
    Calls Tryz.prog 14 #[.slice A n c, .slice B n d] w fun e w' => e = .returned (.bool true) ∧ Below w.heap.size w w' := by
 have t4 : ((n : Int) != (n : Int)) = false := by simp
 have HM := Lib.hid hM
 clear hM
 go_enter Tryz.func14, Tryz.ntmps14
 go_wp2
 go_loopw [5] (fun i wr => ∃ k : Nat, k ≤ n ∧ i = .int .i64 k ∧ Below w.heap.size w wr) (fun i _ => n - (intOf i).toNat)
 case atStart => exact ⟨0, by omega, rfl, Below.refl _ _⟩
 case round =>
  obtain ⟨k, hk, rfl, hB⟩ := hrel
  by_cases hlt : k < n
  · obtain ⟨g, o, rfl, hx1, A1, c1, hc1, hr1, -⟩ := (ha.below hB).at_ hlt
    obtain ⟨g2, o2, rfl, hx2, A2, c2, hc2, hr2, -⟩ := (hb.below hB).at_ hlt
    have hml := HM.out M[k] (List.getElem_mem hx1)
    obtain ⟨v, hv⟩ : ∃ v, v = M[k] := ⟨_, rfl⟩
    rw [← hv] at hc1 hc2 hr1 hr2 hml
    obtain ⟨q, hq⟩ : ∃ q, q = v.length := ⟨_, rfl⟩
    rw [← hq] at hc1 hc2 hr1 hr2 hml
    have hr3 : ∀ w', Below w.heap.size w w' → Rd w' A1 q (ints v) ∧ Rd w' A2 q (ints v) := fun w' h => by
     obtain ⟨_, _, e1, hx3, A3, c3, hc3, hr3, -⟩ := ha.at_ hlt
     obtain ⟨_, _, e2, hx4, A4, c4, hc4, hr4, -⟩ := hb.at_ hlt
     cases e1
     cases e2
     rw [(hB.cell (World.block_lt_of_cell? _ _ hc3)), hc3] at hc1
     rw [(hB.cell (World.block_lt_of_cell? _ _ hc4)), hc4] at hc2
     rw [← hv] at hc1 hc2 hr3 hr4
     rw [← hq] at hc1 hc2 hr3 hr4
     cases hc1
     cases hc2
     exact ⟨hr3.below h, hr4.below h⟩
    have hl := fun (w' : World) (h : Below w.heap.size w w') => likeInts_any A1 A2 q q c1 c2 v v w' (by omega) (by omega) (hr3 w' h).1 (hr3 w' h).2
    rw [decide_eq_true rfl] at hl
    clear hv hq ha hb hr1 hr2 hx1 hx2 hr3
    go_wp2
    refine wp_obs 10 [[],[],[0,1],[0,1,2],[],[],[4,5],[4,5,6],[0,1,2,3,4,5,6,7],[0,1,2,3,4,5,6,7,8]] [VIs (.slice (some ⟨g, o, none⟩) n c), VIs (.int .i64 (k)), VIs (.pointer (some ⟨g, o + k, none⟩)), VIs (.slice A1 q c1), VIs (.slice (some ⟨g2, o2, none⟩) n d), VIs (.int .i64 (k)), VIs (.pointer (some ⟨g2, o2 + k, none⟩)), VIs (.slice A2 q c2), VIs (.bool true), VIs (.bool false)] (fun w' => w'.cell? ⟨g, o + k, none⟩ = some (.slice A1 q c1) ∧ w'.cell? ⟨g2, o2 + k, none⟩ = some (.slice A2 q c2) ∧ Below w.heap.size w w') (by kernel_rfl) (by kernel_rfl) (fun _ _ h hb => ⟨(hb.cell (World.block_lt_of_cell? _ _ h.1)).trans h.1, (hb.cell (World.block_lt_of_cell? _ _ h.2.1)).trans h.2.1, h.2.2.trans (hb.mono h.2.2.size)⟩) (⟨hc1, hc2, hB.drew⟩) (fun x => ?_)
    refine zS (fun w' hS hV K hK => ?_) ?_
    · have q0 := hS.1; have q1 := hS.2.1; go_simp; exact zO hK
    refine zS (fun w' hS hV K hK => ?_) ?_
    · have q0 := hS.1; have q1 := hS.2.1; go_simp; exact zO hK
    refine zS (fun w' hS hV K hK => ?_) ?_
    · have e0 := zQ hV 0; have e1 := zQ hV 1; have q0 := hS.1; have q1 := hS.2.1; go_simp; exact zO hK
    refine zS (fun w' hS hV K hK => ?_) ?_
    · have e2 := zQ hV 2; have q0 := hS.1; have q1 := hS.2.1; go_simp; exact zO hK
    refine zS (fun w' hS hV K hK => ?_) ?_
    · have q0 := hS.1; have q1 := hS.2.1; go_simp; exact zO hK
    refine zS (fun w' hS hV K hK => ?_) ?_
    · have q0 := hS.1; have q1 := hS.2.1; go_simp; exact zO hK
    refine zS (fun w' hS hV K hK => ?_) ?_
    · have e4 := zQ hV 4; have e5 := zQ hV 5; have q0 := hS.1; have q1 := hS.2.1; go_simp; exact zO hK
    refine zS (fun w' hS hV K hK => ?_) ?_
    · have e6 := zQ hV 6; have q0 := hS.1; have q1 := hS.2.1; go_simp; exact zO hK
    refine zS (fun w' hS hV K hK => ?_) ?_
    · have e3 := zQ hV 3; have e7 := zQ hV 7; have q0 := hS.1; have q1 := hS.2.1; go_simp; refine (hl _ hS.2.2).mono ?_; rintro e v1 ⟨rfl, j1, rfl⟩; exact hK.out _ _ _ rfl rfl rfl (below_drewN zG j1)
    refine zS (fun w' hS hV K hK => ?_) ?_
    · have e8 := zQ hV 8; have q0 := hS.1; have q1 := hS.2.1; go_simp; exact zO hK
    refine fun w' hS hV => ?_
    have e0 := zT hV 0
    have e1 := zT hV 1
    have e2 := zT hV 2
    have e3 := zT hV 3
    have e4 := zT hV 4
    have e5 := zT hV 5
    have e6 := zT hV 6
    have e7 := zT hV 7
    have e8 := zT hV 8
    have e9 := zT hV 9
    simp only [e0, e1, e2, e3, e4, e5, e6, e7, e8, e9]
    clear e0 e1 e2 e3 e4 e5 e6 e7 e8 e9
    refine wpAny_done (by kernel_rfl) ?_ _
    have hB8 := hS.2.2
    go_wp2
    go_roundw
    case rel => exact ⟨k + 1, by omega, by go_num, hB8⟩
    case measure => simp [intOf]; omega
  · go_wp2
    go_ret
    exact ⟨rfl, hB⟩
theorem big_any (A : Option Addr) (n c : Nat) (w : World) :
    Calls Tryz.prog 8 #[.slice A n c] w fun e w' => e = .returned (.bool (decide (4096 < n))) ∧ w = w' := by
 go_enter Tryz.func8, Tryz.ntmps8
 by_cases h : 4096 < n
 · have d1 : decide ((4096 : Int) < (n : Int)) = true := by rw [decide_eq_true_eq]; omega
   go_wp2
   go_ret
   exact ⟨ret_bool (by rw [eq_comm, decide_eq_true_eq]; exact h), rfl⟩
 · have d1 : decide ((4096 : Int) < (n : Int)) = false := by rw [decide_eq_false_iff_not]; omega
   go_wp2
   go_ret
   exact ⟨ret_bool (by rw [eq_comm, decide_eq_false_iff_not]; exact h), rfl⟩
theorem fixR_sz (P : Int) (sq : List Int) (M : List (List Int)) : (fixR P sq M).1.length ≤ 6 ∧ ∀ v ∈ (fixR P sq M).1, v.length ≤ 6 := by
 unfold fixR
 by_cases hc : codeO P sq M = 0
 · rw [if_pos hc]
   obtain ⟨h1, h2, h3⟩ := codeO_zero hc
   obtain ⟨HP, -, hd2, -⟩ := isSp_dim h1
   have h4 := isP_ge HP
   refine ⟨Nat.le_trans (kernL_len HP _ _) hd2, fun v hv => ?_⟩
   have := (kernL_tab (p := P) (by omega) _ _ v hv).1
   omega
 · rw [if_neg hc]; simp
theorem movR_sz (P : Int) (sq xs : List Int) : (movR P sq xs).1.length ≤ 6 ∧ ∀ v ∈ (movR P sq xs).1, v.length ≤ 6 := by
 unfold movR
 by_cases hc : codeVr P sq xs = 0
 · rw [if_pos hc]
   obtain ⟨_, hp, _, h1, h6, _, _⟩ := codeM_spec3 (codeR_zero (codeVr_zero hc).1).1
   have hT := vmatL_tab hp sq sq.length xs
   have hl := vmatL_len hp sq (show 0 < sq.length by omega) xs
   exact ⟨by show (vmatL P sq sq.length xs).length ≤ 6; omega, fun v hv => by have := (hT v hv).1; omega⟩
 · rw [if_neg hc]; simp
/-- The value is a list and the code 0. -/
def VTs (w0 : World) (n : Nat) (L : List Int) : VP := ⟨fun v w => ∃ A c, v = .tuple #[.slice A n c, .int .i64 0] ∧ MkI w0 w A n c L, fun _ _ _ ⟨A, c, e, h⟩ hb => ⟨A, c, e, h.below hb⟩⟩
set_option maxHeartbeats 51200000 in
set_option maxRecDepth 40000 in
theorem FnOrthogonalOrders_any (B : Option Addr) (nb cb : Nat) (bs : List Int) (w : World) (r : Rd w B nb (bs.map (Value.int .u8))) (hbs : ∀ b ∈ bs, 0 ≤ b ∧ b < 256) (hbg : ∀ a, B = some a → a.block < w.heap.size) :
    Calls Tryz.prog 3 #[.slice B nb cb] w fun e w' => e = .returned (.bool true) ∧ Below w.heap.size w w' := by
 have hbig := big_any B nb cb w
 by_cases hbb : 4096 < nb
 · rw [decide_eq_true hbb] at hbig
   go_enter Tryz.func3, Tryz.ntmps3
   go_wp2_with fail
   refine hbig.mono ?_
   rintro e w1 ⟨rfl, rfl⟩
   go_wp2
   go_ret
   exact ⟨rfl, Below.refl _ _⟩
 · rw [decide_eq_false hbb] at hbig
   go_enter Tryz.func3, Tryz.ntmps3
   go_wp2_with fail
   refine hbig.mono ?_
   rintro e w1 ⟨rfl, rfl⟩
   clear hbig
   have hdr := DrawFixedVectors_any B nb cb bs w (by omega) r hbs hbg
   go_wp2_with fail
   refine hdr.mono ?_
   rintro e w2 ⟨P, A, n, c, sq, AL, q, cl, m, L, rfl, hP, hn, hq0, hq, hm1, hm, hRL, ho, hl, hb2⟩
   have hA : Below w2.heap.size w2 (w2.alloc (.cells #[.int .i64 P, .slice A n c] 26)) := zG.alloc (Nat.le_refl _) _
   have k3 : Blk (w2.alloc (.cells #[.int .i64 P, .slice A n c] 26)) w2.heap.size 26 #[.int .i64 P, .slice A n c] := Blk.new _ _ _
   have hB3 := hb2.alloc (o := .cells #[.int .i64 P, .slice A n c] 26) hb2.size
   have o3 := (ho.below hA).rd
   have l3 := (hl.below hA).rd
   obtain ⟨w3, hw3⟩ : ∃ W, W = w2.alloc (.cells #[.int .i64 P, .slice A n c] 26) := ⟨_, rfl⟩
   have hb1 := FixedVectors_any P A n c sq AL q cl L m w3 (by omega) hq0 hq hm1 hm (hw3 ▸ o3) (hw3 ▸ l3) hRL
   obtain ⟨⟨G, z⟩, hGz⟩ : ∃ R, R = fixR P sq L := ⟨_, rfl⟩
   obtain ⟨⟨od, zo⟩, hOK⟩ : ∃ R, R = ordR P sq L := ⟨_, rfl⟩
   have hsz := fixR_sz P sq L
   rw [← hGz] at hb1 hsz
   have HSZ : Hid (G.length ≤ 6 ∧ ∀ v ∈ G, v.length ≤ 6) := Lib.hid hsz
   obtain ⟨q0, q1⟩ := k3.two
   clear hdr ho hl hb2 hA hsz
   go_wp2_with fail
   rw [← hw3] at k3 hB3 o3 l3 ⊢
   clear hw3
   refine hb1.mono ?_
   rintro e w4 ⟨Ag, kg, cg, rfl, hM4⟩
   have hW := hM4.b
   have r_l := l3.below hW
   have r_g : RdII w4 Ag kg G := hM4.rd
   clear q0 q1 hb1 l3 hM4
   have kk := k3.below hW k3.lt
   obtain ⟨q0, q1⟩ := kk.two
   clear kk
   have hcall := specFixedVectors_any P A n c sq AL q cl L m w4 (by omega) hq0 hq hm1 hm (o3.below hW) r_l hRL
   rw [← hGz] at hcall
   go_wp2_with fail
   refine hcall.mono ?_
   rintro e w5 ⟨A5, m5, c5, rfl, hM⟩
   replace r_l := r_l.below hM.b
   replace r_g := r_g.below hM.b
   have r_t : RdII w5 A5 m5 G := hM.rd
   replace hW := hW.trans (hM.b.mono hW.size)
   clear hM
   clear hcall q0 q1
   have kk := k3.below hW k3.lt
   obtain ⟨q0, q1⟩ := kk.two
   clear kk
   have hcall := OrthogonalOrder_any P A n c sq AL q cl L m w5 (by omega) hq0 hq hm1 hm (o3.below hW) r_l hRL
   rw [← hOK] at hcall
   go_wp2_with fail
   refine hcall.mono ?_
   rintro e w6 ⟨rfl, hb7⟩
   replace r_l := r_l.below hb7
   replace r_g := r_g.below hb7
   replace r_t := r_t.below hb7
   replace hW := hW.trans (hb7.mono hW.size)
   clear hcall q0 q1
   have kk := k3.below hW k3.lt
   obtain ⟨q0, q1⟩ := kk.two
   clear kk
   have hcall := specOrthogonalOrder_any P A n c sq AL q cl L m w6 (by omega) hq0 hq hm1 hm (o3.below hW) r_l hRL
   rw [← hOK] at hcall
   go_wp2_with fail
   refine hcall.mono ?_
   rintro e w7 ⟨rfl, hb7⟩
   replace r_l := r_l.below hb7
   replace r_g := r_g.below hb7
   replace r_t := r_t.below hb7
   replace hW := hW.trans (hb7.mono hW.size)
   clear hcall q0 q1
   obtain rfl : kg = m5 := by rw [← r_g.len]; exact r_t.len
   have e0 : (z != z) = false := by simp
   have e01 : (zo != zo) = false := by simp
   have e02 : (od != od) = false := by simp
   have hkg : kg ≤ 6 := by rw [← r_g.len]; exact HSZ.out.1
   have kk := k3.below hW k3.lt
   obtain ⟨q0, q1⟩ := kk.two
   clear kk
   have hcall := likeRows5_same Ag A5 kg cg c5 _ w7 (by omega) r_g r_t (fun v hv => by have := HSZ.out.2 v hv; omega)
   go_wp2_with fail
   refine hcall.mono ?_
   rintro e w8 ⟨rfl, hb7⟩
   replace r_l := r_l.below hb7
   replace r_g := r_g.below hb7
   replace r_t := r_t.below hb7
   replace hW := hW.trans (hb7.mono hW.size)
   clear hcall q0 q1 e0 e01 e02 hb7
   clear r_t
   have hsl := o3.lenI
   by_cases hz : codeO P sq L = 0
   · unfold fixR at hGz
     unfold ordR at hOK
     rw [if_pos hz] at hGz hOK
     obtain rfl : z = 0 := (Prod.mk.inj hGz).2
     have hG := (Prod.mk.inj hGz).1
     obtain ⟨hsp, hreg, hiso⟩ := codeO_zero hz
     obtain ⟨HP, hd1, hd2, -⟩ := isSp_dim hsp
     obtain ⟨hp3, hp2⟩ := isP_ge HP
     obtain ⟨hl1, hl2⟩ := isoB_frame hiso
     have hsqr := dec_square hsp hreg hiso hsl
     rw [hsl] at hl1 hl2 hd1 hd2 hG hOK
     obtain rfl : n = q := by rw [← r_l.len]; exact hl1.symm
     obtain ⟨X, hX⟩ : ∃ X, X = versL P sq n (decL P sq L) := ⟨_, rfl⟩
     rw [← hX] at hsqr
     have HXN := Lib.hid (show NumsL P X by rw [hX]; exact versL_nums (by omega) _ _ _)
     have hXl : X.length = pw sq.length := by rw [hX, hsl]; exact versL_len P sq n _ _ rfl
     have HCM := Lib.hid (codeM_mk hsp (show ∀ ys ∈ [X, X], ys.length = pw sq.length ∧ NumsL P ys from fun ys hy => by
      have e : ys = X := by simpa using hy
      rw [e]; exact ⟨hXl, HXN.out⟩))
     clear hXl
     have hfx : ∀ v ∈ G, v.length = n ∧ NumsL P v ∧ applyL P L v = v := fun v hv => by
      rw [hG] at hv
      have := kernL_tab (p := P) (by omega) _ _ v hv
      exact ⟨this.1, this.2, fix_apply HP hl2 hl1 hv⟩
     have HPP := Lib.hid HP
     have HSP := Lib.hid hsp
     have HREG := Lib.hid hreg
     have HISO := Lib.hid hiso
     have HLT := Lib.hid hl2
     have HLL := Lib.hid hl1
     have HXE := Lib.hid hX
     have HSQR := Lib.hid hsqr
     have HFX := Lib.hid hfx
     have HOK := Lib.hid hOK
     have HR9 := Lib.hid r
     have HBS := Lib.hid hbs
     have HBG := Lib.hid hbg
     clear hGz hOK hz hsp hreg hiso hl1 hl2 hX hsqr hfx hG hRL hsl HSZ HP r
     go_wp2
     go_loopw [13] (fun iv wr => ∃ k : Nat, k ≤ kg ∧ iv = .int .i64 k ∧ Below w8.heap.size w8 wr) (fun iv _ => kg - (intOf iv).toNat)
     case atStart => exact ⟨0, by omega, rfl, Below.refl _ _⟩
     case round =>
      obtain ⟨k, hk, rfl, hbr⟩ := hrel
      by_cases hlt : k < kg
      · have kk := k3.below (hW.trans (hbr.mono hW.size)) k3.lt
        obtain ⟨gz, oz, rfl, hxi, B1, d1, hcell, hr1, hcap⟩ := (r_g.below hbr).at_ hlt
        have hv := HFX.out G[k] (List.getElem_mem hxi)
        rw [hv.1] at hcell hr1 hcap
        obtain ⟨v, hve⟩ : ∃ v, v = G[k] := ⟨_, rfl⟩
        rw [← hve] at hv hr1
        have hap := fun (w' : World) (h : Below wr.heap.size wr w') => ApplyMatrix_ok P AL n cl L B1 d1 v w' HPP.out hd1 (by omega) ((r_l.below hbr).below h) HLT.out (hr1.below h) hv.2.1
        rw [hv.2.2] at hap
        have HAM := Lib.hid hap
        have HR1 := Lib.hid hr1
        clear hap hve hv hcap hxi hr1
        obtain ⟨q0, q1⟩ := kk.two
        go_wp2
        refine wp_obs 13 [[],[0],[],[],[],[3,4],[3,4,5],[0,1,2,3,4,5,6],[0,1,2,3,4,5,6,7],[0,1,2,3,4,5,6,7,8],[0,1,2,3,4,5,6,7,8],[0,1,2,3,4,5,6,7,8,9],[0,1,2,3,4,5,6,7,8,10]] [VIs (.pointer (some ⟨w2.heap.size, 0, none⟩)), VIs (.int .i64 (P)), VIs (.slice AL n cl), VIs (.slice (some ⟨gz, oz, none⟩) kg cg), VIs (.int .i64 (k)), VIs (.pointer (some ⟨gz, oz + k, none⟩)), VIs (.slice B1 n d1), VTs wr n v, VTs wr n v, VSl wr n v, VIs (.int .i64 (0)), VSl wr n v, VIs (.int .i64 (0))] (fun w' => w'.cell? ⟨gz, oz + k, none⟩ = some (.slice B1 n d1) ∧ Blk w' w2.heap.size 26 #[.int .i64 P, .slice A n c] ∧ Below wr.heap.size wr w') (by kernel_rfl) (by kernel_rfl) (fun _ _ h hb => ⟨(hb.cell (World.block_lt_of_cell? _ _ h.1)).trans h.1, h.2.1.below hb h.2.1.lt, h.2.2.trans (hb.mono h.2.2.size)⟩) (⟨hcell, kk.drew, zG.drew⟩) (fun x => ?_)
        refine zS (fun w' hS hV K hK => ?_) ?_
        · have q2 := hS.1; obtain ⟨q0, q1⟩ := hS.2.1.two; go_simp; exact zO hK
        refine zS (fun w' hS hV K hK => ?_) ?_
        · have e0 := zQ hV 0; have q2 := hS.1; obtain ⟨q0, q1⟩ := hS.2.1.two; go_simp; exact zO hK
        refine zS (fun w' hS hV K hK => ?_) ?_
        · have q2 := hS.1; obtain ⟨q0, q1⟩ := hS.2.1.two; go_simp; exact zO hK
        refine zS (fun w' hS hV K hK => ?_) ?_
        · have q2 := hS.1; obtain ⟨q0, q1⟩ := hS.2.1.two; go_simp; exact zO hK
        refine zS (fun w' hS hV K hK => ?_) ?_
        · have q2 := hS.1; obtain ⟨q0, q1⟩ := hS.2.1.two; go_simp; exact zO hK
        refine zS (fun w' hS hV K hK => ?_) ?_
        · have e3 := zQ hV 3; have e4 := zQ hV 4; have q2 := hS.1; obtain ⟨q0, q1⟩ := hS.2.1.two; go_simp; exact zO hK
        refine zS (fun w' hS hV K hK => ?_) ?_
        · have e5 := zQ hV 5; have q2 := hS.1; obtain ⟨q0, q1⟩ := hS.2.1.two; go_simp; exact zO hK
        refine zS (fun w' hS hV K hK => ?_) ?_
        · have e1 := zQ hV 1; have e2 := zQ hV 2; have e6 := zQ hV 6; have q2 := hS.1; obtain ⟨q0, q1⟩ := hS.2.1.two; go_simp; refine (HAM.out w' hS.2.2).mono ?_; rintro e v1 ⟨A9, c9, rfl, hM⟩; exact hK.out _ _ _ rfl rfl ⟨_, _, rfl, hM.after hS.2.2⟩ hM.b
        refine zS (fun w' hS hV K hK => ?_) ?_
        · obtain ⟨A7, c7, e7, h7⟩ := hV 7 (by decide); have q2 := hS.1; obtain ⟨q0, q1⟩ := hS.2.1.two; go_simp; exact hK.out _ _ _ rfl rfl ⟨_, _, rfl, h7⟩ zG
        refine zS (fun w' hS hV K hK => ?_) ?_
        · obtain ⟨A7, c7, e7, h7⟩ := hV 7 (by decide); obtain ⟨A8, c8, e8, h8⟩ := hV 8 (by decide); have q2 := hS.1; obtain ⟨q0, q1⟩ := hS.2.1.two; go_simp; exact hK.out _ _ _ rfl rfl ⟨_, _, rfl, h8⟩ zG
        refine zS (fun w' hS hV K hK => ?_) ?_
        · obtain ⟨A7, c7, e7, h7⟩ := hV 7 (by decide); obtain ⟨A8, c8, e8, h8⟩ := hV 8 (by decide); have q2 := hS.1; obtain ⟨q0, q1⟩ := hS.2.1.two; go_simp; exact zO hK
        refine zS (fun w' hS hV K hK => ?_) ?_
        · obtain ⟨A7, c7, e7, h7⟩ := hV 7 (by decide); obtain ⟨A8, c8, e8, h8⟩ := hV 8 (by decide); obtain ⟨A9, c9, e9, h9⟩ := hV 9 (by decide); have q2 := hS.1; obtain ⟨q0, q1⟩ := hS.2.1.two; go_simp; exact hK.out _ _ _ rfl rfl ⟨_, _, rfl, h9⟩ zG
        refine zS (fun w' hS hV K hK => ?_) ?_
        · obtain ⟨A7, c7, e7, h7⟩ := hV 7 (by decide); obtain ⟨A8, c8, e8, h8⟩ := hV 8 (by decide); have e10 := zQ hV 10; have q2 := hS.1; obtain ⟨q0, q1⟩ := hS.2.1.two; go_simp; exact zO hK
        refine fun w' hS hV => ?_
        have e0 := zT hV 0
        have e1 := zT hV 1
        have e2 := zT hV 2
        have e3 := zT hV 3
        have e4 := zT hV 4
        have e5 := zT hV 5
        have e6 := zT hV 6
        obtain ⟨A7, c7, e7, h7⟩ := hV 7 (by decide)
        obtain ⟨A8, c8, e8, h8⟩ := hV 8 (by decide)
        obtain ⟨A9, c9, e9, h9⟩ := hV 9 (by decide)
        have e10 := zT hV 10
        obtain ⟨A11, c11, e11, h11⟩ := hV 11 (by decide)
        have e12 := zT hV 12
        simp only [e0, e1, e2, e3, e4, e5, e6, e7, e8, e9, e10, e11, e12]
        clear e0 e1 e2 e3 e4 e5 e6 e7 e8 e9 e10 e11 e12
        refine wpAny_done (by kernel_rfl) ?_ _
        have hb9 := hS.2.2
        have hc9 := hS.1
        obtain ⟨w9, rfl⟩ : ∃ W, W = w' := ⟨_, rfl⟩
        clear hS q0 q1 HAM kk hcell
        have hcall := likeInts_any A11 B1 n n c11 d1 v v w9 (by omega) (by omega) h11.rd (HR1.out.below hb9)
        rw [decide_eq_true rfl] at hcall
        go_wp2_with fail
        refine hcall.mono ?_
        rintro e w10 ⟨rfl, j, hw9⟩
        have hb7 := below_drewN (Below.refl w9.heap.size w9) j
        rw [← hw9] at hb7
        have hb10 := hbr.trans ((hb9.trans (hb7.mono hb9.size)).mono hbr.size)
        clear hcall hw9 hb7 h11 hc9 hb9 HR1
        go_wp2
        go_roundw
        case rel => exact ⟨k + 1, by omega, by go_num, hb10⟩
        case measure => simp [intOf]; omega
      · obtain rfl : k = kg := by omega
        replace hW := hW.trans (hbr.mono hW.size)
        replace r_l := r_l.below hbr
        clear hbr r_g
        cases hord : ordS P n L 100000 1 with
        | none =>
         have hk9 := HOK.out
         rw [hord] at hk9
         obtain rfl : od = 0 := (Prod.mk.inj hk9).1
         obtain rfl : zo = 3 := (Prod.mk.inj hk9).2
         clear hk9 hord HOK
         have kk := k3.below hW k3.lt
         obtain ⟨q0, q1⟩ := kk.two
         clear kk
         have hcall := VersorOfMatrix_ok P A n c sq AL cl L wr HSP.out HREG.out (o3.below hW) r_l HISO.out
         rw [← HXE.out] at hcall
         go_wp2_with fail
         refine hcall.mono ?_
         rintro e w20 ⟨Ax, cx, rfl, hM⟩
         replace r_l := r_l.below hM.b
         have r_x := hM.rd
         have i_x := hM.2.cap
         replace hW := hW.trans (hM.b.mono hW.size)
         clear hM
         clear hcall q0 q1
         have hBX := hB3.trans (hW.mono hB3.size)
         have r9 := HR9.out.below hBX
         have hdr := DrawMatrixOfVersor_any B nb cb bs w20 (by omega) r9 HBS.out (fun a e => Nat.lt_of_lt_of_le (HBG.out a e) hBX.size)
         clear r9 hBX
         go_wp2_with fail
         refine hdr.mono ?_
         rintro e w21 ⟨P2, A2, n2, c2, sq2, Y2, m2, d2, ys, rfl, hP2, hn2, hm2, ho2, hy2, hb21⟩
         have hcy := hy2.cap
         have CB0 : Below w21.heap.size w21 (w21.alloc (.cells #[.int .i64 P2, .slice A2 n2 c2] 26)) := zG.alloc (Nat.le_refl _) _
         have kt : Blk (w21.alloc (.cells #[.int .i64 P2, .slice A2 n2 c2] 26)) w21.heap.size 26 #[.int .i64 P2, .slice A2 n2 c2] := Blk.new _ _ _
         have o22 := (ho2.below CB0).rd
         have y22 := (hy2.below CB0).rd
         have hbb2 : Below w20.heap.size w20 (w21.alloc (.cells #[.int .i64 P2, .slice A2 n2 c2] 26)) := hb21.alloc (o := .cells #[.int .i64 P2, .slice A2 n2 c2] 26) hb21.size
         obtain ⟨w22, hw22⟩ : ∃ W, W = w21.alloc (.cells #[.int .i64 P2, .slice A2 n2 c2] 26) := ⟨_, rfl⟩
         have hb1 := MatrixOfVersor_any P2 A2 n2 c2 sq2 Y2 m2 d2 ys w22 (by omega) (by omega) (hw22 ▸ o22) (hw22 ▸ y22) hcy
         obtain ⟨⟨H2, z2⟩, hHz⟩ : ∃ R, R = movR P2 sq2 ys := ⟨_, rfl⟩
         have hsz2 := movR_sz P2 sq2 ys
         rw [← hHz] at hb1 hsz2
         have HS2 : Hid (H2.length ≤ 6 ∧ ∀ v ∈ H2, v.length ≤ 6) := Lib.hid hsz2
         obtain ⟨q0, q1⟩ := kt.two
         clear hdr ho2 hy2 hb21 CB0 hsz2
         go_wp2_with fail
         rw [← hw22] at kt o22 y22 hbb2 ⊢
         clear hw22
         replace hW := hW.trans (hbb2.mono hW.size)
         replace r_l := r_l.below hbb2
         replace r_x := r_x.below hbb2
         clear hbb2
         refine hb1.mono ?_
         rintro e w23 ⟨Ah, kh, ch, rfl, hM⟩
         have hb7 := hM.b
         have r_h : RdII w23 Ah kh H2 := hM.rd
         replace hW := hW.trans (hb7.mono hW.size)
         replace r_l := r_l.below hb7
         replace r_x := r_x.below hb7
         have kt2 := kt.below hb7 kt.lt
         have o23 := o22.below hb7
         have y23 := y22.below hb7
         clear q0 q1 hb1 hM hb7 kt o22 y22
         obtain ⟨q0, q1⟩ := kt2.two
         have hcall := specMatrixOfVersor_any P2 A2 n2 c2 sq2 Y2 m2 d2 ys w23 (by omega) (by omega) o23 y23 hcy
         rw [← hHz] at hcall
         go_wp2_with fail
         refine hcall.mono ?_
         rintro e w24 ⟨A5, m5, c5, rfl, hM⟩
         have hb7 := hM.b
         have r_t : RdII w24 A5 m5 H2 := hM.rd
         replace hW := hW.trans (hb7.mono hW.size)
         replace r_l := r_l.below hb7
         replace r_x := r_x.below hb7
         replace r_h := r_h.below hb7
         clear hcall hM hb7 q0 q1 hHz kt2 o23 y23
         obtain rfl : kh = m5 := by rw [← r_h.len]; exact r_t.len
         have e0 : (z2 != z2) = false := by simp
         have hkh : kh ≤ 6 := by rw [← r_h.len]; exact HS2.out.1
         have hcall := likeRows5_same Ah A5 kh ch c5 _ w24 (by omega) r_h r_t (fun v hv => by have := HS2.out.2 v hv; omega)
         go_wp2_with fail
         refine hcall.mono ?_
         rintro e w25 ⟨rfl, hb7⟩
         replace hW := hW.trans (hb7.mono hW.size)
         replace r_l := r_l.below hb7
         replace r_x := r_x.below hb7
         clear hcall e0 hb7 r_h r_t
         have kk := k3.below hW k3.lt
         obtain ⟨q0, q1⟩ := kk.two
         clear kk
         have hcall := times5_ok P A n c sq Ax (pw n) cx X Ax (pw n) cx X w25 (by omega) (by have : pw n ≤ 64 := pw_le hd2; omega) (by have : pw n ≤ 64 := pw_le hd2; omega) (o3.below hW) r_x i_x r_x i_x HCM.out
         go_wp2_with fail
         refine hcall.mono ?_
         rintro e w26 ⟨As, cs, rfl, hM⟩
         replace r_l := r_l.below hM.b
         replace r_x := r_x.below hM.b
         have r_s := hM.rd
         have i_s := hM.2.cap
         replace hW := hW.trans (hM.b.mono hW.size)
         clear hM
         clear hcall q0 q1
         have kk := k3.below hW k3.lt
         obtain ⟨q0, q1⟩ := kk.two
         clear kk
         have hcall := MatrixOfVersor_any P A n c sq As (pw n) cs (mulL P sq X X) w26 (by omega) (by have : pw n ≤ 64 := pw_le hd2; omega) (o3.below hW) r_s i_s
         rw [HSQR.out] at hcall
         go_wp2_with fail
         refine hcall.mono ?_
         rintro e w27 ⟨Ab, kb, cb2, rfl, hM⟩
         replace r_l := r_l.below hM.b
         replace r_x := r_x.below hM.b
         replace r_s := r_s.below hM.b
         have r_b := hM.rd
         replace hW := hW.trans (hM.b.mono hW.size)
         clear hM
         clear hcall q0 q1
         clear r_x r_s
         have kk := k3.below hW k3.lt
         obtain ⟨q0, q1⟩ := kk.two
         clear kk
         have hcall := MultiplyMatrices_ok P AL n cl L AL cl L w27 HPP.out hd1 (by omega) r_l HLT.out r_l HLT.out
         go_wp2_with fail
         refine hcall.mono ?_
         rintro e w28 ⟨Ac, cc, rfl, hM⟩
         replace r_l := r_l.below hM.b
         replace r_b := r_b.below hM.b
         have r_c := hM.rd
         replace hW := hW.trans (hM.b.mono hW.size)
         clear hM
         clear hcall q0 q1
         obtain rfl : n = kb := by rw [← r_c.len]; exact r_b.len
         have kk := k3.below hW k3.lt
         obtain ⟨q0, q1⟩ := kk.two
         clear kk
         have hcall := likeRows5_same Ab Ac n cb2 cc _ w28 (by omega) r_b r_c (fun v hv => by rw [(timesM_tab (p := P) (by omega) hd1 HLT.out HLL.out v hv).1]; omega)
         go_wp2_with fail
         refine hcall.mono ?_
         rintro e w29 ⟨rfl, hb7⟩
         go_wp2
         go_ret
         exact ⟨rfl, hB3.trans ((hW.trans (hb7.mono hW.size)).mono hB3.size)⟩
        | some k0 =>
         have hk9 := HOK.out
         rw [hord] at hk9
         obtain rfl : od = (k0 : Int) := (Prod.mk.inj hk9).1
         obtain rfl : zo = 0 := (Prod.mk.inj hk9).2
         obtain ⟨ho1, ho2, ho3, ho4⟩ := ordS_some _ _ hord
         have HO1 := Lib.hid ho1
         have HO4 := Lib.hid ho4
         clear hk9 hord HOK ho1 ho4
         by_cases hk0 : k0 ≤ 1000
         · have t1 : decide ((k0 : Int) ≤ 1000) = true := by simp; omega
           have hcall := PowerMatrix_ok P AL n cl L k0 wr HPP.out hd1 (by omega) hk0 r_l HLT.out HLL.out
           rw [HO1.out] at hcall
           have kk := k3.below hW k3.lt
           obtain ⟨q0, q1⟩ := kk.two
           clear kk
           go_wp2_with fail
           refine hcall.mono ?_
           rintro e w11 ⟨Ap, cp, rfl, hrp, hb7⟩
           replace hW := hW.trans (hb7.mono hW.size)
           replace r_l := r_l.below hb7
           clear hcall q0 q1 hb7 t1
           have hln := r_l.len
           go_wp2_with fail
           refine (unit5_any n w11 (by omega)).mono ?_
           rintro e w12 ⟨Av, cv, rfl, hM⟩
           have hb7 := hM.b
           have rv := hM.rd
           replace hW := hW.trans (hb7.mono hW.size)
           replace r_l := r_l.below hb7
           have hcall := likeRows5_same Ap Av n cp cv (unitM n) w12 (by omega) (hrp.below hb7) rv (fun v hv => by rw [(unitM_tab (p := P) (by omega) n v hv).1]; omega)
           clear hM hb7 rv hrp
           go_wp2_with fail
           refine hcall.mono ?_
           rintro e w13 ⟨rfl, hb7⟩
           replace hW := hW.trans (hb7.mono hW.size)
           replace r_l := r_l.below hb7
           clear hcall hb7
           go_wp2
           go_loopw [18] (fun iv wr => ∃ k : Nat, 1 ≤ k ∧ k ≤ 1001 ∧ iv = .int .i64 k ∧ Below w13.heap.size w13 wr) (fun iv _ => 1001 - (intOf iv).toNat)
           case atStart => exact ⟨1, by omega, by omega, rfl, Below.refl _ _⟩
           case round =>
            obtain ⟨k, hk1, hk2, rfl, hbr⟩ := hrel
            by_cases hlt : k < k0
            · have t1 : decide ((k : Int) < (k0 : Int)) = true := by simp; omega
              by_cases hlt2 : k ≤ 12
              · have t2 : decide ((k : Int) ≤ 12) = true := by simp; omega
                have kk := k3.below (hW.trans (hbr.mono hW.size)) k3.lt
                have hcall := PowerMatrix_ok P AL n cl L k wr HPP.out hd1 (by omega) (by omega) (r_l.below hbr) HLT.out HLL.out
                have HTP := Lib.hid (powL_tab (p := P) (by omega) hd1 HLT.out HLL.out k)
                have HNU := Lib.hid (HO4.out k hk1 hlt)
                obtain ⟨q0, q1⟩ := kk.two
                go_wp2_with fail
                refine hcall.mono ?_
                rintro e w14 ⟨Ap, cp, rfl, hrp, hb7⟩
                have hb8 := hbr.trans (hb7.mono hbr.size)
                clear hcall q0 q1 hb7 kk t1 t2
                go_wp2_with fail
                refine (unit5_any n w14 (by omega)).mono ?_
                rintro e w15 ⟨Av, cv, rfl, hM⟩
                have hb7 := hM.b
                have rv := hM.rd
                have hb9 := hb8.trans (hb7.mono hb8.size)
                have hcall := likeRows5_any Ap Av n cp cv (powL P n L k) (unitM n) n w15 (by omega) (by omega) (hrp.below hb7) rv (Rect.of_tab HTP.out.1) (Rect.of_tab (unitM_tab (p := P) (by omega) n))
                rw [decide_eq_false HNU.out] at hcall
                clear hM hb7 rv hrp hb8
                go_wp2_with fail
                refine hcall.mono ?_
                rintro e w16 ⟨rfl, hb7⟩
                have hb10 := hb9.trans (hb7.mono hb9.size)
                clear hcall hb7 hb9
                go_wp2
                go_roundw
                case rel => exact ⟨k + 1, by omega, by omega, by go_num, hb10⟩
                case measure => simp [intOf]; omega
              · have t2 : decide ((k : Int) ≤ 12) = false := by simp; omega
                replace hW := hW.trans (hbr.mono hW.size)
                replace r_l := r_l.below hbr
                clear hbr
                have kk := k3.below hW k3.lt
                obtain ⟨q0, q1⟩ := kk.two
                clear kk
                have hcall := VersorOfMatrix_ok P A n c sq AL cl L wr HSP.out HREG.out (o3.below hW) r_l HISO.out
                rw [← HXE.out] at hcall
                go_wp2_with fail
                refine hcall.mono ?_
                rintro e w20 ⟨Ax, cx, rfl, hM⟩
                replace r_l := r_l.below hM.b
                have r_x := hM.rd
                have i_x := hM.2.cap
                replace hW := hW.trans (hM.b.mono hW.size)
                clear hM
                clear hcall q0 q1
                have hBX := hB3.trans (hW.mono hB3.size)
                have r9 := HR9.out.below hBX
                have hdr := DrawMatrixOfVersor_any B nb cb bs w20 (by omega) r9 HBS.out (fun a e => Nat.lt_of_lt_of_le (HBG.out a e) hBX.size)
                clear r9 hBX
                go_wp2_with fail
                refine hdr.mono ?_
                rintro e w21 ⟨P2, A2, n2, c2, sq2, Y2, m2, d2, ys, rfl, hP2, hn2, hm2, ho2, hy2, hb21⟩
                have hcy := hy2.cap
                have CB0 : Below w21.heap.size w21 (w21.alloc (.cells #[.int .i64 P2, .slice A2 n2 c2] 26)) := zG.alloc (Nat.le_refl _) _
                have kt : Blk (w21.alloc (.cells #[.int .i64 P2, .slice A2 n2 c2] 26)) w21.heap.size 26 #[.int .i64 P2, .slice A2 n2 c2] := Blk.new _ _ _
                have o22 := (ho2.below CB0).rd
                have y22 := (hy2.below CB0).rd
                have hbb2 : Below w20.heap.size w20 (w21.alloc (.cells #[.int .i64 P2, .slice A2 n2 c2] 26)) := hb21.alloc (o := .cells #[.int .i64 P2, .slice A2 n2 c2] 26) hb21.size
                obtain ⟨w22, hw22⟩ : ∃ W, W = w21.alloc (.cells #[.int .i64 P2, .slice A2 n2 c2] 26) := ⟨_, rfl⟩
                have hb1 := MatrixOfVersor_any P2 A2 n2 c2 sq2 Y2 m2 d2 ys w22 (by omega) (by omega) (hw22 ▸ o22) (hw22 ▸ y22) hcy
                obtain ⟨⟨H2, z2⟩, hHz⟩ : ∃ R, R = movR P2 sq2 ys := ⟨_, rfl⟩
                have hsz2 := movR_sz P2 sq2 ys
                rw [← hHz] at hb1 hsz2
                have HS2 : Hid (H2.length ≤ 6 ∧ ∀ v ∈ H2, v.length ≤ 6) := Lib.hid hsz2
                obtain ⟨q0, q1⟩ := kt.two
                clear hdr ho2 hy2 hb21 CB0 hsz2
                go_wp2_with fail
                rw [← hw22] at kt o22 y22 hbb2 ⊢
                clear hw22
                replace hW := hW.trans (hbb2.mono hW.size)
                replace r_l := r_l.below hbb2
                replace r_x := r_x.below hbb2
                clear hbb2
                refine hb1.mono ?_
                rintro e w23 ⟨Ah, kh, ch, rfl, hM⟩
                have hb7 := hM.b
                have r_h : RdII w23 Ah kh H2 := hM.rd
                replace hW := hW.trans (hb7.mono hW.size)
                replace r_l := r_l.below hb7
                replace r_x := r_x.below hb7
                have kt2 := kt.below hb7 kt.lt
                have o23 := o22.below hb7
                have y23 := y22.below hb7
                clear q0 q1 hb1 hM hb7 kt o22 y22
                obtain ⟨q0, q1⟩ := kt2.two
                have hcall := specMatrixOfVersor_any P2 A2 n2 c2 sq2 Y2 m2 d2 ys w23 (by omega) (by omega) o23 y23 hcy
                rw [← hHz] at hcall
                go_wp2_with fail
                refine hcall.mono ?_
                rintro e w24 ⟨A5, m5, c5, rfl, hM⟩
                have hb7 := hM.b
                have r_t : RdII w24 A5 m5 H2 := hM.rd
                replace hW := hW.trans (hb7.mono hW.size)
                replace r_l := r_l.below hb7
                replace r_x := r_x.below hb7
                replace r_h := r_h.below hb7
                clear hcall hM hb7 q0 q1 hHz kt2 o23 y23
                obtain rfl : kh = m5 := by rw [← r_h.len]; exact r_t.len
                have e0 : (z2 != z2) = false := by simp
                have hkh : kh ≤ 6 := by rw [← r_h.len]; exact HS2.out.1
                have hcall := likeRows5_same Ah A5 kh ch c5 _ w24 (by omega) r_h r_t (fun v hv => by have := HS2.out.2 v hv; omega)
                go_wp2_with fail
                refine hcall.mono ?_
                rintro e w25 ⟨rfl, hb7⟩
                replace hW := hW.trans (hb7.mono hW.size)
                replace r_l := r_l.below hb7
                replace r_x := r_x.below hb7
                clear hcall e0 hb7 r_h r_t
                have kk := k3.below hW k3.lt
                obtain ⟨q0, q1⟩ := kk.two
                clear kk
                have hcall := times5_ok P A n c sq Ax (pw n) cx X Ax (pw n) cx X w25 (by omega) (by have : pw n ≤ 64 := pw_le hd2; omega) (by have : pw n ≤ 64 := pw_le hd2; omega) (o3.below hW) r_x i_x r_x i_x HCM.out
                go_wp2_with fail
                refine hcall.mono ?_
                rintro e w26 ⟨As, cs, rfl, hM⟩
                replace r_l := r_l.below hM.b
                replace r_x := r_x.below hM.b
                have r_s := hM.rd
                have i_s := hM.2.cap
                replace hW := hW.trans (hM.b.mono hW.size)
                clear hM
                clear hcall q0 q1
                have kk := k3.below hW k3.lt
                obtain ⟨q0, q1⟩ := kk.two
                clear kk
                have hcall := MatrixOfVersor_any P A n c sq As (pw n) cs (mulL P sq X X) w26 (by omega) (by have : pw n ≤ 64 := pw_le hd2; omega) (o3.below hW) r_s i_s
                rw [HSQR.out] at hcall
                go_wp2_with fail
                refine hcall.mono ?_
                rintro e w27 ⟨Ab, kb, cb2, rfl, hM⟩
                replace r_l := r_l.below hM.b
                replace r_x := r_x.below hM.b
                replace r_s := r_s.below hM.b
                have r_b := hM.rd
                replace hW := hW.trans (hM.b.mono hW.size)
                clear hM
                clear hcall q0 q1
                clear r_x r_s
                have kk := k3.below hW k3.lt
                obtain ⟨q0, q1⟩ := kk.two
                clear kk
                have hcall := MultiplyMatrices_ok P AL n cl L AL cl L w27 HPP.out hd1 (by omega) r_l HLT.out r_l HLT.out
                go_wp2_with fail
                refine hcall.mono ?_
                rintro e w28 ⟨Ac, cc, rfl, hM⟩
                replace r_l := r_l.below hM.b
                replace r_b := r_b.below hM.b
                have r_c := hM.rd
                replace hW := hW.trans (hM.b.mono hW.size)
                clear hM
                clear hcall q0 q1
                obtain rfl : n = kb := by rw [← r_c.len]; exact r_b.len
                have kk := k3.below hW k3.lt
                obtain ⟨q0, q1⟩ := kk.two
                clear kk
                have hcall := likeRows5_same Ab Ac n cb2 cc _ w28 (by omega) r_b r_c (fun v hv => by rw [(timesM_tab (p := P) (by omega) hd1 HLT.out HLL.out v hv).1]; omega)
                go_wp2_with fail
                refine hcall.mono ?_
                rintro e w29 ⟨rfl, hb7⟩
                go_wp2
                go_ret
                exact ⟨rfl, hB3.trans ((hW.trans (hb7.mono hW.size)).mono hB3.size)⟩
            · have t1 : decide ((k : Int) < (k0 : Int)) = false := by simp; omega
              replace hW := hW.trans (hbr.mono hW.size)
              replace r_l := r_l.below hbr
              clear hbr
              have kk := k3.below hW k3.lt
              obtain ⟨q0, q1⟩ := kk.two
              clear kk
              have hcall := VersorOfMatrix_ok P A n c sq AL cl L wr HSP.out HREG.out (o3.below hW) r_l HISO.out
              rw [← HXE.out] at hcall
              go_wp2_with fail
              refine hcall.mono ?_
              rintro e w20 ⟨Ax, cx, rfl, hM⟩
              replace r_l := r_l.below hM.b
              have r_x := hM.rd
              have i_x := hM.2.cap
              replace hW := hW.trans (hM.b.mono hW.size)
              clear hM
              clear hcall q0 q1
              have hBX := hB3.trans (hW.mono hB3.size)
              have r9 := HR9.out.below hBX
              have hdr := DrawMatrixOfVersor_any B nb cb bs w20 (by omega) r9 HBS.out (fun a e => Nat.lt_of_lt_of_le (HBG.out a e) hBX.size)
              clear r9 hBX
              go_wp2_with fail
              refine hdr.mono ?_
              rintro e w21 ⟨P2, A2, n2, c2, sq2, Y2, m2, d2, ys, rfl, hP2, hn2, hm2, ho2, hy2, hb21⟩
              have hcy := hy2.cap
              have CB0 : Below w21.heap.size w21 (w21.alloc (.cells #[.int .i64 P2, .slice A2 n2 c2] 26)) := zG.alloc (Nat.le_refl _) _
              have kt : Blk (w21.alloc (.cells #[.int .i64 P2, .slice A2 n2 c2] 26)) w21.heap.size 26 #[.int .i64 P2, .slice A2 n2 c2] := Blk.new _ _ _
              have o22 := (ho2.below CB0).rd
              have y22 := (hy2.below CB0).rd
              have hbb2 : Below w20.heap.size w20 (w21.alloc (.cells #[.int .i64 P2, .slice A2 n2 c2] 26)) := hb21.alloc (o := .cells #[.int .i64 P2, .slice A2 n2 c2] 26) hb21.size
              obtain ⟨w22, hw22⟩ : ∃ W, W = w21.alloc (.cells #[.int .i64 P2, .slice A2 n2 c2] 26) := ⟨_, rfl⟩
              have hb1 := MatrixOfVersor_any P2 A2 n2 c2 sq2 Y2 m2 d2 ys w22 (by omega) (by omega) (hw22 ▸ o22) (hw22 ▸ y22) hcy
              obtain ⟨⟨H2, z2⟩, hHz⟩ : ∃ R, R = movR P2 sq2 ys := ⟨_, rfl⟩
              have hsz2 := movR_sz P2 sq2 ys
              rw [← hHz] at hb1 hsz2
              have HS2 : Hid (H2.length ≤ 6 ∧ ∀ v ∈ H2, v.length ≤ 6) := Lib.hid hsz2
              obtain ⟨q0, q1⟩ := kt.two
              clear hdr ho2 hy2 hb21 CB0 hsz2
              go_wp2_with fail
              rw [← hw22] at kt o22 y22 hbb2 ⊢
              clear hw22
              replace hW := hW.trans (hbb2.mono hW.size)
              replace r_l := r_l.below hbb2
              replace r_x := r_x.below hbb2
              clear hbb2
              refine hb1.mono ?_
              rintro e w23 ⟨Ah, kh, ch, rfl, hM⟩
              have hb7 := hM.b
              have r_h : RdII w23 Ah kh H2 := hM.rd
              replace hW := hW.trans (hb7.mono hW.size)
              replace r_l := r_l.below hb7
              replace r_x := r_x.below hb7
              have kt2 := kt.below hb7 kt.lt
              have o23 := o22.below hb7
              have y23 := y22.below hb7
              clear q0 q1 hb1 hM hb7 kt o22 y22
              obtain ⟨q0, q1⟩ := kt2.two
              have hcall := specMatrixOfVersor_any P2 A2 n2 c2 sq2 Y2 m2 d2 ys w23 (by omega) (by omega) o23 y23 hcy
              rw [← hHz] at hcall
              go_wp2_with fail
              refine hcall.mono ?_
              rintro e w24 ⟨A5, m5, c5, rfl, hM⟩
              have hb7 := hM.b
              have r_t : RdII w24 A5 m5 H2 := hM.rd
              replace hW := hW.trans (hb7.mono hW.size)
              replace r_l := r_l.below hb7
              replace r_x := r_x.below hb7
              replace r_h := r_h.below hb7
              clear hcall hM hb7 q0 q1 hHz kt2 o23 y23
              obtain rfl : kh = m5 := by rw [← r_h.len]; exact r_t.len
              have e0 : (z2 != z2) = false := by simp
              have hkh : kh ≤ 6 := by rw [← r_h.len]; exact HS2.out.1
              have hcall := likeRows5_same Ah A5 kh ch c5 _ w24 (by omega) r_h r_t (fun v hv => by have := HS2.out.2 v hv; omega)
              go_wp2_with fail
              refine hcall.mono ?_
              rintro e w25 ⟨rfl, hb7⟩
              replace hW := hW.trans (hb7.mono hW.size)
              replace r_l := r_l.below hb7
              replace r_x := r_x.below hb7
              clear hcall e0 hb7 r_h r_t
              have kk := k3.below hW k3.lt
              obtain ⟨q0, q1⟩ := kk.two
              clear kk
              have hcall := times5_ok P A n c sq Ax (pw n) cx X Ax (pw n) cx X w25 (by omega) (by have : pw n ≤ 64 := pw_le hd2; omega) (by have : pw n ≤ 64 := pw_le hd2; omega) (o3.below hW) r_x i_x r_x i_x HCM.out
              go_wp2_with fail
              refine hcall.mono ?_
              rintro e w26 ⟨As, cs, rfl, hM⟩
              replace r_l := r_l.below hM.b
              replace r_x := r_x.below hM.b
              have r_s := hM.rd
              have i_s := hM.2.cap
              replace hW := hW.trans (hM.b.mono hW.size)
              clear hM
              clear hcall q0 q1
              have kk := k3.below hW k3.lt
              obtain ⟨q0, q1⟩ := kk.two
              clear kk
              have hcall := MatrixOfVersor_any P A n c sq As (pw n) cs (mulL P sq X X) w26 (by omega) (by have : pw n ≤ 64 := pw_le hd2; omega) (o3.below hW) r_s i_s
              rw [HSQR.out] at hcall
              go_wp2_with fail
              refine hcall.mono ?_
              rintro e w27 ⟨Ab, kb, cb2, rfl, hM⟩
              replace r_l := r_l.below hM.b
              replace r_x := r_x.below hM.b
              replace r_s := r_s.below hM.b
              have r_b := hM.rd
              replace hW := hW.trans (hM.b.mono hW.size)
              clear hM
              clear hcall q0 q1
              clear r_x r_s
              have kk := k3.below hW k3.lt
              obtain ⟨q0, q1⟩ := kk.two
              clear kk
              have hcall := MultiplyMatrices_ok P AL n cl L AL cl L w27 HPP.out hd1 (by omega) r_l HLT.out r_l HLT.out
              go_wp2_with fail
              refine hcall.mono ?_
              rintro e w28 ⟨Ac, cc, rfl, hM⟩
              replace r_l := r_l.below hM.b
              replace r_b := r_b.below hM.b
              have r_c := hM.rd
              replace hW := hW.trans (hM.b.mono hW.size)
              clear hM
              clear hcall q0 q1
              obtain rfl : n = kb := by rw [← r_c.len]; exact r_b.len
              have kk := k3.below hW k3.lt
              obtain ⟨q0, q1⟩ := kk.two
              clear kk
              have hcall := likeRows5_same Ab Ac n cb2 cc _ w28 (by omega) r_b r_c (fun v hv => by rw [(timesM_tab (p := P) (by omega) hd1 HLT.out HLL.out v hv).1]; omega)
              go_wp2_with fail
              refine hcall.mono ?_
              rintro e w29 ⟨rfl, hb7⟩
              go_wp2
              go_ret
              exact ⟨rfl, hB3.trans ((hW.trans (hb7.mono hW.size)).mono hB3.size)⟩
         · have t1 : decide ((k0 : Int) ≤ 1000) = false := by simp; omega
           have kk := k3.below hW k3.lt
           obtain ⟨q0, q1⟩ := kk.two
           clear kk
           have hcall := VersorOfMatrix_ok P A n c sq AL cl L wr HSP.out HREG.out (o3.below hW) r_l HISO.out
           rw [← HXE.out] at hcall
           go_wp2_with fail
           refine hcall.mono ?_
           rintro e w20 ⟨Ax, cx, rfl, hM⟩
           replace r_l := r_l.below hM.b
           have r_x := hM.rd
           have i_x := hM.2.cap
           replace hW := hW.trans (hM.b.mono hW.size)
           clear hM
           clear hcall q0 q1
           have hBX := hB3.trans (hW.mono hB3.size)
           have r9 := HR9.out.below hBX
           have hdr := DrawMatrixOfVersor_any B nb cb bs w20 (by omega) r9 HBS.out (fun a e => Nat.lt_of_lt_of_le (HBG.out a e) hBX.size)
           clear r9 hBX
           go_wp2_with fail
           refine hdr.mono ?_
           rintro e w21 ⟨P2, A2, n2, c2, sq2, Y2, m2, d2, ys, rfl, hP2, hn2, hm2, ho2, hy2, hb21⟩
           have hcy := hy2.cap
           have CB0 : Below w21.heap.size w21 (w21.alloc (.cells #[.int .i64 P2, .slice A2 n2 c2] 26)) := zG.alloc (Nat.le_refl _) _
           have kt : Blk (w21.alloc (.cells #[.int .i64 P2, .slice A2 n2 c2] 26)) w21.heap.size 26 #[.int .i64 P2, .slice A2 n2 c2] := Blk.new _ _ _
           have o22 := (ho2.below CB0).rd
           have y22 := (hy2.below CB0).rd
           have hbb2 : Below w20.heap.size w20 (w21.alloc (.cells #[.int .i64 P2, .slice A2 n2 c2] 26)) := hb21.alloc (o := .cells #[.int .i64 P2, .slice A2 n2 c2] 26) hb21.size
           obtain ⟨w22, hw22⟩ : ∃ W, W = w21.alloc (.cells #[.int .i64 P2, .slice A2 n2 c2] 26) := ⟨_, rfl⟩
           have hb1 := MatrixOfVersor_any P2 A2 n2 c2 sq2 Y2 m2 d2 ys w22 (by omega) (by omega) (hw22 ▸ o22) (hw22 ▸ y22) hcy
           obtain ⟨⟨H2, z2⟩, hHz⟩ : ∃ R, R = movR P2 sq2 ys := ⟨_, rfl⟩
           have hsz2 := movR_sz P2 sq2 ys
           rw [← hHz] at hb1 hsz2
           have HS2 : Hid (H2.length ≤ 6 ∧ ∀ v ∈ H2, v.length ≤ 6) := Lib.hid hsz2
           obtain ⟨q0, q1⟩ := kt.two
           clear hdr ho2 hy2 hb21 CB0 hsz2
           go_wp2_with fail
           rw [← hw22] at kt o22 y22 hbb2 ⊢
           clear hw22
           replace hW := hW.trans (hbb2.mono hW.size)
           replace r_l := r_l.below hbb2
           replace r_x := r_x.below hbb2
           clear hbb2
           refine hb1.mono ?_
           rintro e w23 ⟨Ah, kh, ch, rfl, hM⟩
           have hb7 := hM.b
           have r_h : RdII w23 Ah kh H2 := hM.rd
           replace hW := hW.trans (hb7.mono hW.size)
           replace r_l := r_l.below hb7
           replace r_x := r_x.below hb7
           have kt2 := kt.below hb7 kt.lt
           have o23 := o22.below hb7
           have y23 := y22.below hb7
           clear q0 q1 hb1 hM hb7 kt o22 y22
           obtain ⟨q0, q1⟩ := kt2.two
           have hcall := specMatrixOfVersor_any P2 A2 n2 c2 sq2 Y2 m2 d2 ys w23 (by omega) (by omega) o23 y23 hcy
           rw [← hHz] at hcall
           go_wp2_with fail
           refine hcall.mono ?_
           rintro e w24 ⟨A5, m5, c5, rfl, hM⟩
           have hb7 := hM.b
           have r_t : RdII w24 A5 m5 H2 := hM.rd
           replace hW := hW.trans (hb7.mono hW.size)
           replace r_l := r_l.below hb7
           replace r_x := r_x.below hb7
           replace r_h := r_h.below hb7
           clear hcall hM hb7 q0 q1 hHz kt2 o23 y23
           obtain rfl : kh = m5 := by rw [← r_h.len]; exact r_t.len
           have e0 : (z2 != z2) = false := by simp
           have hkh : kh ≤ 6 := by rw [← r_h.len]; exact HS2.out.1
           have hcall := likeRows5_same Ah A5 kh ch c5 _ w24 (by omega) r_h r_t (fun v hv => by have := HS2.out.2 v hv; omega)
           go_wp2_with fail
           refine hcall.mono ?_
           rintro e w25 ⟨rfl, hb7⟩
           replace hW := hW.trans (hb7.mono hW.size)
           replace r_l := r_l.below hb7
           replace r_x := r_x.below hb7
           clear hcall e0 hb7 r_h r_t
           have kk := k3.below hW k3.lt
           obtain ⟨q0, q1⟩ := kk.two
           clear kk
           have hcall := times5_ok P A n c sq Ax (pw n) cx X Ax (pw n) cx X w25 (by omega) (by have : pw n ≤ 64 := pw_le hd2; omega) (by have : pw n ≤ 64 := pw_le hd2; omega) (o3.below hW) r_x i_x r_x i_x HCM.out
           go_wp2_with fail
           refine hcall.mono ?_
           rintro e w26 ⟨As, cs, rfl, hM⟩
           replace r_l := r_l.below hM.b
           replace r_x := r_x.below hM.b
           have r_s := hM.rd
           have i_s := hM.2.cap
           replace hW := hW.trans (hM.b.mono hW.size)
           clear hM
           clear hcall q0 q1
           have kk := k3.below hW k3.lt
           obtain ⟨q0, q1⟩ := kk.two
           clear kk
           have hcall := MatrixOfVersor_any P A n c sq As (pw n) cs (mulL P sq X X) w26 (by omega) (by have : pw n ≤ 64 := pw_le hd2; omega) (o3.below hW) r_s i_s
           rw [HSQR.out] at hcall
           go_wp2_with fail
           refine hcall.mono ?_
           rintro e w27 ⟨Ab, kb, cb2, rfl, hM⟩
           replace r_l := r_l.below hM.b
           replace r_x := r_x.below hM.b
           replace r_s := r_s.below hM.b
           have r_b := hM.rd
           replace hW := hW.trans (hM.b.mono hW.size)
           clear hM
           clear hcall q0 q1
           clear r_x r_s
           have kk := k3.below hW k3.lt
           obtain ⟨q0, q1⟩ := kk.two
           clear kk
           have hcall := MultiplyMatrices_ok P AL n cl L AL cl L w27 HPP.out hd1 (by omega) r_l HLT.out r_l HLT.out
           go_wp2_with fail
           refine hcall.mono ?_
           rintro e w28 ⟨Ac, cc, rfl, hM⟩
           replace r_l := r_l.below hM.b
           replace r_b := r_b.below hM.b
           have r_c := hM.rd
           replace hW := hW.trans (hM.b.mono hW.size)
           clear hM
           clear hcall q0 q1
           obtain rfl : n = kb := by rw [← r_c.len]; exact r_b.len
           have kk := k3.below hW k3.lt
           obtain ⟨q0, q1⟩ := kk.two
           clear kk
           have hcall := likeRows5_same Ab Ac n cb2 cc _ w28 (by omega) r_b r_c (fun v hv => by rw [(timesM_tab (p := P) (by omega) hd1 HLT.out HLL.out v hv).1]; omega)
           go_wp2_with fail
           refine hcall.mono ?_
           rintro e w29 ⟨rfl, hb7⟩
           go_wp2
           go_ret
           exact ⟨rfl, hB3.trans ((hW.trans (hb7.mono hW.size)).mono hB3.size)⟩
   · unfold fixR at hGz
     rw [if_neg hz] at hGz
     have hv := (Prod.mk.inj hGz).2
     have e1 : (z != 0) = true := by rw [hv, bne_iff_ne]; exact hz
     clear hz hv hGz hOK hRL hsl HSZ
     go_wp2
     go_ret
     exact ⟨rfl, hB3.trans (hW.mono hB3.size)⟩
end Go.Proofs.YtmkjdpnoloofjaaGreat

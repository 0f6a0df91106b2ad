/-
  LawFnCentres: part 8 of the texts that the proof needs. No condition.
-/
import Derived.Test.YtmkjdpnoloofjaaGreatU7
namespace Go.Proofs.YtmkjdpnoloofjaaGreat
open Go.RowKit
/-- The value is a die. -/
def VDice (B : Nat) : VP := ⟨fun v w => ∃ g, v = .pointer (some ⟨g, 0, none⟩) ∧ B ≤ g ∧ Src w g 100, fun _ _ _ ⟨g, e, h1, h2⟩ hb => ⟨g, e, h1, h2.below hb⟩⟩
/-- What a throw of a die that was made since the heap had B blocks does. -/
def RelC (B : Nat) (w w' : World) : Prop := ∃ g, B ≤ g ∧ Dr g 100 w w'
theorem ctrR_sz (P : Int) (sq : List Int) : (ctrR P sq).1.length ≤ 16 ∧ ∀ v ∈ (ctrR P sq).1, v.length ≤ 16 := by
 by_cases hc : codeA P sq [] = 0
 · rw [ctrR_ok hc]
   obtain ⟨h1, h4⟩ := codeA_zero hc
   obtain ⟨HP, hp, _, h1, h6, _, _⟩ := codeM_spec3 h1
   have hpw : pw sq.length ≤ 16 := by
    rcases (by omega : sq.length = 1 ∨ sq.length = 2 ∨ sq.length = 3 ∨ sq.length = 4) with e | e | e | e <;> rw [e] <;> decide
   exact ⟨Nat.le_trans (ctrL_le HP _ _) hpw, fun v hv => by have := (ctrL_tab hp sq _ v hv).1; omega⟩
 · rw [ctrR_bad hc]; simp
theorem ctr_cen {P : Int} {sq : List Int} (hP : isP P = true) {i : Nat} (hi : i < (ctrL P sq sq.length).length) : isCen P sq sq.length ((ctrL P sq sq.length).getD i []) = true := by
 have h3 := isP_ge hP
 have hp : 2 ≤ P := by omega
 have hp0 : 0 < P := by omega
 have hT : Tab P (pw sq.length) (ctrL P sq sq.length) := kernL_tab hp _ _
 obtain ⟨h1, h2⟩ := hT.row hi
 obtain ⟨z, hz⟩ : ∃ z : Cl P sq, z.l = (ctrL P sq sq.length).getD i [] := ⟨⟨_, h1, h2, hp0⟩, rfl⟩
 rw [← hz, cen_comm hp]
 exact (ctr_sp hP hp z).1 (Sp.congr (Sp.row hi) fun q _ => by unfold Cl.co; rw [hz]; rfl)
theorem str_cases {P : Int} {sq : List Int} (h : codeA P sq [] = 0) (hr : regB sq = true) : ∃ b r d : Int, strR P sq = ((b, r, d), 0) ∧ b * d = ((ctrL P sq sq.length).length : Int) ∧ b * r * r * d = (pw sq.length : Nat) ∧ 1 ≤ b * r ∧ b * r ≤ 8 ∧ 1 ≤ b * r * r ∧ b * r * r ≤ 16 ∧ pw sq.length ≤ 16 := by
 obtain ⟨hm, h4⟩ := codeA_zero h
 obtain ⟨HP, hp, _, h1, h6, hnum, _⟩ := codeM_spec3 hm
 have hl := ctr_len HP h1 h6 fun i hi => reg_ne (by omega) hnum hr hi
 rw [strR_ok h hr, hl]
 unfold strV
 obtain ⟨n, hn⟩ : ∃ n, n = sq.length := ⟨_, rfl⟩
 rw [← hn] at h1 h4 ⊢
 rcases (by omega : n = 1 ∨ n = 2 ∨ n = 3 ∨ n = 4) with rfl | rfl | rfl | rfl
 · split
   · omega
   · split
     · exact ⟨2, 1, 1, rfl, by decide, by decide, by decide, by decide, by decide, by decide, by decide⟩
     · exact ⟨1, 1, 2, rfl, by decide, by decide, by decide, by decide, by decide, by decide, by decide⟩
 · exact ⟨1, 2, 1, rfl, by decide, by decide, by decide, by decide, by decide, by decide, by decide⟩
 · split
   · omega
   · split
     · exact ⟨2, 2, 1, rfl, by decide, by decide, by decide, by decide, by decide, by decide, by decide⟩
     · exact ⟨1, 2, 2, rfl, by decide, by decide, by decide, by decide, by decide, by decide, by decide⟩
 · exact ⟨1, 4, 1, rfl, by decide, by decide, by decide, by decide, by decide, by decide, by decide⟩
set_option maxHeartbeats 25600000 in
set_option maxRecDepth 40000 in
theorem FnCentres_any (B : Option Addr) (nb cb : Nat) (bs : List Int) (w : World) (r : Rd w B nb (bs.map (Value.int .u8))) (hbs : ∀ b ∈ bs, 0 ≤ b ∧ b < 256) (hbg : ∀ a, B = some a → a.block < w.heap.size) :
    Calls Tryz.prog 5 #[.slice B nb cb] w fun e w' => e = .returned (.bool true) ∧ Below w.heap.size w w' := by
 have hbig := big_any B nb cb w
 by_cases hbb : 4096 < nb
 · rw [decide_eq_true hbb] at hbig
   go_enter Tryz.func5, Tryz.ntmps5
   go_wp2_with fail
   refine hbig.mono ?_
   rintro e w1 ⟨rfl, rfl⟩
   go_wp2
   go_ret
   exact ⟨rfl, Below.refl _ _⟩
 · rw [decide_eq_false hbb] at hbig
   have hdr := DrawCentreBasis_any B nb cb bs w (by omega) r hbs hbg
   go_enter Tryz.func5, Tryz.ntmps5
   go_wp2_with fail
   refine hbig.mono ?_
   rintro e w1 ⟨rfl, rfl⟩
   clear hbig
   go_wp2_with fail
   refine hdr.mono ?_
   rintro e w2 ⟨P, A, n, c, sq, rfl, hP, hn, ho, hb2⟩
   have hA : Below w2.heap.size w2 (w2.alloc (.cells #[.int .i64 P, .slice A n c] 26)) := zG.alloc (Nat.le_refl _) _
   have k3 : Blk (w2.alloc (.cells #[.int .i64 P, .slice A n c] 26)) w2.heap.size 26 #[.int .i64 P, .slice A n c] := Blk.new _ _ _
   have hB3 := hb2.alloc (o := .cells #[.int .i64 P, .slice A n c] 26) hb2.size
   have o3 := (ho.below hA).rd
   have r3 := r.below hB3
   obtain ⟨w3, hw3⟩ : ∃ W, W = w2.alloc (.cells #[.int .i64 P, .slice A n c] 26) := ⟨_, rfl⟩
   have hb1 := CentreBasis_any P A n c sq w3 (by omega) (hw3 ▸ o3)
   obtain ⟨⟨G, z⟩, hGz⟩ : ∃ R, R = ctrR P sq := ⟨_, rfl⟩
   have hsz := ctrR_sz P sq
   rw [← hGz] at hb1 hsz
   have HSZ : Hid (G.length ≤ 16 ∧ ∀ v ∈ G, v.length ≤ 16) := Lib.hid hsz
   obtain ⟨q0, q1⟩ := k3.two
   clear hdr ho hb2 hA hsz r
   go_wp2_with fail
   rw [← hw3] at k3 hB3 o3 r3 ⊢
   clear hw3
   have HR9 := Lib.hid r3
   have HBS := Lib.hid hbs
   have HBG := Lib.hid hbg
   clear r3 hbs hbg
   refine hb1.mono ?_
   rintro e w4 ⟨Ag, kg, cg, rfl, hM4⟩
   have hW := hM4.b
   have r_g : RdII w4 Ag kg G := hM4.rd
   clear q0 q1 hb1 hM4
   have kk := k3.below hW k3.lt
   obtain ⟨q0, q1⟩ := kk.two
   clear kk
   have hcall := specCentreBasis_any P A n c sq w4 (by omega) (o3.below hW)
   rw [← hGz] at hcall
   go_wp2_with fail
   refine hcall.mono ?_
   rintro e w5 ⟨A5, m5, c5, rfl, hM⟩
   replace r_g := r_g.below hM.b
   have r_t : RdII w5 A5 m5 G := hM.rd
   replace hW := hW.trans (hM.b.mono hW.size)
   clear hM
   clear hcall q0 q1
   obtain rfl : kg = m5 := by rw [← r_g.len]; exact r_t.len
   have e0 : (z != z) = false := by simp
   have hkg : kg ≤ 16 := by rw [← r_g.len]; exact HSZ.out.1
   have hcall := likeRows5_same Ag A5 kg cg c5 _ w5 (by omega) r_g r_t (fun v hv => by have := HSZ.out.2 v hv; omega)
   go_wp2_with fail
   refine hcall.mono ?_
   rintro e w8 ⟨rfl, hb7⟩
   replace r_g := r_g.below hb7
   replace r_t := r_t.below hb7
   replace hW := hW.trans (hb7.mono hW.size)
   clear hcall e0 hb7
   clear r_t
   have hsl := o3.lenI
   by_cases hcd : codeA P sq [] = 0
   · rw [ctrR_ok hcd] at hGz
     obtain rfl : z = 0 := (Prod.mk.inj hGz).2
     have hG := (Prod.mk.inj hGz).1
     obtain ⟨hcm, hn4⟩ := codeA_zero hcd
     obtain ⟨HP, hp, hp2, hd1, hd2, hnum, -⟩ := codeM_spec3 hcm
     obtain ⟨hsp, -⟩ := codeM_sp hcm
     have hfx : ∀ i, i < (ctrL P sq sq.length).length → ((ctrL P sq sq.length).getD i []).length = pw sq.length ∧ NumsL P ((ctrL P sq sq.length).getD i []) ∧ icR P sq ((ctrL P sq sq.length).getD i []) = (true, 0) ∧
         (∀ y : List Int, y.length = pw sq.length → NumsL P y → codeM P sq [y, (ctrL P sq sq.length).getD i []] = 0) ∧ (∀ y : List Int, y.length = pw sq.length → NumsL P y → codeM P sq [(ctrL P sq sq.length).getD i [], y] = 0) ∧
         (∀ y : List Int, y.length = pw sq.length → NumsL P y → mulL P sq ((ctrL P sq sq.length).getD i []) y = mulL P sq y ((ctrL P sq sq.length).getD i [])) := fun i hi => by
      obtain ⟨h1, h2, h3⟩ := ctr_row HP hi
      refine ⟨h1, h2, ?_, fun y hy hyn => codeM_mk hsp (all_two ⟨hy, hyn⟩ ⟨h1, h2⟩), fun y hy hyn => codeM_mk hsp (all_two ⟨h1, h2⟩ ⟨hy, hyn⟩), h3⟩
      rw [icR_ok (codeA_mk (codeM_mk hsp (all_one ⟨h1, h2⟩)) hn4), ctr_cen HP hi]
     rw [hsl] at hfx hn4 hd1 hd2 hG
     rw [← hG] at hfx
     have HKG := Lib.hid r_g.len
     rw [HKG.out] at hfx
     have HFX := Lib.hid hfx
     have HGL := Lib.hid hG
     have hpw : pw n ≤ 64 := pw_le (show n ≤ 6 by omega)
     clear hfx hG hGz hcm HP hnum hsp
     have kk := k3.below hW k3.lt
     obtain ⟨q0, q1⟩ := kk.two
     have r10 := HR9.out.below hW
     have hbg10 : ∀ a, B = some a → a.block < w8.heap.size := fun a e => Nat.lt_of_lt_of_le (HBG.out a e) (Nat.le_trans hB3.size hW.size)
     go_wp2
     refine wp_obsR 8 (RelC w8.heap.size) [[], [0], [], [2], [], [4], [0, 1, 2, 3, 4, 5], [0, 1, 2, 3, 4, 5, 6]] [[], [], [], [], [], [], [1], []] (fun x => [VIs (.slice B nb cb), VDice w8.heap.size, VIs (.agg #[.int .i64 P, .slice A n c]), VIs (.int .i64 (pw n)), VIs (.pointer (some ⟨w2.heap.size, 0, none⟩)), VIs (.int .i64 (P)), VLs w8.heap.size (pw n) P, VLs w8.heap.size (pw n) P]) (fun w' => Blk w' w2.heap.size 26 #[.int .i64 P, .slice A n c] ∧ Below w8.heap.size w8 w') (by kernel_rfl) (by kernel_rfl) (fun x x' j hx => by
         rcases j with _ | _ | _ | _ | _ | _ | _ | _ | j
         · rfl
         · rfl
         · rfl
         · rfl
         · rfl
         · rfl
         · rfl
         · rfl
         · rfl)
      (weak_ofR [0, 2, 3, 4, 5, 6, 7] (by decide) (fun k hk x v w w' hp hr => by
       simp only [List.mem_cons, zJ, or_false] at hk
       rcases hk with rfl | rfl | rfl | rfl | rfl | rfl | rfl
       · exact hp
       · exact hp
       · exact hp
       · exact hp
       · exact hp
       · obtain ⟨g, h1, hd⟩ := hr; exact VLs.dr hp hd (by decide)
       · obtain ⟨g, h1, hd⟩ := hr; exact VLs.dr hp hd (by decide))) (fun j _ _ h hb => hb.either (fun hb => ⟨h.1.below hb h.1.lt, h.2.trans (hb.mono h.2.size)⟩) (fun ⟨g, h1, hd⟩ => ⟨h.1.dr hd (by decide), h.2.trans (hd.b.mono h1)⟩)) (⟨kk.drew, zG.drew⟩) (fun x => ?_)
     refine zSR (fun w' hS hV K hK => ?_) ?_
     · obtain ⟨q0, q1⟩ := hS.1.two; go_simp; exact hK.out _ _ _ rfl rfl rfl zG
     refine zSR (fun w' hS hV K hK => ?_) ?_
     · have e0 := zQ hV 0; obtain ⟨q0, q1⟩ := hS.1.two; go_simp; refine (roll_any B nb cb bs 843 w' (by omega) (r10.below hS.2) HBS.out (fun a e => Nat.lt_of_lt_of_le (hbg10 a e) hS.2.size)).mono ?_; rintro e v1 ⟨g, rfl, hg, hs, hb⟩; exact hK.out _ _ _ rfl rfl ⟨g, rfl, Nat.le_trans hS.2.size hg, hs⟩ hb
     refine zSR (fun w' hS hV K hK => ?_) ?_
     · obtain ⟨q0, q1⟩ := hS.1.two; go_simp; exact hK.out _ _ _ rfl rfl rfl zG
     refine zSR (fun w' hS hV K hK => ?_) ?_
     · have e2 := zQ hV 2; obtain ⟨q0, q1⟩ := hS.1.two; go_simp; refine (size5_any P A n c w' (by omega)).mono ?_; rintro e v1 ⟨rfl, hb⟩; exact hK.out _ _ _ rfl rfl rfl hb
     refine zSR (fun w' hS hV K hK => ?_) ?_
     · obtain ⟨q0, q1⟩ := hS.1.two; go_simp; exact hK.out _ _ _ rfl rfl rfl zG
     refine zSR (fun w' hS hV K hK => ?_) ?_
     · have e4 := zQ hV 4; obtain ⟨q0, q1⟩ := hS.1.two; go_simp; exact hK.out _ _ _ rfl rfl rfl zG
     refine zSR (fun w' hS hV K hK => ?_) ?_
     · obtain ⟨g9, e1, hg9, s9⟩ := hV 1 (by decide); have e3 := zQ hV 3; have e5 := zQ hV 5; obtain ⟨q0, q1⟩ := hS.1.two; go_simp; refine (belowList_any g9 P (pw n) w' s9 (by omega) (by omega)).mono ?_; rintro e v1 ⟨A9, c9, xs9, rfl, hl9, hx9, ho9, hd9⟩; exact hK.out _ _ _ rfl rfl ⟨_, _, xs9, rfl, hl9, nums_of (by omega) hx9, ho9.base hS.2.size⟩ (StepR.rel rfl ⟨g9, hg9, hd9⟩)
     refine zSR (fun w' hS hV K hK => ?_) ?_
     · obtain ⟨A6, c6, X6, e6, l6, u6, h6⟩ := hV 6 (by decide); obtain ⟨q0, q1⟩ := hS.1.two; go_simp; exact hK.out _ _ _ rfl rfl ⟨_, _, _, rfl, l6, u6, h6⟩ zG
     refine fun w' hS hV => ?_
     have e0 := zQ hV 0
     have e2 := zQ hV 2
     have e3 := zQ hV 3
     have e4 := zQ hV 4
     have e5 := zQ hV 5
     obtain ⟨A6, c6, X6, e6, l6, u6, h6⟩ := hV 6 (by decide)
     obtain ⟨A7, c7, X7, e7, l7, u7, h7⟩ := hV 7 (by decide)
     simp only [e0, e2, e3, e4, e5, e6, e7]
     clear e0 e2 e3 e4 e5 e6 e7
     refine wpAny_done (by kernel_rfl) ?_ _
     have hb7 := hS.2
     clear hS kk q0 q1
     obtain ⟨w11, hw11⟩ : ∃ W, W = w' := ⟨_, rfl⟩
     obtain ⟨V, hV0⟩ : ∃ V, V = X7 := ⟨_, rfl⟩
     obtain ⟨Ax, hAx⟩ : ∃ V, V = A7 := ⟨_, rfl⟩
     obtain ⟨cx, hcx⟩ : ∃ V, V = c7 := ⟨_, rfl⟩
     rw [← hV0] at l7 u7 h7
     rw [← hAx, ← hcx] at h7 ⊢
     rw [← hw11] at hb7 h7 ⊢
     replace r_g := r_g.below hb7
     replace hW := hW.trans (hb7.mono hW.size)
     have r_x := h7.rd
     have i_x := h7.cap
     have HVN := Lib.hid (And.intro l7 u7)
     clear l7 u7 h7 hV0 hb7 r10 hbg10 hw11 hAx hcx
     go_wp2
     go_loopw [9] (fun iv wr => ∃ k : Nat, k ≤ kg ∧ iv = .int .i64 k ∧ Below w11.heap.size w11 wr) (fun iv _ => kg - (intOf iv).toNat)
     case atStart => exact ⟨0, by omega, rfl, Below.refl _ _⟩
     case round =>
      obtain ⟨k, hk, rfl, hbr⟩ := hrel
      by_cases hlt : k < kg
      · have kk := k3.below (hW.trans (hbr.mono hW.size)) k3.lt
        obtain ⟨gl, ol, rfl, hxi, Ar, cr, hcell, hr1, hcap⟩ := (r_g.below hbr).at_ hlt
        have hv := HFX.out k (by omega)
        have hv0 : G.getD k [] = G[k] := by rw [List.getD_eq_getElem?_getD, List.getElem?_eq_getElem hxi]; rfl
        rw [hv0] at hv
        rw [hv.1] at hcell hr1 hcap
        obtain ⟨v, hve⟩ : ∃ v, v = G[k] := ⟨_, rfl⟩
        rw [← hve] at hv hr1
        have oo := o3.below (hW.trans (hbr.mono hW.size))
        have hic := fun (w' : World) (h : Below wr.heap.size wr w') => IsCentral_any P A n c sq Ar (pw n) cr v w' (by omega) (by omega) (oo.below h) (hr1.below h) hcap
        rw [hv.2.2.1] at hic
        have HIC := Lib.hid hic
        have hx1 := hv.2.2.2.2.2 V HVN.out.1 HVN.out.2
        obtain ⟨MX, hMX⟩ : ∃ M, M = mulL P sq V v := ⟨_, rfl⟩
        have hcv := hv.2.2.2.2.1 V HVN.out.1 HVN.out.2
        have hcv2 := hv.2.2.2.1 V HVN.out.1 HVN.out.2
        have HT1 := fun (w' : World) (h : Below wr.heap.size wr w') => times5_ok P A n c sq Ar (pw n) cr v Ax (pw n) cx V w' (by omega) (by omega) (by omega) (oo.below h) (hr1.below h) hcap ((r_x.below hbr).below h) i_x hcv
        rw [hx1, ← hMX] at HT1
        have HT2 := fun (w' : World) (h : Below wr.heap.size wr w') => times5_ok P A n c sq Ax (pw n) cx V Ar (pw n) cr v w' (by omega) (by omega) (by omega) (oo.below h) ((r_x.below hbr).below h) i_x (hr1.below h) hcap hcv2
        rw [← hMX] at HT2
        have HTT := Lib.hid (And.intro HT1 HT2)
        have b1 : (0 : Int) ≤ (k : Int) := by omega
        have b2 : (k : Int) < (kg : Int) := by omega
        clear hic hve hv hv0 hcap hxi hr1 hx1 hMX hcv hcv2 oo HT1 HT2
        obtain ⟨q0, q1⟩ := kk.two
        go_wp2
        refine wp_obs 11 [[],[],[],[1,2],[1,2,3],[0,1,2,3,4],[0,1,2,3,4,5],[0,1,2,3,4,5,6],[0,1,2,3,4,5,6],[0,1,2,3,4,5,6,7],[0,1,2,3,4,5,6,8]] [VIs (.agg #[.int .i64 P, .slice A n c]), VIs (.slice (some ⟨gl, ol, none⟩) kg cg), VIs (.int .i64 (k)), VIs (.pointer (some ⟨gl, ol + k, none⟩)), VIs (.slice Ar (pw n) cr), VIs (.tuple #[.bool true, .int .i64 0]), VIs (.tuple #[.bool true, .int .i64 0]), VIs (.bool true), VIs (.int .i64 (0)), VIs (.bool true), VIs (.int .i64 (0))] (fun w' => w'.cell? ⟨gl, ol + k, none⟩ = some (.slice Ar (pw n) cr) ∧ Blk w' w2.heap.size 26 #[.int .i64 P, .slice A n c] ∧ Below wr.heap.size wr w') (by kernel_rfl) (by kernel_rfl) (fun _ _ h hb => ⟨(hb.cell (World.block_lt_of_cell? _ _ h.1)).trans h.1, h.2.1.below hb h.2.1.lt, h.2.2.trans (hb.mono h.2.2.size)⟩) (⟨hcell, kk.drew, zG.drew⟩) (fun x => ?_)
        refine zS (fun w' hS hV K hK => ?_) ?_
        · have q2 := hS.1; obtain ⟨q0, q1⟩ := hS.2.1.two; go_simp; exact zO hK
        refine zS (fun w' hS hV K hK => ?_) ?_
        · have q2 := hS.1; obtain ⟨q0, q1⟩ := hS.2.1.two; go_simp; exact zO hK
        refine zS (fun w' hS hV K hK => ?_) ?_
        · have q2 := hS.1; obtain ⟨q0, q1⟩ := hS.2.1.two; go_simp; exact zO hK
        refine zS (fun w' hS hV K hK => ?_) ?_
        · have e1 := zQ hV 1; have e2 := zQ hV 2; have q2 := hS.1; obtain ⟨q0, q1⟩ := hS.2.1.two; go_simp; exact zO hK
        refine zS (fun w' hS hV K hK => ?_) ?_
        · have e3 := zQ hV 3; have q2 := hS.1; obtain ⟨q0, q1⟩ := hS.2.1.two; go_simp; exact zO hK
        refine zS (fun w' hS hV K hK => ?_) ?_
        · have e0 := zQ hV 0; have e4 := zQ hV 4; have q2 := hS.1; obtain ⟨q0, q1⟩ := hS.2.1.two; go_simp; refine (HIC.out _ hS.2.2).mono ?_; rintro e v1 ⟨rfl, hb⟩; exact hK.out _ _ _ rfl rfl rfl hb
        refine zS (fun w' hS hV K hK => ?_) ?_
        · have e5 := zQ hV 5; have q2 := hS.1; obtain ⟨q0, q1⟩ := hS.2.1.two; go_simp; exact zO hK
        refine zS (fun w' hS hV K hK => ?_) ?_
        · have e6 := zQ hV 6; have q2 := hS.1; obtain ⟨q0, q1⟩ := hS.2.1.two; go_simp; exact zO hK
        refine zS (fun w' hS hV K hK => ?_) ?_
        · have e6 := zQ hV 6; have q2 := hS.1; obtain ⟨q0, q1⟩ := hS.2.1.two; go_simp; exact zO hK
        refine zS (fun w' hS hV K hK => ?_) ?_
        · have e7 := zQ hV 7; have q2 := hS.1; obtain ⟨q0, q1⟩ := hS.2.1.two; go_simp; exact zO hK
        refine zS (fun w' hS hV K hK => ?_) ?_
        · have e8 := zQ hV 8; have q2 := hS.1; obtain ⟨q0, q1⟩ := hS.2.1.two; go_simp; exact zO hK
        refine fun w' hS hV => ?_
        have e0 := zT hV 0
        have e1 := zT hV 1
        have e2 := zT hV 2
        have e3 := zT hV 3
        have e4 := zT hV 4
        have e5 := zT hV 5
        have e6 := zT hV 6
        have e7 := zT hV 7
        have e8 := zT hV 8
        have e9 := zT hV 9
        have e10 := zT hV 10
        simp only [e0, e1, e2, e3, e4, e5, e6, e7, e8, e9, e10]
        clear e0 e1 e2 e3 e4 e5 e6 e7 e8 e9 e10
        refine wpAny_done (by kernel_rfl) ?_ _
        obtain ⟨w18, hw18⟩ : ∃ W, W = w' := ⟨_, rfl⟩
        rw [← hw18] at hS ⊢
        replace hcell := hS.1
        replace kk := hS.2.1
        have hb18 := hS.2.2
        have HT1 := Lib.hid fun (w' : World) (h : Below w18.heap.size w18 w') => HTT.out.1 w' (hb18.trans (h.mono hb18.size))
        have HT2 := Lib.hid fun (w' : World) (h : Below w18.heap.size w18 w') => HTT.out.2 w' (hb18.trans (h.mono hb18.size))
        clear hS HTT HIC q0 q1 hw18
        obtain ⟨q0, q1⟩ := kk.two
        go_wp2
        refine wp_obs 24 [[],[0],[0,1],[0,1,2],[0,1,2,3],[0,1,2,3,4],[0,1,2,3,4,5],[0,1,2,3,4,5,6],[0,1,2,3,4,5,6],[0,1,2,3,4,5,6],[0,1,2,3,4,5,6,8,9],[0,1,2,3,4,5,6,8,9,10],[0,1,2,3,4,5,6],[0,1,2,3,4,5,6,7,8,9,10,11,12],[0,1,2,3,4,5,6],[0,1,2,3,4,5,6],[0,1,2,3,4,5,6],[0,1,2,3,4,5,6],[0,1,2,3,4,5,6,16,17],[0,1,2,3,4,5,6,16,17,18],[0,1,2,3,4,5,6,14,15,16,17,18,19],[0,1,2,3,4,5,6,7,8,9,10,11,12,13,14,15,16,17,18,19,20],[0,1,2,3,4,5,6,7,8,9,10,11,12,13,14,15,16,17,18,19,20,21],[0,1,2,3,4,5,6,7,8,9,10,11,12,13,14,15,16,17,18,19,20,21,22]] [VIs (.int .i64 (0)), VIs (.bool false), VIs (.bool false), VIs (.bool true), VIs (.bool false), VIs (.bool false), VIs (.bool false), VIs (.agg #[.int .i64 P, .slice A n c]), VIs (.slice (some ⟨gl, ol, none⟩) kg cg), VIs (.int .i64 (k)), VIs (.pointer (some ⟨gl, ol + k, none⟩)), VIs (.slice Ar (pw n) cr), VIs (.slice Ax (pw n) cx), VSl w18 (pw n) MX, VIs (.agg #[.int .i64 P, .slice A n c]), VIs (.slice Ax (pw n) cx), VIs (.slice (some ⟨gl, ol, none⟩) kg cg), VIs (.int .i64 (k)), VIs (.pointer (some ⟨gl, ol + k, none⟩)), VIs (.slice Ar (pw n) cr), VSl w18 (pw n) MX, VIs (.bool true), VIs (.bool false), VIs (.bool false)] (fun w' => w'.cell? ⟨gl, ol + k, none⟩ = some (.slice Ar (pw n) cr) ∧ Blk w' w2.heap.size 26 #[.int .i64 P, .slice A n c] ∧ Below w18.heap.size w18 w') (by kernel_rfl) (by kernel_rfl) (fun _ _ h hb => ⟨(hb.cell (World.block_lt_of_cell? _ _ h.1)).trans h.1, h.2.1.below hb h.2.1.lt, h.2.2.trans (hb.mono h.2.2.size)⟩) (⟨hcell, kk.drew, zG.drew⟩) (fun x => ?_)
        refine zS (fun w' hS hV K hK => ?_) ?_
        · have q2 := hS.1; obtain ⟨q0, q1⟩ := hS.2.1.two; go_simp; exact zO hK
        refine zS (fun w' hS hV K hK => ?_) ?_
        · have e0 := zQ hV 0; have q2 := hS.1; obtain ⟨q0, q1⟩ := hS.2.1.two; go_simp; exact zO hK
        refine zS (fun w' hS hV K hK => ?_) ?_
        · have e1 := zQ hV 1; have q2 := hS.1; obtain ⟨q0, q1⟩ := hS.2.1.two; go_simp; exact zO hK
        refine zS (fun w' hS hV K hK => ?_) ?_
        · have e2 := zQ hV 2; have q2 := hS.1; obtain ⟨q0, q1⟩ := hS.2.1.two; go_simp; exact zO hK
        refine zS (fun w' hS hV K hK => ?_) ?_
        · have e2 := zQ hV 2; have e3 := zQ hV 3; have q2 := hS.1; obtain ⟨q0, q1⟩ := hS.2.1.two; go_simp; exact zO hK
        refine zS (fun w' hS hV K hK => ?_) ?_
        · have e2 := zQ hV 2; have e4 := zQ hV 4; have q2 := hS.1; obtain ⟨q0, q1⟩ := hS.2.1.two; go_simp; exact zO hK
        refine zS (fun w' hS hV K hK => ?_) ?_
        · have e5 := zQ hV 5; have q2 := hS.1; obtain ⟨q0, q1⟩ := hS.2.1.two; go_simp; exact zO hK
        refine zS (fun w' hS hV K hK => ?_) ?_
        · have e6 := zQ hV 6; have q2 := hS.1; obtain ⟨q0, q1⟩ := hS.2.1.two; go_simp; exact zO hK
        refine zS (fun w' hS hV K hK => ?_) ?_
        · have e6 := zQ hV 6; have q2 := hS.1; obtain ⟨q0, q1⟩ := hS.2.1.two; go_simp; exact zO hK
        refine zS (fun w' hS hV K hK => ?_) ?_
        · have e6 := zQ hV 6; have q2 := hS.1; obtain ⟨q0, q1⟩ := hS.2.1.two; go_simp; exact zO hK
        refine zS (fun w' hS hV K hK => ?_) ?_
        · have e6 := zQ hV 6; have e8 := zQ hV 8; have e9 := zQ hV 9; have q2 := hS.1; obtain ⟨q0, q1⟩ := hS.2.1.two; go_simp; exact zO hK
        refine zS (fun w' hS hV K hK => ?_) ?_
        · have e6 := zQ hV 6; have e10 := zQ hV 10; have q2 := hS.1; obtain ⟨q0, q1⟩ := hS.2.1.two; go_simp; exact zO hK
        refine zS (fun w' hS hV K hK => ?_) ?_
        · have e6 := zQ hV 6; have q2 := hS.1; obtain ⟨q0, q1⟩ := hS.2.1.two; go_simp; exact zO hK
        refine zS (fun w' hS hV K hK => ?_) ?_
        · have e6 := zQ hV 6; have e7 := zQ hV 7; have e11 := zQ hV 11; have e12 := zQ hV 12; have q2 := hS.1; obtain ⟨q0, q1⟩ := hS.2.1.two; go_simp; refine (HT1.out _ hS.2.2).mono ?_; rintro e v1 ⟨A2, c2, rfl, hM⟩; exact hK.out _ _ _ rfl rfl ⟨_, _, rfl, hM.after hS.2.2⟩ hM.b
        refine zS (fun w' hS hV K hK => ?_) ?_
        · have e6 := zQ hV 6; have q2 := hS.1; obtain ⟨q0, q1⟩ := hS.2.1.two; go_simp; exact zO hK
        refine zS (fun w' hS hV K hK => ?_) ?_
        · have e6 := zQ hV 6; have q2 := hS.1; obtain ⟨q0, q1⟩ := hS.2.1.two; go_simp; exact zO hK
        refine zS (fun w' hS hV K hK => ?_) ?_
        · have e6 := zQ hV 6; have q2 := hS.1; obtain ⟨q0, q1⟩ := hS.2.1.two; go_simp; exact zO hK
        refine zS (fun w' hS hV K hK => ?_) ?_
        · have e6 := zQ hV 6; have q2 := hS.1; obtain ⟨q0, q1⟩ := hS.2.1.two; go_simp; exact zO hK
        refine zS (fun w' hS hV K hK => ?_) ?_
        · have e6 := zQ hV 6; have e16 := zQ hV 16; have e17 := zQ hV 17; have q2 := hS.1; obtain ⟨q0, q1⟩ := hS.2.1.two; go_simp; exact zO hK
        refine zS (fun w' hS hV K hK => ?_) ?_
        · have e6 := zQ hV 6; have e18 := zQ hV 18; have q2 := hS.1; obtain ⟨q0, q1⟩ := hS.2.1.two; go_simp; exact zO hK
        refine zS (fun w' hS hV K hK => ?_) ?_
        · have e6 := zQ hV 6; have e14 := zQ hV 14; have e15 := zQ hV 15; have e19 := zQ hV 19; have q2 := hS.1; obtain ⟨q0, q1⟩ := hS.2.1.two; go_simp; refine (HT2.out _ hS.2.2).mono ?_; rintro e v1 ⟨A2, c2, rfl, hM⟩; exact hK.out _ _ _ rfl rfl ⟨_, _, rfl, hM.after hS.2.2⟩ hM.b
        refine zS (fun w' hS hV K hK => ?_) ?_
        · have e6 := zQ hV 6; obtain ⟨A13, c13, e13, h13⟩ := hV 13 (by decide); obtain ⟨A20, c20, e20, h20⟩ := hV 20 (by decide); have q2 := hS.1; obtain ⟨q0, q1⟩ := hS.2.1.two; go_simp; have hli := likeInts_any A13 A20 (pw n) (pw n) c13 c20 MX MX w' (by omega) (by omega) h13.rd h20.rd; rw [decide_eq_true rfl] at hli; refine hli.mono ?_; rintro e v1 ⟨rfl, j9, rfl⟩; exact hK.out _ _ _ rfl rfl rfl (below_drewN (Below.refl w'.heap.size w') j9)
        refine zS (fun w' hS hV K hK => ?_) ?_
        · have e6 := zQ hV 6; obtain ⟨A13, c13, e13, h13⟩ := hV 13 (by decide); obtain ⟨A20, c20, e20, h20⟩ := hV 20 (by decide); have e21 := zQ hV 21; have q2 := hS.1; obtain ⟨q0, q1⟩ := hS.2.1.two; go_simp; exact zO hK
        refine zS (fun w' hS hV K hK => ?_) ?_
        · have e6 := zQ hV 6; obtain ⟨A13, c13, e13, h13⟩ := hV 13 (by decide); obtain ⟨A20, c20, e20, h20⟩ := hV 20 (by decide); have e22 := zQ hV 22; have q2 := hS.1; obtain ⟨q0, q1⟩ := hS.2.1.two; go_simp; exact zO hK
        refine fun w' hS hV => ?_
        have e0 := zT hV 0
        have e1 := zT hV 1
        have e2 := zT hV 2
        have e3 := zT hV 3
        have e4 := zT hV 4
        have e5 := zT hV 5
        have e6 := zT hV 6
        have e7 := zT hV 7
        have e8 := zT hV 8
        have e9 := zT hV 9
        have e10 := zT hV 10
        have e11 := zT hV 11
        have e12 := zT hV 12
        obtain ⟨A13, c13, e13, h13⟩ := hV 13 (by decide)
        have e14 := zT hV 14
        have e15 := zT hV 15
        have e16 := zT hV 16
        have e17 := zT hV 17
        have e18 := zT hV 18
        have e19 := zT hV 19
        obtain ⟨A20, c20, e20, h20⟩ := hV 20 (by decide)
        have e21 := zT hV 21
        have e22 := zT hV 22
        have e23 := zT hV 23
        simp only [e0, e1, e2, e3, e4, e5, e6, e7, e8, e9, e10, e11, e12, e13, e14, e15, e16, e17, e18, e19, e20, e21, e22, e23]
        clear e0 e1 e2 e3 e4 e5 e6 e7 e8 e9 e10 e11 e12 e13 e14 e15 e16 e17 e18 e19 e20 e21 e22 e23
        refine wpAny_done (by kernel_rfl) ?_ _
        have hb19 := hbr.trans ((hb18.trans (hS.2.2.mono hb18.size)).mono hbr.size)
        obtain ⟨w19, hw19⟩ : ∃ W, W = w' := ⟨_, rfl⟩
        rw [← hw19] at hb19 ⊢
        clear hS HT1 HT2 q0 q1 hcell hb18 kk hw19
        go_wp2
        go_roundw
        case rel => exact ⟨k + 1, by omega, by go_num, hb19⟩
        case measure => simp [intOf]; omega
      · obtain rfl : k = kg := by omega
        replace hW := hW.trans (hbr.mono hW.size)
        clear hbr r_g r_x
        by_cases hrg : regB sq = true
        · obtain ⟨sb, sr, sd, hst, hs1, hs2, hs3, hs4, hs5, hs6, hs7⟩ := str_cases hcd hrg
          rw [hsl] at hs1 hs2 hs7
          have hkk : (ctrL P sq n).length = k := by rw [← HGL.out]; exact HKG.out
          rw [hkk] at hs1
          have kk := k3.below hW k3.lt
          obtain ⟨q0, q1⟩ := kk.two
          clear kk
          have hcall := StructureOf_any P A n c sq wr (by omega) (o3.below hW)
          rw [hst] at hcall
          unfold tup4 at hcall
          go_wp2_with fail
          refine hcall.mono ?_
          rintro e w30 ⟨rfl, hb7⟩
          replace hW := hW.trans (hb7.mono hW.size)
          clear hcall q0 q1
          have kk := k3.below hW k3.lt
          obtain ⟨q0, q1⟩ := kk.two
          clear kk
          have hcall := specStructureOf_any P A n c sq w30 (by omega) (o3.below hW)
          rw [hst] at hcall
          unfold tup4 at hcall
          go_wp2_with fail
          refine hcall.mono ?_
          rintro e w31 ⟨rfl, hb7⟩
          replace hW := hW.trans (hb7.mono hW.size)
          clear hcall q0 q1
          have e0 : (sb != sb) = false := by simp
          have e1 : (sr != sr) = false := by simp
          have e2 : (sd != sd) = false := by simp
          have W1 : wrap64 (sb * sd) = k := by rw [hs1]; unfold wrap64; omega
          have W2 : wrap64 (sb * sr) = sb * sr := by unfold wrap64; omega
          have W3 : wrap64 (sb * sr * sr) = sb * sr * sr := by unfold wrap64; omega
          have W4 : wrap64 (sb * sr * sr * sd) = (pw n : Nat) := by rw [hs2]; unfold wrap64; omega
          have e3 : ((k : Int) != (k : Int)) = false := by simp
          have e4 : (((pw n : Nat) : Int) != ((pw n : Nat) : Int)) = false := by simp
          clear hst hs1 hs2 hs3 hs4 hs5 hs6 hkk
          have kk := k3.below hW k3.lt
          obtain ⟨q0, q1⟩ := kk.two
          have hcall := size5_any P A n c w31 (by omega)
          go_wp2_with fail
          refine hcall.mono ?_
          rintro e w32 ⟨rfl, hb7⟩
          replace hW := hW.trans (hb7.mono hW.size)
          clear hcall hb7 q0 q1 kk e0 e1 e2
          have hBX := hB3.trans (hW.mono hB3.size)
          have r9 := HR9.out.below hW
          have hdr := DrawIsCentral_any B nb cb bs w32 (by omega) r9 HBS.out (fun a e => Nat.lt_of_lt_of_le (HBG.out a e) hBX.size)
          clear r9
          go_wp2_with fail
          refine hdr.mono ?_
          rintro e w21 ⟨P2, A2, n2, c2, sq2, Y2, m2, d2, ys, rfl, hP2, hn2, hm2, ho2, hy2, hb21⟩
          have hcy := hy2.cap
          have CB0 : Below w21.heap.size w21 (w21.alloc (.cells #[.int .i64 P2, .slice A2 n2 c2] 26)) := zG.alloc (Nat.le_refl _) _
          have kt : Blk (w21.alloc (.cells #[.int .i64 P2, .slice A2 n2 c2] 26)) w21.heap.size 26 #[.int .i64 P2, .slice A2 n2 c2] := Blk.new _ _ _
          have o22 := (ho2.below CB0).rd
          have y22 := (hy2.below CB0).rd
          have hbb2 : Below w32.heap.size w32 (w21.alloc (.cells #[.int .i64 P2, .slice A2 n2 c2] 26)) := hb21.alloc (o := .cells #[.int .i64 P2, .slice A2 n2 c2] 26) hb21.size
          obtain ⟨w22, hw22⟩ : ∃ W, W = w21.alloc (.cells #[.int .i64 P2, .slice A2 n2 c2] 26) := ⟨_, rfl⟩
          have hb1 := IsCentral_any P2 A2 n2 c2 sq2 Y2 m2 d2 ys w22 (by omega) (by omega) (hw22 ▸ o22) (hw22 ▸ y22) hcy
          obtain ⟨⟨H2, z2⟩, hHz⟩ : ∃ R, R = icR P2 sq2 ys := ⟨_, rfl⟩
          rw [← hHz] at hb1
          obtain ⟨q0, q1⟩ := kt.two
          clear hdr ho2 hy2 hb21 CB0
          go_wp2_with fail
          rw [← hw22] at kt o22 y22 hbb2 ⊢
          clear hw22
          replace hBX := hBX.trans (hbb2.mono hBX.size)
          clear hbb2 hW
          refine hb1.mono ?_
          rintro e w23 ⟨rfl, hb7⟩
          replace hBX := hBX.trans (hb7.mono hBX.size)
          have kt2 := kt.below hb7 kt.lt
          have o23 := o22.below hb7
          have y23 := y22.below hb7
          clear q0 q1 hb1 hb7 kt o22 y22
          obtain ⟨q0, q1⟩ := kt2.two
          have hcall := specIsCentral_any P2 A2 n2 c2 sq2 Y2 m2 d2 ys w23 (by omega) (by omega) o23 y23 hcy
          rw [← hHz] at hcall
          have e0 : (z2 == z2) = true := by simp
          have e1 : (H2 == H2) = true := by simp
          go_wp2_with fail
          refine hcall.mono ?_
          rintro e w24 ⟨rfl, hb7⟩
          replace hBX := hBX.trans (hb7.mono hBX.size)
          clear hcall hb7 q0 q1 hHz kt2 o23 y23
          go_wp2
          go_ret
          exact ⟨rfl, hBX⟩
        · have hst : strR P sq = ((0, 0, 0), 5) := strR_irr hcd (by simpa using hrg)
          have kk := k3.below hW k3.lt
          obtain ⟨q0, q1⟩ := kk.two
          clear kk
          have hcall := StructureOf_any P A n c sq wr (by omega) (o3.below hW)
          rw [hst] at hcall
          unfold tup4 at hcall
          go_wp2_with fail
          refine hcall.mono ?_
          rintro e w30 ⟨rfl, hb7⟩
          replace hW := hW.trans (hb7.mono hW.size)
          clear hcall q0 q1
          have kk := k3.below hW k3.lt
          obtain ⟨q0, q1⟩ := kk.two
          clear kk
          have hcall := specStructureOf_any P A n c sq w30 (by omega) (o3.below hW)
          rw [hst] at hcall
          unfold tup4 at hcall
          go_wp2_with fail
          refine hcall.mono ?_
          rintro e w31 ⟨rfl, hb7⟩
          replace hW := hW.trans (hb7.mono hW.size)
          clear hcall q0 q1
          clear hst
          have hBX := hB3.trans (hW.mono hB3.size)
          have r9 := HR9.out.below hW
          have hdr := DrawIsCentral_any B nb cb bs w31 (by omega) r9 HBS.out (fun a e => Nat.lt_of_lt_of_le (HBG.out a e) hBX.size)
          clear r9
          go_wp2_with fail
          refine hdr.mono ?_
          rintro e w21 ⟨P2, A2, n2, c2, sq2, Y2, m2, d2, ys, rfl, hP2, hn2, hm2, ho2, hy2, hb21⟩
          have hcy := hy2.cap
          have CB0 : Below w21.heap.size w21 (w21.alloc (.cells #[.int .i64 P2, .slice A2 n2 c2] 26)) := zG.alloc (Nat.le_refl _) _
          have kt : Blk (w21.alloc (.cells #[.int .i64 P2, .slice A2 n2 c2] 26)) w21.heap.size 26 #[.int .i64 P2, .slice A2 n2 c2] := Blk.new _ _ _
          have o22 := (ho2.below CB0).rd
          have y22 := (hy2.below CB0).rd
          have hbb2 : Below w31.heap.size w31 (w21.alloc (.cells #[.int .i64 P2, .slice A2 n2 c2] 26)) := hb21.alloc (o := .cells #[.int .i64 P2, .slice A2 n2 c2] 26) hb21.size
          obtain ⟨w22, hw22⟩ : ∃ W, W = w21.alloc (.cells #[.int .i64 P2, .slice A2 n2 c2] 26) := ⟨_, rfl⟩
          have hb1 := IsCentral_any P2 A2 n2 c2 sq2 Y2 m2 d2 ys w22 (by omega) (by omega) (hw22 ▸ o22) (hw22 ▸ y22) hcy
          obtain ⟨⟨H2, z2⟩, hHz⟩ : ∃ R, R = icR P2 sq2 ys := ⟨_, rfl⟩
          rw [← hHz] at hb1
          obtain ⟨q0, q1⟩ := kt.two
          clear hdr ho2 hy2 hb21 CB0
          go_wp2_with fail
          rw [← hw22] at kt o22 y22 hbb2 ⊢
          clear hw22
          replace hBX := hBX.trans (hbb2.mono hBX.size)
          clear hbb2 hW
          refine hb1.mono ?_
          rintro e w23 ⟨rfl, hb7⟩
          replace hBX := hBX.trans (hb7.mono hBX.size)
          have kt2 := kt.below hb7 kt.lt
          have o23 := o22.below hb7
          have y23 := y22.below hb7
          clear q0 q1 hb1 hb7 kt o22 y22
          obtain ⟨q0, q1⟩ := kt2.two
          have hcall := specIsCentral_any P2 A2 n2 c2 sq2 Y2 m2 d2 ys w23 (by omega) (by omega) o23 y23 hcy
          rw [← hHz] at hcall
          have e0 : (z2 == z2) = true := by simp
          have e1 : (H2 == H2) = true := by simp
          go_wp2_with fail
          refine hcall.mono ?_
          rintro e w24 ⟨rfl, hb7⟩
          replace hBX := hBX.trans (hb7.mono hBX.size)
          clear hcall hb7 q0 q1 hHz kt2 o23 y23
          go_wp2
          go_ret
          exact ⟨rfl, hBX⟩
   · rw [ctrR_bad hcd] at hGz
     have hz := (Prod.mk.inj hGz).2
     have e1 : (z == 0) = false := by rw [hz, beq_eq_false_iff_ne]; exact hcd
     clear hcd hz hGz hsl HSZ r_g
     have hBX := hB3.trans (hW.mono hB3.size)
     have r9 := HR9.out.below hW
     have hdr := DrawIsCentral_any B nb cb bs w8 (by omega) r9 HBS.out (fun a e => Nat.lt_of_lt_of_le (HBG.out a e) hBX.size)
     clear r9
     go_wp2_with fail
     refine hdr.mono ?_
     rintro e w21 ⟨P2, A2, n2, c2, sq2, Y2, m2, d2, ys, rfl, hP2, hn2, hm2, ho2, hy2, hb21⟩
     have hcy := hy2.cap
     have CB0 : Below w21.heap.size w21 (w21.alloc (.cells #[.int .i64 P2, .slice A2 n2 c2] 26)) := zG.alloc (Nat.le_refl _) _
     have kt : Blk (w21.alloc (.cells #[.int .i64 P2, .slice A2 n2 c2] 26)) w21.heap.size 26 #[.int .i64 P2, .slice A2 n2 c2] := Blk.new _ _ _
     have o22 := (ho2.below CB0).rd
     have y22 := (hy2.below CB0).rd
     have hbb2 : Below w8.heap.size w8 (w21.alloc (.cells #[.int .i64 P2, .slice A2 n2 c2] 26)) := hb21.alloc (o := .cells #[.int .i64 P2, .slice A2 n2 c2] 26) hb21.size
     obtain ⟨w22, hw22⟩ : ∃ W, W = w21.alloc (.cells #[.int .i64 P2, .slice A2 n2 c2] 26) := ⟨_, rfl⟩
     have hb1 := IsCentral_any P2 A2 n2 c2 sq2 Y2 m2 d2 ys w22 (by omega) (by omega) (hw22 ▸ o22) (hw22 ▸ y22) hcy
     obtain ⟨⟨H2, z2⟩, hHz⟩ : ∃ R, R = icR P2 sq2 ys := ⟨_, rfl⟩
     rw [← hHz] at hb1
     obtain ⟨q0, q1⟩ := kt.two
     clear hdr ho2 hy2 hb21 CB0
     go_wp2_with fail
     rw [← hw22] at kt o22 y22 hbb2 ⊢
     clear hw22
     replace hBX := hBX.trans (hbb2.mono hBX.size)
     clear hbb2 hW
     refine hb1.mono ?_
     rintro e w23 ⟨rfl, hb7⟩
     replace hBX := hBX.trans (hb7.mono hBX.size)
     have kt2 := kt.below hb7 kt.lt
     have o23 := o22.below hb7
     have y23 := y22.below hb7
     clear q0 q1 hb1 hb7 kt o22 y22
     obtain ⟨q0, q1⟩ := kt2.two
     have hcall := specIsCentral_any P2 A2 n2 c2 sq2 Y2 m2 d2 ys w23 (by omega) (by omega) o23 y23 hcy
     rw [← hHz] at hcall
     have e0 : (z2 == z2) = true := by simp
     have e1 : (H2 == H2) = true := by simp
     go_wp2_with fail
     refine hcall.mono ?_
     rintro e w24 ⟨rfl, hb7⟩
     replace hBX := hBX.trans (hb7.mono hBX.size)
     clear hcall hb7 q0 q1 hHz kt2 o23 y23
     go_wp2
     go_ret
     exact ⟨rfl, hBX⟩
end Go.Proofs.YtmkjdpnoloofjaaGreat

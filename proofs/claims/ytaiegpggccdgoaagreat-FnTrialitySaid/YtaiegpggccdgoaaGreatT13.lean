/-
  LawFnTriality: part 13 of the texts that the proof needs. No condition.
-/
import Derived.Test.YtaiegpggccdgoaaGreatT12
namespace Go.Proofs.YtaiegpggccdgoaaGreat
open Go Go.RowKit
theorem sizesT_at : ∀ k : Nat, k < 4 → (#[.int .i64 0, .int .i64 2, .int .i64 9, .int .i64 28] : Array Value)[k]? = some (.int .i64 ((locN k : Nat) : Int)) := fun k hk => by
 match k, hk with
 | 0, _ => rfl
 | 1, _ => rfl
 | 2, _ => rfl
 | 3, _ => rfl
theorem ldim_zero {p : Int} {st : List Int} {nv zc : Int} (h : (nv, zc) = ldimR p st) (hz : zc = 0) : codeT p st [] [] = 0 ∧ nv = (locN st.length : Nat) := by
 unfold ldimR at h
 split at h
 · rename_i hc
   injection h with h1 _
   exact ⟨hc, h1⟩
 · rename_i hc
   injection h with _ h2
   exact absurd (h2.symm.trans hz) hc
theorem ldim_bad {p : Int} {st : List Int} {nv zc : Int} (h : (nv, zc) = ldimR p st) (hz : ¬ zc = 0) : nv = 0 := by
 unfold ldimR at h
 split at h
 · injection h with _ h2; exact absurd h2 hz
 · injection h
theorem pureCode_zero {p : Int} {st xs : List Int} (h : pureCode p st xs = 0) : codeT p st [xs] [] = 0 ∧ xs.getD 0 0 = 0 := by
 unfold pureCode at h
 split at h
 · rename_i hc
   split at h
   · rename_i hx; exact ⟨hc, hx⟩
   · omega
 · rename_i hc; exact absurd h hc
theorem PureP.bad {p : Int} {st xs : List Int} {w w' : World} {e : Ending} (h : PureP p st xs w e w') (hz : pureCode p st xs ≠ 0) : e = .returned (.tuple #[.agg #[.slice none 0 0, .slice none 0 0, .slice none 0 0], .int .i64 (pureCode p st xs)]) ∧ Below w.heap.size w w' := by
 rcases h with ⟨-, h1, h2⟩ | ⟨h0, -⟩
 · exact ⟨h1, h2⟩
 · exact absurd h0 hz
theorem PureP.good {p : Int} {st xs : List Int} {n : Nat} {w w' : World} {e : Ending} (h : PureP p st xs w e w') (hz : pureCode p st xs = 0) (hn : st.length = n) : ∃ A1 c1 A2 c2 A3 c3, e = .returned (.tuple #[.agg #[.slice A1 (pw n) c1, .slice A2 (pw n) c2, .slice A3 (pw n) c3], .int .i64 0]) ∧ TripW w w' (pw n) A1 c1 (leftDL p n st xs) A2 c2 (rightDL p n st xs) A3 c3 (pureC p n st xs) := by
 subst hn
 rcases h with ⟨h0, -⟩ | ⟨-, h⟩
 · exact absurd hz h0
 · exact h
set_option maxHeartbeats 12800000 in
set_option maxRecDepth 8000 in
theorem FnTriality_any (B : Option Addr) (nb cb : Nat) (bs : List Int) (w : World) (r : Rd w B nb (bs.map (Value.int .u8))) (hbs : ∀ b ∈ bs, 0 ≤ b ∧ b < 256) (hbg : ∀ a, B = some a → a.block < w.heap.size) :
    Calls Tryz.prog 3 #[.slice B nb cb] w fun e w' => e = .returned (.bool true) ∧ Below w.heap.size w w' := by
 have hbig := big_any B nb cb w
 by_cases hbb : 4096 < nb
 · rw [decide_eq_true hbb] at hbig
   go_enter Tryz.func3, Tryz.ntmps3
   go_wp2_with fail
   refine hbig.mono ?_
   rintro e w1 ⟨rfl, rfl⟩
   go_wp2
   go_ret
   exact ⟨rfl, Below.refl _ _⟩
 · rw [decide_eq_false hbb] at hbig
   have hdr := DrawLocalDimension_any B nb cb bs w (by omega) r hbs hbg
   go_enter Tryz.func3, Tryz.ntmps3
   go_wp2_with fail
   refine hbig.mono ?_
   rintro e w1 ⟨rfl, rfl⟩
   clear hbig
   go_wp2_with fail
   refine hdr.mono ?_
   rintro e w2 ⟨P2, A2, k2, c2, st2, rfl, hP20, hP2, hk5, ho2, hb2⟩
   have hA2 : Below w2.heap.size w2 (w2.alloc (.cells #[.int .i64 P2, .slice A2 k2 c2] 26)) := zG.alloc (Nat.le_refl _) _
   have ke0 : Blk (w2.alloc (.cells #[.int .i64 P2, .slice A2 k2 c2] 26)) w2.heap.size 26 #[.int .i64 P2, .slice A2 k2 c2] := Blk.new _ _ _
   have hX3 := hb2.trans (hA2.mono hb2.size)
   have hck2 := ho2.cap
   have RS20 := (ho2.below hA2).rd
   obtain ⟨we, hwe⟩ : ∃ W, W = (w2.alloc (.cells #[.int .i64 P2, .slice A2 k2 c2] 26)) := ⟨_, rfl⟩
   rw [← hwe] at ke0 hX3 RS20
   have hdd := LocalDimension_any P2 A2 k2 c2 st2 we (by omega) hck2 RS20
   have hdds := fun w' (h : Below we.heap.size we w') => specLocalDimension_any P2 A2 k2 c2 st2 w' (by omega) hck2 (RS20.below h)
   obtain ⟨⟨nv, zc⟩, hDz⟩ : ∃ R, R = ldimR P2 st2 := ⟨_, rfl⟩
   rw [← hDz] at hdd hdds
   have HDZ := Lib.hid hDz
   have HDDS := Lib.hid hdds
   have HSL2 : Hid (st2.length = k2) := Lib.hid RS20.lenI
   have HRB := Lib.hid r
   have HBS := Lib.hid hbs
   have HBG := Lib.hid hbg
   obtain ⟨q0, q1⟩ := ke0.two
   clear hdr ho2 hb2 hA2 hdds hDz RS20 r hbs hbg
   go_wp2_with fail
   rw [← hwe]
   clear hwe
   refine hdd.mono ?_
   rintro e wf ⟨rfl, hbf⟩
   have ke1 := ke0.below hbf ke0.lt
   have hdds := HDDS.out wf hbf
   clear hdd q0 q1 HDDS
   obtain ⟨q0, q1⟩ := ke1.two
   go_wp2_with fail
   refine hdds.mono ?_
   rintro e w7 ⟨rfl, hb7⟩
   have ke := ke1.below hb7 ke1.lt
   have hbe7 := hbf.trans (hb7.mono hbf.size)
   have hX7 := hX3.trans (hbe7.mono hX3.size)
   have e0 : (zc != zc) = false := by simp
   have e1 : (nv != nv) = false := by simp
   clear hdds q0 q1 ke0 ke1 hbf hb7 hX3 hbe7
   obtain ⟨q0, q1⟩ := ke.two
   by_cases hzc : zc = 0
   · obtain ⟨hcd, hnv⟩ := ldim_zero HDZ.out hzc
     subst hzc
     obtain ⟨hdb, hk3, -, -⟩ := codeT_zero hcd
     rw [HSL2.out] at hk3 hnv
     obtain ⟨dn, hdn⟩ : ∃ z, z = locN k2 := ⟨_, rfl⟩
     rw [← hdn] at hnv
     obtain rfl : nv = (dn : Int) := hnv
     have kS : Blk (w7.alloc (.cells #[.int .i64 0, .int .i64 2, .int .i64 9, .int .i64 28] 2)) w7.heap.size 2 #[.int .i64 0, .int .i64 2, .int .i64 9, .int .i64 28] := Blk.new _ _ _
     have hsc : (#[.int .i64 0, .int .i64 2, .int .i64 9, .int .i64 28] : Array Value)[k2]? = some (.int .i64 (dn : Int)) := by
      rw [hdn]
      exact sizesT_at k2 (by omega)
     have hsc9 : (w7.alloc (.cells #[.int .i64 0, .int .i64 2, .int .i64 9, .int .i64 28] 2)).cell? ⟨w7.heap.size, k2, none⟩ = some (.int .i64 (dn : Int)) := (kS.cell k2).trans hsc
     have keA := ke.alloc (.cells #[.int .i64 0, .int .i64 2, .int .i64 9, .int .i64 28] 2)
     clear q0 q1
     obtain ⟨q0, q1⟩ := keA.two
     have hX8 : Below w.heap.size w (w7.alloc (.cells #[.int .i64 0, .int .i64 2, .int .i64 9, .int .i64 28] 2)) := hX7.alloc hX7.size _
     have i0 : (0 : Int) ≤ (k2 : Int) := by omega
     have i1 : (k2 : Int) < 4 := by omega
     have hk4 : k2 < 4 := by omega
     have d0 : ((dn : Int) != (dn : Int)) = false := by simp
     obtain ⟨w8, hw8⟩ : ∃ W, W = (w7.alloc (.cells #[.int .i64 0, .int .i64 2, .int .i64 9, .int .i64 28] 2)) := ⟨_, rfl⟩
     rw [← hw8] at hX8
     clear hcd hdb ke hX7 hdn keA kS
     have hdr := DrawPureTriple_any B nb cb bs w8 (by omega) (HRB.out.below hX8) HBS.out (fun a e => Nat.lt_of_lt_of_le (HBG.out a e) hX8.size)
     go_wp2_with fail
     rw [← hw8]; clear hw8 q0 q1 hsc9
     refine hdr.mono ?_
     rintro e w20 ⟨P, A, n, c, st, X, m, cx, xs, rfl, hP, hn, hm, ho, hx, hb20⟩
     have hA : Below w20.heap.size w20 (w20.alloc (.cells #[.int .i64 P, .slice A n c] 26)) := zG.alloc (Nat.le_refl _) _
     have kd : Blk (w20.alloc (.cells #[.int .i64 P, .slice A n c] 26)) w20.heap.size 26 #[.int .i64 P, .slice A n c] := Blk.new _ _ _
     have hX20 := hX8.trans (hb20.mono hX8.size)
     have hX21 := hX20.trans (hA.mono hX20.size)
     have hcn := ho.cap
     have hcx := hx.1
     have hrs := (ho.below hA).rd
     have hrx := (hx.below hA).rd
     obtain ⟨w21, hw21⟩ : ∃ W, W = (w20.alloc (.cells #[.int .i64 P, .slice A n c] 26)) := ⟨_, rfl⟩
     rw [← hw21] at kd hX21 hrs hrx
     have hp1 := PureTriple_any P A n c st X m cx xs w21 (by omega) hcn (by omega) hcx hrs hrx
     have hp2 := fun w' (h : Below w21.heap.size w21 w') => specPureTriple_any P A n c st X m cx xs w' (by omega) hcn (by omega) hcx (hrs.below h) (hrx.below h)
     have hsl : st.length = n := hrs.lenI
     obtain ⟨q0, q1⟩ := kd.two
     clear hdr ho hx hb20 hX20 hA hX8
     by_cases hz0 : pureCode P st xs = 0
     · obtain ⟨hcd, hx0⟩ := pureCode_zero hz0
       obtain ⟨hdb, hk3, hel, -⟩ := codeT_zero hcd
       obtain ⟨hxl, hnm⟩ := hel xs (by simp)
       obtain ⟨HP, -, -⟩ := isDb_facts hdb
       obtain ⟨hp3, hp13⟩ := isP_ge HP
       rw [hsl] at hk3 hxl
       have hml : xs.length = m := hrx.lenI
       obtain rfl : m = pw n := by omega
       have hpk : pw n ≤ 8 := pw_le hk3
       have hpos := pw_pos n
       replace hp1 := hp1.mono fun e w' h => h.good hz0 hsl
       have HP2 := Lib.hid fun w' (h : Below w21.heap.size w21 w') => (hp2 w' h).mono fun e w' h => h.good hz0 hsl
       have HLo : Hid (Loc P st n (ent (leftDL P n st xs)) (ent (rightDL P n st xs)) (ent (pureC P n st xs))) := Lib.hid (Loc.pure hk3 st (gV xs) hx0 (fun r i hr hi => leftDL_ent (by omega) st hxl hr hi) (fun r i hr hi => rightDL_ent (by omega) st hxl hr hi) (fun r i hr hi => pureC_ent (by omega) st hxl hr hi))
       have HT1 := Lib.hid (leftDL_tab (p := P) (by omega) n st xs)
       have HT2 := Lib.hid (rightDL_tab (p := P) (by omega) n st xs)
       have HT3 := Lib.hid (pureC_tab (p := P) (by omega) n st xs)
       obtain ⟨M1, hM1⟩ : ∃ z, z = leftDL P n st xs := ⟨_, rfl⟩
       obtain ⟨M2, hM2⟩ : ∃ z, z = rightDL P n st xs := ⟨_, rfl⟩
       obtain ⟨M3, hM3⟩ : ∃ z, z = pureC P n st xs := ⟨_, rfl⟩
       rw [← hM1, ← hM2, ← hM3] at hp1 HP2 HLo
       rw [← hM1] at HT1
       rw [← hM2] at HT2
       rw [← hM3] at HT3
       have HDB := Lib.hid hdb
       have HXL := Lib.hid (And.intro hxl hnm)
       have HSL := Lib.hid hsl
       clear hM1 hM2 hM3 hp2 hz0 hcd hx0 hdb hel hxl hnm HP hml hsl
       go_wp2_with fail
       rw [← hw21]
       clear hw21
       refine hp1.mono ?_
       rintro e w22 ⟨A1, c1, A2, c2, A3, c3, rfl, hT⟩
       obtain ⟨ho1, ho2, ho3, hb22⟩ := hT
       have hA : Below w22.heap.size w22 (w22.alloc (.cells #[.slice A1 (pw n) c1, .slice A2 (pw n) c2, .slice A3 (pw n) c3] 34)) := zG.alloc (Nat.le_refl _) _
       have kt : Blk (w22.alloc (.cells #[.slice A1 (pw n) c1, .slice A2 (pw n) c2, .slice A3 (pw n) c3] 34)) w22.heap.size 34 #[.slice A1 (pw n) c1, .slice A2 (pw n) c2, .slice A3 (pw n) c3] := Blk.new _ _ _
       have kd2 := (kd.below hb22 kd.lt).alloc (.cells #[.slice A1 (pw n) c1, .slice A2 (pw n) c2, .slice A3 (pw n) c3] 34)
       have hY := hb22.trans (hA.mono hb22.size)
       have hr1 := ho1.rd.below hA
       have hr2 := ho2.rd.below hA
       have hr3 := ho3.rd.below hA
       have hq1 := ho1.cap
       have hq2 := ho2.cap
       have hq3 := ho3.cap
       clear q0 q1
       obtain ⟨q0, q1⟩ := kd2.two
       obtain ⟨w23, hw23⟩ : ∃ W, W = (w22.alloc (.cells #[.slice A1 (pw n) c1, .slice A2 (pw n) c2, .slice A3 (pw n) c3] 34)) := ⟨_, rfl⟩
       rw [← hw23] at kt kd2 hY hr1 hr2 hr3
       have hp2 := HP2.out w23 hY
       clear hp1 HP2 kd hb22 hA ho1 ho2 ho3
       go_wp2_with fail
       rw [← hw23]
       clear hw23
       refine hp2.mono ?_
       rintro e w24 ⟨B1, d1, B2, d2, B3, d3, rfl, hT⟩
       obtain ⟨ho1, ho2, ho3, hb24⟩ := hT
       have hA : Below w24.heap.size w24 (w24.alloc (.cells #[.slice B1 (pw n) d1, .slice B2 (pw n) d2, .slice B3 (pw n) d3] 34)) := zG.alloc (Nat.le_refl _) _
       have ku : Blk (w24.alloc (.cells #[.slice B1 (pw n) d1, .slice B2 (pw n) d2, .slice B3 (pw n) d3] 34)) w24.heap.size 34 #[.slice B1 (pw n) d1, .slice B2 (pw n) d2, .slice B3 (pw n) d3] := Blk.new _ _ _
       have kt2 := (kt.below hb24 kt.lt).alloc (.cells #[.slice B1 (pw n) d1, .slice B2 (pw n) d2, .slice B3 (pw n) d3] 34)
       have kd3 := (kd2.below hb24 kd2.lt).alloc (.cells #[.slice B1 (pw n) d1, .slice B2 (pw n) d2, .slice B3 (pw n) d3] 34)
       have hb25 := hb24.trans (hA.mono hb24.size)
       have hY25 := hY.trans (hb25.mono hY.size)
       have hs1 := ho1.rd.below hA
       have hs2 := ho2.rd.below hA
       have hs3 := ho3.rd.below hA
       have q2 := kt2.cell 0
       have q3 := kt2.cell 1
       have q4 := kt2.cell 2
       have q5 := ku.cell 0
       have q6 := ku.cell 1
       have q7 := ku.cell 2
       simp only [zA, zC, zB] at q2 q3 q4 q5 q6 q7
       obtain ⟨w25, hw25⟩ : ∃ W, W = (w24.alloc (.cells #[.slice B1 (pw n) d1, .slice B2 (pw n) d2, .slice B3 (pw n) d3] 34)) := ⟨_, rfl⟩
       rw [← hw25] at ku kt2 kd3 hb25 hY25 hs1 hs2 hs3
       have h9 := triple9_ok (pw n) A1 A2 A3 B1 B2 B3 c1 c2 c3 d1 d2 d3 M1 M2 M3 w25 hpk P HT1.out.1 HT2.out.1 HT3.out.1 (hr1.below hb25) (hr2.below hb25) (hr3.below hb25) hs1 hs2 hs3
       replace hr1 := hr1.below hb25
       replace hr2 := hr2.below hb25
       replace hr3 := hr3.below hb25
       replace hrs := hrs.below hY25
       replace hrx := hrx.below hY25
       have hW25 := hX21.trans (hY25.mono hX21.size)
       clear hp2 kt kd2 hb24 hA q0 q1 ho1 ho2 ho3 hs1 hs2 hs3 hY hb25 hY25 hX21
       go_wp2_with fail
       rw [← hw25]
       clear hw25
       refine h9.mono ?_
       rintro e w26 ⟨rfl, hb26⟩
       have hW26 := hW25.trans (hb26.mono hW25.size)
       have hro := roll_any B nb cb bs 3021 w26 (by omega) (HRB.out.below hW26) HBS.out (fun a e => Nat.lt_of_lt_of_le (HBG.out a e) hW26.size)
       have kd4 := kd3.below hb26 kd3.lt
       have kt4 := kt2.below hb26 kt2.lt
       have R1_ := Lib.hid (hr1.below hb26)
       have R2_ := Lib.hid (hr2.below hb26)
       have R3_ := Lib.hid (hr3.below hb26)
       have RS_ := Lib.hid (hrs.below hb26)
       have RX_ := Lib.hid (hrx.below hb26)
       have HW26 := Lib.hid hW26
       clear h9 q2 q3 q4 q5 q6 q7 ku kt2 kd3 hb26 hW25 hW26 hr1 hr2 hr3 hrs hrx
       go_wp2_with fail
       refine hro.mono ?_
       rintro e w27 ⟨g, rfl, hg, hs27, hb27⟩
       have hel := element9_any g P A n c w27 hs27 (by omega) (by omega) (by omega)
       have kd5 := kd4.below hb27 kd4.lt
       obtain ⟨q0, q1⟩ := kd5.two
       clear hro hs27
       go_wp2_with fail
       refine hel.mono ?_
       rintro e w28 ⟨Y, cy, ys, rfl, hyn, hoY, hd28⟩
       have HB28 := Lib.hid (hd28.down hb27 hg)
       have kd6 := kd4.below HB28.out kd4.lt
       have hyl : ys.length = pw n := hoY.rd.lenI
       have hcd2 : codeT P st [xs, ys] [] = 0 := codeT_mk HDB.out (by rw [HSL.out]; exact hk3) (fun zs hz => by
        simp at hz
        rw [HSL.out]
        rcases hz with rfl | rfl
        · exact HXL.out
        · exact ⟨hyl, hyn⟩) (fun M hM => absurd hM (by simp))
       have hin := InnerDerivation_any P A n c st X (pw n) cx xs Y (pw n) cy ys w28 (by omega) hcn (by omega) hcx (by omega) hoY.cap (RS_.out.below HB28.out) (RX_.out.below HB28.out) hoY.rd
       have hind : indR P st xs ys = (innM P n st xs ys, 0) := by unfold indR; rw [if_pos hcd2, HSL.out]
       rw [hind, innM_len (by omega)] at hin
       have HTG := Lib.hid (And.intro (innM_tab (p := P) (by omega) n st xs ys) (innM_len (p := P) (by omega) n st xs ys))
       have HLG : Hid (Loc P st n (ent (innM P n st xs ys)) (ent (innM P n st xs ys)) (ent (innM P n st xs ys))) := Lib.hid (Loc.der hk3 st (gV xs) (gV ys) (fun r i hr hi => innM_ent (by omega) st HXL.out.1 hyl hr hi))
       obtain ⟨G, hG⟩ : ∃ z, z = innM P n st xs ys := ⟨_, rfl⟩
       rw [← hG] at hin HTG HLG
       simp only at hin
       obtain ⟨q2, q3⟩ := kd6.two
       clear hel kd5 q0 q1 hd28 hb27 hg hyn hoY hyl hcd2 hind hG
       go_wp2_with fail
       refine hin.mono ?_
       rintro e w29 ⟨AG, cG, rfl, hMG⟩
       have HB29 := Lib.hid (HB28.out.trans (hMG.b.mono HB28.out.size))
       have RG := Lib.hid hMG.rd
       have hqG : (pw n) ≤ cG := by obtain ⟨us, hm⟩ := hMG.outer; exact hm.2.cap
       have hrot := RotateTriple_ok P A n c st (pw n) A2 c2 M2 A3 c3 M3 A1 c1 M1 w29 HDB.out hk3 rfl hcn (RS_.out.below HB29.out) (R2_.out.below HB29.out) HT2.out.1 hq2 (R3_.out.below HB29.out) HT3.out.1 hq3 (R1_.out.below HB29.out) HT1.out.1 hq1
       have kd7 := kd4.below HB29.out kd4.lt
       have kt7 := kt4.below HB29.out kt4.lt
       clear q2 q3 hin hMG kd6
       obtain ⟨q0, q1⟩ := kd7.two
       have q2 := kt7.cell 0
       have q3 := kt7.cell 1
       have q4 := kt7.cell 2
       simp at q2 q3 q4
       go_wp2_with fail
       refine hrot.mono ?_
       rintro e w30 ⟨R1, r1, R2, r2, R3, r3, rfl, hT⟩
       obtain ⟨ho1, ho2, ho3, hb30⟩ := hT
       have hA : Below w30.heap.size w30 (w30.alloc (.cells #[.slice R1 (pw n) r1, .slice R2 (pw n) r2, .slice R3 (pw n) r3] 34)) := zG.alloc (Nat.le_refl _) _
       have ku : Blk (w30.alloc (.cells #[.slice R1 (pw n) r1, .slice R2 (pw n) r2, .slice R3 (pw n) r3] 34)) w30.heap.size 34 #[.slice R1 (pw n) r1, .slice R2 (pw n) r2, .slice R3 (pw n) r3] := Blk.new _ _ _
       have h31 := hb30.trans (hA.mono hb30.size)
       have hB31 := HB29.out.trans (h31.mono HB29.out.size)
       have S1 := ho1.rd.below hA
       have S2 := ho2.rd.below hA
       have S3 := ho3.rd.below hA
       have u1 := ho1.cap
       have u2 := ho2.cap
       have u3 := ho3.cap
       have RG31 := RG.out.below h31
       have kd8 := kd4.below hB31 kd4.lt
       have kt8 := kt4.below hB31 kt4.lt
       clear q0 q1 q2 q3 q4
       obtain ⟨q0, q1⟩ := kd8.two
       have q2 := kt8.cell 0
       have q3 := kt8.cell 1
       have q4 := kt8.cell 2
       simp only [zA, zC, zB] at q2 q3 q4
       obtain ⟨w31, hw31⟩ : ∃ W, W = (w30.alloc (.cells #[.slice R1 (pw n) r1, .slice R2 (pw n) r2, .slice R3 (pw n) r3] 34)) := ⟨_, rfl⟩
       rw [← hw31] at ku h31 hB31 S1 S2 S3 RG31 kd8 kt8
       have hbr := BracketTriple_ok P A n c st (pw n) A1 c1 M1 A2 c2 M2 A3 c3 M3 AG cG G AG cG G AG cG G w31 HDB.out hk3 rfl hcn (RS_.out.below hB31) (R1_.out.below hB31) HT1.out.1 hq1 (R2_.out.below hB31) HT2.out.1 hq2 (R3_.out.below hB31) HT3.out.1 hq3 RG31 HTG.out.1 hqG RG31 HTG.out.1 hqG RG31 HTG.out.1 hqG
       have HB31 := Lib.hid hB31
       clear hrot hb30 hA ho1 ho2 ho3 kd7 kt7 hB31 h31
       have HS1 := Lib.hid S1
       have HS2 := Lib.hid S2
       have HS3 := Lib.hid S3
       have HRG31 := Lib.hid RG31
       clear S1 S2 S3 RG31 RG
       go_wp2_with fail
       rw [← hw31]
       clear hw31
       refine hbr.mono ?_
       rintro e w32 ⟨V1, v1, V2, v2, V3, v3, rfl, hT⟩
       obtain ⟨ho1, ho2, ho3, hb32⟩ := hT
       have hA : Below w32.heap.size w32 (w32.alloc (.cells #[.slice V1 (pw n) v1, .slice V2 (pw n) v2, .slice V3 (pw n) v3] 34)) := zG.alloc (Nat.le_refl _) _
       have kv : Blk (w32.alloc (.cells #[.slice V1 (pw n) v1, .slice V2 (pw n) v2, .slice V3 (pw n) v3] 34)) w32.heap.size 34 #[.slice V1 (pw n) v1, .slice V2 (pw n) v2, .slice V3 (pw n) v3] := Blk.new _ _ _
       have h33 := hb32.trans (hA.mono hb32.size)
       have hv1 := ho1.rd.below hA
       have hv2 := ho2.rd.below hA
       have hv3 := ho3.rd.below hA
       have x1 := ho1.cap
       have x2 := ho2.cap
       have x3 := ho3.cap
       obtain ⟨w33, hw33⟩ : ∃ W, W = (w32.alloc (.cells #[.slice V1 (pw n) v1, .slice V2 (pw n) v2, .slice V3 (pw n) v3] 34)) := ⟨_, rfl⟩
       rw [← hw33] at kv h33 hv1 hv2 hv3
       have ku9 := ku.below h33 ku.lt
       have hB33 := HB31.out.trans (h33.mono HB31.out.size)
       have kd9 := kd4.below hB33 kd4.lt
       have kt9 := kt4.below hB33 kt4.lt
       have hA2 : Below w33.heap.size w33 (w33.alloc (.cells #[.slice A1 (pw n) c1, .slice A2 (pw n) c2, .slice A3 (pw n) c3, .slice R1 (pw n) r1, .slice R2 (pw n) r2, .slice R3 (pw n) r3, .slice V1 (pw n) v1, .slice V2 (pw n) v2, .slice V3 (pw n) v3, .slice AG (pw n) cG, .slice AG (pw n) cG, .slice AG (pw n) cG] 34)) := zG.alloc (Nat.le_refl _) _
       have ka : Blk (w33.alloc (.cells #[.slice A1 (pw n) c1, .slice A2 (pw n) c2, .slice A3 (pw n) c3, .slice R1 (pw n) r1, .slice R2 (pw n) r2, .slice R3 (pw n) r3, .slice V1 (pw n) v1, .slice V2 (pw n) v2, .slice V3 (pw n) v3, .slice AG (pw n) cG, .slice AG (pw n) cG, .slice AG (pw n) cG] 34)) w33.heap.size 34 #[.slice A1 (pw n) c1, .slice A2 (pw n) c2, .slice A3 (pw n) c3, .slice R1 (pw n) r1, .slice R2 (pw n) r2, .slice R3 (pw n) r3, .slice V1 (pw n) v1, .slice V2 (pw n) v2, .slice V3 (pw n) v3, .slice AG (pw n) cG, .slice AG (pw n) cG, .slice AG (pw n) cG] := Blk.new _ _ _
       have hB34 := hB33.trans (hA2.mono hB33.size)
       have h34 := h33.trans (hA2.mono h33.size)
       obtain ⟨w34, hw34⟩ : ∃ W, W = (w33.alloc (.cells #[.slice A1 (pw n) c1, .slice A2 (pw n) c2, .slice A3 (pw n) c3, .slice R1 (pw n) r1, .slice R2 (pw n) r2, .slice R3 (pw n) r3, .slice V1 (pw n) v1, .slice V2 (pw n) v2, .slice V3 (pw n) v3, .slice AG (pw n) cG, .slice AG (pw n) cG, .slice AG (pw n) cG] 34)) := ⟨_, rfl⟩
       rw [← hw34] at ka hB34 h34 hA2
       have hsz33 : w33.heap.size = w32.heap.size + 1 := by rw [hw33]; simp
       rw [hsz33] at ka
       clear hsz33
       have HKD := Lib.hid (kd9.below hA2 kd9.lt)
       have HKA := Lib.hid ka
       have HKT := Lib.hid (kt9.below hA2 kt9.lt)
       have HKU := Lib.hid (ku9.below hA2 ku9.lt)
       have RS4 := Lib.hid (RS_.out.below hB34)
       have Q1 := Lib.hid (R1_.out.below hB34)
       have Q2 := Lib.hid (R2_.out.below hB34)
       have Q3 := Lib.hid (R3_.out.below hB34)
       have QG := Lib.hid (HRG31.out.below h34)
       have QU1 := Lib.hid (HS1.out.below h34)
       have QU2 := Lib.hid (HS2.out.below h34)
       have QU3 := Lib.hid (HS3.out.below h34)
       have QV1 := Lib.hid (hv1.below hA2)
       have QV2 := Lib.hid (hv2.below hA2)
       have QV3 := Lib.hid (hv3.below hA2)
       have hp0 : 0 < P := by omega
       have tv1 := brMx_tab (M := M1) hp0 hpos HTG.out.1 HT1.out.2 HTG.out.2
       have tv2 := brMx_tab (M := M2) hp0 hpos HTG.out.1 HT2.out.2 HTG.out.2
       have tv3 := brMx_tab (M := M3) hp0 hpos HTG.out.1 HT3.out.2 HTG.out.2
       have HI0 := Lib.hid fun w' (h : Below w34.heap.size w34 w') => IsLocalTriple_ok P A n c st (pw n) A1 c1 M1 A2 c2 M2 A3 c3 M3 w' HDB.out hk3 rfl hcn (RS4.out.below h) (Q1.out.below h) HT1.out.1 hq1 (Q2.out.below h) HT2.out.1 hq2 (Q3.out.below h) HT3.out.1 hq3 (loc_rows hp0 HT1.out.1 HT2.out.1 HT3.out.1 HT1.out.2 HT2.out.2 HT3.out.2 HLo.out)
       have HI1 := Lib.hid fun w' (h : Below w34.heap.size w34 w') => IsLocalTriple_ok P A n c st (pw n) R1 r1 M3 R2 r2 M1 R3 r3 M2 w' HDB.out hk3 rfl hcn (RS4.out.below h) (QU1.out.below h) HT3.out.1 u1 (QU2.out.below h) HT1.out.1 u2 (QU3.out.below h) HT2.out.1 u3 (loc_rows hp0 HT3.out.1 HT1.out.1 HT2.out.1 HT3.out.2 HT1.out.2 HT2.out.2 (HLo.out.rot hk3))
       have HI2 := Lib.hid fun w' (h : Below w34.heap.size w34 w') => IsLocalTriple_ok P A n c st (pw n) V1 v1 (brMx P M1 G) V2 v2 (brMx P M2 G) V3 v3 (brMx P M3 G) w' HDB.out hk3 rfl hcn (RS4.out.below h) (QV1.out.below h) tv1 x1 (QV2.out.below h) tv2 x2 (QV3.out.below h) tv3 x3 (loc_rows hp0 tv1 tv2 tv3 ((brMx_len _ _).trans HT1.out.2) ((brMx_len _ _).trans HT2.out.2) ((brMx_len _ _).trans HT3.out.2) (HLo.out.bracket HLG.out (fun a b ha hb => brMx_ent hp0 hpos HT1.out.1 HTG.out.1 HT1.out.2 HTG.out.2 ha hb) (fun a b ha hb => brMx_ent hp0 hpos HT2.out.1 HTG.out.1 HT2.out.2 HTG.out.2 ha hb) (fun a b ha hb => brMx_ent hp0 hpos HT3.out.1 HTG.out.1 HT3.out.2 HTG.out.2 ha hb)))
       have HI3 := Lib.hid fun w' (h : Below w34.heap.size w34 w') => IsLocalTriple_ok P A n c st (pw n) AG cG G AG cG G AG cG G w' HDB.out hk3 rfl hcn (RS4.out.below h) (QG.out.below h) HTG.out.1 hqG (QG.out.below h) HTG.out.1 hqG (QG.out.below h) HTG.out.1 hqG (loc_rows hp0 HTG.out.1 HTG.out.1 HTG.out.1 HTG.out.2 HTG.out.2 HTG.out.2 HLG.out)
       have H9 := Lib.hid fun w' (h : Below w34.heap.size w34 w') => triple9_ok (pw n) R1 R2 R3 A3 A1 A2 r1 r2 r3 c3 c1 c2 M3 M1 M2 w' hpk P HT3.out.1 HT1.out.1 HT2.out.1 (QU1.out.below h) (QU2.out.below h) (QU3.out.below h) (Q3.out.below h) (Q1.out.below h) (Q2.out.below h)
       have HW34 := Lib.hid (HW26.out.trans (hB34.mono HW26.out.size))
       clear hbr q0 q1 q2 q3 q4 hb32 hA ho1 ho2 ho3 hv1 hv2 hv3 tv1 tv2 tv3 hB33 hB34 h33 h34 hA2 ka
       have p2 := kt9.cell 0
       have p3 := kt9.cell 1
       have p4 := kt9.cell 2
       have p5 := ku9.cell 0
       have p6 := ku9.cell 1
       have p7 := ku9.cell 2
       have p8 := kv.cell 0
       have p9 := kv.cell 1
       have p10 := kv.cell 2
       simp at p2 p3 p4 p5 p6 p7 p8 p9 p10
       clear kd4 kd8 kt4 kt8 ku HDB HXL HSL HLo HT1 HT2 HT3 HTG HLG R1_ R2_ R3_ RS_ RX_ HB28 HB29 HB31 HS1 HS2 HS3 HRG31 Q1 Q2 Q3 QG QU1 QU2 QU3 QV1 QV2 QV3 RS4 HW26
       rw [hw33] at p2 p3 p4 p5 p6 p7 p8 p9 p10
       go_wp2
       rw [← hw33, ← hw34]
       clear hw34 p2 p3 p4 p5 p6 p7 p8 p9 p10 kt9 ku9 kv kd9
       go_loopw [24] (fun i wr => ∃ j : Nat, j ≤ 4 ∧ i = .int .i64 j ∧ Hid (Below w34.heap.size w34 wr)) (fun i _ => 4 - (intOf i).toNat)
       case atStart => exact ⟨0, by omega, rfl, Lib.hid zG⟩
       case round =>
        obtain ⟨j, hj, rfl, HBr⟩ := hrel
        have kdr := HKD.out.below HBr.out HKD.out.lt
        have kar := HKA.out.below HBr.out HKA.out.lt
        rcases (show j = 0 ∨ j = 1 ∨ j = 2 ∨ j = 3 ∨ j = 4 by omega) with rfl | rfl | rfl | rfl | rfl
        · go_wp2
          refine wp_obs 11 [[],[],[],[1,2],[1,2,3],[0,1,2,3,4],[0,1,2,3,4,5],[0,1,2,3,4,5,6],[0,1,2,3,4,5,6],[0,1,2,3,4,5,6,7],[0,1,2,3,4,5,6,8]] [VIs (.agg #[.int .i64 P, .slice A n c]), VIs (.slice (some ⟨w32.heap.size + 1, 0, none⟩) 4 4), VIs (.int .i64 0), VIs (.pointer (some ⟨w32.heap.size + 1, 0, none⟩)), VIs (.agg #[.slice A1 (pw n) c1, .slice A2 (pw n) c2, .slice A3 (pw n) c3]), VIs (.tuple #[.bool true, .int .i64 0]), VIs (.tuple #[.bool true, .int .i64 0]), VIs (.bool true), VIs (.int .i64 0), VIs (.bool true), VIs (.int .i64 0)] (fun w' => Blk w' w20.heap.size 26 #[.int .i64 P, .slice A n c] ∧ Blk w' (w32.heap.size + 1) 34 #[.slice A1 (pw n) c1, .slice A2 (pw n) c2, .slice A3 (pw n) c3, .slice R1 (pw n) r1, .slice R2 (pw n) r2, .slice R3 (pw n) r3, .slice V1 (pw n) v1, .slice V2 (pw n) v2, .slice V3 (pw n) v3, .slice AG (pw n) cG, .slice AG (pw n) cG, .slice AG (pw n) cG] ∧ Below wr.heap.size wr w') (by kernel_rfl) (by kernel_rfl) (fun _ _ h hb => ⟨h.1.below hb h.1.lt, h.2.1.below hb h.2.1.lt, h.2.2.trans (hb.mono h.2.2.size)⟩) (⟨kdr.drew, kar.drew, zG.drew⟩) (fun x => ?_)
          refine zS (fun w' hS hV K hK => ?_) ?_
          · obtain ⟨q0, q1⟩ := hS.1.two; have q2 := hS.2.1.cell 0; have q3 := hS.2.1.cell 1; have q4 := hS.2.1.cell 2; simp at q2 q3 q4; go_simp; exact zO hK
          refine zS (fun w' hS hV K hK => ?_) ?_
          · obtain ⟨q0, q1⟩ := hS.1.two; have q2 := hS.2.1.cell 0; have q3 := hS.2.1.cell 1; have q4 := hS.2.1.cell 2; simp at q2 q3 q4; go_simp; exact zO hK
          refine zS (fun w' hS hV K hK => ?_) ?_
          · obtain ⟨q0, q1⟩ := hS.1.two; have q2 := hS.2.1.cell 0; have q3 := hS.2.1.cell 1; have q4 := hS.2.1.cell 2; simp at q2 q3 q4; go_simp; exact zO hK
          refine zS (fun w' hS hV K hK => ?_) ?_
          · have e1 := zQ hV 1; have e2 := zQ hV 2; obtain ⟨q0, q1⟩ := hS.1.two; have q2 := hS.2.1.cell 0; have q3 := hS.2.1.cell 1; have q4 := hS.2.1.cell 2; simp at q2 q3 q4; go_simp; exact zO hK
          refine zS (fun w' hS hV K hK => ?_) ?_
          · have e3 := zQ hV 3; obtain ⟨q0, q1⟩ := hS.1.two; have q2 := hS.2.1.cell 0; have q3 := hS.2.1.cell 1; have q4 := hS.2.1.cell 2; simp at q2 q3 q4; go_simp; exact zO hK
          refine zS (fun w' hS hV K hK => ?_) ?_
          · have e0 := zQ hV 0; have e4 := zQ hV 4; obtain ⟨q0, q1⟩ := hS.1.two; have q2 := hS.2.1.cell 0; have q3 := hS.2.1.cell 1; have q4 := hS.2.1.cell 2; simp at q2 q3 q4; go_simp; refine (HI0.out w' (HBr.out.trans (hS.2.2.mono HBr.out.size))).mono ?_; rintro e v1 ⟨rfl, hb⟩; exact hK.out _ _ _ rfl rfl rfl hb
          refine zS (fun w' hS hV K hK => ?_) ?_
          · have e5 := zQ hV 5; obtain ⟨q0, q1⟩ := hS.1.two; have q2 := hS.2.1.cell 0; have q3 := hS.2.1.cell 1; have q4 := hS.2.1.cell 2; simp at q2 q3 q4; go_simp; exact zO hK
          refine zS (fun w' hS hV K hK => ?_) ?_
          · have e6 := zQ hV 6; obtain ⟨q0, q1⟩ := hS.1.two; have q2 := hS.2.1.cell 0; have q3 := hS.2.1.cell 1; have q4 := hS.2.1.cell 2; simp at q2 q3 q4; go_simp; exact zO hK
          refine zS (fun w' hS hV K hK => ?_) ?_
          · have e6 := zQ hV 6; obtain ⟨q0, q1⟩ := hS.1.two; have q2 := hS.2.1.cell 0; have q3 := hS.2.1.cell 1; have q4 := hS.2.1.cell 2; simp at q2 q3 q4; go_simp; exact zO hK
          refine zS (fun w' hS hV K hK => ?_) ?_
          · have e7 := zQ hV 7; obtain ⟨q0, q1⟩ := hS.1.two; have q2 := hS.2.1.cell 0; have q3 := hS.2.1.cell 1; have q4 := hS.2.1.cell 2; simp at q2 q3 q4; go_simp; exact zO hK
          refine zS (fun w' hS hV K hK => ?_) ?_
          · have e8 := zQ hV 8; obtain ⟨q0, q1⟩ := hS.1.two; have q2 := hS.2.1.cell 0; have q3 := hS.2.1.cell 1; have q4 := hS.2.1.cell 2; simp at q2 q3 q4; go_simp; exact zO hK
          refine fun w' hS hV => ?_
          have e0 := zT hV 0
          have e1 := zT hV 1
          have e2 := zT hV 2
          have e3 := zT hV 3
          have e4 := zT hV 4
          have e5 := zT hV 5
          have e6 := zT hV 6
          have e7 := zT hV 7
          have e8 := zT hV 8
          have e9 := zT hV 9
          have e10 := zT hV 10
          simp only [e0, e1, e2, e3, e4, e5, e6, e7, e8, e9, e10]
          clear e0 e1 e2 e3 e4 e5 e6 e7 e8 e9 e10
          refine wpAny_done (by kernel_rfl) ?_ _
          obtain ⟨-, -, s9⟩ := hS
          have HB9 := Lib.hid (HBr.out.trans (s9.mono HBr.out.size))
          clear s9 kdr kar
          go_wp2
          go_roundw
          case rel => exact ⟨1, by omega, by go_num, HB9⟩
          case measure => simp [intOf]
        · go_wp2
          refine wp_obs 11 [[],[],[],[1,2],[1,2,3],[0,1,2,3,4],[0,1,2,3,4,5],[0,1,2,3,4,5,6],[0,1,2,3,4,5,6],[0,1,2,3,4,5,6,7],[0,1,2,3,4,5,6,8]] [VIs (.agg #[.int .i64 P, .slice A n c]), VIs (.slice (some ⟨w32.heap.size + 1, 0, none⟩) 4 4), VIs (.int .i64 1), VIs (.pointer (some ⟨w32.heap.size + 1, 3, none⟩)), VIs (.agg #[.slice R1 (pw n) r1, .slice R2 (pw n) r2, .slice R3 (pw n) r3]), VIs (.tuple #[.bool true, .int .i64 0]), VIs (.tuple #[.bool true, .int .i64 0]), VIs (.bool true), VIs (.int .i64 0), VIs (.bool true), VIs (.int .i64 0)] (fun w' => Blk w' w20.heap.size 26 #[.int .i64 P, .slice A n c] ∧ Blk w' (w32.heap.size + 1) 34 #[.slice A1 (pw n) c1, .slice A2 (pw n) c2, .slice A3 (pw n) c3, .slice R1 (pw n) r1, .slice R2 (pw n) r2, .slice R3 (pw n) r3, .slice V1 (pw n) v1, .slice V2 (pw n) v2, .slice V3 (pw n) v3, .slice AG (pw n) cG, .slice AG (pw n) cG, .slice AG (pw n) cG] ∧ Below wr.heap.size wr w') (by kernel_rfl) (by kernel_rfl) (fun _ _ h hb => ⟨h.1.below hb h.1.lt, h.2.1.below hb h.2.1.lt, h.2.2.trans (hb.mono h.2.2.size)⟩) (⟨kdr.drew, kar.drew, zG.drew⟩) (fun x => ?_)
          refine zS (fun w' hS hV K hK => ?_) ?_
          · obtain ⟨q0, q1⟩ := hS.1.two; have q2 := hS.2.1.cell 3; have q3 := hS.2.1.cell 4; have q4 := hS.2.1.cell 5; simp at q2 q3 q4; go_simp; exact zO hK
          refine zS (fun w' hS hV K hK => ?_) ?_
          · obtain ⟨q0, q1⟩ := hS.1.two; have q2 := hS.2.1.cell 3; have q3 := hS.2.1.cell 4; have q4 := hS.2.1.cell 5; simp at q2 q3 q4; go_simp; exact zO hK
          refine zS (fun w' hS hV K hK => ?_) ?_
          · obtain ⟨q0, q1⟩ := hS.1.two; have q2 := hS.2.1.cell 3; have q3 := hS.2.1.cell 4; have q4 := hS.2.1.cell 5; simp at q2 q3 q4; go_simp; exact zO hK
          refine zS (fun w' hS hV K hK => ?_) ?_
          · have e1 := zQ hV 1; have e2 := zQ hV 2; obtain ⟨q0, q1⟩ := hS.1.two; have q2 := hS.2.1.cell 3; have q3 := hS.2.1.cell 4; have q4 := hS.2.1.cell 5; simp at q2 q3 q4; go_simp; exact zO hK
          refine zS (fun w' hS hV K hK => ?_) ?_
          · have e3 := zQ hV 3; obtain ⟨q0, q1⟩ := hS.1.two; have q2 := hS.2.1.cell 3; have q3 := hS.2.1.cell 4; have q4 := hS.2.1.cell 5; simp at q2 q3 q4; go_simp; exact zO hK
          refine zS (fun w' hS hV K hK => ?_) ?_
          · have e0 := zQ hV 0; have e4 := zQ hV 4; obtain ⟨q0, q1⟩ := hS.1.two; have q2 := hS.2.1.cell 3; have q3 := hS.2.1.cell 4; have q4 := hS.2.1.cell 5; simp at q2 q3 q4; go_simp; refine (HI1.out w' (HBr.out.trans (hS.2.2.mono HBr.out.size))).mono ?_; rintro e v1 ⟨rfl, hb⟩; exact hK.out _ _ _ rfl rfl rfl hb
          refine zS (fun w' hS hV K hK => ?_) ?_
          · have e5 := zQ hV 5; obtain ⟨q0, q1⟩ := hS.1.two; have q2 := hS.2.1.cell 3; have q3 := hS.2.1.cell 4; have q4 := hS.2.1.cell 5; simp at q2 q3 q4; go_simp; exact zO hK
          refine zS (fun w' hS hV K hK => ?_) ?_
          · have e6 := zQ hV 6; obtain ⟨q0, q1⟩ := hS.1.two; have q2 := hS.2.1.cell 3; have q3 := hS.2.1.cell 4; have q4 := hS.2.1.cell 5; simp at q2 q3 q4; go_simp; exact zO hK
          refine zS (fun w' hS hV K hK => ?_) ?_
          · have e6 := zQ hV 6; obtain ⟨q0, q1⟩ := hS.1.two; have q2 := hS.2.1.cell 3; have q3 := hS.2.1.cell 4; have q4 := hS.2.1.cell 5; simp at q2 q3 q4; go_simp; exact zO hK
          refine zS (fun w' hS hV K hK => ?_) ?_
          · have e7 := zQ hV 7; obtain ⟨q0, q1⟩ := hS.1.two; have q2 := hS.2.1.cell 3; have q3 := hS.2.1.cell 4; have q4 := hS.2.1.cell 5; simp at q2 q3 q4; go_simp; exact zO hK
          refine zS (fun w' hS hV K hK => ?_) ?_
          · have e8 := zQ hV 8; obtain ⟨q0, q1⟩ := hS.1.two; have q2 := hS.2.1.cell 3; have q3 := hS.2.1.cell 4; have q4 := hS.2.1.cell 5; simp at q2 q3 q4; go_simp; exact zO hK
          refine fun w' hS hV => ?_
          have e0 := zT hV 0
          have e1 := zT hV 1
          have e2 := zT hV 2
          have e3 := zT hV 3
          have e4 := zT hV 4
          have e5 := zT hV 5
          have e6 := zT hV 6
          have e7 := zT hV 7
          have e8 := zT hV 8
          have e9 := zT hV 9
          have e10 := zT hV 10
          simp only [e0, e1, e2, e3, e4, e5, e6, e7, e8, e9, e10]
          clear e0 e1 e2 e3 e4 e5 e6 e7 e8 e9 e10
          refine wpAny_done (by kernel_rfl) ?_ _
          obtain ⟨-, -, s9⟩ := hS
          have HB9 := Lib.hid (HBr.out.trans (s9.mono HBr.out.size))
          clear s9 kdr kar
          go_wp2
          go_roundw
          case rel => exact ⟨2, by omega, by go_num, HB9⟩
          case measure => simp [intOf]
        · go_wp2
          refine wp_obs 11 [[],[],[],[1,2],[1,2,3],[0,1,2,3,4],[0,1,2,3,4,5],[0,1,2,3,4,5,6],[0,1,2,3,4,5,6],[0,1,2,3,4,5,6,7],[0,1,2,3,4,5,6,8]] [VIs (.agg #[.int .i64 P, .slice A n c]), VIs (.slice (some ⟨w32.heap.size + 1, 0, none⟩) 4 4), VIs (.int .i64 2), VIs (.pointer (some ⟨w32.heap.size + 1, 6, none⟩)), VIs (.agg #[.slice V1 (pw n) v1, .slice V2 (pw n) v2, .slice V3 (pw n) v3]), VIs (.tuple #[.bool true, .int .i64 0]), VIs (.tuple #[.bool true, .int .i64 0]), VIs (.bool true), VIs (.int .i64 0), VIs (.bool true), VIs (.int .i64 0)] (fun w' => Blk w' w20.heap.size 26 #[.int .i64 P, .slice A n c] ∧ Blk w' (w32.heap.size + 1) 34 #[.slice A1 (pw n) c1, .slice A2 (pw n) c2, .slice A3 (pw n) c3, .slice R1 (pw n) r1, .slice R2 (pw n) r2, .slice R3 (pw n) r3, .slice V1 (pw n) v1, .slice V2 (pw n) v2, .slice V3 (pw n) v3, .slice AG (pw n) cG, .slice AG (pw n) cG, .slice AG (pw n) cG] ∧ Below wr.heap.size wr w') (by kernel_rfl) (by kernel_rfl) (fun _ _ h hb => ⟨h.1.below hb h.1.lt, h.2.1.below hb h.2.1.lt, h.2.2.trans (hb.mono h.2.2.size)⟩) (⟨kdr.drew, kar.drew, zG.drew⟩) (fun x => ?_)
          refine zS (fun w' hS hV K hK => ?_) ?_
          · obtain ⟨q0, q1⟩ := hS.1.two; have q2 := hS.2.1.cell 6; have q3 := hS.2.1.cell 7; have q4 := hS.2.1.cell 8; simp at q2 q3 q4; go_simp; exact zO hK
          refine zS (fun w' hS hV K hK => ?_) ?_
          · obtain ⟨q0, q1⟩ := hS.1.two; have q2 := hS.2.1.cell 6; have q3 := hS.2.1.cell 7; have q4 := hS.2.1.cell 8; simp at q2 q3 q4; go_simp; exact zO hK
          refine zS (fun w' hS hV K hK => ?_) ?_
          · obtain ⟨q0, q1⟩ := hS.1.two; have q2 := hS.2.1.cell 6; have q3 := hS.2.1.cell 7; have q4 := hS.2.1.cell 8; simp at q2 q3 q4; go_simp; exact zO hK
          refine zS (fun w' hS hV K hK => ?_) ?_
          · have e1 := zQ hV 1; have e2 := zQ hV 2; obtain ⟨q0, q1⟩ := hS.1.two; have q2 := hS.2.1.cell 6; have q3 := hS.2.1.cell 7; have q4 := hS.2.1.cell 8; simp at q2 q3 q4; go_simp; exact zO hK
          refine zS (fun w' hS hV K hK => ?_) ?_
          · have e3 := zQ hV 3; obtain ⟨q0, q1⟩ := hS.1.two; have q2 := hS.2.1.cell 6; have q3 := hS.2.1.cell 7; have q4 := hS.2.1.cell 8; simp at q2 q3 q4; go_simp; exact zO hK
          refine zS (fun w' hS hV K hK => ?_) ?_
          · have e0 := zQ hV 0; have e4 := zQ hV 4; obtain ⟨q0, q1⟩ := hS.1.two; have q2 := hS.2.1.cell 6; have q3 := hS.2.1.cell 7; have q4 := hS.2.1.cell 8; simp at q2 q3 q4; go_simp; refine (HI2.out w' (HBr.out.trans (hS.2.2.mono HBr.out.size))).mono ?_; rintro e v1 ⟨rfl, hb⟩; exact hK.out _ _ _ rfl rfl rfl hb
          refine zS (fun w' hS hV K hK => ?_) ?_
          · have e5 := zQ hV 5; obtain ⟨q0, q1⟩ := hS.1.two; have q2 := hS.2.1.cell 6; have q3 := hS.2.1.cell 7; have q4 := hS.2.1.cell 8; simp at q2 q3 q4; go_simp; exact zO hK
          refine zS (fun w' hS hV K hK => ?_) ?_
          · have e6 := zQ hV 6; obtain ⟨q0, q1⟩ := hS.1.two; have q2 := hS.2.1.cell 6; have q3 := hS.2.1.cell 7; have q4 := hS.2.1.cell 8; simp at q2 q3 q4; go_simp; exact zO hK
          refine zS (fun w' hS hV K hK => ?_) ?_
          · have e6 := zQ hV 6; obtain ⟨q0, q1⟩ := hS.1.two; have q2 := hS.2.1.cell 6; have q3 := hS.2.1.cell 7; have q4 := hS.2.1.cell 8; simp at q2 q3 q4; go_simp; exact zO hK
          refine zS (fun w' hS hV K hK => ?_) ?_
          · have e7 := zQ hV 7; obtain ⟨q0, q1⟩ := hS.1.two; have q2 := hS.2.1.cell 6; have q3 := hS.2.1.cell 7; have q4 := hS.2.1.cell 8; simp at q2 q3 q4; go_simp; exact zO hK
          refine zS (fun w' hS hV K hK => ?_) ?_
          · have e8 := zQ hV 8; obtain ⟨q0, q1⟩ := hS.1.two; have q2 := hS.2.1.cell 6; have q3 := hS.2.1.cell 7; have q4 := hS.2.1.cell 8; simp at q2 q3 q4; go_simp; exact zO hK
          refine fun w' hS hV => ?_
          have e0 := zT hV 0
          have e1 := zT hV 1
          have e2 := zT hV 2
          have e3 := zT hV 3
          have e4 := zT hV 4
          have e5 := zT hV 5
          have e6 := zT hV 6
          have e7 := zT hV 7
          have e8 := zT hV 8
          have e9 := zT hV 9
          have e10 := zT hV 10
          simp only [e0, e1, e2, e3, e4, e5, e6, e7, e8, e9, e10]
          clear e0 e1 e2 e3 e4 e5 e6 e7 e8 e9 e10
          refine wpAny_done (by kernel_rfl) ?_ _
          obtain ⟨-, -, s9⟩ := hS
          have HB9 := Lib.hid (HBr.out.trans (s9.mono HBr.out.size))
          clear s9 kdr kar
          go_wp2
          go_roundw
          case rel => exact ⟨3, by omega, by go_num, HB9⟩
          case measure => simp [intOf]
        · go_wp2
          refine wp_obs 11 [[],[],[],[1,2],[1,2,3],[0,1,2,3,4],[0,1,2,3,4,5],[0,1,2,3,4,5,6],[0,1,2,3,4,5,6],[0,1,2,3,4,5,6,7],[0,1,2,3,4,5,6,8]] [VIs (.agg #[.int .i64 P, .slice A n c]), VIs (.slice (some ⟨w32.heap.size + 1, 0, none⟩) 4 4), VIs (.int .i64 3), VIs (.pointer (some ⟨w32.heap.size + 1, 9, none⟩)), VIs (.agg #[.slice AG (pw n) cG, .slice AG (pw n) cG, .slice AG (pw n) cG]), VIs (.tuple #[.bool true, .int .i64 0]), VIs (.tuple #[.bool true, .int .i64 0]), VIs (.bool true), VIs (.int .i64 0), VIs (.bool true), VIs (.int .i64 0)] (fun w' => Blk w' w20.heap.size 26 #[.int .i64 P, .slice A n c] ∧ Blk w' (w32.heap.size + 1) 34 #[.slice A1 (pw n) c1, .slice A2 (pw n) c2, .slice A3 (pw n) c3, .slice R1 (pw n) r1, .slice R2 (pw n) r2, .slice R3 (pw n) r3, .slice V1 (pw n) v1, .slice V2 (pw n) v2, .slice V3 (pw n) v3, .slice AG (pw n) cG, .slice AG (pw n) cG, .slice AG (pw n) cG] ∧ Below wr.heap.size wr w') (by kernel_rfl) (by kernel_rfl) (fun _ _ h hb => ⟨h.1.below hb h.1.lt, h.2.1.below hb h.2.1.lt, h.2.2.trans (hb.mono h.2.2.size)⟩) (⟨kdr.drew, kar.drew, zG.drew⟩) (fun x => ?_)
          refine zS (fun w' hS hV K hK => ?_) ?_
          · obtain ⟨q0, q1⟩ := hS.1.two; have q2 := hS.2.1.cell 9; have q3 := hS.2.1.cell 10; have q4 := hS.2.1.cell 11; simp at q2 q3 q4; go_simp; exact zO hK
          refine zS (fun w' hS hV K hK => ?_) ?_
          · obtain ⟨q0, q1⟩ := hS.1.two; have q2 := hS.2.1.cell 9; have q3 := hS.2.1.cell 10; have q4 := hS.2.1.cell 11; simp at q2 q3 q4; go_simp; exact zO hK
          refine zS (fun w' hS hV K hK => ?_) ?_
          · obtain ⟨q0, q1⟩ := hS.1.two; have q2 := hS.2.1.cell 9; have q3 := hS.2.1.cell 10; have q4 := hS.2.1.cell 11; simp at q2 q3 q4; go_simp; exact zO hK
          refine zS (fun w' hS hV K hK => ?_) ?_
          · have e1 := zQ hV 1; have e2 := zQ hV 2; obtain ⟨q0, q1⟩ := hS.1.two; have q2 := hS.2.1.cell 9; have q3 := hS.2.1.cell 10; have q4 := hS.2.1.cell 11; simp at q2 q3 q4; go_simp; exact zO hK
          refine zS (fun w' hS hV K hK => ?_) ?_
          · have e3 := zQ hV 3; obtain ⟨q0, q1⟩ := hS.1.two; have q2 := hS.2.1.cell 9; have q3 := hS.2.1.cell 10; have q4 := hS.2.1.cell 11; simp at q2 q3 q4; go_simp; exact zO hK
          refine zS (fun w' hS hV K hK => ?_) ?_
          · have e0 := zQ hV 0; have e4 := zQ hV 4; obtain ⟨q0, q1⟩ := hS.1.two; have q2 := hS.2.1.cell 9; have q3 := hS.2.1.cell 10; have q4 := hS.2.1.cell 11; simp at q2 q3 q4; go_simp; refine (HI3.out w' (HBr.out.trans (hS.2.2.mono HBr.out.size))).mono ?_; rintro e v1 ⟨rfl, hb⟩; exact hK.out _ _ _ rfl rfl rfl hb
          refine zS (fun w' hS hV K hK => ?_) ?_
          · have e5 := zQ hV 5; obtain ⟨q0, q1⟩ := hS.1.two; have q2 := hS.2.1.cell 9; have q3 := hS.2.1.cell 10; have q4 := hS.2.1.cell 11; simp at q2 q3 q4; go_simp; exact zO hK
          refine zS (fun w' hS hV K hK => ?_) ?_
          · have e6 := zQ hV 6; obtain ⟨q0, q1⟩ := hS.1.two; have q2 := hS.2.1.cell 9; have q3 := hS.2.1.cell 10; have q4 := hS.2.1.cell 11; simp at q2 q3 q4; go_simp; exact zO hK
          refine zS (fun w' hS hV K hK => ?_) ?_
          · have e6 := zQ hV 6; obtain ⟨q0, q1⟩ := hS.1.two; have q2 := hS.2.1.cell 9; have q3 := hS.2.1.cell 10; have q4 := hS.2.1.cell 11; simp at q2 q3 q4; go_simp; exact zO hK
          refine zS (fun w' hS hV K hK => ?_) ?_
          · have e7 := zQ hV 7; obtain ⟨q0, q1⟩ := hS.1.two; have q2 := hS.2.1.cell 9; have q3 := hS.2.1.cell 10; have q4 := hS.2.1.cell 11; simp at q2 q3 q4; go_simp; exact zO hK
          refine zS (fun w' hS hV K hK => ?_) ?_
          · have e8 := zQ hV 8; obtain ⟨q0, q1⟩ := hS.1.two; have q2 := hS.2.1.cell 9; have q3 := hS.2.1.cell 10; have q4 := hS.2.1.cell 11; simp at q2 q3 q4; go_simp; exact zO hK
          refine fun w' hS hV => ?_
          have e0 := zT hV 0
          have e1 := zT hV 1
          have e2 := zT hV 2
          have e3 := zT hV 3
          have e4 := zT hV 4
          have e5 := zT hV 5
          have e6 := zT hV 6
          have e7 := zT hV 7
          have e8 := zT hV 8
          have e9 := zT hV 9
          have e10 := zT hV 10
          simp only [e0, e1, e2, e3, e4, e5, e6, e7, e8, e9, e10]
          clear e0 e1 e2 e3 e4 e5 e6 e7 e8 e9 e10
          refine wpAny_done (by kernel_rfl) ?_ _
          obtain ⟨-, -, s9⟩ := hS
          have HB9 := Lib.hid (HBr.out.trans (s9.mono HBr.out.size))
          clear s9 kdr kar
          go_wp2
          go_roundw
          case rel => exact ⟨4, by omega, by go_num, HB9⟩
          case measure => simp [intOf]
        · have ktr := HKT.out.below HBr.out HKT.out.lt
          have kur := HKU.out.below HBr.out HKU.out.lt
          have q2 := ktr.cell 0
          have q3 := ktr.cell 1
          have q4 := ktr.cell 2
          have q5 := kur.cell 0
          have q6 := kur.cell 1
          have q7 := kur.cell 2
          simp at q2 q3 q4 q5 q6 q7
          have h9 := H9.out wr HBr.out
          clear kdr kar
          go_wp2_with fail
          refine h9.mono ?_
          rintro e w40 ⟨rfl, hb40⟩
          have hfin := HW34.out.trans (HBr.out.mono HW34.out.size)
          go_wp2
          go_ret
          exact ⟨rfl, hfin.trans (hb40.mono hfin.size)⟩
     · replace hp1 := hp1.mono fun e w' h => h.bad hz0
       have HP2 := Lib.hid fun w' (h : Below w21.heap.size w21 w') => (hp2 w' h).mono fun e w' h => h.bad hz0
       obtain ⟨z, hz⟩ : ∃ z, z = pureCode P st xs := ⟨_, rfl⟩
       rw [← hz] at hp1 HP2 hz0
       have ez : (z == 0) = false := by simpa using hz0
       have ez2 : (z != z) = false := by simp
       clear hp2 hz hrs hrx hsl
       go_wp2_with fail
       rw [← hw21]
       clear hw21
       refine hp1.mono ?_
       rintro e w22 ⟨rfl, hb22⟩
       have hA : Below w22.heap.size w22 (w22.alloc (.cells #[.slice none 0 0, .slice none 0 0, .slice none 0 0] 34)) := zG.alloc (Nat.le_refl _) _
       have kt : Blk (w22.alloc (.cells #[.slice none 0 0, .slice none 0 0, .slice none 0 0] 34)) w22.heap.size 34 #[.slice none 0 0, .slice none 0 0, .slice none 0 0] := Blk.new _ _ _
       have kd2 := (kd.below hb22 kd.lt).alloc (.cells #[.slice none 0 0, .slice none 0 0, .slice none 0 0] 34)
       have hY := hb22.trans (hA.mono hb22.size)
       clear q0 q1
       obtain ⟨q0, q1⟩ := kd2.two
       obtain ⟨w23, hw23⟩ : ∃ W, W = (w22.alloc (.cells #[.slice none 0 0, .slice none 0 0, .slice none 0 0] 34)) := ⟨_, rfl⟩
       rw [← hw23] at kt kd2 hY
       have hp2 := HP2.out w23 hY
       clear hp1 HP2 kd hb22 hA
       go_wp2_with fail
       rw [← hw23]
       clear hw23
       refine hp2.mono ?_
       rintro e w24 ⟨rfl, hb24⟩
       have hA : Below w24.heap.size w24 (w24.alloc (.cells #[.slice none 0 0, .slice none 0 0, .slice none 0 0] 34)) := zG.alloc (Nat.le_refl _) _
       have ku : Blk (w24.alloc (.cells #[.slice none 0 0, .slice none 0 0, .slice none 0 0] 34)) w24.heap.size 34 #[.slice none 0 0, .slice none 0 0, .slice none 0 0] := Blk.new _ _ _
       have kt2 := (kt.below hb24 kt.lt).alloc (.cells #[.slice none 0 0, .slice none 0 0, .slice none 0 0] 34)
       have hY25 := (hY.trans (hb24.mono hY.size)).trans (hA.mono (hY.trans (hb24.mono hY.size)).size)
       have q2 := kt2.cell 0
       have q3 := kt2.cell 1
       have q4 := kt2.cell 2
       have q5 := ku.cell 0
       have q6 := ku.cell 1
       have q7 := ku.cell 2
       simp only [zA, zC, zB] at q2 q3 q4 q5 q6 q7
       obtain ⟨w25, hw25⟩ : ∃ W, W = (w24.alloc (.cells #[.slice none 0 0, .slice none 0 0, .slice none 0 0] 34)) := ⟨_, rfl⟩
       rw [← hw25] at ku kt2 hY25
       have h9 := triple9_ok 0 none none none none none none 0 0 0 0 0 0 [] [] [] w25 (by omega) 2 (fun x hx => by cases hx) (fun x hx => by cases hx) (fun x hx => by cases hx) (RdII.nil _ _) (RdII.nil _ _) (RdII.nil _ _) (RdII.nil _ _) (RdII.nil _ _) (RdII.nil _ _)
       clear hp2 kt kd2 hb24 hA q0 q1 hY
       go_wp2_with fail
       rw [← hw25]
       clear hw25
       refine h9.mono ?_
       rintro e w26 ⟨rfl, hb26⟩
       have kt3 := kt2.below hb26 kt2.lt
       clear h9 q2 q3 q4 q5 q6 q7 kt2 ku
       have q2 := kt3.cell 0
       simp at q2
       have hf := hX21.trans (hY25.mono hX21.size)
       go_wp2
       go_ret
       exact ⟨rfl, hf.trans (hb26.mono hf.size)⟩
   · have hzcb : (zc == 0) = false := by simpa using hzc
     obtain rfl : nv = 0 := ldim_bad HDZ.out hzc
     have hdr := DrawPureTriple_any B nb cb bs w7 (by omega) (HRB.out.below hX7) HBS.out (fun a e => Nat.lt_of_lt_of_le (HBG.out a e) hX7.size)
     go_wp2_with fail
     clear q0 q1
     refine hdr.mono ?_
     rintro e w20 ⟨P, A, n, c, st, X, m, cx, xs, rfl, hP, hn, hm, ho, hx, hb20⟩
     have hA : Below w20.heap.size w20 (w20.alloc (.cells #[.int .i64 P, .slice A n c] 26)) := zG.alloc (Nat.le_refl _) _
     have kd : Blk (w20.alloc (.cells #[.int .i64 P, .slice A n c] 26)) w20.heap.size 26 #[.int .i64 P, .slice A n c] := Blk.new _ _ _
     have hX20 := hX7.trans (hb20.mono hX7.size)
     have hX21 := hX20.trans (hA.mono hX20.size)
     have hcn := ho.cap
     have hcx := hx.1
     have hrs := (ho.below hA).rd
     have hrx := (hx.below hA).rd
     obtain ⟨w21, hw21⟩ : ∃ W, W = (w20.alloc (.cells #[.int .i64 P, .slice A n c] 26)) := ⟨_, rfl⟩
     rw [← hw21] at kd hX21 hrs hrx
     have hp1 := PureTriple_any P A n c st X m cx xs w21 (by omega) hcn (by omega) hcx hrs hrx
     have hp2 := fun w' (h : Below w21.heap.size w21 w') => specPureTriple_any P A n c st X m cx xs w' (by omega) hcn (by omega) hcx (hrs.below h) (hrx.below h)
     have hsl : st.length = n := hrs.lenI
     obtain ⟨q0, q1⟩ := kd.two
     clear hdr ho hx hb20 hX20 hA hX7
     by_cases hz0 : pureCode P st xs = 0
     · obtain ⟨hcd, hx0⟩ := pureCode_zero hz0
       obtain ⟨hdb, hk3, hel, -⟩ := codeT_zero hcd
       obtain ⟨hxl, hnm⟩ := hel xs (by simp)
       obtain ⟨HP, -, -⟩ := isDb_facts hdb
       obtain ⟨hp3, hp13⟩ := isP_ge HP
       rw [hsl] at hk3 hxl
       have hml : xs.length = m := hrx.lenI
       obtain rfl : m = pw n := by omega
       have hpk : pw n ≤ 8 := pw_le hk3
       have hpos := pw_pos n
       replace hp1 := hp1.mono fun e w' h => h.good hz0 hsl
       have HP2 := Lib.hid fun w' (h : Below w21.heap.size w21 w') => (hp2 w' h).mono fun e w' h => h.good hz0 hsl
       have HLo : Hid (Loc P st n (ent (leftDL P n st xs)) (ent (rightDL P n st xs)) (ent (pureC P n st xs))) := Lib.hid (Loc.pure hk3 st (gV xs) hx0 (fun r i hr hi => leftDL_ent (by omega) st hxl hr hi) (fun r i hr hi => rightDL_ent (by omega) st hxl hr hi) (fun r i hr hi => pureC_ent (by omega) st hxl hr hi))
       have HT1 := Lib.hid (leftDL_tab (p := P) (by omega) n st xs)
       have HT2 := Lib.hid (rightDL_tab (p := P) (by omega) n st xs)
       have HT3 := Lib.hid (pureC_tab (p := P) (by omega) n st xs)
       obtain ⟨M1, hM1⟩ : ∃ z, z = leftDL P n st xs := ⟨_, rfl⟩
       obtain ⟨M2, hM2⟩ : ∃ z, z = rightDL P n st xs := ⟨_, rfl⟩
       obtain ⟨M3, hM3⟩ : ∃ z, z = pureC P n st xs := ⟨_, rfl⟩
       rw [← hM1, ← hM2, ← hM3] at hp1 HP2 HLo
       rw [← hM1] at HT1
       rw [← hM2] at HT2
       rw [← hM3] at HT3
       have HDB := Lib.hid hdb
       have HXL := Lib.hid (And.intro hxl hnm)
       have HSL := Lib.hid hsl
       clear hM1 hM2 hM3 hp2 hz0 hcd hx0 hdb hel hxl hnm HP hml hsl
       go_wp2_with fail
       rw [← hw21]
       clear hw21
       refine hp1.mono ?_
       rintro e w22 ⟨A1, c1, A2, c2, A3, c3, rfl, hT⟩
       obtain ⟨ho1, ho2, ho3, hb22⟩ := hT
       have hA : Below w22.heap.size w22 (w22.alloc (.cells #[.slice A1 (pw n) c1, .slice A2 (pw n) c2, .slice A3 (pw n) c3] 34)) := zG.alloc (Nat.le_refl _) _
       have kt : Blk (w22.alloc (.cells #[.slice A1 (pw n) c1, .slice A2 (pw n) c2, .slice A3 (pw n) c3] 34)) w22.heap.size 34 #[.slice A1 (pw n) c1, .slice A2 (pw n) c2, .slice A3 (pw n) c3] := Blk.new _ _ _
       have kd2 := (kd.below hb22 kd.lt).alloc (.cells #[.slice A1 (pw n) c1, .slice A2 (pw n) c2, .slice A3 (pw n) c3] 34)
       have hY := hb22.trans (hA.mono hb22.size)
       have hr1 := ho1.rd.below hA
       have hr2 := ho2.rd.below hA
       have hr3 := ho3.rd.below hA
       have hq1 := ho1.cap
       have hq2 := ho2.cap
       have hq3 := ho3.cap
       clear q0 q1
       obtain ⟨q0, q1⟩ := kd2.two
       obtain ⟨w23, hw23⟩ : ∃ W, W = (w22.alloc (.cells #[.slice A1 (pw n) c1, .slice A2 (pw n) c2, .slice A3 (pw n) c3] 34)) := ⟨_, rfl⟩
       rw [← hw23] at kt kd2 hY hr1 hr2 hr3
       have hp2 := HP2.out w23 hY
       clear hp1 HP2 kd hb22 hA ho1 ho2 ho3
       go_wp2_with fail
       rw [← hw23]
       clear hw23
       refine hp2.mono ?_
       rintro e w24 ⟨B1, d1, B2, d2, B3, d3, rfl, hT⟩
       obtain ⟨ho1, ho2, ho3, hb24⟩ := hT
       have hA : Below w24.heap.size w24 (w24.alloc (.cells #[.slice B1 (pw n) d1, .slice B2 (pw n) d2, .slice B3 (pw n) d3] 34)) := zG.alloc (Nat.le_refl _) _
       have ku : Blk (w24.alloc (.cells #[.slice B1 (pw n) d1, .slice B2 (pw n) d2, .slice B3 (pw n) d3] 34)) w24.heap.size 34 #[.slice B1 (pw n) d1, .slice B2 (pw n) d2, .slice B3 (pw n) d3] := Blk.new _ _ _
       have kt2 := (kt.below hb24 kt.lt).alloc (.cells #[.slice B1 (pw n) d1, .slice B2 (pw n) d2, .slice B3 (pw n) d3] 34)
       have kd3 := (kd2.below hb24 kd2.lt).alloc (.cells #[.slice B1 (pw n) d1, .slice B2 (pw n) d2, .slice B3 (pw n) d3] 34)
       have hb25 := hb24.trans (hA.mono hb24.size)
       have hY25 := hY.trans (hb25.mono hY.size)
       have hs1 := ho1.rd.below hA
       have hs2 := ho2.rd.below hA
       have hs3 := ho3.rd.below hA
       have q2 := kt2.cell 0
       have q3 := kt2.cell 1
       have q4 := kt2.cell 2
       have q5 := ku.cell 0
       have q6 := ku.cell 1
       have q7 := ku.cell 2
       simp only [zA, zC, zB] at q2 q3 q4 q5 q6 q7
       obtain ⟨w25, hw25⟩ : ∃ W, W = (w24.alloc (.cells #[.slice B1 (pw n) d1, .slice B2 (pw n) d2, .slice B3 (pw n) d3] 34)) := ⟨_, rfl⟩
       rw [← hw25] at ku kt2 kd3 hb25 hY25 hs1 hs2 hs3
       have h9 := triple9_ok (pw n) A1 A2 A3 B1 B2 B3 c1 c2 c3 d1 d2 d3 M1 M2 M3 w25 hpk P HT1.out.1 HT2.out.1 HT3.out.1 (hr1.below hb25) (hr2.below hb25) (hr3.below hb25) hs1 hs2 hs3
       replace hr1 := hr1.below hb25
       replace hr2 := hr2.below hb25
       replace hr3 := hr3.below hb25
       replace hrs := hrs.below hY25
       replace hrx := hrx.below hY25
       have hW25 := hX21.trans (hY25.mono hX21.size)
       clear hp2 kt kd2 hb24 hA q0 q1 ho1 ho2 ho3 hs1 hs2 hs3 hY hb25 hY25 hX21
       go_wp2_with fail
       rw [← hw25]
       clear hw25
       refine h9.mono ?_
       rintro e w26 ⟨rfl, hb26⟩
       have hW26 := hW25.trans (hb26.mono hW25.size)
       have hro := roll_any B nb cb bs 3021 w26 (by omega) (HRB.out.below hW26) HBS.out (fun a e => Nat.lt_of_lt_of_le (HBG.out a e) hW26.size)
       have kd4 := kd3.below hb26 kd3.lt
       have kt4 := kt2.below hb26 kt2.lt
       have R1_ := Lib.hid (hr1.below hb26)
       have R2_ := Lib.hid (hr2.below hb26)
       have R3_ := Lib.hid (hr3.below hb26)
       have RS_ := Lib.hid (hrs.below hb26)
       have RX_ := Lib.hid (hrx.below hb26)
       have HW26 := Lib.hid hW26
       clear h9 q2 q3 q4 q5 q6 q7 ku kt2 kd3 hb26 hW25 hW26 hr1 hr2 hr3 hrs hrx
       go_wp2_with fail
       refine hro.mono ?_
       rintro e w27 ⟨g, rfl, hg, hs27, hb27⟩
       have hel := element9_any g P A n c w27 hs27 (by omega) (by omega) (by omega)
       have kd5 := kd4.below hb27 kd4.lt
       obtain ⟨q0, q1⟩ := kd5.two
       clear hro hs27
       go_wp2_with fail
       refine hel.mono ?_
       rintro e w28 ⟨Y, cy, ys, rfl, hyn, hoY, hd28⟩
       have HB28 := Lib.hid (hd28.down hb27 hg)
       have kd6 := kd4.below HB28.out kd4.lt
       have hyl : ys.length = pw n := hoY.rd.lenI
       have hcd2 : codeT P st [xs, ys] [] = 0 := codeT_mk HDB.out (by rw [HSL.out]; exact hk3) (fun zs hz => by
        simp at hz
        rw [HSL.out]
        rcases hz with rfl | rfl
        · exact HXL.out
        · exact ⟨hyl, hyn⟩) (fun M hM => absurd hM (by simp))
       have hin := InnerDerivation_any P A n c st X (pw n) cx xs Y (pw n) cy ys w28 (by omega) hcn (by omega) hcx (by omega) hoY.cap (RS_.out.below HB28.out) (RX_.out.below HB28.out) hoY.rd
       have hind : indR P st xs ys = (innM P n st xs ys, 0) := by unfold indR; rw [if_pos hcd2, HSL.out]
       rw [hind, innM_len (by omega)] at hin
       have HTG := Lib.hid (And.intro (innM_tab (p := P) (by omega) n st xs ys) (innM_len (p := P) (by omega) n st xs ys))
       have HLG : Hid (Loc P st n (ent (innM P n st xs ys)) (ent (innM P n st xs ys)) (ent (innM P n st xs ys))) := Lib.hid (Loc.der hk3 st (gV xs) (gV ys) (fun r i hr hi => innM_ent (by omega) st HXL.out.1 hyl hr hi))
       obtain ⟨G, hG⟩ : ∃ z, z = innM P n st xs ys := ⟨_, rfl⟩
       rw [← hG] at hin HTG HLG
       simp only at hin
       obtain ⟨q2, q3⟩ := kd6.two
       clear hel kd5 q0 q1 hd28 hb27 hg hyn hoY hyl hcd2 hind hG
       go_wp2_with fail
       refine hin.mono ?_
       rintro e w29 ⟨AG, cG, rfl, hMG⟩
       have HB29 := Lib.hid (HB28.out.trans (hMG.b.mono HB28.out.size))
       have RG := Lib.hid hMG.rd
       have hqG : (pw n) ≤ cG := by obtain ⟨us, hm⟩ := hMG.outer; exact hm.2.cap
       have hrot := RotateTriple_ok P A n c st (pw n) A2 c2 M2 A3 c3 M3 A1 c1 M1 w29 HDB.out hk3 rfl hcn (RS_.out.below HB29.out) (R2_.out.below HB29.out) HT2.out.1 hq2 (R3_.out.below HB29.out) HT3.out.1 hq3 (R1_.out.below HB29.out) HT1.out.1 hq1
       have kd7 := kd4.below HB29.out kd4.lt
       have kt7 := kt4.below HB29.out kt4.lt
       clear q2 q3 hin hMG kd6
       obtain ⟨q0, q1⟩ := kd7.two
       have q2 := kt7.cell 0
       have q3 := kt7.cell 1
       have q4 := kt7.cell 2
       simp at q2 q3 q4
       go_wp2_with fail
       refine hrot.mono ?_
       rintro e w30 ⟨R1, r1, R2, r2, R3, r3, rfl, hT⟩
       obtain ⟨ho1, ho2, ho3, hb30⟩ := hT
       have hA : Below w30.heap.size w30 (w30.alloc (.cells #[.slice R1 (pw n) r1, .slice R2 (pw n) r2, .slice R3 (pw n) r3] 34)) := zG.alloc (Nat.le_refl _) _
       have ku : Blk (w30.alloc (.cells #[.slice R1 (pw n) r1, .slice R2 (pw n) r2, .slice R3 (pw n) r3] 34)) w30.heap.size 34 #[.slice R1 (pw n) r1, .slice R2 (pw n) r2, .slice R3 (pw n) r3] := Blk.new _ _ _
       have h31 := hb30.trans (hA.mono hb30.size)
       have hB31 := HB29.out.trans (h31.mono HB29.out.size)
       have S1 := ho1.rd.below hA
       have S2 := ho2.rd.below hA
       have S3 := ho3.rd.below hA
       have u1 := ho1.cap
       have u2 := ho2.cap
       have u3 := ho3.cap
       have RG31 := RG.out.below h31
       have kd8 := kd4.below hB31 kd4.lt
       have kt8 := kt4.below hB31 kt4.lt
       clear q0 q1 q2 q3 q4
       obtain ⟨q0, q1⟩ := kd8.two
       have q2 := kt8.cell 0
       have q3 := kt8.cell 1
       have q4 := kt8.cell 2
       simp only [zA, zC, zB] at q2 q3 q4
       obtain ⟨w31, hw31⟩ : ∃ W, W = (w30.alloc (.cells #[.slice R1 (pw n) r1, .slice R2 (pw n) r2, .slice R3 (pw n) r3] 34)) := ⟨_, rfl⟩
       rw [← hw31] at ku h31 hB31 S1 S2 S3 RG31 kd8 kt8
       have hbr := BracketTriple_ok P A n c st (pw n) A1 c1 M1 A2 c2 M2 A3 c3 M3 AG cG G AG cG G AG cG G w31 HDB.out hk3 rfl hcn (RS_.out.below hB31) (R1_.out.below hB31) HT1.out.1 hq1 (R2_.out.below hB31) HT2.out.1 hq2 (R3_.out.below hB31) HT3.out.1 hq3 RG31 HTG.out.1 hqG RG31 HTG.out.1 hqG RG31 HTG.out.1 hqG
       have HB31 := Lib.hid hB31
       clear hrot hb30 hA ho1 ho2 ho3 kd7 kt7 hB31 h31
       have HS1 := Lib.hid S1
       have HS2 := Lib.hid S2
       have HS3 := Lib.hid S3
       have HRG31 := Lib.hid RG31
       clear S1 S2 S3 RG31 RG
       go_wp2_with fail
       rw [← hw31]
       clear hw31
       refine hbr.mono ?_
       rintro e w32 ⟨V1, v1, V2, v2, V3, v3, rfl, hT⟩
       obtain ⟨ho1, ho2, ho3, hb32⟩ := hT
       have hA : Below w32.heap.size w32 (w32.alloc (.cells #[.slice V1 (pw n) v1, .slice V2 (pw n) v2, .slice V3 (pw n) v3] 34)) := zG.alloc (Nat.le_refl _) _
       have kv : Blk (w32.alloc (.cells #[.slice V1 (pw n) v1, .slice V2 (pw n) v2, .slice V3 (pw n) v3] 34)) w32.heap.size 34 #[.slice V1 (pw n) v1, .slice V2 (pw n) v2, .slice V3 (pw n) v3] := Blk.new _ _ _
       have h33 := hb32.trans (hA.mono hb32.size)
       have hv1 := ho1.rd.below hA
       have hv2 := ho2.rd.below hA
       have hv3 := ho3.rd.below hA
       have x1 := ho1.cap
       have x2 := ho2.cap
       have x3 := ho3.cap
       obtain ⟨w33, hw33⟩ : ∃ W, W = (w32.alloc (.cells #[.slice V1 (pw n) v1, .slice V2 (pw n) v2, .slice V3 (pw n) v3] 34)) := ⟨_, rfl⟩
       rw [← hw33] at kv h33 hv1 hv2 hv3
       have ku9 := ku.below h33 ku.lt
       have hB33 := HB31.out.trans (h33.mono HB31.out.size)
       have kd9 := kd4.below hB33 kd4.lt
       have kt9 := kt4.below hB33 kt4.lt
       have hA2 : Below w33.heap.size w33 (w33.alloc (.cells #[.slice A1 (pw n) c1, .slice A2 (pw n) c2, .slice A3 (pw n) c3, .slice R1 (pw n) r1, .slice R2 (pw n) r2, .slice R3 (pw n) r3, .slice V1 (pw n) v1, .slice V2 (pw n) v2, .slice V3 (pw n) v3, .slice AG (pw n) cG, .slice AG (pw n) cG, .slice AG (pw n) cG] 34)) := zG.alloc (Nat.le_refl _) _
       have ka : Blk (w33.alloc (.cells #[.slice A1 (pw n) c1, .slice A2 (pw n) c2, .slice A3 (pw n) c3, .slice R1 (pw n) r1, .slice R2 (pw n) r2, .slice R3 (pw n) r3, .slice V1 (pw n) v1, .slice V2 (pw n) v2, .slice V3 (pw n) v3, .slice AG (pw n) cG, .slice AG (pw n) cG, .slice AG (pw n) cG] 34)) w33.heap.size 34 #[.slice A1 (pw n) c1, .slice A2 (pw n) c2, .slice A3 (pw n) c3, .slice R1 (pw n) r1, .slice R2 (pw n) r2, .slice R3 (pw n) r3, .slice V1 (pw n) v1, .slice V2 (pw n) v2, .slice V3 (pw n) v3, .slice AG (pw n) cG, .slice AG (pw n) cG, .slice AG (pw n) cG] := Blk.new _ _ _
       have hB34 := hB33.trans (hA2.mono hB33.size)
       have h34 := h33.trans (hA2.mono h33.size)
       obtain ⟨w34, hw34⟩ : ∃ W, W = (w33.alloc (.cells #[.slice A1 (pw n) c1, .slice A2 (pw n) c2, .slice A3 (pw n) c3, .slice R1 (pw n) r1, .slice R2 (pw n) r2, .slice R3 (pw n) r3, .slice V1 (pw n) v1, .slice V2 (pw n) v2, .slice V3 (pw n) v3, .slice AG (pw n) cG, .slice AG (pw n) cG, .slice AG (pw n) cG] 34)) := ⟨_, rfl⟩
       rw [← hw34] at ka hB34 h34 hA2
       have hsz33 : w33.heap.size = w32.heap.size + 1 := by rw [hw33]; simp
       rw [hsz33] at ka
       clear hsz33
       have HKD := Lib.hid (kd9.below hA2 kd9.lt)
       have HKA := Lib.hid ka
       have HKT := Lib.hid (kt9.below hA2 kt9.lt)
       have HKU := Lib.hid (ku9.below hA2 ku9.lt)
       have RS4 := Lib.hid (RS_.out.below hB34)
       have Q1 := Lib.hid (R1_.out.below hB34)
       have Q2 := Lib.hid (R2_.out.below hB34)
       have Q3 := Lib.hid (R3_.out.below hB34)
       have QG := Lib.hid (HRG31.out.below h34)
       have QU1 := Lib.hid (HS1.out.below h34)
       have QU2 := Lib.hid (HS2.out.below h34)
       have QU3 := Lib.hid (HS3.out.below h34)
       have QV1 := Lib.hid (hv1.below hA2)
       have QV2 := Lib.hid (hv2.below hA2)
       have QV3 := Lib.hid (hv3.below hA2)
       have hp0 : 0 < P := by omega
       have tv1 := brMx_tab (M := M1) hp0 hpos HTG.out.1 HT1.out.2 HTG.out.2
       have tv2 := brMx_tab (M := M2) hp0 hpos HTG.out.1 HT2.out.2 HTG.out.2
       have tv3 := brMx_tab (M := M3) hp0 hpos HTG.out.1 HT3.out.2 HTG.out.2
       have HI0 := Lib.hid fun w' (h : Below w34.heap.size w34 w') => IsLocalTriple_ok P A n c st (pw n) A1 c1 M1 A2 c2 M2 A3 c3 M3 w' HDB.out hk3 rfl hcn (RS4.out.below h) (Q1.out.below h) HT1.out.1 hq1 (Q2.out.below h) HT2.out.1 hq2 (Q3.out.below h) HT3.out.1 hq3 (loc_rows hp0 HT1.out.1 HT2.out.1 HT3.out.1 HT1.out.2 HT2.out.2 HT3.out.2 HLo.out)
       have HI1 := Lib.hid fun w' (h : Below w34.heap.size w34 w') => IsLocalTriple_ok P A n c st (pw n) R1 r1 M3 R2 r2 M1 R3 r3 M2 w' HDB.out hk3 rfl hcn (RS4.out.below h) (QU1.out.below h) HT3.out.1 u1 (QU2.out.below h) HT1.out.1 u2 (QU3.out.below h) HT2.out.1 u3 (loc_rows hp0 HT3.out.1 HT1.out.1 HT2.out.1 HT3.out.2 HT1.out.2 HT2.out.2 (HLo.out.rot hk3))
       have HI2 := Lib.hid fun w' (h : Below w34.heap.size w34 w') => IsLocalTriple_ok P A n c st (pw n) V1 v1 (brMx P M1 G) V2 v2 (brMx P M2 G) V3 v3 (brMx P M3 G) w' HDB.out hk3 rfl hcn (RS4.out.below h) (QV1.out.below h) tv1 x1 (QV2.out.below h) tv2 x2 (QV3.out.below h) tv3 x3 (loc_rows hp0 tv1 tv2 tv3 ((brMx_len _ _).trans HT1.out.2) ((brMx_len _ _).trans HT2.out.2) ((brMx_len _ _).trans HT3.out.2) (HLo.out.bracket HLG.out (fun a b ha hb => brMx_ent hp0 hpos HT1.out.1 HTG.out.1 HT1.out.2 HTG.out.2 ha hb) (fun a b ha hb => brMx_ent hp0 hpos HT2.out.1 HTG.out.1 HT2.out.2 HTG.out.2 ha hb) (fun a b ha hb => brMx_ent hp0 hpos HT3.out.1 HTG.out.1 HT3.out.2 HTG.out.2 ha hb)))
       have HI3 := Lib.hid fun w' (h : Below w34.heap.size w34 w') => IsLocalTriple_ok P A n c st (pw n) AG cG G AG cG G AG cG G w' HDB.out hk3 rfl hcn (RS4.out.below h) (QG.out.below h) HTG.out.1 hqG (QG.out.below h) HTG.out.1 hqG (QG.out.below h) HTG.out.1 hqG (loc_rows hp0 HTG.out.1 HTG.out.1 HTG.out.1 HTG.out.2 HTG.out.2 HTG.out.2 HLG.out)
       have H9 := Lib.hid fun w' (h : Below w34.heap.size w34 w') => triple9_ok (pw n) R1 R2 R3 A3 A1 A2 r1 r2 r3 c3 c1 c2 M3 M1 M2 w' hpk P HT3.out.1 HT1.out.1 HT2.out.1 (QU1.out.below h) (QU2.out.below h) (QU3.out.below h) (Q3.out.below h) (Q1.out.below h) (Q2.out.below h)
       have HW34 := Lib.hid (HW26.out.trans (hB34.mono HW26.out.size))
       clear hbr q0 q1 q2 q3 q4 hb32 hA ho1 ho2 ho3 hv1 hv2 hv3 tv1 tv2 tv3 hB33 hB34 h33 h34 hA2 ka
       have p2 := kt9.cell 0
       have p3 := kt9.cell 1
       have p4 := kt9.cell 2
       have p5 := ku9.cell 0
       have p6 := ku9.cell 1
       have p7 := ku9.cell 2
       have p8 := kv.cell 0
       have p9 := kv.cell 1
       have p10 := kv.cell 2
       simp at p2 p3 p4 p5 p6 p7 p8 p9 p10
       clear kd4 kd8 kt4 kt8 ku HDB HXL HSL HLo HT1 HT2 HT3 HTG HLG R1_ R2_ R3_ RS_ RX_ HB28 HB29 HB31 HS1 HS2 HS3 HRG31 Q1 Q2 Q3 QG QU1 QU2 QU3 QV1 QV2 QV3 RS4 HW26
       rw [hw33] at p2 p3 p4 p5 p6 p7 p8 p9 p10
       go_wp2
       rw [← hw33, ← hw34]
       clear hw34 p2 p3 p4 p5 p6 p7 p8 p9 p10 kt9 ku9 kv kd9
       go_loopw [24] (fun i wr => ∃ j : Nat, j ≤ 4 ∧ i = .int .i64 j ∧ Hid (Below w34.heap.size w34 wr)) (fun i _ => 4 - (intOf i).toNat)
       case atStart => exact ⟨0, by omega, rfl, Lib.hid zG⟩
       case round =>
        obtain ⟨j, hj, rfl, HBr⟩ := hrel
        have kdr := HKD.out.below HBr.out HKD.out.lt
        have kar := HKA.out.below HBr.out HKA.out.lt
        rcases (show j = 0 ∨ j = 1 ∨ j = 2 ∨ j = 3 ∨ j = 4 by omega) with rfl | rfl | rfl | rfl | rfl
        · go_wp2
          refine wp_obs 11 [[],[],[],[1,2],[1,2,3],[0,1,2,3,4],[0,1,2,3,4,5],[0,1,2,3,4,5,6],[0,1,2,3,4,5,6],[0,1,2,3,4,5,6,7],[0,1,2,3,4,5,6,8]] [VIs (.agg #[.int .i64 P, .slice A n c]), VIs (.slice (some ⟨w32.heap.size + 1, 0, none⟩) 4 4), VIs (.int .i64 0), VIs (.pointer (some ⟨w32.heap.size + 1, 0, none⟩)), VIs (.agg #[.slice A1 (pw n) c1, .slice A2 (pw n) c2, .slice A3 (pw n) c3]), VIs (.tuple #[.bool true, .int .i64 0]), VIs (.tuple #[.bool true, .int .i64 0]), VIs (.bool true), VIs (.int .i64 0), VIs (.bool true), VIs (.int .i64 0)] (fun w' => Blk w' w20.heap.size 26 #[.int .i64 P, .slice A n c] ∧ Blk w' (w32.heap.size + 1) 34 #[.slice A1 (pw n) c1, .slice A2 (pw n) c2, .slice A3 (pw n) c3, .slice R1 (pw n) r1, .slice R2 (pw n) r2, .slice R3 (pw n) r3, .slice V1 (pw n) v1, .slice V2 (pw n) v2, .slice V3 (pw n) v3, .slice AG (pw n) cG, .slice AG (pw n) cG, .slice AG (pw n) cG] ∧ Below wr.heap.size wr w') (by kernel_rfl) (by kernel_rfl) (fun _ _ h hb => ⟨h.1.below hb h.1.lt, h.2.1.below hb h.2.1.lt, h.2.2.trans (hb.mono h.2.2.size)⟩) (⟨kdr.drew, kar.drew, zG.drew⟩) (fun x => ?_)
          refine zS (fun w' hS hV K hK => ?_) ?_
          · obtain ⟨q0, q1⟩ := hS.1.two; have q2 := hS.2.1.cell 0; have q3 := hS.2.1.cell 1; have q4 := hS.2.1.cell 2; simp at q2 q3 q4; go_simp; exact zO hK
          refine zS (fun w' hS hV K hK => ?_) ?_
          · obtain ⟨q0, q1⟩ := hS.1.two; have q2 := hS.2.1.cell 0; have q3 := hS.2.1.cell 1; have q4 := hS.2.1.cell 2; simp at q2 q3 q4; go_simp; exact zO hK
          refine zS (fun w' hS hV K hK => ?_) ?_
          · obtain ⟨q0, q1⟩ := hS.1.two; have q2 := hS.2.1.cell 0; have q3 := hS.2.1.cell 1; have q4 := hS.2.1.cell 2; simp at q2 q3 q4; go_simp; exact zO hK
          refine zS (fun w' hS hV K hK => ?_) ?_
          · have e1 := zQ hV 1; have e2 := zQ hV 2; obtain ⟨q0, q1⟩ := hS.1.two; have q2 := hS.2.1.cell 0; have q3 := hS.2.1.cell 1; have q4 := hS.2.1.cell 2; simp at q2 q3 q4; go_simp; exact zO hK
          refine zS (fun w' hS hV K hK => ?_) ?_
          · have e3 := zQ hV 3; obtain ⟨q0, q1⟩ := hS.1.two; have q2 := hS.2.1.cell 0; have q3 := hS.2.1.cell 1; have q4 := hS.2.1.cell 2; simp at q2 q3 q4; go_simp; exact zO hK
          refine zS (fun w' hS hV K hK => ?_) ?_
          · have e0 := zQ hV 0; have e4 := zQ hV 4; obtain ⟨q0, q1⟩ := hS.1.two; have q2 := hS.2.1.cell 0; have q3 := hS.2.1.cell 1; have q4 := hS.2.1.cell 2; simp at q2 q3 q4; go_simp; refine (HI0.out w' (HBr.out.trans (hS.2.2.mono HBr.out.size))).mono ?_; rintro e v1 ⟨rfl, hb⟩; exact hK.out _ _ _ rfl rfl rfl hb
          refine zS (fun w' hS hV K hK => ?_) ?_
          · have e5 := zQ hV 5; obtain ⟨q0, q1⟩ := hS.1.two; have q2 := hS.2.1.cell 0; have q3 := hS.2.1.cell 1; have q4 := hS.2.1.cell 2; simp at q2 q3 q4; go_simp; exact zO hK
          refine zS (fun w' hS hV K hK => ?_) ?_
          · have e6 := zQ hV 6; obtain ⟨q0, q1⟩ := hS.1.two; have q2 := hS.2.1.cell 0; have q3 := hS.2.1.cell 1; have q4 := hS.2.1.cell 2; simp at q2 q3 q4; go_simp; exact zO hK
          refine zS (fun w' hS hV K hK => ?_) ?_
          · have e6 := zQ hV 6; obtain ⟨q0, q1⟩ := hS.1.two; have q2 := hS.2.1.cell 0; have q3 := hS.2.1.cell 1; have q4 := hS.2.1.cell 2; simp at q2 q3 q4; go_simp; exact zO hK
          refine zS (fun w' hS hV K hK => ?_) ?_
          · have e7 := zQ hV 7; obtain ⟨q0, q1⟩ := hS.1.two; have q2 := hS.2.1.cell 0; have q3 := hS.2.1.cell 1; have q4 := hS.2.1.cell 2; simp at q2 q3 q4; go_simp; exact zO hK
          refine zS (fun w' hS hV K hK => ?_) ?_
          · have e8 := zQ hV 8; obtain ⟨q0, q1⟩ := hS.1.two; have q2 := hS.2.1.cell 0; have q3 := hS.2.1.cell 1; have q4 := hS.2.1.cell 2; simp at q2 q3 q4; go_simp; exact zO hK
          refine fun w' hS hV => ?_
          have e0 := zT hV 0
          have e1 := zT hV 1
          have e2 := zT hV 2
          have e3 := zT hV 3
          have e4 := zT hV 4
          have e5 := zT hV 5
          have e6 := zT hV 6
          have e7 := zT hV 7
          have e8 := zT hV 8
          have e9 := zT hV 9
          have e10 := zT hV 10
          simp only [e0, e1, e2, e3, e4, e5, e6, e7, e8, e9, e10]
          clear e0 e1 e2 e3 e4 e5 e6 e7 e8 e9 e10
          refine wpAny_done (by kernel_rfl) ?_ _
          obtain ⟨-, -, s9⟩ := hS
          have HB9 := Lib.hid (HBr.out.trans (s9.mono HBr.out.size))
          clear s9 kdr kar
          go_wp2
          go_roundw
          case rel => exact ⟨1, by omega, by go_num, HB9⟩
          case measure => simp [intOf]
        · go_wp2
          refine wp_obs 11 [[],[],[],[1,2],[1,2,3],[0,1,2,3,4],[0,1,2,3,4,5],[0,1,2,3,4,5,6],[0,1,2,3,4,5,6],[0,1,2,3,4,5,6,7],[0,1,2,3,4,5,6,8]] [VIs (.agg #[.int .i64 P, .slice A n c]), VIs (.slice (some ⟨w32.heap.size + 1, 0, none⟩) 4 4), VIs (.int .i64 1), VIs (.pointer (some ⟨w32.heap.size + 1, 3, none⟩)), VIs (.agg #[.slice R1 (pw n) r1, .slice R2 (pw n) r2, .slice R3 (pw n) r3]), VIs (.tuple #[.bool true, .int .i64 0]), VIs (.tuple #[.bool true, .int .i64 0]), VIs (.bool true), VIs (.int .i64 0), VIs (.bool true), VIs (.int .i64 0)] (fun w' => Blk w' w20.heap.size 26 #[.int .i64 P, .slice A n c] ∧ Blk w' (w32.heap.size + 1) 34 #[.slice A1 (pw n) c1, .slice A2 (pw n) c2, .slice A3 (pw n) c3, .slice R1 (pw n) r1, .slice R2 (pw n) r2, .slice R3 (pw n) r3, .slice V1 (pw n) v1, .slice V2 (pw n) v2, .slice V3 (pw n) v3, .slice AG (pw n) cG, .slice AG (pw n) cG, .slice AG (pw n) cG] ∧ Below wr.heap.size wr w') (by kernel_rfl) (by kernel_rfl) (fun _ _ h hb => ⟨h.1.below hb h.1.lt, h.2.1.below hb h.2.1.lt, h.2.2.trans (hb.mono h.2.2.size)⟩) (⟨kdr.drew, kar.drew, zG.drew⟩) (fun x => ?_)
          refine zS (fun w' hS hV K hK => ?_) ?_
          · obtain ⟨q0, q1⟩ := hS.1.two; have q2 := hS.2.1.cell 3; have q3 := hS.2.1.cell 4; have q4 := hS.2.1.cell 5; simp at q2 q3 q4; go_simp; exact zO hK
          refine zS (fun w' hS hV K hK => ?_) ?_
          · obtain ⟨q0, q1⟩ := hS.1.two; have q2 := hS.2.1.cell 3; have q3 := hS.2.1.cell 4; have q4 := hS.2.1.cell 5; simp at q2 q3 q4; go_simp; exact zO hK
          refine zS (fun w' hS hV K hK => ?_) ?_
          · obtain ⟨q0, q1⟩ := hS.1.two; have q2 := hS.2.1.cell 3; have q3 := hS.2.1.cell 4; have q4 := hS.2.1.cell 5; simp at q2 q3 q4; go_simp; exact zO hK
          refine zS (fun w' hS hV K hK => ?_) ?_
          · have e1 := zQ hV 1; have e2 := zQ hV 2; obtain ⟨q0, q1⟩ := hS.1.two; have q2 := hS.2.1.cell 3; have q3 := hS.2.1.cell 4; have q4 := hS.2.1.cell 5; simp at q2 q3 q4; go_simp; exact zO hK
          refine zS (fun w' hS hV K hK => ?_) ?_
          · have e3 := zQ hV 3; obtain ⟨q0, q1⟩ := hS.1.two; have q2 := hS.2.1.cell 3; have q3 := hS.2.1.cell 4; have q4 := hS.2.1.cell 5; simp at q2 q3 q4; go_simp; exact zO hK
          refine zS (fun w' hS hV K hK => ?_) ?_
          · have e0 := zQ hV 0; have e4 := zQ hV 4; obtain ⟨q0, q1⟩ := hS.1.two; have q2 := hS.2.1.cell 3; have q3 := hS.2.1.cell 4; have q4 := hS.2.1.cell 5; simp at q2 q3 q4; go_simp; refine (HI1.out w' (HBr.out.trans (hS.2.2.mono HBr.out.size))).mono ?_; rintro e v1 ⟨rfl, hb⟩; exact hK.out _ _ _ rfl rfl rfl hb
          refine zS (fun w' hS hV K hK => ?_) ?_
          · have e5 := zQ hV 5; obtain ⟨q0, q1⟩ := hS.1.two; have q2 := hS.2.1.cell 3; have q3 := hS.2.1.cell 4; have q4 := hS.2.1.cell 5; simp at q2 q3 q4; go_simp; exact zO hK
          refine zS (fun w' hS hV K hK => ?_) ?_
          · have e6 := zQ hV 6; obtain ⟨q0, q1⟩ := hS.1.two; have q2 := hS.2.1.cell 3; have q3 := hS.2.1.cell 4; have q4 := hS.2.1.cell 5; simp at q2 q3 q4; go_simp; exact zO hK
          refine zS (fun w' hS hV K hK => ?_) ?_
          · have e6 := zQ hV 6; obtain ⟨q0, q1⟩ := hS.1.two; have q2 := hS.2.1.cell 3; have q3 := hS.2.1.cell 4; have q4 := hS.2.1.cell 5; simp at q2 q3 q4; go_simp; exact zO hK
          refine zS (fun w' hS hV K hK => ?_) ?_
          · have e7 := zQ hV 7; obtain ⟨q0, q1⟩ := hS.1.two; have q2 := hS.2.1.cell 3; have q3 := hS.2.1.cell 4; have q4 := hS.2.1.cell 5; simp at q2 q3 q4; go_simp; exact zO hK
          refine zS (fun w' hS hV K hK => ?_) ?_
          · have e8 := zQ hV 8; obtain ⟨q0, q1⟩ := hS.1.two; have q2 := hS.2.1.cell 3; have q3 := hS.2.1.cell 4; have q4 := hS.2.1.cell 5; simp at q2 q3 q4; go_simp; exact zO hK
          refine fun w' hS hV => ?_
          have e0 := zT hV 0
          have e1 := zT hV 1
          have e2 := zT hV 2
          have e3 := zT hV 3
          have e4 := zT hV 4
          have e5 := zT hV 5
          have e6 := zT hV 6
          have e7 := zT hV 7
          have e8 := zT hV 8
          have e9 := zT hV 9
          have e10 := zT hV 10
          simp only [e0, e1, e2, e3, e4, e5, e6, e7, e8, e9, e10]
          clear e0 e1 e2 e3 e4 e5 e6 e7 e8 e9 e10
          refine wpAny_done (by kernel_rfl) ?_ _
          obtain ⟨-, -, s9⟩ := hS
          have HB9 := Lib.hid (HBr.out.trans (s9.mono HBr.out.size))
          clear s9 kdr kar
          go_wp2
          go_roundw
          case rel => exact ⟨2, by omega, by go_num, HB9⟩
          case measure => simp [intOf]
        · go_wp2
          refine wp_obs 11 [[],[],[],[1,2],[1,2,3],[0,1,2,3,4],[0,1,2,3,4,5],[0,1,2,3,4,5,6],[0,1,2,3,4,5,6],[0,1,2,3,4,5,6,7],[0,1,2,3,4,5,6,8]] [VIs (.agg #[.int .i64 P, .slice A n c]), VIs (.slice (some ⟨w32.heap.size + 1, 0, none⟩) 4 4), VIs (.int .i64 2), VIs (.pointer (some ⟨w32.heap.size + 1, 6, none⟩)), VIs (.agg #[.slice V1 (pw n) v1, .slice V2 (pw n) v2, .slice V3 (pw n) v3]), VIs (.tuple #[.bool true, .int .i64 0]), VIs (.tuple #[.bool true, .int .i64 0]), VIs (.bool true), VIs (.int .i64 0), VIs (.bool true), VIs (.int .i64 0)] (fun w' => Blk w' w20.heap.size 26 #[.int .i64 P, .slice A n c] ∧ Blk w' (w32.heap.size + 1) 34 #[.slice A1 (pw n) c1, .slice A2 (pw n) c2, .slice A3 (pw n) c3, .slice R1 (pw n) r1, .slice R2 (pw n) r2, .slice R3 (pw n) r3, .slice V1 (pw n) v1, .slice V2 (pw n) v2, .slice V3 (pw n) v3, .slice AG (pw n) cG, .slice AG (pw n) cG, .slice AG (pw n) cG] ∧ Below wr.heap.size wr w') (by kernel_rfl) (by kernel_rfl) (fun _ _ h hb => ⟨h.1.below hb h.1.lt, h.2.1.below hb h.2.1.lt, h.2.2.trans (hb.mono h.2.2.size)⟩) (⟨kdr.drew, kar.drew, zG.drew⟩) (fun x => ?_)
          refine zS (fun w' hS hV K hK => ?_) ?_
          · obtain ⟨q0, q1⟩ := hS.1.two; have q2 := hS.2.1.cell 6; have q3 := hS.2.1.cell 7; have q4 := hS.2.1.cell 8; simp at q2 q3 q4; go_simp; exact zO hK
          refine zS (fun w' hS hV K hK => ?_) ?_
          · obtain ⟨q0, q1⟩ := hS.1.two; have q2 := hS.2.1.cell 6; have q3 := hS.2.1.cell 7; have q4 := hS.2.1.cell 8; simp at q2 q3 q4; go_simp; exact zO hK
          refine zS (fun w' hS hV K hK => ?_) ?_
          · obtain ⟨q0, q1⟩ := hS.1.two; have q2 := hS.2.1.cell 6; have q3 := hS.2.1.cell 7; have q4 := hS.2.1.cell 8; simp at q2 q3 q4; go_simp; exact zO hK
          refine zS (fun w' hS hV K hK => ?_) ?_
          · have e1 := zQ hV 1; have e2 := zQ hV 2; obtain ⟨q0, q1⟩ := hS.1.two; have q2 := hS.2.1.cell 6; have q3 := hS.2.1.cell 7; have q4 := hS.2.1.cell 8; simp at q2 q3 q4; go_simp; exact zO hK
          refine zS (fun w' hS hV K hK => ?_) ?_
          · have e3 := zQ hV 3; obtain ⟨q0, q1⟩ := hS.1.two; have q2 := hS.2.1.cell 6; have q3 := hS.2.1.cell 7; have q4 := hS.2.1.cell 8; simp at q2 q3 q4; go_simp; exact zO hK
          refine zS (fun w' hS hV K hK => ?_) ?_
          · have e0 := zQ hV 0; have e4 := zQ hV 4; obtain ⟨q0, q1⟩ := hS.1.two; have q2 := hS.2.1.cell 6; have q3 := hS.2.1.cell 7; have q4 := hS.2.1.cell 8; simp at q2 q3 q4; go_simp; refine (HI2.out w' (HBr.out.trans (hS.2.2.mono HBr.out.size))).mono ?_; rintro e v1 ⟨rfl, hb⟩; exact hK.out _ _ _ rfl rfl rfl hb
          refine zS (fun w' hS hV K hK => ?_) ?_
          · have e5 := zQ hV 5; obtain ⟨q0, q1⟩ := hS.1.two; have q2 := hS.2.1.cell 6; have q3 := hS.2.1.cell 7; have q4 := hS.2.1.cell 8; simp at q2 q3 q4; go_simp; exact zO hK
          refine zS (fun w' hS hV K hK => ?_) ?_
          · have e6 := zQ hV 6; obtain ⟨q0, q1⟩ := hS.1.two; have q2 := hS.2.1.cell 6; have q3 := hS.2.1.cell 7; have q4 := hS.2.1.cell 8; simp at q2 q3 q4; go_simp; exact zO hK
          refine zS (fun w' hS hV K hK => ?_) ?_
          · have e6 := zQ hV 6; obtain ⟨q0, q1⟩ := hS.1.two; have q2 := hS.2.1.cell 6; have q3 := hS.2.1.cell 7; have q4 := hS.2.1.cell 8; simp at q2 q3 q4; go_simp; exact zO hK
          refine zS (fun w' hS hV K hK => ?_) ?_
          · have e7 := zQ hV 7; obtain ⟨q0, q1⟩ := hS.1.two; have q2 := hS.2.1.cell 6; have q3 := hS.2.1.cell 7; have q4 := hS.2.1.cell 8; simp at q2 q3 q4; go_simp; exact zO hK
          refine zS (fun w' hS hV K hK => ?_) ?_
          · have e8 := zQ hV 8; obtain ⟨q0, q1⟩ := hS.1.two; have q2 := hS.2.1.cell 6; have q3 := hS.2.1.cell 7; have q4 := hS.2.1.cell 8; simp at q2 q3 q4; go_simp; exact zO hK
          refine fun w' hS hV => ?_
          have e0 := zT hV 0
          have e1 := zT hV 1
          have e2 := zT hV 2
          have e3 := zT hV 3
          have e4 := zT hV 4
          have e5 := zT hV 5
          have e6 := zT hV 6
          have e7 := zT hV 7
          have e8 := zT hV 8
          have e9 := zT hV 9
          have e10 := zT hV 10
          simp only [e0, e1, e2, e3, e4, e5, e6, e7, e8, e9, e10]
          clear e0 e1 e2 e3 e4 e5 e6 e7 e8 e9 e10
          refine wpAny_done (by kernel_rfl) ?_ _
          obtain ⟨-, -, s9⟩ := hS
          have HB9 := Lib.hid (HBr.out.trans (s9.mono HBr.out.size))
          clear s9 kdr kar
          go_wp2
          go_roundw
          case rel => exact ⟨3, by omega, by go_num, HB9⟩
          case measure => simp [intOf]
        · go_wp2
          refine wp_obs 11 [[],[],[],[1,2],[1,2,3],[0,1,2,3,4],[0,1,2,3,4,5],[0,1,2,3,4,5,6],[0,1,2,3,4,5,6],[0,1,2,3,4,5,6,7],[0,1,2,3,4,5,6,8]] [VIs (.agg #[.int .i64 P, .slice A n c]), VIs (.slice (some ⟨w32.heap.size + 1, 0, none⟩) 4 4), VIs (.int .i64 3), VIs (.pointer (some ⟨w32.heap.size + 1, 9, none⟩)), VIs (.agg #[.slice AG (pw n) cG, .slice AG (pw n) cG, .slice AG (pw n) cG]), VIs (.tuple #[.bool true, .int .i64 0]), VIs (.tuple #[.bool true, .int .i64 0]), VIs (.bool true), VIs (.int .i64 0), VIs (.bool true), VIs (.int .i64 0)] (fun w' => Blk w' w20.heap.size 26 #[.int .i64 P, .slice A n c] ∧ Blk w' (w32.heap.size + 1) 34 #[.slice A1 (pw n) c1, .slice A2 (pw n) c2, .slice A3 (pw n) c3, .slice R1 (pw n) r1, .slice R2 (pw n) r2, .slice R3 (pw n) r3, .slice V1 (pw n) v1, .slice V2 (pw n) v2, .slice V3 (pw n) v3, .slice AG (pw n) cG, .slice AG (pw n) cG, .slice AG (pw n) cG] ∧ Below wr.heap.size wr w') (by kernel_rfl) (by kernel_rfl) (fun _ _ h hb => ⟨h.1.below hb h.1.lt, h.2.1.below hb h.2.1.lt, h.2.2.trans (hb.mono h.2.2.size)⟩) (⟨kdr.drew, kar.drew, zG.drew⟩) (fun x => ?_)
          refine zS (fun w' hS hV K hK => ?_) ?_
          · obtain ⟨q0, q1⟩ := hS.1.two; have q2 := hS.2.1.cell 9; have q3 := hS.2.1.cell 10; have q4 := hS.2.1.cell 11; simp at q2 q3 q4; go_simp; exact zO hK
          refine zS (fun w' hS hV K hK => ?_) ?_
          · obtain ⟨q0, q1⟩ := hS.1.two; have q2 := hS.2.1.cell 9; have q3 := hS.2.1.cell 10; have q4 := hS.2.1.cell 11; simp at q2 q3 q4; go_simp; exact zO hK
          refine zS (fun w' hS hV K hK => ?_) ?_
          · obtain ⟨q0, q1⟩ := hS.1.two; have q2 := hS.2.1.cell 9; have q3 := hS.2.1.cell 10; have q4 := hS.2.1.cell 11; simp at q2 q3 q4; go_simp; exact zO hK
          refine zS (fun w' hS hV K hK => ?_) ?_
          · have e1 := zQ hV 1; have e2 := zQ hV 2; obtain ⟨q0, q1⟩ := hS.1.two; have q2 := hS.2.1.cell 9; have q3 := hS.2.1.cell 10; have q4 := hS.2.1.cell 11; simp at q2 q3 q4; go_simp; exact zO hK
          refine zS (fun w' hS hV K hK => ?_) ?_
          · have e3 := zQ hV 3; obtain ⟨q0, q1⟩ := hS.1.two; have q2 := hS.2.1.cell 9; have q3 := hS.2.1.cell 10; have q4 := hS.2.1.cell 11; simp at q2 q3 q4; go_simp; exact zO hK
          refine zS (fun w' hS hV K hK => ?_) ?_
          · have e0 := zQ hV 0; have e4 := zQ hV 4; obtain ⟨q0, q1⟩ := hS.1.two; have q2 := hS.2.1.cell 9; have q3 := hS.2.1.cell 10; have q4 := hS.2.1.cell 11; simp at q2 q3 q4; go_simp; refine (HI3.out w' (HBr.out.trans (hS.2.2.mono HBr.out.size))).mono ?_; rintro e v1 ⟨rfl, hb⟩; exact hK.out _ _ _ rfl rfl rfl hb
          refine zS (fun w' hS hV K hK => ?_) ?_
          · have e5 := zQ hV 5; obtain ⟨q0, q1⟩ := hS.1.two; have q2 := hS.2.1.cell 9; have q3 := hS.2.1.cell 10; have q4 := hS.2.1.cell 11; simp at q2 q3 q4; go_simp; exact zO hK
          refine zS (fun w' hS hV K hK => ?_) ?_
          · have e6 := zQ hV 6; obtain ⟨q0, q1⟩ := hS.1.two; have q2 := hS.2.1.cell 9; have q3 := hS.2.1.cell 10; have q4 := hS.2.1.cell 11; simp at q2 q3 q4; go_simp; exact zO hK
          refine zS (fun w' hS hV K hK => ?_) ?_
          · have e6 := zQ hV 6; obtain ⟨q0, q1⟩ := hS.1.two; have q2 := hS.2.1.cell 9; have q3 := hS.2.1.cell 10; have q4 := hS.2.1.cell 11; simp at q2 q3 q4; go_simp; exact zO hK
          refine zS (fun w' hS hV K hK => ?_) ?_
          · have e7 := zQ hV 7; obtain ⟨q0, q1⟩ := hS.1.two; have q2 := hS.2.1.cell 9; have q3 := hS.2.1.cell 10; have q4 := hS.2.1.cell 11; simp at q2 q3 q4; go_simp; exact zO hK
          refine zS (fun w' hS hV K hK => ?_) ?_
          · have e8 := zQ hV 8; obtain ⟨q0, q1⟩ := hS.1.two; have q2 := hS.2.1.cell 9; have q3 := hS.2.1.cell 10; have q4 := hS.2.1.cell 11; simp at q2 q3 q4; go_simp; exact zO hK
          refine fun w' hS hV => ?_
          have e0 := zT hV 0
          have e1 := zT hV 1
          have e2 := zT hV 2
          have e3 := zT hV 3
          have e4 := zT hV 4
          have e5 := zT hV 5
          have e6 := zT hV 6
          have e7 := zT hV 7
          have e8 := zT hV 8
          have e9 := zT hV 9
          have e10 := zT hV 10
          simp only [e0, e1, e2, e3, e4, e5, e6, e7, e8, e9, e10]
          clear e0 e1 e2 e3 e4 e5 e6 e7 e8 e9 e10
          refine wpAny_done (by kernel_rfl) ?_ _
          obtain ⟨-, -, s9⟩ := hS
          have HB9 := Lib.hid (HBr.out.trans (s9.mono HBr.out.size))
          clear s9 kdr kar
          go_wp2
          go_roundw
          case rel => exact ⟨4, by omega, by go_num, HB9⟩
          case measure => simp [intOf]
        · have ktr := HKT.out.below HBr.out HKT.out.lt
          have kur := HKU.out.below HBr.out HKU.out.lt
          have q2 := ktr.cell 0
          have q3 := ktr.cell 1
          have q4 := ktr.cell 2
          have q5 := kur.cell 0
          have q6 := kur.cell 1
          have q7 := kur.cell 2
          simp at q2 q3 q4 q5 q6 q7
          have h9 := H9.out wr HBr.out
          clear kdr kar
          go_wp2_with fail
          refine h9.mono ?_
          rintro e w40 ⟨rfl, hb40⟩
          have hfin := HW34.out.trans (HBr.out.mono HW34.out.size)
          go_wp2
          go_ret
          exact ⟨rfl, hfin.trans (hb40.mono hfin.size)⟩
     · replace hp1 := hp1.mono fun e w' h => h.bad hz0
       have HP2 := Lib.hid fun w' (h : Below w21.heap.size w21 w') => (hp2 w' h).mono fun e w' h => h.bad hz0
       obtain ⟨z, hz⟩ : ∃ z, z = pureCode P st xs := ⟨_, rfl⟩
       rw [← hz] at hp1 HP2 hz0
       have ez : (z == 0) = false := by simpa using hz0
       have ez2 : (z != z) = false := by simp
       clear hp2 hz hrs hrx hsl
       go_wp2_with fail
       rw [← hw21]
       clear hw21
       refine hp1.mono ?_
       rintro e w22 ⟨rfl, hb22⟩
       have hA : Below w22.heap.size w22 (w22.alloc (.cells #[.slice none 0 0, .slice none 0 0, .slice none 0 0] 34)) := zG.alloc (Nat.le_refl _) _
       have kt : Blk (w22.alloc (.cells #[.slice none 0 0, .slice none 0 0, .slice none 0 0] 34)) w22.heap.size 34 #[.slice none 0 0, .slice none 0 0, .slice none 0 0] := Blk.new _ _ _
       have kd2 := (kd.below hb22 kd.lt).alloc (.cells #[.slice none 0 0, .slice none 0 0, .slice none 0 0] 34)
       have hY := hb22.trans (hA.mono hb22.size)
       clear q0 q1
       obtain ⟨q0, q1⟩ := kd2.two
       obtain ⟨w23, hw23⟩ : ∃ W, W = (w22.alloc (.cells #[.slice none 0 0, .slice none 0 0, .slice none 0 0] 34)) := ⟨_, rfl⟩
       rw [← hw23] at kt kd2 hY
       have hp2 := HP2.out w23 hY
       clear hp1 HP2 kd hb22 hA
       go_wp2_with fail
       rw [← hw23]
       clear hw23
       refine hp2.mono ?_
       rintro e w24 ⟨rfl, hb24⟩
       have hA : Below w24.heap.size w24 (w24.alloc (.cells #[.slice none 0 0, .slice none 0 0, .slice none 0 0] 34)) := zG.alloc (Nat.le_refl _) _
       have ku : Blk (w24.alloc (.cells #[.slice none 0 0, .slice none 0 0, .slice none 0 0] 34)) w24.heap.size 34 #[.slice none 0 0, .slice none 0 0, .slice none 0 0] := Blk.new _ _ _
       have kt2 := (kt.below hb24 kt.lt).alloc (.cells #[.slice none 0 0, .slice none 0 0, .slice none 0 0] 34)
       have hY25 := (hY.trans (hb24.mono hY.size)).trans (hA.mono (hY.trans (hb24.mono hY.size)).size)
       have q2 := kt2.cell 0
       have q3 := kt2.cell 1
       have q4 := kt2.cell 2
       have q5 := ku.cell 0
       have q6 := ku.cell 1
       have q7 := ku.cell 2
       simp only [zA, zC, zB] at q2 q3 q4 q5 q6 q7
       obtain ⟨w25, hw25⟩ : ∃ W, W = (w24.alloc (.cells #[.slice none 0 0, .slice none 0 0, .slice none 0 0] 34)) := ⟨_, rfl⟩
       rw [← hw25] at ku kt2 hY25
       have h9 := triple9_ok 0 none none none none none none 0 0 0 0 0 0 [] [] [] w25 (by omega) 2 (fun x hx => by cases hx) (fun x hx => by cases hx) (fun x hx => by cases hx) (RdII.nil _ _) (RdII.nil _ _) (RdII.nil _ _) (RdII.nil _ _) (RdII.nil _ _) (RdII.nil _ _)
       clear hp2 kt kd2 hb24 hA q0 q1 hY
       go_wp2_with fail
       rw [← hw25]
       clear hw25
       refine h9.mono ?_
       rintro e w26 ⟨rfl, hb26⟩
       have kt3 := kt2.below hb26 kt2.lt
       clear h9 q2 q3 q4 q5 q6 q7 kt2 ku
       have q2 := kt3.cell 0
       simp at q2
       have hf := hX21.trans (hY25.mono hX21.size)
       go_wp2
       go_ret
       exact ⟨rfl, hf.trans (hb26.mono hf.size)⟩
end Go.Proofs.YtaiegpggccdgoaaGreat

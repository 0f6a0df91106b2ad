/-
  LawFnCompleteTriples: part 18 of the texts that the proof needs. No condition.
-/
import Derived.Test.YtaiegpggccdgoaaGreatK17
namespace Go.Proofs.YtaiegpggccdgoaaGreat
open Go Go.RowKit
theorem yeh {p:Int} {st:List Int} {M:List (List Int)} {n m:Nat} (h:cmpC p st M=0) (hsl:st.length=n) (hMl:M.length=m):isDb p st=true∧m=8∧n=3∧m=pw n∧mA m (cmpL p st M)=M∧Tab p m M∧Tab p m (mB m (cmpL p st M))∧Tab p m (mC m (cmpL p st M)) ∧ ∀ row∈locP p n st,dotL p row (yB (mA m (cmpL p st M)) (mB m (cmpL p st M)) (mC m (cmpL p st M)))=0:=by
 obtain⟨hdb,h3,hl8,hTM,hSk⟩:=yeg h
 obtain rfl:n=3:=by omega
 obtain rfl:m=8:=by omega
 obtain⟨HP, -, -⟩:=ze hdb
 have hp:=yk HP
 have hun:=qt hdb
 have hxn:=jo (p:=p) (by omega) st M
 have hxl:=jn (p:=p) st M
 obtain⟨-,hB,hC⟩:=yad (n:=8) hxn (by rw[hxl])
 refine⟨hdb,rfl,rfl,pw3.symm,yei HP (fun b hb=>hun b (by omega)) hTM hl8 hSk,hTM,hB,hC,?_⟩
 have hlo:=ych (p:=p) (by omega) (k:=3) hxn (by rw[hxl,pw3]) (qf HP st M)
 rw[pw3]at hlo
 exact hlo
theorem yeJ {P:Int} {st ys xs:List Int} {n m:Nat} (hx:xs=ys.set 0 0) (hdb:isDb P st=true) (hsl:st.length=n) (hm:m=pw n) (hn:n≤3) (hl:ys.length=m) (hy:NumsL P ys) (m1:0<m):zP P st xs=0∧xs.getD 0 0=0∧xs.length=m:=by
 obtain⟨HP, -, -⟩:=ze hdb
 have hp:=yk HP
 have h0:xs.getD 0 0=0:=by
  rw[hx,List.getD_eq_getElem?_getD,List.getElem?_set_self (by omega)]
  rfl
 have h1:xs.length=m:=by rw[hx,List.length_set,hl]
 refine⟨?_,h0,h1⟩
 unfold zP
 rw[if_pos (jr hdb (by omega) (fun zs hz=>by
  obtain rfl:zs=xs:=by simpa using hz
  rw[hsl,← hm]
  refine⟨h1,fun v hv=>?_⟩
  rw[hx]at hv
  rcases List.mem_or_eq_of_mem_set hv with hv | rfl
  ·exact hy v hv
  ·omega) (fun N hN=>absurd hN (by simp))),if_pos h0]
theorem ygM {P:Int} {st xs:List Int} {n m:Nat} (hdb:isDb P st=true) (hsl:st.length=n) (hn:n=3) (hm:m=8) (hl:xs.length=m) (h0:xs.getD 0 0=0):cmpC P st (yO P n st xs)=0∧mA m (cmpL P st (yO P n st xs))=yO P n st xs∧mB m (cmpL P st (yO P n st xs))=yY P n st xs∧mC m (cmpL P st (yO P n st xs))=xc P n st xs:=by
 subst hn hm
 obtain⟨HP, -, -⟩:=ze hdb
 have hp:=yk HP
 have hun:=qt hdb
 have hxl:xs.length=pw 3:=by rw[pw3];exact hl
 obtain⟨t1,l1⟩:=vZ (p:=P) (by omega) 3 st xs
 obtain⟨t2,l2⟩:=yam (p:=P) (by omega) 3 st xs
 obtain⟨t3,l3⟩:=ycE (p:=P) (by omega) 3 st xs
 have hLo:Loc P st 3 (ent (yO P 3 st xs)) (ent (yY P 3 st xs)) (ent (xc P 3 st xs)):=Loc.pure (by omega) st (gV xs) h0 (fun r i hr hi=>ycb (by omega) st hxl hr hi) (fun r i hr hi=>ycM (by omega) st hxl hr hi) (fun r i hr hi=>ygL (by omega) st hxl hr hi)
 rw[pw3]at t1 l1 t2 l2 t3 l3
 have hun3:∀ b,b<3→st.getD b 0%P≠0:=fun b hb=>hun b (by omega)
 have e:=yej HP hun3 t1 t2 t3 l1 l2 l3 hLo
 obtain⟨e1,e2,e3⟩:=ygk t1 t2 t3 l1 l2 l3
 refine⟨yef hdb hsl l1 t1 hLo.sa,?_,?_,?_⟩
 ·rw[e];exact e1
 ·rw[e];exact e2
 ·rw[e];exact e3
theorem PureP.good {p:Int} {st xs:List Int} {n:Nat} {w w':World} {e:Ending} (h:PureP p st xs w e w') (hz:zP p st xs=0) (hn:st.length=n):∃ A1 c1 A2 c2 A3 c3,e=.returned (.tuple #[.agg #[.slice A1 (pw n) c1,.slice A2 (pw n) c2,.slice A3 (pw n) c3],.int .i64 0])∧TripW w w' (pw n) A1 c1 (yO p n st xs) A2 c2 (yY p n st xs) A3 c3 (xc p n st xs):=by
 subst hn
 rcases h with ⟨h0, -⟩ | ⟨-,h⟩
 ·exact absurd hz h0
 ·exact h
theorem yb3 (p:Int) (st:List Int):(lbaV p st).length≤3*(pw st.length*pw st.length):=by
 by_cases h0:lbaC p st=0
 ·have hv:lbaV p st=lbaL p st.length st:=by unfold lbaV;rw[if_pos h0]
  rw[hv]
  exact jX (ze (yb1 h0).1).1 _ _
 ·have hv:lbaV p st=[]:=by unfold lbaV;rw[if_neg h0]
  rw[hv]
  exact Nat.zero_le _
theorem yb2 {p:Int} {st:List Int} {i k N:Nat} (hi:i<(lbaV p st).length) (hk:st.length=k) (hN:N=pw k):isDb p st=true∧k≤2∧Tab p N (mA N ((lbaV p st).getD i []))∧Tab p N (mB N ((lbaV p st).getD i []))∧Tab p N (mC N ((lbaV p st).getD i [])) ∧ ∀ row∈locP p k st,dotL p row (yB (mA N ((lbaV p st).getD i [])) (mB N ((lbaV p st).getD i [])) (mC N ((lbaV p st).getD i [])))=0:=by
 subst hN hk
 obtain⟨hdb,h2,hl,hx,hv⟩:=yfX hi
 have hp:=yk (ze hdb).1
 obtain⟨hA,hB,hC⟩:=yad hx hl
 exact⟨hdb,h2,hA,hB,hC,ych (by omega) hx hl hv⟩
def LbaQ (L:Nat) (z:Int) (N:Nat) (V:List (List Int)) (w:World) (e:Ending) (w':World):Prop:=∃ A c us,e=.returned (.tuple #[.slice A L c,.int .i64 z])∧Own3 w' w.heap.size A L c us∧LT w' w.heap.size N us V∧Below w.heap.size w w'
theorem LbaP.q {p:Int} {st:List Int} {w w':World} {e:Ending} (h:LbaP p st w e w'):LbaQ (lbaV p st).length (lbaC p st) (pw st.length) (lbaV p st) w e w':=h.all
set_option maxHeartbeats 12800000 in
set_option maxRecDepth 8000 in
theorem ydr (B:Option Addr) (nb cb:Nat) (bs:List Int) (w:World) (r:Rd w B nb (bs.map (Value.int .u8))) (hbs:∀ b∈bs,0≤b∧b<256) (hbg:∀ a,B=some a→a.block<w.heap.size) :
 Calls Tryz.prog 5 #[.slice B nb cb] w fun e w'=>e=.returned (.bool true)∧Below w.heap.size w w':=by
 have hbig:=ydJ B nb cb w
 by_cases hbb:4096<nb
 ·rw[decide_eq_true hbb]at hbig
  go_enter Tryz.func5,Tryz.ntmps5
  go_wp2_with fail
  refine hbig.mono ?_
  rintro e w1 ⟨rfl,rfl⟩
  go_wp2
  go_ret
  exact⟨rfl,Below.refl _ _⟩
 ·rw[decide_eq_false hbb]at hbig
  have hdr:=ydo B nb cb bs w (by omega) r hbs hbg
  go_enter Tryz.func5,Tryz.ntmps5
  go_wp2_with fail
  refine hbig.mono ?_
  rintro e w1 ⟨rfl,rfl⟩
  clear hbig
  go_wp2_with fail
  refine hdr.mono ?_
  rintro e w2 ⟨P,A,n,c,st,X,m,cx,M,rfl,hP,hn,hm,hmc,ho,hx,hM,hb2⟩
  obtain⟨hP0,hP17⟩:=hP
  have hA:Below w2.heap.size w2 (w2.alloc (.cells #[.int .i64 P,.slice A n c] 26)):=zG.alloc (Nat.le_refl _) _
  have kd:Blk (w2.alloc (.cells #[.int .i64 P,.slice A n c] 26)) w2.heap.size 26 #[.int .i64 P,.slice A n c]:=Blk.new _ _ _
  have hX3:=hb2.trans (hA.mono hb2.size)
  have hcn:=ho.cap
  have hrs:=(ho.below hA).rd
  have hrx:=hx.below hA
  have hMl:M.length=m:=hrx.len
  have hok:okM3 M:=⟨by omega,fun x hx=>by have:=hM x hx;omega⟩
  obtain⟨w3,hw3⟩:∃ W,W=(w2.alloc (.cells #[.int .i64 P,.slice A n c] 26)):=⟨_,rfl⟩
  rw[← hw3]at kd hX3 hrs hrx
  have hc1:=yaC P A n c st X m cx M w3 (by omega) hcn (by omega) hmc hok hrs hrx
  have hc2:=fun w' (h:Below w3.heap.size w3 w')=>yhv P A n c st X m cx M w' (by omega) hcn (by omega) hmc hok (hrs.below h) (hrx.below h)
  have hsl:st.length=n:=hrs.lenI
  have HRB:=Lib.hid r
  have HBS:=Lib.hid hbs
  have HBG:=Lib.hid hbg
  obtain⟨q0,q1⟩:=kd.two
  clear hdr ho hx hM hb2 hA hok r hbs hbg
  by_cases hz0:cmpC P st M=0
  ·obtain⟨hdb,hm8,hn3,hpn,hmA,hT1,hT2,hT3,hlo⟩:=yeh hz0 hsl hMl
   replace hc1:=hc1.mono fun e w' h=>h.good hz0 hm8
   replace hc2:=fun w' (h:Below w3.heap.size w3 w')=>(hc2 w' h).mono fun e w' h=>h.good hz0 hm8
   have hmA':mA m (cmpL P st M)=M:=hmA
   rw[hmA']at hc1 hc2 hlo
   obtain⟨M2,hM2⟩:∃ z,z=mB m (cmpL P st M):=⟨_,rfl⟩
   obtain⟨M3,hM3⟩:∃ z,z=mC m (cmpL P st M):=⟨_,rfl⟩
   rw[← hM2,← hM3]at hc1 hc2 hlo
   rw[← hM2]at hT2
   rw[← hM3]at hT3
   have HP3:=(yk (ze hdb).1)
   have hP13:=HP3.2
   have HC2:=Lib.hid hc2
   have HLO:=Lib.hid hlo
   have HT1:=Lib.hid hT1
   have HT2:=Lib.hid hT2
   have HT3:=Lib.hid hT3
   have HDB:=Lib.hid hdb
   have HPN:=Lib.hid hpn
   have HM8:=Lib.hid hm8
   have HN3:=Lib.hid hn3
   have HSL:=Lib.hid hsl
   have HRS:=Lib.hid hrs
   have HRX:=Lib.hid hrx
   have m1:0<m:=by omega
   have m8:m≤8:=by omega
   have n3:n≤3:=by omega
   have P1:1≤P:=by have:=HP3.1;omega
   clear hM2 hM3 hc2 hz0 hdb hT1 hT2 hT3 hlo hmA hmA' hpn hm8 hn3 hsl HP3 hMl hrs hrx
   go_wp2_with fail
   rw[← hw3]
   clear hw3
   refine hc1.mono ?_
   rintro e w4 ⟨A1,c1,A2,c2,A3,c3,rfl,r1,r2,r3,i1,i2,i3,hb4⟩
   have hA:Below w4.heap.size w4 (w4.alloc (.cells #[.slice A1 m c1,.slice A2 m c2,.slice A3 m c3] 34)):=zG.alloc (Nat.le_refl _) _
   have kt:Blk (w4.alloc (.cells #[.slice A1 m c1,.slice A2 m c2,.slice A3 m c3] 34)) w4.heap.size 34 #[.slice A1 m c1,.slice A2 m c2,.slice A3 m c3]:=Blk.new _ _ _
   have kd2:=(kd.below hb4 kd.lt).alloc (.cells #[.slice A1 m c1,.slice A2 m c2,.slice A3 m c3] 34)
   have hY:=hb4.trans (hA.mono hb4.size)
   replace r1:=r1.below hA
   replace r2:=r2.below hA
   replace r3:=r3.below hA
   clear q0 q1
   obtain⟨q0,q1⟩:=kd2.two
   obtain⟨w5,hw5⟩:∃ W,W=(w4.alloc (.cells #[.slice A1 m c1,.slice A2 m c2,.slice A3 m c3] 34)):=⟨_,rfl⟩
   rw[← hw5]at kt kd2 hY r1 r2 r3
   have hc2:=HC2.out w5 hY
   clear hc1 HC2 kd hb4 hA
   go_wp2_with fail
   rw[← hw5]
   clear hw5
   refine hc2.mono ?_
   rintro e w6 ⟨B1,d1,B2,d2,B3,d3,rfl,s1,s2,s3,l1,l2,l3,hb6⟩
   have hA:Below w6.heap.size w6 (w6.alloc (.cells #[.slice B1 m d1,.slice B2 m d2,.slice B3 m d3] 34)):=zG.alloc (Nat.le_refl _) _
   have ku:Blk (w6.alloc (.cells #[.slice B1 m d1,.slice B2 m d2,.slice B3 m d3] 34)) w6.heap.size 34 #[.slice B1 m d1,.slice B2 m d2,.slice B3 m d3]:=Blk.new _ _ _
   have kt2:=(kt.below hb6 kt.lt).alloc (.cells #[.slice B1 m d1,.slice B2 m d2,.slice B3 m d3] 34)
   have kd3:=(kd2.below hb6 kd2.lt).alloc (.cells #[.slice B1 m d1,.slice B2 m d2,.slice B3 m d3] 34)
   have hb7:=hb6.trans (hA.mono hb6.size)
   have hY7:=hY.trans (hb7.mono hY.size)
   replace s1:=s1.below hA
   replace s2:=s2.below hA
   replace s3:=s3.below hA
   have q2:=kt2.cell 0
   have q3:=kt2.cell 1
   have q4:=kt2.cell 2
   have q5:=ku.cell 0
   have q6:=ku.cell 1
   have q7:=ku.cell 2
   simp only[zA,zC,zB]at q2 q3 q4 q5 q6 q7
   obtain⟨w7,hw7⟩:∃ W,W=(w6.alloc (.cells #[.slice B1 m d1,.slice B2 m d2,.slice B3 m d3] 34)):=⟨_,rfl⟩
   rw[← hw7]at ku kt2 kd3 hb7 hY7 s1 s2 s3
   replace r1:=r1.below hb7
   replace r2:=r2.below hb7
   replace r3:=r3.below hb7
   have h9:=uS m A1 A2 A3 B1 B2 B3 c1 c2 c3 d1 d2 d3 M M2 M3 w7 m8 P HT1.out HT2.out HT3.out r1 r2 r3 s1 s2 s3
   have hW7:=hX3.trans (hY7.mono hX3.size)
   clear hc2 kt kd2 hb6 hA q0 q1 hY hb7 s1 s2 s3 hX3
   go_wp2_with fail
   rw[← hw7]
   clear hw7
   refine h9.mono ?_
   rintro e w8 ⟨rfl,hb8⟩
   have hY8:=hY7.trans (hb8.mono hY7.size)
   have hW8:=hW7.trans (hb8.mono hW7.size)
   have kd4:=kd3.below hb8 kd3.lt
   have kt4:=kt2.below hb8 kt2.lt
   have hil:=jb P A n c st m A1 c1 M A2 c2 M2 A3 c3 M3 w8 HDB.out n3 HPN.out hcn (HRS.out.below hY8) (r1.below hb8) HT1.out i1 (r2.below hb8) HT2.out i2 (r3.below hb8) HT3.out i3 HLO.out
   replace r1:=r1.below hb8
   clear h9 q2 q3 q4 q5 q6 q7 ku kt2 kd3 hb8 hY7 hW7 r2 r3
   obtain⟨q0,q1⟩:=kd4.two
   have q2:=kt4.cell 0
   have q3:=kt4.cell 1
   have q4:=kt4.cell 2
   simp at q2 q3 q4
   go_wp2_with fail
   refine hil.mono ?_
   rintro e w9 ⟨rfl,hb9⟩
   have hY9:=hY8.trans (hb9.mono hY8.size)
   have hW9:=hW8.trans (hb9.mono hW8.size)
   have kt5:=kt4.below hb9 kt4.lt
   have kd5:=kd4.below hb9 kd4.lt
   have hsm:=ycQ A1 X m c1 cx M w9 (by omega) (fun x hx=>by rw[(HT1.out x hx).1];omega) (r1.below hb9) (HRX.out.below hY9)
   clear hil q0 q1 q2 q3 q4 kt4 kd4 hb9 hY8 hW8 r1
   have q2:=kt5.cell 0
   simp at q2
   go_wp2_with fail
   refine hsm.mono ?_
   rintro e w10 ⟨rfl,hb10⟩
   have hY10:=hY9.trans (hb10.mono hY9.size)
   have hW10:=hW9.trans (hb10.mono hW9.size)
   have kd6:=kd5.below hb10 kd5.lt
   have hro:=yg9 B nb cb bs 3022 w10 (by omega) (HRB.out.below hW10) HBS.out (fun a e=>Nat.lt_of_lt_of_le (HBG.out a e) hW10.size)
   have HRS10:=Lib.hid (HRS.out.below hY10)
   have HW10:=Lib.hid hW10
   clear hsm q2 kt5 kd5 hb10 hY9 hW9 hY10 hW10 HRS HRX HT1 HT2 HT3 HLO
   go_wp2_with fail
   refine hro.mono ?_
   rintro e w11 ⟨g,rfl,hg,hs11,hb11⟩
   have hel:=yeK g P A n c w11 hs11 P1 hP17 (by omega)
   rw[← HPN.out]at hel
   have kd7:=kd6.below hb11 kd6.lt
   obtain⟨q0,q1⟩:=kd7.two
   clear hro hs11
   go_wp2_with fail
   refine hel.mono ?_
   rintro e w12 ⟨Y,cy,ys,rfl,hyn,hoY,hd12⟩
   have hb12:=hd12.down hb11 hg
   have kd8:=kd6.below hb12 kd6.lt
   obtain⟨gy,rfl,hgy⟩:∃ gy,Y=some ⟨gy,0,none⟩∧w10.heap.size≤gy:=by
    rcases hoY.form with ⟨_,hz⟩ | ⟨gy,rfl, -, -⟩
    ·omega
    ·exact⟨gy,rfl,Nat.le_trans hb11.size (World.ownsRow.lt hoY gy rfl).1⟩
   obtain⟨y0,hy0⟩:=hoY.cellI m1
   have hyf:=hoY.frozen_ 0
   have hoZ:Own (w12.setCell ⟨gy,0,none⟩ (.int .i64 0)) w11.heap.size 2 (some ⟨gy,0,none⟩) m cy (ints (ys.set 0 0)):=by
    have:=(World.ownsRow.stored hoY 0 (.int .i64 0)).1
    rw[yN]at this
    exact this
   have hb13:=hb12.setCell (p:=⟨gy,0,none⟩) hgy (.int .i64 0)
   obtain⟨w13,hw13⟩:∃ W,W=w12.setCell ⟨gy,0,none⟩ (.int .i64 0):=⟨_,rfl⟩
   rw[← hw13]at hoZ hb13
   obtain⟨xs,hxs⟩:∃ z,z=ys.set 0 0:=⟨_,rfl⟩
   rw[← hxs]at hoZ
   have hyl:ys.length=m:=hoY.rd.lenI
   obtain⟨hpc,hx0,hxl⟩:=yeJ (P:=P) (st:=st) hxs HDB.out HSL.out HPN.out n3 hyl hyn m1
   have kd9:=kd6.below hb13 kd6.lt
   have hpu:=ydx P A n c st (some ⟨gy,0,none⟩) m cy xs w13 (by omega) hcn (by omega) hoZ.cap (HRS10.out.below hb13) hoZ.rd
   replace hpu:=hpu.mono fun e w' h=>h.good hpc HSL.out
   rw[← HPN.out]at hpu
   obtain⟨hcz,hA0,hB0,hC0⟩:=ygM (P:=P) HDB.out HSL.out HN3.out HM8.out hxl hx0
   have hL1:=vZ (p:=P) (by omega) n st xs
   have hL2:=yam (p:=P) (by omega) n st xs
   have hL3:=ycE (p:=P) (by omega) n st xs
   rw[← HPN.out]at hL1 hL2 hL3
   obtain⟨L1,hL1_⟩:∃ z,z=yO P n st xs:=⟨_,rfl⟩
   obtain⟨L2,hL2_⟩:∃ z,z=yY P n st xs:=⟨_,rfl⟩
   obtain⟨L3,hL3_⟩:∃ z,z=xc P n st xs:=⟨_,rfl⟩
   rw[← hL1_]at hcz hA0 hB0 hC0
   rw[← hL1_]at hL1
   rw[← hL2_]at hL2 hB0
   rw[← hL3_]at hL3 hC0
   rw[← hL1_,← hL2_,← hL3_]at hpu
   have HL1:=Lib.hid hL1
   have HL2:=Lib.hid hL2
   have HL3:=Lib.hid hL3
   have HCZ:=Lib.hid (And.intro hcz (And.intro hA0 (And.intro hB0 hC0)))
   have HB13:=Lib.hid hb13
   clear hel kd7 kd8 q0 q1 hd12 hb11 hb12 hg hgy hyn hoY hyl hoZ hxs hx0 hxl hpc hcz hA0 hB0 hC0 hL1 hL2 hL3 hL1_ hL2_ hL3_ hb13
   obtain⟨q0,q1⟩:=kd9.two
   rw[hw13]at q0 q1
   go_wp2_with fail
   rw[← hw13]
   clear hw13 hy0 hyf
   refine hpu.mono ?_
   rintro e w14 ⟨R1,r1,R2,r2,R3,r3,rfl,hT⟩
   obtain⟨ho1,ho2,ho3,hb14⟩:=hT
   have hA:Below w14.heap.size w14 (w14.alloc (.cells #[.slice R1 m r1,.slice R2 m r2,.slice R3 m r3] 34)):=zG.alloc (Nat.le_refl _) _
   have kt:Blk (w14.alloc (.cells #[.slice R1 m r1,.slice R2 m r2,.slice R3 m r3] 34)) w14.heap.size 34 #[.slice R1 m r1,.slice R2 m r2,.slice R3 m r3]:=Blk.new _ _ _
   have hY15:=HB13.out.trans ((hb14.trans (hA.mono hb14.size)).mono HB13.out.size)
   have s1:=ho1.rd.below hA
   have s2:=ho2.rd.below hA
   have s3:=ho3.rd.below hA
   have j1:=ho1.cap
   clear q0 q1
   obtain⟨w15,hw15⟩:∃ W,W=(w14.alloc (.cells #[.slice R1 m r1,.slice R2 m r2,.slice R3 m r3] 34)):=⟨_,rfl⟩
   rw[← hw15]at kt hY15 s1 s2 s3
   have kd10:=kd6.below hY15 kd6.lt
   have hcm:=yaC P A n c st R1 m r1 L1 w15 (by omega) hcn (by omega) j1 ⟨by rw[HL1.out.2];omega,fun x hx=>by rw[(HL1.out.1 x hx).1];omega⟩ (HRS10.out.below hY15) s1
   replace hcm:=hcm.mono fun e w' h=>h.good HCZ.out.1 HM8.out
   rw[HCZ.out.2.1,HCZ.out.2.2.1,HCZ.out.2.2.2]at hcm
   have HKD:=Lib.hid kd10
   clear hpu ho1 ho2 ho3 hb14 kd9 hA HB13 kd6 HRS10 HN3
   have q0:=kt.cell 0
   have q1:=kt.cell 1
   have q2:=kt.cell 2
   obtain⟨q3,q4⟩:=kd10.two
   simp only[zA,zC,zB]at q0 q1 q2
   clear kd10
   rw[hw15]at q0 q1 q2 q3 q4
   go_wp2_with fail
   rw[← hw15]
   clear hw15 q0 q1 q2 q3 q4
   refine hcm.mono ?_
   rintro e w16 ⟨V1,v1,V2,v2,V3,v3,rfl,t1,t2,t3,o1,o2,o3,hb16⟩
   have hA:Below w16.heap.size w16 (w16.alloc (.cells #[.slice V1 m v1,.slice V2 m v2,.slice V3 m v3] 34)):=zG.alloc (Nat.le_refl _) _
   have ku:Blk (w16.alloc (.cells #[.slice V1 m v1,.slice V2 m v2,.slice V3 m v3] 34)) w16.heap.size 34 #[.slice V1 m v1,.slice V2 m v2,.slice V3 m v3]:=Blk.new _ _ _
   have kt2:=(kt.below hb16 kt.lt).alloc (.cells #[.slice V1 m v1,.slice V2 m v2,.slice V3 m v3] 34)
   have hb17:=hb16.trans (hA.mono hb16.size)
   have hY17:=hY15.trans (hb17.mono hY15.size)
   replace t1:=t1.below hA
   replace t2:=t2.below hA
   replace t3:=t3.below hA
   have q2:=kt2.cell 0
   have q3:=kt2.cell 1
   have q4:=kt2.cell 2
   have q5:=ku.cell 0
   have q6:=ku.cell 1
   have q7:=ku.cell 2
   simp only[zA,zC,zB]at q2 q3 q4 q5 q6 q7
   obtain⟨w17,hw17⟩:∃ W,W=(w16.alloc (.cells #[.slice V1 m v1,.slice V2 m v2,.slice V3 m v3] 34)):=⟨_,rfl⟩
   rw[← hw17]at hb17 hY17 t1 t2 t3
   have h9:=uS m R1 R2 R3 V1 V2 V3 r1 r2 r3 v1 v2 v3 L1 L2 L3 w17 m8 P HL1.out.1 HL2.out.1 HL3.out.1 (s1.below hb17) (s2.below hb17) (s3.below hb17) t1 t2 t3
   have hW17:=HW10.out.trans (hY17.mono HW10.out.size)
   clear hcm kt hb16 hA hb17 s1 s2 s3 t1 t2 t3 HL1 HL2 HL3 hY15 hY17 HW10 ku kt2 HKD HCZ
   go_wp2_with fail
   rw[← hw17]
   clear hw17 q2 q3 q4 q5 q6 q7
   refine h9.mono ?_
   rintro e w18 ⟨rfl,hb18⟩
   have hW18:=hW17.trans (hb18.mono hW17.size)
   clear h9 hb18 hW17 HDB HPN HM8 HSL
   have hdr:=yaE B nb cb bs w18 (by omega) (HRB.out.below hW18) HBS.out (fun a e=>Nat.lt_of_lt_of_le (HBG.out a e) hW18.size)
   go_wp2_with fail
   refine hdr.mono ?_
   rintro e w40 ⟨P2,A2,k2,f2,st2,rfl,hP20,hP2,hk5,ho2,hb40⟩
   have hA:Below w40.heap.size w40 (w40.alloc (.cells #[.int .i64 P2,.slice A2 k2 f2] 26)):=zG.alloc (Nat.le_refl _) _
   have ke0:Blk (w40.alloc (.cells #[.int .i64 P2,.slice A2 k2 f2] 26)) w40.heap.size 26 #[.int .i64 P2,.slice A2 k2 f2]:=Blk.new _ _ _
   have hsz:(w40.alloc (.cells #[.int .i64 P2,.slice A2 k2 f2] 26)).heap.size=w40.heap.size+1:=by simp
   have hX41:=hW18.trans ((hb40.trans (hA.mono hb40.size)).mono hW18.size)
   have hck2:=ho2.cap
   have RS20:=(ho2.below hA).rd
   obtain⟨wf,hwf⟩:∃ W,W=(w40.alloc (.cells #[.int .i64 P2,.slice A2 k2 f2] 26)):=⟨_,rfl⟩
   rw[← hwf]at ke0 hX41 RS20 hsz
   have hsl2:st2.length=k2:=RS20.lenI
   have hba:=(yaH P2 A2 k2 f2 st2 wf (by omega) hck2 RS20).mono fun e w' h=>h.q
   have hbs:=fun w' (h:Below wf.heap.size wf w')=>(ycX P2 A2 k2 f2 st2 w' (by omega) hck2 (RS20.below h)).mono fun e w'' h=>h.q
   have HV:=Lib.hid fun i hi=>yb2 (p:=P2) (st:=st2) (i:=i) (k:=k2) (N:=pw k2) hi hsl2 rfl
   have hVL:=yb3 P2 st2
   rw[hsl2]at hba hbs hVL
   obtain⟨N,hN⟩:∃ N,N=pw k2:=⟨_,rfl⟩
   obtain⟨V,hV⟩:∃ V,V=lbaV P2 st2:=⟨_,rfl⟩
   obtain⟨z,hz⟩:∃ z,z=lbaC P2 st2:=⟨_,rfl⟩
   rw[← hV,← hN,← hz]at hba hbs
   rw[← hV,← hN]at HV
   rw[← hV]at hVL
   obtain⟨L,hL⟩:∃ L,L=V.length:=⟨_,rfl⟩
   rw[← hL]at hba hbs HV
   replace hVL:L≤3072:=by
    rw[← hL]at hVL
    have:=yz hk5
    have h2:pw k2*pw k2≤32*32:=Nat.mul_le_mul this this
    omega
   have HBS2:=Lib.hid hbs
   have HNP:=Lib.hid hN
   have hbe:=hX41
   obtain⟨q0,q1⟩:=ke0.two
   clear hdr ho2 hb40 hA hbs hV hz hN hL hW18 hX41 hsl2
   go_wp2_with fail
   rw[← hwf]
   clear hwf
   refine hba.mono ?_
   rintro e w41 ⟨Q1,b1,us,rfl,hO3,hLT,hb41⟩
   have ke1:=ke0.below hb41 ke0.lt
   have hb2:=HBS2.out w41 hb41
   have RS1:=RS20.below hb41
   have hbe1:=hbe.trans (hb41.mono hbe.size)
   clear hba HBS2 q0 q1 RS20 ke0 hbe hb41
   obtain⟨q0,q1⟩:=ke1.two
   go_wp2_with fail
   refine hb2.mono ?_
   rintro e w42 ⟨Q2,b2,vs,rfl,hO4,hLT4,hb42⟩
   have ke2:=ke1.below hb42 ke1.lt
   have RS2:=Lib.hid (RS1.below hb42)
   have hbe2:=hbe1.trans (hb42.mono hbe1.size)
   have HO3:=Lib.hid (hO3.below hb42)
   have HO4:=Lib.hid hO4
   have HL3:=Lib.hid (hLT.below hb42)
   have HL4:=Lib.hid hLT4
   have e0:(z != z)=false:=by simp
   have e1:((L:Int) != (L:Int))=false:=by simp
   have j0:(0:Int)≤(L:Int):=by omega
   have KE:=Lib.hid ke2
   have HBE:=Lib.hid hbe2
   clear hb2 ke1 q0 q1 hb42 hO3 hO4 hLT hLT4 hbe1 RS1 ke2 hbe2
   go_wp2
   go_loopw [22] (fun i wr=>∃ j:Nat,j≤L∧i=.int .i64 j∧Hid (Below w42.heap.size w42 wr)) (fun i _=>L-(intOf i).toNat)
   case atStart=>exact⟨0,by omega,rfl,Lib.hid zG⟩
   case round=>
    obtain⟨j,hj,rfl,HBr⟩:=hrel
    by_cases hlt:j<L
    ·have kr:=KE.out.below HBr.out KE.out.lt
     obtain⟨hdb,hk3,tA,tB,tC,hloc⟩:=HV.out j hlt
     obtain⟨x,hx⟩:∃ x,x=V.getD j []:=⟨_,rfl⟩
     have hl3:=HL3.out.2 j (by have:=HL3.out.1;have:=HO3.out.len;omega)
     have hl4:=HL4.out.2 j (by have:=HL4.out.1;have:=HO4.out.len;omega)
     rw[← hx]at hl3 hl4 tA tB tC hloc
     obtain⟨u1,u2,u3,x1,x2,x3,hc3⟩:=hl3
     obtain⟨E1,ka1,E2,ka2,E3,ka3,rfl,rfl,rfl,s1,s2,s3,i1,i2,i3⟩:=hc3.rd
     obtain⟨v1,v2,v3,y1,y2,y3,hc4⟩:=hl4
     obtain⟨G1,kb1,G2,kb2,G3,kb3,rfl,rfl,rfl,t1,t2,t3,l1,l2,l3⟩:=hc4.rd
     obtain⟨ga,rfl, -⟩:=HO3.out.cell (by omega)
     obtain⟨gb,rfl, -⟩:=HO4.out.cell (by omega)
     have HCC:=fun (w':World) (h:Below w42.heap.size w42 w')=>(show w'.cell? ⟨ga,j*3,none⟩=some (.slice E1 N ka1)∧w'.cell? ⟨ga,j*3+1,none⟩=some (.slice E2 N ka2)∧w'.cell? ⟨ga,j*3+2,none⟩=some (.slice E3 N ka3)∧w'.cell? ⟨gb,j*3,none⟩=some (.slice G1 N kb1)∧w'.cell? ⟨gb,j*3+1,none⟩=some (.slice G2 N kb2)∧w'.cell? ⟨gb,j*3+2,none⟩=some (.slice G3 N kb3) from by
      rw[Nat.mul_comm j 3]
      obtain⟨g5,h5,hh⟩:=(HO3.out.below h).cell (by omega)
      obtain⟨g6,h6,hh2⟩:=(HO4.out.below h).cell (by omega)
      injection h5 with h5
      injection h5 with h5
      injection h6 with h6
      injection h6 with h6
      subst h5 h6
      exact⟨hh _ _ x1,hh _ _ x2,hh _ _ x3,hh2 _ _ y1,hh2 _ _ y2,hh2 _ _ y3⟩)
     have HC:=Lib.hid fun (w':World) (h:Below wr.heap.size wr w')=>HCC w' (HBr.out.trans (h.mono HBr.out.size))
     have HI:=Lib.hid fun (w':World) (h:Below wr.heap.size wr w')=>jb P2 A2 k2 f2 st2 N E1 ka1 (mA N x) E2 ka2 (mB N x) E3 ka3 (mC N x) w' hdb (by omega) HNP.out hck2 (RS2.out.below (HBr.out.trans (h.mono HBr.out.size))) (s1.below (HBr.out.trans (h.mono HBr.out.size))) tA i1 (s2.below (HBr.out.trans (h.mono HBr.out.size))) tB i2 (s3.below (HBr.out.trans (h.mono HBr.out.size))) tC i3 hloc
     have hN8:N≤8:=by rw[HNP.out];have h2:k2≤3:=(by omega);exact yz h2
     have H9:=Lib.hid fun (w':World) (h:Below w42.heap.size w42 w')=>uS N E1 E2 E3 G1 G2 G3 ka1 ka2 ka3 kb1 kb2 kb3 (mA N x) (mB N x) (mC N x) w' hN8 P2 tA tB tC (s1.below h) (s2.below h) (s3.below h) (t1.below h) (t2.below h) (t3.below h)
     have HCC2:=Lib.hid HCC
     have b1':(0:Int)≤(j:Int):=by omega
     have b2':(j:Int)<(L:Int):=by omega
     clear hdb hk3 tA tB tC hloc hx x1 x2 x3 y1 y2 y3 hc3 hc4 s1 s2 s3 t1 t2 t3 HCC
     go_wp2
     refine yh 11 [[],[],[],[1,2],[1,2,3],[0,1,2,3,4],[0,1,2,3,4,5],[0,1,2,3,4,5,6],[0,1,2,3,4,5,6],[0,1,2,3,4,5,6,7],[0,1,2,3,4,5,6,8]] [VIs (.agg #[.int .i64 P2,.slice A2 k2 f2]),VIs (.slice (some ⟨ga,0,none⟩) L b1),VIs (.int .i64 (j)),VIs (.pointer (some ⟨ga,j*3,none⟩)),VIs (.agg #[.slice E1 N ka1,.slice E2 N ka2,.slice E3 N ka3]),VIs (.tuple #[.bool true,.int .i64 0]),VIs (.tuple #[.bool true,.int .i64 0]),VIs (.bool true),VIs (.int .i64 0),VIs (.bool true),VIs (.int .i64 0)] (fun w'=>Blk w' w40.heap.size 26 #[.int .i64 P2,.slice A2 k2 f2]∧Below wr.heap.size wr w') (by kernel_rfl) (by kernel_rfl) (fun _ _ h hb=>⟨h.1.below hb h.1.lt,h.2.trans (hb.mono h.2.size)⟩) (⟨kr.drew,zG.drew⟩) (fun x=>?_)
     refine zS (fun w' hS hV K hK=>?_) ?_
     ·obtain⟨q0,q1⟩:=hS.1.two;obtain⟨q2,q3,q4,q5,q6,q7⟩:=HC.out w' hS.2;go_simp;exact zO hK
     refine zS (fun w' hS hV K hK=>?_) ?_
     ·obtain⟨q0,q1⟩:=hS.1.two;obtain⟨q2,q3,q4,q5,q6,q7⟩:=HC.out w' hS.2;go_simp;exact zO hK
     refine zS (fun w' hS hV K hK=>?_) ?_
     ·obtain⟨q0,q1⟩:=hS.1.two;obtain⟨q2,q3,q4,q5,q6,q7⟩:=HC.out w' hS.2;go_simp;exact zO hK
     refine zS (fun w' hS hV K hK=>?_) ?_
     ·have e1:=zQ hV 1;have e2:=zQ hV 2;obtain⟨q0,q1⟩:=hS.1.two;obtain⟨q2,q3,q4,q5,q6,q7⟩:=HC.out w' hS.2;go_simp;exact zO hK
     refine zS (fun w' hS hV K hK=>?_) ?_
     ·have e3:=zQ hV 3;obtain⟨q0,q1⟩:=hS.1.two;obtain⟨q2,q3,q4,q5,q6,q7⟩:=HC.out w' hS.2;go_simp;exact zO hK
     refine zS (fun w' hS hV K hK=>?_) ?_
     ·have e0:=zQ hV 0;have e4:=zQ hV 4;obtain⟨q0,q1⟩:=hS.1.two;obtain⟨q2,q3,q4,q5,q6,q7⟩:=HC.out w' hS.2;go_simp;refine (HI.out w' hS.2).mono ?_;rintro e v1 ⟨rfl,hb⟩;exact hK.out _ _ _ rfl rfl rfl hb
     refine zS (fun w' hS hV K hK=>?_) ?_
     ·have e5:=zQ hV 5;obtain⟨q0,q1⟩:=hS.1.two;obtain⟨q2,q3,q4,q5,q6,q7⟩:=HC.out w' hS.2;go_simp;exact zO hK
     refine zS (fun w' hS hV K hK=>?_) ?_
     ·have e6:=zQ hV 6;obtain⟨q0,q1⟩:=hS.1.two;obtain⟨q2,q3,q4,q5,q6,q7⟩:=HC.out w' hS.2;go_simp;exact zO hK
     refine zS (fun w' hS hV K hK=>?_) ?_
     ·have e6:=zQ hV 6;obtain⟨q0,q1⟩:=hS.1.two;obtain⟨q2,q3,q4,q5,q6,q7⟩:=HC.out w' hS.2;go_simp;exact zO hK
     refine zS (fun w' hS hV K hK=>?_) ?_
     ·have e7:=zQ hV 7;obtain⟨q0,q1⟩:=hS.1.two;obtain⟨q2,q3,q4,q5,q6,q7⟩:=HC.out w' hS.2;go_simp;exact zO hK
     refine zS (fun w' hS hV K hK=>?_) ?_
     ·have e8:=zQ hV 8;obtain⟨q0,q1⟩:=hS.1.two;obtain⟨q2,q3,q4,q5,q6,q7⟩:=HC.out w' hS.2;go_simp;exact zO hK
     refine fun w' hS hV=>?_
     have e0:=zT hV 0
     have e1:=zT hV 1
     have e2:=zT hV 2
     have e3:=zT hV 3
     have e4:=zT hV 4
     have e5:=zT hV 5
     have e6:=zT hV 6
     have e7:=zT hV 7
     have e8:=zT hV 8
     have e9:=zT hV 9
     have e10:=zT hV 10
     simp only[e0,e1,e2,e3,e4,e5,e6,e7,e8,e9,e10]
     clear e0 e1 e2 e3 e4 e5 e6 e7 e8 e9 e10
     refine wpAny_done (by kernel_rfl) ?_ _
     obtain⟨kr2,s9⟩:=hS
     obtain⟨ws,hws⟩:∃ W,W=w':=⟨_,rfl⟩
     rw[← hws]at kr2 s9 ⊢
     have hbs:=HBr.out.trans (s9.mono HBr.out.size)
     have HCs:=Lib.hid fun (w':World) (h:Below ws.heap.size ws w')=>HCC2.out w' (hbs.trans (h.mono hbs.size))
     clear kr HC HI s9 hV hws
     have kr:=kr2
     clear kr2
     go_wp2
     refine yh 18 [[],[0],[0,1],[0,1,2],[0,1,2,3],[0,1,2,3,4],[0,1,2,3,4,5],[0,1,2,3,4,5,6],[0,1,2,3,4,5,6],[0,1,2,3,4,5,6,7,8],[0,1,2,3,4,5,6,7,8,9],[0,1,2,3,4,5,6],[0,1,2,3,4,5,6],[0,1,2,3,4,5,6,11,12],[0,1,2,3,4,5,6,11,12,13],[0,1,2,3,4,5,6,7,8,9,10,11,12,13,14],[0,1,2,3,4,5,6,7,8,9,10,11,12,13,14,15],[0,1,2,3,4,5,6,7,8,9,10,11,12,13,14,15,16]] [VIs (.int .i64 0),VIs (.bool false),VIs (.bool false),VIs (.bool true),VIs (.bool false),VIs (.bool false),VIs (.bool false),VIs (.slice (some ⟨ga,0,none⟩) L b1),VIs (.int .i64 (j)),VIs (.pointer (some ⟨ga,j*3,none⟩)),VIs (.agg #[.slice E1 N ka1,.slice E2 N ka2,.slice E3 N ka3]),VIs (.slice (some ⟨gb,0,none⟩) L b2),VIs (.int .i64 (j)),VIs (.pointer (some ⟨gb,j*3,none⟩)),VIs (.agg #[.slice G1 N kb1,.slice G2 N kb2,.slice G3 N kb3]),VIs (.bool true),VIs (.bool false),VIs (.bool false)] (fun w'=>Blk w' w40.heap.size 26 #[.int .i64 P2,.slice A2 k2 f2]∧Below ws.heap.size ws w') (by kernel_rfl) (by kernel_rfl) (fun _ _ h hb=>⟨h.1.below hb h.1.lt,h.2.trans (hb.mono h.2.size)⟩) (⟨kr.drew,zG.drew⟩) (fun x=>?_)
     refine zS (fun w' hS hV K hK=>?_) ?_
     ·obtain⟨q0,q1⟩:=hS.1.two;obtain⟨q2,q3,q4,q5,q6,q7⟩:=HCs.out w' hS.2;go_simp;exact zO hK
     refine zS (fun w' hS hV K hK=>?_) ?_
     ·have e0:=zQ hV 0;obtain⟨q0,q1⟩:=hS.1.two;obtain⟨q2,q3,q4,q5,q6,q7⟩:=HCs.out w' hS.2;go_simp;exact zO hK
     refine zS (fun w' hS hV K hK=>?_) ?_
     ·have e1:=zQ hV 1;obtain⟨q0,q1⟩:=hS.1.two;obtain⟨q2,q3,q4,q5,q6,q7⟩:=HCs.out w' hS.2;go_simp;exact zO hK
     refine zS (fun w' hS hV K hK=>?_) ?_
     ·have e2:=zQ hV 2;obtain⟨q0,q1⟩:=hS.1.two;obtain⟨q2,q3,q4,q5,q6,q7⟩:=HCs.out w' hS.2;go_simp;exact zO hK
     refine zS (fun w' hS hV K hK=>?_) ?_
     ·have e2:=zQ hV 2;have e3:=zQ hV 3;obtain⟨q0,q1⟩:=hS.1.two;obtain⟨q2,q3,q4,q5,q6,q7⟩:=HCs.out w' hS.2;go_simp;exact zO hK
     refine zS (fun w' hS hV K hK=>?_) ?_
     ·have e2:=zQ hV 2;have e4:=zQ hV 4;obtain⟨q0,q1⟩:=hS.1.two;obtain⟨q2,q3,q4,q5,q6,q7⟩:=HCs.out w' hS.2;go_simp;exact zO hK
     refine zS (fun w' hS hV K hK=>?_) ?_
     ·have e5:=zQ hV 5;obtain⟨q0,q1⟩:=hS.1.two;obtain⟨q2,q3,q4,q5,q6,q7⟩:=HCs.out w' hS.2;go_simp;exact zO hK
     refine zS (fun w' hS hV K hK=>?_) ?_
     ·have e6:=zQ hV 6;obtain⟨q0,q1⟩:=hS.1.two;obtain⟨q2,q3,q4,q5,q6,q7⟩:=HCs.out w' hS.2;go_simp;exact zO hK
     refine zS (fun w' hS hV K hK=>?_) ?_
     ·have e6:=zQ hV 6;obtain⟨q0,q1⟩:=hS.1.two;obtain⟨q2,q3,q4,q5,q6,q7⟩:=HCs.out w' hS.2;go_simp;exact zO hK
     refine zS (fun w' hS hV K hK=>?_) ?_
     ·have e6:=zQ hV 6;have e7:=zQ hV 7;have e8:=zQ hV 8;obtain⟨q0,q1⟩:=hS.1.two;obtain⟨q2,q3,q4,q5,q6,q7⟩:=HCs.out w' hS.2;go_simp;exact zO hK
     refine zS (fun w' hS hV K hK=>?_) ?_
     ·have e6:=zQ hV 6;have e9:=zQ hV 9;obtain⟨q0,q1⟩:=hS.1.two;obtain⟨q2,q3,q4,q5,q6,q7⟩:=HCs.out w' hS.2;go_simp;exact zO hK
     refine zS (fun w' hS hV K hK=>?_) ?_
     ·have e6:=zQ hV 6;obtain⟨q0,q1⟩:=hS.1.two;obtain⟨q2,q3,q4,q5,q6,q7⟩:=HCs.out w' hS.2;go_simp;exact zO hK
     refine zS (fun w' hS hV K hK=>?_) ?_
     ·have e6:=zQ hV 6;obtain⟨q0,q1⟩:=hS.1.two;obtain⟨q2,q3,q4,q5,q6,q7⟩:=HCs.out w' hS.2;go_simp;exact zO hK
     refine zS (fun w' hS hV K hK=>?_) ?_
     ·have e6:=zQ hV 6;have e11:=zQ hV 11;have e12:=zQ hV 12;obtain⟨q0,q1⟩:=hS.1.two;obtain⟨q2,q3,q4,q5,q6,q7⟩:=HCs.out w' hS.2;go_simp;exact zO hK
     refine zS (fun w' hS hV K hK=>?_) ?_
     ·have e6:=zQ hV 6;have e13:=zQ hV 13;obtain⟨q0,q1⟩:=hS.1.two;obtain⟨q2,q3,q4,q5,q6,q7⟩:=HCs.out w' hS.2;go_simp;exact zO hK
     refine zS (fun w' hS hV K hK=>?_) ?_
     ·have e6:=zQ hV 6;have e10:=zQ hV 10;have e14:=zQ hV 14;obtain⟨q0,q1⟩:=hS.1.two;obtain⟨q2,q3,q4,q5,q6,q7⟩:=HCs.out w' hS.2;go_simp;refine (H9.out w' (hbs.trans (hS.2.mono hbs.size))).mono ?_;rintro e v1 ⟨rfl,hb⟩;exact hK.out _ _ _ rfl rfl rfl hb
     refine zS (fun w' hS hV K hK=>?_) ?_
     ·have e6:=zQ hV 6;have e15:=zQ hV 15;obtain⟨q0,q1⟩:=hS.1.two;obtain⟨q2,q3,q4,q5,q6,q7⟩:=HCs.out w' hS.2;go_simp;exact zO hK
     refine zS (fun w' hS hV K hK=>?_) ?_
     ·have e6:=zQ hV 6;have e16:=zQ hV 16;obtain⟨q0,q1⟩:=hS.1.two;obtain⟨q2,q3,q4,q5,q6,q7⟩:=HCs.out w' hS.2;go_simp;exact zO hK
     refine fun w' hS hV=>?_
     have e0:=zT hV 0
     have e1:=zT hV 1
     have e2:=zT hV 2
     have e3:=zT hV 3
     have e4:=zT hV 4
     have e5:=zT hV 5
     have e6:=zT hV 6
     have e7:=zT hV 7
     have e8:=zT hV 8
     have e9:=zT hV 9
     have e10:=zT hV 10
     have e11:=zT hV 11
     have e12:=zT hV 12
     have e13:=zT hV 13
     have e14:=zT hV 14
     have e15:=zT hV 15
     have e16:=zT hV 16
     have e17:=zT hV 17
     simp only[e0,e1,e2,e3,e4,e5,e6,e7,e8,e9,e10,e11,e12,e13,e14,e15,e16,e17]
     clear e0 e1 e2 e3 e4 e5 e6 e7 e8 e9 e10 e11 e12 e13 e14 e15 e16 e17
     refine wpAny_done (by kernel_rfl) ?_ _
     obtain⟨-,s9⟩:=hS
     have HB9:=Lib.hid (hbs.trans (s9.mono hbs.size))
     clear s9 kr hbs HCs H9 HCC2
     go_wp2
     go_roundw
     case rel=>go_light;exact⟨j+1,by omega,by go_num,HB9⟩
     case measure=>go_light;simp[intOf];omega
    ·obtain rfl:j=L:=by omega
     have hfin:=HBE.out.trans (HBr.out.mono HBE.out.size)
     have b1':decide ((j:Int)<(j:Int))=false:=by simp
     go_wp2
     go_ret
     exact⟨rfl,hfin⟩
  ·replace hc1:=hc1.mono fun e w' h=>h.bad hz0
   have HC2:=Lib.hid fun w' (h:Below w3.heap.size w3 w')=>(hc2 w' h).mono fun e w' h=>h.bad hz0
   obtain⟨z0,hz⟩:∃ z,z=cmpC P st M:=⟨_,rfl⟩
   rw[← hz]at hc1 HC2 hz0
   have ez:(z0 == 0)=false:=by simpa using hz0
   have ez2:(z0 != z0)=false:=by simp
   clear hc2 hz hrs hrx hsl
   go_wp2_with fail
   rw[← hw3]
   clear hw3
   refine hc1.mono ?_
   rintro e w22 ⟨rfl,hb22⟩
   have hA:Below w22.heap.size w22 (w22.alloc (.cells #[.slice none 0 0,.slice none 0 0,.slice none 0 0] 34)):=zG.alloc (Nat.le_refl _) _
   have kt:Blk (w22.alloc (.cells #[.slice none 0 0,.slice none 0 0,.slice none 0 0] 34)) w22.heap.size 34 #[.slice none 0 0,.slice none 0 0,.slice none 0 0]:=Blk.new _ _ _
   have kd2:=(kd.below hb22 kd.lt).alloc (.cells #[.slice none 0 0,.slice none 0 0,.slice none 0 0] 34)
   have hY:=hb22.trans (hA.mono hb22.size)
   clear q0 q1
   obtain⟨q0,q1⟩:=kd2.two
   obtain⟨w23,hw23⟩:∃ W,W=(w22.alloc (.cells #[.slice none 0 0,.slice none 0 0,.slice none 0 0] 34)):=⟨_,rfl⟩
   rw[← hw23]at kt kd2 hY
   have hp2:=HC2.out w23 hY
   clear hc1 HC2 kd hb22 hA
   go_wp2_with fail
   rw[← hw23]
   clear hw23
   refine hp2.mono ?_
   rintro e w24 ⟨rfl,hb24⟩
   have hA:Below w24.heap.size w24 (w24.alloc (.cells #[.slice none 0 0,.slice none 0 0,.slice none 0 0] 34)):=zG.alloc (Nat.le_refl _) _
   have ku:Blk (w24.alloc (.cells #[.slice none 0 0,.slice none 0 0,.slice none 0 0] 34)) w24.heap.size 34 #[.slice none 0 0,.slice none 0 0,.slice none 0 0]:=Blk.new _ _ _
   have kt2:=(kt.below hb24 kt.lt).alloc (.cells #[.slice none 0 0,.slice none 0 0,.slice none 0 0] 34)
   have hY25:=(hY.trans (hb24.mono hY.size)).trans (hA.mono (hY.trans (hb24.mono hY.size)).size)
   have q2:=kt2.cell 0
   have q3:=kt2.cell 1
   have q4:=kt2.cell 2
   have q5:=ku.cell 0
   have q6:=ku.cell 1
   have q7:=ku.cell 2
   simp only[zA,zC,zB]at q2 q3 q4 q5 q6 q7
   obtain⟨w25,hw25⟩:∃ W,W=(w24.alloc (.cells #[.slice none 0 0,.slice none 0 0,.slice none 0 0] 34)):=⟨_,rfl⟩
   rw[← hw25]at ku kt2 hY25
   have h9:=uS 0 none none none none none none 0 0 0 0 0 0 [] [] [] w25 (by omega) 2 (fun x hx=>by cases hx) (fun x hx=>by cases hx) (fun x hx=>by cases hx) (RdII.nil _ _) (RdII.nil _ _) (RdII.nil _ _) (RdII.nil _ _) (RdII.nil _ _) (RdII.nil _ _)
   clear hp2 kt kd2 hb24 hA q0 q1 hY
   go_wp2_with fail
   rw[← hw25]
   clear hw25
   refine h9.mono ?_
   rintro e w26 ⟨rfl,hb26⟩
   have kt3:=kt2.below hb26 kt2.lt
   clear h9 q2 q3 q4 q5 q6 q7 kt2 ku
   have q2:=kt3.cell 0
   simp at q2
   have hW25:=hX3.trans (hY25.mono hX3.size)
   have hW26:=hW25.trans (hb26.mono hW25.size)
   clear hY25 hW25 hb26 kt3 hX3 hz0
   have hdr:=yaE B nb cb bs w26 (by omega) (HRB.out.below hW26) HBS.out (fun a e=>Nat.lt_of_lt_of_le (HBG.out a e) hW26.size)
   go_wp2_with fail
   refine hdr.mono ?_
   rintro e w40 ⟨P2,A2,k2,f2,st2,rfl,hP20,hP2,hk5,ho2,hb40⟩
   have hA:Below w40.heap.size w40 (w40.alloc (.cells #[.int .i64 P2,.slice A2 k2 f2] 26)):=zG.alloc (Nat.le_refl _) _
   have ke0:Blk (w40.alloc (.cells #[.int .i64 P2,.slice A2 k2 f2] 26)) w40.heap.size 26 #[.int .i64 P2,.slice A2 k2 f2]:=Blk.new _ _ _
   have hsz:(w40.alloc (.cells #[.int .i64 P2,.slice A2 k2 f2] 26)).heap.size=w40.heap.size+1:=by simp
   have hX41:=hW26.trans ((hb40.trans (hA.mono hb40.size)).mono hW26.size)
   have hck2:=ho2.cap
   have RS20:=(ho2.below hA).rd
   obtain⟨wf,hwf⟩:∃ W,W=(w40.alloc (.cells #[.int .i64 P2,.slice A2 k2 f2] 26)):=⟨_,rfl⟩
   rw[← hwf]at ke0 hX41 RS20 hsz
   have hsl2:st2.length=k2:=RS20.lenI
   have hba:=(yaH P2 A2 k2 f2 st2 wf (by omega) hck2 RS20).mono fun e w' h=>h.q
   have hbs:=fun w' (h:Below wf.heap.size wf w')=>(ycX P2 A2 k2 f2 st2 w' (by omega) hck2 (RS20.below h)).mono fun e w'' h=>h.q
   have HV:=Lib.hid fun i hi=>yb2 (p:=P2) (st:=st2) (i:=i) (k:=k2) (N:=pw k2) hi hsl2 rfl
   have hVL:=yb3 P2 st2
   rw[hsl2]at hba hbs hVL
   obtain⟨N,hN⟩:∃ N,N=pw k2:=⟨_,rfl⟩
   obtain⟨V,hV⟩:∃ V,V=lbaV P2 st2:=⟨_,rfl⟩
   obtain⟨z,hz⟩:∃ z,z=lbaC P2 st2:=⟨_,rfl⟩
   rw[← hV,← hN,← hz]at hba hbs
   rw[← hV,← hN]at HV
   rw[← hV]at hVL
   obtain⟨L,hL⟩:∃ L,L=V.length:=⟨_,rfl⟩
   rw[← hL]at hba hbs HV
   replace hVL:L≤3072:=by
    rw[← hL]at hVL
    have:=yz hk5
    have h2:pw k2*pw k2≤32*32:=Nat.mul_le_mul this this
    omega
   have HBS2:=Lib.hid hbs
   have HNP:=Lib.hid hN
   have hbe:=hX41
   obtain⟨q0,q1⟩:=ke0.two
   clear hdr ho2 hb40 hA hbs hV hz hN hL hW26 hX41 hsl2
   go_wp2_with fail
   rw[← hwf]
   clear hwf
   refine hba.mono ?_
   rintro e w41 ⟨Q1,b1,us,rfl,hO3,hLT,hb41⟩
   have ke1:=ke0.below hb41 ke0.lt
   have hb2:=HBS2.out w41 hb41
   have RS1:=RS20.below hb41
   have hbe1:=hbe.trans (hb41.mono hbe.size)
   clear hba HBS2 q0 q1 RS20 ke0 hbe hb41
   obtain⟨q0,q1⟩:=ke1.two
   go_wp2_with fail
   refine hb2.mono ?_
   rintro e w42 ⟨Q2,b2,vs,rfl,hO4,hLT4,hb42⟩
   have ke2:=ke1.below hb42 ke1.lt
   have RS2:=Lib.hid (RS1.below hb42)
   have hbe2:=hbe1.trans (hb42.mono hbe1.size)
   have HO3:=Lib.hid (hO3.below hb42)
   have HO4:=Lib.hid hO4
   have HL3:=Lib.hid (hLT.below hb42)
   have HL4:=Lib.hid hLT4
   have e0:(z != z)=false:=by simp
   have e1:((L:Int) != (L:Int))=false:=by simp
   have j0:(0:Int)≤(L:Int):=by omega
   have KE:=Lib.hid ke2
   have HBE:=Lib.hid hbe2
   clear hb2 ke1 q0 q1 hb42 hO3 hO4 hLT hLT4 hbe1 RS1 ke2 hbe2
   go_wp2
   go_loopw [22] (fun i wr=>∃ j:Nat,j≤L∧i=.int .i64 j∧Hid (Below w42.heap.size w42 wr)) (fun i _=>L-(intOf i).toNat)
   case atStart=>exact⟨0,by omega,rfl,Lib.hid zG⟩
   case round=>
    obtain⟨j,hj,rfl,HBr⟩:=hrel
    by_cases hlt:j<L
    ·have kr:=KE.out.below HBr.out KE.out.lt
     obtain⟨hdb,hk3,tA,tB,tC,hloc⟩:=HV.out j hlt
     obtain⟨x,hx⟩:∃ x,x=V.getD j []:=⟨_,rfl⟩
     have hl3:=HL3.out.2 j (by have:=HL3.out.1;have:=HO3.out.len;omega)
     have hl4:=HL4.out.2 j (by have:=HL4.out.1;have:=HO4.out.len;omega)
     rw[← hx]at hl3 hl4 tA tB tC hloc
     obtain⟨u1,u2,u3,x1,x2,x3,hc3⟩:=hl3
     obtain⟨E1,ka1,E2,ka2,E3,ka3,rfl,rfl,rfl,s1,s2,s3,i1,i2,i3⟩:=hc3.rd
     obtain⟨v1,v2,v3,y1,y2,y3,hc4⟩:=hl4
     obtain⟨G1,kb1,G2,kb2,G3,kb3,rfl,rfl,rfl,t1,t2,t3,l1,l2,l3⟩:=hc4.rd
     obtain⟨ga,rfl, -⟩:=HO3.out.cell (by omega)
     obtain⟨gb,rfl, -⟩:=HO4.out.cell (by omega)
     have HCC:=fun (w':World) (h:Below w42.heap.size w42 w')=>(show w'.cell? ⟨ga,j*3,none⟩=some (.slice E1 N ka1)∧w'.cell? ⟨ga,j*3+1,none⟩=some (.slice E2 N ka2)∧w'.cell? ⟨ga,j*3+2,none⟩=some (.slice E3 N ka3)∧w'.cell? ⟨gb,j*3,none⟩=some (.slice G1 N kb1)∧w'.cell? ⟨gb,j*3+1,none⟩=some (.slice G2 N kb2)∧w'.cell? ⟨gb,j*3+2,none⟩=some (.slice G3 N kb3) from by
      rw[Nat.mul_comm j 3]
      obtain⟨g5,h5,hh⟩:=(HO3.out.below h).cell (by omega)
      obtain⟨g6,h6,hh2⟩:=(HO4.out.below h).cell (by omega)
      injection h5 with h5
      injection h5 with h5
      injection h6 with h6
      injection h6 with h6
      subst h5 h6
      exact⟨hh _ _ x1,hh _ _ x2,hh _ _ x3,hh2 _ _ y1,hh2 _ _ y2,hh2 _ _ y3⟩)
     have HC:=Lib.hid fun (w':World) (h:Below wr.heap.size wr w')=>HCC w' (HBr.out.trans (h.mono HBr.out.size))
     have HI:=Lib.hid fun (w':World) (h:Below wr.heap.size wr w')=>jb P2 A2 k2 f2 st2 N E1 ka1 (mA N x) E2 ka2 (mB N x) E3 ka3 (mC N x) w' hdb (by omega) HNP.out hck2 (RS2.out.below (HBr.out.trans (h.mono HBr.out.size))) (s1.below (HBr.out.trans (h.mono HBr.out.size))) tA i1 (s2.below (HBr.out.trans (h.mono HBr.out.size))) tB i2 (s3.below (HBr.out.trans (h.mono HBr.out.size))) tC i3 hloc
     have hN8:N≤8:=by rw[HNP.out];have h2:k2≤3:=(by omega);exact yz h2
     have H9:=Lib.hid fun (w':World) (h:Below w42.heap.size w42 w')=>uS N E1 E2 E3 G1 G2 G3 ka1 ka2 ka3 kb1 kb2 kb3 (mA N x) (mB N x) (mC N x) w' hN8 P2 tA tB tC (s1.below h) (s2.below h) (s3.below h) (t1.below h) (t2.below h) (t3.below h)
     have HCC2:=Lib.hid HCC
     have b1':(0:Int)≤(j:Int):=by omega
     have b2':(j:Int)<(L:Int):=by omega
     clear hdb hk3 tA tB tC hloc hx x1 x2 x3 y1 y2 y3 hc3 hc4 s1 s2 s3 t1 t2 t3 HCC
     go_wp2
     refine yh 11 [[],[],[],[1,2],[1,2,3],[0,1,2,3,4],[0,1,2,3,4,5],[0,1,2,3,4,5,6],[0,1,2,3,4,5,6],[0,1,2,3,4,5,6,7],[0,1,2,3,4,5,6,8]] [VIs (.agg #[.int .i64 P2,.slice A2 k2 f2]),VIs (.slice (some ⟨ga,0,none⟩) L b1),VIs (.int .i64 (j)),VIs (.pointer (some ⟨ga,j*3,none⟩)),VIs (.agg #[.slice E1 N ka1,.slice E2 N ka2,.slice E3 N ka3]),VIs (.tuple #[.bool true,.int .i64 0]),VIs (.tuple #[.bool true,.int .i64 0]),VIs (.bool true),VIs (.int .i64 0),VIs (.bool true),VIs (.int .i64 0)] (fun w'=>Blk w' w40.heap.size 26 #[.int .i64 P2,.slice A2 k2 f2]∧Below wr.heap.size wr w') (by kernel_rfl) (by kernel_rfl) (fun _ _ h hb=>⟨h.1.below hb h.1.lt,h.2.trans (hb.mono h.2.size)⟩) (⟨kr.drew,zG.drew⟩) (fun x=>?_)
     refine zS (fun w' hS hV K hK=>?_) ?_
     ·obtain⟨q0,q1⟩:=hS.1.two;obtain⟨q2,q3,q4,q5,q6,q7⟩:=HC.out w' hS.2;go_simp;exact zO hK
     refine zS (fun w' hS hV K hK=>?_) ?_
     ·obtain⟨q0,q1⟩:=hS.1.two;obtain⟨q2,q3,q4,q5,q6,q7⟩:=HC.out w' hS.2;go_simp;exact zO hK
     refine zS (fun w' hS hV K hK=>?_) ?_
     ·obtain⟨q0,q1⟩:=hS.1.two;obtain⟨q2,q3,q4,q5,q6,q7⟩:=HC.out w' hS.2;go_simp;exact zO hK
     refine zS (fun w' hS hV K hK=>?_) ?_
     ·have e1:=zQ hV 1;have e2:=zQ hV 2;obtain⟨q0,q1⟩:=hS.1.two;obtain⟨q2,q3,q4,q5,q6,q7⟩:=HC.out w' hS.2;go_simp;exact zO hK
     refine zS (fun w' hS hV K hK=>?_) ?_
     ·have e3:=zQ hV 3;obtain⟨q0,q1⟩:=hS.1.two;obtain⟨q2,q3,q4,q5,q6,q7⟩:=HC.out w' hS.2;go_simp;exact zO hK
     refine zS (fun w' hS hV K hK=>?_) ?_
     ·have e0:=zQ hV 0;have e4:=zQ hV 4;obtain⟨q0,q1⟩:=hS.1.two;obtain⟨q2,q3,q4,q5,q6,q7⟩:=HC.out w' hS.2;go_simp;refine (HI.out w' hS.2).mono ?_;rintro e v1 ⟨rfl,hb⟩;exact hK.out _ _ _ rfl rfl rfl hb
     refine zS (fun w' hS hV K hK=>?_) ?_
     ·have e5:=zQ hV 5;obtain⟨q0,q1⟩:=hS.1.two;obtain⟨q2,q3,q4,q5,q6,q7⟩:=HC.out w' hS.2;go_simp;exact zO hK
     refine zS (fun w' hS hV K hK=>?_) ?_
     ·have e6:=zQ hV 6;obtain⟨q0,q1⟩:=hS.1.two;obtain⟨q2,q3,q4,q5,q6,q7⟩:=HC.out w' hS.2;go_simp;exact zO hK
     refine zS (fun w' hS hV K hK=>?_) ?_
     ·have e6:=zQ hV 6;obtain⟨q0,q1⟩:=hS.1.two;obtain⟨q2,q3,q4,q5,q6,q7⟩:=HC.out w' hS.2;go_simp;exact zO hK
     refine zS (fun w' hS hV K hK=>?_) ?_
     ·have e7:=zQ hV 7;obtain⟨q0,q1⟩:=hS.1.two;obtain⟨q2,q3,q4,q5,q6,q7⟩:=HC.out w' hS.2;go_simp;exact zO hK
     refine zS (fun w' hS hV K hK=>?_) ?_
     ·have e8:=zQ hV 8;obtain⟨q0,q1⟩:=hS.1.two;obtain⟨q2,q3,q4,q5,q6,q7⟩:=HC.out w' hS.2;go_simp;exact zO hK
     refine fun w' hS hV=>?_
     have e0:=zT hV 0
     have e1:=zT hV 1
     have e2:=zT hV 2
     have e3:=zT hV 3
     have e4:=zT hV 4
     have e5:=zT hV 5
     have e6:=zT hV 6
     have e7:=zT hV 7
     have e8:=zT hV 8
     have e9:=zT hV 9
     have e10:=zT hV 10
     simp only[e0,e1,e2,e3,e4,e5,e6,e7,e8,e9,e10]
     clear e0 e1 e2 e3 e4 e5 e6 e7 e8 e9 e10
     refine wpAny_done (by kernel_rfl) ?_ _
     obtain⟨kr2,s9⟩:=hS
     obtain⟨ws,hws⟩:∃ W,W=w':=⟨_,rfl⟩
     rw[← hws]at kr2 s9 ⊢
     have hbs:=HBr.out.trans (s9.mono HBr.out.size)
     have HCs:=Lib.hid fun (w':World) (h:Below ws.heap.size ws w')=>HCC2.out w' (hbs.trans (h.mono hbs.size))
     clear kr HC HI s9 hV hws
     have kr:=kr2
     clear kr2
     go_wp2
     refine yh 18 [[],[0],[0,1],[0,1,2],[0,1,2,3],[0,1,2,3,4],[0,1,2,3,4,5],[0,1,2,3,4,5,6],[0,1,2,3,4,5,6],[0,1,2,3,4,5,6,7,8],[0,1,2,3,4,5,6,7,8,9],[0,1,2,3,4,5,6],[0,1,2,3,4,5,6],[0,1,2,3,4,5,6,11,12],[0,1,2,3,4,5,6,11,12,13],[0,1,2,3,4,5,6,7,8,9,10,11,12,13,14],[0,1,2,3,4,5,6,7,8,9,10,11,12,13,14,15],[0,1,2,3,4,5,6,7,8,9,10,11,12,13,14,15,16]] [VIs (.int .i64 0),VIs (.bool false),VIs (.bool false),VIs (.bool true),VIs (.bool false),VIs (.bool false),VIs (.bool false),VIs (.slice (some ⟨ga,0,none⟩) L b1),VIs (.int .i64 (j)),VIs (.pointer (some ⟨ga,j*3,none⟩)),VIs (.agg #[.slice E1 N ka1,.slice E2 N ka2,.slice E3 N ka3]),VIs (.slice (some ⟨gb,0,none⟩) L b2),VIs (.int .i64 (j)),VIs (.pointer (some ⟨gb,j*3,none⟩)),VIs (.agg #[.slice G1 N kb1,.slice G2 N kb2,.slice G3 N kb3]),VIs (.bool true),VIs (.bool false),VIs (.bool false)] (fun w'=>Blk w' w40.heap.size 26 #[.int .i64 P2,.slice A2 k2 f2]∧Below ws.heap.size ws w') (by kernel_rfl) (by kernel_rfl) (fun _ _ h hb=>⟨h.1.below hb h.1.lt,h.2.trans (hb.mono h.2.size)⟩) (⟨kr.drew,zG.drew⟩) (fun x=>?_)
     refine zS (fun w' hS hV K hK=>?_) ?_
     ·obtain⟨q0,q1⟩:=hS.1.two;obtain⟨q2,q3,q4,q5,q6,q7⟩:=HCs.out w' hS.2;go_simp;exact zO hK
     refine zS (fun w' hS hV K hK=>?_) ?_
     ·have e0:=zQ hV 0;obtain⟨q0,q1⟩:=hS.1.two;obtain⟨q2,q3,q4,q5,q6,q7⟩:=HCs.out w' hS.2;go_simp;exact zO hK
     refine zS (fun w' hS hV K hK=>?_) ?_
     ·have e1:=zQ hV 1;obtain⟨q0,q1⟩:=hS.1.two;obtain⟨q2,q3,q4,q5,q6,q7⟩:=HCs.out w' hS.2;go_simp;exact zO hK
     refine zS (fun w' hS hV K hK=>?_) ?_
     ·have e2:=zQ hV 2;obtain⟨q0,q1⟩:=hS.1.two;obtain⟨q2,q3,q4,q5,q6,q7⟩:=HCs.out w' hS.2;go_simp;exact zO hK
     refine zS (fun w' hS hV K hK=>?_) ?_
     ·have e2:=zQ hV 2;have e3:=zQ hV 3;obtain⟨q0,q1⟩:=hS.1.two;obtain⟨q2,q3,q4,q5,q6,q7⟩:=HCs.out w' hS.2;go_simp;exact zO hK
     refine zS (fun w' hS hV K hK=>?_) ?_
     ·have e2:=zQ hV 2;have e4:=zQ hV 4;obtain⟨q0,q1⟩:=hS.1.two;obtain⟨q2,q3,q4,q5,q6,q7⟩:=HCs.out w' hS.2;go_simp;exact zO hK
     refine zS (fun w' hS hV K hK=>?_) ?_
     ·have e5:=zQ hV 5;obtain⟨q0,q1⟩:=hS.1.two;obtain⟨q2,q3,q4,q5,q6,q7⟩:=HCs.out w' hS.2;go_simp;exact zO hK
     refine zS (fun w' hS hV K hK=>?_) ?_
     ·have e6:=zQ hV 6;obtain⟨q0,q1⟩:=hS.1.two;obtain⟨q2,q3,q4,q5,q6,q7⟩:=HCs.out w' hS.2;go_simp;exact zO hK
     refine zS (fun w' hS hV K hK=>?_) ?_
     ·have e6:=zQ hV 6;obtain⟨q0,q1⟩:=hS.1.two;obtain⟨q2,q3,q4,q5,q6,q7⟩:=HCs.out w' hS.2;go_simp;exact zO hK
     refine zS (fun w' hS hV K hK=>?_) ?_
     ·have e6:=zQ hV 6;have e7:=zQ hV 7;have e8:=zQ hV 8;obtain⟨q0,q1⟩:=hS.1.two;obtain⟨q2,q3,q4,q5,q6,q7⟩:=HCs.out w' hS.2;go_simp;exact zO hK
     refine zS (fun w' hS hV K hK=>?_) ?_
     ·have e6:=zQ hV 6;have e9:=zQ hV 9;obtain⟨q0,q1⟩:=hS.1.two;obtain⟨q2,q3,q4,q5,q6,q7⟩:=HCs.out w' hS.2;go_simp;exact zO hK
     refine zS (fun w' hS hV K hK=>?_) ?_
     ·have e6:=zQ hV 6;obtain⟨q0,q1⟩:=hS.1.two;obtain⟨q2,q3,q4,q5,q6,q7⟩:=HCs.out w' hS.2;go_simp;exact zO hK
     refine zS (fun w' hS hV K hK=>?_) ?_
     ·have e6:=zQ hV 6;obtain⟨q0,q1⟩:=hS.1.two;obtain⟨q2,q3,q4,q5,q6,q7⟩:=HCs.out w' hS.2;go_simp;exact zO hK
     refine zS (fun w' hS hV K hK=>?_) ?_
     ·have e6:=zQ hV 6;have e11:=zQ hV 11;have e12:=zQ hV 12;obtain⟨q0,q1⟩:=hS.1.two;obtain⟨q2,q3,q4,q5,q6,q7⟩:=HCs.out w' hS.2;go_simp;exact zO hK
     refine zS (fun w' hS hV K hK=>?_) ?_
     ·have e6:=zQ hV 6;have e13:=zQ hV 13;obtain⟨q0,q1⟩:=hS.1.two;obtain⟨q2,q3,q4,q5,q6,q7⟩:=HCs.out w' hS.2;go_simp;exact zO hK
     refine zS (fun w' hS hV K hK=>?_) ?_
     ·have e6:=zQ hV 6;have e10:=zQ hV 10;have e14:=zQ hV 14;obtain⟨q0,q1⟩:=hS.1.two;obtain⟨q2,q3,q4,q5,q6,q7⟩:=HCs.out w' hS.2;go_simp;refine (H9.out w' (hbs.trans (hS.2.mono hbs.size))).mono ?_;rintro e v1 ⟨rfl,hb⟩;exact hK.out _ _ _ rfl rfl rfl hb
     refine zS (fun w' hS hV K hK=>?_) ?_
     ·have e6:=zQ hV 6;have e15:=zQ hV 15;obtain⟨q0,q1⟩:=hS.1.two;obtain⟨q2,q3,q4,q5,q6,q7⟩:=HCs.out w' hS.2;go_simp;exact zO hK
     refine zS (fun w' hS hV K hK=>?_) ?_
     ·have e6:=zQ hV 6;have e16:=zQ hV 16;obtain⟨q0,q1⟩:=hS.1.two;obtain⟨q2,q3,q4,q5,q6,q7⟩:=HCs.out w' hS.2;go_simp;exact zO hK
     refine fun w' hS hV=>?_
     have e0:=zT hV 0
     have e1:=zT hV 1
     have e2:=zT hV 2
     have e3:=zT hV 3
     have e4:=zT hV 4
     have e5:=zT hV 5
     have e6:=zT hV 6
     have e7:=zT hV 7
     have e8:=zT hV 8
     have e9:=zT hV 9
     have e10:=zT hV 10
     have e11:=zT hV 11
     have e12:=zT hV 12
     have e13:=zT hV 13
     have e14:=zT hV 14
     have e15:=zT hV 15
     have e16:=zT hV 16
     have e17:=zT hV 17
     simp only[e0,e1,e2,e3,e4,e5,e6,e7,e8,e9,e10,e11,e12,e13,e14,e15,e16,e17]
     clear e0 e1 e2 e3 e4 e5 e6 e7 e8 e9 e10 e11 e12 e13 e14 e15 e16 e17
     refine wpAny_done (by kernel_rfl) ?_ _
     obtain⟨-,s9⟩:=hS
     have HB9:=Lib.hid (hbs.trans (s9.mono hbs.size))
     clear s9 kr hbs HCs H9 HCC2
     go_wp2
     go_roundw
     case rel=>go_light;exact⟨j+1,by omega,by go_num,HB9⟩
     case measure=>go_light;simp[intOf];omega
    ·obtain rfl:j=L:=by omega
     have hfin:=HBE.out.trans (HBr.out.mono HBE.out.size)
     have b1':decide ((j:Int)<(j:Int))=false:=by simp
     go_wp2
     go_ret
     exact⟨rfl,hfin⟩
end Go.Proofs.YtaiegpggccdgoaaGreat

/-
  LawFnCompleteTriples: part 12 of the texts that the proof needs. No condition.
-/
import Derived.Test.YtaiegpggccdgoaaGreatK11
namespace Go.Proofs.YtaiegpggccdgoaaGreat
open Go Go.RowKit
def cmpC (p:Int) (st:List Int) (M:List (List Int)):Int:=if yH p st [] [M]=0 then (if st.length=3∧xk p 3 st M=true then 0 else 5) else yH p st [] [M]
def CmpP (p:Int) (st:List Int) (M:List (List Int)) (w:World) (e:Ending) (w':World):Prop:=
 (cmpC p st M≠0∧e=.returned (.tuple #[.agg #[.slice none 0 0,.slice none 0 0,.slice none 0 0],.int .i64 (cmpC p st M)])∧Below w.heap.size w w') ∨
 (cmpC p st M=0 ∧ ∃ u1 u2 u3,e=.returned (.tuple #[.agg #[u1,u2,u3],.int .i64 0])∧CT w' w.heap.size 8 (cmpL p st M) u1 u2 u3∧Below w.heap.size w w')
theorem CT.set3 {w:World} {B n:Nat} {x:List Int} {u1 u2 u3 a b d x' y' z':Value} {res:Nat} (h:CT w B n x u1 u2 u3) (k:Blk w res 34 #[a,b,d]):CT (((w.setCell ⟨res,0,none⟩ x').setCell ⟨res,1,none⟩ y').setCell ⟨res,2,none⟩ z') B n x u1 u2 u3:=by
 rcases h with ⟨g,c,e1,e2,e3,ho⟩ | ⟨A1,c1,A2,c2,A3,c3,e1,e2,e3,h1,h2,h3⟩
 ·exact .inl ⟨g,c,e1,e2,e3,ho.set3 k⟩
 ·exact .inr ⟨A1,c1,A2,c2,A3,c3,e1,e2,e3,h1.set3 k,h2.set3 k,h3.set3 k⟩
theorem jU {p:Int} {k:Nat} (hk:k≤4) {M:List (List Int)} (h:isMx p k M=true):M.length=pw k∧Tab p (pw k) M:=by
 rw[ybM hk,Bool.and_eq_true,beq_iff_eq,List.all_eq_true]at h
 exact⟨h.2,fun r hr=>qu (h.1 r hr)⟩
theorem yaq {p:Int} {k:Nat} {st:List Int} {M:List (List Int)}:xk p k st M=true↔SkM p st k (ent M):=by
 unfold xk
 rw[uO]
 unfold SkM gapS
 constructor
 ·intro h i q hi hq
  have:=h i q hi hq
  rw[uP st hi hq]at this
  exact Int.dvd_of_emod_eq_zero this
 ·intro h i q hi hq
  rw[uP st hi hq]
  exact Int.emod_eq_zero_of_dvd (h i q hi hq)
set_option maxHeartbeats 12800000 in
set_option maxRecDepth 8000 in
theorem yhv (p:Int) (A:Option Addr) (k c:Nat) (st:List Int) (m:Option Addr) (n cm:Nat) (M:List (List Int)) (w:World) (hk6:k≤65536) (hc:k≤c) (hn:n≤1048576) (hcm:n≤cm) (hM:okM3 M) (ha:Rd w A k (ints st)) (hm:RdII w m n M) :
 Calls Tryz.prog 36 #[.agg #[.int .i64 p,.slice A k c],.slice m n cm] w (CmpP p st M w):=by
 have hB3:Below w.heap.size w (((w.alloc (.cells #[.int .i64 p,.slice A k c] 26)).alloc (.cells #[.slice none 0 0,.slice none 0 0,.slice none 0 0] 34)).alloc (.cells #[.slice m n cm] 32)):=((zG.alloc (Nat.le_refl _) _).alloc (by simp) _).alloc (by simp;omega) _
 have k0:Blk (((w.alloc (.cells #[.int .i64 p,.slice A k c] 26)).alloc (.cells #[.slice none 0 0,.slice none 0 0,.slice none 0 0] 34)).alloc (.cells #[.slice m n cm] 32)) w.heap.size 26 #[.int .i64 p,.slice A k c]:=((Blk.new _ _ _).alloc _).alloc _
 have kr0:Blk (((w.alloc (.cells #[.int .i64 p,.slice A k c] 26)).alloc (.cells #[.slice none 0 0,.slice none 0 0,.slice none 0 0] 34)).alloc (.cells #[.slice m n cm] 32)) (w.heap.size+1) 34 #[.slice none 0 0,.slice none 0 0,.slice none 0 0]:=(Blk.newAt3 (w:=w.alloc (.cells #[.int .i64 p,.slice A k c] 26)) (by simp)).alloc _
 have kx:Blk (((w.alloc (.cells #[.int .i64 p,.slice A k c] 26)).alloc (.cells #[.slice none 0 0,.slice none 0 0,.slice none 0 0] 34)).alloc (.cells #[.slice m n cm] 32)) (w.heap.size+1+1) 32 #[.slice m n cm]:=Blk.newAt3 (w:=((w.alloc (.cells #[.int .i64 p,.slice A k c] 26)).alloc (.cells #[.slice none 0 0,.slice none 0 0,.slice none 0 0] 34))) (by simp)
 have hml:M.length=n:=hm.len
 have hsl:st.length=k:=ha.lenI
 have hrx:RdM3 (((w.alloc (.cells #[.int .i64 p,.slice A k c] 26)).alloc (.cells #[.slice none 0 0,.slice none 0 0,.slice none 0 0] 34)).alloc (.cells #[.slice m n cm] 32)) (some ⟨w.heap.size+1+1,0,none⟩) 1 [M]:=ycG kx (hm.below hB3) hcm
 have hck:=yfU p A (some ⟨w.heap.size+1+1,0,none⟩) k c 1 st M (((w.alloc (.cells #[.int .i64 p,.slice A k c] 26)).alloc (.cells #[.slice none 0 0,.slice none 0 0,.slice none 0 0] 34)).alloc (.cells #[.slice m n cm] 32)) hk6 (ha.below hB3) hrx hM
 obtain⟨co,hco⟩:∃ z,z=yH p st [] [M]:=⟨_,rfl⟩
 rw[← hco]at hck
 obtain⟨q0,q1⟩:=k0.two
 by_cases h0:co=0
 ·subst h0
  obtain⟨hdb,h3, -,hmx⟩:=vm hco.symm
  obtain⟨HP, -,hst⟩:=ze hdb
  obtain⟨hp3,hp2⟩:=yk HP
  rw[hsl]at h3
  have hmm:=hmx M (by simp)
  rw[hsl]at hmm
  obtain⟨hl8,hTM⟩:=jU (by omega) hmm
  have hstn:NumsL p st:=fun y hy=>by have:=hst y hy;omega
  have hun:=qt hdb
  rw[hsl]at hun
  by_cases hk3:k=3
  ·subst hk3
   rw[pw3]at hl8 hTM
   obtain rfl:n=8:=by omega
   have hsk:=fun w' (h:Below w.heap.size w w')=>yfW p (by omega) hp2 3 (by omega) A c st m cm M w' hc (ha.below h) hstn (hm.below h) hTM
   obtain⟨b,hb⟩:∃ z,z=xk p 3 st M:=⟨_,rfl⟩
   rw[← hb]at hsk
   have HSK:=Lib.hid hsk
   have HCB:Hid (cmpC p st M=if b=true then 0 else 5):=Lib.hid (by unfold cmpC;rw[← hco,if_pos rfl,hsl,← hb];cases b<;>simp)
   have HSL:=Lib.hid hsl
   cases b with
   | true=>
    have HN:Hid (cmpC p st M=0):=Lib.hid (by rw[HCB.out];rfl)
    have hin:=fun w' (h:Below w.heap.size w w')=>ybY p HP 3 (by omega) A c st w' hc (ha.below h) hst
    rw[n192]at hin
    have hkl:=ybN HP hun
    have hkd:yI p (locS p 3 st) 192=kbT p st:=rfl
    rw[hkd,hkl]at hin
    have HLU:Hid (∀ i,i<28→ld (kbT p st) i<64):=Lib.hid fun i hi=>(yca HP hun (by omega)).1
    have HKT:Hid (Tab p 192 (kbT p st)):=Lib.hid (yfr (by omega) st)
    have HFIN:Hid (zh p (kbT p st) M 28=cmpL p st M):=Lib.hid (by unfold cmpL;rw[hkl])
    obtain⟨KB,hKB⟩:∃ z,z=kbT p st:=⟨_,rfl⟩
    rw[← hKB]at hin HLU HKT HFIN
    have HIN:=Lib.hid hin
    have HTM:=Lib.hid hTM
    have hcut:=fun (w':World) (X:Option Addr) (cx:Nat) (hcx:192≤cx) (xs:List Int) (hx:Rd w' X 192 (ints xs))=>ybZ p A 3 c X 192 cx 8 64 xs w' (by omega) pw3.symm rfl rfl hcx hx
    have HCUT:=Lib.hid hcut
    have HM0:=Lib.hid hm
    clear hco hdb HP hst hun hmx hmm hl8 hb hsk hin hkl hkd hKB hTM hcut ha hm hrx hsl hml HCB
    go_enter Tryz.func36,Tryz.ntmps36
    go_wp2_with fail
    refine hck.mono ?_
    rintro e w2 ⟨rfl,hb2⟩
    have k2:=k0.below hb2 k0.lt
    have kr2:=kr0.below hb2 kr0.lt
    have HB2:=Lib.hid (hB3.trans (hb2.mono hB3.size))
    clear q0 q1 k0 kr0 hck hb2 kx hB3
    obtain⟨q0,q1⟩:=k2.two
    go_wp2_with fail
    refine (HSK.out w2 HB2.out).mono ?_
    rintro e w3 ⟨rfl,hb3⟩
    have k3:=k2.below hb3 k2.lt
    have kr3:=kr2.below hb3 kr2.lt
    have HB3:=Lib.hid (HB2.out.trans (hb3.mono HB2.out.size))
    clear q0 q1 k2 kr2 hb3
    obtain⟨q0,q1⟩:=k3.two
    go_wp2_with fail
    refine (HIN.out w3 HB3.out).mono ?_
    rintro e w4 ⟨AK,cK,rfl,hMK⟩
    obtain⟨OB,hOB⟩:∃ z,z=Obj.cells (madeCells #[.int .i64 0] 192) 2:=⟨_,rfl⟩
    have hmk:∀ w:World,(Instr.makeSlice 24 (.int .i64 192) (.int .i64 192)).run Tryz.prog w=.ok (.slice (some ⟨w.heap.size,0,none⟩) 192 192) (w.alloc (.cells (madeCells #[.int .i64 0] 192) 2)):=xE (P:=Tryz.prog) 24 2 Tryz.underlying24 yo 192 (by omega)
    have hM4:=Mk.made (E:=2) (n:=192) (z:=.int .i64 0) (Below.refl w4.heap.size w4) (by simp only[maxLen];omega)
    rw[xj]at hM4
    rw[← hOB]at hM4 hmk
    have hB4:=HB3.out.trans (hMK.b.mono HB3.out.size)
    have k4:=(k3.below hMK.b k3.lt).alloc OB
    have kr4:=(kr3.below hMK.b kr3.lt).alloc OB
    obtain⟨gk,ok,rfl, -⟩:=hMK.rd.at_ (show 0<28 by omega)
    obtain⟨gm,om,rfl, -⟩:=HM0.out.at_ (show 0<8 by omega)
    have HS4:Hid (Rd _ (some ⟨w4.heap.size,0,none⟩) 192 (ints (zh p KB M 0))):=Lib.hid hM4.rd
    have HKR:=Lib.hid (hMK.rd.below hM4.1)
    have HB5:=Lib.hid (hB4.trans (hM4.1.mono hB4.size))
    clear q0 q1 k3 kr3 hMK hM4 hB4 HB2 HB3 hOB
    go_wp2
    obtain⟨w5,hw5⟩:∃ W,W=w4.alloc OB:=⟨_,rfl⟩
    rw[← hw5]at k4 kr4 HS4 HKR HB5 ⊢
    clear hw5 hmk
    go_loopw [8,9] (fun su i wr=>∃ (j:Nat) (As:Option Addr) (cs:Nat),j≤28∧i=.int .i64 j∧su=.slice As 192 cs∧192≤cs∧Hid (Rd wr As 192 (ints (zh p KB M j)))∧Hid (Below w5.heap.size w5 wr)) (fun _ i _=>28-(intOf i).toNat)
    case atStart=>exact⟨0,_,_,by omega,rfl,rfl,by omega,HS4,Lib.hid zG⟩
    case round=>
     obtain⟨j,As,cs,hj,rfl,rfl,hcs,HS,HB⟩:=hrel
     clear HS4
     have k5:=k4.below HB.out k4.lt
     obtain⟨q0,q1⟩:=k5.two
     by_cases hlt:j<28
     ·obtain⟨gk',ok',ek,hxj,AR,cR,hcj,hrj,hcR⟩:=(HKR.out.below HB.out).at_ hlt
      injection ek with ek;injection ek with ek1 ek2 _;subst ek1;subst ek2
      have hlj:KB[j].length=192:=(HKT.out _ (List.getElem_mem hxj)).1
      have HRN0:Hid (NumsL p KB[j]):=Lib.hid (HKT.out _ (List.getElem_mem hxj)).2
      have hlu:yn KB[j]<64:=by have:=HLU.out j hlt;unfold ld at this;rwa [yc [] hxj]at this
      have HCO:Hid (zh p KB M (j+1)=yp p (zh p KB M j) KB[j] (ent M (yn KB[j] / 8) (yn KB[j]%8))):=Lib.hid (by conv=>lhs;unfold zh;unfold ld;rw[yc [] hxj])
      rw[hlj]at hcj hrj hcR
      have hlf:=vX AR 192 cR KB[j] wr (by omega) hrj
      obtain⟨row,hrow⟩:∃ z,z=KB[j]:=⟨_,rfl⟩
      rw[← hrow]at hlf hrj HRN0 hlu HCO hlj
      obtain⟨la,hla⟩:∃ z,z=yn row:=⟨_,rfl⟩
      rw[← hla]at hlf hlu HCO
      obtain⟨a8,ha8⟩:∃ z,z=la / 8:=⟨_,rfl⟩
      obtain⟨b8,hb8⟩:∃ z,z=la%8:=⟨_,rfl⟩
      rw[← ha8,← hb8]at HCO
      have ha8l:a8<8:=by omega
      have hb8l:b8<8:=by omega
      have W1_:Hid ((la:Int).tdiv 8=(a8:Int)):=Lib.hid (by rw[Int.tdiv_eq_ediv_of_nonneg (by omega)];omega)
      have W2_:Hid ((la:Int).tmod 8=(b8:Int)):=Lib.hid (by rw[Int.tmod_eq_emod_of_nonneg (by omega)];omega)
      obtain⟨gi,oi,ci,c1,c2⟩:=(HM0.out.below (HB5.out.trans (HB.out.mono HB5.out.size))).grid HTM.out ha8l hb8l
      obtain⟨be1,be2⟩:=HTM.out.ent (show 0<p by omega) a8 b8
      have HRW:=Lib.hid hrj
      have HLJ:=Lib.hid hlj
      have jb0:(0:Int)≤(j:Int):=by omega
      have jb1:(j:Int)<28:=by omega
      have HC1:=Lib.hid c1
      have HC2:=Lib.hid c2
      have HBE:=Lib.hid (And.intro be1 be2)
      have HLA:=Lib.hid (And.intro hlu (And.intro ha8l hb8l))
      clear hrow hla ha8 hb8 hrj hxj hcR hlj c1 c2 be1 be2 hlu ha8l hb8l
      go_wp2_with fail
      refine hlf.mono ?_
      rintro e w6 ⟨rfl,rfl⟩
      have k6:=k5
      have c3:=hcj
      have c1:=HC1.out
      have c2:=HC2.out
      obtain⟨be1,be2⟩:=HBE.out
      obtain⟨hlu,ha8l,hb8l⟩:=HLA.out
      clear HC1 HC2
      have ab0:(0:Int)≤(a8:Int):=by omega
      have ab1:(a8:Int)<8:=by omega
      have bb0:(0:Int)≤(b8:Int):=by omega
      have bb1:(b8:Int)<8:=by omega
      obtain⟨w6,hw6⟩:∃ W,W=wr:=⟨_,rfl⟩
      rw[← hw6]at k6 c1 c2 c3 HRW HS HB ⊢
      have HRN:=HRN0
      have HSU:=HS
      have HSN:Hid (NumsL p (zh p KB M j)):=Lib.hid (yaZ (by omega) _ _ _)
      have HPS:Hid (yp p (zh p KB M j) (yl p row (ent M a8 b8)) 1=yp p (zh p KB M j) row (ent M a8 b8)):=Lib.hid (ycB _ (by rw[qg,HLJ.out];exact Nat.le_refl _))
      obtain⟨SU,hSU⟩:∃ z,z=zh p KB M j:=⟨_,rfl⟩
      rw[← hSU]at HSU HSN HPS HCO
      have W1:=W1_.out
      have W2:=W2_.out
      clear hlf q0 q1 k5 hcj HS hSU hw6 HRN0
      go_wp2
      refine yh 20 [[],[0],[],[],[3],[],[],[6],[5,6,7],[5,6,7,8],[],[10],[5,6,7,8,9,10,11],[5,6,7,8,9,10,11,12],[],[],[14,15],[14,15,16],[3,4,5,6,7,8,9,10,11,12,13,14,15,16,17],[0,1,2,3,4,5,6,7,8,9,10,11,12,13,14,15,16,17,18],[0,1,2,3,4,5,6,7,8,9,10,11,12,13,14,15,16,17,18,19]] [VIs (.pointer (some ⟨w.heap.size,0,none⟩)),VIs (.int .i64 (p)),VIs (.slice As 192 cs),VIs (.pointer (some ⟨w.heap.size,0,none⟩)),VIs (.int .i64 (p)),VIs (.slice (some ⟨gm,om,none⟩) 8 cm),VIs (.int .i64 (la:Nat)),VIs (.int .i64 (a8:Nat)),VIs (.pointer (some ⟨gm,om+a8,none⟩)),VIs (.slice (some ⟨gi,oi,none⟩) 8 ci),VIs (.int .i64 (la:Nat)),VIs (.int .i64 (b8:Nat)),VIs (.pointer (some ⟨gi,oi+b8,none⟩)),VIs (.int .i64 (ent M a8 b8)),VIs (.slice (some ⟨gk,ok,none⟩) 28 cK),VIs (.int .i64 (j)),VIs (.pointer (some ⟨gk,ok+j,none⟩)),VIs (.slice AR 192 cR),VSl w6 192 (yl p row (ent M a8 b8)),VSl w6 192 (yp p SU row (ent M a8 b8))] (fun w'=>Blk w' w.heap.size 26 #[.int .i64 p,.slice A 3 c]∧w'.cell? ⟨gm,om+a8,none⟩=some (.slice (some ⟨gi,oi,none⟩) 8 ci)∧w'.cell? ⟨gi,oi+b8,none⟩=some (.int .i64 (ent M a8 b8))∧w'.cell? ⟨gk,ok+j,none⟩=some (.slice AR 192 cR)∧Below w6.heap.size w6 w') (by kernel_rfl) (by kernel_rfl) (fun _ _ h hb=>⟨h.1.below hb h.1.lt,(hb.cell (World.block_lt_of_cell? _ _ h.2.1)).trans h.2.1,(hb.cell (World.block_lt_of_cell? _ _ h.2.2.1)).trans h.2.2.1,(hb.cell (World.block_lt_of_cell? _ _ h.2.2.2.1)).trans h.2.2.2.1,h.2.2.2.2.trans (hb.mono h.2.2.2.2.size)⟩) (⟨k6.drew,c1,c2,c3,zG.drew⟩) (fun x=>?_)
      refine zS (fun w' hS hV K hK=>?_) ?_
      ·obtain⟨q0,q1⟩:=hS.1.two;have t1:=hS.2.1;have t2:=hS.2.2.1;have t3:=hS.2.2.2.1;go_simp;exact zO hK
      refine zS (fun w' hS hV K hK=>?_) ?_
      ·have e0:=zQ hV 0;obtain⟨q0,q1⟩:=hS.1.two;have t1:=hS.2.1;have t2:=hS.2.2.1;have t3:=hS.2.2.2.1;go_simp;exact zO hK
      refine zS (fun w' hS hV K hK=>?_) ?_
      ·obtain⟨q0,q1⟩:=hS.1.two;have t1:=hS.2.1;have t2:=hS.2.2.1;have t3:=hS.2.2.2.1;go_simp;exact zO hK
      refine zS (fun w' hS hV K hK=>?_) ?_
      ·obtain⟨q0,q1⟩:=hS.1.two;have t1:=hS.2.1;have t2:=hS.2.2.1;have t3:=hS.2.2.2.1;go_simp;exact zO hK
      refine zS (fun w' hS hV K hK=>?_) ?_
      ·have e3:=zQ hV 3;obtain⟨q0,q1⟩:=hS.1.two;have t1:=hS.2.1;have t2:=hS.2.2.1;have t3:=hS.2.2.2.1;go_simp;exact zO hK
      refine zS (fun w' hS hV K hK=>?_) ?_
      ·obtain⟨q0,q1⟩:=hS.1.two;have t1:=hS.2.1;have t2:=hS.2.2.1;have t3:=hS.2.2.2.1;go_simp;exact zO hK
      refine zS (fun w' hS hV K hK=>?_) ?_
      ·obtain⟨q0,q1⟩:=hS.1.two;have t1:=hS.2.1;have t2:=hS.2.2.1;have t3:=hS.2.2.2.1;go_simp;exact zO hK
      refine zS (fun w' hS hV K hK=>?_) ?_
      ·have e6:=zQ hV 6;obtain⟨q0,q1⟩:=hS.1.two;have t1:=hS.2.1;have t2:=hS.2.2.1;have t3:=hS.2.2.2.1;go_simp;exact hK.out _ _ _ rfl rfl (by first | rfl | exact congrArg (Value.int .i64) W1 | exact congrArg (Value.int .i64) (yi _ (by omega) (by omega))) zG
      refine zS (fun w' hS hV K hK=>?_) ?_
      ·have e5:=zQ hV 5;have e7:=zQ hV 7;obtain⟨q0,q1⟩:=hS.1.two;have t1:=hS.2.1;have t2:=hS.2.2.1;have t3:=hS.2.2.2.1;go_simp;exact zO hK
      refine zS (fun w' hS hV K hK=>?_) ?_
      ·have e8:=zQ hV 8;obtain⟨q0,q1⟩:=hS.1.two;have t1:=hS.2.1;have t2:=hS.2.2.1;have t3:=hS.2.2.2.1;go_simp;exact zO hK
      refine zS (fun w' hS hV K hK=>?_) ?_
      ·obtain⟨q0,q1⟩:=hS.1.two;have t1:=hS.2.1;have t2:=hS.2.2.1;have t3:=hS.2.2.2.1;go_simp;exact zO hK
      refine zS (fun w' hS hV K hK=>?_) ?_
      ·have e10:=zQ hV 10;obtain⟨q0,q1⟩:=hS.1.two;have t1:=hS.2.1;have t2:=hS.2.2.1;have t3:=hS.2.2.2.1;go_simp;exact hK.out _ _ _ rfl rfl (by first | rfl | exact congrArg (Value.int .i64) W2 | exact congrArg (Value.int .i64) (yi _ (by omega) (by omega))) zG
      refine zS (fun w' hS hV K hK=>?_) ?_
      ·have e9:=zQ hV 9;have e11:=zQ hV 11;obtain⟨q0,q1⟩:=hS.1.two;have t1:=hS.2.1;have t2:=hS.2.2.1;have t3:=hS.2.2.2.1;go_simp;exact zO hK
      refine zS (fun w' hS hV K hK=>?_) ?_
      ·have e12:=zQ hV 12;obtain⟨q0,q1⟩:=hS.1.two;have t1:=hS.2.1;have t2:=hS.2.2.1;have t3:=hS.2.2.2.1;go_simp;exact zO hK
      refine zS (fun w' hS hV K hK=>?_) ?_
      ·obtain⟨q0,q1⟩:=hS.1.two;have t1:=hS.2.1;have t2:=hS.2.2.1;have t3:=hS.2.2.2.1;go_simp;exact zO hK
      refine zS (fun w' hS hV K hK=>?_) ?_
      ·obtain⟨q0,q1⟩:=hS.1.two;have t1:=hS.2.1;have t2:=hS.2.2.1;have t3:=hS.2.2.2.1;go_simp;exact zO hK
      refine zS (fun w' hS hV K hK=>?_) ?_
      ·have e14:=zQ hV 14;have e15:=zQ hV 15;obtain⟨q0,q1⟩:=hS.1.two;have t1:=hS.2.1;have t2:=hS.2.2.1;have t3:=hS.2.2.2.1;go_simp;exact zO hK
      refine zS (fun w' hS hV K hK=>?_) ?_
      ·have e16:=zQ hV 16;obtain⟨q0,q1⟩:=hS.1.two;have t1:=hS.2.1;have t2:=hS.2.2.1;have t3:=hS.2.2.2.1;go_simp;exact zO hK
      refine zS (fun w' hS hV K hK=>?_) ?_
      ·have e4:=zQ hV 4;have e13:=zQ hV 13;have e17:=zQ hV 17;obtain⟨q0,q1⟩:=hS.1.two;have t1:=hS.2.1;have t2:=hS.2.2.1;have t3:=hS.2.2.2.1;go_simp;refine (xm p (ent M a8 b8) AR 192 cR row w' (by omega) hp2 (by omega) (HRW.out.below hS.2.2.2.2) HRN.out (by omega) (by omega)).mono ?_;rintro e v1 ⟨A9,c9,rfl,hM⟩;exact hK.out _ _ _ rfl rfl ⟨_,_,rfl,hM.after hS.2.2.2.2⟩ hM.b
      refine zS (fun w' hS hV K hK=>?_) ?_
      ·have e1:=zQ hV 1;have e2:=zQ hV 2;obtain⟨A18,c18,e18,h18⟩:=hV 18 (by decide);obtain⟨q0,q1⟩:=hS.1.two;have t1:=hS.2.1;have t2:=hS.2.2.1;have t3:=hS.2.2.2.1;go_simp;refine (qx p As 192 cs SU A18 192 c18 (yl p row (ent M a8 b8)) w' (by omega) hp2 (by omega) (Nat.le_refl _) (HSU.out.below hS.2.2.2.2) HSN.out h18.rd (zU (by omega) _ _)).mono ?_;rw[HPS.out];rintro e v1 ⟨A9,c9,rfl,hM⟩;exact hK.out _ _ _ rfl rfl ⟨_,_,rfl,hM.after hS.2.2.2.2⟩ hM.b
      refine fun w' hS hV=>?_
      have e0:=zT hV 0
      have e1:=zT hV 1
      have e2:=zT hV 2
      have e3:=zT hV 3
      have e4:=zT hV 4
      have e5:=zT hV 5
      have e6:=zT hV 6
      have e7:=zT hV 7
      have e8:=zT hV 8
      have e9:=zT hV 9
      have e10:=zT hV 10
      have e11:=zT hV 11
      have e12:=zT hV 12
      have e13:=zT hV 13
      have e14:=zT hV 14
      have e15:=zT hV 15
      have e16:=zT hV 16
      have e17:=zT hV 17
      obtain⟨A18,c18,e18,h18⟩:=hV 18 (by decide)
      obtain⟨A19,c19,e19,h19⟩:=hV 19 (by decide)
      simp only[e0,e1,e2,e3,e4,e5,e6,e7,e8,e9,e10,e11,e12,e13,e14,e15,e16,e17,e18,e19]
      clear e0 e1 e2 e3 e4 e5 e6 e7 e8 e9 e10 e11 e12 e13 e14 e15 e16 e17 e18 e19
      obtain⟨-, -, -, -,s7⟩:=hS
      refine yK (j:=20) (by kernel_rfl) (Eq.trans (by simp only[zA,zB,zC];exact rfl) rfl) (fun K hK=>?_)
      go_simp
      refine hK.out _ _ (wpAny_done (by kernel_rfl) ?_ _)
      have HB7:=Lib.hid (HB.out.trans (s7.mono HB.out.size))
      have HS7:=Lib.hid h19.rd
      have hc7:=h19.2.cap
      clear k6 c1 c2 c3 W1 W2 s7
      go_wp2
      go_roundw
      case rel=>exact⟨j+1,A19,c19,by omega,by go_num,rfl,hc7,Lib.hid (by rw[HCO.out];exact HS7.out),HB7⟩
      case measure=>simp[intOf];omega
     ·obtain rfl:j=28:=by omega
      have hcu:=HCUT.out wr As cs hcs _ HS.out
      have kr5:=kr4.below HB.out kr4.lt
      have HBX:=Lib.hid (HB5.out.trans (HB.out.mono HB5.out.size))
      rw[HFIN.out]at hcu
      clear HS k4
      go_wp2_with fail
      refine hcu.mono ?_
      rintro e w8 ⟨A1,c1,A2,c2,A3,c3,rfl,ht1,ht2,ht3,hb8⟩
      have hct:CT w8 w.heap.size 8 (cmpL p st M) (.slice A1 8 c1) (.slice A2 8 c2) (.slice A3 8 c3):=.inr ⟨A1,c1,A2,c2,A3,c3,rfl,rfl,rfl,ht1.base HBX.out.size,ht2.base HBX.out.size,ht3.base HBX.out.size⟩
      have kr8:=kr5.below hb8 kr5.lt
      have hb9:=HBX.out.trans (hb8.mono HBX.out.size)
      obtain⟨u1,hu1⟩:∃ z,z=Value.slice A1 8 c1:=⟨_,rfl⟩
      obtain⟨u2,hu2⟩:∃ z,z=Value.slice A2 8 c2:=⟨_,rfl⟩
      obtain⟨u3,hu3⟩:∃ z,z=Value.slice A3 8 c3:=⟨_,rfl⟩
      subst hu1 hu2 hu3
      clear hcu ht1 ht2 ht3 hb8 q0 q1 k5
      have hB9:=hb9
      have HCT:=Lib.hid (CT.set3 (x':=(.slice A1 8 c1)) (y':=(.slice A2 8 c2)) (z':=(.slice A3 8 c3)) hct kr8)
      have HBF:=Lib.hid (xB (a:=(.slice A1 8 c1)) (b:=(.slice A2 8 c2)) (d:=(.slice A3 8 c3)) hB9 (show w.heap.size≤w.heap.size+1 by omega))
      have r0:=kr8.cell 0
      have r1:=kr8.cell 1
      have r2:=kr8.cell 2
      have z0:=kr8.frozen 0
      have z1:=kr8.frozen 1
      have z2:=kr8.frozen 2
      simp at r0 r1 r2
      have kz:=Blk.storedT (x:=(.slice A1 8 c1)) (y:=(.slice A2 8 c2)) (z:=(.slice A3 8 c3)) kr8
      have p0:=kz.cell 0
      have p1:=kz.cell 1
      have p2:=kz.cell 2
      simp at p0 p1 p2
      clear kz hB9
      go_wp2
      exact bodyPost_ret (v:=.tuple #[.agg #[(.slice A1 8 c1),(.slice A2 8 c2),(.slice A3 8 c3)],.int .i64 0]) (by simp[results,Tryz.results36,go_sem,p0,p1,p2]) rfl (.inr ⟨HN.out,(.slice A1 8 c1),(.slice A2 8 c2),(.slice A3 8 c3),rfl,HCT.out,HBF.out⟩)
   | false=>
    have HC:Hid (cmpC p st M=5):=Lib.hid (by rw[HCB.out];rfl)
    have HN:Hid (cmpC p st M≠0):=Lib.hid (by rw[HC.out];omega)
    clear hco hdb HP hst hun hmx hmm hl8 hb hsk hTM ha hm hrx hsl hml HCB
    go_enter Tryz.func36,Tryz.ntmps36
    go_wp2_with fail
    refine hck.mono ?_
    rintro e w2 ⟨rfl,hb2⟩
    have k2:=k0.below hb2 k0.lt
    have kr2:=kr0.below hb2 kr0.lt
    have HB2:=Lib.hid (hB3.trans (hb2.mono hB3.size))
    clear q0 q1 k0 kr0 hck hb2 kx hB3
    obtain⟨q0,q1⟩:=k2.two
    go_wp2_with fail
    refine (HSK.out w2 HB2.out).mono ?_
    rintro e w4 ⟨rfl,hb4⟩
    have kr4:=kr2.below hb4 kr2.lt
    have hb5:=HB2.out.trans (hb4.mono HB2.out.size)
    clear q0 q1 hb4 k2 kr2
    have HZ:=Lib.hid (xB (a:=.slice none 0 0) (b:=.slice none 0 0) (d:=.slice none 0 0) hb5 (show w.heap.size≤w.heap.size+1 by omega))
    have r0:=kr4.cell 0
    have r1:=kr4.cell 1
    have r2:=kr4.cell 2
    have z0:=kr4.frozen 0
    have z1:=kr4.frozen 1
    have z2:=kr4.frozen 2
    simp at r0 r1 r2
    have kz:=Blk.storedT (x:=.slice none 0 0) (y:=.slice none 0 0) (z:=.slice none 0 0) kr4
    have u0:=kz.cell 0
    have u1:=kz.cell 1
    have u2:=kz.cell 2
    simp at u0 u1 u2
    clear kz
    go_wp2
    exact bodyPost_ret (v:=.tuple #[.agg #[.slice none 0 0,.slice none 0 0,.slice none 0 0],.int .i64 5]) (by simp[results,Tryz.results36,go_sem,u0,u1,u2]) rfl (.inl ⟨HN.out,by rw[HC.out],HZ.out⟩)
  ·have HC:Hid (cmpC p st M=5):=Lib.hid (by unfold cmpC;rw[← hco,if_pos rfl,hsl,if_neg (fun e=>hk3 e.1)])
   have HN:Hid (cmpC p st M≠0):=Lib.hid (by rw[HC.out];omega)
   have hki:((k:Int) == 3)=false:=by simp;omega
   clear hco hdb HP hst hun hmx hmm hl8 hTM ha hm hrx hsl hml
   go_enter Tryz.func36,Tryz.ntmps36
   go_wp2_with fail
   refine hck.mono ?_
   rintro e w4 ⟨rfl,hb4⟩
   have k4:=k0.below hb4 k0.lt
   have kr4:=kr0.below hb4 kr0.lt
   have hb5:=hB3.trans (hb4.mono hB3.size)
   clear q0 q1 k0 kr0 hck hb4 kx hB3
   obtain⟨q0,q1⟩:=k4.two
   have HZ:=Lib.hid (xB (a:=.slice none 0 0) (b:=.slice none 0 0) (d:=.slice none 0 0) hb5 (show w.heap.size≤w.heap.size+1 by omega))
   have r0:=kr4.cell 0
   have r1:=kr4.cell 1
   have r2:=kr4.cell 2
   have z0:=kr4.frozen 0
   have z1:=kr4.frozen 1
   have z2:=kr4.frozen 2
   simp at r0 r1 r2
   have kz:=Blk.storedT (x:=.slice none 0 0) (y:=.slice none 0 0) (z:=.slice none 0 0) kr4
   have u0:=kz.cell 0
   have u1:=kz.cell 1
   have u2:=kz.cell 2
   simp at u0 u1 u2
   clear kz
   go_wp2
   exact bodyPost_ret (v:=.tuple #[.agg #[.slice none 0 0,.slice none 0 0,.slice none 0 0],.int .i64 5]) (by simp[results,Tryz.results36,go_sem,u0,u1,u2]) rfl (.inl ⟨HN.out,by rw[HC.out],HZ.out⟩)
 ·have HC:Hid (cmpC p st M=co):=Lib.hid (by unfold cmpC;rw[← hco,if_neg h0])
  have HN:Hid (cmpC p st M≠0):=Lib.hid (by rw[HC.out];exact h0)
  have ez:(co == 0)=false:=by simp[h0]
  clear hco ha hm hrx hsl hml
  go_enter Tryz.func36,Tryz.ntmps36
  go_wp2_with fail
  refine hck.mono ?_
  rintro e w4 ⟨rfl,hb4⟩
  have kr4:=kr0.below hb4 kr0.lt
  have hb5:=hB3.trans (hb4.mono hB3.size)
  clear q0 q1 k0 kr0 hck hb4 kx hB3
  have HZ:=Lib.hid (xB (a:=.slice none 0 0) (b:=.slice none 0 0) (d:=.slice none 0 0) hb5 (show w.heap.size≤w.heap.size+1 by omega))
  have r0:=kr4.cell 0
  have r1:=kr4.cell 1
  have r2:=kr4.cell 2
  have z0:=kr4.frozen 0
  have z1:=kr4.frozen 1
  have z2:=kr4.frozen 2
  simp at r0 r1 r2
  have kz:=Blk.storedT (x:=.slice none 0 0) (y:=.slice none 0 0) (z:=.slice none 0 0) kr4
  have u0:=kz.cell 0
  have u1:=kz.cell 1
  have u2:=kz.cell 2
  simp at u0 u1 u2
  clear kz
  go_wp2
  exact bodyPost_ret (v:=.tuple #[.agg #[.slice none 0 0,.slice none 0 0,.slice none 0 0],.int .i64 co]) (by simp[results,Tryz.results36,go_sem,u0,u1,u2]) rfl (.inl ⟨HN.out,by rw[HC.out],HZ.out⟩)
end Go.Proofs.YtaiegpggccdgoaaGreat
namespace Go.Proofs.YtaiegpggccdgoaaGreat
open Go.RowKit
def VOn (r:Int):VP:=⟨fun v w=>∃ gb:Nat,v=.slice (some ⟨gb,0,none⟩) 1 1∧Rd w (some ⟨gb,0,none⟩) 1 (ints [r]),fun _ _ _ ⟨gb,e,h⟩ hb=>⟨gb,e,h.below hb⟩⟩
theorem yg4 (w:World) (r:Int):Rd (w.alloc (.cells #[.int .i64 r] 2)) (some ⟨w.heap.size,0,none⟩) 1 (ints [r]):=by
 have h:=(Mk.lit (E:=2) (Below.refl w.heap.size w) #[.int .i64 r] (by simp[maxLen])).2.rd
 simpa [ints] using h
theorem yeM (B:List (List Int)) (n k:Nat):endB B n (k+1)=(endB B n k || (ld B k == n)):=by
 unfold endB
 rw[List.range_succ,List.any_append];simp
theorem yeL {B:List (List Int)} {n k m:Nat} (h:endB B n k=true) (hk:k≤m):endB B n m=true:=by
 obtain⟨i,hi,e⟩:=qk.1 h
 exact qk.2 ⟨i,by omega,e⟩
theorem ycL {w w':World} {A:Option Addr} {n c:Nat} {R:List Int × Bool} {L:List Int} {b:Bool} (hR:R=(L,b)) (h:MkI w w' A n c L):∃ (A':Option Addr) (k c':Nat),Ending.returned (.tuple #[.slice A n c,.bool b])=.returned (.tuple #[.slice A' k c',.bool R.2])∧MkI w w' A' k c' R.1:=by
 subst hR;exact⟨_,_,_,rfl,h⟩
set_option maxHeartbeats 6400000 in
set_option maxRecDepth 8000 in
theorem yhu (p:Int) (A:Option Addr) (r c:Nat) (M:List (List Int)) (n:Nat) (V:Option Addr) (cv:Nat) (v:List Int) (w:World) (HP:isP p=true) (h0:0<r) (hr:r≤1000) (hn0:0<n) (hn:n≤1000) (ha:RdII w A r M) (hT:Tab p n M) (hv:Rd w V r (ints v)) (hvn:NumsL p v) :
 Calls Tryz.prog 87 #[.int .i64 p,.slice A r c,.slice V r cv] w fun e w'=>∃ (A':Option Addr) (k c':Nat),e=.returned (.tuple #[.slice A' k c',.bool (solR p M v n).2])∧MkI w w' A' k c' (solR p M v n).1:=by
 obtain⟨hp3,hp2⟩:=yk HP
 have hl:=ha.len
 have HAT:=Lib.hid (u9 (show 0<p by omega) hT hvn)
 have HM:=Lib.hid hT
 have HL:=Lib.hid hl
 have HPP:=Lib.hid HP
 obtain⟨R,hR⟩:∃ R,R=solR p M v n:=⟨_,rfl⟩
 rw[← hR]
 have HR:=Lib.hid hR
 have hA0:Below w.heap.size w (w.alloc (.cells #[] 24)):=zG.alloc (Nat.le_refl _) _
 have hO0:MkII w (w.alloc (.cells #[] 24)) (some ⟨w.heap.size,0,none⟩) 0 0 []:=MkII.empty zG
 have hE0:Blk (w.alloc (.cells #[] 24)) w.heap.size 24 #[]:=Blk.new _ _ _
 have a3:=ha.below hA0
 have v3:=hv.below hA0
 obtain⟨gz,oz,rfl,hxz,Az,cz,hcz, -, -⟩:=ha.at_ h0
 have hlz:M[0].length=n:=(HM.out M[0] (List.getElem_mem hxz)).1
 rw[hlz,Nat.add_zero]at hcz
 have hgr0:Grows (w.alloc (.cells #[] 24)) (w.alloc (.cells #[] 24)) w.heap.size (.slice (some ⟨w.heap.size,0,none⟩) 0 0):=⟨CK.refl _,Nat.le_refl _,fun gb h=>.inl (by simpa [Value.ownBlock] using h.symm)⟩
 have i0:(0:Int)<(r:Int):=by omega
 clear hl HP hR hT hvn hlz hxz ha hv
 go_enter Tryz.func87,Tryz.ntmps87
 go_wp2
 obtain⟨w3,hw3⟩:∃ W,W=w.alloc (.cells #[] 24):=⟨_,rfl⟩
 rw[← hw3]at hO0 hE0 hgr0 a3 v3 hA0 ⊢
 obtain⟨g3,hg3⟩:∃ g,g=w.heap.size:=⟨_,rfl⟩
 rw[← hg3]at hO0 hE0 hgr0 ⊢
 clear hw3 hg3 hcz i0
 go_loopw [9,23] (fun out i wr=>∃ (k:Nat) (A':Option Addr) (c':Nat),k≤r∧i=.int .i64 k∧out=.slice A' k c'∧MkII w wr A' k c' (tab k fun i=>M.getD i []++[v.getD i 0])∧Grows w3 wr g3 (.slice A' k c')) (fun _ i _=>r-(intOf i).toNat)
 case atStart=>exact⟨0,_,_,by omega,rfl,rfl,hO0,hgr0⟩
 case round=>
  obtain⟨k,A',c',hk,rfl,rfl,hM,hgr⟩:=hrel
  clear hO0 hgr0
  by_cases hlt:k<r
  ·have hBn:=hM.b
   obtain⟨ga,oa,e9,hxk,Ak,ck,hck,hrk,hcc⟩:=(a3.ck hgr.1).at_ hlt
   cases e9
   obtain⟨gv,ov,rfl,hvk,hcv⟩:=(v3.ck hgr.1).int hlt
   have hlk:M[k].length=n:=(HM.out M[k] (List.getElem_mem hxk)).1
   rw[hlk]at hck hrk hcc
   have HAP:Hid ((tab (k+1) fun i=>M.getD i []++[v.getD i 0])=(tab k fun i=>M.getD i []++[v.getD i 0])++[M[k]++[v[k]]]):=Lib.hid (by rw[yQ,yc [] hxk,yc 0 hvk])
   obtain⟨X,hX⟩:∃ X,X=M[k]:=⟨_,rfl⟩
   obtain⟨y,hy⟩:∃ y,y=v[k]:=⟨_,rfl⟩
   rw[← hX]at hrk HAP
   rw[← hy]at hcv HAP
   have HOWN:=Lib.hid fun (w':World) (h:Below wr.heap.size wr w')=>jl Ak n ck X w' (by omega) (hrk.below h)
   have HMM:=Lib.hid hM
   have HGR:=Lib.hid hgr
   have i1:(0:Int)≤(k:Int):=by omega
   have i2:(k:Int)<(r:Int):=by omega
   clear hX hy hxk hvk hrk hlk hM hgr hcc
   go_wp2
   refine yiz 10 wr.heap.size [[],[],[1],[],[],[3,4],[3,4,5],[3,4,5,6],[1,2,3,4,5,6,7],[1,2,3,4,5,6,7,8],[0,1,2,3,4,5,6,7,8,9],[0,1,2,3,4,5,6,7,8,9,10]] [[],[],[],[],[],[],[],[],[2,7],[]] (fun x=>[VIs (.slice A' k c'),VIs (.slice Ak n ck),VSl wr n X,VIs (.slice (some ⟨gv,ov,none⟩) r cv),VIs (.int .i64 (k)),VIs (.pointer (some ⟨gv,ov+k,none⟩)),VIs (.int .i64 (y)),VOn y,VSl wr (n+1) (X++[y]),VNew wr (n+1) (X++[y])]) (fun w'=>w'.cell? ⟨gz,oz+k,none⟩=some (.slice Ak n ck)∧w'.cell? ⟨gv,ov+k,none⟩=some (.int .i64 y)∧Below wr.heap.size wr w') (by kernel_rfl) (by kernel_rfl) (fun x x' j hx=>by
    rcases j with _ | _ | _ | _ | _ | _ | _ | _ | _ | _ | j
    ·rfl
    ·rfl
    ·rfl
    ·rfl
    ·rfl
    ·rfl
    ·rfl
    ·rfl
    ·rfl
    ·rfl
    ·rfl)
    (yis [0,1,3,4,5,6] (by decide) (fun k hk x=>by
     simp only[List.mem_cons,zJ,or_false]at hk
     rcases hk with rfl | rfl | rfl | rfl | rfl | rfl<;>exact⟨_,rfl⟩)) (fun j _ _ h hb=>⟨(hb.cell (ycd (World.block_lt_of_cell? _ _ hck) h.2.2.size)).trans h.1,(hb.cell (ycd (World.block_lt_of_cell? _ _ hcv) h.2.2.size)).trans h.2.1,h.2.2.trans (hb.mono (ycc h.2.2.size))⟩) (⟨hck,hcv,zG.drew⟩) (fun x=>?_)
   refine xH (Eq.trans (by simp only[zA,zC];exact rfl) rfl) rfl (fun w' hS hV K hK=>?_) ?_
   ·have q0:=hS.1;have q1:=hS.2.1;go_simp;exact hK.out _ _ _ rfl rfl rfl zG
   simp only[zD,zE,zF]
   refine xH (Eq.trans (by simp only[zA,zB,zC];exact rfl) rfl) rfl (fun w' hS hV K hK=>?_) ?_
   ·have q0:=hS.1;have q1:=hS.2.1;go_simp;exact hK.out _ _ _ rfl rfl rfl zG
   simp only[zD,zE,zF]
   refine xH (Eq.trans (by simp only[zA,zB,zC];exact rfl) rfl) rfl (fun w' hS hV K hK=>?_) ?_
   ·have e1:=zQ hV 1;have q0:=hS.1;have q1:=hS.2.1;go_simp;refine (HOWN.out _ hS.2.2).mono ?_;rintro e v1 ⟨A9,c9,rfl,hM⟩;exact hK.out _ _ _ rfl rfl ⟨_,_,rfl,hM.after hS.2.2⟩ hM.b
   simp only[zD,zE,zF]
   refine xH (Eq.trans (by simp only[zA,zB,zC];exact rfl) rfl) rfl (fun w' hS hV K hK=>?_) ?_
   ·have q0:=hS.1;have q1:=hS.2.1;go_simp;exact hK.out _ _ _ rfl rfl rfl zG
   simp only[zD,zE,zF]
   refine xH (Eq.trans (by simp only[zA,zB,zC];exact rfl) rfl) rfl (fun w' hS hV K hK=>?_) ?_
   ·have q0:=hS.1;have q1:=hS.2.1;go_simp;exact hK.out _ _ _ rfl rfl rfl zG
   simp only[zD,zE,zF]
   refine xH (Eq.trans (by simp only[zA,zB,zC];exact rfl) rfl) rfl (fun w' hS hV K hK=>?_) ?_
   ·have e3:=zQ hV 3;have e4:=zQ hV 4;have q0:=hS.1;have q1:=hS.2.1;go_simp;exact hK.out _ _ _ rfl rfl rfl zG
   simp only[zD,zE,zF]
   refine xH (Eq.trans (by simp only[zA,zB,zC];exact rfl) rfl) rfl (fun w' hS hV K hK=>?_) ?_
   ·have e5:=zQ hV 5;have q0:=hS.1;have q1:=hS.2.1;go_simp;exact hK.out _ _ _ rfl rfl rfl zG
   simp only[zD,zE,zF]
   refine xH (Eq.trans (by simp only[zA,zB,zC];exact rfl) rfl) rfl (fun w' hS hV K hK=>?_) ?_
   ·have e6:=zQ hV 6;have q0:=hS.1;have q1:=hS.2.1;go_simp;exact hK.out _ _ _ rfl rfl ⟨_,rfl,yg4 _ _⟩ (zG.alloc (Nat.le_refl _) _)
   simp only[zD,zE,zF]
   refine xH (Eq.trans (by simp only[zA,zB,zC];exact rfl) rfl) rfl (fun w' hS hV K hK=>?_) ?_
   ·obtain⟨A2,c2,e2,h2⟩:=hV 2 (by decide);obtain⟨g7,e7,r7⟩:=hV 7 (by decide);have q0:=hS.1;have q1:=hS.2.1;refine ydi wr w' _ _ rfl A2 n c2 X (some ⟨g7,0,none⟩) 1 1 [y] h2 r7 (by omega) (by omega) (by omega) e2 e7 ?_;intro A20 c20 w20 hM20 hg20;exact hK.out _ _ _ rfl rfl ⟨_,_,rfl,hM20⟩ (h2.grown_below hg20)
   simp only[zD,zE,zF]
   refine xH (Eq.trans (by simp only[zA,zB,zC];exact rfl) rfl) rfl (fun w' hS hV K hK=>?_) ?_
   ·obtain⟨A8,c8,e8,h8⟩:=hV 8 (by decide);have q0:=hS.1;have q1:=hS.2.1;go_simp;exact hK.out _ _ _ rfl rfl ⟨_,_,_,rfl,Blk.new _ _ _,h8.below (zG.alloc (Nat.le_refl _) _)⟩ (zG.alloc (Nat.le_refl _) _)
   simp only[zD,zE,zF]
   refine fun w' hS hV=>?_
   have e0:=zQ hV 0
   have e1:=zQ hV 1
   have e3:=zQ hV 3
   have e4:=zQ hV 4
   have e5:=zQ hV 5
   have e6:=zQ hV 6
   obtain⟨A8,c8,e8,h8⟩:=hV 8 (by decide)
   obtain⟨g9,A9,c9,e9,b9,h9⟩:=hV 9 (by decide)
   simp only[e0,e1,e3,e4,e5,e6,e8,e9]
   clear e0 e1 e3 e4 e5 e6 e8 e9
   obtain⟨-, -,s2⟩:=hS
   refine xg (j:=10) (by kernel_rfl) (Eq.trans (by simp only[zA,zB,zC];exact rfl) rfl) rfl (fun K hK=>?_)
   refine q9 w wr w' _ _ rfl A' k c' _ A9 (n+1) c9 _ HMM.out h9 (by omega) g9 b9 (by rfl) (by rfl) ?_
   intro A20 c20 w20 hM20 hg20 hat20
   refine hK.out _ _ ?_
   simp only[Act.put,zD,zE,zF]
   refine yK (j:=11) (by kernel_rfl) (Eq.trans (by simp only[zA,zB,zC];exact rfl) rfl) (fun K hK=>?_)
   go_simp
   refine hK.out _ _ (wpAny_done (by kernel_rfl) ?_ _)
   have hgr7:=HGR.out.step (n':=k+1) (c':=c20) hE0 s2 hg20 hat20
   clear hg20 hat20 s2
   go_wp2
   go_roundw
   case rel=>exact⟨k+1,A20,c20,by omega,by go_num,rfl,by rw[HAP.out];exact hM20,hgr7⟩
   case measure=>simp[intOf];omega
  ·obtain rfl:k=r:=by omega
   clear a3 v3 hE0 hgr hA0
   have hAug:(tab k fun i=>M.getD i []++[v.getD i 0])=augL M v:=by unfold augL;rw[HL.out]
   rw[hAug]at hM
   have hrd:=hM.rd
   have hBw:=hM.b
   have hmk:=xE (P:=Tryz.prog) 24 2 Tryz.underlying24 yo n (by omega)
   have hQ:=Mk.made (E:=2) (n:=n) (z:=.int .i64 0) hBw (by simp only[maxLen];omega)
   rw[xj]at hQ
   have hb5:Below wr.heap.size wr (wr.alloc (.cells (madeCells #[.int .i64 0] n) 2)):=zG.alloc (Nat.le_refl _) _
   have hrd5:=hrd.below hb5
   clear hM hAug hrd hBw
   go_wp2_with fail
   obtain⟨w5,hw5⟩:∃ W,W=wr.alloc (.cells (madeCells #[.int .i64 0] n) 2):=⟨_,rfl⟩
   rw[← hw5]at hQ hrd5 ⊢
   obtain⟨g5,hg5⟩:∃ g,g=wr.heap.size:=⟨_,rfl⟩
   rw[← hg5]at hQ ⊢
   have hg5l:g5<w5.heap.size:=by rw[hg5,hw5];simp
   have hcall:=jg p A' k c' (augL M v) (n+1) w5 HPP.out (by omega) (by omega) hrd5 HAT.out
   obtain⟨B,hB⟩:∃ B,B=yf p (augL M v):=⟨_,rfl⟩
   rw[← hB]at hcall
   have HB:=Lib.hid hB
   have HBT:Hid (Tab p (n+1) B):=Lib.hid (by rw[hB];exact vO (by omega) _ HAT.out)
   have HBR:Hid (Red (n+1) B):=Lib.hid (by rw[hB];exact xz HPP.out _ HAT.out)
   clear hw5 hg5 hb5 hrd5 hmk hB
   refine hcall.mono ?_
   rintro e wB ⟨AB,cB,rfl,hMB⟩
   have hQ2:=hQ.below hMB.b
   clear hcall hQ
   have hkb:B.length≤1001:=Nat.le_trans HBR.out.len (by omega)
   go_wp2
   go_loopw [46] (fun i wr=>∃ j:Nat,j≤B.length∧i=.int .i64 j∧MkI w wr (some ⟨g5,0,none⟩) n n (zg B n j)∧endB B n j=false∧wB.heap.size≤wr.heap.size ∧ ∀ b,w5.heap.size≤b→b<wB.heap.size→wr.heap[b]? = wB.heap[b]?) (fun i _=>B.length-(intOf i).toNat)
   case atStart=>exact⟨0,by omega,rfl,hQ2,rfl,Nat.le_refl _,fun _ _ _=>rfl⟩
   case round=>
    obtain⟨j,hj,rfl,hQj,hej,hsz,hkp⟩:=hrel
    clear hQ2
    by_cases hjt:j<B.length
    ·obtain⟨gb,ob,rfl,hxj,Aj,cj,hcj,hrj,hccj⟩:=(hMB.keep hkp).at_ hjt
     have hlj:B[j].length=n+1:=(HBT.out B[j] (List.getElem_mem hxj)).1
     have hBj:B.getD j []=B[j]:=yc [] hxj
     rw[hlj]at hcj hrj hccj
     have hlead:=yb9 Aj (n+1) cj B[j] wr (by omega) hrj
     have hld:yn B[j]=ld B j:=by unfold ld;rw[hBj]
     rw[hld]at hlead
     have hlt:=HBR.out.lt j hjt
     obtain⟨gj,oj,rfl,hyk,hcy⟩:=hrj.int (show n<n+1 by omega)
     have hen:B[j][n]=ent B j n:=by unfold ent;rw[hBj,yc 0 hyk]
     rw[hen]at hcy
     have HSX:Hid (zg B n (j+1)=(zg B n j).set (ld B j) (ent B j n)):=Lib.hid rfl
     have hes:=yeM B n j
     rw[hej,Bool.false_or]at hes
     obtain⟨y,hy⟩:∃ y,y=ld B j:=⟨_,rfl⟩
     obtain⟨z,hz⟩:∃ z,z=ent B j n:=⟨_,rfl⟩
     rw[← hy]at hlead hlt HSX hes
     rw[← hz]at hcy HSX
     clear hy hz hen hyk hld hBj hlj hxj hrj hccj
     have HES:=Lib.hid hes
     clear hes
     go_wp2_with fail
     refine hlead.mono ?_
     rintro e w7 ⟨rfl,rfl⟩
     clear hlead
     by_cases hyn:y=n
     ·have t1:((y:Int) == (n:Int))=true:=by simp[hyn]
      have hend:endB B n B.length=true:=yeL (k:=j+1) (by rw[HES.out,hyn];simp) (by omega)
      have HRE:Hid (R=([],false)):=Lib.hid (by rw[HR.out];unfold solR;rw[← HB.out,hend];rfl)
      clear hend
      go_wp2
      go_ret2
      exact ycL HRE.out (Mk.nil hQj.b)
     ·have t1:((y:Int) == (n:Int))=false:=by simp;omega
      have hend:endB B n (j+1)=false:=by rw[HES.out];simp[hyn]
      have HEND:=Lib.hid hend
      have hyl:y<n:=by omega
      obtain⟨hoc,hof⟩:=zp hQj hyl
      have hset:=(hQj.set y (.int .i64 z)).1
      rw[yN,← HSX.out]at hset
      have HSET:=Lib.hid hset
      have HKP:Hid (wB.heap.size≤(wr.setCell ⟨g5,y,none⟩ (.int .i64 z)).heap.size ∧ ∀ b,w5.heap.size≤b→b<wB.heap.size→(wr.setCell ⟨g5,y,none⟩ (.int .i64 z)).heap[b]? = wB.heap[b]?):=Lib.hid ⟨Nat.le_trans hsz ((Below.refl g5 wr).setCell (p:=⟨g5,y,none⟩) (Nat.le_refl _) _).size,fun b h1 h2=>(Below.heap_setCell wr ⟨g5,y,none⟩ (.int .i64 z) b (show b≠g5 by omega)).trans (hkp b h1 h2)⟩
      have i3:(0:Int)≤(y:Int):=by omega
      have i4:(y:Int)<(n:Int):=by omega
      have i5:(n:Int)<((n+1:Nat):Int):=by omega
      clear hset hend hkp hsz HES hyn
      go_wp2
      go_roundw
      case rel=>exact⟨j+1,by omega,by go_num,HSET.out,HEND.out,HKP.out.1,HKP.out.2⟩
      case measure=>simp[intOf];omega
    ·obtain rfl:j=B.length:=by omega
     have HRE:Hid (R=(zg B n B.length,true)):=Lib.hid (by rw[HR.out];unfold solR;rw[← HB.out,hej];rfl)
     go_wp2
     go_ret2
     exact ycL HRE.out hQj
end Go.Proofs.YtaiegpggccdgoaaGreat

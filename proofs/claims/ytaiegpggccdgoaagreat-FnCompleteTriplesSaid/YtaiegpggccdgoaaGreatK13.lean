/-
  LawFnCompleteTriples: part 13 of the texts that the proof needs. No condition.
-/
import Derived.Test.YtaiegpggccdgoaaGreatK12
namespace Go.Proofs.YtaiegpggccdgoaaGreat
open Go Go.RowKit
def FarS (wb:World) (b1 b2:Nat) (w:World):Prop:=wb.heap.size≤w.heap.size ∧ ∀ b,b<wb.heap.size→b≠b1→b≠b2→w.heap[b]? = wb.heap[b]?
section
variable {wb w w':World} {b1 b2:Nat}
theorem FarS.grown {row:Option Nat} (h:FarS wb b1 b2 w) (hg:w.grownBy w' row) (hr:∀ b,row=some b→b=b1∨b=b2∨wb.heap.size≤b):FarS wb b1 b2 w':=
 ⟨Nat.le_trans h.1 hg.size,fun b h1 h2 h3=>(hg.block b (Nat.lt_of_lt_of_le h1 h.1) fun e=>by rcases hr b e.symm with h | h | h;exact h2 h;exact h3 h;omega).trans (h.2 b h1 h2 h3)⟩
theorem Own.byFarS {E:TypeId} {B:Nat} {A:Option Addr} {n c:Nat} {us:List Value} (h:Own wb B E A n c us) (hne:∀ b,(Value.slice A n c).ownBlock=some b→b≠b1∧b≠b2) (hf:FarS wb b1 b2 w):Own w B E A n c us:=by
 have hlt:=fun b hb=>(World.ownsRow.lt h b hb).2
 refine⟨h.1,?_⟩
 rcases h.2 with hz | ⟨g',cap,cur,he,hB,hg,r⟩
 ·exact .inl hz
 ·have e:(Value.slice A n c).ownBlock=some g':=by rw[he];rfl
  exact .inr ⟨g',cap,cur,he,hB,(hf.2 g' (hlt g' e) (hne g' e).1 (hne g' e).2).trans hg,r⟩
theorem Blk.byFarS {b:Nat} {t:TypeId} {cs:Array Value} (h:Blk wb b t cs) (h1:b≠b1) (h2:b≠b2) (hf:FarS wb b1 b2 w):Blk w b t cs:=(hf.2 b h.lt h1 h2).trans h
end
def qZ:Value→Value
 | .slice (some a) n c=>.slice (some { a with off:=a.off+64 }) (n-64) (c-64)
 | v=>v
theorem yhm {g c:Nat} (w:World) (hc:192≤c):(Instr.slice 24 (.slice (some ⟨g,0,none⟩) 192 c) (some (.int .i64 64)) none none).run Tryz.prog w=.ok (.slice (some ⟨g,64,none⟩) 128 (c-64)) w:=by
 have h:=uh (g:=g) (o:=0) (c:=c) (m:=192) (k:=64) w (by omega) (by omega)
 rw[Nat.zero_add]at h
 exact h
theorem yhq {g c:Nat} (w:World) (hc:192≤c):(Instr.slice 24 (.slice (some ⟨g,0,none⟩) 192 c) none (some (.int .i64 64)) none).run Tryz.prog w=.ok (.slice (some ⟨g,0,none⟩) 64 c) w:=
 ycU (g:=g) (o:=0) (c:=c) (m:=192) (k:=64) w (by omega) (by omega) (by omega)
set_option maxHeartbeats 12800000 in
set_option maxRecDepth 8000 in
theorem yaC (p:Int) (A:Option Addr) (k c:Nat) (st:List Int) (m:Option Addr) (n cm:Nat) (M:List (List Int)) (w:World) (hk6:k≤65536) (hc:k≤c) (hn:n≤1048576) (hcm:n≤cm) (hM:okM3 M) (ha:Rd w A k (ints st)) (hm:RdII w m n M) :
 Calls Tryz.prog 35 #[.agg #[.int .i64 p,.slice A k c],.slice m n cm] w (CmpP p st M w):=by
 have hB3:Below w.heap.size w (((w.alloc (.cells #[.int .i64 p,.slice A k c] 26)).alloc (.cells #[.slice none 0 0,.slice none 0 0,.slice none 0 0] 34)).alloc (.cells #[.slice m n cm] 32)):=((zG.alloc (Nat.le_refl _) _).alloc (by simp) _).alloc (by simp;omega) _
 have k0:Blk (((w.alloc (.cells #[.int .i64 p,.slice A k c] 26)).alloc (.cells #[.slice none 0 0,.slice none 0 0,.slice none 0 0] 34)).alloc (.cells #[.slice m n cm] 32)) w.heap.size 26 #[.int .i64 p,.slice A k c]:=((Blk.new _ _ _).alloc _).alloc _
 have kr0:Blk (((w.alloc (.cells #[.int .i64 p,.slice A k c] 26)).alloc (.cells #[.slice none 0 0,.slice none 0 0,.slice none 0 0] 34)).alloc (.cells #[.slice m n cm] 32)) (w.heap.size+1) 34 #[.slice none 0 0,.slice none 0 0,.slice none 0 0]:=(Blk.newAt3 (w:=w.alloc (.cells #[.int .i64 p,.slice A k c] 26)) (by simp)).alloc _
 have kx:Blk (((w.alloc (.cells #[.int .i64 p,.slice A k c] 26)).alloc (.cells #[.slice none 0 0,.slice none 0 0,.slice none 0 0] 34)).alloc (.cells #[.slice m n cm] 32)) (w.heap.size+1+1) 32 #[.slice m n cm]:=Blk.newAt3 (w:=((w.alloc (.cells #[.int .i64 p,.slice A k c] 26)).alloc (.cells #[.slice none 0 0,.slice none 0 0,.slice none 0 0] 34))) (by simp)
 have hml:M.length=n:=hm.len
 have hsl:st.length=k:=ha.lenI
 have hrx:RdM3 (((w.alloc (.cells #[.int .i64 p,.slice A k c] 26)).alloc (.cells #[.slice none 0 0,.slice none 0 0,.slice none 0 0] 34)).alloc (.cells #[.slice m n cm] 32)) (some ⟨w.heap.size+1+1,0,none⟩) 1 [M]:=ycG kx (hm.below hB3) hcm
 have hck:=qe p A none (some ⟨w.heap.size+1+1,0,none⟩) k c 0 0 1 1 st [] [M] (((w.alloc (.cells #[.int .i64 p,.slice A k c] 26)).alloc (.cells #[.slice none 0 0,.slice none 0 0,.slice none 0 0] 34)).alloc (.cells #[.slice m n cm] 32)) hk6 (by omega) (by omega) (ha.below hB3) ⟨[],Rd.nil _ _,rfl,fun k h=>absurd h (by simp)⟩ (fun ys hy=>absurd hy (by simp)) hrx (fun X hX=>by simp at hX;subst hX;exact hM)
 obtain⟨co,hco⟩:∃ z,z=yH p st [] [M]:=⟨_,rfl⟩
 rw[← hco]at hck
 obtain⟨q0,q1⟩:=k0.two
 by_cases h0:co=0
 ·subst h0
  obtain⟨hdb,h3, -,hmx⟩:=vm hco.symm
  obtain⟨HP, -,hst⟩:=ze hdb
  obtain⟨hp3,hp2⟩:=yk HP
  rw[hsl]at h3
  have hmm:=hmx M (by simp)
  rw[hsl]at hmm
  obtain⟨hl8,hTM⟩:=jU (by omega) hmm
  have hstn:NumsL p st:=fun y hy=>by have:=hst y hy;omega
  have hun:=qt hdb
  rw[hsl]at hun
  by_cases hk3:k=3
  ·subst hk3
   rw[pw3]at hl8 hTM
   obtain rfl:n=8:=by omega
   have hsk:=fun w' (h:Below w.heap.size w w')=>yev p (by omega) hp2 3 (by omega) A c st m cm M w' hc (ha.below h) hstn (hm.below h) hTM
   obtain⟨b,hb⟩:∃ z,z=xk p 3 st M:=⟨_,rfl⟩
   rw[← hb]at hsk
   have HSK:=Lib.hid hsk
   have HCB:Hid (cmpC p st M=if b=true then 0 else 5):=Lib.hid (by unfold cmpC;rw[← hco,if_pos rfl,hsl,← hb];cases b<;>simp)
   cases b with
   | true=>
    have HN:Hid (cmpC p st M=0):=Lib.hid (by rw[HCB.out];rfl)
    have hSM:SkM p st 3 (ent M):=yaq.1 hb.symm
    obtain⟨hs1,hs2,hs3⟩:=yhN HP hun hl8 hTM hSM
    have HLR:=Lib.hid fun w' (h:Below w.heap.size w w')=>yab p (by omega) hp2 3 (by omega) A c st w' (by omega) hc (ha.below h) hstn
    have HLT:=Lib.hid (j9 (p:=p) (by omega) st)
    have hfl:M.flatten.length=64:=by rw[xf hTM,hl8]
    have HFN:Hid (NumsL p M.flatten):=Lib.hid fun x hx=>by
     obtain⟨r,hr,hx⟩:=List.mem_flatten.1 hx
     exact (hTM r hr).2 x hx
    have hcc:=fun w' (h:Below w.heap.size w w')=>ya5 m 8 cm M w' (by omega) (by omega) (hm.below h) (fun r hr=>by rw[(hTM r hr).1];omega)
    rw[hfl]at hcc
    have HCC:=Lib.hid hcc
    have HSZ:Hid (∀ w',Calls Tryz.prog 76 #[.agg #[.int .i64 p,.slice A 3 c]] w' fun e w''=>e=.returned (.int .i64 8)∧Below w'.heap.size w' w''):=Lib.hid fun w'=>by have:=z8 p A 3 c w' (by omega);rwa [pw3]at this
    have hSMT:=qT (p:=p) (by omega) st
    have hSVN:=qU (p:=p) (by omega) st M.flatten
    have hslv:=fun (w':World) (AR:Option Addr) (t cR:Nat) (AV:Option Addr) (cV:Nat) (ht0:0<t) (ht:t≤1000) (hr:RdII w' AR t (sysM p st)) (hv:Rd w' AV t (ints (sysV p st M.flatten)))=>yhu p AR t cR (sysM p st) 128 AV cV (sysV p st M.flatten) w' HP ht0 ht (by omega) (by omega) hr hSMT hv hSVN
    rw[hs1]at hslv
    obtain⟨FL,hFL⟩:∃ z,z=M.flatten:=⟨_,rfl⟩
    obtain⟨XS,hXS⟩:∃ z,z=(solR p (sysM p st) (sysV p st M.flatten) 128).1:=⟨_,rfl⟩
    rw[← hXS]at hs2 hs3 hslv
    rw[← hFL]at hs2 HFN HCC hfl hslv
    have HSLV:=Lib.hid hslv
    have HXL:=Lib.hid hs3
    have HFL:=Lib.hid hfl
    have HSV:Hid (sysV p st FL=(locP p 3 st).map fun row=>(-(dotL p (row.take 64) FL))%p):=Lib.hid rfl
    have HSMD:Hid (sysM p st=(locP p 3 st).map fun row=>row.drop 64):=Lib.hid rfl
    have HTF:Hid (∀ (w':World) (X:Option Addr) (cx:Nat),192≤cx→Rd w' X 192 (ints (cmpL p st M))→Calls Tryz.prog 88 #[.slice X 192 cx,.int .i64 8] w' fun e w''=>∃ A1 c1 A2 c2 A3 c3,e=.returned (.agg #[.slice A1 8 c1,.slice A2 8 c2,.slice A3 8 c3])∧CT w'' w'.heap.size 8 (cmpL p st M) (.slice A1 8 c1) (.slice A2 8 c2) (.slice A3 8 c3)∧Below w'.heap.size w' w''):=Lib.hid fun w' X cx hcx hx=>by
     refine (ydc X 192 cx 8 (cmpL p st M) w' (by omega) (by omega) rfl hcx hx).mono ?_
     rintro e w'' ⟨g,cg,rfl,ho,hb⟩
     exact⟨_,_,_,_,_,_,rfl,.inl ⟨g,cg,rfl,rfl,rfl,ho⟩,hb⟩
    have HCE:Hid (FL++XS=cmpL p st M):=Lib.hid hs2
    have hlp0:0<(locP p 3 st).length:=List.length_pos_of_mem (vr.2 (.inl ⟨0,0,0,by omega,yq 3,by omega,rfl⟩))
    obtain⟨LP,hLP⟩:∃ z,z=locP p 3 st:=⟨_,rfl⟩
    obtain⟨SM,hSMe⟩:∃ z,z=sysM p st:=⟨_,rfl⟩
    obtain⟨SV,hSVe⟩:∃ z,z=sysV p st FL:=⟨_,rfl⟩
    rw[← hLP]at HLR HLT HSV HSMD hlp0
    have HLP0:=Lib.hid hlp0
    rw[← hSMe]at HSLV HSMD
    rw[← hSVe]at HSLV HSV
    clear hco hdb HP hst hun hmx hmm hl8 hb hsk hTM ha hm hrx hsl hml HCB hSM hs1 hs2 hs3 hfl hcc hSMT hSVN hslv hFL hXS hLP hSMe hSVe hstn hM hlp0
    go_enter Tryz.func35,Tryz.ntmps35
    go_wp2_with fail
    refine hck.mono ?_
    rintro e w2 ⟨rfl,hb2⟩
    have k2:=k0.below hb2 k0.lt
    have kr2:=kr0.below hb2 kr0.lt
    have HB2:=Lib.hid (hB3.trans (hb2.mono hB3.size))
    clear q0 q1 k0 kr0 hck hb2 kx hB3
    obtain⟨q0,q1⟩:=k2.two
    go_wp2_with fail
    refine (HSK.out w2 HB2.out).mono ?_
    rintro e w3 ⟨rfl,hb3⟩
    have k3:=k2.below hb3 k2.lt
    have kr3:=kr2.below hb3 kr2.lt
    have HB3:=Lib.hid (HB2.out.trans (hb3.mono HB2.out.size))
    clear q0 q1 k2 kr2 hb3 HSK HB2
    go_wp2
    refine yh 6 [[],[0],[],[2],[0,1],[2,3]] [VIs (.agg #[.int .i64 p,.slice A 3 c]),VIs (.int .i64 8),VIs (.agg #[.int .i64 p,.slice A 3 c]),VIs (.int .i64 (p)),VIs (.int .i64 8),VIs (.int .i64 (p))] (fun w'=>Blk w' w.heap.size 26 #[.int .i64 p,.slice A 3 c]∧Below w3.heap.size w3 w') (by kernel_rfl) (by kernel_rfl) (fun _ _ h hb=>⟨h.1.below hb h.1.lt,h.2.trans (hb.mono h.2.size)⟩) (⟨k3.drew,zG.drew⟩) (fun x=>?_)
    refine zS (fun w' hS hV K hK=>?_) ?_
    ·obtain⟨q0,q1⟩:=hS.1.two;go_simp;exact zO hK
    refine zS (fun w' hS hV K hK=>?_) ?_
    ·have e0:=zQ hV 0;obtain⟨q0,q1⟩:=hS.1.two;go_simp;refine (HSZ.out w').mono ?_;rintro e v1 ⟨rfl,hb⟩;exact hK.out _ _ _ rfl rfl rfl hb
    refine zS (fun w' hS hV K hK=>?_) ?_
    ·obtain⟨q0,q1⟩:=hS.1.two;go_simp;exact zO hK
    refine zS (fun w' hS hV K hK=>?_) ?_
    ·have e2:=zQ hV 2;obtain⟨q0,q1⟩:=hS.1.two;go_simp;refine (zb p A 3 c w').mono ?_;rintro e v1 ⟨rfl,hb⟩;exact hK.out _ _ _ rfl rfl rfl hb
    refine zS (fun w' hS hV K hK=>?_) ?_
    ·have e1:=zQ hV 1;obtain⟨q0,q1⟩:=hS.1.two;go_simp;exact zO hK
    refine zS (fun w' hS hV K hK=>?_) ?_
    ·have e3:=zQ hV 3;obtain⟨q0,q1⟩:=hS.1.two;go_simp;exact zO hK
    refine fun w' hS hV=>?_
    have e0:=zT hV 0
    have e1:=zT hV 1
    have e2:=zT hV 2
    have e3:=zT hV 3
    have e4:=zT hV 4
    have e5:=zT hV 5
    simp only[e0,e1,e2,e3,e4,e5]
    clear e0 e1 e2 e3 e4 e5
    refine wpAny_done (by kernel_rfl) ?_ _
    obtain⟨k4,s4⟩:=hS
    obtain⟨w4,hw4⟩:∃ W,W=w':=⟨_,rfl⟩
    rw[← hw4]at k4 s4 ⊢
    have kr4:=kr3.below s4 kr3.lt
    have HB4:=Lib.hid (HB3.out.trans (s4.mono HB3.out.size))
    clear hw4 s4 k3 kr3 HB3
    go_wp2_with fail
    refine (HCC.out w4 HB4.out).mono ?_
    rintro e w5 ⟨A5,c5,rfl,hM5⟩
    have hA5:Below w5.heap.size w5 ((w5.alloc (.cells #[] 24)).alloc (.cells #[] 2)):=(zG.alloc (Nat.le_refl _) _).alloc (by simp) _
    have k6:=(k4.below hM5.b k4.lt).below hA5 (k4.below hM5.b k4.lt).lt
    have kr6:=(kr4.below hM5.b kr4.lt).below hA5 (kr4.below hM5.b kr4.lt).lt
    have hB5:=HB4.out.trans (hM5.b.mono HB4.out.size)
    have HO5:=Lib.hid ((hM5.2.base HB4.out.size).below hA5)
    have HFB:Hid (∀ b,(Value.slice A5 64 c5).ownBlock=some b→b<w5.heap.size):=Lib.hid fun b hb=>(World.ownsRow.lt hM5.2 b hb).2
    have hl5:w.heap.size+1<w5.heap.size:=by have h1:=kr4.lt;have h2:=hM5.b.size;omega
    have HB6:=Lib.hid (hB5.trans (hA5.mono hB5.size))
    have ho1:Own ((w5.alloc (.cells #[] 24)).alloc (.cells #[] 2)) w.heap.size 24 (some ⟨w5.heap.size,0,none⟩) 0 0 []:=(Own.of_cells (cs:=#[]) hB5.size (Blk.new w5 24 #[]) (by simp[maxLen])).below (zG.alloc (Nat.le_refl _) _)
    have ho2:Own ((w5.alloc (.cells #[] 24)).alloc (.cells #[] 2)) w.heap.size 2 (some ⟨w5.heap.size+1,0,none⟩) 0 0 (ints []):=Own.of_cells (cs:=#[]) (by have:=hB5.size;omega) (Blk.newAt3 (w:=w5.alloc (.cells #[] 24)) (g:=w5.heap.size+1) (by simp)) (by simp[maxLen])
    obtain⟨q0,q1⟩:=k6.two
    obtain⟨b1,hb1⟩:∃ z,z=w5.heap.size:=⟨_,rfl⟩
    have hs6:((w5.alloc (.cells #[] 24)).alloc (.cells #[] 2)).heap.size=b1+2:=by rw[hb1];simp
    obtain⟨w6,hw6⟩:∃ W,W=((w5.alloc (.cells #[] 24)).alloc (.cells #[] 2)):=⟨_,rfl⟩
    rw[← hw6]at k6 kr6 HO5 HB6 ho1 ho2 hs6
    rw[← hb1]at HFB hl5 ho1 ho2
    have HB1:=Lib.hid hb1
    clear hb1
    have HO1:=Lib.hid ho1
    have HO2:=Lib.hid ho2
    clear hM5 hA5 hB5 ho1 ho2 k4 kr4 HB4
    go_wp2_with fail
    rw[← hw6]
    clear hw6
    refine (HLR.out w6 HB6.out).mono ?_
    rintro e w7 ⟨AL,cL,t,ht,rfl,hM7⟩
    have hb7:=hM7.b
    have k7:=k6.below hb7 k6.lt
    have kr7:=kr6.below hb7 kr6.lt
    obtain⟨rows0,hm7,hn7⟩:=hM7
    have htl:rows0.length=t:=hm7.2.len
    have hll:LP.length=t:=hn7.len.symm.trans htl
    have h7s:=hb7.size
    have HB7:=Lib.hid (HB6.out.trans (hb7.mono HB6.out.size))
    have HO57:=Lib.hid (HO5.out.below hb7)
    have HR1:=Lib.hid (HO1.out.below hb7)
    have HR2:=Lib.hid (HO2.out.below hb7)
    have HF7:Hid (FarS w7 b1 (b1+1) w7):=Lib.hid ⟨Nat.le_refl _,fun _ _ _ _=>rfl⟩
    have ht0:0<t:=by rw[← hll];exact HLP0.out
    obtain⟨gl,rfl,hgl1,hgl2⟩:∃ gl,AL=some ⟨gl,0,none⟩∧w6.heap.size≤gl∧gl<w7.heap.size:=by
     rcases hm7.2.form with ⟨_,hz⟩ | ⟨g,e,h1,h2⟩
     ·omega
     ·exact⟨g,e,h1,h2⟩
    have HROWS:Hid (∀ i,i<t → ∃ (gr cr:Nat),rows0[i]? = some (.slice (some ⟨gr,0,none⟩) 192 cr)∧192≤cr∧b1+2≤gr∧Own w7 w6.heap.size 2 (some ⟨gr,0,none⟩) 192 cr (ints (LP.getD i []))):=Lib.hid fun i hi=>by
     have hi':i<LP.length:=by omega
     obtain⟨A',c',e,ho⟩:=hn7.row i hi'
     have hl:LP[i].length=192:=(HLT.out _ (List.getElem_mem hi')).1
     rw[hl]at e ho
     rcases ho.form with ⟨_,hz⟩ | ⟨g,rfl,h1,h2⟩
     ·omega
     ·exact⟨g,c',e,ho.cap,by omega,by rw[yc [] hi'];exact ho⟩
    have HCELL:Hid (∀ i v,rows0[i]? = some v→w7.cell? ⟨gl,i,none⟩=some v):=Lib.hid fun i v hv=>by
     obtain⟨g',o',e,hc⟩:=hm7.2.rd.2 ht0
     injection e with e;injection e with e1 e2 _
     subst e1;subst e2
     have:=hc i v hv
     rwa [Nat.zero_add]at this
    have HTL:=Lib.hid htl
    have HLL:=Lib.hid hll
    have HKR:=Lib.hid kr7
    have hgb:b1+2≤gl:=by omega
    have h7b:b1+2≤w7.heap.size:=by omega
    clear hm7 hn7 hb7 k6 kr6 htl hll q0 q1 HO1 HO2 HO5 HB6 hgl1 kr7 HLR HCC HSZ h7s
    go_wp2
    go_loopw [10,11,46] (fun rv vv i wr=>∃ (j:Nat) (AR:Option Addr) (cR:Nat) (AV:Option Addr) (cV:Nat),j≤t∧i=.int .i64 j∧rv=.slice AR j cR∧vv=.slice AV j cV∧Hid (Own wr w.heap.size 24 AR j cR ((rows0.take j).map qZ))∧Hid (∀ b,(Value.slice AR j cR).ownBlock=some b→b=b1∨w7.heap.size≤b)∧Hid (Own wr w.heap.size 2 AV j cV (ints (SV.take j)))∧Hid (∀ b,(Value.slice AV j cV).ownBlock=some b→b=b1+1∨w7.heap.size≤b)∧Hid (FarS w7 b1 (b1+1) wr)∧Hid (Below w.heap.size w wr)) (fun _ _ i _=>t-(intOf i).toNat)
    case atStart=>exact⟨0,_,_,_,_,by omega,rfl,rfl,rfl,Lib.hid (by rw[List.take_zero,← HB1.out];exact HR1.out),Lib.hid (fun b hb=>.inl (by have h:=HB1.out;have h2:w5.heap.size=b:=(by injection hb);omega)),Lib.hid (by rw[List.take_zero,← HB1.out];exact HR2.out),Lib.hid (fun b hb=>.inl (by have h:=HB1.out;have h2:w5.heap.size+1=b:=(by injection hb);omega)),HF7,HB7⟩
    case round=>
     obtain⟨j,AR,cR,AV,cV,hj,rfl,rfl,rfl,HR,HRB,HV,HVB,HF,HB⟩:=hrel
     clear HR1 HR2 HF7
     have HO5r:=Lib.hid (HO57.out.byFarS (fun b hb=>by have:=HFB.out b hb;omega) HF.out)
     by_cases hlt:j<t
     ·obtain⟨gr,cr,hrv,hcr,hgr,hro⟩:=HROWS.out j hlt
      have q5:wr.cell? ⟨gl,j,none⟩=some (.slice (some ⟨gr,0,none⟩) 192 cr):=(World.cell?_of_block (a:=⟨gl,j,none⟩) (HF.out.2 gl hgl2 (by omega) (by omega))).trans (HCELL.out j _ hrv)
      have hs64:=fun w'=>yhm (g:=gr) (c:=cr) w' hcr
      have hst64:=fun w'=>yhq (g:=gr) (c:=cr) w' hcr
      have hj':j<LP.length:=by have:=HLL.out;omega
      have HVW:Hid (((rows0.take (j+1)).map qZ)=((rows0.take j).map qZ)++[.slice (some ⟨gr,64,none⟩) 128 (cr-64)]):=Lib.hid (by
       have hj0:j<rows0.length:=by have:=HTL.out;omega
       rw[List.take_succ_eq_append_getElem hj0,List.map_append]
       rw[List.getElem?_eq_getElem hj0]at hrv
       injection hrv with hrv
       rw[hrv];rfl)
      obtain⟨row,hrow⟩:∃ z,z=LP.getD j []:=⟨_,rfl⟩
      have HSVJ:Hid (SV.take (j+1)=SV.take j++[(-(dotL p (row.take 64) FL))%p]):=Lib.hid (by
       have hjs:j<SV.length:=by rw[HSV.out,List.length_map];exact hj'
       rw[List.take_succ_eq_append_getElem hjs]
       congr 2
       have:SV[j]=(LP.map fun row=>(-(dotL p (row.take 64) FL))%p)[j]'(by rw[List.length_map];exact hj'):=by first | (congr 1;exact HSV.out) | congr 1
       rw[this,List.getElem_map,hrow,yc [] hj'])
      have hrl:NumsL p row:=by rw[hrow,yc [] hj'];exact (HLT.out _ (List.getElem_mem hj')).2
      have HRN:Hid (NumsL p (row.take 64)):=Lib.hid fun x hx=>hrl x (List.mem_of_mem_take hx)
      rw[← hrow]at hro
      have HRO:=Lib.hid hro
      clear hrv hro hrow hrl hj'
      go_wp2_with (at_builtin;refine yt (cutW wr w.heap.size) wr 32 24 (.slice none 0 0) 24 Tryz.underlying32 zy rfl (by omega) rfl _ _ rfl AR j cR ((rows0.take j).map qZ) (.slice (some ⟨gr,64,none⟩) 128 (cr-64)) (HR.out.mk_ HB.out.size) (by omega) rfl rfl rfl ?_;intro A8 c8 w8 hM8 hg8 hat8)
      have HR8:=Lib.hid (hM8.own_ (yv HB.out.size))
      have HRB8:Hid (∀ b,(Value.slice A8 (j+1) c8).ownBlock=some b→b=b1∨w7.heap.size≤b):=Lib.hid fun b hb=>by
       obtain⟨g,rfl,h⟩:=hat8
       injection hb with hb
       subst hb
       rcases h with h | h
       ·exact HRB.out _ h
       ·exact .inr (Nat.le_trans HF.out.1 h)
      have HF8:=Lib.hid (HF.out.grown hg8 fun b hb=>by rcases HRB.out b hb with h | h;exact .inl h;exact .inr (.inr h))
      have HB8:Hid (Below w.heap.size w w8):=Lib.hid (HB.out.grown hg8 HB.out.size fun k hk=>(World.ownsRow.lt HR.out k hk).1)
      have HV8:=Lib.hid (HV.out.grown hg8 (HV.out.ne HR.out (by decide)))
      have HRW8:=Lib.hid (HRO.out.byFarS (fun b hb=>by have h:gr=b:=(by injection hb);omega) HF8.out)
      have HO58:=Lib.hid (HO57.out.byFarS (fun b hb=>by have:=HFB.out b hb;omega) HF8.out)
      have hdot:=ybb p (some ⟨gr,0,none⟩) 64 cr A5 64 c5 (row.take 64) FL w8 (by omega) hp2 (by omega) (Nat.le_refl _) (by have:=HRW8.out.rd.cutT (show 64≤192 by omega);rwa [show (ints row).take 64=ints (row.take 64) by unfold ints;rw[List.map_take]]at this) HRN.out HO58.out.rd HFN.out
      obtain⟨dd,hdd⟩:∃ z,z=dotL p (row.take 64) FL:=⟨_,rfl⟩
      have hd1:0≤dd:=by rw[hdd];exact Int.emod_nonneg _ (by omega)
      have hd2:dd<p:=by rw[hdd];exact Int.emod_lt_of_pos _ (by omega)
      rw[← hdd]at hdot HSVJ
      have hnm:=zN p (-dd) w8 (by omega) hp2 (by omega) (by omega)
      have WN:wrap64 (-dd) = -dd:=by unfold wrap64;omega
      clear hM8 hg8 hat8 hdd HO5r HR HRB HF HB HV q5 hs64
      go_wp2_with fail
      refine hdot.mono ?_
      rintro e w9 ⟨rfl,rfl⟩
      go_wp2_with fail
      refine hnm.mono ?_
      rintro e w9 ⟨rfl,rfl⟩
      clear hdot hnm
      go_wp2_with (at_builtin;refine yt (cutW w8 w.heap.size) w8 24 2 _ _ Tryz.underlying24 yo rfl (by omega) rfl _ _ rfl AV j cV _ _ (HV8.out.mk_ HB8.out.size) (by omega) rfl rfl rfl ?_;intro A9 c9 w9 hM9 hg9 hat9)
      have HV9:=Lib.hid (hM9.own_ (yv HB8.out.size))
      have HVB9:Hid (∀ b,(Value.slice A9 (j+1) c9).ownBlock=some b→b=b1+1∨w7.heap.size≤b):=Lib.hid fun b hb=>by
       obtain⟨g,rfl,h⟩:=hat9
       injection hb with hb
       subst hb
       rcases h with h | h
       ·exact HVB.out _ h
       ·exact .inr (Nat.le_trans HF8.out.1 h)
      have HF9:=Lib.hid (HF8.out.grown hg9 fun b hb=>by rcases HVB.out b hb with h | h;exact .inr (.inl h);exact .inr (.inr h))
      have HB9:Hid (Below w.heap.size w w9):=Lib.hid (HB8.out.grown hg9 HB8.out.size fun k hk=>(World.ownsRow.lt HV8.out k hk).1)
      have HR9:=Lib.hid (HR8.out.grown hg9 (HR8.out.ne HV8.out (by decide)))
      clear hM9 hg9 hat9 hst64 hd1 hd2 WN
      go_roundw
      case rel=>exact⟨j+1,A8,c8,A9,c9,by omega,by go_num,rfl,rfl,Lib.hid (by rw[HVW.out];exact HR9.out),HRB8,Lib.hid (by rw[HSVJ.out];simpa [ints] using HV9.out),HVB9,HF9,HB9⟩
      case measure=>simp[intOf];omega
     ·obtain rfl:j=t:=by omega
      have HRR:Hid (RdII wr AR j SM):=Lib.hid (by
       refine⟨_,HR.out.rd,by rw[HSMD.out,List.length_map,List.length_map,List.length_take,HTL.out,HLL.out];omega,fun k hk=>?_⟩
       have hk':k<LP.length:=by rw[HSMD.out,List.length_map]at hk;exact hk
       have hkt:k<j:=by have:=HLL.out;omega
       obtain⟨gr,cr,hrv,hcr,hgr,hro⟩:=HROWS.out k hkt
       have hkr:k<rows0.length:=by have:=HTL.out;omega
       have e1:SM[k]=(LP.getD k []).drop 64:=by
        have:SM[k]=(LP.map fun row=>row.drop 64)[k]'(by rw[List.length_map];exact hk'):=by first | (congr 1;exact HSMD.out) | congr 1
        rw[this,List.getElem_map,yc [] hk']
       have hl:(LP.getD k []).length=192:=by rw[yc [] hk'];exact (HLT.out _ (List.getElem_mem hk')).1
       have hl2:SM[k].length=128:=by rw[e1,List.length_drop,hl]
       rw[hl2]
       refine⟨some ⟨gr,64,none⟩,cr-64,?_,?_,by omega⟩
       ·rw[List.getElem?_map,List.getElem?_take,if_pos hkt,hrv];rfl
       ·have:=(hro.byFarS (fun b hb=>by have h:gr=b:=(by injection hb);omega) HF.out).rd.behind (show 64<192 by omega)
        obtain⟨g',o',e,hr⟩:=this
        injection e with e;injection e with e2 e3 _
        subst e2;subst e3
        rw[vc,Nat.zero_add]at hr
        rw[e1];exact hr)
      have HVV:Hid (Rd wr AV j (ints SV)):=Lib.hid (by have:=HV.out.rd;rwa [List.take_of_length_le (by rw[HSV.out,List.length_map,HLL.out];exact Nat.le_refl _)]at this)
      have hslv:=HSLV.out wr AR j cR AV cV ht0 ht HRR.out HVV.out
      have kr8:=HKR.out.byFarS (by omega) (by omega) HF.out
      clear HR HRB HV HVB HRR HVV k7
      go_wp2_with fail
      refine hslv.mono ?_
      rintro e w8 ⟨AX,kx,cx,rfl,hMX⟩
      obtain rfl:kx=128:=by have:=hMX.2.len;rw[yD]at this;have:=HXL.out;omega
      have kr9:=kr8.below hMX.b kr8.lt
      have HO8:=Lib.hid (HO5r.out.below hMX.b)
      have HB8:=Lib.hid (HB.out.trans (hMX.b.mono HB.out.size))
      have HX8:=Lib.hid hMX.rd
      clear hslv hMX HO5r HF HB kr8
      go_wp2_with (at_builtin;go_loud (refine ydh (cutW w8 w.heap.size) w8 24 2 (.int .i64 0) 8 Tryz.underlying24 yo rfl (by omega) rfl _ _ rfl A5 64 c5 (ints FL) AX 128 cx (ints XS) (HO8.out.mk_ HB8.out.size) HX8.out (by intro v hv;obtain⟨x,_,rfl⟩:=List.mem_map.1 hv;rfl) (by omega) (by omega) (by omega) rfl ?_ ?_);(go_simp);intro A9 c9 w9 hM9 hg9)
      have kr10:=kr9.grown hg9 (HO8.out.ne_blk kr9 (by decide))
      have hr9:=hM9.rd
      rw[yfb,HCE.out]at hr9
      have hc9:192≤c9:=hM9.2.cap
      have HB9:Hid (Below w.heap.size w w9):=Lib.hid (HB8.out.grown hg9 HB8.out.size fun k hk=>(World.ownsRow.lt HO8.out k hk).1)
      have htf:=HTF.out w9 A9 c9 hc9 hr9
      clear hM9 hg9 hr9 kr9 HO8 HX8
      go_wp2_with fail
      refine htf.mono ?_
      rintro e w10 ⟨A1,c1,A2,c2,A3,c3,rfl,hct,hb10⟩
      have kr11:=kr10.below hb10 kr10.lt
      have hb11:=HB9.out.trans (hb10.mono HB9.out.size)
      have hct2:=hct.base HB9.out.size
      clear htf hct hb10 kr10
      have hB9:=hb11
      have HCT:=Lib.hid (CT.set3 (x':=(.slice A1 8 c1)) (y':=(.slice A2 8 c2)) (z':=(.slice A3 8 c3)) hct2 kr11)
      have HBF:=Lib.hid (xB (a:=(.slice A1 8 c1)) (b:=(.slice A2 8 c2)) (d:=(.slice A3 8 c3)) hB9 (show w.heap.size≤w.heap.size+1 by omega))
      have r0:=kr11.cell 0
      have r1:=kr11.cell 1
      have r2:=kr11.cell 2
      have z0:=kr11.frozen 0
      have z1:=kr11.frozen 1
      have z2:=kr11.frozen 2
      simp at r0 r1 r2
      have kz:=Blk.storedT (x:=(.slice A1 8 c1)) (y:=(.slice A2 8 c2)) (z:=(.slice A3 8 c3)) kr11
      have p0:=kz.cell 0
      have p1:=kz.cell 1
      have p2:=kz.cell 2
      simp at p0 p1 p2
      clear kz hB9
      go_wp2
      exact bodyPost_ret (v:=.tuple #[.agg #[(.slice A1 8 c1),(.slice A2 8 c2),(.slice A3 8 c3)],.int .i64 0]) (by simp[results,Tryz.results35,go_sem,p0,p1,p2]) rfl (.inr ⟨HN.out,(.slice A1 8 c1),(.slice A2 8 c2),(.slice A3 8 c3),rfl,HCT.out,HBF.out⟩)
   | false=>
    have HC:Hid (cmpC p st M=5):=Lib.hid (by rw[HCB.out];rfl)
    have HN:Hid (cmpC p st M≠0):=Lib.hid (by rw[HC.out];omega)
    clear hco hdb HP hst hun hmx hmm hl8 hb hsk hTM ha hm hrx hsl hml HCB
    go_enter Tryz.func35,Tryz.ntmps35
    go_wp2_with fail
    refine hck.mono ?_
    rintro e w2 ⟨rfl,hb2⟩
    have k2:=k0.below hb2 k0.lt
    have kr2:=kr0.below hb2 kr0.lt
    have HB2:=Lib.hid (hB3.trans (hb2.mono hB3.size))
    clear q0 q1 k0 kr0 hck hb2 kx hB3
    obtain⟨q0,q1⟩:=k2.two
    go_wp2_with fail
    refine (HSK.out w2 HB2.out).mono ?_
    rintro e w4 ⟨rfl,hb4⟩
    have kr4:=kr2.below hb4 kr2.lt
    have hb5:=HB2.out.trans (hb4.mono HB2.out.size)
    clear q0 q1 hb4 k2 kr2
    have HZ:=Lib.hid (xB (a:=.slice none 0 0) (b:=.slice none 0 0) (d:=.slice none 0 0) hb5 (show w.heap.size≤w.heap.size+1 by omega))
    have r0:=kr4.cell 0
    have r1:=kr4.cell 1
    have r2:=kr4.cell 2
    have z0:=kr4.frozen 0
    have z1:=kr4.frozen 1
    have z2:=kr4.frozen 2
    simp at r0 r1 r2
    have kz:=Blk.storedT (x:=.slice none 0 0) (y:=.slice none 0 0) (z:=.slice none 0 0) kr4
    have u0:=kz.cell 0
    have u1:=kz.cell 1
    have u2:=kz.cell 2
    simp at u0 u1 u2
    clear kz
    go_wp2
    exact bodyPost_ret (v:=.tuple #[.agg #[.slice none 0 0,.slice none 0 0,.slice none 0 0],.int .i64 5]) (by simp[results,Tryz.results35,go_sem,u0,u1,u2]) rfl (.inl ⟨HN.out,by rw[HC.out],HZ.out⟩)
  ·have HC:Hid (cmpC p st M=5):=Lib.hid (by unfold cmpC;rw[← hco,if_pos rfl,hsl,if_neg (fun e=>hk3 e.1)])
   have HN:Hid (cmpC p st M≠0):=Lib.hid (by rw[HC.out];omega)
   have hki:((k:Int) == 3)=false:=by simp;omega
   clear hco hdb HP hst hun hmx hmm hl8 hTM ha hm hrx hsl hml
   go_enter Tryz.func35,Tryz.ntmps35
   go_wp2_with fail
   refine hck.mono ?_
   rintro e w4 ⟨rfl,hb4⟩
   have k4:=k0.below hb4 k0.lt
   have kr4:=kr0.below hb4 kr0.lt
   have hb5:=hB3.trans (hb4.mono hB3.size)
   clear q0 q1 k0 kr0 hck hb4 kx hB3
   obtain⟨q0,q1⟩:=k4.two
   have HZ:=Lib.hid (xB (a:=.slice none 0 0) (b:=.slice none 0 0) (d:=.slice none 0 0) hb5 (show w.heap.size≤w.heap.size+1 by omega))
   have r0:=kr4.cell 0
   have r1:=kr4.cell 1
   have r2:=kr4.cell 2
   have z0:=kr4.frozen 0
   have z1:=kr4.frozen 1
   have z2:=kr4.frozen 2
   simp at r0 r1 r2
   have kz:=Blk.storedT (x:=.slice none 0 0) (y:=.slice none 0 0) (z:=.slice none 0 0) kr4
   have u0:=kz.cell 0
   have u1:=kz.cell 1
   have u2:=kz.cell 2
   simp at u0 u1 u2
   clear kz
   go_wp2
   exact bodyPost_ret (v:=.tuple #[.agg #[.slice none 0 0,.slice none 0 0,.slice none 0 0],.int .i64 5]) (by simp[results,Tryz.results35,go_sem,u0,u1,u2]) rfl (.inl ⟨HN.out,by rw[HC.out],HZ.out⟩)
 ·have HC:Hid (cmpC p st M=co):=Lib.hid (by unfold cmpC;rw[← hco,if_neg h0])
  have HN:Hid (cmpC p st M≠0):=Lib.hid (by rw[HC.out];exact h0)
  have ez:(co == 0)=false:=by simp[h0]
  clear hco ha hm hrx hsl hml
  go_enter Tryz.func35,Tryz.ntmps35
  go_wp2_with fail
  refine hck.mono ?_
  rintro e w4 ⟨rfl,hb4⟩
  have kr4:=kr0.below hb4 kr0.lt
  have hb5:=hB3.trans (hb4.mono hB3.size)
  clear q0 q1 k0 kr0 hck hb4 kx hB3
  have HZ:=Lib.hid (xB (a:=.slice none 0 0) (b:=.slice none 0 0) (d:=.slice none 0 0) hb5 (show w.heap.size≤w.heap.size+1 by omega))
  have r0:=kr4.cell 0
  have r1:=kr4.cell 1
  have r2:=kr4.cell 2
  have z0:=kr4.frozen 0
  have z1:=kr4.frozen 1
  have z2:=kr4.frozen 2
  simp at r0 r1 r2
  have kz:=Blk.storedT (x:=.slice none 0 0) (y:=.slice none 0 0) (z:=.slice none 0 0) kr4
  have u0:=kz.cell 0
  have u1:=kz.cell 1
  have u2:=kz.cell 2
  simp at u0 u1 u2
  clear kz
  go_wp2
  exact bodyPost_ret (v:=.tuple #[.agg #[.slice none 0 0,.slice none 0 0,.slice none 0 0],.int .i64 co]) (by simp[results,Tryz.results35,go_sem,u0,u1,u2]) rfl (.inl ⟨HN.out,by rw[HC.out],HZ.out⟩)
end Go.Proofs.YtaiegpggccdgoaaGreat

/-
  LawFnCompleteTriples: part 15 of the texts that the proof needs. No condition.
-/
import Derived.Test.YtaiegpggccdgoaaGreatK14
namespace Go.Proofs.YtaiegpggccdgoaaGreat
open Go Go.RowKit
def ydy (B:Nat) (w w':World):Prop:=∃ g,B≤g∧RelT g w w'
theorem yg6 {w w':World} {g:Nat} (r:RelT g w w'):w'.heap.size=w.heap.size:=by
 obtain⟨a,b,d,x,y,z,k,rfl⟩:=r
 simp[World.setCell]
def VAl (B:Nat):VP:=⟨fun v w=>∃ g,v=.pointer (some ⟨g,0,none⟩)∧B≤g∧Blk w g 34 #[.slice none 0 0,.slice none 0 0,.slice none 0 0],fun _ _ _ ⟨g,e,h,k⟩ hb=>⟨g,e,h,k.below hb k.lt⟩⟩
def VTw (w0:World) (n:Nat) (M1 M2:List (List Int)):VP:=⟨fun v w=>∃ A1 c1 A2 c2,v=.agg #[.slice A1 n c1,.slice A2 n c2,.slice none 0 0]∧MkII w0 w A1 n c1 M1∧MkII w0 w A2 n c2 M2,fun _ _ _ ⟨A1,c1,A2,c2,e,h1,h2⟩ hb=>⟨A1,c1,A2,c2,e,h1.below hb,h2.below hb⟩⟩
def VSw (w0:World) (B n:Nat) (M1 M2:List (List Int)) (v0:Value):VP:=⟨fun _ w=>∃ g A1 c1 A2 c2,v0=.pointer (some ⟨g,0,none⟩)∧B≤g∧Blk w g 34 #[.slice A1 n c1,.slice A2 n c2,.slice none 0 0]∧OwnII w w0.heap.size A1 n c1 M1∧OwnII w w0.heap.size A2 n c2 M2,fun _ _ _ ⟨g,A1,c1,A2,c2,e,h,k,h1,h2⟩ hb=>⟨g,A1,c1,A2,c2,e,h,k.below hb k.lt,h1.below hb,h2.below hb⟩⟩
def Far (wb:World) (g:Nat) (w:World):Prop:=wb.heap.size≤w.heap.size ∧ ∀ b,b<wb.heap.size→b≠g→w.heap[b]? = wb.heap[b]?
theorem Far.drew {wb w:World} {g:Nat} (h:Far wb g w):Far wb g w.drew:=h
theorem Far.below {wb w w':World} {g:Nat} (h:Far wb g w) (hb:Below w.heap.size w w'):Far wb g w':=⟨Nat.le_trans h.1 hb.size,fun b h1 h2=>(hb.block b (Nat.lt_of_lt_of_le h1 h.1)).trans (h.2 b h1 h2)⟩
theorem Far.grown {wb w w':World} {g:Nat} {row:Option Nat} (h:Far wb g w) (hg:w.grownBy w' row) (hr:∀ b,row=some b→wb.heap.size≤b):Far wb g w':=
 have hb:=(Below.refl wb.heap.size w).grown hg h.1 hr
 ⟨Nat.le_trans h.1 hb.size,fun b h1 h2=>(hb.block b h1).trans (h.2 b h1 h2)⟩
theorem Far.set {wb w:World} {g:Nat} (h:Far wb g w) (i:Nat) (u:Value):Far wb g (w.setCell ⟨g,i,none⟩ u):=⟨by simpa [World.setCell] using h.1,fun b h1 h2=>(Below.heap_setCell w ⟨g,i,none⟩ u b h2).trans (h.2 b h1 h2)⟩
theorem Own.byFar {wb w:World} {g:Nat} {t E:TypeId} {cs:Array Value} {B:Nat} {A:Option Addr} {n c:Nat} {us:List Value} (h:Own wb B E A n c us) (k:Blk wb g t cs) (hE:E≠t) (hf:Far wb g w):Own w B E A n c us:=by
 have hne:=h.ne_blk k hE
 have hlt:=fun b hb=>(World.ownsRow.lt h b hb).2
 refine⟨h.1,?_⟩
 rcases h.2 with hz | ⟨g',cap,cur,he,hB,hg,r⟩
 ·exact .inl hz
 ·refine .inr ⟨g',cap,cur,he,hB,(hf.2 g' (hlt g' (by rw[he];rfl)) fun e=>hne (by rw[he,← e];rfl)).trans hg,r⟩
theorem OwnII.byFar {wb w:World} {g:Nat} {t:TypeId} {cs:Array Value} {B:Nat} {A:Option Addr} {n c:Nat} {L:List (List Int)} (h:OwnII wb B A n c L) (k:Blk wb g t cs) (h1:24≠t) (h2:2≠t) (hf:Far wb g w):OwnII w B A n c L:=by
 obtain⟨rows,ho,hn⟩:=h
 exact⟨rows,ho.byFar k h1 hf,hn.len,fun j hj=>by obtain⟨A',c',e,hr⟩:=hn.row j hj;exact⟨A',c',e,hr.byFar k h2 hf⟩,hn.apart⟩
theorem Blk.byFar {wb w:World} {g b:Nat} {t:TypeId} {cs:Array Value} (h:Blk wb b t cs) (hne:b≠g) (hf:Far wb g w):Blk w b t cs:=(hf.2 b h.lt hne).trans h
def VOw (B n:Nat) (Ls:List (List Int)):VP:=⟨fun v w=>∃ A c,v=.slice A n c∧OwnII w B A n c Ls,fun _ _ _ ⟨A,c,e,h⟩ hb=>⟨A,c,e,h.below hb⟩⟩
def VSo (B n:Nat) (L:List Int):VP:=⟨fun v w=>∃ A c,v=.slice A n c∧Own w B 2 A n c (ints L),fun _ _ _ ⟨A,c,e,h⟩ hb=>⟨A,c,e,h.below hb⟩⟩
def VNo (B n:Nat) (L:List Int):VP:=⟨fun v w=>∃ g A c,v=.slice (some ⟨g,0,none⟩) 1 1∧Blk w g 24 #[.slice A n c]∧Own w B 2 A n c (ints L),fun _ _ _ ⟨g,A,c,e,b,h⟩ hb=>⟨g,A,c,e,b.below hb b.lt,h.below hb⟩⟩
def yaI (ia:Nat) (wb:World) (v:Value) (j:Nat) (w w':World):Prop:=j=ia∧(∀ b,v.ownBlock=some b→wb.heap.size≤b)∧w.grownBy w' v.ownBlock
def SPu (w wb:World) (gt:Nat) (ds cs:Array Value) (wr:World) (b:Bool) (w':World):Prop:=
 Blk w' w.heap.size 26 ds∧Blk w' gt 34 cs∧Far wb gt w'∧wr.heap.size≤w'.heap.size∧Below w.heap.size w w'∧(b=false→Below wr.heap.size wr w')
theorem SPu.step {w wb wr:World} {gt ia:Nat} {ds cs:Array Value} {v:Value} {C:List (List Nat)} (h0:w.heap.size<wb.heap.size) (h1:gt<wb.heap.size) (h2:wb.heap.size≤wr.heap.size) (j:Nat) (b:Bool) (w1 w2:World) (h:SPu w wb gt ds cs wr b w1) (hb:StepR C (yaI ia wb v j) j w1 w2):SPu w wb gt ds cs wr (b || j == ia) w2:=by
 obtain⟨s1,s2,s3,s4,s5,s6⟩:=h
 refine hb.either (fun hb=>⟨s1.below hb s1.lt,s2.below hb s2.lt,s3.below hb,Nat.le_trans s4 hb.size,s5.trans (hb.mono s5.size),fun e=>?_⟩) (fun ⟨hj,hv,hg⟩=>?_)
 ·rw[Bool.or_eq_false_iff]at e
  exact (s6 e.1).trans (hb.mono s4)
 ·subst hj
  have ne:∀ x,x<wb.heap.size→some x≠v.ownBlock:=fun x hx e=>by have:=hv x e.symm;omega
  have hb':Below wb.heap.size w1 w2:=(Below.refl wb.heap.size w1).grown hg s3.1 hv
  exact⟨s1.grown hg (ne _ h0),s2.grown hg (ne _ h1),s3.grown hg hv,Nat.le_trans s4 hb'.size,s5.grown hg s5.size fun k hk=>by have:=hv k hk;omega,fun e=>by simp at e⟩
set_option maxHeartbeats 12800000 in
set_option maxRecDepth 8000 in
theorem ydx (p:Int) (A:Option Addr) (k c:Nat) (st:List Int) (X:Option Addr) (n cx:Nat) (xs:List Int) (w:World) (hk6:k≤65536) (hc:k≤c) (hn:n≤1048576) (hcx:n≤cx) (ha:Rd w A k (ints st)) (hx:Rd w X n (ints xs)) :
 Calls Tryz.prog 11 #[.agg #[.int .i64 p,.slice A k c],.slice X n cx] w (PureP p st xs w):=by
 have hB3:Below w.heap.size w (((w.alloc (.cells #[.int .i64 p,.slice A k c] 26)).alloc (.cells #[.slice none 0 0,.slice none 0 0,.slice none 0 0] 34)).alloc (.cells #[.slice X n cx] 24)):=((zG.alloc (Nat.le_refl _) _).alloc (by simp) _).alloc (by simp;omega) _
 have k0:Blk (((w.alloc (.cells #[.int .i64 p,.slice A k c] 26)).alloc (.cells #[.slice none 0 0,.slice none 0 0,.slice none 0 0] 34)).alloc (.cells #[.slice X n cx] 24)) w.heap.size 26 #[.int .i64 p,.slice A k c]:=((Blk.new _ _ _).alloc _).alloc _
 have kr0:Blk (((w.alloc (.cells #[.int .i64 p,.slice A k c] 26)).alloc (.cells #[.slice none 0 0,.slice none 0 0,.slice none 0 0] 34)).alloc (.cells #[.slice X n cx] 24)) (w.heap.size+1) 34 #[.slice none 0 0,.slice none 0 0,.slice none 0 0]:=(Blk.newAt3 (w:=w.alloc (.cells #[.int .i64 p,.slice A k c] 26)) (by simp)).alloc _
 have kx:Blk (((w.alloc (.cells #[.int .i64 p,.slice A k c] 26)).alloc (.cells #[.slice none 0 0,.slice none 0 0,.slice none 0 0] 34)).alloc (.cells #[.slice X n cx] 24)) (w.heap.size+1+1) 24 #[.slice X n cx]:=Blk.newAt3 (w:=((w.alloc (.cells #[.int .i64 p,.slice A k c] 26)).alloc (.cells #[.slice none 0 0,.slice none 0 0,.slice none 0 0] 34))) (by simp)
 have hxl:xs.length=n:=hx.lenI
 have hsl:st.length=k:=ha.lenI
 have hrx:RdII (((w.alloc (.cells #[.int .i64 p,.slice A k c] 26)).alloc (.cells #[.slice none 0 0,.slice none 0 0,.slice none 0 0] 34)).alloc (.cells #[.slice X n cx] 24)) (some ⟨w.heap.size+1+1,0,none⟩) 1 [xs]:=yg3 kx (hx.below hB3) hcx
 have hck:=qe p A (some ⟨w.heap.size+1+1,0,none⟩) none k c 1 1 0 0 st [xs] [] (((w.alloc (.cells #[.int .i64 p,.slice A k c] 26)).alloc (.cells #[.slice none 0 0,.slice none 0 0,.slice none 0 0] 34)).alloc (.cells #[.slice X n cx] 24)) hk6 (by omega) (by omega) (ha.below hB3) hrx (fun ys hy=>by simp at hy;subst hy;omega) ⟨[],Rd.nil _ _,rfl,fun k h=>absurd h (by simp)⟩ (fun M hM=>absurd hM (by simp))
 obtain⟨co,hco⟩:∃ z,z=yH p st [xs] []:=⟨_,rfl⟩
 rw[← hco]at hck
 obtain⟨q0,q1⟩:=k0.two
 by_cases h0:co=0
 ·subst h0
  obtain⟨hdb,h3,hel, -⟩:=vm hco.symm
  obtain⟨hl,hnm⟩:=hel xs (by simp)
  obtain⟨HP, -,hst⟩:=ze hdb
  obtain⟨hp3,hp2⟩:=yk HP
  rw[hsl]at h3 hl
  obtain rfl:n=pw k:=by omega
  have hstn:NumsL p st:=fun y hy=>by have:=hst y hy;omega
  have hpos:=yq k
  have hpk:pw k≤8:=yz h3
  have htr:=fun w' (h:Below w.heap.size w w')=>ybc p (by omega) hp2 A k c X (pw k) cx xs w' hpos (hx.below h) hnm
  have hx0:=hnm.getD (show 0<p by omega) 0
  have h2d:=qY HP (x:=xs.getD 0 0)
  rw[show xs.getD 0 0+xs.getD 0 0=2*xs.getD 0 0 by omega,Int.emod_eq_of_lt hx0.1 hx0.2]at h2d
  obtain⟨T,hT⟩:∃ z,z=2*xs.getD 0 0%p:=⟨_,rfl⟩
  rw[← hT]at htr h2d
  have HTR0:=Lib.hid htr
  by_cases hz:T=0
  ·subst hz
   have HN:Hid (zP p st xs=0):=Lib.hid (by unfold zP;rw[← hco,if_pos rfl,if_pos (h2d.1 rfl)])
   have HTL:=Lib.hid (vZ (p:=p) (by omega) k st xs).1
   have HTR:=Lib.hid (yam (p:=p) (by omega) k st xs).1
   have HLL:=Lib.hid (vZ (p:=p) (by omega) k st xs).2
   have HSL:=Lib.hid hsl
   clear hco hdb hel hl HP hst hx0 h2d hT htr hrx hxl hsl
   go_enter Tryz.func11,Tryz.ntmps11
   go_wp2_with fail
   refine hck.mono ?_
   rintro e w2 ⟨rfl,hb2⟩
   have k2:=k0.below hb2 k0.lt
   have kr2:=kr0.below hb2 kr0.lt
   have HB2:=Lib.hid (hB3.trans (hb2.mono hB3.size))
   clear q0 q1 k0 kr0 hck hb2 kx hB3
   obtain⟨q0,q1⟩:=k2.two
   go_wp2_with fail
   refine (HTR0.out w2 HB2.out).mono ?_
   rintro e w3 ⟨rfl,hb3⟩
   have k3:=k2.below hb3 k2.lt
   have kr3:=kr2.below hb3 kr2.lt
   have HB3:=Lib.hid (HB2.out.trans (hb3.mono HB2.out.size))
   have hl0:=k3.lt
   have hl1:=kr3.lt
   clear q0 q1 k2 kr2 hb3
   go_wp2
   refine xy 9 (ydy w3.heap.size) [[],[],[0,1],[],[],[3,4],[0,1,2,3,4,5],[],[0,1,2,3,4,5,6,7]] [[],[],[],[],[],[],[],[],[2,5,6,7]] (fun x=>[VIs (.agg #[.int .i64 p,.slice A k c]),VIs (.slice X (pw k) cx),VMat w (pw k) (yO p k st xs),VIs (.agg #[.int .i64 p,.slice A k c]),VIs (.slice X (pw k) cx),VMat w (pw k) (yY p k st xs),VTw w (pw k) (yO p k st xs) (yY p k st xs),VAl w3.heap.size,VSw w w3.heap.size (pw k) (yO p k st xs) (yY p k st xs) (x 7)]) (fun w'=>Blk w' w.heap.size 26 #[.int .i64 p,.slice A k c]∧Blk w' (w.heap.size+1) 34 #[.slice none 0 0,.slice none 0 0,.slice none 0 0]∧Below w.heap.size w w'∧w3.heap.size≤w'.heap.size) (by kernel_rfl) (by kernel_rfl) (fun x x' j hx=>by
    rcases j with _ | _ | _ | _ | _ | _ | _ | _ | _ | j
    ·rfl
    ·rfl
    ·rfl
    ·rfl
    ·rfl
    ·rfl
    ·rfl
    ·rfl
    ·rw[hx 7 (by decide)]
    ·rfl)
    (z6 [0,1,3,4] (by decide) (fun k hk x v w w' hp hr=>by
     simp only[List.mem_cons,zJ,or_false]at hk
     rcases hk with rfl | rfl | rfl | rfl
     ·exact hp
     ·exact hp
     ·exact hp
     ·exact hp)) (fun j _ _ h hb=>hb.either (fun hb=>⟨h.1.below hb h.1.lt,h.2.1.below hb h.2.1.lt,h.2.2.1.trans (hb.mono h.2.2.1.size),Nat.le_trans h.2.2.2 hb.size⟩) (fun ⟨g9,hg9,hr⟩=>⟨h.1.relT (by omega) hr,h.2.1.relT (by omega) hr,ur h.2.2.1 (by omega) hr,by rw[yg6 hr];exact h.2.2.2⟩)) (⟨k3.drew,kr3.drew,HB3.out.trans zG.drew,Nat.le_refl _⟩) (fun x=>?_)
   refine yd (Eq.trans (by simp only[zA,zC];exact rfl) rfl) rfl (fun w' hS hV K hK=>?_) ?_
   ·obtain⟨q0,q1⟩:=hS.1.two;go_simp;exact hK.out _ _ _ rfl rfl rfl zG
   simp only[zD,zE,zF]
   refine yd (Eq.trans (by simp only[zA,zB,zC];exact rfl) rfl) rfl (fun w' hS hV K hK=>?_) ?_
   ·obtain⟨q0,q1⟩:=hS.1.two;go_simp;exact hK.out _ _ _ rfl rfl rfl zG
   simp only[zD,zE,zF]
   refine yd (Eq.trans (by simp only[zA,zB,zC];exact rfl) rfl) rfl (fun w' hS hV K hK=>?_) ?_
   ·have e0:=zQ hV 0;have e1:=zQ hV 1;obtain⟨q0,q1⟩:=hS.1.two;go_simp;refine (yew p A k c st X cx xs w' (by omega) hp2 (by omega) hc hcx (ha.below hS.2.2.1) hstn (hx.below hS.2.2.1) hnm).mono ?_;rintro e v1 ⟨A9,c9,rfl,hM⟩;exact hK.out _ _ _ rfl rfl ⟨_,_,rfl,hM.after hS.2.2.1⟩ hM.b
   simp only[zD,zE,zF]
   refine yd (Eq.trans (by simp only[zA,zB,zC];exact rfl) rfl) rfl (fun w' hS hV K hK=>?_) ?_
   ·obtain⟨q0,q1⟩:=hS.1.two;go_simp;exact hK.out _ _ _ rfl rfl rfl zG
   simp only[zD,zE,zF]
   refine yd (Eq.trans (by simp only[zA,zB,zC];exact rfl) rfl) rfl (fun w' hS hV K hK=>?_) ?_
   ·obtain⟨q0,q1⟩:=hS.1.two;go_simp;exact hK.out _ _ _ rfl rfl rfl zG
   simp only[zD,zE,zF]
   refine yd (Eq.trans (by simp only[zA,zB,zC];exact rfl) rfl) rfl (fun w' hS hV K hK=>?_) ?_
   ·have e3:=zQ hV 3;have e4:=zQ hV 4;obtain⟨q0,q1⟩:=hS.1.two;go_simp;refine (yeI p A k c st X cx xs w' (by omega) hp2 (by omega) hc hcx (ha.below hS.2.2.1) hstn (hx.below hS.2.2.1) hnm).mono ?_;rintro e v1 ⟨A9,c9,rfl,hM⟩;exact hK.out _ _ _ rfl rfl ⟨_,_,rfl,hM.after hS.2.2.1⟩ hM.b
   simp only[zD,zE,zF]
   refine yd (Eq.trans (by simp only[zA,zB,zC];exact rfl) rfl) rfl (fun w' hS hV K hK=>?_) ?_
   ·obtain⟨A2,c2,e2,h2⟩:=hV 2 (by decide);obtain⟨A5,c5,e5,h5⟩:=hV 5 (by decide);obtain⟨q0,q1⟩:=hS.1.two;go_simp;exact hK.out _ _ _ rfl rfl ⟨_,_,_,_,rfl,h2,h5⟩ zG
   simp only[zD,zE,zF]
   refine yd (Eq.trans (by simp only[zA,zB,zC];exact rfl) rfl) rfl (fun w' hS hV K hK=>?_) ?_
   ·obtain⟨q0,q1⟩:=hS.1.two;go_simp;exact hK.out _ _ _ rfl rfl ⟨_,rfl,hS.2.2.2,Blk.new _ _ _⟩ (zG.alloc (Nat.le_refl _) _)
   simp only[zD,zE,zF]
   refine xp (Eq.trans (by simp only[zA,zB,zC];exact rfl) rfl) rfl (fun w' hS hV K hK=>?_) ?_
   ·obtain⟨A2,c2,e2,h2⟩:=hV 2 (by decide);obtain⟨A5,c5,e5,h5⟩:=hV 5 (by decide);obtain⟨A1,c1,A2,c2,e6,hB1,hB2⟩:=hV 6 (by decide);obtain⟨g7,e7,hg7,b7⟩:=hV 7 (by decide);obtain⟨q0,q1⟩:=hS.1.two;have r0:=b7.cell 0;have r1:=b7.cell 1;have r2:=b7.cell 2;have z0:=b7.frozen 0;have z1:=b7.frozen 1;have z2:=b7.frozen 2;simp at r0 r1 r2;go_simp;exact hK.out _ _ rfl ⟨_,_,_,_,_,e7,hg7,b7.storedT,hB1.own.set3 b7,hB2.own.set3 b7⟩ (StepR.rel rfl ⟨_,hg7,_,_,_,_,_,_,b7,rfl⟩)
   refine fun w' hS hV=>?_
   have e0:=zQ hV 0
   have e1:=zQ hV 1
   have e3:=zQ hV 3
   have e4:=zQ hV 4
   have b8:=hV 8 (by decide)
   simp only[e0,e1,e3,e4]
   clear e0 e1 e3 e4
   refine wpAny_done (by kernel_rfl) ?_ _
   obtain⟨k6,kr6,hb6,hs6⟩:=hS
   obtain⟨gt,A1,c1,A2,c2,ea,hgt,kg6,ho1,ho2⟩:(VSw w w3.heap.size (pw k) (yO p k st xs) (yY p k st xs) (x 7)).p undef w':=b8
   simp only[ea]
   clear ea k3 kr3
   obtain⟨w6,hw6⟩:∃ W,W=w':=⟨_,rfl⟩
   rw[← hw6]at k6 kr6 hb6 hs6 kg6 ho1 ho2 ⊢
   clear hw6
   have H1:=Lib.hid ho1
   have H2:=Lib.hid ho2
   have HB6:=Lib.hid hb6
   clear ho1 ho2 hb6 ha
   go_wp2
   refine yh 9 [[],[0],[],[2],[],[4],[0,1,2,3,4,5],[0,1,2,3,4,5,6],[]] [VIs (.agg #[.int .i64 p,.slice A k c]),VIs (.int .i64 (p)),VIs (.pointer (some ⟨gt,0,none⟩)),VIs (.slice A1 (pw k) c1),VIs (.pointer (some ⟨gt,1,none⟩)),VIs (.slice A2 (pw k) c2),VMat w6 (pw k) (sumL p (yO p k st xs) (yY p k st xs) 1),VIs (.int .i64 (pw k:Nat)),VIs (.int .i64 0)] (fun w'=>Blk w' w.heap.size 26 #[.int .i64 p,.slice A k c]∧Blk w' gt 34 #[.slice A1 (pw k) c1,.slice A2 (pw k) c2,.slice none 0 0]∧Below w6.heap.size w6 w') (by kernel_rfl) (by kernel_rfl) (fun _ _ h hb=>⟨h.1.below hb h.1.lt,h.2.1.below hb h.2.1.lt,h.2.2.trans (hb.mono h.2.2.size)⟩) (⟨k6.drew,kg6.drew,zG.drew⟩) (fun x=>?_)
   refine zS (fun w' hS hV K hK=>?_) ?_
   ·obtain⟨q0,q1⟩:=hS.1.two;have q2:=hS.2.1.cell 0;have q3:=hS.2.1.cell 1;simp at q2 q3;go_simp;exact zO hK
   refine zS (fun w' hS hV K hK=>?_) ?_
   ·have e0:=zQ hV 0;obtain⟨q0,q1⟩:=hS.1.two;have q2:=hS.2.1.cell 0;have q3:=hS.2.1.cell 1;simp at q2 q3;go_simp;refine (zb p A k c w').mono ?_;rintro e v1 ⟨rfl,hb⟩;exact hK.out _ _ _ rfl rfl rfl hb
   refine zS (fun w' hS hV K hK=>?_) ?_
   ·obtain⟨q0,q1⟩:=hS.1.two;have q2:=hS.2.1.cell 0;have q3:=hS.2.1.cell 1;simp at q2 q3;go_simp;exact zO hK
   refine zS (fun w' hS hV K hK=>?_) ?_
   ·have e2:=zQ hV 2;obtain⟨q0,q1⟩:=hS.1.two;have q2:=hS.2.1.cell 0;have q3:=hS.2.1.cell 1;simp at q2 q3;go_simp;exact zO hK
   refine zS (fun w' hS hV K hK=>?_) ?_
   ·obtain⟨q0,q1⟩:=hS.1.two;have q2:=hS.2.1.cell 0;have q3:=hS.2.1.cell 1;simp at q2 q3;go_simp;exact zO hK
   refine zS (fun w' hS hV K hK=>?_) ?_
   ·have e4:=zQ hV 4;obtain⟨q0,q1⟩:=hS.1.two;have q2:=hS.2.1.cell 0;have q3:=hS.2.1.cell 1;simp at q2 q3;go_simp;exact zO hK
   refine zS (fun w' hS hV K hK=>?_) ?_
   ·have e1:=zQ hV 1;have e3:=zQ hV 3;have e5:=zQ hV 5;obtain⟨q0,q1⟩:=hS.1.two;have q2:=hS.2.1.cell 0;have q3:=hS.2.1.cell 1;simp at q2 q3;go_simp;refine (yhD p A1 (pw k) c1 (yO p k st xs) A2 c2 (yY p k st xs) 1 w' (by omega) hp2 (by omega) (H1.out.rd.below hS.2.2) HTL.out (H2.out.rd.below hS.2.2) HTR.out (by omega) (by omega)).mono ?_;rintro e v1 ⟨A9,c9,rfl,hM⟩;exact hK.out _ _ _ rfl rfl ⟨_,_,rfl,hM.after hS.2.2⟩ hM.b
   refine zS (fun w' hS hV K hK=>?_) ?_
   ·obtain⟨A6,c6,e6,h6⟩:=hV 6 (by decide);obtain⟨q0,q1⟩:=hS.1.two;have q2:=hS.2.1.cell 0;have q3:=hS.2.1.cell 1;simp at q2 q3;go_simp;exact zO hK
   refine zS (fun w' hS hV K hK=>?_) ?_
   ·obtain⟨q0,q1⟩:=hS.1.two;have q2:=hS.2.1.cell 0;have q3:=hS.2.1.cell 1;simp at q2 q3;go_simp;exact zO hK
   refine fun w' hS hV=>?_
   have e0:=zT hV 0
   have e1:=zT hV 1
   have e2:=zT hV 2
   have e3:=zT hV 3
   have e4:=zT hV 4
   have e5:=zT hV 5
   obtain⟨A6,c6,e6,h6⟩:=hV 6 (by decide)
   have e7:=zT hV 7
   have e8:=zT hV 8
   simp only[e0,e1,e2,e3,e4,e5,e6,e7,e8]
   clear e0 e1 e2 e3 e4 e5 e6 e7 e8
   refine wpAny_done (by kernel_rfl) ?_ _
   obtain⟨k8,kg8,s8⟩:=hS
   obtain⟨wb,hwb⟩:∃ W,W=w':=⟨_,rfl⟩
   rw[← hwb]at k8 kg8 s8 h6 ⊢
   clear hwb
   have kr8:=kr6.below s8 kr6.lt
   have HBB:=Lib.hid (HB6.out.trans (s8.mono HB6.out.size))
   have H1b:=Lib.hid (H1.out.below s8)
   have H2b:=Lib.hid (H2.out.below s8)
   obtain⟨gs,rfl, -⟩:=h6.at_ hpos
   obtain⟨us,hus⟩:=h6.outer
   have hsne:gs≠gt:=fun e=>hus.2.ne_blk kg8 (by decide) (by rw[e];rfl)
   have hslt:gs<wb.heap.size:=(World.ownsRow.lt hus.2 gs rfl).2
   have hgl:=kg8.lt
   have hl8:=k8.lt
   have hr8:=kr8.lt
   have hrg:w.heap.size+1≠gt:=by omega
   have hbg:w.heap.size≠gt:=by omega
   obtain⟨MS,hMS⟩:∃ z,z=(sumL p (yO p k st xs) (yY p k st xs) 1):=⟨_,rfl⟩
   have HPC:Hid ((xc p k st xs)=tab (pw k) fun i=>yl p (MS.getD i []) (-1)):=Lib.hid (by rw[hMS];rfl)
   have HMT:Hid (Tab p (pw k) MS):=Lib.hid (by
    rw[hMS]
    unfold sumL
    exact Tab.tab fun i hi=>⟨by rw[yP];exact (HTL.out.row hi).1,xK (by omega) _ _ _⟩)
   rw[← hMS]at h6
   have H36:=Lib.hid h6
   have HK8:=Lib.hid k8
   have HKR8:=Lib.hid kr8
   have HKG8:=Lib.hid kg8
   have hcell:∀ (w':World) (i:Nat) (v:Value),Far wb gt w'→wb.cell? ⟨gs,i,none⟩=some v→w'.cell? ⟨gs,i,none⟩=some v:=fun w' i v hf hc=>(World.cell?_of_block (w:=wb) (w':=w') (a:=⟨gs,i,none⟩) (hf.2 gs hslt hsne)).trans hc
   have HCELL:=Lib.hid hcell
   have hF0:Far wb gt wb:=⟨Nat.le_refl _,fun _ _ _=>rfl⟩
   have hO0:OwnII wb wb.heap.size none 0 0 []:=⟨[],World.ownsRow_nil _ _ _ _,Nest.nil _ _⟩
   clear hMS h6 hus hcell k6 kr6 kg6 s8 k8 kr8 hs6
   go_wp2
   go_loopw [38] (fun i wr=>∃ (j:Nat) (C:Option Addr) (cC:Nat),j≤pw k∧i=.int .i64 j∧Blk wr gt 34 #[.slice A1 (pw k) c1,.slice A2 (pw k) c2,.slice C j cC]∧Hid (OwnII wr wb.heap.size C j cC (tab j fun i=>yl p (MS.getD i []) (-1)))∧Hid (Far wb gt wr)∧Hid (Below w.heap.size w wr)) (fun i _=>pw k-(intOf i).toNat)
   case atStart=>exact⟨0,none,0,by omega,rfl,kg8,Lib.hid (by simpa [tab] using hO0),Lib.hid hF0,HBB⟩
   case round=>
    obtain⟨j,C,cC,hj,rfl,kg9,HO,HFA,HBW⟩:=hrel
    clear kg8 hF0 hO0
    have k9:=HK8.out.byFar hbg HFA.out
    by_cases hlt:j<pw k
    ·obtain⟨gs',egs,hxj,AR,cR,hcj,hrj⟩:=H36.out.at_ hlt
     injection egs with egs;injection egs with egs _ _;subst egs
     have hlj:MS[j].length=pw k:=(HMT.out _ (List.getElem_mem hxj)).1
     have ej:MS[j]=MS.getD j []:=(yc [] hxj).symm
     rw[hlj]at hcj hrj
     rw[ej]at hrj
     have q5:=HCELL.out wr j _ HFA.out hcj
     have HRN:Hid (NumsL p (MS.getD j [])):=Lib.hid (HMT.out.row hxj).2
     have HRW:Hid (∀ w',Far wb gt w'→Rd w' AR (pw k) (ints (MS.getD j []))):=Lib.hid fun w' hf=>(hrj.2.byFar HKG8.out (by decide) hf).rd
     have HGC:Hid (∀ b,(Value.slice C j cC).ownBlock=some b→wb.heap.size≤b):=Lib.hid fun b hb=>by
      obtain⟨rows,ho, -⟩:=HO.out
      exact (World.ownsRow.lt ho b hb).1
     have HMC:Hid (MkII (cutW wr wb.heap.size) wr C j cC (tab j fun i=>yl p (MS.getD i []) (-1))):=Lib.hid (by
      obtain⟨rows,ho,hn⟩:=HO.out
      exact⟨rows,ho.mk_ HFA.out.1,by rw[yv HFA.out.1];exact hn⟩)
     clear hcj hrj hxj hlj ej HO
     go_wp2
     refine yaB 9 (yaI 7 wb (.slice C j cC)) [[],[0],[],[2],[],[2,3,4],[2,3,4,5],[0,1,2,3,4,5,6],[],[0,1,2,3,4,5,6,7,8]] [[],[],[],[],[],[],[],[5,6],[]] (fun x=>[VIs (.pointer (some ⟨gt,2,none⟩)),VIs (.slice C j cC),VIs (.agg #[.int .i64 p,.slice A k c]),VIs (.int .i64 (p)),VIs (.slice AR (pw k) cR),VSo wr.heap.size (pw k) (yl p (MS.getD j []) (-1)),VNo wr.heap.size (pw k) (yl p (MS.getD j []) (-1)),VOw wb.heap.size (j+1) ((tab j fun i=>yl p (MS.getD i []) (-1))++[(yl p (MS.getD j []) (-1))]),VIs (.pointer (some ⟨gt,2,none⟩))]) 7 (SPu w wb gt #[.int .i64 p,.slice A k c] #[.slice A1 (pw k) c1,.slice A2 (pw k) c2,.slice C j cC] wr) (by kernel_rfl) (by kernel_rfl) (fun x x' j hx=>by
      rcases j with _ | _ | _ | _ | _ | _ | _ | _ | _ | j
      ·rfl
      ·rfl
      ·rfl
      ·rfl
      ·rfl
      ·rfl
      ·rfl
      ·rfl
      ·rfl
      ·rfl)
      (yay [0,1,2,3,4,8] (by decide) (fun k hk i x v w w' hp hr=>by
       simp only[List.mem_cons,zJ,or_false]at hk
       rcases hk with rfl | rfl | rfl | rfl | rfl | rfl
       ·exact hp
       ·exact hp
       ·exact hp
       ·exact hp
       ·exact hp
       ·exact hp)) (SPu.step (by omega) (by omega) HFA.out.1) (⟨k9.drew,kg9.drew,HFA.out.drew,Nat.le_refl _,HBW.out.trans zG.drew,fun _=>zG.drew⟩) (fun x=>?_)
     refine yL (Eq.trans (by simp only[zA,zC];exact rfl) rfl) rfl (fun b w' hb0 hS hV K hK=>?_) ?_
     ·obtain⟨s1,s2,s3,s4,s5,s6⟩:=hS;obtain⟨q0,q1⟩:=s1.two;have q2:=s2.cell 2;simp at q2;go_simp;exact hK.out _ _ _ rfl rfl rfl zG
     simp only[zD,zE,zF]
     refine yL (Eq.trans (by simp only[zA,zB,zC];exact rfl) rfl) rfl (fun b w' hb0 hS hV K hK=>?_) ?_
     ·have e0:=zQ hV 0;obtain⟨s1,s2,s3,s4,s5,s6⟩:=hS;obtain⟨q0,q1⟩:=s1.two;have q2:=s2.cell 2;simp at q2;go_simp;exact hK.out _ _ _ rfl rfl rfl zG
     simp only[zD,zE,zF]
     refine yL (Eq.trans (by simp only[zA,zB,zC];exact rfl) rfl) rfl (fun b w' hb0 hS hV K hK=>?_) ?_
     ·obtain⟨s1,s2,s3,s4,s5,s6⟩:=hS;obtain⟨q0,q1⟩:=s1.two;have q2:=s2.cell 2;simp at q2;go_simp;exact hK.out _ _ _ rfl rfl rfl zG
     simp only[zD,zE,zF]
     refine yL (Eq.trans (by simp only[zA,zB,zC];exact rfl) rfl) rfl (fun b w' hb0 hS hV K hK=>?_) ?_
     ·have e2:=zQ hV 2;obtain⟨s1,s2,s3,s4,s5,s6⟩:=hS;obtain⟨q0,q1⟩:=s1.two;have q2:=s2.cell 2;simp at q2;go_simp;refine (zb p A k c w').mono ?_;rintro e v1 ⟨rfl,hb⟩;exact hK.out _ _ _ rfl rfl rfl hb
     simp only[zD,zE,zF]
     refine yL (Eq.trans (by simp only[zA,zB,zC];exact rfl) rfl) rfl (fun b w' hb0 hS hV K hK=>?_) ?_
     ·obtain⟨s1,s2,s3,s4,s5,s6⟩:=hS;obtain⟨q0,q1⟩:=s1.two;have q2:=s2.cell 2;simp at q2;go_simp;exact hK.out _ _ _ rfl rfl rfl zG
     simp only[zD,zE,zF]
     refine yL (Eq.trans (by simp only[zA,zB,zC];exact rfl) rfl) rfl (fun b w' hb0 hS hV K hK=>?_) ?_
     ·have e3:=zQ hV 3;have e4:=zQ hV 4;obtain⟨s1,s2,s3,s4,s5,s6⟩:=hS;obtain⟨q0,q1⟩:=s1.two;have q2:=s2.cell 2;simp at q2;go_simp;refine (yap p AR (pw k) cR (-1) (MS.getD j []) w' (by omega) hp2 (by omega) (HRW.out w' s3) HRN.out (by omega) (by omega)).mono ?_;rintro e v1 ⟨A9,c9,rfl,hM⟩;exact hK.out _ _ _ rfl rfl ⟨_,_,rfl,hM.2.base s4⟩ hM.b
     simp only[zD,zE,zF]
     refine yL (Eq.trans (by simp only[zA,zB,zC];exact rfl) rfl) rfl (fun b w' hb0 hS hV K hK=>?_) ?_
     ·obtain⟨A5,c5,e5,h5⟩:=hV 5 (by decide);obtain⟨s1,s2,s3,s4,s5,s6⟩:=hS;obtain⟨q0,q1⟩:=s1.two;have q2:=s2.cell 2;simp at q2;go_simp;exact hK.out _ _ _ rfl rfl ⟨_,_,_,rfl,Blk.new _ _ _,h5.below (zG.alloc (Nat.le_refl _) _)⟩ (zG.alloc (Nat.le_refl _) _)
     simp only[zD,zE,zF]
     refine yL (Eq.trans (by simp only[zA,zB,zC];exact rfl) rfl) rfl (fun b w' hb0 hS hV K hK=>?_) ?_
     ·have e1:=zQ hV 1;obtain⟨A5,c5,e5,h5⟩:=hV 5 (by decide);obtain⟨g6,A6,c6,e6,b6,h6⟩:=hV 6 (by decide);obtain⟨s1,s2,s3,s4,s5,s6⟩:=hS;obtain⟨q0,q1⟩:=s1.two;have q2:=s2.cell 2;simp at q2;refine q9 (cutW wr wb.heap.size) wr w' _ _ rfl C j cC _ A6 (pw k) c6 _ HMC.out (show MkI wr w' _ _ _ _ from ⟨s6 (hb0 rfl),h6⟩) (by omega) g6 b6 (by first | exact e1 | rfl) (by first | exact e6 | rfl) ?_;intro A20 c20 w20 hM20 hg20 hat20;exact hK.out _ _ _ rfl rfl ⟨A20,c20,rfl,by have:=hM20.own;rwa [yv HFA.out.1]at this⟩ ⟨rfl,HGC.out,hg20⟩
     simp only[zD,zE,zF]
     refine yL (Eq.trans (by simp only[zA,zB,zC];exact rfl) rfl) rfl (fun b w' hb0 hS hV K hK=>?_) ?_
     ·obtain⟨s1,s2,s3,s4,s5,s6⟩:=hS;obtain⟨q0,q1⟩:=s1.two;have q2:=s2.cell 2;simp at q2;go_simp;exact hK.out _ _ _ rfl rfl rfl zG
     simp only[zD,zE,zF]
     refine fun w' bb hS hV=>?_
     have e0:=zQ hV 0
     have e1:=zQ hV 1
     have e2:=zQ hV 2
     have e3:=zQ hV 3
     have e4:=zQ hV 4
     obtain⟨A7,c7,e7,o7⟩:=hV 7 (by decide)
     have e8:=zQ hV 8
     simp only[e0,e1,e2,e3,e4,e7,e8]
     clear e0 e1 e2 e3 e4 e7 e8
     obtain⟨s1,s2,s3,s4,s5, -⟩:=hS
     have f8:=s2.frozen 2
     have t0:=s2.cell 2
     simp at t0
     refine yK (j:=9) (by kernel_rfl) (Eq.trans (by simp only[zA,zB,zC];exact rfl) rfl) (fun K hK=>?_)
     go_simp
     refine hK.out _ _ (wpAny_done (by kernel_rfl) ?_ _)
     have kg10:=s2.set_ 2 (.slice A7 (j+1) c7)
     simp only[zD,zE,zF]at kg10
     have HO2:=Lib.hid (o7.far s2 (by decide) (by decide) 2 (.slice A7 (j+1) c7))
     have HF2:=Lib.hid (s3.set 2 (.slice A7 (j+1) c7))
     have HB7:=Lib.hid (s5.setCell (p:=⟨gt,2,none⟩) (show w.heap.size≤gt by omega) (.slice A7 (j+1) c7))
     clear s1 s2 s3 s4 s5 f8 t0 kg9 k9 q5
     go_wp2
     go_roundw
     case rel=>exact⟨j+1,A7,c7,by omega,by go_num,kg10,Lib.hid (by rw[yQ];exact HO2.out),HF2,HB7⟩
     case measure=>simp[intOf];omega
    ·obtain rfl:j=pw k:=by omega
     have kr9:=HKR8.out.byFar hrg HFA.out
     have q2:=kg9.cell 0
     have q3:=kg9.cell 1
     have q4:=kg9.cell 2
     simp at q2 q3 q4
     have HT:Hid (TripW w wr (pw k) A1 c1 (yO p k st xs) A2 c2 (yY p k st xs) C cC (xc p k st xs)):=Lib.hid ⟨H1b.out.byFar HKG8.out (by decide) (by decide) HFA.out,H2b.out.byFar HKG8.out (by decide) (by decide) HFA.out,by rw[HPC.out];exact HO.out.base HBB.out.size,HBW.out⟩
     have HTT:=Lib.hid (TripW.stored2 (x:=.slice A1 (pw k) c1) (y:=.slice A2 (pw k) c2) (z:=.slice C (pw k) cC) HT.out kr9 zG (by omega))
     have r0:=kr9.cell 0
     have r1:=kr9.cell 1
     have r2:=kr9.cell 2
     have z0:=kr9.frozen 0
     have z1:=kr9.frozen 1
     have z2:=kr9.frozen 2
     simp at r0 r1 r2
     have kz:=Blk.storedT (x:=.slice A1 (pw k) c1) (y:=.slice A2 (pw k) c2) (z:=.slice C (pw k) cC) kr9
     have p0:=kz.cell 0
     have p1:=kz.cell 1
     have p2:=kz.cell 2
     simp at p0 p1 p2
     clear kz HT HO HFA
     go_wp2
     exact bodyPost_ret (v:=.tuple #[.agg #[.slice A1 (pw k) c1,.slice A2 (pw k) c2,.slice C (pw k) cC],.int .i64 0]) (by simp[results,Tryz.results11,go_sem,p0,p1,p2]) rfl (.inr ⟨HN.out,A1,c1,A2,c2,C,cC,by rw[HSL.out],by rw[HSL.out];exact HTT.out⟩)
  ·have HC:Hid (zP p st xs=5):=Lib.hid (by unfold zP;rw[← hco,if_pos rfl,if_neg (fun e=>hz (h2d.2 e))])
   have HN:Hid (zP p st xs≠0):=Lib.hid (by rw[HC.out];omega)
   have ez:(T == 0)=false:=by simp[hz]
   clear hco hdb hel hl HP hst hx0 h2d hT htr ha hrx hxl hsl hx
   go_enter Tryz.func11,Tryz.ntmps11
   go_wp2_with fail
   refine hck.mono ?_
   rintro e w2 ⟨rfl,hb2⟩
   have k2:=k0.below hb2 k0.lt
   have kr2:=kr0.below hb2 kr0.lt
   have HB2:=Lib.hid (hB3.trans (hb2.mono hB3.size))
   clear q0 q1 k0 kr0 hck hb2 kx hB3
   obtain⟨q0,q1⟩:=k2.two
   go_wp2_with fail
   refine (HTR0.out w2 HB2.out).mono ?_
   rintro e w4 ⟨rfl,hb4⟩
   have kr4:=kr2.below hb4 kr2.lt
   have HZ:=Lib.hid (xB (a:=.slice none 0 0) (b:=.slice none 0 0) (d:=.slice none 0 0) (HB2.out.trans (hb4.mono HB2.out.size)) (show w.heap.size≤w.heap.size+1 by omega))
   have r0:=kr4.cell 0
   have r1:=kr4.cell 1
   have r2:=kr4.cell 2
   have z0:=kr4.frozen 0
   have z1:=kr4.frozen 1
   have z2:=kr4.frozen 2
   simp at r0 r1 r2
   have kz:=Blk.storedT (x:=.slice none 0 0) (y:=.slice none 0 0) (z:=.slice none 0 0) kr4
   have u0:=kz.cell 0
   have u1:=kz.cell 1
   have u2:=kz.cell 2
   simp at u0 u1 u2
   clear q0 q1 hb4 kz k2 kr2
   go_wp2
   first
    | exact bodyPost_ret (v:=.tuple #[.agg #[.slice none 0 0,.slice none 0 0,.slice none 0 0],.int .i64 5]) (by simp[results,Tryz.results11,go_sem,r0,r1,r2]) rfl (.inl ⟨HN.out,by rw[HC.out],HZ.out⟩)
    | exact bodyPost_ret (v:=.tuple #[.agg #[.slice none 0 0,.slice none 0 0,.slice none 0 0],.int .i64 5]) (by simp[results,Tryz.results11,go_sem,u0,u1,u2]) rfl (.inl ⟨HN.out,by rw[HC.out],HZ.out⟩)
 ·have HC:Hid (zP p st xs=co):=Lib.hid (by unfold zP;rw[← hco,if_neg h0])
  have HN:Hid (zP p st xs≠0):=Lib.hid (by rw[HC.out];exact h0)
  have ez:(co == 0)=false:=by simp[h0]
  clear hco ha hrx hxl hsl hx
  go_enter Tryz.func11,Tryz.ntmps11
  go_wp2_with fail
  refine hck.mono ?_
  rintro e w4 ⟨rfl,hb4⟩
  have k4:=k0.below hb4 k0.lt
  have kr4:=kr0.below hb4 kr0.lt
  have HZ:=Lib.hid (xB (a:=.slice none 0 0) (b:=.slice none 0 0) (d:=.slice none 0 0) (hB3.trans (hb4.mono hB3.size)) (show w.heap.size≤w.heap.size+1 by omega))
  have r0:=kr4.cell 0
  have r1:=kr4.cell 1
  have r2:=kr4.cell 2
  have z0:=kr4.frozen 0
  have z1:=kr4.frozen 1
  have z2:=kr4.frozen 2
  simp at r0 r1 r2
  have kz:=Blk.storedT (x:=.slice none 0 0) (y:=.slice none 0 0) (z:=.slice none 0 0) kr4
  have u0:=kz.cell 0
  have u1:=kz.cell 1
  have u2:=kz.cell 2
  simp at u0 u1 u2
  clear q0 q1 k0 kr0 hck hb4 kx kz
  go_wp2
  first
   | exact bodyPost_ret (v:=.tuple #[.agg #[.slice none 0 0,.slice none 0 0,.slice none 0 0],.int .i64 co]) (by simp[results,Tryz.results11,go_sem,r0,r1,r2]) rfl (.inl ⟨HN.out,by rw[HC.out],HZ.out⟩)
   | exact bodyPost_ret (v:=.tuple #[.agg #[.slice none 0 0,.slice none 0 0,.slice none 0 0],.int .i64 co]) (by simp[results,Tryz.results11,go_sem,u0,u1,u2]) rfl (.inl ⟨HN.out,by rw[HC.out],HZ.out⟩)
end Go.Proofs.YtaiegpggccdgoaaGreat

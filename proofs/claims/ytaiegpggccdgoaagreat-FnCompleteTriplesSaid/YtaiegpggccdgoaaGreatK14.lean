/-
  LawFnCompleteTriples: part 14 of the texts that the proof needs. No condition.
-/
import Derived.Test.YtaiegpggccdgoaaGreatK13
namespace Go.Proofs.YtaiegpggccdgoaaGreat
open Go Go.RowKit
def lbaC (p:Int) (st:List Int):Int:=if yH p st [] []=0 then (if st.length=3 then 5 else 0) else yH p st [] []
def lbaL (p:Int) (k:Nat) (st:List Int):List (List Int):=(yI p (locP p k st) (3*(pw k*pw k)))
theorem yfY {p:Int} (hP:isP p=true) (k:Nat) (st:List Int):yI p (locS p k st) (3*(pw k*pw k))=lbaL p k st:=
 have hp:0<p:=by have:=yk hP;omega
 yft hP (qE hp k st) (ua hp k st) fun v=>(yaa hP k st v).trans (qD k st v).symm
def LbaP (p:Int) (st:List Int) (w:World) (e:Ending) (w':World):Prop:=
 (lbaC p st≠0∧e=.returned (.tuple #[.slice none 0 0,.int .i64 (lbaC p st)])∧Below w.heap.size w w') ∨
 (lbaC p st=0 ∧ ∃ A c us,e=.returned (.tuple #[.slice A (lbaL p st.length st).length c,.int .i64 0])∧Own3 w' w.heap.size A (lbaL p st.length st).length c us∧LT w' w.heap.size (pw st.length) us (lbaL p st.length st)∧Below w.heap.size w w')
def VMt (w0:World) (L:List (List Int)):VP:=⟨fun v w=>∃ A c t,v=.slice A t c∧t≤1000∧MkII w0 w A t c L,fun _ _ _ ⟨A,c,t,e,h1,h⟩ hb=>⟨A,c,t,e,h1,h.below hb⟩⟩
set_option maxHeartbeats 6400000 in
set_option maxRecDepth 8000 in
theorem yaH (p:Int) (A:Option Addr) (k c:Nat) (st:List Int) (w:World) (hk6:k≤65536) (hc:k≤c) (ha:Rd w A k (ints st)) :
 Calls Tryz.prog 38 #[.agg #[.int .i64 p,.slice A k c]] w (LbaP p st w):=by
 have hB0:Below w.heap.size w (w.alloc (.cells #[.int .i64 p,.slice A k c] 26)):=zG.alloc (Nat.le_refl _) _
 have k0:Blk (w.alloc (.cells #[.int .i64 p,.slice A k c] 26)) w.heap.size 26 #[.int .i64 p,.slice A k c]:=Blk.new _ _ _
 have hck:=qe p A none none k c 0 0 0 0 st [] [] (w.alloc (.cells #[.int .i64 p,.slice A k c] 26)) hk6 (by omega) (by omega) (ha.below hB0) ⟨[],Rd.nil _ _,rfl,fun k h=>absurd h (by simp)⟩ (fun ys hy=>absurd hy (by simp)) ⟨[],Rd.nil _ _,rfl,fun k h=>absurd h (by simp)⟩ (fun M hM=>absurd hM (by simp))
 have hsl:st.length=k:=ha.lenI
 obtain⟨co,hco⟩:∃ z,z=yH p st [] []:=⟨_,rfl⟩
 rw[← hco]at hck
 obtain⟨q0,q1⟩:=k0.two
 by_cases h0:co=0
 ·subst h0
  obtain⟨hdb,h3, -, -⟩:=vm hco.symm
  obtain⟨HP, -,hst⟩:=ze hdb
  obtain⟨hp3,hp2⟩:=yk HP
  rw[hsl]at h3
  by_cases hk3:k=3
  ·have HC:Hid (lbaC p st=5):=Lib.hid (by unfold lbaC;rw[← hco,if_pos rfl,hsl,if_pos hk3])
   have HN:Hid (lbaC p st≠0):=Lib.hid (by rw[HC.out];omega)
   subst hk3
   clear hco hdb HP hst ha hsl
   go_enter Tryz.func38,Tryz.ntmps38
   go_wp2_with fail
   refine hck.mono ?_
   rintro e w2 ⟨rfl,hb2⟩
   have k2:=k0.below hb2 k0.lt
   have hB2:=hB0.trans (hb2.mono hB0.size)
   clear q0 q1 hck hb2 k0
   obtain⟨q0,q1⟩:=k2.two
   go_wp2
   go_ret2
   exact .inl ⟨HN.out,by rw[HC.out];rfl,hB2⟩
  ·have hk2:k≤2:=by omega
   have hk3i:((k:Int) == 3)=false:=by simp;omega
   have HC:Hid (lbaC p st=0):=Lib.hid (by unfold lbaC;rw[← hco,if_pos rfl,hsl,if_neg hk3])
   have hpk:pw k≤4:=yz hk2
   have hpos:=yq k
   have hstn:NumsL p st:=fun y hy=>by have:=hst y hy;omega
   obtain⟨LP,hLP⟩:∃ z,z=locP p k st:=⟨_,rfl⟩
   obtain⟨L,hL⟩:∃ z,z=lbaL p k st:=⟨_,rfl⟩
   obtain⟨D,hD⟩:∃ z,z=L.length:=⟨_,rfl⟩
   have hLe:L=(yI p (locP p k st) (3*(pw k*pw k))):=hL
   obtain⟨s3,hs3⟩:∃ z,z=3*(pw k*pw k):=⟨_,rfl⟩
   have hlt:=ua (p:=p) (by omega) k st
   have hLT:Tab p s3 L:=by rw[hLe,hs3];exact vW (by omega) _ _
   rw[← hs3,← hLP]at hlt
   rw[← hs3,← hLP]at hLe
   have hlr:=fun w' (h:Below w.heap.size w w')=>yab p (by omega) hp2 k (by omega) A c st w' h3 hc (ha.below h) hstn
   rw[← hLP]at hlr
   obtain⟨n,hn⟩:∃ z,z=pw k:=⟨_,rfl⟩
   obtain⟨tn,htn⟩:∃ z,z=3*n:=⟨_,rfl⟩
   have hs3n:s3=3*n*n:=by rw[hs3,hn,Nat.mul_assoc]
   have hn4:n≤4:=by omega
   have hs48:s3≤48:=by rw[hs3n];exact Nat.mul_le_mul (show 3*n≤12 by omega) hn4
   have hDl:D≤48:=by rw[hD,hLe];exact Nat.le_trans (jX HP _ _) hs48
   have hkn:=fun (w':World) (A':Option Addr) (c' t:Nat) (ht:t≤1000) (hr:RdII w' A' t LP)=>yfu p A' t c' LP s3 w' HP (by omega) (by omega) hr hlt
   rw[← hLe,← hD]at hkn
   have HW1:Hid (wrap64 (3*(n:Int))=(tn:Int)):=Lib.hid (by unfold wrap64;omega)
   have HW2:Hid (wrap64 ((tn:Int)*(n:Int))=(s3:Int)):=Lib.hid (by rw[show (tn:Int)*(n:Int)=(s3:Int) by rw[hs3n,htn];simp];unfold wrap64;omega)
   have HLR0:=Lib.hid hlr
   have HKN:=Lib.hid hkn
   have HLT:=Lib.hid hLT
   have HSN:=Lib.hid hs3n
   have HD:=Lib.hid hD
   have HFIN:Hid (∀ (e:Ending) (w':World) (A':Option Addr) (c':Nat) (us:List Value),e=.returned (.tuple #[.slice A' D c',.int .i64 0])→Own3 w' w.heap.size A' D c' us→LT w' w.heap.size n us L→Below w.heap.size w w'→LbaP p st w e w'):=Lib.hid fun e w' A' c' us h1 h2 h3 h4=>.inr ⟨HC.out,A',c',us,by rw[hsl,← hL,← hD];exact h1,by rw[hsl,← hL,← hD];exact h2,by rw[hsl,← hL,← hn];exact h3,h4⟩
   have hsz:=fun w'=>z8 p A k c w' (by omega)
   rw[← hn]at hsz hpos
   clear hco hdb HP hst ha hsl hlr hkn hlt hLT hL hD hLe hs3 hs3n hLP hn htn hk3 hstn hpk
   go_enter Tryz.func38,Tryz.ntmps38
   go_wp2_with fail
   refine hck.mono ?_
   rintro e w2 ⟨rfl,hb2⟩
   have k2:=k0.below hb2 k0.lt
   have hB2:=hB0.trans (hb2.mono hB0.size)
   clear q0 q1 hck hb2 k0 hB0
   obtain⟨q0,q1⟩:=k2.two
   go_wp2_with fail
   refine (hsz w2).mono ?_
   rintro e w3 ⟨rfl,hb3⟩
   have k3:=(k2.below hb3 k2.lt).alloc (.cells #[] 34)
   have hB3:=hB2.trans (hb3.mono hB2.size)
   have hO3:Own3 (w3.alloc (.cells #[] 34)) w.heap.size (some ⟨w3.heap.size,0,none⟩) 0 0 []:=World.ownsRow_lit w3 #[] 0 hB3.size (by simp[maxLen]) rfl
   have hB5:=hB3.alloc hB3.size (.cells #[] 34)
   clear q0 q1 hsz k2 hB2 hb3 hB3
   obtain⟨q0,q1⟩:=k3.two
   go_wp2
   obtain⟨w5,hw5⟩:∃ W,W=w3.alloc (.cells #[] 34):=⟨_,rfl⟩
   rw[← hw5]at k3 hO3 hB5 ⊢
   have k5:=k3
   clear hw5 q0 q1 k3
   have HLR:Hid (∀ w',Below w5.heap.size w5 w'→Calls Tryz.prog 66 #[.agg #[.int .i64 p,.slice A k c]] w' fun e w''=>∃ A' c' t,t≤1000∧e=.returned (.slice A' t c')∧MkII w' w'' A' t c' LP):=Lib.hid fun w' h=>HLR0.out w' (hB5.trans (h.mono hB5.size))
   have W1_:=HW1.out
   have W2_:=HW2.out
   refine yh 11 [[],[0],[],[2],[],[4],[],[4,5,6],[0,1,2,3,4,5,6,7],[0,1,2,3,4,5,6,7,8],[]] [VIs (.agg #[.int .i64 p,.slice A k c]),VIs (.int .i64 (p)),VIs (.agg #[.int .i64 p,.slice A k c]),VMt w5 LP,VIs (.int .i64 (n:Nat)),VIs (.int .i64 (tn:Nat)),VIs (.int .i64 (n:Nat)),VIs (.int .i64 (s3:Nat)),VMat w5 D L,VIs (.int .i64 (D:Nat)),VIs (.int .i64 0)] (fun w'=>Blk w' w.heap.size 26 #[.int .i64 p,.slice A k c]∧Below w5.heap.size w5 w') (by kernel_rfl) (by kernel_rfl) (fun _ _ h hb=>⟨h.1.below hb h.1.lt,h.2.trans (hb.mono h.2.size)⟩) (⟨k5.drew,zG.drew⟩) (fun x=>?_)
   refine zS (fun w' hS hV K hK=>?_) ?_
   ·obtain⟨q0,q1⟩:=hS.1.two;go_simp;exact zO hK
   refine zS (fun w' hS hV K hK=>?_) ?_
   ·have e0:=zQ hV 0;obtain⟨q0,q1⟩:=hS.1.two;go_simp;refine (zb p A k c w').mono ?_;rintro e v1 ⟨rfl,hb⟩;exact hK.out _ _ _ rfl rfl rfl hb
   refine zS (fun w' hS hV K hK=>?_) ?_
   ·obtain⟨q0,q1⟩:=hS.1.two;go_simp;exact zO hK
   refine zS (fun w' hS hV K hK=>?_) ?_
   ·have e2:=zQ hV 2;obtain⟨q0,q1⟩:=hS.1.two;go_simp;refine (HLR.out w' hS.2).mono ?_;rintro e v1 ⟨A9,c9,t9,ht9,rfl,hM⟩;exact hK.out _ _ _ rfl rfl ⟨_,_,_,rfl,ht9,hM.after hS.2⟩ hM.b
   refine zS (fun w' hS hV K hK=>?_) ?_
   ·obtain⟨q0,q1⟩:=hS.1.two;go_simp;exact zO hK
   refine zS (fun w' hS hV K hK=>?_) ?_
   ·have e4:=zQ hV 4;obtain⟨q0,q1⟩:=hS.1.two;go_simp;exact hK.out _ _ _ rfl rfl (by first | rfl | exact congrArg (Value.int .i64) (by rw[IntWalk.i64_left];exact W1_:IntKind.i64.wrap (3*(n:Int))=(tn:Int))) zG
   refine zS (fun w' hS hV K hK=>?_) ?_
   ·obtain⟨q0,q1⟩:=hS.1.two;go_simp;exact zO hK
   refine zS (fun w' hS hV K hK=>?_) ?_
   ·have e5:=zQ hV 5;have e6:=zQ hV 6;obtain⟨q0,q1⟩:=hS.1.two;go_simp;exact hK.out _ _ _ rfl rfl (by first | rfl | exact congrArg (Value.int .i64) (by rw[IntWalk.i64_left];exact W2_:IntKind.i64.wrap ((tn:Int)*(n:Int))=(s3:Int))) zG
   refine zS (fun w' hS hV K hK=>?_) ?_
   ·have e1:=zQ hV 1;obtain⟨A3,c3,t3,e3,ht3,h3⟩:=hV 3 (by decide);have e7:=zQ hV 7;obtain⟨q0,q1⟩:=hS.1.two;go_simp;refine (HKN.out w' A3 c3 t3 ht3 h3.rd).mono ?_;rintro e v1 ⟨A9,c9,rfl,hM⟩;exact hK.out _ _ _ rfl rfl ⟨_,_,rfl,hM.after hS.2⟩ hM.b
   refine zS (fun w' hS hV K hK=>?_) ?_
   ·obtain⟨A3,c3,t3,e3,ht3,h3⟩:=hV 3 (by decide);obtain⟨A8,c8,e8,h8⟩:=hV 8 (by decide);obtain⟨q0,q1⟩:=hS.1.two;go_simp;exact zO hK
   refine zS (fun w' hS hV K hK=>?_) ?_
   ·obtain⟨q0,q1⟩:=hS.1.two;go_simp;exact zO hK
   refine fun w' hS hV=>?_
   have e0:=zT hV 0
   have e1:=zT hV 1
   have e2:=zT hV 2
   obtain⟨A3,c3,t3,e3,ht3,h3⟩:=hV 3 (by decide)
   have e4:=zT hV 4
   have e5:=zT hV 5
   have e6:=zT hV 6
   have e7:=zT hV 7
   obtain⟨A8,c8,e8,h8⟩:=hV 8 (by decide)
   have e9:=zT hV 9
   have e10:=zT hV 10
   simp only[e0,e1,e2,e3,e4,e5,e6,e7,e8,e9,e10]
   clear e0 e1 e2 e3 e4 e5 e6 e7 e8 e9 e10
   refine wpAny_done (by kernel_rfl) ?_ _
   obtain⟨-,s6⟩:=hS
   obtain⟨wb,hwb⟩:∃ W,W=w':=⟨_,rfl⟩
   rw[← hwb]at s6 h8 ⊢
   clear hwb W1_ W2_ k5
   have HOK:=Lib.hid (h8.own.base hB5.size)
   have HO6:=Lib.hid (hO3.below s6)
   have HB6:=Lib.hid (hB5.trans (s6.mono hB5.size))
   clear h8 hO3 hB5 s6
   go_wp2
   go_loopw [6,31] (fun out i wr=>∃ (j:Nat) (A':Option Addr) (c':Nat) (us:List Value),j≤D∧i=.int .i64 j∧out=.slice A' j c'∧Hid (Own3 wr w.heap.size A' j c' us)∧Hid (LT wr w.heap.size n us (L.take j))∧Hid (OwnII wr w.heap.size A8 D c8 L)∧Hid (Below w.heap.size w wr)) (fun _ i _=>D-(intOf i).toNat)
   case atStart=>exact⟨0,_,_,[],by omega,rfl,rfl,HO6,Lib.hid (by rw[List.take_zero];exact LT.nil _ _ _),HOK,HB6⟩
   case round=>
    obtain⟨j,A',c',us,hj,rfl,rfl,HO,HT,HK,HB⟩:=hrel
    clear HO6 HOK HB6
    by_cases hlt:j<D
    ·obtain⟨gk,ok,ek,hxj,AR,cR,hcj,hrj,hcR⟩:=HK.out.rd.at_ hlt
     have hlj:L[j].length=s3:=(HLT.out _ (List.getElem_mem hxj)).1
     have HTK:Hid (L.take (j+1)=L.take j++[L[j]]):=Lib.hid (List.take_succ_eq_append_getElem hxj)
     obtain⟨x,hx⟩:∃ z,z=L[j]:=⟨_,rfl⟩
     rw[hlj]at hcj hrj hcR
     rw[← hx]at hrj HTK
     have htf:=ydc AR s3 cR n x wr hpos (by omega) HSN.out hcR hrj
     obtain⟨AK,hAK⟩:∃ z,z=A8:=⟨_,rfl⟩
     rw[← hAK]at ek
     subst ek
     rw[← hAK]at HK ⊢
     clear hlj hx hrj hxj hAK hcR
     go_wp2_with fail
     refine htf.mono ?_
     rintro e w6 ⟨g,cg,rfl,hO6,hb6⟩
     have hA:Below w6.heap.size w6 (w6.alloc (.cells #[.slice (some ⟨g,0,none⟩) n n,.slice (some ⟨g,n,none⟩) n n,.slice (some ⟨g,2*n,none⟩) n (cg-2*n)] 34)):=zG.alloc (Nat.le_refl _) _
     have hb7:=hb6.trans (hA.mono hb6.size)
     have hB7:=HB.out.trans (hb7.mono HB.out.size)
     have HO7:=Lib.hid (HO.out.below hb7)
     have HT7:=Lib.hid (HT.out.below hb7)
     have HK7:=Lib.hid (HK.out.below hb7)
     have HCT:Hid (CT _ w.heap.size n x _ _ _):=Lib.hid (CT.below (.inl ⟨g,cg,rfl,rfl,rfl,hO6.base HB.out.size⟩) hA)
     have HB7:=Lib.hid hB7
     have hkb:=Blk.new w6 34 #[.slice (some ⟨g,0,none⟩) n n,.slice (some ⟨g,n,none⟩) n n,.slice (some ⟨g,2*n,none⟩) n (cg-2*n)]
     have HKB:=Lib.hid hkb
     clear htf hO6 hb6 hA hb7 hB7 hkb HO HT HK HB hcj
     go_wp2_with (at_builtin;refine yiu w.heap.size _ rfl _ _ rfl A' j c' us _ _ _ HO7.out HB7.out.size (by omega) w6.heap.size HKB.out rfl rfl rfl rfl rfl ?_;(go_simp);intro A8 c8 w8 hM8 hg8)
     have HO8:=Lib.hid hM8
     have HT8:=Lib.hid ((HT7.out.grown3 HO7.out hg8).snoc (HCT.out.grown3 HO7.out hg8))
     have HK8:=Lib.hid (HK7.out.grown3 HO7.out hg8)
     have HB8:=Lib.hid (Below.grown3 HB7.out HO7.out hg8 (Nat.le_refl _) HB7.out.size)
     clear hM8 hg8
     go_roundw
     case rel=>exact⟨j+1,A8,c8,_,by omega,by go_num,rfl,HO8,Lib.hid (by rw[HTK.out];exact HT8.out),HK8,HB8⟩
     case measure=>simp[intOf];omega
    ·obtain rfl:j=D:=by omega
     have hT:LT wr w.heap.size n us L:=by have:=HT.out;rwa [List.take_of_length_le (by have:=HD.out;omega)]at this
     have HT2:=Lib.hid hT
     clear HT hT
     go_wp2
     go_ret2
     exact HFIN.out _ _ A' c' us rfl HO.out HT2.out HB.out
 ·have HC:Hid (lbaC p st=co):=Lib.hid (by unfold lbaC;rw[← hco,if_neg h0])
  have HN:Hid (lbaC p st≠0):=Lib.hid (by rw[HC.out];exact h0)
  have ez:(co == 0)=false:=by simp[h0]
  clear hco ha hsl
  go_enter Tryz.func38,Tryz.ntmps38
  go_wp2_with fail
  refine hck.mono ?_
  rintro e w2 ⟨rfl,hb2⟩
  go_wp2
  go_ret2
  exact .inl ⟨HN.out,by rw[HC.out];rfl,hB0.trans (hb2.mono hB0.size)⟩
def VCt (B n:Nat) (x:List Int):VP:=⟨fun v w=>∃ u1 u2 u3,v=.agg #[u1,u2,u3]∧CT w B n x u1 u2 u3,fun _ _ _ ⟨u1,u2,u3,e,h⟩ hb=>⟨u1,u2,u3,e,h.below hb⟩⟩
def VNt (B n:Nat) (x:List Int):VP:=⟨fun v w=>∃ g u1 u2 u3,v=.slice (some ⟨g,0,none⟩) 1 1∧Blk w g 34 #[u1,u2,u3]∧CT w B n x u1 u2 u3,fun _ _ _ ⟨g,u1,u2,u3,e,k,h⟩ hb=>⟨g,u1,u2,u3,e,k.below hb k.lt,h.below hb⟩⟩
set_option maxHeartbeats 6400000 in
set_option maxRecDepth 8000 in
theorem ycX (p:Int) (A:Option Addr) (k c:Nat) (st:List Int) (w:World) (hk6:k≤65536) (hc:k≤c) (ha:Rd w A k (ints st)) :
 Calls Tryz.prog 39 #[.agg #[.int .i64 p,.slice A k c]] w (LbaP p st w):=by
 have hB0:Below w.heap.size w (w.alloc (.cells #[.int .i64 p,.slice A k c] 26)):=zG.alloc (Nat.le_refl _) _
 have k0:Blk (w.alloc (.cells #[.int .i64 p,.slice A k c] 26)) w.heap.size 26 #[.int .i64 p,.slice A k c]:=Blk.new _ _ _
 have hck:=ybX p A k c st (w.alloc (.cells #[.int .i64 p,.slice A k c] 26)) (by omega) (ha.below hB0)
 have hsl:st.length=k:=ha.lenI
 obtain⟨co,hco⟩:∃ z,z=yH p st [] []:=⟨_,rfl⟩
 rw[← hco]at hck
 obtain⟨q0,q1⟩:=k0.two
 by_cases h0:co=0
 ·subst h0
  obtain⟨hdb,h3, -, -⟩:=vm hco.symm
  obtain⟨HP, -,hst⟩:=ze hdb
  obtain⟨hp3,hp2⟩:=yk HP
  rw[hsl]at h3
  by_cases hk3:k=3
  ·have HC:Hid (lbaC p st=5):=Lib.hid (by unfold lbaC;rw[← hco,if_pos rfl,hsl,if_pos hk3])
   have HN:Hid (lbaC p st≠0):=Lib.hid (by rw[HC.out];omega)
   subst hk3
   clear hco hdb HP hst ha hsl
   go_enter Tryz.func39,Tryz.ntmps39
   go_wp2_with fail
   refine hck.mono ?_
   rintro e w2 ⟨rfl,hb2⟩
   have k2:=k0.below hb2 k0.lt
   have hB2:=hB0.trans (hb2.mono hB0.size)
   clear q0 q1 hck hb2 k0
   obtain⟨q0,q1⟩:=k2.two
   go_wp2
   go_ret2
   exact .inl ⟨HN.out,by rw[HC.out];rfl,hB2⟩
  ·have hk2:k≤2:=by omega
   have hk3i:((k:Int) == 3)=false:=by simp;omega
   have HC:Hid (lbaC p st=0):=Lib.hid (by unfold lbaC;rw[← hco,if_pos rfl,hsl,if_neg hk3])
   have hpk:pw k≤4:=yz hk2
   have hpos:=yq k
   have hin:=fun w' (h:Below w.heap.size w w')=>ybY p HP k h3 A c st w' hc (ha.below h) hst
   rw[yfY HP]at hin
   obtain⟨L,hL⟩:∃ z,z=lbaL p k st:=⟨_,rfl⟩
   obtain⟨D,hD⟩:∃ z,z=L.length:=⟨_,rfl⟩
   have hLe:L=(yI p (locP p k st) (3*(pw k*pw k))):=hL
   obtain⟨s3,hs3⟩:∃ z,z=3*(pw k*pw k):=⟨_,rfl⟩
   have hLT:Tab p s3 L:=by rw[hLe,hs3];exact vW (by omega) _ _
   rw[← hs3]at hLe
   rw[← hL,← hD]at hin
   obtain⟨n,hn⟩:∃ z,z=pw k:=⟨_,rfl⟩
   have hs3n:s3=3*(n*n):=by rw[hs3,hn]
   have hn4:n≤4:=by omega
   have hs48:s3≤48:=by rw[hs3n];have:=Nat.mul_le_mul hn4 hn4;omega
   have hDl:D≤48:=by rw[hD,hLe];exact Nat.le_trans (jX HP _ _) hs48
   have HIN:=Lib.hid hin
   have HLT:=Lib.hid hLT
   have HSN:=Lib.hid hs3n
   have HD:=Lib.hid hD
   have HNP:=Lib.hid hn
   have HFIN:Hid (∀ (e:Ending) (w':World) (A':Option Addr) (c':Nat) (us:List Value),e=.returned (.tuple #[.slice A' D c',.int .i64 0])→Own3 w' w.heap.size A' D c' us→LT w' w.heap.size n us L→Below w.heap.size w w'→LbaP p st w e w'):=Lib.hid fun e w' A' c' us h1 h2 h3 h4=>.inr ⟨HC.out,A',c',us,by rw[hsl,← hL,← hD];exact h1,by rw[hsl,← hL,← hD];exact h2,by rw[hsl,← hL,← hn];exact h3,h4⟩
   rw[← hn]at hpos
   clear hco hdb HP hst ha hsl hin hLT hL hD hLe hs3 hs3n hn hk3 hpk
   go_enter Tryz.func39,Tryz.ntmps39
   go_wp2_with fail
   refine hck.mono ?_
   rintro e w2 ⟨rfl,hb2⟩
   have k2:=k0.below hb2 k0.lt
   have hB2:=hB0.trans (hb2.mono hB0.size)
   clear q0 q1 hck hb2 k0 hB0
   obtain⟨q0,q1⟩:=k2.two
   go_wp2_with fail
   refine (HIN.out w2 hB2).mono ?_
   rintro e w3 ⟨AK,cK,rfl,hMK⟩
   have hb3:=hMK.b
   have k3:=(k2.below hb3 k2.lt).alloc (.cells #[] 34)
   have hB3:=hB2.trans (hb3.mono hB2.size)
   have hO3:Own3 (w3.alloc (.cells #[] 34)) w3.heap.size (some ⟨w3.heap.size,0,none⟩) 0 0 []:=World.ownsRow_lit w3 #[] 0 (Nat.le_refl _) (by simp[maxLen]) rfl
   have hA3:Below w3.heap.size w3 (w3.alloc (.cells #[] 34)):=zG.alloc (Nat.le_refl _) _
   have HB3:=Lib.hid hB3
   have HK3:=Lib.hid hMK.rd
   have hl3:w.heap.size<w3.heap.size:=by have:=k3.lt;have h1:=k2.lt;have h2:=hb3.size;omega
   clear q0 q1 k2 hB2 hb3 hB3 hMK
   go_wp2
   obtain⟨w5,hw5⟩:∃ W,W=w3.alloc (.cells #[] 34):=⟨_,rfl⟩
   rw[← hw5]at k3 hO3 hA3 ⊢
   clear hw5
   go_loopw [6,7] (fun out i wr=>∃ (j:Nat) (A':Option Addr) (c':Nat) (us:List Value),j≤D∧i=.int .i64 j∧out=.slice A' j c'∧Hid (Own3 wr w3.heap.size A' j c' us)∧Hid (LT wr w3.heap.size n us (L.take j))∧Blk wr w.heap.size 26 #[.int .i64 p,.slice A k c]∧Hid (Below w3.heap.size w3 wr)) (fun _ i _=>D-(intOf i).toNat)
   case atStart=>exact⟨0,_,_,[],by omega,rfl,rfl,Lib.hid hO3,Lib.hid (by rw[List.take_zero];exact LT.nil _ _ _),k3,Lib.hid hA3⟩
   case round=>
    obtain⟨j,A',c',us,hj,rfl,rfl,HO,HT,k4,HB⟩:=hrel
    clear hO3 hA3 k3
    by_cases hlt:j<D
    ·obtain⟨gk,ok,ek,hxj,AR,cR,hcj,hrj,hcR⟩:=HK3.out.at_ hlt
     have hlj:L[j].length=s3:=(HLT.out _ (List.getElem_mem hxj)).1
     have HTK:Hid (L.take (j+1)=L.take j++[L[j]]):=Lib.hid (List.take_succ_eq_append_getElem hxj)
     obtain⟨x,hx⟩:∃ z,z=L[j]:=⟨_,rfl⟩
     rw[hlj]at hcj hrj hcR
     rw[← hx]at hrj HTK
     have HCJ:=Lib.hid ((HB.out.cell (World.block_lt_of_cell? _ _ hcj)).trans hcj)
     have HRJ:=Lib.hid (hrj.below HB.out)
     obtain⟨s0,hs0⟩:∃ z,z=n*n:=⟨_,rfl⟩
     have HCU:Hid (∀ w',Below wr.heap.size wr w'→Calls Tryz.prog 94 #[.agg #[.int .i64 p,.slice A k c],.slice AR s3 cR] w' fun e w''=>∃ A1 c1 A2 c2 A3 c3,e=.returned (.agg #[.slice A1 n c1,.slice A2 n c2,.slice A3 n c3])∧TripW w' w'' n A1 c1 (yj (x.take s0) n n) A2 c2 (yj ((x.drop s0).take s0) n n) A3 c3 (yj (x.drop (2*s0)) n n)):=Lib.hid fun w' h=>ybZ p A k c AR s3 cR n s0 x w' (by omega) HNP.out hs0 (by rw[HSN.out,hs0]) hcR (HRJ.out.below h)
     have HS0:=Lib.hid hs0
     subst ek
     clear hlj hx hrj hxj hcR hcj hs0
     go_wp2
     refine yh 8 [[],[],[],[],[2,3],[2,3,4],[1,2,3,4,5],[1,2,3,4,5,6],[0,1,2,3,4,5,6,7],[0,1,2,3,4,5,6,7,8]] [VIs (.slice A' j c'),VIs (.agg #[.int .i64 p,.slice A k c]),VIs (.slice (some ⟨gk,ok,none⟩) D cK),VIs (.int .i64 (j:Nat)),VIs (.pointer (some ⟨gk,ok+j,none⟩)),VIs (.slice AR s3 cR),VCt w3.heap.size n x,VNt w3.heap.size n x] (fun w'=>Blk w' w.heap.size 26 #[.int .i64 p,.slice A k c]∧Below wr.heap.size wr w') (by kernel_rfl) (by kernel_rfl) (fun _ _ h hb=>⟨h.1.below hb h.1.lt,h.2.trans (hb.mono h.2.size)⟩) (⟨k4.drew,zG.drew⟩) (fun x=>?_)
     refine zS (fun w' hS hV K hK=>?_) ?_
     ·obtain⟨q0,q1⟩:=hS.1.two;have q2:=(hS.2.cell (World.block_lt_of_cell? _ _ HCJ.out)).trans HCJ.out;go_simp;exact zO hK
     refine zS (fun w' hS hV K hK=>?_) ?_
     ·obtain⟨q0,q1⟩:=hS.1.two;have q2:=(hS.2.cell (World.block_lt_of_cell? _ _ HCJ.out)).trans HCJ.out;go_simp;exact zO hK
     refine zS (fun w' hS hV K hK=>?_) ?_
     ·obtain⟨q0,q1⟩:=hS.1.two;have q2:=(hS.2.cell (World.block_lt_of_cell? _ _ HCJ.out)).trans HCJ.out;go_simp;exact zO hK
     refine zS (fun w' hS hV K hK=>?_) ?_
     ·obtain⟨q0,q1⟩:=hS.1.two;have q2:=(hS.2.cell (World.block_lt_of_cell? _ _ HCJ.out)).trans HCJ.out;go_simp;exact zO hK
     refine zS (fun w' hS hV K hK=>?_) ?_
     ·have e2:=zQ hV 2;have e3:=zQ hV 3;obtain⟨q0,q1⟩:=hS.1.two;have q2:=(hS.2.cell (World.block_lt_of_cell? _ _ HCJ.out)).trans HCJ.out;go_simp;exact zO hK
     refine zS (fun w' hS hV K hK=>?_) ?_
     ·have e4:=zQ hV 4;obtain⟨q0,q1⟩:=hS.1.two;have q2:=(hS.2.cell (World.block_lt_of_cell? _ _ HCJ.out)).trans HCJ.out;go_simp;exact zO hK
     refine zS (fun w' hS hV K hK=>?_) ?_
     ·have e1:=zQ hV 1;have e5:=zQ hV 5;obtain⟨q0,q1⟩:=hS.1.two;have q2:=(hS.2.cell (World.block_lt_of_cell? _ _ HCJ.out)).trans HCJ.out;go_simp;refine (HCU.out w' hS.2).mono ?_;rintro e v1 ⟨A1,c1,A2,c2,A3,c3,rfl,h1,h2,h3,h4⟩;exact hK.out _ _ _ rfl rfl ⟨_,_,_,rfl,.inr ⟨_,_,_,_,_,_,rfl,rfl,rfl,by unfold mA;rw[← HS0.out];exact h1.base (Nat.le_trans HB.out.size hS.2.size),by unfold mB;rw[← HS0.out];exact h2.base (Nat.le_trans HB.out.size hS.2.size),by unfold mC;rw[← HS0.out];exact h3.base (Nat.le_trans HB.out.size hS.2.size)⟩⟩ h4
     refine zS (fun w' hS hV K hK=>?_) ?_
     ·obtain⟨ua6,ub6,uc6,e6,h6⟩:=hV 6 (by decide);obtain⟨q0,q1⟩:=hS.1.two;have q2:=(hS.2.cell (World.block_lt_of_cell? _ _ HCJ.out)).trans HCJ.out;go_simp;exact hK.out _ _ _ rfl rfl ⟨_,_,_,_,rfl,Blk.new _ _ _,h6.below (zG.alloc (Nat.le_refl _) _)⟩ (zG.alloc (Nat.le_refl _) _)
     refine fun w' hS hV=>?_
     have e0:=zT hV 0
     have e1:=zT hV 1
     have e2:=zT hV 2
     have e3:=zT hV 3
     have e4:=zT hV 4
     have e5:=zT hV 5
     obtain⟨ua6,ub6,uc6,e6,h6⟩:=hV 6 (by decide)
     obtain⟨g7,ua7,ub7,uc7,e7,b7,h7⟩:=hV 7 (by decide)
     simp only[e0,e1,e2,e3,e4,e5,e6,e7]
     clear e0 e1 e2 e3 e4 e5 e6 e7
     obtain⟨k7,s7⟩:=hS
     refine xg (j:=8) (by kernel_rfl) (Eq.trans (by simp only[zA,zB,zC];exact rfl) rfl) rfl (fun K hK=>?_)
     refine yix w3.heap.size w' _ _ rfl A' j c' us _ _ _ (HO.out.below s7) (Nat.le_trans HB.out.size s7.size) (by omega) g7 b7 h7.one.1 h7.one.2.1 h7.one.2.2 (by rfl) (by rfl) ?_
     intro A8 c8 w8 hM8 hg8
     refine hK.out _ _ ?_
     simp only[Act.put,zD,zE,zF]
     refine yK (j:=9) (by kernel_rfl) (Eq.trans (by simp only[zA,zB,zC];exact rfl) rfl) (fun K hK=>?_)
     go_simp
     refine hK.out _ _ (wpAny_done (by kernel_rfl) ?_ _)
     have hO7:=HO.out.below s7
     have HO8:=Lib.hid hM8
     have HT8:=Lib.hid (((HT.out.below s7).grown3 hO7 hg8).snoc (h7.grown3 hO7 hg8))
     have k8:=k7.grown3 (by decide) hO7 hg8
     have HB8:=Lib.hid (Below.grown3 (HB.out.trans (s7.mono HB.out.size)) hO7 hg8 (Nat.le_refl _) (Nat.le_trans HB.out.size s7.size))
     clear hM8 hg8 hO7 k7 s7 h7 b7 k4
     go_wp2
     go_roundw
     case rel=>exact⟨j+1,A8,c8,_,by omega,by go_num,rfl,HO8,Lib.hid (by rw[HTK.out];exact HT8.out),k8,HB8⟩
     case measure=>simp[intOf];omega
    ·obtain rfl:j=D:=by omega
     have hT:LT wr w3.heap.size n us L:=by have:=HT.out;rwa [List.take_of_length_le (by have:=HD.out;omega)]at this
     have HT2:Hid (LT wr w.heap.size n us L):=Lib.hid ⟨hT.1,fun i hi=>by obtain⟨u1,u2,u3,e1,e2,e3,hc⟩:=hT.2 i hi;exact⟨u1,u2,u3,e1,e2,e3,hc.base (by omega)⟩⟩
     have HO2:=Lib.hid (HO.out.base (B':=w.heap.size) (by omega))
     have HB2:=Lib.hid (HB3.out.trans (HB.out.mono HB3.out.size))
     clear HT hT HO HB
     go_wp2
     go_ret2
     exact HFIN.out _ _ A' c' us rfl HO2.out HT2.out HB2.out
 ·have HC:Hid (lbaC p st=co):=Lib.hid (by unfold lbaC;rw[← hco,if_neg h0])
  have HN:Hid (lbaC p st≠0):=Lib.hid (by rw[HC.out];exact h0)
  have ez:(co == 0)=false:=by simp[h0]
  clear hco ha hsl
  go_enter Tryz.func39,Tryz.ntmps39
  go_wp2_with fail
  refine hck.mono ?_
  rintro e w2 ⟨rfl,hb2⟩
  go_wp2
  go_ret2
  exact .inl ⟨HN.out,by rw[HC.out];rfl,hB0.trans (hb2.mono hB0.size)⟩
end Go.Proofs.YtaiegpggccdgoaaGreat

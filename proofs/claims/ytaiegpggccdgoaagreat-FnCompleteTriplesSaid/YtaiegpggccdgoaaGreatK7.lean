/-
  LawFnCompleteTriples: part 7 of the texts that the proof needs. No condition.
-/
import Derived.Test.YtaiegpggccdgoaaGreatK6
namespace Go.Proofs.YtaiegpggccdgoaaGreat
open Go.RowKit
set_option maxHeartbeats 400000 in
set_option maxRecDepth 8000 in
theorem yf9 (A B:Option Addr) (n m c d:Nat) (xs ys:List Int) (w:World) (hn:n≤1099511627776) (hm:m≤1099511627776)
 (ha:Rd w A n (ints xs)) (hb:Rd w B m (ints ys)) :
 Calls Tryz.prog 71 #[.slice A n c,.slice B m d] w fun e w'=>e=.returned (.bool (decide (xs=ys))) ∧ ∃ j,w'=w.drewN j:=by
 have hxl:xs.length=n:=by have:=ha.1;rwa [yD]at this
 have hyl:ys.length=m:=by have:=hb.1;rwa [yD]at this
 by_cases hnm:n=m
 ·subst hnm
  have Hx:=Lib.hid hxl;clear hxl
  have Hy:=Lib.hid hyl;clear hyl
  go_enter Tryz.func71,Tryz.ntmps71
  go_wp2
  go_loopw [5] (fun i wr=>∃ k j:Nat,k≤n∧i=.int .i64 k∧xs.take k=ys.take k∧wr=w.drewN j) (fun i _=>n-(intOf i).toNat)
  case atStart=>exact⟨0,0,by omega,rfl,by simp,rfl⟩
  case round=>
   obtain⟨k,j,hk,rfl,hxy,rfl⟩:=hrel
   have H:=Lib.hid hxy;clear hxy
   by_cases hlt:k<n
   ·obtain⟨g,o,rfl,hx,hcx⟩:=ha.int hlt
    obtain⟨g',o',rfl,hy,hcy⟩:=hb.int hlt
    clear ha hb
    go_wp2
    go_quiet (fail)
    go_wp2
    ·go_ret
     exact⟨yJ (ygs xs ys k hx hy (by assumption)).symm,_,World.drewN_drewN _ _ _⟩
    ·go_roundw
     case rel=>exact⟨k+1,_,by omega,by go_num,yhQ xs ys k hx hy H.out (by simpa using (by assumption:(xs[k] != ys[k])=false)),rfl⟩
     case measure=>simp[intOf];omega
   ·go_wp2
    go_ret
    refine⟨yJ ?_,_,rfl⟩
    have:=H.out
    rw[List.take_of_length_le (by rw[Hx.out];omega),List.take_of_length_le (by rw[Hy.out];omega)]at this
    rw[this];simp
 ·have hne:decide (xs=ys)=false:=by
   rw[decide_eq_false_iff_not];rintro rfl;omega
  have Hne:=Lib.hid hne;clear hne hxl hyl
  have hb0:((n:Int) != (m:Int))=true:=by rw[bne_iff_ne];omega
  go_enter Tryz.func71,Tryz.ntmps71
  go_wp2
  go_ret
  exact⟨yJ Hne.out.symm,0,rfl⟩
def sumL (p:Int) (U M:List (List Int)) (k:Int):List (List Int):=tab U.length fun i=>yp p (U.getD i []) (M.getD i []) k
theorem ycY (p:Int) (U M:List (List Int)) (k:Int):(sumL p U M k).length=U.length:=yG _ _
theorem yhE {p:Int} {U M:List (List Int)} {k:Nat} {j:Int} (h:k<U.length):(sumL p U M j).take (k+1)=(sumL p U M j).take k++[yp p (U.getD k []) (M.getD k []) j]:=by
 have hl:k<(sumL p U M j).length:=by rw[ycY];exact h
 rw[List.take_succ_eq_append_getElem hl]
 congr 2
 rw[← yc [] hl]
 unfold sumL
 rw[yC h]
set_option maxHeartbeats 3200000 in
set_option maxRecDepth 8000 in
theorem yhD (p:Int) (U:Option Addr) (n cu:Nat) (U0:List (List Int)) (A:Option Addr) (c:Nat) (M:List (List Int)) (kk:Int) (w:World) (hp:2≤p) (hp2:p≤13) (hn:n≤65536) (hu:RdII w U n U0) (hU:Tab p n U0) (ha:RdII w A n M) (hT:Tab p n M) (hk1:-1000≤kk) (hk2:kk≤1000) :
 Calls Tryz.prog 52 #[.int .i64 p,.slice U n cu,.slice A n c,.int .i64 kk] w fun e w'=>∃ (A':Option Addr) (c':Nat),e=.returned (.slice A' n c')∧MkII w w' A' n c' (sumL p U0 M kk):=by
 have HM:=Lib.hid hT
 have HU:=Lib.hid hU
 have HOL:Hid ((sumL p U0 M kk).length=n):=Lib.hid ((ycY p U0 M kk).trans hu.len)
 obtain⟨w3,hw3⟩:∃ W,W=w.alloc (.cells #[] 24):=⟨_,rfl⟩
 have hA0:Below w.heap.size w w3:=by rw[hw3];exact zG.alloc (Nat.le_refl _) _
 have hO3:MkII w w3 (some ⟨w.heap.size,0,none⟩) 0 0 []:=by rw[hw3];exact MkII.empty zG
 have hE3:Blk w3 w.heap.size 24 #[]:=by rw[hw3];exact Blk.new _ _ _
 have a3:=ha.below hA0
 have u3:=hu.below hA0
 have hgr0:Grows w3 w3 w.heap.size (.slice (some ⟨w.heap.size,0,none⟩) 0 0):=⟨CK.refl _,Nat.le_refl _,fun gb h=>.inl (by simpa [Value.ownBlock] using h.symm)⟩
 clear hT hU ha hu
 go_enter Tryz.func52,Tryz.ntmps52
 go_wp2
 rw[← hw3]
 obtain⟨g3,hg3⟩:∃ g,g=w.heap.size:=⟨_,rfl⟩
 rw[← hg3]at hO3 hE3 hgr0 ⊢
 clear hw3 hg3
 go_loopw [9,14] (fun out i wr=>∃ (k:Nat) (A':Option Addr) (c':Nat),k≤n∧i=.int .i64 k∧out=.slice A' k c'∧MkII w wr A' k c' ((sumL p U0 M kk).take k)∧Grows w3 wr g3 (.slice A' k c')) (fun _ i _=>n-(intOf i).toNat)
 case atStart=>exact⟨0,_,_,by omega,rfl,rfl,by simpa using hO3,hgr0⟩
 case round=>
  obtain⟨k,A',c',hk,rfl,rfl,hM,hgr⟩:=hrel
  clear hO3 hgr0
  by_cases hlt:k<n
  ·obtain⟨ga,oa,rfl,hxk,Ak,ck,hck,hrk,hcc⟩:=(a3.ck hgr.1).at_ hlt
   obtain⟨gu,ou,rfl,hxu,Uk,cu2,hcu,hru,hcuc⟩:=(u3.ck hgr.1).at_ hlt
   have hnk:=HM.out M[k] (List.getElem_mem hxk)
   have hnu:=HU.out U0[k] (List.getElem_mem hxu)
   rw[hnk.1]at hck hrk hcc
   rw[hnu.1]at hcu hru hcuc
   have HGD:Hid (M.getD k []=M[k]):=Lib.hid (yc [] hxk)
   have HGU:Hid (U0.getD k []=U0[k]):=Lib.hid (yc [] hxu)
   obtain⟨X,hX⟩:∃ X,X=M[k]:=⟨_,rfl⟩
   obtain⟨V,hV0⟩:∃ X,X=U0[k]:=⟨_,rfl⟩
   rw[← hX]at hrk hnk HGD
   rw[← hV0]at hru hnu HGU
   have HXL:Hid (k<U0.length):=Lib.hid hxu
   clear hX hV0 hxk hxu hcc hcuc
   have HPL:=Lib.hid fun (w':World) (h:Below wr.heap.size wr w')=>qL p Uk n cu2 Ak n ck kk V X w' hp hp2 hn (Nat.le_refl _) (hru.below h) hnu.2 (hrk.below h) hnk.2 hk1 hk2
   obtain⟨Y,hY⟩:∃ Y,Y=yp p V X kk:=⟨_,rfl⟩
   have HAP:Hid ((sumL p U0 M kk).take (k+1)=(sumL p U0 M kk).take k++[Y]):=Lib.hid (by rw[yhE HXL.out,HGU.out,HGD.out,hY])
   rw[← hY]at HPL
   have HMM:=Lib.hid hM
   have HGR:=Lib.hid hgr
   clear hrk hru hY hM hgr hnk hnu
   go_wp2
   refine yh 13 [[],[],[],[],[2,3],[2,3,4],[],[],[6,7],[6,7,8],[],[1,2,3,4,5,6,7,8,9,10],[1,2,3,4,5,6,7,8,9,10,11],[0,1,2,3,4,5,6,7,8,9,10,11,12],[0,1,2,3,4,5,6,7,8,9,10,11,12,13]] [VIs (.slice A' k c'),VIs (.int .i64 (p)),VIs (.slice (some ⟨gu,ou,none⟩) n cu),VIs (.int .i64 (k)),VIs (.pointer (some ⟨gu,ou+k,none⟩)),VIs (.slice Uk n cu2),VIs (.slice (some ⟨ga,oa,none⟩) n c),VIs (.int .i64 (k)),VIs (.pointer (some ⟨ga,oa+k,none⟩)),VIs (.slice Ak n ck),VIs (.int .i64 (kk)),VSl wr n Y,VNew wr n Y] (fun w'=>w'.cell? ⟨gu,ou+k,none⟩=some (.slice Uk n cu2)∧w'.cell? ⟨ga,oa+k,none⟩=some (.slice Ak n ck)∧Below wr.heap.size wr w') (by kernel_rfl) (by kernel_rfl) (fun _ _ h hb=>⟨(hb.cell (World.block_lt_of_cell? _ _ h.1)).trans h.1,(hb.cell (World.block_lt_of_cell? _ _ h.2.1)).trans h.2.1,h.2.2.trans (hb.mono h.2.2.size)⟩) (⟨hcu,hck,zG.drew⟩) (fun x=>?_)
   refine zS (fun w' hS hV K hK=>?_) ?_
   ·have q0:=hS.1;have q1:=hS.2.1;go_simp;exact zO hK
   refine zS (fun w' hS hV K hK=>?_) ?_
   ·have q0:=hS.1;have q1:=hS.2.1;go_simp;exact zO hK
   refine zS (fun w' hS hV K hK=>?_) ?_
   ·have q0:=hS.1;have q1:=hS.2.1;go_simp;exact zO hK
   refine zS (fun w' hS hV K hK=>?_) ?_
   ·have q0:=hS.1;have q1:=hS.2.1;go_simp;exact zO hK
   refine zS (fun w' hS hV K hK=>?_) ?_
   ·have e2:=zQ hV 2;have e3:=zQ hV 3;have q0:=hS.1;have q1:=hS.2.1;go_simp;exact zO hK
   refine zS (fun w' hS hV K hK=>?_) ?_
   ·have e4:=zQ hV 4;have q0:=hS.1;have q1:=hS.2.1;go_simp;exact zO hK
   refine zS (fun w' hS hV K hK=>?_) ?_
   ·have q0:=hS.1;have q1:=hS.2.1;go_simp;exact zO hK
   refine zS (fun w' hS hV K hK=>?_) ?_
   ·have q0:=hS.1;have q1:=hS.2.1;go_simp;exact zO hK
   refine zS (fun w' hS hV K hK=>?_) ?_
   ·have e6:=zQ hV 6;have e7:=zQ hV 7;have q0:=hS.1;have q1:=hS.2.1;go_simp;exact zO hK
   refine zS (fun w' hS hV K hK=>?_) ?_
   ·have e8:=zQ hV 8;have q0:=hS.1;have q1:=hS.2.1;go_simp;exact zO hK
   refine zS (fun w' hS hV K hK=>?_) ?_
   ·have q0:=hS.1;have q1:=hS.2.1;go_simp;exact zO hK
   refine zS (fun w' hS hV K hK=>?_) ?_
   ·have e1:=zQ hV 1;have e5:=zQ hV 5;have e9:=zQ hV 9;have e10:=zQ hV 10;have q0:=hS.1;have q1:=hS.2.1;go_simp;refine (HPL.out _ hS.2.2).mono ?_;rintro e v1 ⟨A9,c9,rfl,hM⟩;exact hK.out _ _ _ rfl rfl ⟨_,_,rfl,hM.after hS.2.2⟩ hM.b
   refine zS (fun w' hS hV K hK=>?_) ?_
   ·obtain⟨A11,c11,e11,h11⟩:=hV 11 (by decide);have q0:=hS.1;have q1:=hS.2.1;go_simp;exact hK.out _ _ _ rfl rfl ⟨_,_,_,rfl,Blk.new _ _ _,h11.below (zG.alloc (Nat.le_refl _) _)⟩ (zG.alloc (Nat.le_refl _) _)
   refine fun w' hS hV=>?_
   have e0:=zT hV 0
   have e1:=zT hV 1
   have e2:=zT hV 2
   have e3:=zT hV 3
   have e4:=zT hV 4
   have e5:=zT hV 5
   have e6:=zT hV 6
   have e7:=zT hV 7
   have e8:=zT hV 8
   have e9:=zT hV 9
   have e10:=zT hV 10
   obtain⟨A11,c11,e11,h11⟩:=hV 11 (by decide)
   obtain⟨g12,A12,c12,e12,b12,h12⟩:=hV 12 (by decide)
   simp only[e0,e1,e2,e3,e4,e5,e6,e7,e8,e9,e10,e11,e12]
   clear e0 e1 e2 e3 e4 e5 e6 e7 e8 e9 e10 e11 e12
   obtain⟨-, -,s2⟩:=hS
   refine xg (j:=13) (by kernel_rfl) (Eq.trans (by simp only[zA,zB,zC];exact rfl) rfl) rfl (fun K hK=>?_)
   refine q9 w wr w' _ _ rfl A' k c' _ A12 n c12 _ HMM.out h12 (by omega) g12 b12 (by rfl) (by rfl) ?_
   intro A20 c20 w20 hM20 hg20 hat20
   refine hK.out _ _ ?_
   simp only[Act.put,zD,zE,zF]
   refine yK (j:=14) (by kernel_rfl) (Eq.trans (by simp only[zA,zB,zC];exact rfl) rfl) (fun K hK=>?_)
   go_simp
   refine hK.out _ _ (wpAny_done (by kernel_rfl) ?_ _)
   have hgr7:=HGR.out.step (n':=k+1) (c':=c20) hE3 s2 hg20 hat20
   clear hg20 hat20 s2
   go_wp2
   go_roundw
   case rel=>exact⟨k+1,A20,c20,by omega,by go_num,rfl,by rw[HAP.out];exact hM20,hgr7⟩
   case measure=>simp[intOf];omega
  ·obtain rfl:k=n:=by omega
   rw[List.take_of_length_le (by rw[HOL.out];omega)]at hM
   go_wp2
   go_ret
   exact⟨_,_,rfl,hM⟩
end Go.Proofs.YtaiegpggccdgoaaGreat
namespace Go.Proofs.YtaiegpggccdgoaaGreat
open Go Go.RowKit
def dgL (p:Int) (k:Nat) (st:List Int):List Int:=tab (pw k) fun i=>vp p k st (ye (pw k) i)
theorem yeq (p:Int) (k:Nat) (st:List Int):(dgL p k st).length=pw k:=yG _ _
theorem vn {p:Int} (hp:0<p) (k:Nat) (st:List Int):NumsL p (dgL p k st):=NumsL.tab fun _ _=>(yT hp _ _ _ _).getD hp _
set_option maxHeartbeats 1600000 in
set_option maxRecDepth 8000 in
theorem ya7 (p:Int) (hp:2≤p) (hp2:p≤13) (k:Nat) (hk:k≤4) (A:Option Addr) (c:Nat) (st:List Int) (w:World) (hc:k≤c) (ha:Rd w A k (ints st)) (hst:NumsL p st) :
 Calls Tryz.prog 118 #[.agg #[.int .i64 p,.slice A k c]] w fun e w'=>∃ A' c',e=.returned (.slice A' (pw k) c')∧MkI w w' A' (pw k) c' (dgL p k st):=by
 have hpk:pw k≤16:=yz hk
 have hpos:=yq k
 have hB0:Below w.heap.size w (w.alloc (.cells #[.int .i64 p,.slice A k c] 26)):=zG.alloc (Nat.le_refl _) _
 have k0:Blk (w.alloc (.cells #[.int .i64 p,.slice A k c] 26)) w.heap.size 26 #[.int .i64 p,.slice A k c]:=Blk.new _ _ _
 have k1:=k0.alloc (.cells #[] 2)
 have hM1:MkI w ((w.alloc (.cells #[.int .i64 p,.slice A k c] 26)).alloc (.cells #[] 2)) (some ⟨w.heap.size+1,0,none⟩) 0 0 []:=by
  have:=Mk.lit (E:=2) hB0 #[] (by simp)
  simpa [MkI,ints] using this
 obtain⟨q0,q1⟩:=k1.two
 obtain⟨n,hn⟩:∃ n,n=pw k:=⟨_,rfl⟩
 have hsz:=fun w'=>z8 p A k c w' hk
 obtain⟨G,hG⟩:∃ G:Nat→Int,G=fun i=>vp p k st (ye n i):=⟨_,rfl⟩
 have hno:Hid (∀ (w':World) (i:Nat) (X:Option Addr) (cx:Nat),Below w.heap.size w w'→n≤cx→Rd w' X n (ints (ye n i))→Calls Tryz.prog 150 #[.agg #[.int .i64 p,.slice A k c],.slice X n cx] w' fun e w''=>e=.returned (.int .i64 (G i))∧Below w'.heap.size w' w''):=Lib.hid fun w' i X cx hb hcx hX=>by
  rw[hG]
  subst hn
  exact yeE p hp hp2 k hk A c st X cx _ w' hc hcx (ha.below hb) hst hX (vh hp _ _)
 have HPR:Hid (dgL p k st=tab n G):=Lib.hid (by rw[hG,hn];rfl)
 rw[← hn]at hpk hpos hsz ⊢
 clear hn hG hst ha hB0 k0
 go_enter Tryz.func118,Tryz.ntmps118
 go_wp2_with fail
 refine (hsz _).mono ?_
 rintro e w2 ⟨rfl,hb2⟩
 have hM2:=hM1.below hb2
 have k2:=k1.below hb2 k1.lt
 clear q0 q1 k1
 go_wp2_with fail
 refine (ul n _ (by omega)).mono ?_
 rintro e w3 ⟨U,cU,rfl,hU⟩
 have hM3:=hM2.below hU.b
 have k3:=k2.below hU.b k2.lt
 have hsz2:w.heap.size+1<w2.heap.size:=by have:=hb2.size;simp at this;omega
 have hKp:Keeps w2 w3 w3 (.slice (some ⟨w.heap.size+1,0,none⟩) 0 0):=⟨Nat.le_refl _,fun _ _ _=>rfl,fun gb e=>.inl (vI e hsz2)⟩
 have HU:=Lib.hid hU
 clear hM1 hM2 k2 hb2 hsz2 hU
 go_wp2
 go_loopw [3,11] (fun out i wr=>∃ (j:Nat) (A':Option Addr) (c':Nat),j≤n∧i=.int .i64 j∧out=.slice A' j c'∧Hid (MkI w wr A' j c' (tab j G))∧Hid (Keeps w2 w3 wr (.slice A' j c'))∧Blk wr w.heap.size 26 #[.int .i64 p,.slice A k c]) (fun _ i _=>n-(intOf i).toNat)
 case atStart=>exact⟨0,_,_,by omega,rfl,rfl,Lib.hid (by simpa [tab] using hM3),Lib.hid hKp,k3⟩
 case round=>
  obtain⟨j,A',c',hj,rfl,rfl,HM,HKP,kr⟩:=hrel
  clear hM3 hKp k3
  by_cases hlt:j<n
  ·obtain⟨gu,ou,rfl,hxk,A1,c1,hcu,hru,hcc⟩:=(HU.out.keep HKP.out.2.1).at_ hlt
   have hrow:=vM n j hxk
   rw[hrow,zm]at hru hcu hcc
   have hcall:=hno.out wr j A1 c1 HM.out.b hcc hru
   obtain⟨q0,q1⟩:=kr.two
   clear hru hrow hxk
   go_wp2_with fail
   refine hcall.mono ?_
   rintro e w7 ⟨rfl,hb7⟩
   have HB7:=Lib.hid hb7
   have k7:=kr.below hb7 kr.lt
   clear hcall q0 q1 hcu hb7
   go_wp2_with (at_builtin;refine yt w _ 24 2 _ _ Tryz.underlying24 yo rfl (by omega) rfl _ _ rfl A' j c' _ _ (HM.out.below HB7.out) (by omega) rfl rfl rfl ?_;intro A4 c4 w4 hM4 hg4 hat4)
   go_roundw
   case rel=>exact⟨j+1,A4,c4,by omega,by go_num,rfl,Lib.hid (by rw[yQ];simpa [MkI,ints] using hM4),Lib.hid (HKP.out.step HB7.out hg4 hat4),k7.grown hg4 ((HM.out.below HB7.out).2.ne_blk k7 (by decide))⟩
   case measure=>simp[intOf];omega
  ·obtain rfl:j=n:=by omega
   go_wp2
   go_ret
   exact⟨_,_,rfl,by rw[HPR.out];exact HM.out⟩
theorem yfn {p:Int} {k:Nat} {M:List (List Int)} (hk:k≤3) (hl:M.length=pw k) (hT:Tab p (pw k) M):isMx p k M=true:=by
 have h8:pw k≤8:=yz hk
 have h0:=yq k
 have hrow:=(hT.row (show 0<M.length by omega)).1
 unfold isMx isTb
 rw[hrow,hl]
 simp only[Bool.and_eq_true,decide_eq_true_eq,beq_self_eq_true,and_true]
 refine⟨by omega,by omega,List.all_eq_true.2 fun x hx=>?_⟩
 obtain⟨h1,h2⟩:=hT x hx
 unfold xa nums
 rw[h1]
 simp only[Bool.and_eq_true,decide_eq_true_eq,beq_self_eq_true,true_and]
 exact⟨⟨by omega,by omega⟩,List.all_eq_true.2 fun v hv=>by have:=h2 v hv;simp[inR];omega⟩
theorem jr {p:Int} {st:List Int} {yss:List (List Int)} {mss:List (List (List Int))} (h:isDb p st=true) (h3:st.length≤3) (hy:∀ ys∈yss,ys.length=pw st.length∧NumsL p ys) (hm:∀ M∈mss,M.length=pw st.length∧Tab p (pw st.length) M):yH p st yss mss=0:=by
 unfold yH
 rw[if_pos h,if_neg (by omega),yek h hy,if_neg]
 rintro (hh | hh)
 ·exact hh rfl
 ·obtain⟨M,h1,e⟩:=List.any_eq_true.1 hh
  rw[yfn h3 (hm M h1).1 (hm M h1).2]at e
  cases e
theorem ycG {w:World} {g:Nat} {t:TypeId} {A:Option Addr} {n c:Nat} {M:List (List Int)} (k:Blk w g t #[.slice A n c]) (hx:RdII w A n M) (h1:n≤c):RdM3 w (some ⟨g,0,none⟩) 1 [M]:=by
 have e1:M.length=n:=hx.len
 subst e1
 refine⟨[.slice A M.length c],⟨rfl,fun _=>⟨g,0,rfl,fun i u hu=>?_⟩⟩,rfl,fun i hi=>?_⟩
 ·match i,hu with
  | 0,hu=>simp at hu;subst hu;exact k.cell 0
 ·match i,hi with
  | 0,_=>exact⟨A,c,rfl,hx,h1⟩
theorem yae {p:Int} {k:Nat} {M:List (List Int)} (hk:k≤3) (hl:M.length=pw k) (hT:Tab p (pw k) M):okM3 M:=by
 have h8:pw k≤8:=yz hk
 exact⟨by omega,fun x hx=>by have:=(hT x hx).1;omega⟩
theorem yga (A B:Option Addr) (n c d:Nat) (xs:List Int) (w:World) (hn:n≤1099511627776) (ha:Rd w A n (ints xs)) (hb:Rd w B n (ints xs)) :
 Calls Tryz.prog 71 #[.slice A n c,.slice B n d] w fun e w'=>e=.returned (.bool true)∧Below w.heap.size w w':=
 (yf9 A B n n c d xs xs w hn hn ha hb).mono (by rintro e w' ⟨rfl,j,rfl⟩;exact⟨by simp,vz zG j⟩)
set_option maxHeartbeats 1600000 in
set_option maxRecDepth 8000 in
theorem ycQ (A B:Option Addr) (n ca cb:Nat) (M:List (List Int)) (w:World) (hn:n≤65536) (hM:∀ x∈M,x.length≤65536) (ha:RdII w A n M) (hb:RdII w B n M) :
 Calls Tryz.prog 22 #[.slice A n ca,.slice B n cb] w fun e w'=>e=.returned (.bool true)∧Below w.heap.size w w':=by
 go_enter Tryz.func22,Tryz.ntmps22
 go_wp2
 go_loopw [5] (fun i wr=>∃ j:Nat,j≤n∧i=.int .i64 j∧Hid (Below w.heap.size w wr)) (fun i _=>n-(intOf i).toNat)
 case atStart=>exact⟨0,by omega,rfl,Lib.hid zG⟩
 case round=>
  obtain⟨j,hj,rfl,HB⟩:=hrel
  by_cases hlt:j<n
  ·obtain⟨g1,o1,rfl,hx1,A1,cj,c1,hr1, -⟩:=(ha.below HB.out).at_ hlt
   obtain⟨g2,o2,rfl,hx2,A2,dj,c2,hr2, -⟩:=(hb.below HB.out).at_ hlt
   have hlj:=hM _ (List.getElem_mem hx1)
   obtain⟨row,hrow⟩:∃ z,z=M[j]:=⟨_,rfl⟩
   rw[← hrow]at c1 hr1 c2 hr2 hlj
   obtain⟨nj,hnj⟩:∃ z,z=row.length:=⟨_,rfl⟩
   rw[← hnj]at c1 hr1 c2 hr2 hlj
   have HLI:=Lib.hid (fun w' (h:Below wr.heap.size wr w')=>yga A1 A2 nj cj dj row w' (by omega) (hr1.below h) (hr2.below h))
   clear hr1 hr2 hrow hnj hlj
   go_wp2
   refine yh 10 [[],[],[0,1],[0,1,2],[],[],[4,5],[4,5,6],[0,1,2,3,4,5,6,7],[0,1,2,3,4,5,6,7,8]] [VIs (.slice (some ⟨g1,o1,none⟩) n ca),VIs (.int .i64 (j)),VIs (.pointer (some ⟨g1,o1+j,none⟩)),VIs (.slice A1 nj cj),VIs (.slice (some ⟨g2,o2,none⟩) n cb),VIs (.int .i64 (j)),VIs (.pointer (some ⟨g2,o2+j,none⟩)),VIs (.slice A2 nj dj),VIs (.bool true),VIs (.bool false)] (fun w'=>w'.cell? ⟨g1,o1+j,none⟩=some (.slice A1 nj cj)∧w'.cell? ⟨g2,o2+j,none⟩=some (.slice A2 nj dj)∧Below wr.heap.size wr w') (by kernel_rfl) (by kernel_rfl) (fun _ _ h hb=>⟨(hb.cell (World.block_lt_of_cell? _ _ h.1)).trans h.1,(hb.cell (World.block_lt_of_cell? _ _ h.2.1)).trans h.2.1,h.2.2.trans (hb.mono h.2.2.size)⟩) (⟨c1,c2,zG.drew⟩) (fun x=>?_)
   refine zS (fun w' hS hV K hK=>?_) ?_
   ·have q1:=hS.1;have q2:=hS.2.1;go_simp;exact zO hK
   refine zS (fun w' hS hV K hK=>?_) ?_
   ·have q1:=hS.1;have q2:=hS.2.1;go_simp;exact zO hK
   refine zS (fun w' hS hV K hK=>?_) ?_
   ·have e0:=zQ hV 0;have e1:=zQ hV 1;have q1:=hS.1;have q2:=hS.2.1;go_simp;exact zO hK
   refine zS (fun w' hS hV K hK=>?_) ?_
   ·have e2:=zQ hV 2;have q1:=hS.1;have q2:=hS.2.1;go_simp;exact zO hK
   refine zS (fun w' hS hV K hK=>?_) ?_
   ·have q1:=hS.1;have q2:=hS.2.1;go_simp;exact zO hK
   refine zS (fun w' hS hV K hK=>?_) ?_
   ·have q1:=hS.1;have q2:=hS.2.1;go_simp;exact zO hK
   refine zS (fun w' hS hV K hK=>?_) ?_
   ·have e4:=zQ hV 4;have e5:=zQ hV 5;have q1:=hS.1;have q2:=hS.2.1;go_simp;exact zO hK
   refine zS (fun w' hS hV K hK=>?_) ?_
   ·have e6:=zQ hV 6;have q1:=hS.1;have q2:=hS.2.1;go_simp;exact zO hK
   refine zS (fun w' hS hV K hK=>?_) ?_
   ·have e3:=zQ hV 3;have e7:=zQ hV 7;have q1:=hS.1;have q2:=hS.2.1;go_simp;refine (HLI.out w' hS.2.2).mono ?_;rintro e v1 ⟨rfl,hb9⟩;exact hK.out _ _ _ rfl rfl rfl hb9
   refine zS (fun w' hS hV K hK=>?_) ?_
   ·have e8:=zQ hV 8;have q1:=hS.1;have q2:=hS.2.1;go_simp;exact zO hK
   refine fun w' hS hV=>?_
   have e0:=zT hV 0
   have e1:=zT hV 1
   have e2:=zT hV 2
   have e3:=zT hV 3
   have e4:=zT hV 4
   have e5:=zT hV 5
   have e6:=zT hV 6
   have e7:=zT hV 7
   have e8:=zT hV 8
   have e9:=zT hV 9
   simp only[e0,e1,e2,e3,e4,e5,e6,e7,e8,e9]
   clear e0 e1 e2 e3 e4 e5 e6 e7 e8 e9
   refine wpAny_done (by kernel_rfl) ?_ _
   obtain⟨-, -,s2⟩:=hS
   have HB2:=Lib.hid (HB.out.trans (s2.mono HB.out.size))
   clear hV s2 c1 c2
   go_wp2
   go_roundw
   case rel=>exact⟨j+1,by omega,by go_num,HB2⟩
   case measure=>simp[intOf];omega
  ·go_wp2
   go_ret
   exact⟨rfl,HB.out⟩
end Go.Proofs.YtaiegpggccdgoaaGreat
namespace Go.Proofs.YtaiegpggccdgoaaGreat
def uZ (i:Nat) (j:Nat):Int:=if j=i then 1 else 0
theorem vD {n i:Nat} (hi:i<n):∀ j,gV (ye n i) j=uZ i j:=fun j=>by
 rw[qq hi];unfold uZ
 by_cases h:i=j
 ·rw[if_pos h,if_pos h.symm]
 ·rw[if_neg h,if_neg (Ne.symm h)]
theorem ya9 {st:List Int} {k q r:Nat} (x:Nat→Int) (hq:q<pw k) (hr:r<pw k):yb st k x (uZ q) r=x (r ^^^ q)*cD st k (r ^^^ q) q:=by
 unfold yb
 rw[yF (r ^^^ q) (yA hr hq) (fun i hi hne=>?_)]
 ·rw[show (r ^^^ q) ^^^ r=q by rw[Nat.xor_comm r q,Nat.xor_assoc,Nat.xor_self,Nat.xor_zero]]
  unfold uZ;rw[if_pos rfl,Int.mul_one]
 ·unfold uZ
  rw[if_neg (fun e=>hne (by rw[← e,Nat.xor_comm i r,← Nat.xor_assoc,Nat.xor_self,Nat.zero_xor])),Int.mul_zero,Int.zero_mul]
theorem yex {st:List Int} {k i r:Nat} (y:Nat→Int) (hi:i<pw k):yb st k (uZ i) y r=y (i ^^^ r)*cD st k i (i ^^^ r):=by
 unfold yb
 rw[yF i hi (fun j hj hne=>by unfold uZ;rw[if_neg hne,Int.zero_mul,Int.zero_mul])]
 unfold uZ;rw[if_pos rfl,Int.one_mul]
theorem yir {st:List Int} {k i q j:Nat} (hq:q<pw k) (hj:j<pw k):yb st k (uZ i) (uZ q) j=cD st k i q*uZ (i ^^^ q) j:=by
 rw[ya9 _ hq hj]
 unfold uZ
 by_cases h0:j=i ^^^ q
 ·subst h0
  rw[show (i ^^^ q) ^^^ q=i by rw[Nat.xor_assoc,Nat.xor_self,Nat.xor_zero],if_pos rfl,if_pos rfl,Int.one_mul,Int.mul_one]
 ·rw[if_neg (fun e=>h0 (by rw[← e,Nat.xor_assoc,Nat.xor_self,Nat.xor_zero])),if_neg h0,Int.zero_mul,Int.mul_zero]
theorem ya8 {p:Int} {k:Nat} (st:List Int) {i:Nat} (hi:i<pw k):(dgL p k st).getD i 0%p=(cjS i*cD st k i i)%p:=by
 unfold dgL vp
 rw[yC hi]
 have h0:=yq k
 have hcl:(yE p (ye (pw k) i)).length=pw k:=by rw[jt,zm]
 have:=ux (p:=p) k st (zm (pw k) i) hcl h0
 unfold gV at this
 rw[this,uz (x':=uZ i) (y':=fun j=>cjS j*uZ i j) (fun b _=>by rw[← vD hi];rfl) (fun b hb=>by rw[js (by rw[zm];exact hb),← vD hi];rfl) h0,yex _ hi,Nat.xor_zero]
 unfold uZ;rw[if_pos rfl,Int.mul_one]
def frmL (p:Int) (k:Nat) (st:List Int) (i j q:Nat):Int:=(2*(dblL p k st (dblL p k st (ye (pw k) i) (ye (pw k) j)) (ye (pw k) q)).getD 0 0)%p
theorem yeZ {p:Int} (hp:0<p) (k:Nat) (st:List Int) (i j q:Nat):0≤frmL p k st i j q∧frmL p k st i j q<p:=⟨Int.emod_nonneg _ (by omega),Int.emod_lt_of_pos _ hp⟩
theorem jO {p:Int} {k:Nat} (st:List Int) {i j q:Nat} (hi:i<pw k) (hj:j<pw k) (hq:q<pw k):frmL p k st i j q%p=(if i ^^^ j=q then fmZ st k i j else 0)%p:=by
 unfold frmL
 rw[yM]
 have h0:=yq k
 have e1:(dblL p k st (dblL p k st (ye (pw k) i) (ye (pw k) j)) (ye (pw k) q)).getD 0 0%p=(cD st k i j*uZ (i ^^^ j) q*cD st k q q)%p:=by
  have:=ux (p:=p) k st (zu p k st (ye (pw k) i) (ye (pw k) j)) (zm (pw k) q) h0
  unfold gV at this
  rw[this,uz (x':=yb st k (uZ i) (uZ j)) (y':=uZ q) (fun b hb=>?_) (fun b _=>by rw[← vD hq];rfl) h0,ya9 _ hq h0,Nat.zero_xor,yir hj hq]
  have:=ux (p:=p) k st (zm (pw k) i) (zm (pw k) j) hb
  unfold gV at this
  rw[this]
  exact uz (fun b _=>by rw[← vD hi];rfl) (fun b _=>by rw[← vD hj];rfl) hb
 rw[xF 2 e1]
 by_cases h:i ^^^ j=q
 ·subst h
  rw[if_pos rfl]
  unfold fmZ uZ
  rw[if_pos rfl,Int.mul_one]
 ·rw[if_neg h]
  unfold uZ
  rw[if_neg (fun e=>h e.symm),Int.mul_zero,Int.zero_mul,Int.mul_zero]
theorem vL (p:Int) {row:List Int} {a N:Nat} (c:Int) (ha:a<N) (hl:row.length=N) (h0:row.getD a 0=0) (v:Nat→Int):(ya N fun q=>(row.set a c).getD q 0*v q)%p=((ya N fun q=>row.getD q 0*v q)+c*v a)%p:=by
 have e:(ya N fun q=>(row.set a c).getD q 0*v q)=(ya N fun q=>row.getD q 0*v q+(if q=a then c*v a else 0)):=yw fun q _=>by
  rw[zv,hl]
  by_cases h:a=q
  ·subst h
   rw[if_pos ⟨rfl,ha⟩,if_pos rfl,h0];omega
  ·rw[if_neg (fun h'=>h h'.1),if_neg (fun h'=>h h'.symm)];omega
 rw[e,z5,yF (f:=fun q=>if q=a then c*v a else 0) a ha (fun q _ hq=>if_neg hq),if_pos rfl]
theorem uY (N M:Nat) (v:Nat→Int):(ya N fun q=>(List.replicate M (0:Int)).getD q 0*v q)=0:=zl (fun a _=>by
 by_cases h:a<M
 ·rw[yc 0 (by simpa using h)];simp
 ·rw[vR 0 (by simp;omega)];simp)
def vf (p:Int) (n:Nat) (dg:List Int) (part i q:Nat):List Int:=
 zn p ((List.replicate (3*(n*n)) 0).set (part*(n*n)+(i*n+q)) (dg.getD i 0)) (part*(n*n)+(q*n+i)) (dg.getD q 0)
def xT (n:Nat) (dg:List Int) (part i q:Nat):List Int:=
 ((List.replicate (3*(n*n)) 0).set (part*(n*n)+(i*n+q)) (dg.getD i 0)).set (part*(n*n)+(q*n+i)) (dg.getD q 0)
def zc (p:Int) (n:Nat) (F:Nat→Nat→Nat→Int) (i j q:Nat):Nat→List Int
 | 0=>List.replicate (3*(n*n)) 0
 | r+1=>zn p (zn p (zn p (zc p n F i j q r) (r*n+i) (F r j q)) (n*n+(r*n+j)) (F i r q)) (2*(n*n)+(r*n+q)) (F i j r)
def frmS (p:Int) (P:List (List Int)) (i j:Nat):Int:=(2*ent P i j*ent P (i ^^^ j) (i ^^^ j))%p
def xD (p:Int) (n:Nat) (P:List (List Int)) (i j q:Nat):List Int:=
 (((List.replicate (3*(n*n)) 0).set ((j ^^^ q)*n+i) (frmS p P (j ^^^ q) j)).set (n*n+((i ^^^ q)*n+j)) (frmS p P i (i ^^^ q))).set (2*(n*n)+((i ^^^ j)*n+q)) (frmS p P i j)
theorem yhi (p:Int) (n:Nat) (dg:List Int) (part i q:Nat):(vf p n dg part i q).length=3*(n*n):=by unfold vf;rw[vx,List.length_set,List.length_replicate]
theorem yhg (n:Nat) (dg:List Int) (part i q:Nat):(xT n dg part i q).length=3*(n*n):=by unfold xT;rw[List.length_set,List.length_set,List.length_replicate]
theorem uD (p:Int) (n:Nat) (F:Nat→Nat→Nat→Int) (i j q:Nat):∀ r,(zc p n F i j q r).length=3*(n*n)
 | 0=>List.length_replicate
 | r+1=>by unfold zc;rw[vx,vx,vx,uD p n F i j q r]
theorem yeV (p:Int) (n:Nat) (P:List (List Int)) (i j q:Nat):(xD p n P i j q).length=3*(n*n):=by unfold xD;simp
theorem yhj {p:Int} (hp:0<p) (n:Nat) {dg:List Int} (hd:NumsL p dg) (part i q:Nat):NumsL p (vf p n dg part i q):=vj hp ((NumsL.replicate hp _).set _ (hd.getD hp i)) _ _
theorem yhh {p:Int} (hp:0<p) (n:Nat) {dg:List Int} (hd:NumsL p dg) (part i q:Nat):NumsL p (xT n dg part i q):=((NumsL.replicate hp _).set _ (hd.getD hp i)).set _ (hd.getD hp q)
theorem jK {p:Int} (hp:0<p) (n:Nat) (F:Nat→Nat→Nat→Int) (i j q:Nat):∀ r,NumsL p (zc p n F i j q r)
 | 0=>NumsL.replicate hp _
 | r+1=>vj hp (vj hp (vj hp (jK hp n F i j q r) _ _) _ _) _ _
theorem jQ {p:Int} (hp:0<p) (P:List (List Int)) (i j:Nat):0≤frmS p P i j∧frmS p P i j<p:=⟨Int.emod_nonneg _ (by omega),Int.emod_lt_of_pos _ hp⟩
theorem yeW {p:Int} (hp:0<p) (n:Nat) (P:List (List Int)) (i j q:Nat):NumsL p (xD p n P i j q):=(((NumsL.replicate hp _).set _ (jQ hp P _ _)).set _ (jQ hp P _ _)).set _ (jQ hp P _ _)
theorem at3 {n part a b:Nat} (hp:part<3) (ha:a<n) (hb:b<n):part*(n*n)+(a*n+b)<3*(n*n):=by
 have h1:=u7 ha hb
 have h2:=Nat.mul_le_mul_right (n*n) (show part+1≤3 by omega)
 rw[Nat.add_mul,Nat.one_mul]at h2;omega
theorem ycT {p:Int} {n:Nat} (dg:List Int) {part i q:Nat} (hpt:part<3) (hi:i<n) (hq:q<n) (v:Nat→Int):(ya (3*(n*n)) fun a=>(vf p n dg part i q).getD a 0*v a)%p=(v (part*(n*n)+(i*n+q))*dg.getD i 0+v (part*(n*n)+(q*n+i))*dg.getD q 0)%p:=by
 unfold vf
 rw[u6 p _ (at3 hpt hq hi) (by rw[List.length_set,List.length_replicate]),Int.add_emod,vL p _ (at3 hpt hi hq) List.length_replicate (by rw[yc 0 (by simpa using at3 hpt hi hq)];simp),← Int.add_emod,uY]
 congr 1
 rw[Int.mul_comm (dg.getD i 0),Int.mul_comm (dg.getD q 0)];omega
theorem ygo {n a b c d:Nat} (hb:b<n) (hd:d<n) (h:a*n+b=c*n+d):a=c∧b=d:=by
 have hn:0<n:=by omega
 have e1:(a*n+b) / n=a:=by rw[Nat.mul_comm,Nat.mul_add_div hn,Nat.div_eq_of_lt hb,Nat.add_zero]
 have e2:(c*n+d) / n=c:=by rw[Nat.mul_comm,Nat.mul_add_div hn,Nat.div_eq_of_lt hd,Nat.add_zero]
 have:a=c:=by rw[← e1,h,e2]
 subst this
 exact⟨rfl,by omega⟩
theorem yhf {p:Int} {n:Nat} (dg:List Int) {part i q:Nat} (hpt:part<3) (hi:i<n) (hq:q<n) (v:Nat→Int):(ya (3*(n*n)) fun a=>(xT n dg part i q).getD a 0*v a)%p=(if i=q then v (part*(n*n)+(i*n+i))*dg.getD i 0 else v (part*(n*n)+(i*n+q))*dg.getD i 0+v (part*(n*n)+(q*n+i))*dg.getD q 0)%p:=by
 unfold xT
 by_cases h:i=q
 ·subst h
  rw[if_pos rfl,List.set_set,vL p _ (at3 hpt hi hi) List.length_replicate (by rw[yc 0 (by simpa using at3 hpt hi hi)];simp),uY,Int.zero_add,Int.mul_comm]
 ·rw[if_neg h]
  have h0:∀ a,a<3*(n*n)→(List.replicate (3*(n*n)) (0:Int)).getD a 0=0:=fun a ha=>by rw[yc 0 (by simpa using ha)];simp
  have hne:part*(n*n)+(i*n+q)≠part*(n*n)+(q*n+i):=fun e=>h (ygo hq hi (by omega)).1
  rw[vL p _ (at3 hpt hq hi) (by simp) (by rw[zv,if_neg (fun e=>hne e.1)];exact h0 _ (at3 hpt hq hi)),Int.add_emod,vL p _ (at3 hpt hi hq) (by simp) (h0 _ (at3 hpt hi hq)),← Int.add_emod,uY]
  congr 1
  rw[Int.mul_comm (dg.getD i 0),Int.mul_comm (dg.getD q 0)];omega
theorem jJ {p:Int} {n:Nat} (F:Nat→Nat→Nat→Int) {i j q:Nat} (hi:i<n) (hj:j<n) (hq:q<n) (v:Nat→Int):∀ r,r≤n→(ya (3*(n*n)) fun a=>(zc p n F i j q r).getD a 0*v a)%p=(ya r fun s=>F s j q*v (s*n+i)+F i s q*v (n*n+(s*n+j))+F i j s*v (2*(n*n)+(s*n+q)))%p
 | 0,_=>by unfold zc;rw[uY];rfl
 | r+1,hr=>by
  have hr':r<n:=by omega
  have a1:r*n+i<3*(n*n):=by have:=at3 (part:=0) (by omega) hr' hi;omega
  have a2:n*n+(r*n+j)<3*(n*n):=by have:=at3 (part:=1) (by omega) hr' hj;omega
  have a3:=at3 (part:=2) (by omega) hr' hq
  unfold zc
  rw[u6 p _ a3 (by rw[vx,vx,uD]),Int.add_emod,u6 p _ a2 (by rw[vx,uD]),← Int.add_emod,Int.add_assoc,Int.add_emod,u6 p _ a1 (uD _ _ _ _ _ _ _),← Int.add_emod,Int.add_assoc,Int.add_emod,jJ F hi hj hq v r (by omega),← Int.add_emod,y8]
  congr 1;omega
theorem yeU {p:Int} {n:Nat} (P:List (List Int)) (hx:∀ a b,a<n→b<n→a ^^^ b<n) {i j q:Nat} (hi:i<n) (hj:j<n) (hq:q<n) (v:Nat→Int):(ya (3*(n*n)) fun a=>(xD p n P i j q).getD a 0*v a)%p=(frmS p P (j ^^^ q) j*v ((j ^^^ q)*n+i)+frmS p P i (i ^^^ q)*v (n*n+((i ^^^ q)*n+j))+frmS p P i j*v (2*(n*n)+((i ^^^ j)*n+q)))%p:=by
 have h0:∀ a,a<3*(n*n)→(List.replicate (3*(n*n)) (0:Int)).getD a 0=0:=fun a ha=>by rw[yc 0 (by simpa using ha)];simp
 have b1:=u7 (hx _ _ hj hq) hi
 have b2:=u7 (hx _ _ hi hq) hj
 have b3:=u7 (hx _ _ hi hj) hq
 unfold xD
 rw[vL p _ (by omega) (by simp) (by rw[zv,if_neg (fun e=>by have:=e.1;omega),zv,if_neg (fun e=>by have:=e.1;omega)];exact h0 _ (by omega)),Int.add_emod,vL p _ (by omega) (by simp) (by rw[zv,if_neg (fun e=>by have:=e.1;omega)];exact h0 _ (by omega)),← Int.add_emod,Int.add_assoc,Int.add_emod,vL p _ (by omega) (by simp) (h0 _ (by omega)),← Int.add_emod,uY]
 congr 1;omega
def fm {α:Type}:Nat→(Nat→List α)→List α
 | 0,_=>[]
 | n+1,G=>fm n G++G n
theorem vB {α:Type} (n:Nat) (G:Nat→List α):fm (n+1) G=fm n G++G n:=rfl
theorem ycj {α:Type} {G:Nat→List α} {x:α}:∀ {n:Nat},x∈fm n G ↔ ∃ i,i<n∧x∈G i
 | 0=>by simp[fm]
 | n+1=>by
  rw[vB,List.mem_append,ycj]
  constructor
  ·rintro (⟨i,h1,h2⟩ | h)
   ·exact⟨i,by omega,h2⟩
   ·exact⟨n,by omega,h⟩
  ·rintro ⟨i,h1,h2⟩
   by_cases h:i<n
   ·exact .inl ⟨i,h,h2⟩
   ·obtain rfl:i=n:=by omega
    exact .inr h2
theorem ygm {α:Type} {n:Nat} {f:Nat→α} {x:α}:x∈tab n f ↔ ∃ i,i<n∧x=f i:=⟨ui,fun ⟨i,h,e⟩=>by subst e;unfold tab;exact List.mem_map.2 ⟨i,List.mem_range.2 h,rfl⟩⟩
def locL (n:Nat) (S:Nat→Nat→Nat→List Int) (R:Nat→Nat→Nat→List Int):List (List Int):=
 (fm 3 fun part=>fm n fun i=>tab (i+1) (S part i))++fm n fun i=>fm n fun j=>tab n (R i j)
theorem vr {n:Nat} {S R:Nat→Nat→Nat→List Int} {x:List Int}:x∈locL n S R↔(∃ part i q,part<3∧i<n∧q≤i∧x=S part i q) ∨ ∃ i j q,i<n∧j<n∧q<n∧x=R i j q:=by
 unfold locL
 simp only[List.mem_append,ycj,ygm]
 constructor
 ·rintro (⟨part,h1,i,h2,q,h3,rfl⟩ | ⟨i,h1,j,h2,q,h3,rfl⟩)
  ·exact .inl ⟨part,i,q,h1,h2,by omega,rfl⟩
  ·exact .inr ⟨i,j,q,h1,h2,h3,rfl⟩
 ·rintro (⟨part,i,q,h1,h2,h3,rfl⟩ | ⟨i,j,q,h1,h2,h3,rfl⟩)
  ·exact .inl ⟨part,h1,i,h2,q,by omega,rfl⟩
  ·exact .inr ⟨i,h1,j,h2,q,h3,rfl⟩
theorem ycf {p:Int} {n m:Nat} {S R:Nat→Nat→Nat→List Int} (h1:∀ part i q,(S part i q).length=m∧NumsL p (S part i q)) (h2:∀ i j q,(R i j q).length=m∧NumsL p (R i j q)):Tab p m (locL n S R):=fun x hx=>by
 rcases vr.1 hx with ⟨a,b,c, -, -, -,rfl⟩ | ⟨a,b,c, -, -, -,rfl⟩
 ·exact h1 a b c
 ·exact h2 a b c
theorem yag {p:Int} {n:Nat} {m:List (List Int)} {v:Nat→Int}:Orth p n m v ↔ ∀ x∈m,(ya n fun a=>x.getD a 0*v a)%p=0:=by
 constructor
 ·intro h x hx
  obtain⟨i,hi,rfl⟩:=List.getElem_of_mem hx
  have:=h i hi
  unfold ent at this
  rw[yc [] hi]at this
  exact this
 ·intro h i hi
  have:=h _ (List.getElem_mem hi)
  unfold ent
  rw[yc [] hi]
  exact this
def locP (p:Int) (k:Nat) (st:List Int):List (List Int):=locL (pw k) (fun part i q=>vf p (pw k) (dgL p k st) part i q) fun i j q=>zc p (pw k) (frmL p k st) i j q (pw k)
def locS (p:Int) (k:Nat) (st:List Int):List (List Int):=locL (pw k) (fun part i q=>xT (pw k) (dgL p k st) part i q) fun i j q=>xD p (pw k) (xN p k st) i j q
theorem ua {p:Int} (hp:0<p) (k:Nat) (st:List Int):Tab p (3*(pw k*pw k)) (locP p k st):=ycf (fun _ _ _=>⟨yhi _ _ _ _ _ _,yhj hp _ (vn hp k st) _ _ _⟩) (fun _ _ _=>⟨uD _ _ _ _ _ _ _,jK hp _ _ _ _ _ _⟩)
theorem qE {p:Int} (hp:0<p) (k:Nat) (st:List Int):Tab p (3*(pw k*pw k)) (locS p k st):=ycf (fun _ _ _=>⟨yhg _ _ _ _ _,yhh hp _ (vn hp k st) _ _ _⟩) (fun _ _ _=>⟨yeV _ _ _ _ _ _,yeW hp _ _ _ _ _⟩)
theorem qY {p:Int} (hP:isP p=true) {x:Int}:(x+x)%p=0↔x%p=0:=by
 obtain⟨h3,h13⟩:=yk hP
 constructor
 ·intro h
  obtain⟨c,hc⟩:=Int.dvd_of_emod_eq_zero h
  have hodd:∃ m,p=2*m+1:=⟨p / 2,by simp[isP]at hP;omega⟩
  obtain⟨m,hm⟩:=hodd
  refine Int.emod_eq_zero_of_dvd ⟨x-m*c,?_⟩
  have e:p*c=2*(m*c)+c:=by rw[hm,Int.add_mul,Int.one_mul,Int.mul_assoc]
  have e2:p*(x-m*c)=p*x-p*(m*c):=Int.mul_sub _ _ _
  have e3:p*x=2*(m*x)+x:=by rw[hm,Int.add_mul,Int.one_mul,Int.mul_assoc]
  have e4:p*(m*c)=m*(p*c):=by ac_rfl
  have e5:m*(p*c)=m*(x+x):=by rw[hc]
  have e6:m*(x+x)=2*(m*x):=by rw[Int.mul_add];omega
  omega
 ·intro h
  obtain⟨c,hc⟩:=Int.dvd_of_emod_eq_zero h
  exact Int.emod_eq_zero_of_dvd ⟨c+c,by rw[Int.mul_add,← hc]⟩
theorem jz {p:Int} {k:Nat} (st:List Int) {i:Nat} (hi:i<pw k) (y:Int):(y*(dgL p k st).getD i 0)%p=(y*dgZ st k i)%p:=xF _ (ya8 st hi)
theorem uP {p:Int} {k:Nat} (st:List Int) {i q:Nat} (hi:i<pw k) (hq:q<pw k) (x y:Int):(x*(dgL p k st).getD i 0+y*(dgL p k st).getD q 0)%p=(x*dgZ st k i+y*dgZ st k q)%p:=zo (jz st hi x) (jz st hq y)
theorem ybt {p:Int} {k:Nat} (st:List Int) {i j q:Nat} (hi:i<pw k) (hj:j<pw k) (hq:q<pw k) (v:Nat→Int):(ya (pw k) fun s=>frmL p k st s j q*v (s*pw k+i)+frmL p k st i s q*v (pw k*pw k+(s*pw k+j))+frmL p k st i j s*v (2*(pw k*pw k)+(s*pw k+q)))%p=(v ((j ^^^ q)*pw k+i)*fmZ st k (j ^^^ q) j+v (pw k*pw k+((i ^^^ q)*pw k+j))*fmZ st k i (i ^^^ q)+v (2*(pw k*pw k)+((i ^^^ j)*pw k+q))*fmZ st k i j)%p:=by
 have x1:∀ s,s ^^^ j=q→s=j ^^^ q:=fun s e=>by rw[← e,Nat.xor_comm j,Nat.xor_assoc,Nat.xor_self,Nat.xor_zero]
 have x2:∀ s,i ^^^ s=q→s=i ^^^ q:=fun s e=>by rw[← e,← Nat.xor_assoc,Nat.xor_self,Nat.zero_xor]
 have y1:(j ^^^ q) ^^^ j=q:=by rw[Nat.xor_comm j q,Nat.xor_assoc,Nat.xor_self,Nat.xor_zero]
 have y2:i ^^^ (i ^^^ q)=q:=by rw[← Nat.xor_assoc,Nat.xor_self,Nat.zero_xor]
 rw[z5,z5]
 refine zo (zo ?_ ?_) ?_
 ·rw[yW p (g:=fun s=>if s=j ^^^ q then v ((j ^^^ q)*pw k+i)*fmZ st k (j ^^^ q) j else 0) (fun s hs=>?_),yF (j ^^^ q) (yA hj hq) (fun s _ h=>if_neg h),if_pos rfl]
  rw[z3 _ (jO st hs hj hq)]
  by_cases h:s=j ^^^ q
  ·subst h
   rw[if_pos y1,if_pos rfl,Int.mul_comm]
  ·rw[if_neg (fun e=>h (x1 s e)),if_neg h,Int.zero_mul]
 ·rw[yW p (g:=fun s=>if s=i ^^^ q then v (pw k*pw k+((i ^^^ q)*pw k+j))*fmZ st k i (i ^^^ q) else 0) (fun s hs=>?_),yF (i ^^^ q) (yA hi hq) (fun s _ h=>if_neg h),if_pos rfl]
  rw[z3 _ (jO st hi hs hq)]
  by_cases h:s=i ^^^ q
  ·subst h
   rw[if_pos y2,if_pos rfl,Int.mul_comm]
  ·rw[if_neg (fun e=>h (x2 s e)),if_neg h,Int.zero_mul]
 ·rw[yW p (g:=fun s=>if s=i ^^^ j then v (2*(pw k*pw k)+((i ^^^ j)*pw k+q))*fmZ st k i j else 0) (fun s hs=>?_),yF (i ^^^ j) (yA hi hj) (fun s _ h=>if_neg h),if_pos rfl]
  rw[z3 _ (jO st hi hj hs)]
  by_cases h:s=i ^^^ j
  ·subst h
   rw[if_pos rfl,if_pos rfl,Int.mul_comm]
  ·rw[if_neg (fun e=>h e.symm),if_neg h,Int.zero_mul]
theorem qD {p:Int} (k:Nat) (st:List Int) (v:Nat→Int):Orth p (3*(pw k*pw k)) (locP p k st) v↔LocEq p st k v:=by
 rw[yag]
 constructor
 ·intro h
  have hs:∀ part i q,part<3→i<pw k→q≤i→(v (part*(pw k*pw k)+(i*pw k+q))*dgZ st k i+v (part*(pw k*pw k)+(q*pw k+i))*dgZ st k q)%p=0:=fun part i q h1 h2 h3=>by
   have:=h _ (vr.2 (.inl ⟨part,i,q,h1,h2,h3,rfl⟩))
   rwa [ycT _ h1 h2 (by omega),uP st h2 (by omega)]at this
  refine⟨fun part i q h1 h2 h3=>Int.dvd_of_emod_eq_zero ?_,fun i j q hi hj hq=>Int.dvd_of_emod_eq_zero ?_⟩
  ·by_cases hle:q≤i
   ·exact hs part i q h1 h2 hle
   ·have:=hs part q i h1 h3 (by omega)
    rwa [Int.add_comm]at this
  ·have:=h _ (vr.2 (.inr ⟨i,j,q,hi,hj,hq,rfl⟩))
   rwa [jJ _ hi hj hq v _ (Nat.le_refl _),ybt st hi hj hq]at this
 ·rintro ⟨h1,h2⟩ x hx
  rcases vr.1 hx with ⟨part,i,q,a1,a2,a3,rfl⟩ | ⟨i,j,q,a1,a2,a3,rfl⟩
  ·rw[ycT _ a1 a2 (by omega),uP st a2 (by omega)]
   exact Int.emod_eq_zero_of_dvd (h1 part i q a1 a2 (by omega))
  ·rw[jJ _ a1 a2 a3 v _ (Nat.le_refl _),ybt st a1 a2 a3]
   exact Int.emod_eq_zero_of_dvd (h2 i j q a1 a2 a3)
theorem jP {p:Int} (hp:0<p) {k:Nat} (st:List Int) {i j:Nat} (hi:i<pw k) (hj:j<pw k) (y:Int):(frmS p (xN p k st) i j*y)%p=(y*fmZ st k i j)%p:=by
 have hx:=yA hi hj
 rw[Int.mul_comm]
 refine xF y ?_
 unfold frmS fmZ
 rw[yM,ycD hp st hi hj,ycD hp st hx hx,Int.mul_assoc]
 exact xF 2 (z7 (yM p _) (yM p _))
theorem yaa {p:Int} (hP:isP p=true) (k:Nat) (st:List Int) (v:Nat→Int):Orth p (3*(pw k*pw k)) (locS p k st) v↔LocEq p st k v:=by
 have hp:0<p:=by have:=yk hP;omega
 have hx:∀ a b,a<pw k→b<pw k→a ^^^ b<pw k:=fun a b=>yA
 have key:∀ part i q,part<3→i<pw k→q≤i→((ya (3*(pw k*pw k)) fun a=>(xT (pw k) (dgL p k st) part i q).getD a 0*v a)%p=0↔(v (part*(pw k*pw k)+(i*pw k+q))*dgZ st k i+v (part*(pw k*pw k)+(q*pw k+i))*dgZ st k q)%p=0):=fun part i q h1 h2 h3=>by
  rw[yhf _ h1 h2 (show q<pw k by omega)]
  by_cases h:i=q
  ·subst h
   rw[if_pos rfl,qY hP,jz st h2]
  ·rw[if_neg h,uP st h2 (by omega)]
 have kf:∀ i j q,i<pw k→j<pw k→q<pw k→(ya (3*(pw k*pw k)) fun a=>(xD p (pw k) (xN p k st) i j q).getD a 0*v a)%p=(v ((j ^^^ q)*pw k+i)*fmZ st k (j ^^^ q) j+v (pw k*pw k+((i ^^^ q)*pw k+j))*fmZ st k i (i ^^^ q)+v (2*(pw k*pw k)+((i ^^^ j)*pw k+q))*fmZ st k i j)%p:=fun i j q hi hj hq=>by
  rw[yeU _ hx hi hj hq]
  exact zo (zo (jP hp st (hx _ _ hj hq) hj _) (jP hp st hi (hx _ _ hi hq) _)) (jP hp st hi hj _)
 rw[yag]
 constructor
 ·intro h
  have hs:∀ part i q,part<3→i<pw k→q≤i→(v (part*(pw k*pw k)+(i*pw k+q))*dgZ st k i+v (part*(pw k*pw k)+(q*pw k+i))*dgZ st k q)%p=0:=fun part i q h1 h2 h3=>(key part i q h1 h2 h3).1 (h _ (vr.2 (.inl ⟨part,i,q,h1,h2,h3,rfl⟩)))
  refine⟨fun part i q h1 h2 h3=>Int.dvd_of_emod_eq_zero ?_,fun i j q hi hj hq=>Int.dvd_of_emod_eq_zero ?_⟩
  ·by_cases hle:q≤i
   ·exact hs part i q h1 h2 hle
   ·have:=hs part q i h1 h3 (by omega)
    rwa [Int.add_comm]at this
  ·have:=h _ (vr.2 (.inr ⟨i,j,q,hi,hj,hq,rfl⟩))
   rwa [kf i j q hi hj hq]at this
 ·rintro ⟨h1,h2⟩ x hx
  rcases vr.1 hx with ⟨part,i,q,a1,a2,a3,rfl⟩ | ⟨i,j,q,a1,a2,a3,rfl⟩
  ·exact (key part i q a1 a2 a3).2 (Int.emod_eq_zero_of_dvd (h1 part i q a1 a2 (by omega)))
  ·rw[kf i j q a1 a2 a3]
   exact Int.emod_eq_zero_of_dvd (h2 i j q a1 a2 a3)
theorem ygc {p:Int} (hP:isP p=true) {st:List Int} {k:Nat} (hk:k≤3) (hst:∀ b,b<k→st.getD b 0%p≠0):(yI p (locS p k st) (3*(pw k*pw k))).length=locN k:=
 ygd hP hk hst (qE (by have:=yk hP;omega) k st) fun v=>yaa hP k st v
end Go.Proofs.YtaiegpggccdgoaaGreat
namespace Go.Proofs.YtaiegpggccdgoaaGreat
open Go Go.RowKit
section
variable {P:Program}
theorem yiv {ops:Array Oper} {rest:List Oper} {o:Oper} {a:Act} {Q:Exit→Act→World→Prop} (w0 wr:World)
 (hgd:o.guard=none) (s x:Operand) (ho:o.op=.call { callee:=.builtin .append,args:=#[s,x],argTypes:=#[32,32] })
 (A:Option Addr) (n c:Nat) (us:List Value) (B:Option Addr) (m d:Nat) (vs:List Value) (hM:Mk w0 wr 24 A n c us) (hY:Rd wr B m vs) (hv:∀ v∈vs,v.oneCell'=true) (h0:0<m) (hn:n≤65536) (hm:m≤65536)
 (hs:a.eval s=.slice A n c) (hx:a.eval x=.slice B m d)
 (h:∀ A' c' w',Mk w0 w' 24 A' (n+m) c' (us++vs)→wr.grownBy w' (Value.slice A n c).ownBlock→wpList Tryz.prog ops Q rest (a.put o.dst (.slice A' (n+m) c')) w') :
 wpList Tryz.prog ops Q (o::rest) a wr:=by
 obtain⟨i,hi,h1,h2,h3⟩:=info_parts zy
 obtain⟨b1,b2⟩:=xh (show n+m≤1099511627776 by omega)
 have hyl:vs.length=m:=hY.1
 obtain⟨g,o',rfl,hc⟩:=hY.2 h0
 refine wpList_append_own_at wr hgd s x 32 ho w0.heap.size 24 i _ 1 24 Tryz.underlying32 hi h1 h2 h3 rfl (by omega) (.slice A n c) n us hs hM.2 ⟨g,o',none⟩ m d vs hx (by rw[hyl,Nat.mul_one]) (fun j u hu=>by rw[Addr.add_lit];exact hc j u hu) hv (by simp only[maxLen];omega) (by have:=b2 24 (by omega);omega) hM.1.size ?_
 intro v' w' hown hg _ _
 have hb':Below w0.heap.size w0 w':=hM.1.grown hg hM.1.size (fun k hk=>(hM.2.lt k hk).1)
 rcases hown.2 with ⟨_,h0⟩ | ⟨g,cap,cur,rfl,hr⟩
 ·omega
 ·exact h _ _ _ ⟨hb',hown⟩ hg
end
def RdVV (w:World) (A:Option Addr) (n:Nat) (vss:List (List Value)):Prop:=∃ rows,Rd w A n rows∧rows.length=vss.length ∧
 ∀ (k:Nat) (h:k<vss.length),∃ A' c',rows[k]? = some (.slice A' vss[k].length c')∧Rd w A' vss[k].length vss[k]
theorem RdVV.len {w:World} {A:Option Addr} {n:Nat} {vss:List (List Value)} (h:RdVV w A n vss):vss.length=n:=by obtain⟨rows,hr,hl,_⟩:=h;rw[← hl];exact hr.1
theorem RdVV.below {w w':World} {A:Option Addr} {n:Nat} {vss:List (List Value)} (h:RdVV w A n vss) (hb:Below w.heap.size w w'):RdVV w' A n vss:=by
 obtain⟨rows,hr,hl,hk⟩:=h
 exact⟨rows,hr.below hb,hl,fun k h=>by obtain⟨A',c',e,h1⟩:=hk k h;exact⟨A',c',e,h1.below hb⟩⟩
theorem RdVV.at_ {w:World} {A:Option Addr} {n:Nat} {vss:List (List Value)} (h:RdVV w A n vss) {k:Nat} (hk:k<n):∃ g o,A=some ⟨g,o,none⟩ ∧ ∃ (hx:k<vss.length) (A':Option Addr) (c':Nat),w.cell? ⟨g,o+k,none⟩=some (.slice A' vss[k].length c')∧Rd w A' vss[k].length vss[k]:=by
 obtain⟨rows,hr,hl,hrow⟩:=h
 have hxl:k<vss.length:=by rw[← hl,hr.1];exact hk
 obtain⟨g,o,rfl,hc⟩:=hr.2 (by omega)
 obtain⟨A',c',e,h1⟩:=hrow k hxl
 exact⟨g,o,rfl,hxl,A',c',hc k _ e,h1⟩
set_option maxHeartbeats 800000 in
set_option maxRecDepth 8000 in
theorem ye3 (n:Nat) (w:World) (h0:0<n) (hn:n≤65536) :
 Calls Tryz.prog 149 #[.slice none 0 0,.int .i64 n] w fun e w'=>∃ A c,e=.returned (.slice A 0 c)∧Mk w w' 24 A 0 c []:=by
 obtain⟨i,hi,h1,h2,h3⟩:=info_parts zy
 have hrz:=fun ty=>Lib.run_append_nil_zeros (P:=Tryz.prog) w 32 3 ty 24 i (.slice none 0 0) .i64 .i64 Tryz.underlying32 Tryz.underlying3 hi h1 n h0 (by omega) (by omega) (by rw[h3];omega)
 have hge:=grownCap_ge w n 0 24
 have hle:=grownCap_le_maxLen w n 0 24 (by simp only[maxLen];omega)
 obtain⟨G,hG⟩:∃ G,G=grownCap w n 0 24:=⟨_,rfl⟩
 rw[← hG]at hrz hge hle
 obtain⟨Z,hZ⟩:∃ Z,Z=Builtin.zeroCells (Value.slice none 0 0).cells n++Builtin.zeroCells (Value.slice none 0 0).cells (G-n):=⟨_,rfl⟩
 rw[← hZ]at hrz
 have hZs:Z.size=G:=by rw[hZ];simp[size_zeroCells,Value.cells];omega
 have hO:=World.ownsRow_made (base:=w.heap.size) (e:=24) (size:=1) w.drew Z G (Nat.le_refl _) hle (by omega)
 have hM:Mk w (w.drew.alloc (.cells Z 24)) 24 (some ⟨w.heap.size,0,none⟩) 0 G []:=⟨(⟨rfl,rfl,rfl,Nat.le_refl _,fun _ _=>rfl⟩:Below w.heap.size w w.drew).alloc (Nat.le_refl _) _,hO⟩
 have hG2:G≤9223372036854775807:=by unfold maxLen at hle;omega
 have t1:¬ ((n:Int)<0):=by omega
 clear hZ hG hZs hO hle
 go_enter Tryz.func149,Tryz.ntmps149
 go_wp2_with (at_builtin;refine Lib.wpList_append_run _ rfl _ _ _ _ rfl _ _ rfl rfl _ _ (hrz _) ?_)
 go_ret
 exact⟨_,_,rfl,hM⟩
theorem jI {M:List (List Value)} {k:Nat} (h:k<M.length):(M.take (k+1)).flatten=(M.take k).flatten++M[k]:=by
 rw[List.take_succ_eq_append_getElem h,List.flatten_append,List.flatten_cons,List.flatten_nil,List.append_nil]
theorem yeT {M:List (List Value)} {b:Nat} (h:∀ r∈M,r.length≤b):∀ k,(M.take k).flatten.length≤k*b:=by
 intro k
 induction k with
 | zero=>simp
 | succ k ih=>
  by_cases hk:k<M.length
  ·rw[jI hk,List.length_append]
   have:=h M[k] (List.getElem_mem hk)
   rw[Nat.add_mul];omega
  ·rw[List.take_of_length_le (by omega)]at ih ⊢
   rw[Nat.add_mul];omega
set_option maxHeartbeats 6400000 in
set_option maxRecDepth 8000 in
theorem yel (A:Option Addr) (n c:Nat) (M:List (List Value)) (w:World) (h0:0<n) (hn:n≤64) (ha:RdVV w A n M) (hr:∀ r∈M,(0<r.length∧r.length≤1000) ∧ ∀ v∈r,v.oneCell'=true) :
 Calls Tryz.prog 116 #[.slice A n c] w fun e w'=>∃ A' c',e=.returned (.slice A' M.flatten.length c')∧Mk w w' 24 A' M.flatten.length c' M.flatten:=by
 have HR:=Lib.hid hr
 have HL:=Lib.hid ha.len
 have HF:=Lib.hid (yeT (M:=M) (b:=1000) fun r h=>(hr r h).1.2)
 have hpos:0<M.flatten.length:=by
  cases M with
  | nil=>have:=ha.len;simp at this;omega
  | cons r M=>rw[List.flatten_cons,List.length_append];have:=(hr r (by simp)).1.1;omega
 have hle:M.flatten.length≤64000:=by
  have:=HF.out n
  rw[List.take_of_length_le (by rw[HL.out];omega)]at this
  omega
 obtain⟨T,hT⟩:∃ T,T=M.flatten.length:=⟨_,rfl⟩
 have HT:=Lib.hid hT
 rw[← hT]at hpos hle ⊢
 have hgr:=fun w'=>ye3 T w' hpos (by omega)
 clear hr hT
 go_enter Tryz.func116,Tryz.ntmps116
 go_wp2
 go_loopw [3,11] (fun s i wr=>∃ (k z:Nat),k≤n∧i=.int .i64 k∧s=.int .i64 z∧z=(M.take k).flatten.length∧w=wr) (fun _ i _=>n-(intOf i).toNat)
 case atStart=>exact⟨0,0,by omega,rfl,rfl,rfl,rfl⟩
 case round=>
  obtain⟨k,z,hk,rfl,rfl,hz,rfl⟩:=hrel
  have HZ:=Lib.hid hz
  have hz2:=HF.out k
  rw[← hz]at hz2
  have hz3:z≤64000:=by omega
  clear hz hz2
  by_cases hlt:k<n
  ·obtain⟨g,o,rfl,hx,A1,c1,hc1,hr1⟩:=ha.at_ hlt
   have hl:=(HR.out M[k] (List.getElem_mem hx)).1.2
   have HS:Hid ((M.take (k+1)).flatten.length=z+M[k].length):=Lib.hid (by rw[jI hx,List.length_append,← HZ.out])
   obtain⟨q,hq⟩:∃ q,q=M[k].length:=⟨_,rfl⟩
   rw[← hq]at hc1 hl HS
   clear hr1 hq
   have e1:IntKind.i64.wrap ((z:Int)+(q:Int))=((z+q:Nat):Int):=by rw[yi _ (by omega) (by omega)];omega
   have t1:¬ (((z+q:Nat):Int)<0):=by omega
   go_wp2
   go_roundw
   case rel=>exact⟨k+1,z+q,by omega,by go_num,rfl,HS.out.symm,by first | rfl | trivial⟩
   case measure=>simp[intOf];omega
  ·obtain rfl:k=n:=by omega
   obtain rfl:z=T:=by rw[HZ.out,HT.out,List.take_of_length_le (by rw[HL.out];omega)]
   go_wp2_with fail
   refine (hgr _).mono ?_
   rintro e w1 ⟨A0,c0,rfl,hM0⟩
   go_wp2
   clear hgr
   go_loopw [6,27] (fun s i wr=>∃ (j z:Nat) (B:Option Addr) (d:Nat),j≤k∧i=.int .i64 j∧s=.slice B z d∧z=(M.take j).flatten.length∧Mk w wr 24 B z d (M.take j).flatten) (fun _ i _=>k-(intOf i).toNat)
   case atStart=>exact⟨0,0,_,_,by omega,rfl,rfl,rfl,by simpa using hM0⟩
   case round=>
    obtain⟨j,y,B,d,hj,rfl,rfl,hy,hM⟩:=hrel
    have HY:=Lib.hid hy
    have hy2:=HF.out j
    rw[← hy]at hy2
    have hy3:y≤64000:=by omega
    clear hy hy2
    by_cases hjt:j<k
    ·have hb1:Below w.heap.size w wr:=hM.b
     obtain⟨g,o,rfl,hx,A1,c1,hc1,hr1⟩:=(ha.below hb1).at_ hjt
     obtain⟨⟨hl0,hl⟩,hv1⟩:=HR.out M[j] (List.getElem_mem hx)
     have HV1:=Lib.hid hv1
     clear hv1
     have HS:Hid ((M.take (j+1)).flatten=(M.take j).flatten++M[j]):=Lib.hid (jI hx)
     obtain⟨q,hq⟩:∃ q,q=M[j].length:=⟨_,rfl⟩
     rw[← hq]at hc1 hl hl0 hr1
     have HM:=Lib.hid hM
     have HQ:=Lib.hid hq
     have HR1:=Lib.hid hr1
     clear hM hq hr1 hM0
     go_wp2_with (at_builtin;refine yiv w wr rfl _ _ rfl B y d _ A1 q c1 _ HM.out HR1.out HV1.out hl0 (by omega) (by omega) rfl rfl ?_;intro A' c' w' hM' _)
     go_roundw
     case rel=>exact⟨j+1,y+q,A',c',by omega,by go_num,rfl,by rw[HS.out,List.length_append,← HY.out,← HQ.out],by rw[HS.out];exact hM'⟩
     case measure=>simp[intOf];omega
    ·obtain rfl:j=k:=by omega
     have e9:M.take j=M:=List.take_of_length_le (by rw[HL.out];omega)
     rw[e9]at hM
     obtain rfl:y=z:=by rw[HY.out,HT.out,e9]
     go_wp2
     go_ret
     exact⟨_,_,rfl,hM⟩
theorem yiw {P:Program} {o:Oper} {a:Act} {K:Act→World→Prop} {Q:Exit→Act→World→Prop} (w0 wr:World) (T E:TypeId) (z:Value) (bytes:Nat)
 (ht:P.underlying T=some (.slice E)) (hinfo:(P.info? E).map (fun i=>(i.zero,i.size,i.bytes))=some (some z,1,bytes)) (hz:z.cells.size=1) (hby:bytes≤24)
 (s x:Operand) (ho:o.op=.call { callee:=.builtin .append,args:=#[s,x],argTypes:=#[T,T] })
 (A:Option Addr) (n c:Nat) (us:List Value) (u:Value) (hM:Mk w0 wr E A n c us) (hn:n≤1099511627776) (hu:u.oneCell'=true) (g:Nat) (hB:Blk wr g E #[u])
 (hs:a.eval s=.slice A n c) (hx:a.eval x=.slice (some ⟨g,0,none⟩) 1 1)
 (h:∀ A' c' w',Mk w0 w' E A' (n+1) c' (us++[u])→wr.grownBy w' (Value.slice A n c).ownBlock→(∃ g,A'=some ⟨g,0,none⟩∧((Value.slice A n c).ownBlock=some g∨wr.heap.size≤g))→K (a.put o.dst (.slice A' (n+1) c')) w'):o.wp P a wr K Q:=by
 obtain⟨i,hi,h1,h2,h3⟩:=info_parts hinfo
 obtain⟨b1,b2⟩:=xh hn
 refine wp_append_lies wr s x T ho w0.heap.size E i z 1 bytes ht hi h1 h2 h3 hz (by omega) (.slice A n c) n us hs hM.2 ⟨g,0,none⟩ 1 1 [u] hx rfl (fun j v hv=>?_)
  (by intro v hv;simp at hv;rw[hv];exact hu) (by omega) b1 (b2 _ hby) hM.1.size _ rfl (fun g' cap w' hown hg hat _=>h _ _ _ ⟨hM.1.grown hg hM.1.size (fun k hk=>(hM.2.lt k hk).1),hown⟩ hg ⟨g',rfl,hat.imp id (fun e=>by omega)⟩)
 match j,hv with
 | 0,hv=>simp at hv;subst hv;rw[Addr.add_lit];exact hB.cell 0
set_option maxHeartbeats 1600000 in
set_option maxRecDepth 8000 in
theorem ybc (p:Int) (hp:2≤p) (hp2:p≤13) (A:Option Addr) (k c:Nat) (X:Option Addr) (n cx:Nat) (xs:List Int) (w:World) (h0:0<n) (hx:Rd w X n (ints xs)) (hxn:NumsL p xs) :
 Calls Tryz.prog 48 #[.agg #[.int .i64 p,.slice A k c],.slice X n cx] w fun e w'=>e=.returned (.int .i64 (2*xs.getD 0 0%p))∧Below w.heap.size w w':=by
 have hB0:Below w.heap.size w (w.alloc (.cells #[.int .i64 p,.slice A k c] 26)):=zG.alloc (Nat.le_refl _) _
 have k0:Blk (w.alloc (.cells #[.int .i64 p,.slice A k c] 26)) w.heap.size 26 #[.int .i64 p,.slice A k c]:=Blk.new _ _ _
 obtain⟨gx,ox,rfl,hx0,hcx⟩:=hx.int h0
 obtain⟨x0,hx0e⟩:∃ z,z=xs.getD 0 0:=⟨_,rfl⟩
 have hb0:=hxn.getD (show 0<p by omega) 0
 rw[← hx0e]at hb0 ⊢
 have hcx0:(w.alloc (.cells #[.int .i64 p,.slice A k c] 26)).cell? ⟨gx,ox,none⟩=some (.int .i64 x0):=by
  have e:xs[0]=x0:=by rw[hx0e,yc 0 hx0]
  rw[← e]
  exact (hB0.cell (World.block_lt_of_cell? _ _ hcx)).trans hcx
 have hcx1:(w.alloc (.cells #[.int .i64 p,.slice A k c] 26)).drew.cell? ⟨gx,ox,none⟩=some (.int .i64 x0):=hcx0
 clear hx0e hcx hx hxn hx0
 go_enter Tryz.func48,Tryz.ntmps48
 go_wp2
 refine yh 8 [[],[0],[],[2],[2,3],[2,3,4],[0,1,2,3,4,5],[0,1,2,3,4,5,6]] [VIs (.agg #[.int .i64 p,.slice A k c]),VIs (.int .i64 (p)),VIs (.slice (some ⟨gx,ox,none⟩) n cx),VIs (.pointer (some ⟨gx,ox,none⟩)),VIs (.int .i64 (x0)),VIs (.int .i64 (2*x0)),VIs (.int .i64 (2*x0%p)),VIs (.int .i64 (2*x0%p))] (fun w'=>Blk w' w.heap.size 26 #[.int .i64 p,.slice A k c]∧w'.cell? ⟨gx,ox,none⟩=some (.int .i64 x0)∧Below w.heap.size w w') (by kernel_rfl) (by kernel_rfl) (fun _ _ h hb=>⟨h.1.below hb h.1.lt,(hb.cell (World.block_lt_of_cell? _ _ h.2.1)).trans h.2.1,h.2.2.trans (hb.mono h.2.2.size)⟩) (⟨k0.drew,hcx1,hB0.drew⟩) (fun x=>?_)
 refine zS (fun w' hS hV K hK=>?_) ?_
 ·obtain⟨q0,q1⟩:=hS.1.two;have q2:=hS.2.1;go_simp;exact zO hK
 refine zS (fun w' hS hV K hK=>?_) ?_
 ·have e0:=zQ hV 0;obtain⟨q0,q1⟩:=hS.1.two;have q2:=hS.2.1;go_simp;refine (zb p A k c w').mono ?_;rintro e v1 ⟨rfl,hb⟩;exact hK.out _ _ _ rfl rfl rfl hb
 refine zS (fun w' hS hV K hK=>?_) ?_
 ·obtain⟨q0,q1⟩:=hS.1.two;have q2:=hS.2.1;go_simp;exact zO hK
 refine zS (fun w' hS hV K hK=>?_) ?_
 ·have e2:=zQ hV 2;obtain⟨q0,q1⟩:=hS.1.two;have q2:=hS.2.1;go_simp;exact zO hK
 refine zS (fun w' hS hV K hK=>?_) ?_
 ·have e3:=zQ hV 3;obtain⟨q0,q1⟩:=hS.1.two;have q2:=hS.2.1;go_simp;exact zO hK
 refine zS (fun w' hS hV K hK=>?_) ?_
 ·have e4:=zQ hV 4;obtain⟨q0,q1⟩:=hS.1.two;have q2:=hS.2.1;go_simp;exact hK.out _ _ _ rfl rfl (by first | rfl | exact congrArg (Value.int .i64) (by omega) | exact congrArg (Value.int .i64) (yi _ (by omega) (by omega))) zG
 refine zS (fun w' hS hV K hK=>?_) ?_
 ·have e1:=zQ hV 1;have e5:=zQ hV 5;obtain⟨q0,q1⟩:=hS.1.two;have q2:=hS.2.1;go_simp;refine (zN p (2*x0) w' (by omega) hp2 (by omega) (by omega)).mono ?_;rintro e v1 ⟨rfl,rfl⟩;exact zO hK
 refine zS (fun w' hS hV K hK=>?_) ?_
 ·have e6:=zQ hV 6;obtain⟨q0,q1⟩:=hS.1.two;have q2:=hS.2.1;go_simp;exact zO hK
 refine fun w' hS hV=>?_
 have e0:=zT hV 0
 have e1:=zT hV 1
 have e2:=zT hV 2
 have e3:=zT hV 3
 have e4:=zT hV 4
 have e5:=zT hV 5
 have e6:=zT hV 6
 have e7:=zT hV 7
 simp only[e0,e1,e2,e3,e4,e5,e6,e7]
 clear e0 e1 e2 e3 e4 e5 e6 e7
 refine wpAny_done (by kernel_rfl) ?_ _
 go_wp2
 go_ret
 exact⟨rfl,hS.2.2⟩
def cycM (p:Int) (k:Nat) (st:List Int):List (List (List Int)):=tab (pw k) fun i=>tab (pw k) fun j=>tab (pw k) fun q=>frmL p k st i j q
set_option maxHeartbeats 12800000 in
set_option maxRecDepth 8000 in
theorem yeo (p:Int) (hp:2≤p) (hp2:p≤13) (k:Nat) (hk:k≤4) (A:Option Addr) (c:Nat) (st:List Int) (w:World) (hk3:k≤3) (hc:k≤c) (ha:Rd w A k (ints st)) (hst:NumsL p st) :
 Calls Tryz.prog 119 #[.agg #[.int .i64 p,.slice A k c]] w fun e w'=>∃ A' c',e=.returned (.slice A' (pw k) c')∧MkM3 w w' A' (pw k) c' (cycM p k st):=by
 have hpk:pw k≤8:=yz hk3
 have hpos:=yq k
 have hB0:Below w.heap.size w (w.alloc (.cells #[.int .i64 p,.slice A k c] 26)):=zG.alloc (Nat.le_refl _) _
 have k0:Blk (w.alloc (.cells #[.int .i64 p,.slice A k c] 26)) w.heap.size 26 #[.int .i64 p,.slice A k c]:=Blk.new _ _ _
 have hHA:=Lib.hid ha
 obtain⟨n,hn⟩:∃ n,n=pw k:=⟨_,rfl⟩
 have hsz:=fun w=>z8 p A k c w hk
 rw[← hn]at hpk hpos hsz
 obtain⟨GG,hG⟩:∃ G:List Int→List Int→List Int,G=fun x y=>dblL p k st x y:=⟨_,rfl⟩
 have HGN:Hid (∀ x y,NumsL p (GG x y)):=Lib.hid fun x y=>by rw[hG];exact yT (by omega) _ _ _ _
 have HTI:Hid (∀ (w':World) (X:Option Addr) (cx:Nat) (xs:List Int) (Y:Option Addr) (cy:Nat) (ys:List Int),Below w.heap.size w w'→n≤cx→n≤cy→NumsL p xs→NumsL p ys→Rd w' X n (ints xs)→Rd w' Y n (ints ys)→Calls Tryz.prog 108 #[.agg #[.int .i64 p,.slice A k c],.slice X n cx,.slice Y n cy] w' fun e w''=>∃ A' c',e=.returned (.slice A' n c')∧MkI w' w'' A' n c' (GG xs ys)):=Lib.hid fun w' X cx xs Y cy ys hb hcx hcy hxn hyn hX hY=>by
  rw[hG]
  subst hn
  exact qj p hp hp2 k hk A c st X cx _ Y cy _ w' hc hcx hcy (ha.below hb) hst hX hxn hY hyn
 obtain⟨F,hF⟩:∃ F:Nat→Nat→Nat→Int,F=fun i j q=>frmL p k st i j q:=⟨_,rfl⟩
 have HFF:Hid (∀ j q r,F j q r=2*(GG (GG (ye n j) (ye n q)) (ye n r)).getD 0 0%p):=Lib.hid fun j q r=>by rw[hF,hG,hn];rfl
 have HCY:Hid (cycM p k st=tab n fun i=>tab n fun j=>tab n fun q=>F i j q):=Lib.hid (by rw[hF,hn];rfl)
 rw[← hn]
 clear hn hG hF hst ha hHA
 go_enter Tryz.func119,Tryz.ntmps119
 have hE1:MkM3 (w.alloc (.cells #[.int .i64 p,.slice A k c] 26)) ((w.alloc (.cells #[.int .i64 p,.slice A k c] 26)).alloc (.cells #[] 32)) (some ⟨w.heap.size+1,0,none⟩) 0 0 []:=by simpa using MkM3.empty (Below.refl (w.alloc (.cells #[.int .i64 p,.slice A k c] 26)).heap.size (w.alloc (.cells #[.int .i64 p,.slice A k c] 26)))
 have ka1:=k0.alloc (.cells #[] 32)
 obtain⟨q0,q1⟩:=ka1.two
 go_wp2_with fail
 refine (hsz _).mono ?_
 rintro e ws1 ⟨rfl,hbs⟩
 have hF1:=hE1.below hbs
 have kb1:=ka1.below hbs ka1.lt
 have hszl:w.heap.size+1<ws1.heap.size:=by have:=hbs.size;simp at this;omega
 clear q0 q1 hE1 ka1 k0 hbs
 go_wp2_with fail
 refine (ul n _ (by omega)).mono ?_
 rintro e wu1 ⟨U1,cU1,rfl,hU⟩
 have hG1:=hF1.below hU.b
 have kc1:=kb1.below hU.b kb1.lt
 have hKp1:Keeps ws1 wu1 wu1 (.slice (some ⟨w.heap.size+1,0,none⟩) 0 0):=⟨Nat.le_refl _,fun _ _ _=>rfl,fun gb e=>.inl (vI e hszl)⟩
 have HU1:=Lib.hid hU
 clear hF1 kb1 hU hszl
 go_wp2
 have HB1:=Lib.hid hB0
 clear hB0
 go_loopw [3,17] (fun out i wr=>∃ (j:Nat) (A':Option Addr) (c':Nat),j≤n∧i=.int .i64 j∧out=.slice A' j c'∧Hid (MkM3 (w.alloc (.cells #[.int .i64 p,.slice A k c] 26)) wr A' j c' (tab j fun i=>tab n fun j=>tab n fun q=>F i j q))∧Hid (Keeps ws1 wu1 wr (.slice A' j c'))∧Blk wr w.heap.size 26 #[.int .i64 p,.slice A k c]) (fun _ i _=>n-(intOf i).toNat)
 case atStart=>exact⟨0,_,_,by omega,rfl,rfl,Lib.hid (by simpa [tab] using hG1),Lib.hid hKp1,kc1⟩
 case round=>
  obtain⟨j,A',c',hj,rfl,rfl,HM,HKP,kr⟩:=hrel
  clear hG1 hKp1 kc1
  by_cases hlt:j<n
  ·skip
   obtain⟨gu1,ou1,rfl,hxk,A1,c1,hcu1,hru,hcc⟩:=(HU1.out.keep HKP.out.2.1).at_ hlt
   have hrow:=vM n j hxk
   rw[hrow,zm]at hru hcu1 hcc
   have HX1:=Lib.hid hru
   clear hru hrow hxk
   obtain⟨wo2,hwo⟩:∃ W,W=wr:=⟨_,rfl⟩
   rw[← hwo]at HM HKP HX1 hcu1 kr ⊢
   clear hwo
   have hE2:MkII wo2 (wo2.alloc (.cells #[] 24)) (some ⟨wo2.heap.size,0,none⟩) 0 0 []:=MkII.empty zG
   have ka2:=kr.alloc (.cells #[] 24)
   obtain⟨q0,q1⟩:=ka2.two
   go_wp2_with fail
   refine (hsz _).mono ?_
   rintro e ws2 ⟨rfl,hbs⟩
   have hF2:=hE2.below hbs
   have kb2:=ka2.below hbs ka2.lt
   have hszl:wo2.heap.size<ws2.heap.size:=by have:=hbs.size;simp at this;omega
   clear q0 q1 hE2 ka2 kr hbs
   go_wp2_with fail
   refine (ul n _ (by omega)).mono ?_
   rintro e wu2 ⟨U2,cU2,rfl,hU⟩
   have hG2:=hF2.below hU.b
   have kc2:=kb2.below hU.b kb2.lt
   have hKp2:Keeps ws2 wu2 wu2 (.slice (some ⟨wo2.heap.size,0,none⟩) 0 0):=⟨Nat.le_refl _,fun _ _ _=>rfl,fun gb e=>.inl (vI e hszl)⟩
   have HU2:=Lib.hid hU
   clear hF2 kb2 hU hszl
   go_wp2
   go_loopw [6,26] (fun out i wr=>∃ (q:Nat) (A':Option Addr) (c':Nat),q≤n∧i=.int .i64 q∧out=.slice A' q c'∧Hid (MkII wo2 wr A' q c' (tab q fun q=>tab n fun r=>F j q r))∧Hid (Keeps ws2 wu2 wr (.slice A' q c'))∧Blk wr w.heap.size 26 #[.int .i64 p,.slice A k c]) (fun _ i _=>n-(intOf i).toNat)
   case atStart=>exact⟨0,_,_,by omega,rfl,rfl,Lib.hid (by simpa [tab] using hG2),Lib.hid hKp2,kc2⟩
   case round=>
    obtain⟨q,A6,c6,hq,rfl,rfl,HM2,HKP2,kr⟩:=hrel
    clear hG2 hKp2 kc2
    by_cases hlq:q<n
    ·skip
     have HX1':=Lib.hid (HX1.out.below HM2.out.b)
     obtain⟨gu2,ou2,rfl,hxk,A2,c2,hcu2,hru,hcc2⟩:=(HU2.out.keep HKP2.out.2.1).at_ hlq
     have hrow:=vM n q hxk
     rw[hrow,zm]at hru hcu2 hcc2
     have HX2:=Lib.hid hru
     clear hru hrow hxk
     obtain⟨wo3,hwo⟩:∃ W,W=wr:=⟨_,rfl⟩
     rw[← hwo]at HM2 HKP2 HX1' HX2 hcu2 kr ⊢
     clear hwo
     have hE3:MkI wo3 (wo3.alloc (.cells #[] 2)) (some ⟨wo3.heap.size,0,none⟩) 0 0 []:=by simpa [MkI,ints] using Mk.lit (E:=2) (Below.refl wo3.heap.size wo3) #[] (by simp)
     have ka3:=kr.alloc (.cells #[] 2)
     obtain⟨q0,q1⟩:=ka3.two
     go_wp2_with fail
     refine (hsz _).mono ?_
     rintro e ws3 ⟨rfl,hbs⟩
     have hF3:=hE3.below hbs
     have kb3:=ka3.below hbs ka3.lt
     have hszl:wo3.heap.size<ws3.heap.size:=by have:=hbs.size;simp at this;omega
     clear q0 q1 hE3 ka3 kr hbs
     go_wp2_with fail
     refine (ul n _ (by omega)).mono ?_
     rintro e wu3 ⟨U3,cU3,rfl,hU⟩
     have hG3:=hF3.below hU.b
     have kc3:=kb3.below hU.b kb3.lt
     have hKp3:Keeps ws3 wu3 wu3 (.slice (some ⟨wo3.heap.size,0,none⟩) 0 0):=⟨Nat.le_refl _,fun _ _ _=>rfl,fun gb e=>.inl (vI e hszl)⟩
     have HU3:=Lib.hid hU
     clear hF3 kb3 hU hszl
     go_wp2
     go_loopw [9,35] (fun out i wr=>∃ (r:Nat) (A':Option Addr) (c':Nat),r≤n∧i=.int .i64 r∧out=.slice A' r c'∧Hid (MkI wo3 wr A' r c' (tab r fun r=>F j q r))∧Hid (Keeps ws3 wu3 wr (.slice A' r c'))∧Blk wr w.heap.size 26 #[.int .i64 p,.slice A k c]) (fun _ i _=>n-(intOf i).toNat)
     case atStart=>exact⟨0,_,_,by omega,rfl,rfl,Lib.hid (by simpa [tab] using hG3),Lib.hid hKp3,kc3⟩
     case round=>
      obtain⟨r,A5,c5,hr,rfl,rfl,HM3,HKP3,kr⟩:=hrel
      clear hG3 hKp3 kc3
      by_cases hlr:r<n
      ·skip
       have HX1:=Lib.hid (HX1'.out.below HM3.out.b)
       have HX2':=Lib.hid (HX2.out.below HM3.out.b)
       obtain⟨gu3,ou3,rfl,hxk,A3,c3,hcu3,hru,hcc3⟩:=(HU3.out.keep HKP3.out.2.1).at_ hlr
       have hrow:=vM n r hxk
       rw[hrow,zm]at hru hcu3 hcc3
       have HX3:=Lib.hid hru
       clear hru hrow hxk
       have HX2:=HX2'
       have HBW:Hid (Below w.heap.size w wr):=Lib.hid (HB1.out.trans ((HM.out.b.trans ((HM2.out.b.trans (HM3.out.b.mono HM2.out.b.size)).mono HM.out.b.size)).mono HB1.out.size))
       obtain⟨v,hv⟩:∃ v,v=F j q r:=⟨_,rfl⟩
       have HVV:Hid (2*(GG (GG (ye n j) (ye n q)) (ye n r)).getD 0 0%p=v):=Lib.hid (by rw[hv,HFF.out])
       have HVF:Hid (F j q r=v):=Lib.hid hv.symm
       clear hv HX2'
       obtain⟨q0,q1⟩:=kr.two
       go_wp2
       clear q0 q1
       refine yh 11 [[],[],[],[],[],[],[3,4,5],[],[2,3,4,5,6,7],[1,2,3,4,5,6,7,8],[1,2,3,4,5,6,7,8,9],[0,1,2,3,4,5,6,7,8,9,10],[0,1,2,3,4,5,6,7,8,9,10,11]] [VIs (.slice A5 r c5),VIs (.agg #[.int .i64 p,.slice A k c]),VIs (.agg #[.int .i64 p,.slice A k c]),VIs (.agg #[.int .i64 p,.slice A k c]),VIs (.slice A1 n c1),VIs (.slice A2 n c2),VSl wr n (GG (ye n j) (ye n q)),VIs (.slice A3 n c3),VSl wr n (GG (GG (ye n j) (ye n q)) (ye n r)),VIs (.int .i64 (v)),VBs 2 #[.int .i64 v]] (fun w'=>Blk w' w.heap.size 26 #[.int .i64 p,.slice A k c]∧Below wr.heap.size wr w') (by kernel_rfl) (by kernel_rfl) (fun _ _ h hb=>⟨h.1.below hb h.1.lt,h.2.trans (hb.mono h.2.size)⟩) (⟨kr.drew,zG.drew⟩) (fun x=>?_)
       refine zS (fun w' hS hV K hK=>?_) ?_
       ·obtain⟨q0,q1⟩:=hS.1.two;go_simp;exact zO hK
       refine zS (fun w' hS hV K hK=>?_) ?_
       ·obtain⟨q0,q1⟩:=hS.1.two;go_simp;exact zO hK
       refine zS (fun w' hS hV K hK=>?_) ?_
       ·obtain⟨q0,q1⟩:=hS.1.two;go_simp;exact zO hK
       refine zS (fun w' hS hV K hK=>?_) ?_
       ·obtain⟨q0,q1⟩:=hS.1.two;go_simp;exact zO hK
       refine zS (fun w' hS hV K hK=>?_) ?_
       ·obtain⟨q0,q1⟩:=hS.1.two;go_simp;exact zO hK
       refine zS (fun w' hS hV K hK=>?_) ?_
       ·obtain⟨q0,q1⟩:=hS.1.two;go_simp;exact zO hK
       refine zS (fun w' hS hV K hK=>?_) ?_
       ·have e3:=zQ hV 3;have e4:=zQ hV 4;have e5:=zQ hV 5;obtain⟨q0,q1⟩:=hS.1.two;go_simp;refine (HTI.out w' A1 c1 (ye n j) A2 c2 (ye n q) (HBW.out.trans (hS.2.mono HBW.out.size)) hcc hcc2 (vh hp _ _) (vh hp _ _) (HX1.out.below hS.2) (HX2.out.below hS.2)).mono ?_;rintro e v1 ⟨A9,c9,rfl,hM⟩;exact hK.out _ _ _ rfl rfl ⟨_,_,rfl,hM.after hS.2⟩ hM.b
       refine zS (fun w' hS hV K hK=>?_) ?_
       ·obtain⟨q0,q1⟩:=hS.1.two;go_simp;exact zO hK
       refine zS (fun w' hS hV K hK=>?_) ?_
       ·have e2:=zQ hV 2;obtain⟨A6,c6,e6,h6⟩:=hV 6 (by decide);have e7:=zQ hV 7;obtain⟨q0,q1⟩:=hS.1.two;go_simp;refine (HTI.out w' A6 c6 (GG (ye n j) (ye n q)) A3 c3 (ye n r) (HBW.out.trans (hS.2.mono HBW.out.size)) h6.2.cap hcc3 (HGN.out _ _) (vh hp _ _) h6.rd (HX3.out.below hS.2)).mono ?_;rintro e v1 ⟨A9,c9,rfl,hM⟩;exact hK.out _ _ _ rfl rfl ⟨_,_,rfl,hM.after hS.2⟩ hM.b
       refine zS (fun w' hS hV K hK=>?_) ?_
       ·have e1:=zQ hV 1;obtain⟨A6,c6,e6,h6⟩:=hV 6 (by decide);obtain⟨A8,c8,e8,h8⟩:=hV 8 (by decide);obtain⟨q0,q1⟩:=hS.1.two;go_simp;refine (ybc p hp hp2 A k c A8 n c8 (GG (GG (ye n j) (ye n q)) (ye n r)) w' hpos h8.rd (HGN.out _ _)).mono ?_;rintro e v1 ⟨rfl,hb⟩;exact hK.out _ _ _ rfl rfl (congrArg (Value.int .i64) HVV.out) hb
       refine zS (fun w' hS hV K hK=>?_) ?_
       ·obtain⟨A6,c6,e6,h6⟩:=hV 6 (by decide);obtain⟨A8,c8,e8,h8⟩:=hV 8 (by decide);have e9:=zQ hV 9;obtain⟨q0,q1⟩:=hS.1.two;go_simp;exact hK.out _ _ _ rfl rfl ⟨_,rfl,Blk.new _ _ _⟩ (zG.alloc (Nat.le_refl _) _)
       refine fun w' hS hV=>?_
       have e0:=zT hV 0
       have e1:=zT hV 1
       have e2:=zT hV 2
       have e3:=zT hV 3
       have e4:=zT hV 4
       have e5:=zT hV 5
       obtain⟨A6,c6,e6,h6⟩:=hV 6 (by decide)
       have e7:=zT hV 7
       obtain⟨A8,c8,e8,h8⟩:=hV 8 (by decide)
       have e9:=zT hV 9
       obtain⟨b10,e10,h10⟩:=hV 10 (by decide)
       simp only[e0,e1,e2,e3,e4,e5,e6,e7,e8,e9,e10]
       clear e0 e1 e2 e3 e4 e5 e6 e7 e8 e9 e10
       obtain⟨k7,s2⟩:=hS
       refine xg (j:=11) (by kernel_rfl) (Eq.trans (by simp only[zA,zB,zC];exact rfl) rfl) rfl (fun K hK=>?_)
       refine yiw wo3 w' 24 2 _ _ Tryz.underlying24 yo rfl (by omega) _ _ rfl A5 r c5 _ _ (HM3.out.below s2) (by omega) rfl _ h10 (by rfl) (by rfl) ?_
       intro A20 c20 w20 hM20 hg20 hat20
       refine hK.out _ _ ?_
       simp only[Act.put,zD,zE,zF]
       refine yK (j:=12) (by kernel_rfl) (Eq.trans (by simp only[zA,zB,zC];exact rfl) rfl) (fun K hK=>?_)
       go_simp
       refine hK.out _ _ (wpAny_done (by kernel_rfl) ?_ _)
       have k8:=k7.grown hg20 ((HM3.out.below s2).2.ne_blk k7 (by decide))
       have HR2:Hid (MkI wo3 w20 A20 (r+1) c20 (tab (r+1) fun r=>F j q r)):=Lib.hid (by rw[yQ,HVF.out];simpa [MkI,ints] using hM20)
       have HK2:Hid (Keeps ws3 wu3 w20 (.slice A20 (r+1) c20)):=Lib.hid (HKP3.out.step s2 hg20 hat20)
       clear k7 hg20 hM20 hV hat20
       go_wp2
       go_roundw
       case rel=>exact⟨r+1,A20,c20,by omega,by go_num,rfl,HR2,HK2,k8⟩
       case measure=>simp[intOf];omega
      ·obtain rfl:r=n:=by omega
       go_wp2_with (at_builtin;refine vi wo2 wo3 _ rfl _ _ rfl A6 q c6 _ A5 r c5 _ HM2.out HM3.out (by omega) rfl ?_ ?_;(go_simp);intro A4 c4 w4 hM4 hg4 hat4)
       have k8:=kr.grown hg4 ((HM2.out.below HM3.out.b).ne_blk kr (by decide))
       go_roundw
       case rel=>exact⟨q+1,A4,c4,by omega,by go_num,rfl,Lib.hid (by rw[yQ];exact hM4),Lib.hid (HKP2.out.step HM3.out.b hg4 hat4),k8⟩
       case measure=>simp[intOf];omega
    ·obtain rfl:q=n:=by omega
     have HO:=Lib.hid (HM.out.below HM2.out.b)
     have HI:=Lib.hid (HM2.out.after HM.out.b)
     go_wp2_with (at_builtin;refine yit (w.alloc (.cells #[.int .i64 p,.slice A k c] 26)) wr rfl _ _ rfl A' j c' _ A6 q c6 _ HO.out HI.out (by omega) rfl rfl ?_;intro A7 c7 w7 hM7 hg7 hat7)
     have k7:=kr.grown hg7 (HO.out.ne_blk kr (by decide))
     have hks:=HKP.out.step HM2.out.b hg7 hat7 (n':=j+1) (c':=c7)
     go_roundw
     case rel=>exact⟨j+1,A7,c7,by omega,by go_num,rfl,Lib.hid (by rw[yQ];exact hM7),Lib.hid hks,k7⟩
     case measure=>simp[intOf];omega
  ·obtain rfl:j=n:=by omega
   go_wp2
   go_ret
   refine⟨_,_,rfl,?_⟩
   rw[HCY.out]
   obtain⟨rows,h1,h2,h3⟩:=HM.out
   exact⟨rows,⟨HB1.out.trans (h1.1.mono HB1.out.size),h1.2.mono HB1.out.size⟩,h2,fun k h=>by obtain⟨A',c',e,ho⟩:=h3 k h;exact⟨A',c',e,ho.after HB1.out⟩⟩
end Go.Proofs.YtaiegpggccdgoaaGreat

/-
  LawFnCompleteTriples: part 11 of the texts that the proof needs. No condition.
-/
import Derived.Test.YtaiegpggccdgoaaGreatK10
namespace Go.Proofs.YtaiegpggccdgoaaGreat
open Go Go.RowKit
def gapS (p:Int) (DG:List Int) (M:List (List Int)) (i q:Nat):Int:=(ent M i q*DG.getD i 0+ent M q i*DG.getD q 0)%p
theorem ye0 (p:Int) (DG:List Int) (M:List (List Int)) (i q:Nat):gapS p DG M i q=gapS p DG M q i:=by unfold gapS;rw[Int.add_comm]
def xk (p:Int) (k:Nat) (st:List Int) (M:List (List Int)):Bool:=(List.range (pw k)).all fun i=>(List.range (pw k)).all fun q=>gapS p (dgL p k st) M i q == 0
theorem uO {p:Int} {n:Nat} {DG:List Int} {M:List (List Int)}:((List.range n).all fun i=>(List.range n).all fun q=>gapS p DG M i q == 0)=true ↔ ∀ i q,i<n→q<n→gapS p DG M i q=0:=by
 simp only[List.all_eq_true,List.mem_range,beq_iff_eq]
 exact⟨fun h i q hi hq=>h i hi q hq,fun h i hi q hq=>h i q hi hq⟩
set_option maxHeartbeats 6400000 in
set_option maxRecDepth 8000 in
theorem yev (p:Int) (hp:2≤p) (hp2:p≤13) (k:Nat) (hk:k≤4) (A:Option Addr) (c:Nat) (st:List Int) (m:Option Addr) (cm:Nat) (M:List (List Int)) (w:World) (hc:k≤c) (ha:Rd w A k (ints st)) (hst:NumsL p st) (hm:RdII w m (pw k) M) (hT:Tab p (pw k) M) :
 Calls Tryz.prog 81 #[.agg #[.int .i64 p,.slice A k c],.slice m (pw k) cm] w fun e w'=>e=.returned (.bool (xk p k st M))∧Below w.heap.size w w':=by
 have hpk:pw k≤16:=yz hk
 have hpos:=yq k
 have hB0:Below w.heap.size w (w.alloc (.cells #[.int .i64 p,.slice A k c] 26)):=zG.alloc (Nat.le_refl _) _
 have k0:Blk (w.alloc (.cells #[.int .i64 p,.slice A k c] 26)) w.heap.size 26 #[.int .i64 p,.slice A k c]:=Blk.new _ _ _
 have hdg:=ya7 p hp hp2 k hk A c st (w.alloc (.cells #[.int .i64 p,.slice A k c] 26)) hc (ha.below hB0) hst
 have hDN:=vn (show 0<p by omega) k st
 obtain⟨R,hR⟩:∃ z,z=xk p k st M:=⟨_,rfl⟩
 rw[← hR]
 unfold xk at hR
 obtain⟨DG,hDG⟩:∃ z,z=dgL p k st:=⟨_,rfl⟩
 obtain⟨n,hn⟩:∃ n,n=pw k:=⟨_,rfl⟩
 rw[← hDG]at hdg hDN hR
 rw[← hn]at hpk hpos hdg hm hT hR ⊢
 have HRT:Hid ((∀ a q,a<n→q<n→gapS p DG M a q=0)→R=true):=Lib.hid fun h=>hR.trans (uO.2 h)
 have HRF:Hid (∀ a q,a<n→q<n→gapS p DG M a q≠0→R=false):=Lib.hid fun a q ha hq h=>by
  cases hb:R
  ·rfl
  ·exact absurd (uO.1 (hR.symm.trans hb) a q ha hq) h
 have HDN:=Lib.hid hDN
 have HT:=Lib.hid hT
 obtain⟨q0,q1⟩:=k0.two
 obtain⟨g,o,rfl, -⟩:=hm.at_ hpos
 clear hDG hn hR hDN hT ha hst
 go_enter Tryz.func81,Tryz.ntmps81
 go_wp2_with fail
 refine hdg.mono ?_
 rintro e w2 ⟨D,cd,rfl,hD⟩
 have hB2:=hB0.trans (hD.b.mono hB0.size)
 have k2:=k0.below hD.b k0.lt
 obtain⟨gd,od,rfl, -⟩:=hD.rd.int hpos
 have HD:=Lib.hid hD.rd
 have HM:=Lib.hid (hm.below hB2)
 have HB2:=Lib.hid hB2
 clear q0 q1 hdg k0 hB0 hD hm hB2
 go_wp2
 go_loopw [12] (fun i wr=>∃ j:Nat,j≤n∧i=.int .i64 j∧Hid (Below w2.heap.size w2 wr)∧Blk wr w.heap.size 26 #[.int .i64 p,.slice A k c]∧Hid (∀ a q,a<j→q<n→gapS p DG M a q=0)) (fun i _=>n-(intOf i).toNat)
 case atStart=>exact⟨0,by omega,rfl,Lib.hid zG,k2,Lib.hid (fun a q h=>absurd h (by omega))⟩
 case round=>
  obtain⟨i,hi',rfl,HB,kr,HO⟩:=hrel
  clear k2
  by_cases hlt:i<n
  ·go_wp2
   go_loopw [17] (fun i_ wr=>∃ j:Nat,j≤n∧i_=.int .i64 j∧Hid (Below w2.heap.size w2 wr)∧Blk wr w.heap.size 26 #[.int .i64 p,.slice A k c]∧Hid (∀ q,q<j→gapS p DG M i q=0)) (fun i_ _=>n-(intOf i_).toNat)
   case atStart=>exact⟨0,by omega,rfl,HB,kr,Lib.hid (fun q h=>absurd h (by omega))⟩
   case round=>
    obtain⟨q,hq',rfl,HB,kr,HI⟩:=hrel
    by_cases hcq:q<n
    ·have hlq:q<n:=by omega
     obtain⟨gi,oi,ci,c1,c2⟩:=(HM.out.below HB.out).grid HT.out hlt hlq
     obtain⟨gq,oq,cq,c4,c5⟩:=(HM.out.below HB.out).grid HT.out hlq hlt
     obtain⟨gd1,od1,e1,hx1,c3⟩:=(HD.out.below HB.out).int hlt
     obtain⟨gd2,od2,e2,hx2,c6⟩:=(HD.out.below HB.out).int hlq
     injection e1 with e1;injection e1 with e11 e12 _
     injection e2 with e2;injection e2 with e21 e22 _
     subst e11 e12 e21 e22
     have hzg:gapS p DG M i q=(ent M i q*DG[i]+ent M q i*DG[q])%p:=by unfold gapS;rw[yc 0 hx1,yc 0 hx2]
     obtain⟨b1,b2⟩:=HT.out.ent (show 0<p by omega) i q
     obtain⟨b3,b4⟩:=HT.out.ent (show 0<p by omega) q i
     obtain⟨b5,b6⟩:=HDN.out _ (List.getElem_mem hx1)
     obtain⟨b7,b8⟩:=HDN.out _ (List.getElem_mem hx2)
     obtain⟨x1,hx1e⟩:∃ z,z=ent M i q:=⟨_,rfl⟩
     obtain⟨x2,hx2e⟩:∃ z,z=ent M q i:=⟨_,rfl⟩
     obtain⟨d1,hd1e⟩:∃ z,z=DG[i]:=⟨_,rfl⟩
     obtain⟨d2,hd2e⟩:∃ z,z=DG[q]:=⟨_,rfl⟩
     rw[← hx1e,← hx2e,← hd1e,← hd2e]at hzg
     rw[← hx1e]at c2 b1 b2
     rw[← hx2e]at c5 b3 b4
     rw[← hd1e]at c3 b5 b6
     rw[← hd2e]at c6 b7 b8
     have m1:0≤x1*d1:=Int.mul_nonneg b1 b5
     have m2:x1*d1≤13*13:=Int.mul_le_mul (by omega) (by omega) b5 (by omega)
     have m3:0≤x2*d2:=Int.mul_nonneg b3 b7
     have m4:x2*d2≤13*13:=Int.mul_le_mul (by omega) (by omega) b7 (by omega)
     clear hx1e hx2e hd1e hd2e hx1 hx2 b1 b2 b3 b4 b5 b6 b7 b8
     obtain⟨z,hzz⟩:∃ z,z=(x1*d1+x2*d2)%p:=⟨_,rfl⟩
     rw[← hzz]at hzg
     have HZG:=Lib.hid hzg
     clear hzg
     by_cases hz:z=0
     ·have hz0:(x1*d1+x2*d2)%p=0:=hzz.symm.trans hz
      have HG0:Hid (gapS p DG M i q=0):=Lib.hid (HZG.out.trans hz)
      clear hzz hz HZG
      go_wp2
      refine yh 29 [[],[0],[],[],[2,3],[2,3,4],[],[2,3,4,5,6],[2,3,4,5,6,7],[],[],[9,10],[9,10,11],[2,3,4,5,6,7,8,9,10,11,12],[],[],[14,15],[14,15,16],[],[14,15,16,17,18],[14,15,16,17,18,19],[],[],[21,22],[21,22,23],[14,15,16,17,18,19,20,21,22,23,24],[2,3,4,5,6,7,8,9,10,11,12,13,14,15,16,17,18,19,20,21,22,23,24,25],[0,1,2,3,4,5,6,7,8,9,10,11,12,13,14,15,16,17,18,19,20,21,22,23,24,25,26],[0,1,2,3,4,5,6,7,8,9,10,11,12,13,14,15,16,17,18,19,20,21,22,23,24,25,26,27]] [VIs (.agg #[.int .i64 p,.slice A k c]),VIs (.int .i64 (p)),VIs (.slice (some ⟨g,o,none⟩) n cm),VIs (.int .i64 (i)),VIs (.pointer (some ⟨g,o+i,none⟩)),VIs (.slice (some ⟨gi,oi,none⟩) n ci),VIs (.int .i64 (q)),VIs (.pointer (some ⟨gi,oi+q,none⟩)),VIs (.int .i64 (x1)),VIs (.slice (some ⟨gd,od,none⟩) n cd),VIs (.int .i64 (i)),VIs (.pointer (some ⟨gd,od+i,none⟩)),VIs (.int .i64 (d1)),VIs (.int .i64 (x1*d1)),VIs (.slice (some ⟨g,o,none⟩) n cm),VIs (.int .i64 (q)),VIs (.pointer (some ⟨g,o+q,none⟩)),VIs (.slice (some ⟨gq,oq,none⟩) n cq),VIs (.int .i64 (i)),VIs (.pointer (some ⟨gq,oq+i,none⟩)),VIs (.int .i64 (x2)),VIs (.slice (some ⟨gd,od,none⟩) n cd),VIs (.int .i64 (q)),VIs (.pointer (some ⟨gd,od+q,none⟩)),VIs (.int .i64 (d2)),VIs (.int .i64 (x2*d2)),VIs (.int .i64 (x1*d1+x2*d2)),VIs (.int .i64 (0)),VIs (.bool false)] (fun w'=>Blk w' w.heap.size 26 #[.int .i64 p,.slice A k c]∧w'.cell? ⟨g,o+i,none⟩=some (.slice (some ⟨gi,oi,none⟩) n ci)∧w'.cell? ⟨gi,oi+q,none⟩=some (.int .i64 x1)∧w'.cell? ⟨gd,od+i,none⟩=some (.int .i64 d1)∧w'.cell? ⟨g,o+q,none⟩=some (.slice (some ⟨gq,oq,none⟩) n cq)∧w'.cell? ⟨gq,oq+i,none⟩=some (.int .i64 x2)∧w'.cell? ⟨gd,od+q,none⟩=some (.int .i64 d2)∧Below wr.heap.size wr w') (by kernel_rfl) (by kernel_rfl) (fun _ _ h hb=>⟨h.1.below hb h.1.lt,(hb.cell (World.block_lt_of_cell? _ _ h.2.1)).trans h.2.1,(hb.cell (World.block_lt_of_cell? _ _ h.2.2.1)).trans h.2.2.1,(hb.cell (World.block_lt_of_cell? _ _ h.2.2.2.1)).trans h.2.2.2.1,(hb.cell (World.block_lt_of_cell? _ _ h.2.2.2.2.1)).trans h.2.2.2.2.1,(hb.cell (World.block_lt_of_cell? _ _ h.2.2.2.2.2.1)).trans h.2.2.2.2.2.1,(hb.cell (World.block_lt_of_cell? _ _ h.2.2.2.2.2.2.1)).trans h.2.2.2.2.2.2.1,h.2.2.2.2.2.2.2.trans (hb.mono h.2.2.2.2.2.2.2.size)⟩) (⟨kr.drew,c1,c2,c3,c4,c5,c6,zG.drew⟩) (fun x=>?_)
      refine zS (fun w' hS hV K hK=>?_) ?_
      ·obtain⟨q0,q1⟩:=hS.1.two;have t1:=hS.2.1;have t2:=hS.2.2.1;have t3:=hS.2.2.2.1;have t4:=hS.2.2.2.2.1;have t5:=hS.2.2.2.2.2.1;have t6:=hS.2.2.2.2.2.2.1;go_simp;exact zO hK
      refine zS (fun w' hS hV K hK=>?_) ?_
      ·have e0:=zQ hV 0;obtain⟨q0,q1⟩:=hS.1.two;have t1:=hS.2.1;have t2:=hS.2.2.1;have t3:=hS.2.2.2.1;have t4:=hS.2.2.2.2.1;have t5:=hS.2.2.2.2.2.1;have t6:=hS.2.2.2.2.2.2.1;go_simp;refine (zb p A k c w').mono ?_;rintro e v1 ⟨rfl,hb⟩;exact hK.out _ _ _ rfl rfl rfl hb
      refine zS (fun w' hS hV K hK=>?_) ?_
      ·obtain⟨q0,q1⟩:=hS.1.two;have t1:=hS.2.1;have t2:=hS.2.2.1;have t3:=hS.2.2.2.1;have t4:=hS.2.2.2.2.1;have t5:=hS.2.2.2.2.2.1;have t6:=hS.2.2.2.2.2.2.1;go_simp;exact zO hK
      refine zS (fun w' hS hV K hK=>?_) ?_
      ·obtain⟨q0,q1⟩:=hS.1.two;have t1:=hS.2.1;have t2:=hS.2.2.1;have t3:=hS.2.2.2.1;have t4:=hS.2.2.2.2.1;have t5:=hS.2.2.2.2.2.1;have t6:=hS.2.2.2.2.2.2.1;go_simp;exact zO hK
      refine zS (fun w' hS hV K hK=>?_) ?_
      ·have e2:=zQ hV 2;have e3:=zQ hV 3;obtain⟨q0,q1⟩:=hS.1.two;have t1:=hS.2.1;have t2:=hS.2.2.1;have t3:=hS.2.2.2.1;have t4:=hS.2.2.2.2.1;have t5:=hS.2.2.2.2.2.1;have t6:=hS.2.2.2.2.2.2.1;go_simp;exact zO hK
      refine zS (fun w' hS hV K hK=>?_) ?_
      ·have e4:=zQ hV 4;obtain⟨q0,q1⟩:=hS.1.two;have t1:=hS.2.1;have t2:=hS.2.2.1;have t3:=hS.2.2.2.1;have t4:=hS.2.2.2.2.1;have t5:=hS.2.2.2.2.2.1;have t6:=hS.2.2.2.2.2.2.1;go_simp;exact zO hK
      refine zS (fun w' hS hV K hK=>?_) ?_
      ·obtain⟨q0,q1⟩:=hS.1.two;have t1:=hS.2.1;have t2:=hS.2.2.1;have t3:=hS.2.2.2.1;have t4:=hS.2.2.2.2.1;have t5:=hS.2.2.2.2.2.1;have t6:=hS.2.2.2.2.2.2.1;go_simp;exact zO hK
      refine zS (fun w' hS hV K hK=>?_) ?_
      ·have e5:=zQ hV 5;have e6:=zQ hV 6;obtain⟨q0,q1⟩:=hS.1.two;have t1:=hS.2.1;have t2:=hS.2.2.1;have t3:=hS.2.2.2.1;have t4:=hS.2.2.2.2.1;have t5:=hS.2.2.2.2.2.1;have t6:=hS.2.2.2.2.2.2.1;go_simp;exact zO hK
      refine zS (fun w' hS hV K hK=>?_) ?_
      ·have e7:=zQ hV 7;obtain⟨q0,q1⟩:=hS.1.two;have t1:=hS.2.1;have t2:=hS.2.2.1;have t3:=hS.2.2.2.1;have t4:=hS.2.2.2.2.1;have t5:=hS.2.2.2.2.2.1;have t6:=hS.2.2.2.2.2.2.1;go_simp;exact zO hK
      refine zS (fun w' hS hV K hK=>?_) ?_
      ·obtain⟨q0,q1⟩:=hS.1.two;have t1:=hS.2.1;have t2:=hS.2.2.1;have t3:=hS.2.2.2.1;have t4:=hS.2.2.2.2.1;have t5:=hS.2.2.2.2.2.1;have t6:=hS.2.2.2.2.2.2.1;go_simp;exact zO hK
      refine zS (fun w' hS hV K hK=>?_) ?_
      ·obtain⟨q0,q1⟩:=hS.1.two;have t1:=hS.2.1;have t2:=hS.2.2.1;have t3:=hS.2.2.2.1;have t4:=hS.2.2.2.2.1;have t5:=hS.2.2.2.2.2.1;have t6:=hS.2.2.2.2.2.2.1;go_simp;exact zO hK
      refine zS (fun w' hS hV K hK=>?_) ?_
      ·have e9:=zQ hV 9;have e10:=zQ hV 10;obtain⟨q0,q1⟩:=hS.1.two;have t1:=hS.2.1;have t2:=hS.2.2.1;have t3:=hS.2.2.2.1;have t4:=hS.2.2.2.2.1;have t5:=hS.2.2.2.2.2.1;have t6:=hS.2.2.2.2.2.2.1;go_simp;exact zO hK
      refine zS (fun w' hS hV K hK=>?_) ?_
      ·have e11:=zQ hV 11;obtain⟨q0,q1⟩:=hS.1.two;have t1:=hS.2.1;have t2:=hS.2.2.1;have t3:=hS.2.2.2.1;have t4:=hS.2.2.2.2.1;have t5:=hS.2.2.2.2.2.1;have t6:=hS.2.2.2.2.2.2.1;go_simp;exact zO hK
      refine zS (fun w' hS hV K hK=>?_) ?_
      ·have e8:=zQ hV 8;have e12:=zQ hV 12;obtain⟨q0,q1⟩:=hS.1.two;have t1:=hS.2.1;have t2:=hS.2.2.1;have t3:=hS.2.2.2.1;have t4:=hS.2.2.2.2.1;have t5:=hS.2.2.2.2.2.1;have t6:=hS.2.2.2.2.2.2.1;go_simp;exact hK.out _ _ _ rfl rfl (by first | rfl | exact congrArg (Value.int .i64) (by omega) | exact congrArg (Value.int .i64) (yi _ (by omega) (by omega))) zG
      refine zS (fun w' hS hV K hK=>?_) ?_
      ·obtain⟨q0,q1⟩:=hS.1.two;have t1:=hS.2.1;have t2:=hS.2.2.1;have t3:=hS.2.2.2.1;have t4:=hS.2.2.2.2.1;have t5:=hS.2.2.2.2.2.1;have t6:=hS.2.2.2.2.2.2.1;go_simp;exact zO hK
      refine zS (fun w' hS hV K hK=>?_) ?_
      ·obtain⟨q0,q1⟩:=hS.1.two;have t1:=hS.2.1;have t2:=hS.2.2.1;have t3:=hS.2.2.2.1;have t4:=hS.2.2.2.2.1;have t5:=hS.2.2.2.2.2.1;have t6:=hS.2.2.2.2.2.2.1;go_simp;exact zO hK
      refine zS (fun w' hS hV K hK=>?_) ?_
      ·have e14:=zQ hV 14;have e15:=zQ hV 15;obtain⟨q0,q1⟩:=hS.1.two;have t1:=hS.2.1;have t2:=hS.2.2.1;have t3:=hS.2.2.2.1;have t4:=hS.2.2.2.2.1;have t5:=hS.2.2.2.2.2.1;have t6:=hS.2.2.2.2.2.2.1;go_simp;exact zO hK
      refine zS (fun w' hS hV K hK=>?_) ?_
      ·have e16:=zQ hV 16;obtain⟨q0,q1⟩:=hS.1.two;have t1:=hS.2.1;have t2:=hS.2.2.1;have t3:=hS.2.2.2.1;have t4:=hS.2.2.2.2.1;have t5:=hS.2.2.2.2.2.1;have t6:=hS.2.2.2.2.2.2.1;go_simp;exact zO hK
      refine zS (fun w' hS hV K hK=>?_) ?_
      ·obtain⟨q0,q1⟩:=hS.1.two;have t1:=hS.2.1;have t2:=hS.2.2.1;have t3:=hS.2.2.2.1;have t4:=hS.2.2.2.2.1;have t5:=hS.2.2.2.2.2.1;have t6:=hS.2.2.2.2.2.2.1;go_simp;exact zO hK
      refine zS (fun w' hS hV K hK=>?_) ?_
      ·have e17:=zQ hV 17;have e18:=zQ hV 18;obtain⟨q0,q1⟩:=hS.1.two;have t1:=hS.2.1;have t2:=hS.2.2.1;have t3:=hS.2.2.2.1;have t4:=hS.2.2.2.2.1;have t5:=hS.2.2.2.2.2.1;have t6:=hS.2.2.2.2.2.2.1;go_simp;exact zO hK
      refine zS (fun w' hS hV K hK=>?_) ?_
      ·have e19:=zQ hV 19;obtain⟨q0,q1⟩:=hS.1.two;have t1:=hS.2.1;have t2:=hS.2.2.1;have t3:=hS.2.2.2.1;have t4:=hS.2.2.2.2.1;have t5:=hS.2.2.2.2.2.1;have t6:=hS.2.2.2.2.2.2.1;go_simp;exact zO hK
      refine zS (fun w' hS hV K hK=>?_) ?_
      ·obtain⟨q0,q1⟩:=hS.1.two;have t1:=hS.2.1;have t2:=hS.2.2.1;have t3:=hS.2.2.2.1;have t4:=hS.2.2.2.2.1;have t5:=hS.2.2.2.2.2.1;have t6:=hS.2.2.2.2.2.2.1;go_simp;exact zO hK
      refine zS (fun w' hS hV K hK=>?_) ?_
      ·obtain⟨q0,q1⟩:=hS.1.two;have t1:=hS.2.1;have t2:=hS.2.2.1;have t3:=hS.2.2.2.1;have t4:=hS.2.2.2.2.1;have t5:=hS.2.2.2.2.2.1;have t6:=hS.2.2.2.2.2.2.1;go_simp;exact zO hK
      refine zS (fun w' hS hV K hK=>?_) ?_
      ·have e21:=zQ hV 21;have e22:=zQ hV 22;obtain⟨q0,q1⟩:=hS.1.two;have t1:=hS.2.1;have t2:=hS.2.2.1;have t3:=hS.2.2.2.1;have t4:=hS.2.2.2.2.1;have t5:=hS.2.2.2.2.2.1;have t6:=hS.2.2.2.2.2.2.1;go_simp;exact zO hK
      refine zS (fun w' hS hV K hK=>?_) ?_
      ·have e23:=zQ hV 23;obtain⟨q0,q1⟩:=hS.1.two;have t1:=hS.2.1;have t2:=hS.2.2.1;have t3:=hS.2.2.2.1;have t4:=hS.2.2.2.2.1;have t5:=hS.2.2.2.2.2.1;have t6:=hS.2.2.2.2.2.2.1;go_simp;exact zO hK
      refine zS (fun w' hS hV K hK=>?_) ?_
      ·have e20:=zQ hV 20;have e24:=zQ hV 24;obtain⟨q0,q1⟩:=hS.1.two;have t1:=hS.2.1;have t2:=hS.2.2.1;have t3:=hS.2.2.2.1;have t4:=hS.2.2.2.2.1;have t5:=hS.2.2.2.2.2.1;have t6:=hS.2.2.2.2.2.2.1;go_simp;exact hK.out _ _ _ rfl rfl (by first | rfl | exact congrArg (Value.int .i64) (by omega) | exact congrArg (Value.int .i64) (yi _ (by omega) (by omega))) zG
      refine zS (fun w' hS hV K hK=>?_) ?_
      ·have e13:=zQ hV 13;have e25:=zQ hV 25;obtain⟨q0,q1⟩:=hS.1.two;have t1:=hS.2.1;have t2:=hS.2.2.1;have t3:=hS.2.2.2.1;have t4:=hS.2.2.2.2.1;have t5:=hS.2.2.2.2.2.1;have t6:=hS.2.2.2.2.2.2.1;go_simp;exact hK.out _ _ _ rfl rfl (by first | rfl | exact congrArg (Value.int .i64) (by omega) | exact congrArg (Value.int .i64) (yi _ (by omega) (by omega))) zG
      refine zS (fun w' hS hV K hK=>?_) ?_
      ·have e1:=zQ hV 1;have e26:=zQ hV 26;obtain⟨q0,q1⟩:=hS.1.two;have t1:=hS.2.1;have t2:=hS.2.2.1;have t3:=hS.2.2.2.1;have t4:=hS.2.2.2.2.1;have t5:=hS.2.2.2.2.2.1;have t6:=hS.2.2.2.2.2.2.1;go_simp;refine (zN p (x1*d1+x2*d2) w' (by omega) hp2 (by omega) (by omega)).mono ?_;rintro e v1 ⟨rfl,rfl⟩;exact hK.out _ _ _ rfl rfl (by rw[hz0];rfl) zG
      refine zS (fun w' hS hV K hK=>?_) ?_
      ·have e27:=zQ hV 27;obtain⟨q0,q1⟩:=hS.1.two;have t1:=hS.2.1;have t2:=hS.2.2.1;have t3:=hS.2.2.2.1;have t4:=hS.2.2.2.2.1;have t5:=hS.2.2.2.2.2.1;have t6:=hS.2.2.2.2.2.2.1;go_simp;exact zO hK
      refine fun w' hS hV=>?_
      have e0:=zT hV 0
      have e1:=zT hV 1
      have e2:=zT hV 2
      have e3:=zT hV 3
      have e4:=zT hV 4
      have e5:=zT hV 5
      have e6:=zT hV 6
      have e7:=zT hV 7
      have e8:=zT hV 8
      have e9:=zT hV 9
      have e10:=zT hV 10
      have e11:=zT hV 11
      have e12:=zT hV 12
      have e13:=zT hV 13
      have e14:=zT hV 14
      have e15:=zT hV 15
      have e16:=zT hV 16
      have e17:=zT hV 17
      have e18:=zT hV 18
      have e19:=zT hV 19
      have e20:=zT hV 20
      have e21:=zT hV 21
      have e22:=zT hV 22
      have e23:=zT hV 23
      have e24:=zT hV 24
      have e25:=zT hV 25
      have e26:=zT hV 26
      have e27:=zT hV 27
      have e28:=zT hV 28
      simp only[e0,e1,e2,e3,e4,e5,e6,e7,e8,e9,e10,e11,e12,e13,e14,e15,e16,e17,e18,e19,e20,e21,e22,e23,e24,e25,e26,e27,e28]
      clear e0 e1 e2 e3 e4 e5 e6 e7 e8 e9 e10 e11 e12 e13 e14 e15 e16 e17 e18 e19 e20 e21 e22 e23 e24 e25 e26 e27 e28
      refine wpAny_done (by kernel_rfl) ?_ _
      obtain⟨k7, -, -, -, -, -, -,s2⟩:=hS
      have HB7:=Lib.hid (HB.out.trans (s2.mono HB.out.size))
      have HI2:Hid (∀ q',q'<q+1→gapS p DG M i q'=0):=Lib.hid fun q' h=>by
       by_cases he:q'=q
       ·subst he;exact HG0.out
       ·exact HI.out q' (by omega)
      clear hV s2 m1 m2 m3 m4 hz0 c1 c2 c3 c4 c5 c6
      go_wp2
      go_roundw
      case rel=>exact⟨q+1,by omega,by go_num,HB7,k7,HI2⟩
      case measure=>simp[intOf];omega
     ·have hzn:¬ z=0:=hz
      have hne2:¬ (x1*d1+x2*d2)%p=0:=fun e=>hz (hzz.trans e)
      have hzb:(z == 0)=false:=by simpa using hz
      have HF:Hid (R=false):=Lib.hid (HRF.out i q hlt hlq (by rw[HZG.out];exact hz))
      clear hz HZG
      go_wp2
      refine yh 29 [[],[0],[],[],[2,3],[2,3,4],[],[2,3,4,5,6],[2,3,4,5,6,7],[],[],[9,10],[9,10,11],[2,3,4,5,6,7,8,9,10,11,12],[],[],[14,15],[14,15,16],[],[14,15,16,17,18],[14,15,16,17,18,19],[],[],[21,22],[21,22,23],[14,15,16,17,18,19,20,21,22,23,24],[2,3,4,5,6,7,8,9,10,11,12,13,14,15,16,17,18,19,20,21,22,23,24,25],[0,1,2,3,4,5,6,7,8,9,10,11,12,13,14,15,16,17,18,19,20,21,22,23,24,25,26],[0,1,2,3,4,5,6,7,8,9,10,11,12,13,14,15,16,17,18,19,20,21,22,23,24,25,26,27]] [VIs (.agg #[.int .i64 p,.slice A k c]),VIs (.int .i64 (p)),VIs (.slice (some ⟨g,o,none⟩) n cm),VIs (.int .i64 (i)),VIs (.pointer (some ⟨g,o+i,none⟩)),VIs (.slice (some ⟨gi,oi,none⟩) n ci),VIs (.int .i64 (q)),VIs (.pointer (some ⟨gi,oi+q,none⟩)),VIs (.int .i64 (x1)),VIs (.slice (some ⟨gd,od,none⟩) n cd),VIs (.int .i64 (i)),VIs (.pointer (some ⟨gd,od+i,none⟩)),VIs (.int .i64 (d1)),VIs (.int .i64 (x1*d1)),VIs (.slice (some ⟨g,o,none⟩) n cm),VIs (.int .i64 (q)),VIs (.pointer (some ⟨g,o+q,none⟩)),VIs (.slice (some ⟨gq,oq,none⟩) n cq),VIs (.int .i64 (i)),VIs (.pointer (some ⟨gq,oq+i,none⟩)),VIs (.int .i64 (x2)),VIs (.slice (some ⟨gd,od,none⟩) n cd),VIs (.int .i64 (q)),VIs (.pointer (some ⟨gd,od+q,none⟩)),VIs (.int .i64 (d2)),VIs (.int .i64 (x2*d2)),VIs (.int .i64 (x1*d1+x2*d2)),VIs (.int .i64 (z)),VIs (.bool true)] (fun w'=>Blk w' w.heap.size 26 #[.int .i64 p,.slice A k c]∧w'.cell? ⟨g,o+i,none⟩=some (.slice (some ⟨gi,oi,none⟩) n ci)∧w'.cell? ⟨gi,oi+q,none⟩=some (.int .i64 x1)∧w'.cell? ⟨gd,od+i,none⟩=some (.int .i64 d1)∧w'.cell? ⟨g,o+q,none⟩=some (.slice (some ⟨gq,oq,none⟩) n cq)∧w'.cell? ⟨gq,oq+i,none⟩=some (.int .i64 x2)∧w'.cell? ⟨gd,od+q,none⟩=some (.int .i64 d2)∧Below wr.heap.size wr w') (by kernel_rfl) (by kernel_rfl) (fun _ _ h hb=>⟨h.1.below hb h.1.lt,(hb.cell (World.block_lt_of_cell? _ _ h.2.1)).trans h.2.1,(hb.cell (World.block_lt_of_cell? _ _ h.2.2.1)).trans h.2.2.1,(hb.cell (World.block_lt_of_cell? _ _ h.2.2.2.1)).trans h.2.2.2.1,(hb.cell (World.block_lt_of_cell? _ _ h.2.2.2.2.1)).trans h.2.2.2.2.1,(hb.cell (World.block_lt_of_cell? _ _ h.2.2.2.2.2.1)).trans h.2.2.2.2.2.1,(hb.cell (World.block_lt_of_cell? _ _ h.2.2.2.2.2.2.1)).trans h.2.2.2.2.2.2.1,h.2.2.2.2.2.2.2.trans (hb.mono h.2.2.2.2.2.2.2.size)⟩) (⟨kr.drew,c1,c2,c3,c4,c5,c6,zG.drew⟩) (fun x=>?_)
      refine zS (fun w' hS hV K hK=>?_) ?_
      ·obtain⟨q0,q1⟩:=hS.1.two;have t1:=hS.2.1;have t2:=hS.2.2.1;have t3:=hS.2.2.2.1;have t4:=hS.2.2.2.2.1;have t5:=hS.2.2.2.2.2.1;have t6:=hS.2.2.2.2.2.2.1;go_simp;exact zO hK
      refine zS (fun w' hS hV K hK=>?_) ?_
      ·have e0:=zQ hV 0;obtain⟨q0,q1⟩:=hS.1.two;have t1:=hS.2.1;have t2:=hS.2.2.1;have t3:=hS.2.2.2.1;have t4:=hS.2.2.2.2.1;have t5:=hS.2.2.2.2.2.1;have t6:=hS.2.2.2.2.2.2.1;go_simp;refine (zb p A k c w').mono ?_;rintro e v1 ⟨rfl,hb⟩;exact hK.out _ _ _ rfl rfl rfl hb
      refine zS (fun w' hS hV K hK=>?_) ?_
      ·obtain⟨q0,q1⟩:=hS.1.two;have t1:=hS.2.1;have t2:=hS.2.2.1;have t3:=hS.2.2.2.1;have t4:=hS.2.2.2.2.1;have t5:=hS.2.2.2.2.2.1;have t6:=hS.2.2.2.2.2.2.1;go_simp;exact zO hK
      refine zS (fun w' hS hV K hK=>?_) ?_
      ·obtain⟨q0,q1⟩:=hS.1.two;have t1:=hS.2.1;have t2:=hS.2.2.1;have t3:=hS.2.2.2.1;have t4:=hS.2.2.2.2.1;have t5:=hS.2.2.2.2.2.1;have t6:=hS.2.2.2.2.2.2.1;go_simp;exact zO hK
      refine zS (fun w' hS hV K hK=>?_) ?_
      ·have e2:=zQ hV 2;have e3:=zQ hV 3;obtain⟨q0,q1⟩:=hS.1.two;have t1:=hS.2.1;have t2:=hS.2.2.1;have t3:=hS.2.2.2.1;have t4:=hS.2.2.2.2.1;have t5:=hS.2.2.2.2.2.1;have t6:=hS.2.2.2.2.2.2.1;go_simp;exact zO hK
      refine zS (fun w' hS hV K hK=>?_) ?_
      ·have e4:=zQ hV 4;obtain⟨q0,q1⟩:=hS.1.two;have t1:=hS.2.1;have t2:=hS.2.2.1;have t3:=hS.2.2.2.1;have t4:=hS.2.2.2.2.1;have t5:=hS.2.2.2.2.2.1;have t6:=hS.2.2.2.2.2.2.1;go_simp;exact zO hK
      refine zS (fun w' hS hV K hK=>?_) ?_
      ·obtain⟨q0,q1⟩:=hS.1.two;have t1:=hS.2.1;have t2:=hS.2.2.1;have t3:=hS.2.2.2.1;have t4:=hS.2.2.2.2.1;have t5:=hS.2.2.2.2.2.1;have t6:=hS.2.2.2.2.2.2.1;go_simp;exact zO hK
      refine zS (fun w' hS hV K hK=>?_) ?_
      ·have e5:=zQ hV 5;have e6:=zQ hV 6;obtain⟨q0,q1⟩:=hS.1.two;have t1:=hS.2.1;have t2:=hS.2.2.1;have t3:=hS.2.2.2.1;have t4:=hS.2.2.2.2.1;have t5:=hS.2.2.2.2.2.1;have t6:=hS.2.2.2.2.2.2.1;go_simp;exact zO hK
      refine zS (fun w' hS hV K hK=>?_) ?_
      ·have e7:=zQ hV 7;obtain⟨q0,q1⟩:=hS.1.two;have t1:=hS.2.1;have t2:=hS.2.2.1;have t3:=hS.2.2.2.1;have t4:=hS.2.2.2.2.1;have t5:=hS.2.2.2.2.2.1;have t6:=hS.2.2.2.2.2.2.1;go_simp;exact zO hK
      refine zS (fun w' hS hV K hK=>?_) ?_
      ·obtain⟨q0,q1⟩:=hS.1.two;have t1:=hS.2.1;have t2:=hS.2.2.1;have t3:=hS.2.2.2.1;have t4:=hS.2.2.2.2.1;have t5:=hS.2.2.2.2.2.1;have t6:=hS.2.2.2.2.2.2.1;go_simp;exact zO hK
      refine zS (fun w' hS hV K hK=>?_) ?_
      ·obtain⟨q0,q1⟩:=hS.1.two;have t1:=hS.2.1;have t2:=hS.2.2.1;have t3:=hS.2.2.2.1;have t4:=hS.2.2.2.2.1;have t5:=hS.2.2.2.2.2.1;have t6:=hS.2.2.2.2.2.2.1;go_simp;exact zO hK
      refine zS (fun w' hS hV K hK=>?_) ?_
      ·have e9:=zQ hV 9;have e10:=zQ hV 10;obtain⟨q0,q1⟩:=hS.1.two;have t1:=hS.2.1;have t2:=hS.2.2.1;have t3:=hS.2.2.2.1;have t4:=hS.2.2.2.2.1;have t5:=hS.2.2.2.2.2.1;have t6:=hS.2.2.2.2.2.2.1;go_simp;exact zO hK
      refine zS (fun w' hS hV K hK=>?_) ?_
      ·have e11:=zQ hV 11;obtain⟨q0,q1⟩:=hS.1.two;have t1:=hS.2.1;have t2:=hS.2.2.1;have t3:=hS.2.2.2.1;have t4:=hS.2.2.2.2.1;have t5:=hS.2.2.2.2.2.1;have t6:=hS.2.2.2.2.2.2.1;go_simp;exact zO hK
      refine zS (fun w' hS hV K hK=>?_) ?_
      ·have e8:=zQ hV 8;have e12:=zQ hV 12;obtain⟨q0,q1⟩:=hS.1.two;have t1:=hS.2.1;have t2:=hS.2.2.1;have t3:=hS.2.2.2.1;have t4:=hS.2.2.2.2.1;have t5:=hS.2.2.2.2.2.1;have t6:=hS.2.2.2.2.2.2.1;go_simp;exact hK.out _ _ _ rfl rfl (by first | rfl | exact congrArg (Value.int .i64) (by omega) | exact congrArg (Value.int .i64) (yi _ (by omega) (by omega))) zG
      refine zS (fun w' hS hV K hK=>?_) ?_
      ·obtain⟨q0,q1⟩:=hS.1.two;have t1:=hS.2.1;have t2:=hS.2.2.1;have t3:=hS.2.2.2.1;have t4:=hS.2.2.2.2.1;have t5:=hS.2.2.2.2.2.1;have t6:=hS.2.2.2.2.2.2.1;go_simp;exact zO hK
      refine zS (fun w' hS hV K hK=>?_) ?_
      ·obtain⟨q0,q1⟩:=hS.1.two;have t1:=hS.2.1;have t2:=hS.2.2.1;have t3:=hS.2.2.2.1;have t4:=hS.2.2.2.2.1;have t5:=hS.2.2.2.2.2.1;have t6:=hS.2.2.2.2.2.2.1;go_simp;exact zO hK
      refine zS (fun w' hS hV K hK=>?_) ?_
      ·have e14:=zQ hV 14;have e15:=zQ hV 15;obtain⟨q0,q1⟩:=hS.1.two;have t1:=hS.2.1;have t2:=hS.2.2.1;have t3:=hS.2.2.2.1;have t4:=hS.2.2.2.2.1;have t5:=hS.2.2.2.2.2.1;have t6:=hS.2.2.2.2.2.2.1;go_simp;exact zO hK
      refine zS (fun w' hS hV K hK=>?_) ?_
      ·have e16:=zQ hV 16;obtain⟨q0,q1⟩:=hS.1.two;have t1:=hS.2.1;have t2:=hS.2.2.1;have t3:=hS.2.2.2.1;have t4:=hS.2.2.2.2.1;have t5:=hS.2.2.2.2.2.1;have t6:=hS.2.2.2.2.2.2.1;go_simp;exact zO hK
      refine zS (fun w' hS hV K hK=>?_) ?_
      ·obtain⟨q0,q1⟩:=hS.1.two;have t1:=hS.2.1;have t2:=hS.2.2.1;have t3:=hS.2.2.2.1;have t4:=hS.2.2.2.2.1;have t5:=hS.2.2.2.2.2.1;have t6:=hS.2.2.2.2.2.2.1;go_simp;exact zO hK
      refine zS (fun w' hS hV K hK=>?_) ?_
      ·have e17:=zQ hV 17;have e18:=zQ hV 18;obtain⟨q0,q1⟩:=hS.1.two;have t1:=hS.2.1;have t2:=hS.2.2.1;have t3:=hS.2.2.2.1;have t4:=hS.2.2.2.2.1;have t5:=hS.2.2.2.2.2.1;have t6:=hS.2.2.2.2.2.2.1;go_simp;exact zO hK
      refine zS (fun w' hS hV K hK=>?_) ?_
      ·have e19:=zQ hV 19;obtain⟨q0,q1⟩:=hS.1.two;have t1:=hS.2.1;have t2:=hS.2.2.1;have t3:=hS.2.2.2.1;have t4:=hS.2.2.2.2.1;have t5:=hS.2.2.2.2.2.1;have t6:=hS.2.2.2.2.2.2.1;go_simp;exact zO hK
      refine zS (fun w' hS hV K hK=>?_) ?_
      ·obtain⟨q0,q1⟩:=hS.1.two;have t1:=hS.2.1;have t2:=hS.2.2.1;have t3:=hS.2.2.2.1;have t4:=hS.2.2.2.2.1;have t5:=hS.2.2.2.2.2.1;have t6:=hS.2.2.2.2.2.2.1;go_simp;exact zO hK
      refine zS (fun w' hS hV K hK=>?_) ?_
      ·obtain⟨q0,q1⟩:=hS.1.two;have t1:=hS.2.1;have t2:=hS.2.2.1;have t3:=hS.2.2.2.1;have t4:=hS.2.2.2.2.1;have t5:=hS.2.2.2.2.2.1;have t6:=hS.2.2.2.2.2.2.1;go_simp;exact zO hK
      refine zS (fun w' hS hV K hK=>?_) ?_
      ·have e21:=zQ hV 21;have e22:=zQ hV 22;obtain⟨q0,q1⟩:=hS.1.two;have t1:=hS.2.1;have t2:=hS.2.2.1;have t3:=hS.2.2.2.1;have t4:=hS.2.2.2.2.1;have t5:=hS.2.2.2.2.2.1;have t6:=hS.2.2.2.2.2.2.1;go_simp;exact zO hK
      refine zS (fun w' hS hV K hK=>?_) ?_
      ·have e23:=zQ hV 23;obtain⟨q0,q1⟩:=hS.1.two;have t1:=hS.2.1;have t2:=hS.2.2.1;have t3:=hS.2.2.2.1;have t4:=hS.2.2.2.2.1;have t5:=hS.2.2.2.2.2.1;have t6:=hS.2.2.2.2.2.2.1;go_simp;exact zO hK
      refine zS (fun w' hS hV K hK=>?_) ?_
      ·have e20:=zQ hV 20;have e24:=zQ hV 24;obtain⟨q0,q1⟩:=hS.1.two;have t1:=hS.2.1;have t2:=hS.2.2.1;have t3:=hS.2.2.2.1;have t4:=hS.2.2.2.2.1;have t5:=hS.2.2.2.2.2.1;have t6:=hS.2.2.2.2.2.2.1;go_simp;exact hK.out _ _ _ rfl rfl (by first | rfl | exact congrArg (Value.int .i64) (by omega) | exact congrArg (Value.int .i64) (yi _ (by omega) (by omega))) zG
      refine zS (fun w' hS hV K hK=>?_) ?_
      ·have e13:=zQ hV 13;have e25:=zQ hV 25;obtain⟨q0,q1⟩:=hS.1.two;have t1:=hS.2.1;have t2:=hS.2.2.1;have t3:=hS.2.2.2.1;have t4:=hS.2.2.2.2.1;have t5:=hS.2.2.2.2.2.1;have t6:=hS.2.2.2.2.2.2.1;go_simp;exact hK.out _ _ _ rfl rfl (by first | rfl | exact congrArg (Value.int .i64) (by omega) | exact congrArg (Value.int .i64) (yi _ (by omega) (by omega))) zG
      refine zS (fun w' hS hV K hK=>?_) ?_
      ·have e1:=zQ hV 1;have e26:=zQ hV 26;obtain⟨q0,q1⟩:=hS.1.two;have t1:=hS.2.1;have t2:=hS.2.2.1;have t3:=hS.2.2.2.1;have t4:=hS.2.2.2.2.1;have t5:=hS.2.2.2.2.2.1;have t6:=hS.2.2.2.2.2.2.1;go_simp;refine (zN p (x1*d1+x2*d2) w' (by omega) hp2 (by omega) (by omega)).mono ?_;rintro e v1 ⟨rfl,rfl⟩;exact hK.out _ _ _ rfl rfl (by rw[hzz];rfl) zG
      refine zS (fun w' hS hV K hK=>?_) ?_
      ·have e27:=zQ hV 27;obtain⟨q0,q1⟩:=hS.1.two;have t1:=hS.2.1;have t2:=hS.2.2.1;have t3:=hS.2.2.2.1;have t4:=hS.2.2.2.2.1;have t5:=hS.2.2.2.2.2.1;have t6:=hS.2.2.2.2.2.2.1;go_simp;exact hK.out _ _ _ rfl rfl (by first | rfl | exact congrArg Value.bool (by first | (simp[hzn];done) | (simp[hzn,hne2];done) | (simp;exact hne2))) zG
      refine fun w' hS hV=>?_
      have e0:=zT hV 0
      have e1:=zT hV 1
      have e2:=zT hV 2
      have e3:=zT hV 3
      have e4:=zT hV 4
      have e5:=zT hV 5
      have e6:=zT hV 6
      have e7:=zT hV 7
      have e8:=zT hV 8
      have e9:=zT hV 9
      have e10:=zT hV 10
      have e11:=zT hV 11
      have e12:=zT hV 12
      have e13:=zT hV 13
      have e14:=zT hV 14
      have e15:=zT hV 15
      have e16:=zT hV 16
      have e17:=zT hV 17
      have e18:=zT hV 18
      have e19:=zT hV 19
      have e20:=zT hV 20
      have e21:=zT hV 21
      have e22:=zT hV 22
      have e23:=zT hV 23
      have e24:=zT hV 24
      have e25:=zT hV 25
      have e26:=zT hV 26
      have e27:=zT hV 27
      have e28:=zT hV 28
      simp only[e0,e1,e2,e3,e4,e5,e6,e7,e8,e9,e10,e11,e12,e13,e14,e15,e16,e17,e18,e19,e20,e21,e22,e23,e24,e25,e26,e27,e28]
      clear e0 e1 e2 e3 e4 e5 e6 e7 e8 e9 e10 e11 e12 e13 e14 e15 e16 e17 e18 e19 e20 e21 e22 e23 e24 e25 e26 e27 e28
      refine wpAny_done (by kernel_rfl) ?_ _
      obtain⟨k7, -, -, -, -, -, -,s2⟩:=hS
      have hfin:=HB2.out.trans ((HB.out.trans (s2.mono HB.out.size)).mono HB2.out.size)
      clear hV s2 m1 m2 m3 m4 c1 c2 c3 c4 c5 c6
      go_wp2
      go_ret
      exact⟨by rw[HF.out];rfl,hfin⟩
    ·have HQE:Hid (q=n):=Lib.hid (by omega)
     have HO2:Hid (∀ a b,a<i+1→b<n→gapS p DG M a b=0):=Lib.hid fun a b ha hb=>by
      by_cases he:a=i
      ·subst he;exact HI.out b (by have:=HQE.out;omega)
      ·exact HO.out a b (by omega) hb
     go_wp2
     go_roundw
     case rel=>exact⟨i+1,by omega,by go_num,HB,kr,HO2⟩
     case measure=>simp[intOf];omega
  ·obtain rfl:i=n:=by omega
   have hfin:=HB2.out.trans (HB.out.mono HB2.out.size)
   have HTT:=Lib.hid (HRT.out HO.out)
   go_wp2
   go_ret
   exact⟨by rw[HTT.out];rfl,hfin⟩
set_option maxHeartbeats 6400000 in
set_option maxRecDepth 8000 in
theorem yfW (p:Int) (hp:2≤p) (hp2:p≤13) (k:Nat) (hk:k≤4) (A:Option Addr) (c:Nat) (st:List Int) (m:Option Addr) (cm:Nat) (M:List (List Int)) (w:World) (hc:k≤c) (ha:Rd w A k (ints st)) (hst:NumsL p st) (hm:RdII w m (pw k) M) (hT:Tab p (pw k) M) :
 Calls Tryz.prog 90 #[.agg #[.int .i64 p,.slice A k c],.slice m (pw k) cm] w fun e w'=>e=.returned (.bool (xk p k st M))∧Below w.heap.size w w':=by
 have hpk:pw k≤16:=yz hk
 have hpos:=yq k
 have hB0:Below w.heap.size w (w.alloc (.cells #[.int .i64 p,.slice A k c] 26)):=zG.alloc (Nat.le_refl _) _
 have k0:Blk (w.alloc (.cells #[.int .i64 p,.slice A k c] 26)) w.heap.size 26 #[.int .i64 p,.slice A k c]:=Blk.new _ _ _
 have hdg:=jZ p hp hp2 k hk A c st (w.alloc (.cells #[.int .i64 p,.slice A k c] 26)) hc (ha.below hB0) hst
 have hDN:=vn (show 0<p by omega) k st
 obtain⟨R,hR⟩:∃ z,z=xk p k st M:=⟨_,rfl⟩
 rw[← hR]
 unfold xk at hR
 obtain⟨DG,hDG⟩:∃ z,z=dgL p k st:=⟨_,rfl⟩
 obtain⟨n,hn⟩:∃ n,n=pw k:=⟨_,rfl⟩
 rw[← hDG]at hdg hDN hR
 rw[← hn]at hpk hpos hdg hm hT hR ⊢
 have HRT:Hid ((∀ a q,a<n→q≤a→gapS p DG M a q=0)→R=true):=Lib.hid fun h=>hR.trans (uO.2 fun a q ha hq=>by by_cases hle:q≤a;exact h a q ha hle;rw[ye0];exact h q a hq (by omega))
 have HRF:Hid (∀ a q,a<n→q<n→gapS p DG M a q≠0→R=false):=Lib.hid fun a q ha hq h=>by
  cases hb:R
  ·rfl
  ·exact absurd (uO.1 (hR.symm.trans hb) a q ha hq) h
 have HDN:=Lib.hid hDN
 have HT:=Lib.hid hT
 obtain⟨q0,q1⟩:=k0.two
 obtain⟨g,o,rfl, -⟩:=hm.at_ hpos
 clear hDG hn hR hDN hT ha hst
 go_enter Tryz.func90,Tryz.ntmps90
 go_wp2_with fail
 refine hdg.mono ?_
 rintro e w2 ⟨D,cd,rfl,hD⟩
 have hB2:=hB0.trans (hD.b.mono hB0.size)
 have k2:=k0.below hD.b k0.lt
 obtain⟨gd,od,rfl, -⟩:=hD.rd.int hpos
 have HD:=Lib.hid hD.rd
 have HM:=Lib.hid (hm.below hB2)
 have HB2:=Lib.hid hB2
 clear q0 q1 hdg k0 hB0 hD hm hB2
 go_wp2
 go_loopw [6] (fun i wr=>∃ j:Nat,j≤n∧i=.int .i64 j∧Hid (Below w2.heap.size w2 wr)∧Blk wr w.heap.size 26 #[.int .i64 p,.slice A k c]∧Hid (∀ a q,a<j→q≤a→gapS p DG M a q=0)) (fun i _=>n-(intOf i).toNat)
 case atStart=>exact⟨0,by omega,rfl,Lib.hid zG,k2,Lib.hid (fun a q h=>absurd h (by omega))⟩
 case round=>
  obtain⟨i,hi',rfl,HB,kr,HO⟩:=hrel
  clear k2
  by_cases hlt:i<n
  ·go_wp2
   go_loopw [7] (fun i_ wr=>∃ j:Nat,j≤(i+1)∧i_=.int .i64 j∧Hid (Below w2.heap.size w2 wr)∧Blk wr w.heap.size 26 #[.int .i64 p,.slice A k c]∧Hid (∀ q,q<j→gapS p DG M i q=0)) (fun i_ _=>(i+1)-(intOf i_).toNat)
   case atStart=>exact⟨0,by omega,rfl,HB,kr,Lib.hid (fun q h=>absurd h (by omega))⟩
   case round=>
    obtain⟨q,hq',rfl,HB,kr,HI⟩:=hrel
    by_cases hcq:q≤i
    ·have hlq:q<n:=by omega
     obtain⟨gi,oi,ci,c1,c2⟩:=(HM.out.below HB.out).grid HT.out hlt hlq
     obtain⟨gq,oq,cq,c4,c5⟩:=(HM.out.below HB.out).grid HT.out hlq hlt
     obtain⟨gd1,od1,e1,hx1,c3⟩:=(HD.out.below HB.out).int hlt
     obtain⟨gd2,od2,e2,hx2,c6⟩:=(HD.out.below HB.out).int hlq
     injection e1 with e1;injection e1 with e11 e12 _
     injection e2 with e2;injection e2 with e21 e22 _
     subst e11 e12 e21 e22
     have hzg:gapS p DG M i q=(ent M i q*DG[i]+ent M q i*DG[q])%p:=by unfold gapS;rw[yc 0 hx1,yc 0 hx2]
     obtain⟨b1,b2⟩:=HT.out.ent (show 0<p by omega) i q
     obtain⟨b3,b4⟩:=HT.out.ent (show 0<p by omega) q i
     obtain⟨b5,b6⟩:=HDN.out _ (List.getElem_mem hx1)
     obtain⟨b7,b8⟩:=HDN.out _ (List.getElem_mem hx2)
     obtain⟨x1,hx1e⟩:∃ z,z=ent M i q:=⟨_,rfl⟩
     obtain⟨x2,hx2e⟩:∃ z,z=ent M q i:=⟨_,rfl⟩
     obtain⟨d1,hd1e⟩:∃ z,z=DG[i]:=⟨_,rfl⟩
     obtain⟨d2,hd2e⟩:∃ z,z=DG[q]:=⟨_,rfl⟩
     rw[← hx1e,← hx2e,← hd1e,← hd2e]at hzg
     rw[← hx1e]at c2 b1 b2
     rw[← hx2e]at c5 b3 b4
     rw[← hd1e]at c3 b5 b6
     rw[← hd2e]at c6 b7 b8
     have m1:0≤x1*d1:=Int.mul_nonneg b1 b5
     have m2:x1*d1≤13*13:=Int.mul_le_mul (by omega) (by omega) b5 (by omega)
     have m3:0≤x2*d2:=Int.mul_nonneg b3 b7
     have m4:x2*d2≤13*13:=Int.mul_le_mul (by omega) (by omega) b7 (by omega)
     clear hx1e hx2e hd1e hd2e hx1 hx2 b1 b2 b3 b4 b5 b6 b7 b8
     obtain⟨z,hzz⟩:∃ z,z=(x1*d1+x2*d2)%p:=⟨_,rfl⟩
     rw[← hzz]at hzg
     have HZG:=Lib.hid hzg
     clear hzg
     by_cases hz:z=0
     ·have hz0:(x1*d1+x2*d2)%p=0:=hzz.symm.trans hz
      have HG0:Hid (gapS p DG M i q=0):=Lib.hid (HZG.out.trans hz)
      clear hzz hz HZG
      go_wp2
      refine yh 29 [[],[0],[],[],[2,3],[2,3,4],[],[2,3,4,5,6],[2,3,4,5,6,7],[],[],[9,10],[9,10,11],[2,3,4,5,6,7,8,9,10,11,12],[],[],[14,15],[14,15,16],[],[14,15,16,17,18],[14,15,16,17,18,19],[],[],[21,22],[21,22,23],[14,15,16,17,18,19,20,21,22,23,24],[2,3,4,5,6,7,8,9,10,11,12,13,14,15,16,17,18,19,20,21,22,23,24,25],[0,1,2,3,4,5,6,7,8,9,10,11,12,13,14,15,16,17,18,19,20,21,22,23,24,25,26],[0,1,2,3,4,5,6,7,8,9,10,11,12,13,14,15,16,17,18,19,20,21,22,23,24,25,26,27]] [VIs (.pointer (some ⟨w.heap.size,0,none⟩)),VIs (.int .i64 (p)),VIs (.slice (some ⟨g,o,none⟩) n cm),VIs (.int .i64 (i)),VIs (.pointer (some ⟨g,o+i,none⟩)),VIs (.slice (some ⟨gi,oi,none⟩) n ci),VIs (.int .i64 (q)),VIs (.pointer (some ⟨gi,oi+q,none⟩)),VIs (.int .i64 (x1)),VIs (.slice (some ⟨gd,od,none⟩) n cd),VIs (.int .i64 (i)),VIs (.pointer (some ⟨gd,od+i,none⟩)),VIs (.int .i64 (d1)),VIs (.int .i64 (x1*d1)),VIs (.slice (some ⟨g,o,none⟩) n cm),VIs (.int .i64 (q)),VIs (.pointer (some ⟨g,o+q,none⟩)),VIs (.slice (some ⟨gq,oq,none⟩) n cq),VIs (.int .i64 (i)),VIs (.pointer (some ⟨gq,oq+i,none⟩)),VIs (.int .i64 (x2)),VIs (.slice (some ⟨gd,od,none⟩) n cd),VIs (.int .i64 (q)),VIs (.pointer (some ⟨gd,od+q,none⟩)),VIs (.int .i64 (d2)),VIs (.int .i64 (x2*d2)),VIs (.int .i64 (x1*d1+x2*d2)),VIs (.int .i64 (0)),VIs (.bool false)] (fun w'=>Blk w' w.heap.size 26 #[.int .i64 p,.slice A k c]∧w'.cell? ⟨g,o+i,none⟩=some (.slice (some ⟨gi,oi,none⟩) n ci)∧w'.cell? ⟨gi,oi+q,none⟩=some (.int .i64 x1)∧w'.cell? ⟨gd,od+i,none⟩=some (.int .i64 d1)∧w'.cell? ⟨g,o+q,none⟩=some (.slice (some ⟨gq,oq,none⟩) n cq)∧w'.cell? ⟨gq,oq+i,none⟩=some (.int .i64 x2)∧w'.cell? ⟨gd,od+q,none⟩=some (.int .i64 d2)∧Below wr.heap.size wr w') (by kernel_rfl) (by kernel_rfl) (fun _ _ h hb=>⟨h.1.below hb h.1.lt,(hb.cell (World.block_lt_of_cell? _ _ h.2.1)).trans h.2.1,(hb.cell (World.block_lt_of_cell? _ _ h.2.2.1)).trans h.2.2.1,(hb.cell (World.block_lt_of_cell? _ _ h.2.2.2.1)).trans h.2.2.2.1,(hb.cell (World.block_lt_of_cell? _ _ h.2.2.2.2.1)).trans h.2.2.2.2.1,(hb.cell (World.block_lt_of_cell? _ _ h.2.2.2.2.2.1)).trans h.2.2.2.2.2.1,(hb.cell (World.block_lt_of_cell? _ _ h.2.2.2.2.2.2.1)).trans h.2.2.2.2.2.2.1,h.2.2.2.2.2.2.2.trans (hb.mono h.2.2.2.2.2.2.2.size)⟩) (⟨kr.drew,c1,c2,c3,c4,c5,c6,zG.drew⟩) (fun x=>?_)
      refine zS (fun w' hS hV K hK=>?_) ?_
      ·obtain⟨q0,q1⟩:=hS.1.two;have t1:=hS.2.1;have t2:=hS.2.2.1;have t3:=hS.2.2.2.1;have t4:=hS.2.2.2.2.1;have t5:=hS.2.2.2.2.2.1;have t6:=hS.2.2.2.2.2.2.1;go_simp;exact zO hK
      refine zS (fun w' hS hV K hK=>?_) ?_
      ·have e0:=zQ hV 0;obtain⟨q0,q1⟩:=hS.1.two;have t1:=hS.2.1;have t2:=hS.2.2.1;have t3:=hS.2.2.2.1;have t4:=hS.2.2.2.2.1;have t5:=hS.2.2.2.2.2.1;have t6:=hS.2.2.2.2.2.2.1;go_simp;exact zO hK
      refine zS (fun w' hS hV K hK=>?_) ?_
      ·obtain⟨q0,q1⟩:=hS.1.two;have t1:=hS.2.1;have t2:=hS.2.2.1;have t3:=hS.2.2.2.1;have t4:=hS.2.2.2.2.1;have t5:=hS.2.2.2.2.2.1;have t6:=hS.2.2.2.2.2.2.1;go_simp;exact zO hK
      refine zS (fun w' hS hV K hK=>?_) ?_
      ·obtain⟨q0,q1⟩:=hS.1.two;have t1:=hS.2.1;have t2:=hS.2.2.1;have t3:=hS.2.2.2.1;have t4:=hS.2.2.2.2.1;have t5:=hS.2.2.2.2.2.1;have t6:=hS.2.2.2.2.2.2.1;go_simp;exact zO hK
      refine zS (fun w' hS hV K hK=>?_) ?_
      ·have e2:=zQ hV 2;have e3:=zQ hV 3;obtain⟨q0,q1⟩:=hS.1.two;have t1:=hS.2.1;have t2:=hS.2.2.1;have t3:=hS.2.2.2.1;have t4:=hS.2.2.2.2.1;have t5:=hS.2.2.2.2.2.1;have t6:=hS.2.2.2.2.2.2.1;go_simp;exact zO hK
      refine zS (fun w' hS hV K hK=>?_) ?_
      ·have e4:=zQ hV 4;obtain⟨q0,q1⟩:=hS.1.two;have t1:=hS.2.1;have t2:=hS.2.2.1;have t3:=hS.2.2.2.1;have t4:=hS.2.2.2.2.1;have t5:=hS.2.2.2.2.2.1;have t6:=hS.2.2.2.2.2.2.1;go_simp;exact zO hK
      refine zS (fun w' hS hV K hK=>?_) ?_
      ·obtain⟨q0,q1⟩:=hS.1.two;have t1:=hS.2.1;have t2:=hS.2.2.1;have t3:=hS.2.2.2.1;have t4:=hS.2.2.2.2.1;have t5:=hS.2.2.2.2.2.1;have t6:=hS.2.2.2.2.2.2.1;go_simp;exact zO hK
      refine zS (fun w' hS hV K hK=>?_) ?_
      ·have e5:=zQ hV 5;have e6:=zQ hV 6;obtain⟨q0,q1⟩:=hS.1.two;have t1:=hS.2.1;have t2:=hS.2.2.1;have t3:=hS.2.2.2.1;have t4:=hS.2.2.2.2.1;have t5:=hS.2.2.2.2.2.1;have t6:=hS.2.2.2.2.2.2.1;go_simp;exact zO hK
      refine zS (fun w' hS hV K hK=>?_) ?_
      ·have e7:=zQ hV 7;obtain⟨q0,q1⟩:=hS.1.two;have t1:=hS.2.1;have t2:=hS.2.2.1;have t3:=hS.2.2.2.1;have t4:=hS.2.2.2.2.1;have t5:=hS.2.2.2.2.2.1;have t6:=hS.2.2.2.2.2.2.1;go_simp;exact zO hK
      refine zS (fun w' hS hV K hK=>?_) ?_
      ·obtain⟨q0,q1⟩:=hS.1.two;have t1:=hS.2.1;have t2:=hS.2.2.1;have t3:=hS.2.2.2.1;have t4:=hS.2.2.2.2.1;have t5:=hS.2.2.2.2.2.1;have t6:=hS.2.2.2.2.2.2.1;go_simp;exact zO hK
      refine zS (fun w' hS hV K hK=>?_) ?_
      ·obtain⟨q0,q1⟩:=hS.1.two;have t1:=hS.2.1;have t2:=hS.2.2.1;have t3:=hS.2.2.2.1;have t4:=hS.2.2.2.2.1;have t5:=hS.2.2.2.2.2.1;have t6:=hS.2.2.2.2.2.2.1;go_simp;exact zO hK
      refine zS (fun w' hS hV K hK=>?_) ?_
      ·have e9:=zQ hV 9;have e10:=zQ hV 10;obtain⟨q0,q1⟩:=hS.1.two;have t1:=hS.2.1;have t2:=hS.2.2.1;have t3:=hS.2.2.2.1;have t4:=hS.2.2.2.2.1;have t5:=hS.2.2.2.2.2.1;have t6:=hS.2.2.2.2.2.2.1;go_simp;exact zO hK
      refine zS (fun w' hS hV K hK=>?_) ?_
      ·have e11:=zQ hV 11;obtain⟨q0,q1⟩:=hS.1.two;have t1:=hS.2.1;have t2:=hS.2.2.1;have t3:=hS.2.2.2.1;have t4:=hS.2.2.2.2.1;have t5:=hS.2.2.2.2.2.1;have t6:=hS.2.2.2.2.2.2.1;go_simp;exact zO hK
      refine zS (fun w' hS hV K hK=>?_) ?_
      ·have e8:=zQ hV 8;have e12:=zQ hV 12;obtain⟨q0,q1⟩:=hS.1.two;have t1:=hS.2.1;have t2:=hS.2.2.1;have t3:=hS.2.2.2.1;have t4:=hS.2.2.2.2.1;have t5:=hS.2.2.2.2.2.1;have t6:=hS.2.2.2.2.2.2.1;go_simp;exact hK.out _ _ _ rfl rfl (by first | rfl | exact congrArg (Value.int .i64) (by omega) | exact congrArg (Value.int .i64) (yi _ (by omega) (by omega))) zG
      refine zS (fun w' hS hV K hK=>?_) ?_
      ·obtain⟨q0,q1⟩:=hS.1.two;have t1:=hS.2.1;have t2:=hS.2.2.1;have t3:=hS.2.2.2.1;have t4:=hS.2.2.2.2.1;have t5:=hS.2.2.2.2.2.1;have t6:=hS.2.2.2.2.2.2.1;go_simp;exact zO hK
      refine zS (fun w' hS hV K hK=>?_) ?_
      ·obtain⟨q0,q1⟩:=hS.1.two;have t1:=hS.2.1;have t2:=hS.2.2.1;have t3:=hS.2.2.2.1;have t4:=hS.2.2.2.2.1;have t5:=hS.2.2.2.2.2.1;have t6:=hS.2.2.2.2.2.2.1;go_simp;exact zO hK
      refine zS (fun w' hS hV K hK=>?_) ?_
      ·have e14:=zQ hV 14;have e15:=zQ hV 15;obtain⟨q0,q1⟩:=hS.1.two;have t1:=hS.2.1;have t2:=hS.2.2.1;have t3:=hS.2.2.2.1;have t4:=hS.2.2.2.2.1;have t5:=hS.2.2.2.2.2.1;have t6:=hS.2.2.2.2.2.2.1;go_simp;exact zO hK
      refine zS (fun w' hS hV K hK=>?_) ?_
      ·have e16:=zQ hV 16;obtain⟨q0,q1⟩:=hS.1.two;have t1:=hS.2.1;have t2:=hS.2.2.1;have t3:=hS.2.2.2.1;have t4:=hS.2.2.2.2.1;have t5:=hS.2.2.2.2.2.1;have t6:=hS.2.2.2.2.2.2.1;go_simp;exact zO hK
      refine zS (fun w' hS hV K hK=>?_) ?_
      ·obtain⟨q0,q1⟩:=hS.1.two;have t1:=hS.2.1;have t2:=hS.2.2.1;have t3:=hS.2.2.2.1;have t4:=hS.2.2.2.2.1;have t5:=hS.2.2.2.2.2.1;have t6:=hS.2.2.2.2.2.2.1;go_simp;exact zO hK
      refine zS (fun w' hS hV K hK=>?_) ?_
      ·have e17:=zQ hV 17;have e18:=zQ hV 18;obtain⟨q0,q1⟩:=hS.1.two;have t1:=hS.2.1;have t2:=hS.2.2.1;have t3:=hS.2.2.2.1;have t4:=hS.2.2.2.2.1;have t5:=hS.2.2.2.2.2.1;have t6:=hS.2.2.2.2.2.2.1;go_simp;exact zO hK
      refine zS (fun w' hS hV K hK=>?_) ?_
      ·have e19:=zQ hV 19;obtain⟨q0,q1⟩:=hS.1.two;have t1:=hS.2.1;have t2:=hS.2.2.1;have t3:=hS.2.2.2.1;have t4:=hS.2.2.2.2.1;have t5:=hS.2.2.2.2.2.1;have t6:=hS.2.2.2.2.2.2.1;go_simp;exact zO hK
      refine zS (fun w' hS hV K hK=>?_) ?_
      ·obtain⟨q0,q1⟩:=hS.1.two;have t1:=hS.2.1;have t2:=hS.2.2.1;have t3:=hS.2.2.2.1;have t4:=hS.2.2.2.2.1;have t5:=hS.2.2.2.2.2.1;have t6:=hS.2.2.2.2.2.2.1;go_simp;exact zO hK
      refine zS (fun w' hS hV K hK=>?_) ?_
      ·obtain⟨q0,q1⟩:=hS.1.two;have t1:=hS.2.1;have t2:=hS.2.2.1;have t3:=hS.2.2.2.1;have t4:=hS.2.2.2.2.1;have t5:=hS.2.2.2.2.2.1;have t6:=hS.2.2.2.2.2.2.1;go_simp;exact zO hK
      refine zS (fun w' hS hV K hK=>?_) ?_
      ·have e21:=zQ hV 21;have e22:=zQ hV 22;obtain⟨q0,q1⟩:=hS.1.two;have t1:=hS.2.1;have t2:=hS.2.2.1;have t3:=hS.2.2.2.1;have t4:=hS.2.2.2.2.1;have t5:=hS.2.2.2.2.2.1;have t6:=hS.2.2.2.2.2.2.1;go_simp;exact zO hK
      refine zS (fun w' hS hV K hK=>?_) ?_
      ·have e23:=zQ hV 23;obtain⟨q0,q1⟩:=hS.1.two;have t1:=hS.2.1;have t2:=hS.2.2.1;have t3:=hS.2.2.2.1;have t4:=hS.2.2.2.2.1;have t5:=hS.2.2.2.2.2.1;have t6:=hS.2.2.2.2.2.2.1;go_simp;exact zO hK
      refine zS (fun w' hS hV K hK=>?_) ?_
      ·have e20:=zQ hV 20;have e24:=zQ hV 24;obtain⟨q0,q1⟩:=hS.1.two;have t1:=hS.2.1;have t2:=hS.2.2.1;have t3:=hS.2.2.2.1;have t4:=hS.2.2.2.2.1;have t5:=hS.2.2.2.2.2.1;have t6:=hS.2.2.2.2.2.2.1;go_simp;exact hK.out _ _ _ rfl rfl (by first | rfl | exact congrArg (Value.int .i64) (by omega) | exact congrArg (Value.int .i64) (yi _ (by omega) (by omega))) zG
      refine zS (fun w' hS hV K hK=>?_) ?_
      ·have e13:=zQ hV 13;have e25:=zQ hV 25;obtain⟨q0,q1⟩:=hS.1.two;have t1:=hS.2.1;have t2:=hS.2.2.1;have t3:=hS.2.2.2.1;have t4:=hS.2.2.2.2.1;have t5:=hS.2.2.2.2.2.1;have t6:=hS.2.2.2.2.2.2.1;go_simp;exact hK.out _ _ _ rfl rfl (by first | rfl | exact congrArg (Value.int .i64) (by omega) | exact congrArg (Value.int .i64) (yi _ (by omega) (by omega))) zG
      refine zS (fun w' hS hV K hK=>?_) ?_
      ·have e1:=zQ hV 1;have e26:=zQ hV 26;obtain⟨q0,q1⟩:=hS.1.two;have t1:=hS.2.1;have t2:=hS.2.2.1;have t3:=hS.2.2.2.1;have t4:=hS.2.2.2.2.1;have t5:=hS.2.2.2.2.2.1;have t6:=hS.2.2.2.2.2.2.1;go_simp;refine (xl p (x1*d1+x2*d2) w' (by omega) (by omega) (by omega) (by omega)).mono ?_;rintro e v1 ⟨rfl,rfl⟩;exact hK.out _ _ _ rfl rfl (by rw[hz0];rfl) zG
      refine zS (fun w' hS hV K hK=>?_) ?_
      ·have e27:=zQ hV 27;obtain⟨q0,q1⟩:=hS.1.two;have t1:=hS.2.1;have t2:=hS.2.2.1;have t3:=hS.2.2.2.1;have t4:=hS.2.2.2.2.1;have t5:=hS.2.2.2.2.2.1;have t6:=hS.2.2.2.2.2.2.1;go_simp;exact zO hK
      refine fun w' hS hV=>?_
      have e0:=zT hV 0
      have e1:=zT hV 1
      have e2:=zT hV 2
      have e3:=zT hV 3
      have e4:=zT hV 4
      have e5:=zT hV 5
      have e6:=zT hV 6
      have e7:=zT hV 7
      have e8:=zT hV 8
      have e9:=zT hV 9
      have e10:=zT hV 10
      have e11:=zT hV 11
      have e12:=zT hV 12
      have e13:=zT hV 13
      have e14:=zT hV 14
      have e15:=zT hV 15
      have e16:=zT hV 16
      have e17:=zT hV 17
      have e18:=zT hV 18
      have e19:=zT hV 19
      have e20:=zT hV 20
      have e21:=zT hV 21
      have e22:=zT hV 22
      have e23:=zT hV 23
      have e24:=zT hV 24
      have e25:=zT hV 25
      have e26:=zT hV 26
      have e27:=zT hV 27
      have e28:=zT hV 28
      simp only[e0,e1,e2,e3,e4,e5,e6,e7,e8,e9,e10,e11,e12,e13,e14,e15,e16,e17,e18,e19,e20,e21,e22,e23,e24,e25,e26,e27,e28]
      clear e0 e1 e2 e3 e4 e5 e6 e7 e8 e9 e10 e11 e12 e13 e14 e15 e16 e17 e18 e19 e20 e21 e22 e23 e24 e25 e26 e27 e28
      refine wpAny_done (by kernel_rfl) ?_ _
      obtain⟨k7, -, -, -, -, -, -,s2⟩:=hS
      have HB7:=Lib.hid (HB.out.trans (s2.mono HB.out.size))
      have HI2:Hid (∀ q',q'<q+1→gapS p DG M i q'=0):=Lib.hid fun q' h=>by
       by_cases he:q'=q
       ·subst he;exact HG0.out
       ·exact HI.out q' (by omega)
      clear hV s2 m1 m2 m3 m4 hz0 c1 c2 c3 c4 c5 c6
      go_wp2
      go_roundw
      case rel=>exact⟨q+1,by omega,by go_num,HB7,k7,HI2⟩
      case measure=>simp[intOf];omega
     ·have hzn:¬ z=0:=hz
      have hne2:¬ (x1*d1+x2*d2)%p=0:=fun e=>hz (hzz.trans e)
      have hzb:(z == 0)=false:=by simpa using hz
      have HF:Hid (R=false):=Lib.hid (HRF.out i q hlt hlq (by rw[HZG.out];exact hz))
      clear hz HZG
      go_wp2
      refine yh 29 [[],[0],[],[],[2,3],[2,3,4],[],[2,3,4,5,6],[2,3,4,5,6,7],[],[],[9,10],[9,10,11],[2,3,4,5,6,7,8,9,10,11,12],[],[],[14,15],[14,15,16],[],[14,15,16,17,18],[14,15,16,17,18,19],[],[],[21,22],[21,22,23],[14,15,16,17,18,19,20,21,22,23,24],[2,3,4,5,6,7,8,9,10,11,12,13,14,15,16,17,18,19,20,21,22,23,24,25],[0,1,2,3,4,5,6,7,8,9,10,11,12,13,14,15,16,17,18,19,20,21,22,23,24,25,26],[0,1,2,3,4,5,6,7,8,9,10,11,12,13,14,15,16,17,18,19,20,21,22,23,24,25,26,27]] [VIs (.pointer (some ⟨w.heap.size,0,none⟩)),VIs (.int .i64 (p)),VIs (.slice (some ⟨g,o,none⟩) n cm),VIs (.int .i64 (i)),VIs (.pointer (some ⟨g,o+i,none⟩)),VIs (.slice (some ⟨gi,oi,none⟩) n ci),VIs (.int .i64 (q)),VIs (.pointer (some ⟨gi,oi+q,none⟩)),VIs (.int .i64 (x1)),VIs (.slice (some ⟨gd,od,none⟩) n cd),VIs (.int .i64 (i)),VIs (.pointer (some ⟨gd,od+i,none⟩)),VIs (.int .i64 (d1)),VIs (.int .i64 (x1*d1)),VIs (.slice (some ⟨g,o,none⟩) n cm),VIs (.int .i64 (q)),VIs (.pointer (some ⟨g,o+q,none⟩)),VIs (.slice (some ⟨gq,oq,none⟩) n cq),VIs (.int .i64 (i)),VIs (.pointer (some ⟨gq,oq+i,none⟩)),VIs (.int .i64 (x2)),VIs (.slice (some ⟨gd,od,none⟩) n cd),VIs (.int .i64 (q)),VIs (.pointer (some ⟨gd,od+q,none⟩)),VIs (.int .i64 (d2)),VIs (.int .i64 (x2*d2)),VIs (.int .i64 (x1*d1+x2*d2)),VIs (.int .i64 (z)),VIs (.bool true)] (fun w'=>Blk w' w.heap.size 26 #[.int .i64 p,.slice A k c]∧w'.cell? ⟨g,o+i,none⟩=some (.slice (some ⟨gi,oi,none⟩) n ci)∧w'.cell? ⟨gi,oi+q,none⟩=some (.int .i64 x1)∧w'.cell? ⟨gd,od+i,none⟩=some (.int .i64 d1)∧w'.cell? ⟨g,o+q,none⟩=some (.slice (some ⟨gq,oq,none⟩) n cq)∧w'.cell? ⟨gq,oq+i,none⟩=some (.int .i64 x2)∧w'.cell? ⟨gd,od+q,none⟩=some (.int .i64 d2)∧Below wr.heap.size wr w') (by kernel_rfl) (by kernel_rfl) (fun _ _ h hb=>⟨h.1.below hb h.1.lt,(hb.cell (World.block_lt_of_cell? _ _ h.2.1)).trans h.2.1,(hb.cell (World.block_lt_of_cell? _ _ h.2.2.1)).trans h.2.2.1,(hb.cell (World.block_lt_of_cell? _ _ h.2.2.2.1)).trans h.2.2.2.1,(hb.cell (World.block_lt_of_cell? _ _ h.2.2.2.2.1)).trans h.2.2.2.2.1,(hb.cell (World.block_lt_of_cell? _ _ h.2.2.2.2.2.1)).trans h.2.2.2.2.2.1,(hb.cell (World.block_lt_of_cell? _ _ h.2.2.2.2.2.2.1)).trans h.2.2.2.2.2.2.1,h.2.2.2.2.2.2.2.trans (hb.mono h.2.2.2.2.2.2.2.size)⟩) (⟨kr.drew,c1,c2,c3,c4,c5,c6,zG.drew⟩) (fun x=>?_)
      refine zS (fun w' hS hV K hK=>?_) ?_
      ·obtain⟨q0,q1⟩:=hS.1.two;have t1:=hS.2.1;have t2:=hS.2.2.1;have t3:=hS.2.2.2.1;have t4:=hS.2.2.2.2.1;have t5:=hS.2.2.2.2.2.1;have t6:=hS.2.2.2.2.2.2.1;go_simp;exact zO hK
      refine zS (fun w' hS hV K hK=>?_) ?_
      ·have e0:=zQ hV 0;obtain⟨q0,q1⟩:=hS.1.two;have t1:=hS.2.1;have t2:=hS.2.2.1;have t3:=hS.2.2.2.1;have t4:=hS.2.2.2.2.1;have t5:=hS.2.2.2.2.2.1;have t6:=hS.2.2.2.2.2.2.1;go_simp;exact zO hK
      refine zS (fun w' hS hV K hK=>?_) ?_
      ·obtain⟨q0,q1⟩:=hS.1.two;have t1:=hS.2.1;have t2:=hS.2.2.1;have t3:=hS.2.2.2.1;have t4:=hS.2.2.2.2.1;have t5:=hS.2.2.2.2.2.1;have t6:=hS.2.2.2.2.2.2.1;go_simp;exact zO hK
      refine zS (fun w' hS hV K hK=>?_) ?_
      ·obtain⟨q0,q1⟩:=hS.1.two;have t1:=hS.2.1;have t2:=hS.2.2.1;have t3:=hS.2.2.2.1;have t4:=hS.2.2.2.2.1;have t5:=hS.2.2.2.2.2.1;have t6:=hS.2.2.2.2.2.2.1;go_simp;exact zO hK
      refine zS (fun w' hS hV K hK=>?_) ?_
      ·have e2:=zQ hV 2;have e3:=zQ hV 3;obtain⟨q0,q1⟩:=hS.1.two;have t1:=hS.2.1;have t2:=hS.2.2.1;have t3:=hS.2.2.2.1;have t4:=hS.2.2.2.2.1;have t5:=hS.2.2.2.2.2.1;have t6:=hS.2.2.2.2.2.2.1;go_simp;exact zO hK
      refine zS (fun w' hS hV K hK=>?_) ?_
      ·have e4:=zQ hV 4;obtain⟨q0,q1⟩:=hS.1.two;have t1:=hS.2.1;have t2:=hS.2.2.1;have t3:=hS.2.2.2.1;have t4:=hS.2.2.2.2.1;have t5:=hS.2.2.2.2.2.1;have t6:=hS.2.2.2.2.2.2.1;go_simp;exact zO hK
      refine zS (fun w' hS hV K hK=>?_) ?_
      ·obtain⟨q0,q1⟩:=hS.1.two;have t1:=hS.2.1;have t2:=hS.2.2.1;have t3:=hS.2.2.2.1;have t4:=hS.2.2.2.2.1;have t5:=hS.2.2.2.2.2.1;have t6:=hS.2.2.2.2.2.2.1;go_simp;exact zO hK
      refine zS (fun w' hS hV K hK=>?_) ?_
      ·have e5:=zQ hV 5;have e6:=zQ hV 6;obtain⟨q0,q1⟩:=hS.1.two;have t1:=hS.2.1;have t2:=hS.2.2.1;have t3:=hS.2.2.2.1;have t4:=hS.2.2.2.2.1;have t5:=hS.2.2.2.2.2.1;have t6:=hS.2.2.2.2.2.2.1;go_simp;exact zO hK
      refine zS (fun w' hS hV K hK=>?_) ?_
      ·have e7:=zQ hV 7;obtain⟨q0,q1⟩:=hS.1.two;have t1:=hS.2.1;have t2:=hS.2.2.1;have t3:=hS.2.2.2.1;have t4:=hS.2.2.2.2.1;have t5:=hS.2.2.2.2.2.1;have t6:=hS.2.2.2.2.2.2.1;go_simp;exact zO hK
      refine zS (fun w' hS hV K hK=>?_) ?_
      ·obtain⟨q0,q1⟩:=hS.1.two;have t1:=hS.2.1;have t2:=hS.2.2.1;have t3:=hS.2.2.2.1;have t4:=hS.2.2.2.2.1;have t5:=hS.2.2.2.2.2.1;have t6:=hS.2.2.2.2.2.2.1;go_simp;exact zO hK
      refine zS (fun w' hS hV K hK=>?_) ?_
      ·obtain⟨q0,q1⟩:=hS.1.two;have t1:=hS.2.1;have t2:=hS.2.2.1;have t3:=hS.2.2.2.1;have t4:=hS.2.2.2.2.1;have t5:=hS.2.2.2.2.2.1;have t6:=hS.2.2.2.2.2.2.1;go_simp;exact zO hK
      refine zS (fun w' hS hV K hK=>?_) ?_
      ·have e9:=zQ hV 9;have e10:=zQ hV 10;obtain⟨q0,q1⟩:=hS.1.two;have t1:=hS.2.1;have t2:=hS.2.2.1;have t3:=hS.2.2.2.1;have t4:=hS.2.2.2.2.1;have t5:=hS.2.2.2.2.2.1;have t6:=hS.2.2.2.2.2.2.1;go_simp;exact zO hK
      refine zS (fun w' hS hV K hK=>?_) ?_
      ·have e11:=zQ hV 11;obtain⟨q0,q1⟩:=hS.1.two;have t1:=hS.2.1;have t2:=hS.2.2.1;have t3:=hS.2.2.2.1;have t4:=hS.2.2.2.2.1;have t5:=hS.2.2.2.2.2.1;have t6:=hS.2.2.2.2.2.2.1;go_simp;exact zO hK
      refine zS (fun w' hS hV K hK=>?_) ?_
      ·have e8:=zQ hV 8;have e12:=zQ hV 12;obtain⟨q0,q1⟩:=hS.1.two;have t1:=hS.2.1;have t2:=hS.2.2.1;have t3:=hS.2.2.2.1;have t4:=hS.2.2.2.2.1;have t5:=hS.2.2.2.2.2.1;have t6:=hS.2.2.2.2.2.2.1;go_simp;exact hK.out _ _ _ rfl rfl (by first | rfl | exact congrArg (Value.int .i64) (by omega) | exact congrArg (Value.int .i64) (yi _ (by omega) (by omega))) zG
      refine zS (fun w' hS hV K hK=>?_) ?_
      ·obtain⟨q0,q1⟩:=hS.1.two;have t1:=hS.2.1;have t2:=hS.2.2.1;have t3:=hS.2.2.2.1;have t4:=hS.2.2.2.2.1;have t5:=hS.2.2.2.2.2.1;have t6:=hS.2.2.2.2.2.2.1;go_simp;exact zO hK
      refine zS (fun w' hS hV K hK=>?_) ?_
      ·obtain⟨q0,q1⟩:=hS.1.two;have t1:=hS.2.1;have t2:=hS.2.2.1;have t3:=hS.2.2.2.1;have t4:=hS.2.2.2.2.1;have t5:=hS.2.2.2.2.2.1;have t6:=hS.2.2.2.2.2.2.1;go_simp;exact zO hK
      refine zS (fun w' hS hV K hK=>?_) ?_
      ·have e14:=zQ hV 14;have e15:=zQ hV 15;obtain⟨q0,q1⟩:=hS.1.two;have t1:=hS.2.1;have t2:=hS.2.2.1;have t3:=hS.2.2.2.1;have t4:=hS.2.2.2.2.1;have t5:=hS.2.2.2.2.2.1;have t6:=hS.2.2.2.2.2.2.1;go_simp;exact zO hK
      refine zS (fun w' hS hV K hK=>?_) ?_
      ·have e16:=zQ hV 16;obtain⟨q0,q1⟩:=hS.1.two;have t1:=hS.2.1;have t2:=hS.2.2.1;have t3:=hS.2.2.2.1;have t4:=hS.2.2.2.2.1;have t5:=hS.2.2.2.2.2.1;have t6:=hS.2.2.2.2.2.2.1;go_simp;exact zO hK
      refine zS (fun w' hS hV K hK=>?_) ?_
      ·obtain⟨q0,q1⟩:=hS.1.two;have t1:=hS.2.1;have t2:=hS.2.2.1;have t3:=hS.2.2.2.1;have t4:=hS.2.2.2.2.1;have t5:=hS.2.2.2.2.2.1;have t6:=hS.2.2.2.2.2.2.1;go_simp;exact zO hK
      refine zS (fun w' hS hV K hK=>?_) ?_
      ·have e17:=zQ hV 17;have e18:=zQ hV 18;obtain⟨q0,q1⟩:=hS.1.two;have t1:=hS.2.1;have t2:=hS.2.2.1;have t3:=hS.2.2.2.1;have t4:=hS.2.2.2.2.1;have t5:=hS.2.2.2.2.2.1;have t6:=hS.2.2.2.2.2.2.1;go_simp;exact zO hK
      refine zS (fun w' hS hV K hK=>?_) ?_
      ·have e19:=zQ hV 19;obtain⟨q0,q1⟩:=hS.1.two;have t1:=hS.2.1;have t2:=hS.2.2.1;have t3:=hS.2.2.2.1;have t4:=hS.2.2.2.2.1;have t5:=hS.2.2.2.2.2.1;have t6:=hS.2.2.2.2.2.2.1;go_simp;exact zO hK
      refine zS (fun w' hS hV K hK=>?_) ?_
      ·obtain⟨q0,q1⟩:=hS.1.two;have t1:=hS.2.1;have t2:=hS.2.2.1;have t3:=hS.2.2.2.1;have t4:=hS.2.2.2.2.1;have t5:=hS.2.2.2.2.2.1;have t6:=hS.2.2.2.2.2.2.1;go_simp;exact zO hK
      refine zS (fun w' hS hV K hK=>?_) ?_
      ·obtain⟨q0,q1⟩:=hS.1.two;have t1:=hS.2.1;have t2:=hS.2.2.1;have t3:=hS.2.2.2.1;have t4:=hS.2.2.2.2.1;have t5:=hS.2.2.2.2.2.1;have t6:=hS.2.2.2.2.2.2.1;go_simp;exact zO hK
      refine zS (fun w' hS hV K hK=>?_) ?_
      ·have e21:=zQ hV 21;have e22:=zQ hV 22;obtain⟨q0,q1⟩:=hS.1.two;have t1:=hS.2.1;have t2:=hS.2.2.1;have t3:=hS.2.2.2.1;have t4:=hS.2.2.2.2.1;have t5:=hS.2.2.2.2.2.1;have t6:=hS.2.2.2.2.2.2.1;go_simp;exact zO hK
      refine zS (fun w' hS hV K hK=>?_) ?_
      ·have e23:=zQ hV 23;obtain⟨q0,q1⟩:=hS.1.two;have t1:=hS.2.1;have t2:=hS.2.2.1;have t3:=hS.2.2.2.1;have t4:=hS.2.2.2.2.1;have t5:=hS.2.2.2.2.2.1;have t6:=hS.2.2.2.2.2.2.1;go_simp;exact zO hK
      refine zS (fun w' hS hV K hK=>?_) ?_
      ·have e20:=zQ hV 20;have e24:=zQ hV 24;obtain⟨q0,q1⟩:=hS.1.two;have t1:=hS.2.1;have t2:=hS.2.2.1;have t3:=hS.2.2.2.1;have t4:=hS.2.2.2.2.1;have t5:=hS.2.2.2.2.2.1;have t6:=hS.2.2.2.2.2.2.1;go_simp;exact hK.out _ _ _ rfl rfl (by first | rfl | exact congrArg (Value.int .i64) (by omega) | exact congrArg (Value.int .i64) (yi _ (by omega) (by omega))) zG
      refine zS (fun w' hS hV K hK=>?_) ?_
      ·have e13:=zQ hV 13;have e25:=zQ hV 25;obtain⟨q0,q1⟩:=hS.1.two;have t1:=hS.2.1;have t2:=hS.2.2.1;have t3:=hS.2.2.2.1;have t4:=hS.2.2.2.2.1;have t5:=hS.2.2.2.2.2.1;have t6:=hS.2.2.2.2.2.2.1;go_simp;exact hK.out _ _ _ rfl rfl (by first | rfl | exact congrArg (Value.int .i64) (by omega) | exact congrArg (Value.int .i64) (yi _ (by omega) (by omega))) zG
      refine zS (fun w' hS hV K hK=>?_) ?_
      ·have e1:=zQ hV 1;have e26:=zQ hV 26;obtain⟨q0,q1⟩:=hS.1.two;have t1:=hS.2.1;have t2:=hS.2.2.1;have t3:=hS.2.2.2.1;have t4:=hS.2.2.2.2.1;have t5:=hS.2.2.2.2.2.1;have t6:=hS.2.2.2.2.2.2.1;go_simp;refine (xl p (x1*d1+x2*d2) w' (by omega) (by omega) (by omega) (by omega)).mono ?_;rintro e v1 ⟨rfl,rfl⟩;exact hK.out _ _ _ rfl rfl (by rw[hzz];rfl) zG
      refine zS (fun w' hS hV K hK=>?_) ?_
      ·have e27:=zQ hV 27;obtain⟨q0,q1⟩:=hS.1.two;have t1:=hS.2.1;have t2:=hS.2.2.1;have t3:=hS.2.2.2.1;have t4:=hS.2.2.2.2.1;have t5:=hS.2.2.2.2.2.1;have t6:=hS.2.2.2.2.2.2.1;go_simp;exact hK.out _ _ _ rfl rfl (by first | rfl | exact congrArg Value.bool (by first | (simp[hzn];done) | (simp[hzn,hne2];done) | (simp;exact hne2))) zG
      refine fun w' hS hV=>?_
      have e0:=zT hV 0
      have e1:=zT hV 1
      have e2:=zT hV 2
      have e3:=zT hV 3
      have e4:=zT hV 4
      have e5:=zT hV 5
      have e6:=zT hV 6
      have e7:=zT hV 7
      have e8:=zT hV 8
      have e9:=zT hV 9
      have e10:=zT hV 10
      have e11:=zT hV 11
      have e12:=zT hV 12
      have e13:=zT hV 13
      have e14:=zT hV 14
      have e15:=zT hV 15
      have e16:=zT hV 16
      have e17:=zT hV 17
      have e18:=zT hV 18
      have e19:=zT hV 19
      have e20:=zT hV 20
      have e21:=zT hV 21
      have e22:=zT hV 22
      have e23:=zT hV 23
      have e24:=zT hV 24
      have e25:=zT hV 25
      have e26:=zT hV 26
      have e27:=zT hV 27
      have e28:=zT hV 28
      simp only[e0,e1,e2,e3,e4,e5,e6,e7,e8,e9,e10,e11,e12,e13,e14,e15,e16,e17,e18,e19,e20,e21,e22,e23,e24,e25,e26,e27,e28]
      clear e0 e1 e2 e3 e4 e5 e6 e7 e8 e9 e10 e11 e12 e13 e14 e15 e16 e17 e18 e19 e20 e21 e22 e23 e24 e25 e26 e27 e28
      refine wpAny_done (by kernel_rfl) ?_ _
      obtain⟨k7, -, -, -, -, -, -,s2⟩:=hS
      have hfin:=HB2.out.trans ((HB.out.trans (s2.mono HB.out.size)).mono HB2.out.size)
      clear hV s2 m1 m2 m3 m4 c1 c2 c3 c4 c5 c6
      go_wp2
      go_ret
      exact⟨by rw[HF.out];rfl,hfin⟩
    ·have HQE:Hid (q=(i+1)):=Lib.hid (by omega)
     have HO2:Hid (∀ a b,a<i+1→b≤a→gapS p DG M a b=0):=Lib.hid fun a b ha hb=>by
      by_cases he:a=i
      ·subst he;exact HI.out b (by have:=HQE.out;omega)
      ·exact HO.out a b (by omega) hb
     go_wp2
     go_roundw
     case rel=>exact⟨i+1,by omega,by go_num,HB,kr,HO2⟩
     case measure=>simp[intOf];omega
  ·obtain rfl:i=n:=by omega
   have hfin:=HB2.out.trans (HB.out.mono HB2.out.size)
   have HTT:=Lib.hid (HRT.out HO.out)
   go_wp2
   go_ret
   exact⟨by rw[HTT.out];rfl,hfin⟩
theorem ybM {p:Int} {k:Nat} (hk:k≤4) (M:List (List Int)):isMx p k M=((M.all fun r=>isEl p k r) && (M.length == pw k)):=by
 have hpos:=yq k
 have hpk:pw k≤16:=yz hk
 rw[Bool.eq_iff_iff]
 unfold isMx isTb xa isEl
 simp only[Bool.and_eq_true,decide_eq_true_eq,List.all_eq_true,beq_iff_eq]
 constructor
 ·rintro ⟨⟨⟨h1,h2,h3⟩,h4⟩,h5⟩
  exact⟨fun r hr=>by obtain⟨⟨⟨a,b⟩,c⟩,d⟩:=h3 r hr;exact⟨by omega,d⟩,h4⟩
 ·rintro ⟨h1,h2⟩
  have h0:0<M.length:=by omega
  have hz:(M.getD 0 []).length=pw k:=by
   have:=(h1 (M.getD 0 []) (by rw[yc [] h0];exact List.getElem_mem h0)).1
   omega
  exact⟨⟨⟨h0,by omega,fun r hr=>by obtain⟨a,b⟩:=h1 r hr;exact⟨⟨⟨by omega,by omega⟩,by omega⟩,b⟩⟩,h2⟩,hz⟩
set_option maxHeartbeats 1600000 in
set_option maxRecDepth 8000 in
theorem yfT (p:Int) (A B:Option Addr) (k c m d:Nat) (M:List (List Int)) (w:World) (hk4:k≤4) (hp0:0<p) (hp2:p≤13) (hm:m≤1048576) (hb:RdII w B m M) (hys:∀ ys∈M,ys.length≤1048576) :
 Calls Tryz.prog 140 #[.agg #[.int .i64 p,.slice A k c],.slice B m d] w fun e w'=>e=.returned (.bool (isMx p k M))∧Below w.heap.size w w':=by
 have hB0:Below w.heap.size w (w.alloc (.cells #[.int .i64 p,.slice A k c] 26)):=zG.alloc (Nat.le_refl _) _
 have k0:Blk (w.alloc (.cells #[.int .i64 p,.slice A k c] 26)) w.heap.size 26 #[.int .i64 p,.slice A k c]:=Blk.new _ _ _
 obtain⟨R,hR⟩:∃ R,R=isMx p k M:=⟨_,rfl⟩
 rw[← hR]
 rw[ybM hk4]at hR
 have HR:=Lib.hid hR
 have HML:=Lib.hid hb.len
 clear hR
 go_enter Tryz.func140,Tryz.ntmps140
 go_wp2
 go_loopw [5] (fun i wr=>∃ j:Nat,j≤m∧i=.int .i64 j∧Below w.heap.size w wr∧Blk wr w.heap.size 26 #[.int .i64 p,.slice A k c]∧Hid ((M.take j).all (fun ys=>isEl p k ys)=true)) (fun i _=>m-(intOf i).toNat)
 case atStart=>exact⟨0,by omega,rfl,hB0,k0,Lib.hid rfl⟩
 case round=>
  obtain⟨j,hj,rfl,hBr,k4,HT⟩:=hrel
  clear hB0 k0
  obtain⟨q0,q1⟩:=k4.two
  by_cases hlt:j<m
  ·obtain⟨gb,ob,rfl,hxj,Aj,cj,hcj,hrj, -⟩:=(hb.below hBr).at_ hlt
   have hlj:=hys _ (List.getElem_mem hxj)
   obtain⟨nj,hnj⟩:∃ z,z=M[j].length:=⟨_,rfl⟩
   rw[← hnj]at hcj hrj hlj
   have hel:=fun w' (h:Below wr.heap.size wr w')=>j4 p A Aj k c nj cj M[j] w' hk4 hlj hp0 hp2 (hrj.below h)
   obtain⟨b,hbe⟩:∃ b,b=isEl p k M[j]:=⟨_,rfl⟩
   rw[← hbe]at hel
   have HBE:=Lib.hid hbe
   have HEL:=Lib.hid hel
   have HBR:=Lib.hid hBr
   clear hrj hnj hel hbe hlj hb hys q0 q1 hBr
   go_wp2
   refine yh 7 [[],[],[],[1,2],[1,2,3],[0,1,2,3,4],[0,1,2,3,4,5]] [VIs (.agg #[.int .i64 p,.slice A k c]),VIs (.slice (some ⟨gb,ob,none⟩) m d),VIs (.int .i64 (j)),VIs (.pointer (some ⟨gb,ob+j,none⟩)),VIs (.slice Aj nj cj),VIs (.bool b),VIs (.bool (!b))] (fun w'=>Blk w' w.heap.size 26 #[.int .i64 p,.slice A k c]∧w'.cell? ⟨gb,ob+j,none⟩=some (.slice Aj nj cj)∧Below wr.heap.size wr w') (by kernel_rfl) (by kernel_rfl) (fun _ _ h hb=>⟨h.1.below hb h.1.lt,(hb.cell (World.block_lt_of_cell? _ _ h.2.1)).trans h.2.1,h.2.2.trans (hb.mono h.2.2.size)⟩) (⟨k4.drew,hcj,zG.drew⟩) (fun x=>?_)
   refine zS (fun w' hS hV K hK=>?_) ?_
   ·obtain⟨q0,q1⟩:=hS.1.two;have q2:=hS.2.1;go_simp;exact zO hK
   refine zS (fun w' hS hV K hK=>?_) ?_
   ·obtain⟨q0,q1⟩:=hS.1.two;have q2:=hS.2.1;go_simp;exact zO hK
   refine zS (fun w' hS hV K hK=>?_) ?_
   ·obtain⟨q0,q1⟩:=hS.1.two;have q2:=hS.2.1;go_simp;exact zO hK
   refine zS (fun w' hS hV K hK=>?_) ?_
   ·have e1:=zQ hV 1;have e2:=zQ hV 2;obtain⟨q0,q1⟩:=hS.1.two;have q2:=hS.2.1;go_simp;exact zO hK
   refine zS (fun w' hS hV K hK=>?_) ?_
   ·have e3:=zQ hV 3;obtain⟨q0,q1⟩:=hS.1.two;have q2:=hS.2.1;go_simp;exact zO hK
   refine zS (fun w' hS hV K hK=>?_) ?_
   ·have e0:=zQ hV 0;have e4:=zQ hV 4;obtain⟨q0,q1⟩:=hS.1.two;have q2:=hS.2.1;go_simp;refine (HEL.out w' hS.2.2).mono ?_;rintro e v1 ⟨rfl,hb9⟩;exact hK.out _ _ _ rfl rfl rfl hb9
   refine zS (fun w' hS hV K hK=>?_) ?_
   ·have e5:=zQ hV 5;obtain⟨q0,q1⟩:=hS.1.two;have q2:=hS.2.1;go_simp;exact zO hK
   refine fun w' hS hV=>?_
   have e0:=zT hV 0
   have e1:=zT hV 1
   have e2:=zT hV 2
   have e3:=zT hV 3
   have e4:=zT hV 4
   have e5:=zT hV 5
   have e6:=zT hV 6
   simp only[e0,e1,e2,e3,e4,e5,e6]
   clear e0 e1 e2 e3 e4 e5 e6
   refine wpAny_done (by kernel_rfl) ?_ _
   obtain⟨k5, -,s5⟩:=hS
   have hB6:=HBR.out.trans (s5.mono HBR.out.size)
   clear k4 hcj
   cases b
   ·go_wp2
    go_ret
    exact⟨by rw[HR.out,List.all_eq_false.2 ⟨_,List.getElem_mem hxj,by rw[← HBE.out];simp⟩];rfl,hB6⟩
   ·go_wp2
    go_roundw
    case rel=>exact⟨j+1,by omega,by go_num,hB6,k5,Lib.hid (by rw[List.take_succ_eq_append_getElem hxj,List.all_append,HT.out];simp[← HBE.out])⟩
    case measure=>simp[intOf];omega
  ·obtain rfl:j=m:=by omega
   have hal:(M.all fun ys=>isEl p k ys)=true:=by
    have:=HT.out
    rwa [List.take_of_length_le (by have:=HML.out;omega)]at this
   have HRR:Hid (R=(j == pw k)):=Lib.hid (by rw[HR.out,hal,HML.out];simp)
   clear hal
   go_wp2_with fail
   refine (xb p A k c wr (by omega)).mono ?_
   rintro e w5 ⟨rfl,hb5⟩
   have hfin:=hBr.trans (hb5.mono hBr.size)
   by_cases he:j=pw k
   ·have hei:((j:Int) == (pw k:Int))=true:=by simp[he]
    have HT:Hid (R=true):=Lib.hid (by rw[HRR.out];simp[he])
    clear he
    go_wp2
    go_ret
    exact⟨by rw[HT.out];simp,hfin⟩
   ·have hei:((j:Int) == (pw k:Int))=false:=by simp;omega
    have HT:Hid (R=false):=Lib.hid (by rw[HRR.out];simp[he])
    clear he
    go_wp2
    go_ret
    exact⟨by rw[HT.out];simp,hfin⟩
set_option maxHeartbeats 1600000 in
set_option maxRecDepth 8000 in
theorem yfU (p:Int) (A C:Option Addr) (k c dl:Nat) (st:List Int) (M:List (List Int)) (w:World) (hk6:k≤65536) (ha:Rd w A k (ints st)) (hc:RdM3 w C 1 [M]) (hM:okM3 M) :
 Calls Tryz.prog 89 #[.agg #[.int .i64 p,.slice A k c],.slice C 1 dl] w fun e w'=>e=.returned (.int .i64 (yH p st [] [M]))∧Below w.heap.size w w':=by
 have hB0:Below w.heap.size w (w.alloc (.cells #[.int .i64 p,.slice A k c] 26)):=zG.alloc (Nat.le_refl _) _
 have k0:Blk (w.alloc (.cells #[.int .i64 p,.slice A k c] 26)) w.heap.size 26 #[.int .i64 p,.slice A k c]:=Blk.new _ _ _
 have h14:=ybX p A k c st (w.alloc (.cells #[.int .i64 p,.slice A k c] 26)) (by omega) (ha.below hB0)
 have hsl:st.length=k:=ha.lenI
 have hcT:yH p st [] [M]=if yH p st [] []=0 then (if isMx p st.length M=true then 0 else 2) else yH p st [] []:=by
  rw[ya3]
  unfold yH xi
  cases hdb:isDb p st
  ·rfl
  ·by_cases h3:3<st.length
   ·simp[h3]
   ·cases hx:isMx p st.length M<;>simp[h3,hx]
 obtain⟨R,hR⟩:∃ R,R=yH p st [] [M]:=⟨_,rfl⟩
 rw[← hR]
 rw[hcT]at hR
 obtain⟨co,hco⟩:∃ z,z=yH p st [] []:=⟨_,rfl⟩
 rw[← hco]at h14 hR
 obtain⟨q0,q1⟩:=k0.two
 by_cases h0:co=0
 ·rw[if_pos h0]at hR
  obtain⟨hdb,h3, -, -⟩:=vm (hco.symm.trans h0)
  obtain⟨HP, -, -⟩:=ze hdb
  obtain⟨hp3,hp2⟩:=yk HP
  rw[hsl]at h3 hR
  obtain⟨gc,oc,rfl,hx0,Am,cm,hcm,hrm, -⟩:=hc.at_ (k:=0) (by omega)
  simp only[List.getElem_cons_zero,Nat.add_zero]at hcm hrm
  obtain⟨m,hm⟩:∃ z,z=M.length:=⟨_,rfl⟩
  rw[← hm]at hcm hrm
  obtain⟨b,hb⟩:∃ z,z=isMx p k M:=⟨_,rfl⟩
  rw[← hb]at hR
  have hmx:=fun w' (h:Below w.heap.size w w')=>yfT p A Am k c m cm M w' (by omega) (by omega) hp2 (by rw[hm];exact hM.1) (hrm.below h) hM.2
  rw[← hb]at hmx
  have HR:=Lib.hid hR
  have HMX0:=Lib.hid hmx
  have hc0:=(hB0.cell (World.block_lt_of_cell? _ _ hcm)).trans hcm
  subst h0
  clear hco hdb HP hsl ha hc hM hcT hR hmx hb hm hrm hx0 hcm
  go_enter Tryz.func89,Tryz.ntmps89
  go_wp2_with fail
  refine h14.mono ?_
  rintro e w2 ⟨rfl,hb2⟩
  have k2:=k0.below hb2 k0.lt
  have hB2:=hB0.trans (hb2.mono hB0.size)
  have hc2:=(hb2.cell (World.block_lt_of_cell? _ _ hc0)).trans hc0
  have HMX:=Lib.hid fun w' (h:Below w2.heap.size w2 w')=>HMX0.out w' (hB2.trans (h.mono hB2.size))
  have HB2:=Lib.hid hB2
  clear q0 q1 h14 k0 hb2 hB0 hc0 hB2
  go_wp2
  go_loopw [6] (fun i wr=>∃ j:Nat,j≤1∧i=.int .i64 j∧Hid (Below w2.heap.size w2 wr)∧Blk wr w.heap.size 26 #[.int .i64 p,.slice A k c]∧Hid (0<j→b=true)) (fun i _=>1-(intOf i).toNat)
  case atStart=>exact⟨0,by omega,rfl,Lib.hid zG,k2,Lib.hid (fun h=>absurd h (by omega))⟩
  case round=>
   obtain⟨j,hj,rfl,HBr,k4,HT⟩:=hrel
   clear k2
   rcases (show j=0∨j=1 by omega) with rfl | rfl
   ·have hcj:=(HBr.out.cell (World.block_lt_of_cell? _ _ hc2)).trans hc2
    go_wp2
    refine yh 7 [[],[],[],[1,2],[1,2,3],[0,1,2,3,4],[0,1,2,3,4,5]] [VIs (.agg #[.int .i64 p,.slice A k c]),VIs (.slice (some ⟨gc,oc,none⟩) 1 dl),VIs (.int .i64 0),VIs (.pointer (some ⟨gc,oc,none⟩)),VIs (.slice Am m cm),VIs (.bool b),VIs (.bool (!b))] (fun w'=>Blk w' w.heap.size 26 #[.int .i64 p,.slice A k c]∧w'.cell? ⟨gc,oc,none⟩=some (.slice Am m cm)∧Below w2.heap.size w2 w') (by kernel_rfl) (by kernel_rfl) (fun _ _ h hb=>⟨h.1.below hb h.1.lt,(hb.cell (World.block_lt_of_cell? _ _ h.2.1)).trans h.2.1,h.2.2.trans (hb.mono h.2.2.size)⟩) (⟨k4.drew,hcj,HBr.out.trans zG.drew⟩) (fun x=>?_)
    refine zS (fun w' hS hV K hK=>?_) ?_
    ·obtain⟨q0,q1⟩:=hS.1.two;have q2:=hS.2.1;go_simp;exact zO hK
    refine zS (fun w' hS hV K hK=>?_) ?_
    ·obtain⟨q0,q1⟩:=hS.1.two;have q2:=hS.2.1;go_simp;exact zO hK
    refine zS (fun w' hS hV K hK=>?_) ?_
    ·obtain⟨q0,q1⟩:=hS.1.two;have q2:=hS.2.1;go_simp;exact zO hK
    refine zS (fun w' hS hV K hK=>?_) ?_
    ·have e1:=zQ hV 1;have e2:=zQ hV 2;obtain⟨q0,q1⟩:=hS.1.two;have q2:=hS.2.1;go_simp;exact zO hK
    refine zS (fun w' hS hV K hK=>?_) ?_
    ·have e3:=zQ hV 3;obtain⟨q0,q1⟩:=hS.1.two;have q2:=hS.2.1;go_simp;exact zO hK
    refine zS (fun w' hS hV K hK=>?_) ?_
    ·have e0:=zQ hV 0;have e4:=zQ hV 4;obtain⟨q0,q1⟩:=hS.1.two;have q2:=hS.2.1;go_simp;refine (HMX.out w' hS.2.2).mono ?_;rintro e v1 ⟨rfl,hb9⟩;exact hK.out _ _ _ rfl rfl rfl hb9
    refine zS (fun w' hS hV K hK=>?_) ?_
    ·have e5:=zQ hV 5;obtain⟨q0,q1⟩:=hS.1.two;have q2:=hS.2.1;go_simp;exact zO hK
    refine fun w' hS hV=>?_
    have e0:=zT hV 0
    have e1:=zT hV 1
    have e2:=zT hV 2
    have e3:=zT hV 3
    have e4:=zT hV 4
    have e5:=zT hV 5
    have e6:=zT hV 6
    simp only[e0,e1,e2,e3,e4,e5,e6]
    clear e0 e1 e2 e3 e4 e5 e6
    refine wpAny_done (by kernel_rfl) ?_ _
    obtain⟨k5, -,s5⟩:=hS
    have HB6:=Lib.hid s5
    clear k4 hcj
    cases b
    ·have hfin:=HB2.out.trans (HB6.out.mono HB2.out.size)
     go_wp2
     go_ret
     exact⟨by rw[HR.out];rfl,hfin⟩
    ·go_wp2
     go_roundw
     case rel=>exact⟨1,by omega,by go_num,HB6,k5,Lib.hid (by simp)⟩
     case measure=>simp[intOf]
   ·have hfin:=HB2.out.trans (HBr.out.mono HB2.out.size)
    have HRR:Hid (R=0):=Lib.hid (by rw[HR.out,HT.out (by omega)];first | rfl | simp)
    go_wp2
    go_ret
    exact⟨by rw[HRR.out];rfl,hfin⟩
 ·rw[if_neg h0]at hR
  have hne:(co == 0)=false:=by simpa using h0
  have HR:=Lib.hid hR
  clear hco hcT hR
  go_enter Tryz.func89,Tryz.ntmps89
  go_wp2_with fail
  refine h14.mono ?_
  rintro e w2 ⟨rfl,hb2⟩
  go_wp2
  go_ret
  exact⟨by rw[HR.out];rfl,hB0.trans (hb2.mono hB0.size)⟩
theorem yg3 {w:World} {g:Nat} {X:Option Addr} {n cx:Nat} {xs:List Int} (h:Blk w g 24 #[.slice X n cx]) (hx:Rd w X n (ints xs)) (hcx:n≤cx):RdII w (some ⟨g,0,none⟩) 1 [xs]:=by
 have hl:xs.length=n:=hx.lenI
 refine⟨[.slice X n cx],⟨rfl,fun _=>⟨g,0,rfl,fun j u hu=>?_⟩⟩,rfl,fun j hj=>?_⟩
 ·match j,hu with
  | 0,hu=>simp at hu;subst hu;exact h.cell 0
 ·obtain rfl:j=0:=by simpa using hj
  exact⟨X,cx,by simp[hl],by simpa [hl] using hx,by simpa [hl] using hcx⟩
def zP (p:Int) (st xs:List Int):Int:=if yH p st [xs] []=0 then (if xs.getD 0 0=0 then 0 else 5) else yH p st [xs] []
def PureP (p:Int) (st xs:List Int) (w:World) (e:Ending) (w':World):Prop:=
 (zP p st xs≠0∧e=.returned (.tuple #[.agg #[.slice none 0 0,.slice none 0 0,.slice none 0 0],.int .i64 (zP p st xs)])∧Below w.heap.size w w') ∨
 (zP p st xs=0 ∧ ∃ A1 c1 A2 c2 A3 c3,e=.returned (.tuple #[.agg #[.slice A1 (pw st.length) c1,.slice A2 (pw st.length) c2,.slice A3 (pw st.length) c3],.int .i64 0])∧TripW w w' (pw st.length) A1 c1 (yO p st.length st xs) A2 c2 (yY p st.length st xs) A3 c3 (xc p st.length st xs))
theorem xB {w w':World} {g:Nat} {a b d:Value} (h:Below w.heap.size w w') (hg:w.heap.size≤g):Below w.heap.size w (((w'.setCell ⟨g,0,none⟩ a).setCell ⟨g,1,none⟩ b).setCell ⟨g,2,none⟩ d):=
 ((h.setCell (p:=⟨g,0,none⟩) hg _).setCell (p:=⟨g,1,none⟩) hg _).setCell (p:=⟨g,2,none⟩) hg _
set_option maxHeartbeats 3200000 in
set_option maxRecDepth 8000 in
theorem yfV (p:Int) (hp:2≤p) (hp2:p≤13) (A:Option Addr) (k c:Nat) (g o1 n cP:Nat) (PM:List (List Int)) (i j q:Nat) (w:World) (hr:RdII w (some ⟨g,o1,none⟩) n PM) (hT:Tab p n PM) (hn8:n≤8) (hi:i<n) (hj:j<n) (hq:q<n) (hx:i ^^^ j=q) :
 Calls Tryz.prog 103 #[.agg #[.int .i64 p,.slice A k c],.slice (some ⟨g,o1,none⟩) n cP,.int .i64 i,.int .i64 j,.int .i64 q] w fun e w'=>e=.returned (.int .i64 (frmS p PM i j))∧Below w.heap.size w w':=by
 have hB0:Below w.heap.size w (w.alloc (.cells #[.int .i64 p,.slice A k c] 26)):=zG.alloc (Nat.le_refl _) _
 have k0:Blk (w.alloc (.cells #[.int .i64 p,.slice A k c] 26)) w.heap.size 26 #[.int .i64 p,.slice A k c]:=Blk.new _ _ _
 obtain⟨gi,oi,ci,t1,t2⟩:=(hr.below hB0).grid hT hi hj
 obtain⟨gq,oq,cq,t3,t4⟩:=(hr.below hB0).grid hT hq hq
 obtain⟨xv1,he1⟩:∃ z,z=ent PM i j:=⟨_,rfl⟩
 obtain⟨xv2,he2⟩:∃ z,z=ent PM q q:=⟨_,rfl⟩
 obtain⟨b1,b2⟩:=hT.ent (show 0<p by omega) i j
 obtain⟨b3,b4⟩:=hT.ent (show 0<p by omega) q q
 have HFR:Hid (frmS p PM i j=(2*xv1*xv2)%p):=Lib.hid (by unfold frmS;rw[hx,he1,he2])
 rw[← he1]at t2 b1 b2
 rw[← he2]at t4 b3 b4
 have hxo:=uW i (by omega) j (by omega)
 rw[hx]at hxo
 have hm1:0≤xv1*xv2∧xv1*xv2≤169:=⟨Int.mul_nonneg b1 b3,by
  have:=Int.mul_le_mul (show xv1≤13 by omega) (show xv2≤13 by omega) b3 (by omega);omega⟩
 have hm2:2*xv1*xv2=2*(xv1*xv2):=Int.mul_assoc _ _ _
 have hm3:0≤2*xv1*xv2∧2*xv1*xv2≤338:=by omega
 clear he1 he2 hr hT hx hm1 hm2
 obtain⟨hm4,hm5⟩:=hm3
 obtain⟨q0,q1⟩:=k0.two
 go_enter Tryz.func103,Tryz.ntmps103
 go_wp2
 clear q0 q1
 refine yh 20 [[],[0],[],[],[2,3],[2,3,4],[],[2,3,4,5,6],[2,3,4,5,6,7],[2,3,4,5,6,7,8],[],[],[10,11],[10,11,12],[],[10,11,12,13,14],[10,11,12,13,14,15],[2,3,4,5,6,7,8,9,10,11,12,13,14,15,16],[0,1,2,3,4,5,6,7,8,9,10,11,12,13,14,15,16,17],[0,1,2,3,4,5,6,7,8,9,10,11,12,13,14,15,16,17,18]] [VIs (.pointer (some ⟨w.heap.size,0,none⟩)),VIs (.int .i64 (p)),VIs (.slice (some ⟨g,o1,none⟩) n cP),VIs (.int .i64 (i)),VIs (.pointer (some ⟨g,o1+i,none⟩)),VIs (.slice (some ⟨gi,oi,none⟩) n ci),VIs (.int .i64 (j)),VIs (.pointer (some ⟨gi,oi+j,none⟩)),VIs (.int .i64 (xv1)),VIs (.int .i64 (2*xv1)),VIs (.slice (some ⟨g,o1,none⟩) n cP),VIs (.int .i64 (q)),VIs (.pointer (some ⟨g,o1+q,none⟩)),VIs (.slice (some ⟨gq,oq,none⟩) n cq),VIs (.int .i64 (q)),VIs (.pointer (some ⟨gq,oq+q,none⟩)),VIs (.int .i64 (xv2)),VIs (.int .i64 (2*xv1*xv2)),VIs (.int .i64 ((2*xv1*xv2)%p)),VIs (.int .i64 ((2*xv1*xv2)%p))] (fun w'=>Blk w' w.heap.size 26 #[.int .i64 p,.slice A k c]∧w'.cell? ⟨g,o1+i,none⟩=some (.slice (some ⟨gi,oi,none⟩) n ci)∧w'.cell? ⟨gi,oi+j,none⟩=some (.int .i64 xv1)∧w'.cell? ⟨g,o1+q,none⟩=some (.slice (some ⟨gq,oq,none⟩) n cq)∧w'.cell? ⟨gq,oq+q,none⟩=some (.int .i64 xv2)∧Below w.heap.size w w') (by kernel_rfl) (by kernel_rfl) (fun _ _ h hb=>⟨h.1.below hb h.1.lt,(hb.cell (World.block_lt_of_cell? _ _ h.2.1)).trans h.2.1,(hb.cell (World.block_lt_of_cell? _ _ h.2.2.1)).trans h.2.2.1,(hb.cell (World.block_lt_of_cell? _ _ h.2.2.2.1)).trans h.2.2.2.1,(hb.cell (World.block_lt_of_cell? _ _ h.2.2.2.2.1)).trans h.2.2.2.2.1,h.2.2.2.2.2.trans (hb.mono h.2.2.2.2.2.size)⟩) (⟨k0.drew,t1,t2,t3,t4,hB0.drew⟩) (fun x=>?_)
 refine zS (fun w' hS hV K hK=>?_) ?_
 ·obtain⟨q0,q1⟩:=hS.1.two;have t1:=hS.2.1;have t2:=hS.2.2.1;have t3:=hS.2.2.2.1;have t4:=hS.2.2.2.2.1;go_simp;exact zO hK
 refine zS (fun w' hS hV K hK=>?_) ?_
 ·have e0:=zQ hV 0;obtain⟨q0,q1⟩:=hS.1.two;have t1:=hS.2.1;have t2:=hS.2.2.1;have t3:=hS.2.2.2.1;have t4:=hS.2.2.2.2.1;go_simp;exact zO hK
 refine zS (fun w' hS hV K hK=>?_) ?_
 ·obtain⟨q0,q1⟩:=hS.1.two;have t1:=hS.2.1;have t2:=hS.2.2.1;have t3:=hS.2.2.2.1;have t4:=hS.2.2.2.2.1;go_simp;exact zO hK
 refine zS (fun w' hS hV K hK=>?_) ?_
 ·obtain⟨q0,q1⟩:=hS.1.two;have t1:=hS.2.1;have t2:=hS.2.2.1;have t3:=hS.2.2.2.1;have t4:=hS.2.2.2.2.1;go_simp;exact zO hK
 refine zS (fun w' hS hV K hK=>?_) ?_
 ·have e2:=zQ hV 2;have e3:=zQ hV 3;obtain⟨q0,q1⟩:=hS.1.two;have t1:=hS.2.1;have t2:=hS.2.2.1;have t3:=hS.2.2.2.1;have t4:=hS.2.2.2.2.1;go_simp;exact zO hK
 refine zS (fun w' hS hV K hK=>?_) ?_
 ·have e4:=zQ hV 4;obtain⟨q0,q1⟩:=hS.1.two;have t1:=hS.2.1;have t2:=hS.2.2.1;have t3:=hS.2.2.2.1;have t4:=hS.2.2.2.2.1;go_simp;exact zO hK
 refine zS (fun w' hS hV K hK=>?_) ?_
 ·obtain⟨q0,q1⟩:=hS.1.two;have t1:=hS.2.1;have t2:=hS.2.2.1;have t3:=hS.2.2.2.1;have t4:=hS.2.2.2.2.1;go_simp;exact zO hK
 refine zS (fun w' hS hV K hK=>?_) ?_
 ·have e5:=zQ hV 5;have e6:=zQ hV 6;obtain⟨q0,q1⟩:=hS.1.two;have t1:=hS.2.1;have t2:=hS.2.2.1;have t3:=hS.2.2.2.1;have t4:=hS.2.2.2.2.1;go_simp;exact zO hK
 refine zS (fun w' hS hV K hK=>?_) ?_
 ·have e7:=zQ hV 7;obtain⟨q0,q1⟩:=hS.1.two;have t1:=hS.2.1;have t2:=hS.2.2.1;have t3:=hS.2.2.2.1;have t4:=hS.2.2.2.2.1;go_simp;exact zO hK
 refine zS (fun w' hS hV K hK=>?_) ?_
 ·have e8:=zQ hV 8;obtain⟨q0,q1⟩:=hS.1.two;have t1:=hS.2.1;have t2:=hS.2.2.1;have t3:=hS.2.2.2.1;have t4:=hS.2.2.2.2.1;go_simp;exact hK.out _ _ _ rfl rfl (by first | rfl | exact congrArg (Value.int .i64) (by omega) | exact congrArg (Value.int .i64) ((yi _ (by omega) (by omega)).trans (by omega))) zG
 refine zS (fun w' hS hV K hK=>?_) ?_
 ·obtain⟨q0,q1⟩:=hS.1.two;have t1:=hS.2.1;have t2:=hS.2.2.1;have t3:=hS.2.2.2.1;have t4:=hS.2.2.2.2.1;go_simp;exact zO hK
 refine zS (fun w' hS hV K hK=>?_) ?_
 ·obtain⟨q0,q1⟩:=hS.1.two;have t1:=hS.2.1;have t2:=hS.2.2.1;have t3:=hS.2.2.2.1;have t4:=hS.2.2.2.2.1;go_simp;exact zO hK
 refine zS (fun w' hS hV K hK=>?_) ?_
 ·have e10:=zQ hV 10;have e11:=zQ hV 11;obtain⟨q0,q1⟩:=hS.1.two;have t1:=hS.2.1;have t2:=hS.2.2.1;have t3:=hS.2.2.2.1;have t4:=hS.2.2.2.2.1;go_simp;exact zO hK
 refine zS (fun w' hS hV K hK=>?_) ?_
 ·have e12:=zQ hV 12;obtain⟨q0,q1⟩:=hS.1.two;have t1:=hS.2.1;have t2:=hS.2.2.1;have t3:=hS.2.2.2.1;have t4:=hS.2.2.2.2.1;go_simp;exact zO hK
 refine zS (fun w' hS hV K hK=>?_) ?_
 ·obtain⟨q0,q1⟩:=hS.1.two;have t1:=hS.2.1;have t2:=hS.2.2.1;have t3:=hS.2.2.2.1;have t4:=hS.2.2.2.2.1;go_simp;exact zO hK
 refine zS (fun w' hS hV K hK=>?_) ?_
 ·have e13:=zQ hV 13;have e14:=zQ hV 14;obtain⟨q0,q1⟩:=hS.1.two;have t1:=hS.2.1;have t2:=hS.2.2.1;have t3:=hS.2.2.2.1;have t4:=hS.2.2.2.2.1;go_simp;exact zO hK
 refine zS (fun w' hS hV K hK=>?_) ?_
 ·have e15:=zQ hV 15;obtain⟨q0,q1⟩:=hS.1.two;have t1:=hS.2.1;have t2:=hS.2.2.1;have t3:=hS.2.2.2.1;have t4:=hS.2.2.2.2.1;go_simp;exact zO hK
 refine zS (fun w' hS hV K hK=>?_) ?_
 ·have e9:=zQ hV 9;have e16:=zQ hV 16;obtain⟨q0,q1⟩:=hS.1.two;have t1:=hS.2.1;have t2:=hS.2.2.1;have t3:=hS.2.2.2.1;have t4:=hS.2.2.2.2.1;go_simp;exact hK.out _ _ _ rfl rfl (by first | rfl | exact congrArg (Value.int .i64) (by omega) | exact congrArg (Value.int .i64) ((yi _ (by omega) (by omega)).trans (by omega))) zG
 refine zS (fun w' hS hV K hK=>?_) ?_
 ·have e1:=zQ hV 1;have e17:=zQ hV 17;obtain⟨q0,q1⟩:=hS.1.two;have t1:=hS.2.1;have t2:=hS.2.2.1;have t3:=hS.2.2.2.1;have t4:=hS.2.2.2.2.1;go_simp;refine (xl p (2*xv1*xv2) w' (by omega) hp2 (by omega) (by omega)).mono ?_;rintro e w1 ⟨rfl,rfl⟩;exact zO hK
 refine zS (fun w' hS hV K hK=>?_) ?_
 ·have e18:=zQ hV 18;obtain⟨q0,q1⟩:=hS.1.two;have t1:=hS.2.1;have t2:=hS.2.2.1;have t3:=hS.2.2.2.1;have t4:=hS.2.2.2.2.1;go_simp;exact zO hK
 refine fun w' hS hV=>?_
 have e0:=zT hV 0
 have e1:=zT hV 1
 have e2:=zT hV 2
 have e3:=zT hV 3
 have e4:=zT hV 4
 have e5:=zT hV 5
 have e6:=zT hV 6
 have e7:=zT hV 7
 have e8:=zT hV 8
 have e9:=zT hV 9
 have e10:=zT hV 10
 have e11:=zT hV 11
 have e12:=zT hV 12
 have e13:=zT hV 13
 have e14:=zT hV 14
 have e15:=zT hV 15
 have e16:=zT hV 16
 have e17:=zT hV 17
 have e18:=zT hV 18
 have e19:=zT hV 19
 simp only[e0,e1,e2,e3,e4,e5,e6,e7,e8,e9,e10,e11,e12,e13,e14,e15,e16,e17,e18,e19]
 clear e0 e1 e2 e3 e4 e5 e6 e7 e8 e9 e10 e11 e12 e13 e14 e15 e16 e17 e18 e19
 refine wpAny_done (by kernel_rfl) ?_ _
 go_wp2
 go_ret
 exact⟨by rw[HFR.out];rfl,hS.2.2.2.2.2⟩
set_option maxHeartbeats 12800000 in
set_option maxRecDepth 8000 in
theorem ybY (p:Int) (HP:isP p=true) (k:Nat) (hk3:k≤3) (A:Option Addr) (c:Nat) (st:List Int) (w:World) (hc:k≤c) (ha:Rd w A k (ints st)) (hst:NumsL p st) :
 Calls Tryz.prog 43 #[.agg #[.int .i64 p,.slice A k c]] w fun e w'=>∃ A' c',e=.returned (.slice A' (yI p (locS p k st) (3*(pw k*pw k))).length c')∧MkO w w' A' (yI p (locS p k st) (3*(pw k*pw k))).length c' (yI p (locS p k st) (3*(pw k*pw k))):=by
 obtain⟨hp3,hp2⟩:=yk HP
 have hp:2≤p:=by omega
 have hpk:pw k≤8:=yz hk3
 have hpos:=yq k
 have hB0:Below w.heap.size w (w.alloc (.cells #[.int .i64 p,.slice A k c] 26)):=zG.alloc (Nat.le_refl _) _
 have k0:Blk (w.alloc (.cells #[.int .i64 p,.slice A k c] 26)) w.heap.size 26 #[.int .i64 p,.slice A k c]:=Blk.new _ _ _
 have hbs:=fun w' (h:Below w.heap.size w w')=>yfA p hp hp2 k (by omega) A c st w' hc (ha.below h) hst
 have hdg:=fun w' (h:Below w.heap.size w w')=>jZ p hp hp2 k (by omega) A c st w' hc (ha.below h) hst
 have hsz:=fun w'=>xb p A k c w' (by omega)
 have hPT:Tab p (pw k) (xN p k st):=ygK (by omega) k st
 have hdn:=vn (p:=p) (by omega) k st
 have hLT:=qE (p:=p) (by omega) k st
 obtain⟨PM,hPM⟩:∃ z,z=xN p k st:=⟨_,rfl⟩
 obtain⟨DG,hDG⟩:∃ z,z=dgL p k st:=⟨_,rfl⟩
 obtain⟨LP,hLP⟩:∃ z,z=locS p k st:=⟨_,rfl⟩
 rw[← hLP]at hLT ⊢
 rw[← hDG]at hdg hdn
 rw[← hPM]at hbs hPT
 obtain⟨n,hn⟩:∃ n,n=pw k:=⟨_,rfl⟩
 have HX:Hid (∀ a b,a<n→b<n→a ^^^ b<n):=Lib.hid fun a b h1 h2=>by rw[hn]at h1 h2 ⊢;exact zV h1 h2
 rw[← hn]at hpk hpos hbs hsz hPT hLT hdg ⊢
 have HBS:=Lib.hid hbs
 have HDG:=Lib.hid hdg
 have HSZ:=Lib.hid hsz
 have HDN:=Lib.hid hdn
 have HPT:=Lib.hid hPT
 obtain⟨SR,hSR⟩:∃ S:Nat→Nat→Nat→List Int,S=fun part i q=>xT n DG part i q:=⟨_,rfl⟩
 obtain⟨FR,hFR⟩:∃ S:Nat→Nat→Nat→List Int,S=fun i j q=>xD p n PM i j q:=⟨_,rfl⟩
 have HLP:Hid (LP=(fm 3 (fun part=>fm n fun i=>tab (i+1) (SR part i)))++fm n (fun i=>fm n fun j=>tab n (FR i j))):=Lib.hid (by rw[hLP,hSR,hFR,hDG,hPM,hn];rfl)
 have HSR:Hid (∀ part i q,SR part i q=xT n DG part i q):=Lib.hid fun _ _ _=>by rw[hSR]
 have HFR:Hid (∀ i j q,FR i j q=xD p n PM i j q):=Lib.hid fun _ _ _=>by rw[hFR]
 obtain⟨n2,hn2⟩:∃ z,z=n*n:=⟨_,rfl⟩
 have HN2:=Lib.hid hn2
 have hn64:n2≤64:=by rw[hn2];exact Nat.mul_le_mul hpk hpk
 have hn2p:n≤n2:=by rw[hn2];exact Nat.le_mul_of_pos_left n hpos
 obtain⟨m3,hm3⟩:∃ z,z=3*n:=⟨_,rfl⟩
 obtain⟨m2,hm2⟩:∃ z,z=2*n:=⟨_,rfl⟩
 obtain⟨N,hN⟩:∃ z,z=3*n2:=⟨_,rfl⟩
 have HNN:Hid (3*(n*n)=N):=Lib.hid (by rw[hN,hn2])
 rw[HNN.out]at hLT ⊢
 have HLT:=Lib.hid hLT
 have f3:(3:Int)*(n:Int)=(m3:Int):=by omega
 have f3n:(m3:Int)*(n:Int)=(N:Int):=by rw[← Int.natCast_mul,hm3,hN,hn2,Nat.mul_assoc]
 have f2:(2:Int)*(n:Int)=(m2:Int):=by omega
 have bm3:m3≤24:=by omega
 have bm2:m2≤16:=by omega
 have bN:N≤192:=by omega
 have HM2:Hid (m2=2*n∧N=3*n2):=Lib.hid ⟨hm2,hN⟩
 have HP':=Lib.hid HP
 have hmk:=xE (P:=Tryz.prog) 24 2 Tryz.underlying24 yo N (by omega)
 clear hn hPM hDG hLP hSR hFR hbs hdg hsz hdn hPT hLT hst ha hn2 hm3 hm2 hN HP
 go_enter Tryz.func43,Tryz.ntmps43
 go_wp2
 refine yh 9 [[],[0],[],[2],[],[4],[0,1],[2,3],[4,5]] [VIs (.agg #[.int .i64 p,.slice A k c]),VMat w n PM,VIs (.agg #[.int .i64 p,.slice A k c]),VIs (.int .i64 (n)),VIs (.agg #[.int .i64 p,.slice A k c]),VSl w n DG,VMat w n PM,VIs (.int .i64 (n)),VSl w n DG] (fun w'=>Blk w' w.heap.size 26 #[.int .i64 p,.slice A k c]∧Below w.heap.size w w') (by kernel_rfl) (by kernel_rfl) (fun _ _ h hb=>⟨h.1.below hb h.1.lt,h.2.trans (hb.mono h.2.size)⟩) (⟨k0.drew,hB0.drew⟩) (fun x=>?_)
 refine zS (fun w' hS hV K hK=>?_) ?_
 ·obtain⟨q0,q1⟩:=hS.1.two;go_simp;exact zO hK
 refine zS (fun w' hS hV K hK=>?_) ?_
 ·have e0:=zQ hV 0;obtain⟨q0,q1⟩:=hS.1.two;go_simp;refine (HBS.out w' hS.2).mono ?_;rintro e v1 ⟨A9,c9,rfl,hM⟩;exact hK.out _ _ _ rfl rfl ⟨_,_,rfl,hM.after hS.2⟩ hM.b
 refine zS (fun w' hS hV K hK=>?_) ?_
 ·obtain⟨q0,q1⟩:=hS.1.two;go_simp;exact zO hK
 refine zS (fun w' hS hV K hK=>?_) ?_
 ·have e2:=zQ hV 2;obtain⟨q0,q1⟩:=hS.1.two;go_simp;refine (HSZ.out w').mono ?_;rintro e v1 ⟨rfl,hb⟩;exact hK.out _ _ _ rfl rfl rfl hb
 refine zS (fun w' hS hV K hK=>?_) ?_
 ·obtain⟨q0,q1⟩:=hS.1.two;go_simp;exact zO hK
 refine zS (fun w' hS hV K hK=>?_) ?_
 ·have e4:=zQ hV 4;obtain⟨q0,q1⟩:=hS.1.two;go_simp;refine (HDG.out w' hS.2).mono ?_;rintro e v1 ⟨A9,c9,rfl,hM⟩;exact hK.out _ _ _ rfl rfl ⟨_,_,rfl,hM.after hS.2⟩ hM.b
 refine zS (fun w' hS hV K hK=>?_) ?_
 ·obtain⟨A1,c1,e1,h1⟩:=hV 1 (by decide);obtain⟨q0,q1⟩:=hS.1.two;go_simp;exact hK.out _ _ _ rfl rfl ⟨_,_,rfl,h1⟩ zG
 refine zS (fun w' hS hV K hK=>?_) ?_
 ·have e3:=zQ hV 3;obtain⟨q0,q1⟩:=hS.1.two;go_simp;exact zO hK
 refine zS (fun w' hS hV K hK=>?_) ?_
 ·obtain⟨A5,c5,e5,h5⟩:=hV 5 (by decide);obtain⟨q0,q1⟩:=hS.1.two;go_simp;exact hK.out _ _ _ rfl rfl ⟨_,_,rfl,h5⟩ zG
 refine fun w' hS hV=>?_
 have e0:=zT hV 0
 obtain⟨A1,c1,e1,h1⟩:=hV 1 (by decide)
 have e2:=zT hV 2
 have e3:=zT hV 3
 have e4:=zT hV 4
 obtain⟨A5,c5,e5,h5⟩:=hV 5 (by decide)
 obtain⟨A6,c6,e6,h6⟩:=hV 6 (by decide)
 have e7:=zT hV 7
 obtain⟨A8,c8,e8,h8⟩:=hV 8 (by decide)
 simp only[e0,e1,e2,e3,e4,e5,e6,e7,e8]
 clear e0 e1 e2 e3 e4 e5 e6 e7 e8
 refine wpAny_done (by kernel_rfl) ?_ _
 obtain⟨kb,s1⟩:=hS
 have HDM:=Lib.hid h8
 have HPM:=Lib.hid h6
 have HB1:=Lib.hid s1
 obtain⟨wb,hwb⟩:∃ W,W=w':=⟨_,rfl⟩
 rw[← hwb]at HDM HPM HB1 kb ⊢
 obtain⟨DA',hDA⟩:∃ z,z=A8:=⟨_,rfl⟩
 obtain⟨cD,hcD⟩:∃ z,z=c8:=⟨_,rfl⟩
 obtain⟨PA,hPA⟩:∃ z,z=A6:=⟨_,rfl⟩
 obtain⟨cP,hcP⟩:∃ z,z=c6:=⟨_,rfl⟩
 rw[← hDA,← hcD]at HDM
 rw[← hPA,← hcP]at HPM
 rw[← hDA,← hcD,← hPA,← hcP]
 clear hV hwb hDA hcD hPA hcP k0 hB0 s1 h1 h5 h8 h6
 obtain⟨gD,oD,rfl, -⟩:=HDM.out.rd.int hpos
 obtain⟨gP,oP,rfl, -⟩:=HPM.out.rd.at_ hpos
 have HDD:Hid (Rd wb (some ⟨gD,oD,none⟩) n (ints DG)):=Lib.hid HDM.out.rd
 have HFO:Hid (∀ (w':World) (i j q:Nat),Below wb.heap.size wb w'→i<n→j<n→q<n→i ^^^ j=q→Calls Tryz.prog 103 #[.agg #[.int .i64 p,.slice A k c],.slice (some ⟨gP,oP,none⟩) n cP,.int .i64 i,.int .i64 j,.int .i64 q] w' fun e w''=>e=.returned (.int .i64 (frmS p PM i j))∧Below w'.heap.size w' w''):=Lib.hid fun w' i j q hb h1 h2 h3 hx=>yfV p hp hp2 A k c gP oP n cP PM i j q w' (HPM.out.rd.below hb) HPT.out hpk h1 h2 h3 hx
 have hM0:MkII wb (wb.alloc (.cells #[] 24)) (some ⟨wb.heap.size,0,none⟩) 0 0 []:=MkII.empty zG
 have k2:=kb.alloc (.cells #[] 24)
 clear HDM kb HPT
 go_wp2
 go_loopw [6,7] (fun out i wr=>∃ (part t:Nat) (A':Option Addr) (c':Nat),part≤3∧i=.int .i64 part∧out=.slice A' t c'∧t≤part*72∧Hid (MkII wb wr A' t c' (fm part (fun part=>fm n fun i=>tab (i+1) (SR part i))))∧Blk wr w.heap.size 26 #[.int .i64 p,.slice A k c]) (fun _ i _=>3-(intOf i).toNat)
 case atStart=>exact⟨0,0,_,_,by omega,rfl,rfl,by omega,Lib.hid hM0,k2⟩
 case round=>
  obtain⟨part,t,A',c',hpart,rfl,rfl,htb,HM,kr⟩:=hrel
  clear hM0 k2
  by_cases hlp:part<3
  ·obtain⟨LO,hLO⟩:∃ z,z=fm part (fun part=>fm n fun i=>tab (i+1) (SR part i)):=⟨_,rfl⟩
   have HLO:Hid (fm (part+1) (fun part=>fm n fun i=>tab (i+1) (SR part i))=LO++fm n (fun i=>tab (i+1) (SR part i))):=Lib.hid (by rw[hLO];rfl)
   rw[← hLO]at HM
   clear hLO
   obtain⟨pn,hpn⟩:∃ z,z=part*n:=⟨_,rfl⟩
   obtain⟨pnn,hpnn⟩:∃ z,z=part*n2:=⟨_,rfl⟩
   have HPN:=Lib.hid hpn
   have HPNN:=Lib.hid hpnn
   have g1:(part:Int)*(n:Int)=(pn:Int):=by rw[← Int.natCast_mul,← hpn]
   have bpn:pn≤16:=by rw[hpn];exact Nat.mul_le_mul (show part≤2 by omega) hpk
   have bpnn:pnn+n2≤N:=by
    have:=Nat.mul_le_mul_right n2 (show part+1≤3 by omega)
    rw[Nat.add_mul,Nat.one_mul,← hpnn,← HM2.out.2]at this;exact this
   have hlpi:(part:Int)<3:=by omega
   clear hpn hpnn
   go_wp2
   go_loopw [6,8] (fun out i wr=>∃ (i' t:Nat) (A':Option Addr) (c':Nat),i'≤n∧i=.int .i64 i'∧out=.slice A' t c'∧t≤part*72+i'*9∧Hid (MkII wb wr A' t c' (LO++fm i' (fun i=>tab (i+1) (SR part i))))∧Blk wr w.heap.size 26 #[.int .i64 p,.slice A k c]) (fun _ i _=>n-(intOf i).toNat)
   case atStart=>exact⟨0,t,_,_,by omega,rfl,rfl,by omega,Lib.hid (by simpa [fm] using HM.out),kr⟩
   case round=>
    obtain⟨i,t,A',c',hi,rfl,rfl,htb,HM,kr⟩:=hrel
    by_cases hlt:i<n
    ·obtain⟨LI,hLI⟩:∃ z,z=LO++fm i (fun i=>tab (i+1) (SR part i)):=⟨_,rfl⟩
     have HLI:Hid (LO++fm (i+1) (fun i=>tab (i+1) (SR part i))=LI++tab (i+1) (SR part i)):=Lib.hid (by rw[hLI,vB,List.append_assoc])
     rw[← hLI]at HM
     clear hLI
     obtain⟨s1,hs1⟩:∃ z,z=pn+i:=⟨_,rfl⟩
     obtain⟨in_,hin⟩:∃ z,z=i*n:=⟨_,rfl⟩
     obtain⟨sn1,hsn1⟩:∃ z,z=s1*n:=⟨_,rfl⟩
     have HSN1:Hid (sn1=pnn+in_):=Lib.hid (by rw[hsn1,hs1,HPNN.out,HN2.out,hin,HPN.out,Nat.add_mul,Nat.mul_assoc])
     have HIN:=Lib.hid hin
     have g3:(pn:Int)+(i:Int)=(s1:Int):=by omega
     have g4:(s1:Int)*(n:Int)=(sn1:Int):=by rw[← Int.natCast_mul,← hsn1]
     have bin:in_+n≤n2:=by
      have:=Nat.mul_le_mul_right n (show i+1≤n by omega)
      rw[Nat.add_mul,Nat.one_mul,← hin,← HN2.out]at this;exact this
     have bs1:s1≤24:=by omega
     have bsn1:sn1+n≤N:=by rw[HSN1.out];omega
     clear hin hs1 hsn1
     go_wp2
     go_loopw [6,9] (fun out q wr=>∃ (q':Nat) (A':Option Addr) (c':Nat),q'≤i+1∧q=.int .i64 q'∧out=.slice A' (t+q') c'∧Hid (MkII wb wr A' (t+q') c' (LI++tab q' (SR part i)))∧Blk wr w.heap.size 26 #[.int .i64 p,.slice A k c]) (fun _ q _=>i+1-(intOf q).toNat)
     case atStart=>exact⟨0,_,_,by omega,rfl,rfl,Lib.hid (by simpa [tab] using HM.out),kr⟩
     case round=>
      obtain⟨q,A',c',hq,rfl,rfl,HM,kr⟩:=hrel
      by_cases hlq:q<i+1
      ·have hqlt:q<n:=by omega
       have hlqi:(q:Int)≤(i:Int):=by omega
       obtain⟨s2,hs2⟩:∃ z,z=pn+q:=⟨_,rfl⟩
       obtain⟨qn,hqn⟩:∃ z,z=q*n:=⟨_,rfl⟩
       obtain⟨sn2,hsn2⟩:∃ z,z=s2*n:=⟨_,rfl⟩
       have HSN2:Hid (sn2=pnn+qn):=Lib.hid (by rw[hsn2,hs2,HPNN.out,HN2.out,hqn,HPN.out,Nat.add_mul,Nat.mul_assoc])
       have g5:(pn:Int)+(q:Int)=(s2:Int):=by omega
       have g6:(s2:Int)*(n:Int)=(sn2:Int):=by rw[← Int.natCast_mul,← hsn2]
       have bqn:qn+n≤n2:=by
        have:=Nat.mul_le_mul_right n (show q+1≤n by omega)
        rw[Nat.add_mul,Nat.one_mul,← hqn,← HN2.out]at this;exact this
       have bs2:s2≤24:=by omega
       have bsn2:sn2+n≤N:=by rw[HSN2.out];omega
       obtain⟨a1,ha1⟩:∃ z,z=sn1+q:=⟨_,rfl⟩
       obtain⟨a2,ha2⟩:∃ z,z=sn2+i:=⟨_,rfl⟩
       have hba1:a1<N:=by omega
       have hba2:a2<N:=by omega
       have g7:(sn1:Int)+(q:Int)=(a1:Int):=by omega
       have g8:(sn2:Int)+(i:Int)=(a2:Int):=by omega
       have HPOS:Hid (a1=part*(n*n)+(i*n+q)∧a2=part*(n*n)+(q*n+i)):=Lib.hid (by rw[ha1,ha2,HSN1.out,HSN2.out,hqn,HIN.out,HPNN.out,HN2.out];omega)
       clear hqn hs2 hsn2 ha1 ha2
       have hm0:=Mk.made (E:=2) (n:=N) (z:=.int .i64 0) (Below.refl wr.heap.size wr) (by simp only[maxLen];omega)
       rw[xj]at hm0
       have HR0:Hid (MkI wr (wr.alloc (.cells (madeCells #[.int .i64 0] N) 2)) (some ⟨wr.heap.size,0,none⟩) N N (List.replicate N 0)):=Lib.hid hm0
       obtain⟨d1,hd1⟩:∃ z,z=DG.getD i 0:=⟨_,rfl⟩
       obtain⟨d2,hd2⟩:∃ z,z=DG.getD q 0:=⟨_,rfl⟩
       have HD1:=Lib.hid hd1
       have HD2:=Lib.hid hd2
       have hset:=(HR0.out.set a1 (.int .i64 d1)).1
       rw[yN]at hset
       have hset1:=hset
       rw[World.setCell_alloc_at _ _ _ _ _ rfl]at hset1
       have cd2:=(HDD.out.below (HM.out.b.trans (hset1.1.mono HM.out.b.size))).gridI hqlt
       clear hset1
       obtain⟨y2,hy2⟩:∃ y,((madeCells #[.int .i64 0] N).setIfInBounds a1 (.int .i64 d1))[a2]? = some y:=⟨_,Array.getElem?_eq_getElem (by rw[Array.size_setIfInBounds,size_madeCells];simpa using hba2)⟩
       have hset2:=(Mk.set hset a2 (.int .i64 d2)).1
       rw[yN,World.setCell_alloc_at _ _ _ _ _ rfl,World.setCell_alloc_at _ _ _ _ _ rfl]at hset2
       have HRS:Hid (MkI wr (wr.alloc (.cells (((madeCells #[.int .i64 0] N).setIfInBounds a1 (.int .i64 d1)).setIfInBounds a2 (.int .i64 d2)) 2)) (some ⟨wr.heap.size,0,none⟩) N N (SR part i q)):=Lib.hid (by
        have:=hset2
        rw[HD1.out,HD2.out,HPOS.out.1,HPOS.out.2]at this ⊢
        rw[HSR.out];unfold xT;rw[HNN.out];exact this)
       clear hset hset2
       have cd1:=(HDD.out.below (HM.out.b.trans (HR0.out.b.mono HM.out.b.size))).gridI hlt
       rw[← hd1]at cd1
       rw[← hd2]at cd2
       obtain⟨hoc,hof⟩:=zp hm0 hba1
       have kc:=(kr.below HRS.out.b kr.lt)
       clear hd1 hd2 hm0
       go_wp2_with (at_builtin;go_loud (refine vi wb wr _ rfl _ _ rfl A' (t+q) c' _ (some ⟨wr.heap.size,0,none⟩) N N _ HM.out HRS.out (by omega) rfl ?_ ?_);(go_simp);intro A6 c6 w6 hM6 hg6 hat6)
       have k8:=kc.grown hg6 ((HM.out.below HRS.out.b).ne_blk kc (by decide))
       have HM6:Hid (MkII wb w6 A6 (t+(q+1)) c6 (LI++tab (q+1) (SR part i))):=Lib.hid (by rw[← Nat.add_assoc,yQ,← List.append_assoc];exact hM6)
       clear hM6 hg6 hat6
       go_roundw
       case rel=>exact⟨q+1,A6,c6,by omega,by go_num,rfl,HM6,k8⟩
       case measure=>simp[intOf];omega
      ·obtain rfl:q=i+1:=by omega
       go_wp2
       go_roundw
       case rel=>exact⟨i+1,_,A',c',by omega,by go_num,rfl,by omega,Lib.hid (by rw[HLI.out];exact HM.out),kr⟩
       case measure=>simp[intOf];omega
    ·obtain rfl:i=n:=by omega
     go_wp2
     go_roundw
     case rel=>exact⟨part+1,_,A',c',by omega,by go_num,rfl,by omega,Lib.hid (by rw[HLO.out];exact HM.out),kr⟩
     case measure=>simp[intOf];omega
  ·have hpe:part=3:=by omega
   have htb3:t≤216:=by omega
   have hlpi:¬ (part:Int)<3:=by omega
   obtain⟨LO,hLO⟩:∃ z,z=fm 3 (fun part=>fm n fun i=>tab (i+1) (SR part i)):=⟨_,rfl⟩
   rw[hpe,← hLO]at HM
   rw[← hLO]at HLP
   clear hLO htb hpe hpart
   go_wp2
   go_loopw [6,11] (fun out i wr=>∃ (i' t:Nat) (A':Option Addr) (c':Nat),i'≤n∧i=.int .i64 i'∧out=.slice A' t c'∧t≤216+i'*64∧Hid (MkII wb wr A' t c' (LO++fm i' (fun i=>fm n fun j=>tab n (FR i j))))∧Blk wr w.heap.size 26 #[.int .i64 p,.slice A k c]) (fun _ i _=>n-(intOf i).toNat)
   case atStart=>exact⟨0,t,_,_,by omega,rfl,rfl,by omega,Lib.hid (by simpa [fm] using HM.out),kr⟩
   case round=>
    obtain⟨i,t,A',c',hi',rfl,rfl,htb,HM,kr⟩:=hrel
    by_cases hi:i<n
    ·obtain⟨LI,hLI⟩:∃ z,z=LO++fm i (fun i=>fm n fun j=>tab n (FR i j)):=⟨_,rfl⟩
     have HLI:Hid (LO++fm (i+1) (fun i=>fm n fun j=>tab n (FR i j))=LI++fm n (fun j=>tab n (FR i j))):=Lib.hid (by rw[hLI,vB,List.append_assoc])
     rw[← hLI]at HM
     clear hLI
     go_wp2
     go_loopw [6,12] (fun out j wr=>∃ (j' t:Nat) (A':Option Addr) (c':Nat),j'≤n∧j=.int .i64 j'∧out=.slice A' t c'∧t≤216+i*64+j'*8∧Hid (MkII wb wr A' t c' (LI++fm j' (fun j=>tab n (FR i j))))∧Blk wr w.heap.size 26 #[.int .i64 p,.slice A k c]) (fun _ j _=>n-(intOf j).toNat)
     case atStart=>exact⟨0,t,_,_,by omega,rfl,rfl,by omega,Lib.hid (by simpa [fm] using HM.out),kr⟩
     case round=>
      obtain⟨j,t,A',c',hj',rfl,rfl,htb,HM,kr⟩:=hrel
      by_cases hj:j<n
      ·obtain⟨LJ,hLJ⟩:∃ z,z=LI++fm j (fun j=>tab n (FR i j)):=⟨_,rfl⟩
       have HLJ:Hid (LI++fm (j+1) (fun j=>tab n (FR i j))=LJ++tab n (FR i j)):=Lib.hid (by rw[hLJ,vB,List.append_assoc])
       rw[← hLJ]at HM
       clear hLJ
       go_wp2
       go_loopw [6,13] (fun out q wr=>∃ (q':Nat) (A':Option Addr) (c':Nat),q'≤n∧q=.int .i64 q'∧out=.slice A' (t+q') c'∧Hid (MkII wb wr A' (t+q') c' (LJ++tab q' (FR i j)))∧Blk wr w.heap.size 26 #[.int .i64 p,.slice A k c]) (fun _ q _=>n-(intOf q).toNat)
       case atStart=>exact⟨0,_,_,by omega,rfl,rfl,Lib.hid (by simpa [tab] using HM.out),kr⟩
       case round=>
        obtain⟨q,A',c',hq',rfl,rfl,HM,kr⟩:=hrel
        by_cases hq:q<n
        ·obtain⟨jq,hjqe⟩:∃ z,z=j ^^^ q:=⟨_,rfl⟩
         obtain⟨iq,hiqe⟩:∃ z,z=i ^^^ q:=⟨_,rfl⟩
         obtain⟨ij,hije⟩:∃ z,z=i ^^^ j:=⟨_,rfl⟩
         have hjq:jq<n:=hjqe▸HX.out j q hj hq
         have hiq:iq<n:=hiqe▸HX.out i q hi hq
         have hij:ij<n:=hije▸HX.out i j hi hj
         have x1:=uW j (by omega) q (by omega)
         have x2:=uW i (by omega) q (by omega)
         have x3:=uW i (by omega) j (by omega)
         rw[← hjqe]at x1
         rw[← hiqe]at x2
         rw[← hije]at x3
         have HX1:Hid (jq ^^^ j=q):=Lib.hid (by rw[hjqe,Nat.xor_comm j q,Nat.xor_assoc,Nat.xor_self,Nat.xor_zero])
         have HX2:Hid (i ^^^ iq=q):=Lib.hid (by rw[hiqe,← Nat.xor_assoc,Nat.xor_self,Nat.zero_xor])
         have HX3:Hid (i ^^^ j=ij):=Lib.hid hije.symm
         have HXE:Hid (jq=j ^^^ q∧iq=i ^^^ q∧ij=i ^^^ j):=Lib.hid ⟨hjqe,hiqe,hije⟩
         obtain⟨jqn,hjqn⟩:∃ z,z=jq*n:=⟨_,rfl⟩
         obtain⟨s2,hs2⟩:∃ z,z=n+iq:=⟨_,rfl⟩
         obtain⟨sn2,hsn2⟩:∃ z,z=s2*n:=⟨_,rfl⟩
         obtain⟨s3,hs3⟩:∃ z,z=m2+ij:=⟨_,rfl⟩
         obtain⟨sn3,hsn3⟩:∃ z,z=s3*n:=⟨_,rfl⟩
         have g1:(jq:Int)*(n:Int)=(jqn:Int):=by rw[← Int.natCast_mul,← hjqn]
         have g2:(n:Int)+(iq:Int)=(s2:Int):=by omega
         have g3:(s2:Int)*(n:Int)=(sn2:Int):=by rw[← Int.natCast_mul,← hsn2]
         have g4:(m2:Int)+(ij:Int)=(s3:Int):=by omega
         have g5:(s3:Int)*(n:Int)=(sn3:Int):=by rw[← Int.natCast_mul,← hsn3]
         have bs2:s2≤16:=by omega
         have bs3:s3≤24:=by omega
         have le1:∀ a,a<n→a*n+n≤n2:=fun a h=>by
          have:=Nat.mul_le_mul_right n (show a+1≤n by omega)
          rw[Nat.add_mul,Nat.one_mul,← HN2.out]at this;exact this
         have l1:=le1 jq hjq
         have l2:=le1 iq hiq
         have l3:=le1 ij hij
         rw[← hjqn]at l1
         have HS2:Hid (sn2=n*n+iq*n):=Lib.hid (by rw[hsn2,hs2,Nat.add_mul])
         have HS3:Hid (sn3=2*(n*n)+ij*n):=Lib.hid (by rw[hsn3,hs3,Nat.add_mul,HM2.out.1,Nat.mul_assoc])
         have bN3:=HM2.out.2
         have hn2':=HN2.out
         have hj1:jqn+n≤N:=by omega
         have hj2:sn2+n≤N:=by rw[HS2.out,← hn2'];omega
         have hj3:sn3+n≤N:=by rw[HS3.out,← hn2'];omega
         clear hn2' bN3 le1 l1 l2 l3
         obtain⟨a1,ha1⟩:∃ z,z=jqn+i:=⟨_,rfl⟩
         obtain⟨a2,ha2⟩:∃ z,z=sn2+j:=⟨_,rfl⟩
         obtain⟨a3,ha3⟩:∃ z,z=sn3+q:=⟨_,rfl⟩
         have hba1:a1<N:=by omega
         have hba2:a2<N:=by omega
         have hba3:a3<N:=by omega
         have g6:(jqn:Int)+(i:Int)=(a1:Int):=by omega
         have g7:(sn2:Int)+(j:Int)=(a2:Int):=by omega
         have g8:(sn3:Int)+(q:Int)=(a3:Int):=by omega
         have HPOS:Hid (a1=(j ^^^ q)*n+i∧a2=n*n+((i ^^^ q)*n+j)∧a3=2*(n*n)+((i ^^^ j)*n+q)):=Lib.hid (by rw[ha1,ha2,ha3,HS2.out,HS3.out,hjqn,hjqe,hiqe,hije];omega)
         clear hjqe hiqe hije hjqn hs2 hsn2 hs3 hsn3 ha1 ha2 ha3
         have hm0:=Mk.made (E:=2) (n:=N) (z:=.int .i64 0) (Below.refl wr.heap.size wr) (by simp only[maxLen];omega)
         rw[xj]at hm0
         have HR0:Hid (MkI wr (wr.alloc (.cells (madeCells #[.int .i64 0] N) 2)) (some ⟨wr.heap.size,0,none⟩) N N (List.replicate N 0)):=Lib.hid hm0
         have hne:w.heap.size≠wr.heap.size:=by have:=kr.lt;omega
         have kv:=kr.below HR0.out.b kr.lt
         obtain⟨q0,q1⟩:=kv.two
         clear hm0
         have hcall1:=HFO.out (wr.alloc (.cells (madeCells #[.int .i64 0] N) 2)) jq j q (HM.out.b.trans (HR0.out.b.mono HM.out.b.size)) hjq hj hq HX1.out
         obtain⟨f1,hf1⟩:∃ z,z=frmS p PM jq j:=⟨_,rfl⟩
         rw[← hf1]at hcall1
         have HF1:=Lib.hid hf1
         clear hf1
         go_wp2_with fail
         refine hcall1.mono ?_
         rintro e u1 ⟨rfl,hbu⟩
         have HU1:=Lib.hid (HR0.out.below hbu)
         obtain⟨hoc,hof⟩:=zp HU1.out hba1
         have ku:=kv.below hbu kv.lt
         have hset:=(HU1.out.set a1 (.int .i64 f1)).1
         rw[yN]at hset
         have kv:=ku.far (p:=⟨wr.heap.size,a1,none⟩) hne (.int .i64 f1)
         obtain⟨v1,hv1⟩:∃ W,W=World.setCell u1 ⟨wr.heap.size,a1,none⟩ (.int .i64 f1):=⟨_,rfl⟩
         have HV1:=Lib.hid hv1
         rw[← hv1]at hset kv
         have HR1:=Lib.hid hset
         have hcall2:=HFO.out v1 i iq q (HM.out.b.trans (HR1.out.1.mono HM.out.b.size)) hi hiq hq HX2.out
         obtain⟨q0,q1⟩:=ku.two
         have r0:=kv.two.1
         have r1:=kv.two.2
         rw[hv1]at r0 r1 hcall2
         clear hcall1 hbu hset hv1 ku
         obtain⟨f2,hf2⟩:∃ z,z=frmS p PM i iq:=⟨_,rfl⟩
         rw[← hf2]at hcall2
         have HF2:=Lib.hid hf2
         clear hf2
         go_wp2_with fail
         refine hcall2.mono ?_
         rintro e u2 ⟨rfl,hbu⟩
         rw[← HV1.out]at hbu
         have HU2:=Lib.hid (Mk.below HR1.out hbu)
         obtain⟨hoc,hof⟩:=zp (L:=(List.replicate N 0).set a1 f1) HU2.out hba2
         have ku:=kv.below hbu kv.lt
         have hset:=(Mk.set HU2.out a2 (.int .i64 f2)).1
         rw[yN]at hset
         have kv:=ku.far (p:=⟨wr.heap.size,a2,none⟩) hne (.int .i64 f2)
         obtain⟨v2,hv2⟩:∃ W,W=World.setCell u2 ⟨wr.heap.size,a2,none⟩ (.int .i64 f2):=⟨_,rfl⟩
         have HV2:=Lib.hid hv2
         rw[← hv2]at hset kv
         have HR2:=Lib.hid hset
         have hcall3:=HFO.out v2 i j ij (HM.out.b.trans (HR2.out.1.mono HM.out.b.size)) hi hj hij HX3.out
         obtain⟨q0,q1⟩:=ku.two
         have r0:=kv.two.1
         have r1:=kv.two.2
         rw[hv2]at r0 r1 hcall3
         clear hcall2 hbu hset hv2 ku
         obtain⟨f3v,hf3⟩:∃ z,z=frmS p PM i j:=⟨_,rfl⟩
         rw[← hf3]at hcall3
         have HF3:=Lib.hid hf3
         clear hf3
         go_wp2_with fail
         refine hcall3.mono ?_
         rintro e u3 ⟨rfl,hbu⟩
         rw[← HV2.out]at hbu
         have HU3:=Lib.hid (Mk.below HR2.out hbu)
         obtain⟨hoc,hof⟩:=zp (L:=((List.replicate N 0).set a1 f1).set a2 f2) HU3.out hba3
         have ku:=kv.below hbu kv.lt
         have hset:=(Mk.set HU3.out a3 (.int .i64 f3v)).1
         rw[yN]at hset
         have kc:=ku.far (p:=⟨wr.heap.size,a3,none⟩) hne (.int .i64 f3v)
         have HRS:Hid (MkI wr (World.setCell u3 ⟨wr.heap.size,a3,none⟩ (.int .i64 f3v)) (some ⟨wr.heap.size,0,none⟩) N N (FR i j q)):=Lib.hid (by
          have:=hset
          rw[HF1.out,HF2.out,HPOS.out.1,HPOS.out.2.1,HXE.out.1,HXE.out.2.1]at this
          rw[HFR.out];unfold xD;rw[HNN.out]
          rw[← HPOS.out.2.2,← HF3.out]
          exact this)
         clear hcall3 hbu hset
         go_wp2_with (at_builtin;go_loud (refine vi wb wr _ rfl _ _ rfl A' (t+q) c' _ (some ⟨wr.heap.size,0,none⟩) N N _ HM.out HRS.out (by omega) rfl ?_ ?_);(go_simp);intro A6 c6 w6 hM6 hg6 hat6)
         have k8:=kc.grown hg6 ((HM.out.below HRS.out.b).ne_blk kc (by decide))
         have HM6:Hid (MkII wb w6 A6 (t+(q+1)) c6 (LJ++tab (q+1) (FR i j))):=Lib.hid (by rw[← Nat.add_assoc,yQ,← List.append_assoc];exact hM6)
         clear hM6 hg6 hat6
         go_roundw
         case rel=>exact⟨q+1,A6,c6,by omega,by go_num,rfl,HM6,k8⟩
         case measure=>simp[intOf];omega
        ·obtain rfl:q=n:=by omega
         go_wp2
         go_roundw
         case rel=>exact⟨j+1,_,A',c',by omega,by go_num,rfl,by omega,Lib.hid (by rw[HLJ.out];exact HM.out),kr⟩
         case measure=>simp[intOf];omega
      ·obtain rfl:j=n:=by omega
       go_wp2
       go_roundw
       case rel=>exact⟨i+1,_,A',c',by omega,by go_num,rfl,by omega,Lib.hid (by rw[HLI.out];exact HM.out),kr⟩
       case measure=>simp[intOf];omega
    ·obtain rfl:i=n:=by omega
     have hkr:=yfP p A' t c' LP N wr HP'.out (by omega) (by omega) (by rw[HLP.out];exact HM.out.rd) HLT.out
     obtain⟨q0,q1⟩:=kr.two
     go_wp2_with fail
     refine hkr.mono ?_
     rintro e w6 ⟨A6,c6,rfl,hM6⟩
     go_wp2
     go_ret
     exact⟨A6,c6,rfl,(MkO.after hM6 HM.out.b).after HB1.out⟩
end Go.Proofs.YtaiegpggccdgoaaGreat

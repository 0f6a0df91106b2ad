/-
  LawFnCompleteTriples: part 9 of the texts that the proof needs. No condition.
-/
import Derived.Test.YtaiegpggccdgoaaGreatK8
namespace Go.Proofs.YtaiegpggccdgoaaGreat
open Go Go.RowKit
set_option maxHeartbeats 800000 in
set_option maxRecDepth 8000 in
theorem yds (f:FuncId) (q q2:Addr) (p:List Int→Bool) (ok:List Int→Prop) (A:Option Addr) (n c:Nat) (xss:List (List Int)) (w:World) (hn:n≤1099511627776) (ha:RdII w A n xss) (hok:∀ xs∈xss,ok xs)
 (hf:uo f #[.pointer (some q),.pointer (some q2)] w p ok) (hcf:∀ (args:Array Value) (w:World),(callFunc f args).run Tryz.prog w=.ok (.enter f args) w) :
 Calls Tryz.prog 117 #[.slice A n c,.func (.func f) #[] #[.pointer (some q),.pointer (some q2)]] w fun e w'=>∃ r:Int,e=.returned (.int .i64 r)∧decide (0≤r)=xss.any p∧Below w.heap.size w w':=by
 have hxl:=ha.len
 have Hx:=Lib.hid hxl;clear hxl
 go_enter Tryz.func117,Tryz.ntmps117
 go_wp2
 go_loopw [8] (fun i wr=>∃ k:Nat,k≤n∧i=.int .i64 k∧(xss.take k).any p=false∧Below w.heap.size w wr) (fun i _=>n-(intOf i).toNat)
 case atStart=>exact⟨0,by omega,rfl,by simp,Below.refl _ _⟩
 case round=>
  obtain⟨k,hk,rfl,ht,hB⟩:=hrel
  have H:=Lib.hid ht;clear ht
  by_cases hlt:k<n
  ·obtain⟨g,o,rfl,hx,A',c',hcx,hr, -⟩:=(ha.below hB).at_ hlt
   have hoki:=hok xss[k] (List.getElem_mem hx)
   clear ha
   cases hi:p xss[k]
   all_goals
    have HI:=Lib.hid hi;clear hi
    go_wp2_with fail
    refine (hf _ _ _ _ _ hB hr hoki).mono ?_
    rintro e w1 ⟨rfl,hb1⟩
    rw[HI.out]
    go_wp2
   ·go_roundw
    case rel=>
     refine⟨k+1,by omega,by go_num,?_,hB.trans (hb1.mono hB.size)⟩
     rw[List.take_succ_eq_append_getElem hx,List.any_append,H.out]
     simpa using HI.out
    case measure=>simp[intOf];omega
   ·go_ret
    refine⟨_,rfl,?_,hB.trans (hb1.mono hB.size)⟩
    have:xss.any p=true:=List.any_eq_true.2 ⟨xss[k],List.getElem_mem hx,HI.out⟩
    rw[this];simp
  ·go_wp2
   go_ret
   refine⟨_,rfl,?_,hB⟩
   have:=H.out
   rw[List.take_of_length_le (by rw[Hx.out];omega)]at this
   rw[this];simp
set_option maxHeartbeats 400000 in
set_option maxRecDepth 8000 in
theorem ydk (f:FuncId) (q q2:Addr) (p:List Int→Bool) (ok:List Int→Prop) (A:Option Addr) (n c:Nat) (xss:List (List Int)) (w:World) (hn:n≤1099511627776) (ha:RdII w A n xss) (hok:∀ xs∈xss,ok xs)
 (hf:uo f #[.pointer (some q),.pointer (some q2)] w p ok) (hcf:∀ (args:Array Value) (w:World),(callFunc f args).run Tryz.prog w=.ok (.enter f args) w) :
 Calls Tryz.prog 65 #[.slice A n c,.func (.func f) #[] #[.pointer (some q),.pointer (some q2)]] w fun e w'=>e=.returned (.bool (xss.any p))∧Below w.heap.size w w':=by
 go_enter Tryz.func65,Tryz.ntmps65
 go_wp2_with fail
 refine (yds _ _ _ _ _ _ _ _ _ _ hn ha hok hf hcf).mono ?_
 rintro e w1 ⟨r,rfl,hr,hb⟩
 have HR:=Lib.hid hr;clear hr
 go_wp2
 go_ret
 exact⟨yJ HR.out,hb⟩
theorem RdII.rows {w:World} {A:Option Addr} {n:Nat} {M:List (List Int)} (h:RdII w A n M):∃ rows:List Value,Rd w A n rows∧rows.length=n∧(∀ v∈rows,v.oneCell'=true) ∧ ∀ (k:Nat) (hk:k<M.length),∃ A' c',rows[k]? = some (.slice A' M[k].length c')∧Rd w A' M[k].length (ints M[k])∧M[k].length≤c':=by
 have hl:=h.len
 obtain⟨rows,hr,hrl,hk⟩:=h
 refine⟨rows,hr,by omega,fun v hv=>?_,hk⟩
 obtain⟨k,hk',rfl⟩:=List.getElem_of_mem hv
 obtain⟨A',c',e, -⟩:=hk k (by omega)
 rw[List.getElem?_eq_getElem hk']at e
 injection e with e
 rw[e];rfl
theorem ycN {w:World} {r1 r2:List Value} {M N:List (List Int)} (h1:r1.length=M.length) (k1:∀ (k:Nat) (hk:k<M.length),∃ A' c',r1[k]? = some (.slice A' M[k].length c')∧Rd w A' M[k].length (ints M[k])∧M[k].length≤c')
 (k2:∀ (k:Nat) (hk:k<N.length),∃ A' c',r2[k]? = some (.slice A' N[k].length c')∧Rd w A' N[k].length (ints N[k])∧N[k].length≤c'):∀ (k:Nat) (hk:k<(M++N).length),∃ A' c',(r1++r2)[k]? = some (.slice A' (M++N)[k].length c')∧Rd w A' (M++N)[k].length (ints (M++N)[k])∧(M++N)[k].length≤c':=fun k hk=>by
 by_cases h:k<M.length
 ·simp only[List.getElem_append_left h]
  rw[List.getElem?_append_left (by omega)]
  exact k1 k h
 ·have hk':k-M.length<N.length:=by rw[List.length_append]at hk;omega
  simp only[List.getElem_append_right (Nat.le_of_not_lt h)]
  rw[List.getElem?_append_right (by omega),h1]
  exact k2 _ hk'
def yB (MA MB MC:List (List Int)):List Int:=(MA++(MB++MC)).flatten
set_option maxHeartbeats 3200000 in
set_option maxRecDepth 8000 in
theorem yim (n:Nat) (X Y Z:Option Addr) (cx cy cz:Nat) (MA MB MC:List (List Int)) (w:World) (hA:RdII w X n MA) (hB:RdII w Y n MB) (hC:RdII w Z n MC) (h0:0<n) (hn8:n≤8) (p:Int) (tA:Tab p n MA) (tB:Tab p n MB) (tC:Tab p n MC) :
 Calls Tryz.prog 64 #[.agg #[.slice X n cx,.slice Y n cy,.slice Z n cz]] w fun e w'=>∃ A' c',e=.returned (.slice A' (yB MA MB MC).length c')∧MkI w w' A' (yB MA MB MC).length c' (yB MA MB MC):=by
 have hB0:Below w.heap.size w (w.alloc (.cells #[.slice X n cx,.slice Y n cy,.slice Z n cz] 34)):=zG.alloc (Nat.le_refl _) _
 have k0:Blk (w.alloc (.cells #[.slice X n cx,.slice Y n cy,.slice Z n cz] 34)) w.heap.size 34 #[.slice X n cx,.slice Y n cy,.slice Z n cz]:=Blk.new _ _ _
 have q0:=k0.cell 0
 have q1:=k0.cell 1
 have q2:=k0.cell 2
 simp at q0 q1 q2
 obtain⟨ra,a1,a2,a3,a4⟩:=hA.rows
 obtain⟨rb,b1,b2,b3,b4⟩:=hB.rows
 obtain⟨rc,c1,c2,c3,c4⟩:=hC.rows
 obtain⟨w1,hw1⟩:∃ W,W=(w.alloc (.cells #[.slice X n cx,.slice Y n cy,.slice Z n cz] 34)).alloc (.cells #[.slice X n cx,.slice Y n cy,.slice Z n cz] 32):=⟨_,rfl⟩
 have hB1:Below w.heap.size w w1:=by rw[hw1];exact hB0.alloc (by simp) _
 have hVV:RdVV w1 (some ⟨w.heap.size+1,0,none⟩) 3 [ra,rb,rc]:=by
  refine⟨[.slice X n cx,.slice Y n cy,.slice Z n cz],⟨rfl,fun _=>⟨w.heap.size+1,0,rfl,fun i u hu=>?_⟩⟩,rfl,fun i hi=>?_⟩
  ·have kb:Blk w1 (w.heap.size+1) 32 #[.slice X n cx,.slice Y n cy,.slice Z n cz]:=by rw[hw1];exact Blk.newAt3 (by simp)
   match i,hu with
   | 0,hu=>simp at hu;subst hu;exact kb.cell 0
   | 1,hu=>simp at hu;subst hu;exact kb.cell 1
   | 2,hu=>simp at hu;subst hu;exact kb.cell 2
  ·match i,hi with
   | 0,_=>exact⟨X,cx,by simp[a2],by show Rd w1 X ra.length ra;rw[a2];exact a1.below hB1⟩
   | 1,_=>exact⟨Y,cy,by simp[b2],by show Rd w1 Y rb.length rb;rw[b2];exact b1.below hB1⟩
   | 2,_=>exact⟨Z,cz,by simp[c2],by show Rd w1 Z rc.length rc;rw[c2];exact c1.below hB1⟩
 have hfl:([ra,rb,rc].flatten).length=3*n:=by simp[a2,b2,c2];omega
 have hcon:=yel (some ⟨w.heap.size+1,0,none⟩) 3 3 [ra,rb,rc] w1 (by omega) (by omega) hVV (fun r hr=>by
  simp at hr
  rcases hr with rfl | rfl | rfl
  ·exact⟨⟨by omega,by omega⟩,a3⟩
  ·exact⟨⟨by omega,by omega⟩,b3⟩
  ·exact⟨⟨by omega,by omega⟩,c3⟩)
 rw[hfl]at hcon
 have hlA:=hA.len
 have hlB:=hB.len
 have hlC:=hC.len
 obtain⟨MM,hMM⟩:∃ z,z=MA++(MB++MC):=⟨_,rfl⟩
 have HRW:Hid (∀ w' A' c',Mk w1 w' 24 A' (3*n) c' [ra,rb,rc].flatten→RdII w' A' (3*n) MM):=Lib.hid fun w' A' c' hM=>by
  refine⟨[ra,rb,rc].flatten,hM.rd,by rw[hMM];simp[a2,b2,c2,hlA,hlB,hlC],?_⟩
  have hb:Below w.heap.size w w':=hB1.trans (hM.1.mono hB1.size)
  have up:∀ {r:List Value} {M:List (List Int)},(∀ (k:Nat) (hk:k<M.length),∃ A' c',r[k]? = some (.slice A' M[k].length c')∧Rd w A' M[k].length (ints M[k])∧M[k].length≤c') → ∀ (k:Nat) (hk:k<M.length),∃ A' c',r[k]? = some (.slice A' M[k].length c')∧Rd w' A' M[k].length (ints M[k])∧M[k].length≤c':=fun h k hk=>by
   obtain⟨A',c',e,h1,h2⟩:=h k hk
   exact⟨A',c',e,h1.below hb,h2⟩
  rw[hMM]
  have:=ycN (by omega) (up a4) (ycN (by omega) (up b4) (up c4))
  simpa using this
 have hTM:Tab p n MM:=by rw[hMM];exact tA.append (tB.append tC)
 have HTM:Hid (∀ r∈MM,0<r.length∧r.length≤1000):=Lib.hid fun r hr=>by rw[(hTM r hr).1];omega
 have HTL:Hid (yB MA MB MC=MM.flatten):=Lib.hid (by rw[hMM];rfl)
 rw[HTL.out]
 obtain⟨T,hT⟩:∃ T,T=MM.flatten.length:=⟨_,rfl⟩
 rw[← hT]
 have HT:=Lib.hid hT
 have HB1:=Lib.hid hB1
 have HCON:=Lib.hid hcon
 have HW1:=Lib.hid hw1
 clear hT hcon hMM hTM hA hB hC hVV hfl a1 a2 a3 a4 b1 b2 b3 b4 c1 c2 c3 c4 hw1 hB1 hB0 k0 tA tB tC hlA hlB hlC
 go_enter Tryz.func64,Tryz.ntmps64
 go_wp2_with fail
 rw[← HW1.out]
 refine HCON.out.mono ?_
 rintro e w2 ⟨A2,c2,rfl,hM2⟩
 have hcc:=ya5 A2 (3*n) c2 MM w2 (by omega) (by omega) (HRW.out _ _ _ hM2) HTM.out
 rw[← HT.out]at hcc
 have HM2:=Lib.hid hM2.1
 clear hM2
 go_wp2_with fail
 refine hcc.mono ?_
 rintro e w3 ⟨A3,c3,rfl,hM3⟩
 go_wp2
 go_ret
 exact⟨_,_,rfl,(hM3.after HM2.out).after HB1.out⟩
set_option maxHeartbeats 1600000 in
set_option maxRecDepth 8000 in
theorem ygi (p:Int) (hp:2≤p) (hp2:p≤13) (A:Option Addr) (k c g1 g2:Nat) (B:Option Addr) (m cb:Nat) (v:List Int) (R:Option Addr) (cr:Nat) (row:List Int) (w:World) (hm:m≤65536) (k1:Blk w g1 26 #[.int .i64 p,.slice A k c]) (k2:Blk w g2 24 #[.slice B m cb]) (hv:Rd w B m (ints v)) (hvn:NumsL p v) (hr:Rd w R m (ints row)) (hrn:NumsL p row) :
 Calls Tryz.prog 67 #[.slice R m cr,.pointer (some ⟨g1,0,none⟩),.pointer (some ⟨g2,0,none⟩)] w fun e w'=>e=.returned (.bool (dotL p row v != 0))∧Below w.heap.size w w':=by
 go_enter Tryz.func67,Tryz.ntmps67
 go_wp2
 refine yh 7 [[],[0],[],[],[0,1,2,3],[0,1,2,3,4],[0,1,2,3,4,5]] [VIs (.agg #[.int .i64 p,.slice A k c]),VIs (.int .i64 (p)),VIs (.slice R m cr),VIs (.slice B m cb),VIs (.int .i64 (dotL p row v)),VIs (.bool (dotL p row v != 0)),VIs (.bool (dotL p row v != 0))] (fun w'=>Blk w' g1 26 #[.int .i64 p,.slice A k c]∧Blk w' g2 24 #[.slice B m cb]∧Below w.heap.size w w') (by kernel_rfl) (by kernel_rfl) (fun _ _ h hb=>⟨h.1.below hb h.1.lt,h.2.1.below hb h.2.1.lt,h.2.2.trans (hb.mono h.2.2.size)⟩) (⟨k1.drew,k2.drew,zG.drew⟩) (fun x=>?_)
 refine zS (fun w' hS hV K hK=>?_) ?_
 ·obtain⟨q0,q1⟩:=hS.1.two;have q2:=hS.2.1.cell 0;go_simp;exact zO hK
 refine zS (fun w' hS hV K hK=>?_) ?_
 ·have e0:=zQ hV 0;obtain⟨q0,q1⟩:=hS.1.two;have q2:=hS.2.1.cell 0;go_simp;refine (zb p A k c w').mono ?_;rintro e v1 ⟨rfl,hb⟩;exact hK.out _ _ _ rfl rfl rfl hb
 refine zS (fun w' hS hV K hK=>?_) ?_
 ·obtain⟨q0,q1⟩:=hS.1.two;have q2:=hS.2.1.cell 0;go_simp;exact zO hK
 refine zS (fun w' hS hV K hK=>?_) ?_
 ·obtain⟨q0,q1⟩:=hS.1.two;have q2:=hS.2.1.cell 0;go_simp;exact zO hK
 refine zS (fun w' hS hV K hK=>?_) ?_
 ·have e1:=zQ hV 1;have e2:=zQ hV 2;have e3:=zQ hV 3;obtain⟨q0,q1⟩:=hS.1.two;have q2:=hS.2.1.cell 0;go_simp;refine (ybb p R m cr B m cb row v w' hp hp2 hm (Nat.le_refl _) (hr.below hS.2.2) hrn (hv.below hS.2.2) hvn).mono ?_;rintro e w1 ⟨rfl,rfl⟩;exact zO hK
 refine zS (fun w' hS hV K hK=>?_) ?_
 ·have e4:=zQ hV 4;obtain⟨q0,q1⟩:=hS.1.two;have q2:=hS.2.1.cell 0;go_simp;exact hK.out _ _ _ rfl rfl (by first | rfl | exact congrArg Value.bool (by first | rfl | (cases h:(dotL p row v == 0)<;>simp_all [bne]))) zG
 refine zS (fun w' hS hV K hK=>?_) ?_
 ·have e5:=zQ hV 5;obtain⟨q0,q1⟩:=hS.1.two;have q2:=hS.2.1.cell 0;go_simp;exact zO hK
 refine fun w' hS hV=>?_
 have e0:=zT hV 0
 have e1:=zT hV 1
 have e2:=zT hV 2
 have e3:=zT hV 3
 have e4:=zT hV 4
 have e5:=zT hV 5
 have e6:=zT hV 6
 simp only[e0,e1,e2,e3,e4,e5,e6]
 clear e0 e1 e2 e3 e4 e5 e6
 refine wpAny_done (by kernel_rfl) ?_ _
 go_wp2
 go_ret
 exact⟨rfl,hS.2.2⟩
end Go.Proofs.YtaiegpggccdgoaaGreat
namespace Go.Proofs.YtaiegpggccdgoaaGreat
def TF (st:List Int) (k:Nat) (x y z:Nat→Int):Int:=2*yb st k (yb st k x y) z 0
def SkM (p:Int) (st:List Int) (k:Nat) (m:Nat→Nat→Int):Prop:=∀ i q,i<pw k→q<pw k→p∣m i q*dgZ st k i+m q i*dgZ st k q
def LoM (p:Int) (st:List Int) (k:Nat) (a b c:Nat→Nat→Int):Prop:=∀ i j q,i<pw k→j<pw k→q<pw k→p∣a (j ^^^ q) i*fmZ st k (j ^^^ q) j+b (i ^^^ q) j*fmZ st k i (i ^^^ q)+c (i ^^^ j) q*fmZ st k i j
theorem xx {a b:Nat}:a ^^^ (a ^^^ b)=b:=by rw[← Nat.xor_assoc,Nat.xor_self,Nat.zero_xor]
theorem xx' {a b:Nat}:(a ^^^ b) ^^^ a=b:=by rw[Nat.xor_comm a b,Nat.xor_assoc,Nat.xor_self,Nat.xor_zero]
theorem jc (st:List Int) (k:Nat) (x y z:Nat→Int):TF st k x y z=ya (pw k) fun i=>ya (pw k) fun j=>x i*y j*z (i ^^^ j)*fmZ st k i j:=by
 unfold TF
 have e1:yb st k (yb st k x y) z 0=ya (pw k) fun s=>ya (pw k) fun i=>x i*y (i ^^^ s)*cD st k i (i ^^^ s)*(z s*cD st k s s):=by
  show (ya (pw k) fun s=>yb st k x y s*z (s ^^^ 0)*cD st k s (s ^^^ 0))=_
  refine yw fun s _=>?_
  rw[Nat.xor_zero,Int.mul_assoc,yhJ];rfl
 rw[e1,vt,← y7]
 refine yw fun i hi=>?_
 rw[qS (fun s=>x i*y (i ^^^ s)*cD st k i (i ^^^ s)*(z s*cD st k s s)) hi,← y7]
 refine yw fun j _=>?_
 rw[Nat.xor_comm j i,xx]
 unfold fmZ
 ac_rfl
theorem TF_1 {st:List Int} {k j q:Nat} (hj:j<pw k) (hq:q<pw k) (x:Nat→Int):TF st k x (uZ j) (uZ q)=x (j ^^^ q)*fmZ st k (j ^^^ q) j:=by
 have u1:∀ a,uZ a a=1:=fun a=>if_pos rfl
 rw[jc,vt,yF j hj (fun b _ hb=>zl fun i _=>by unfold uZ;rw[if_neg hb,Int.mul_zero,Int.zero_mul,Int.zero_mul]),yF (j ^^^ q) (yA hj hq) (fun i _ hi=>by
  rw[show uZ q (i ^^^ j)=0 from if_neg fun e=>hi (by rw[← e,Nat.xor_comm i j,xx]),Int.mul_zero,Int.zero_mul])]
 rw[xx',u1,u1,Int.mul_one,Int.mul_one]
theorem TF_2 {st:List Int} {k i q:Nat} (hi:i<pw k) (hq:q<pw k) (y:Nat→Int):TF st k (uZ i) y (uZ q)=y (i ^^^ q)*fmZ st k i (i ^^^ q):=by
 have u1:∀ a,uZ a a=1:=fun a=>if_pos rfl
 rw[jc,yF i hi (fun b _ hb=>zl fun j _=>by unfold uZ;rw[if_neg hb,Int.zero_mul,Int.zero_mul,Int.zero_mul]),yF (i ^^^ q) (yA hi hq) (fun j _ hj=>by
  rw[show uZ q (i ^^^ j)=0 from if_neg fun e=>hj (by rw[← e,xx]),Int.mul_zero,Int.zero_mul])]
 rw[xx,u1,u1,Int.mul_one,Int.one_mul]
theorem TF_3 {st:List Int} {k i j:Nat} (hi:i<pw k) (hj:j<pw k) (z:Nat→Int):TF st k (uZ i) (uZ j) z=z (i ^^^ j)*fmZ st k i j:=by
 have u1:∀ a,uZ a a=1:=fun a=>if_pos rfl
 rw[jc,yF i hi (fun b _ hb=>zl fun j _=>by unfold uZ;rw[if_neg hb,Int.zero_mul,Int.zero_mul,Int.zero_mul]),yF j hj (fun b _ hb=>by unfold uZ;rw[if_neg hb,Int.mul_zero,Int.zero_mul,Int.zero_mul])]
 rw[u1,u1,Int.one_mul,Int.one_mul]
structure Loc (p:Int) (st:List Int) (k:Nat) (a b c:Nat→Nat→Int):Prop where
 sa:SkM p st k a
 sb:SkM p st k b
 sc:SkM p st k c
 lo:LoM p st k a b c
theorem SkM.congr {p:Int} {st:List Int} {k:Nat} {m m':Nat→Nat→Int} (h:SkM p st k m) (e:∀ i j,i<pw k→j<pw k→m' i j%p=m i j%p):SkM p st k m':=fun i q hi hq=>
 Int.dvd_of_emod_eq_zero ((zo (z3 _ (e i q hi hq)) (z3 _ (e q i hq hi))).trans (Int.emod_eq_zero_of_dvd (h i q hi hq)))
theorem LoM.congr {p:Int} {st:List Int} {k:Nat} {a b c a' b' c':Nat→Nat→Int} (h:LoM p st k a b c) (e1:∀ i j,i<pw k→j<pw k→a' i j%p=a i j%p) (e2:∀ i j,i<pw k→j<pw k→b' i j%p=b i j%p) (e3:∀ i j,i<pw k→j<pw k→c' i j%p=c i j%p):LoM p st k a' b' c':=fun i j q hi hj hq=>
 Int.dvd_of_emod_eq_zero ((zo (zo (z3 _ (e1 _ _ (yA hj hq) hi)) (z3 _ (e2 _ _ (yA hi hq) hj))) (z3 _ (e3 _ _ (yA hi hj) hq))).trans (Int.emod_eq_zero_of_dvd (h i j q hi hj hq)))
theorem nf_1 {st:List Int} {k i:Nat} (hi:i<pw k) (w:Nat→Int):nfZ st k w (uZ i)=w i*dgZ st k i:=by
 rw[yck,yF i hi (fun j _ hj=>by unfold uZ;rw[if_neg hj,Int.mul_zero]),show uZ i i=1 from if_pos rfl,Int.mul_one,Int.mul_comm];rfl
theorem nf_2 {st:List Int} {k q:Nat} (hq:q<pw k) (w:Nat→Int):nfZ st k (uZ q) w=w q*dgZ st k q:=by
 rw[yck,yF q hq (fun j _ hj=>by unfold uZ;rw[if_neg hj,Int.mul_zero,Int.zero_mul]),show uZ q q=1 from if_pos rfl,Int.mul_one,Int.mul_comm];rfl
theorem Loc.pure {p:Int} {k:Nat} (hk:k≤3) (st:List Int) (x:Nat→Int) (h0:x 0=0) {a b c:Nat→Nat→Int} (ha:∀ r i,r<pw k→i<pw k→a r i%p=yb st k x (uZ i) r%p) (hb:∀ r i,r<pw k→i<pw k→b r i%p=yb st k (uZ i) x r%p) (hc:∀ r i,r<pw k→i<pw k→c r i%p=(-1*(yb st k x (uZ i) r+yb st k (uZ i) x r))%p):Loc p st k a b c:=by
 have sl:∀ i q,i<pw k→q<pw k→yb st k x (uZ q) i*dgZ st k i+yb st k x (uZ i) q*dgZ st k q=0:=fun i q hi hq=>by
  have h:=yf3 hk st x (uZ q) (uZ i) h0
  rwa [nf_1 hi,nf_2 hq]at h
 have sr:∀ i q,i<pw k→q<pw k→yb st k (uZ q) x i*dgZ st k i+yb st k (uZ i) x q*dgZ st k q=0:=fun i q hi hq=>by
  have h:=yg8 hk st x (uZ q) (uZ i) h0
  rwa [nf_1 hi,nf_2 hq]at h
 refine⟨SkM.congr (m:=fun r i=>yb st k x (uZ i) r) (fun i q hi hq=>⟨0,by rw[Int.mul_zero];exact sl i q hi hq⟩) ha,SkM.congr (m:=fun r i=>yb st k (uZ i) x r) (fun i q hi hq=>⟨0,by rw[Int.mul_zero];exact sr i q hi hq⟩) hb,SkM.congr (m:=fun r i=>-1*(yb st k x (uZ i) r+yb st k (uZ i) x r)) (fun i q hi hq=>⟨0,?_⟩) hc,LoM.congr (a:=fun r i=>yb st k x (uZ i) r) (b:=fun r i=>yb st k (uZ i) x r) (c:=fun r i=>-1*(yb st k x (uZ i) r+yb st k (uZ i) x r)) (fun i j q hi hj hq=>?_) ha hb hc⟩
 ·have h1:=sl i q hi hq
  have h2:=sr i q hi hq
  show -1*(yb st k x (uZ q) i+yb st k (uZ q) x i)*dgZ st k i + -1*(yb st k x (uZ i) q+yb st k (uZ i) x q)*dgZ st k q=_
  rw[Int.mul_assoc,Int.mul_assoc,Int.add_mul,Int.add_mul,Int.mul_zero];omega
 ·have h:=ygN hk st x (uZ i) (uZ j) (uZ q) h0
  have t1:=TF_1 (st:=st) hj hq (yb st k x (uZ i))
  have t2:=TF_2 (st:=st) hi hq (yb st k (uZ j) x)
  have t3:=TF_3 (st:=st) hi hj (fun r=>yb st k x (uZ q) r+yb st k (uZ q) x r)
  unfold TF at t1 t2 t3
  refine⟨0,?_⟩
  show yb st k x (uZ i) (j ^^^ q)*_+yb st k (uZ j) x (i ^^^ q)*_ + -1*(yb st k x (uZ q) (i ^^^ j)+yb st k (uZ q) x (i ^^^ j))*_=_
  rw[Int.mul_assoc (-1),← t1,← t2,← t3];omega
theorem ycb {p:Int} (hp:0<p) {k:Nat} (st:List Int) {x:List Int} (hx:x.length=pw k) {r i:Nat} (hr:r<pw k) (hi:i<pw k):ent (yO p k st x) r i%p=yb st k (gV x) (uZ i) r%p:=by
 have hT:Tab p (pw k) (tab (pw k) fun i=>dblL p k st x (ye (pw k) i)):=Tab.tab fun i _=>⟨zu _ _ _ _ _,yT hp _ _ _ _⟩
 have e:ent (yO p k st x) r i=gV (dblL p k st x (ye (pw k) i)) r:=by
  unfold yO
  have:=yc9 hT (by rw[yG];exact yq k) hr
  unfold ent at this ⊢
  rw[this,yG,yC hi,yC hi];rfl
 rw[e,ux k st hx (zm _ _) hr]
 exact uz (fun _ _=>rfl) (fun b _=>by rw[vD hi]) hr
theorem ycM {p:Int} (hp:0<p) {k:Nat} (st:List Int) {x:List Int} (hx:x.length=pw k) {r i:Nat} (hr:r<pw k) (hi:i<pw k):ent (yY p k st x) r i%p=yb st k (uZ i) (gV x) r%p:=by
 have hT:Tab p (pw k) (tab (pw k) fun i=>dblL p k st (ye (pw k) i) x):=Tab.tab fun i _=>⟨zu _ _ _ _ _,yT hp _ _ _ _⟩
 have e:ent (yY p k st x) r i=gV (dblL p k st (ye (pw k) i) x) r:=by
  unfold yY
  have:=yc9 hT (by rw[yG];exact yq k) hr
  unfold ent at this ⊢
  rw[this,yG,yC hi,yC hi];rfl
 rw[e,ux k st (zm _ _) hx hr]
 exact uz (fun b _=>by rw[vD hi]) (fun _ _=>rfl) hr
theorem vZ {p:Int} (hp:0<p) (k:Nat) (st x:List Int):Tab p (pw k) (yO p k st x)∧(yO p k st x).length=pw k:=by
 have hT:Tab p (pw k) (tab (pw k) fun i=>dblL p k st x (ye (pw k) i)):=Tab.tab fun i _=>⟨zu _ _ _ _ _,yT hp _ _ _ _⟩
 have:=yau hp hT
 rw[yG]at this
 exact⟨this,yc8 hT (by rw[yG];exact yq k)⟩
theorem yam {p:Int} (hp:0<p) (k:Nat) (st x:List Int):Tab p (pw k) (yY p k st x)∧(yY p k st x).length=pw k:=by
 have hT:Tab p (pw k) (tab (pw k) fun i=>dblL p k st (ye (pw k) i) x):=Tab.tab fun i _=>⟨zu _ _ _ _ _,yT hp _ _ _ _⟩
 have:=yau hp hT
 rw[yG]at this
 exact⟨this,yc8 hT (by rw[yG];exact yq k)⟩
def xc (p:Int) (k:Nat) (st x:List Int):List (List Int):=tab (pw k) fun i=>yl p ((sumL p (yO p k st x) (yY p k st x) 1).getD i []) (-1)
theorem ycE {p:Int} (hp:0<p) (k:Nat) (st x:List Int):Tab p (pw k) (xc p k st x)∧(xc p k st x).length=pw k:=by
 refine⟨Tab.tab fun i hi=>⟨?_,zU hp _ _⟩,yG _ _⟩
 have hl:=vZ hp k st x
 rw[zR]
 unfold sumL
 rw[hl.2,yC hi,yP]
 exact (hl.1.row (by rw[hl.2];exact hi)).1
theorem ygL {p:Int} (hp:0<p) {k:Nat} (st:List Int) {x:List Int} (hx:x.length=pw k) {r i:Nat} (hr:r<pw k) (hi:i<pw k):ent (xc p k st x) r i%p=(-1*(yb st k (gV x) (uZ i) r+yb st k (uZ i) (gV x) r))%p:=by
 have hl:=vZ hp k st x
 have hlr:((yO p k st x).getD r []).length=pw k:=(hl.1.row (by rw[hl.2];exact hr)).1
 have e:ent (xc p k st x) r i=((ent (yO p k st x) r i+1*ent (yY p k st x) r i)%p * -1)%p:=by
  unfold xc ent
  rw[yC hr,z4 _ (by unfold sumL;rw[hl.2,yC hr,yP,hlr];exact hi)]
  unfold sumL
  rw[hl.2,yC hr,zw _ _ (by rw[hlr];exact hi)]
 rw[e,yM,Int.mul_comm]
 refine xF (-1) ?_
 rw[yM,Int.one_mul]
 exact zo (ycb hp st hx hr hi) (ycM hp st hx hr hi)
theorem uF {α:Type} {a b:List α} {d:α} {i:Nat} (h:i<a.length):(a++b).getD i d=a.getD i d:=by
 rw[List.getD_eq_getElem?_getD,List.getD_eq_getElem?_getD,List.getElem?_append_left h]
theorem vS {α:Type} {a b:List α} {d:α} {i:Nat} (h:a.length≤i):(a++b).getD i d=b.getD (i-a.length) d:=by
 rw[List.getD_eq_getElem?_getD,List.getD_eq_getElem?_getD,List.getElem?_append_right h]
theorem uC {p:Int} {n:Nat}:∀ {M:List (List Int)} {i q:Nat},Tab p n M→i<M.length→q<n→M.flatten.getD (i*n+q) 0=ent M i q
 | [],_,_,_,h,_=>absurd h (by simp)
 | y::M,0,q,hT,_,hq=>by
  unfold ent
  rw[List.flatten_cons,Nat.zero_mul,Nat.zero_add,uF (by rw[(hT y (by simp)).1];exact hq)];rfl
 | y::M,i+1,q,hT,hi,hq=>by
  have hy:=(hT y (by simp)).1
  rw[List.flatten_cons,vS (by rw[hy,Nat.succ_mul];omega),hy,show (i+1)*n+q-n=i*n+q by rw[Nat.succ_mul];omega,uC (fun z hz=>hT z (by simp[hz])) (by simpa using hi) hq]
  unfold ent;rfl
def yah (MX MY MZ:List (List Int)):Nat→List (List Int)
 | 0=>MX
 | 1=>MY
 | _=>MZ
theorem ydb {p:Int} {n:Nat} {MX MY MZ:List (List Int)} (tX:Tab p n MX) (tY:Tab p n MY) (tZ:Tab p n MZ) (lX:MX.length=n) (lY:MY.length=n) (lZ:MZ.length=n) {part i q:Nat} (hp:part<3) (hi:i<n) (hq:q<n):(yB MX MY MZ).getD (part*(n*n)+(i*n+q)) 0=ent (yah MX MY MZ part) i q:=by
 unfold yB
 have e:part*(n*n)+(i*n+q)=(part*n+i)*n+q:=by rw[Nat.add_mul,Nat.mul_assoc];omega
 have hb:part*n≤2*n:=Nat.mul_le_mul_right n (by omega)
 rw[e,uC (tX.append (tY.append tZ)) (by rw[List.length_append,List.length_append,lX,lY,lZ];omega) hq]
 unfold ent
 congr 1
 match part,hp with
 | 0,_=>rw[Nat.zero_mul,Nat.zero_add,uF (by rw[lX];exact hi)];rfl
 | 1,_=>rw[Nat.one_mul,vS (by rw[lX];omega),lX,show n+i-n=i by omega,uF (by rw[lY];exact hi)];rfl
 | 2,_=>rw[vS (by rw[lX];omega),lX,vS (by rw[lY];omega),lY,show 2*n+i-n-n=i by omega];rfl
theorem yge {p:Int} {k:Nat} {st:List Int} {MX MY MZ:List (List Int)} (tX:Tab p (pw k) MX) (tY:Tab p (pw k) MY) (tZ:Tab p (pw k) MZ) (lX:MX.length=pw k) (lY:MY.length=pw k) (lZ:MZ.length=pw k):LocEq p st k (fun q=>(yB MX MY MZ).getD q 0)↔Loc p st k (ent MX) (ent MY) (ent MZ):=by
 have H:∀ {part i q:Nat},part<3→i<pw k→q<pw k→(yB MX MY MZ).getD (part*(pw k*pw k)+(i*pw k+q)) 0=ent (yah MX MY MZ part) i q:=fun h1 h2 h3=>ydb tX tY tZ lX lY lZ h1 h2 h3
 have H0:∀ {i q:Nat},i<pw k→q<pw k→(yB MX MY MZ).getD (i*pw k+q) 0=ent MX i q:=fun h2 h3=>by have:=H (part:=0) (by omega) h2 h3;rwa [Nat.zero_mul,Nat.zero_add]at this
 have H1:∀ {i q:Nat},i<pw k→q<pw k→(yB MX MY MZ).getD (pw k*pw k+(i*pw k+q)) 0=ent MY i q:=fun h2 h3=>by have:=H (part:=1) (by omega) h2 h3;rwa [Nat.one_mul]at this
 have H2:∀ {i q:Nat},i<pw k→q<pw k→(yB MX MY MZ).getD (2*(pw k*pw k)+(i*pw k+q)) 0=ent MZ i q:=fun h2 h3=>H (part:=2) (by omega) h2 h3
 have S:∀ part,part<3→((∀ i q,i<pw k→q<pw k→p∣(yB MX MY MZ).getD (part*(pw k*pw k)+(i*pw k+q)) 0*dgZ st k i+(yB MX MY MZ).getD (part*(pw k*pw k)+(q*pw k+i)) 0*dgZ st k q)↔SkM p st k (ent (yah MX MY MZ part))):=fun part h=>by
  unfold SkM
  constructor
  ·intro h1 i q hi hq
   have:=h1 i q hi hq
   rwa [H h hi hq,H h hq hi]at this
  ·intro h1 i q hi hq
   rw[H h hi hq,H h hq hi]
   exact h1 i q hi hq
 constructor
 ·rintro ⟨h1,h2⟩
  refine⟨(S 0 (by omega)).1 fun i q hi hq=>h1 0 i q (by omega) hi hq,(S 1 (by omega)).1 fun i q hi hq=>h1 1 i q (by omega) hi hq,(S 2 (by omega)).1 fun i q hi hq=>h1 2 i q (by omega) hi hq,fun i j q hi hj hq=>?_⟩
  have:p∣(yB MX MY MZ).getD ((j ^^^ q)*pw k+i) 0*fmZ st k (j ^^^ q) j+(yB MX MY MZ).getD (pw k*pw k+((i ^^^ q)*pw k+j)) 0*fmZ st k i (i ^^^ q)+(yB MX MY MZ).getD (2*(pw k*pw k)+((i ^^^ j)*pw k+q)) 0*fmZ st k i j:=h2 i j q hi hj hq
  rwa [H0 (yA hj hq) hi,H1 (yA hi hq) hj,H2 (yA hi hj) hq]at this
 ·intro h
  refine⟨fun part i q h1 hi hq=>?_,fun i j q hi hj hq=>?_⟩
  ·match part,h1 with
   | 0,h1=>exact (S 0 h1).2 h.sa i q hi hq
   | 1,h1=>exact (S 1 h1).2 h.sb i q hi hq
   | 2,h1=>exact (S 2 h1).2 h.sc i q hi hq
  ·show p∣(yB MX MY MZ).getD ((j ^^^ q)*pw k+i) 0*fmZ st k (j ^^^ q) j+(yB MX MY MZ).getD (pw k*pw k+((i ^^^ q)*pw k+j)) 0*fmZ st k i (i ^^^ q)+(yB MX MY MZ).getD (2*(pw k*pw k)+((i ^^^ j)*pw k+q)) 0*fmZ st k i j
   rw[H0 (yA hj hq) hi,H1 (yA hi hq) hj,H2 (yA hi hj) hq]
   exact h.lo i j q hi hj hq
def augL (M:List (List Int)) (v:List Int):List (List Int):=tab M.length fun i=>M.getD i []++[v.getD i 0]
def zg (B:List (List Int)) (n:Nat):Nat→List Int
 | 0=>List.replicate n 0
 | k+1=>(zg B n k).set (ld B k) (ent B k n)
def endB (B:List (List Int)) (n k:Nat):Bool:=(List.range k).any fun i=>ld B i == n
def solR (p:Int) (M:List (List Int)) (v:List Int) (n:Nat):List Int × Bool:=
 if endB (yf p (augL M v)) n (yf p (augL M v)).length then ([],false) else (zg (yf p (augL M v)) n (yf p (augL M v)).length,true)
section
variable {p:Int} {n:Nat}
theorem ydD (M:List (List Int)) (v:List Int):(augL M v).length=M.length:=yG _ _
theorem u9 (hp:0<p) {M:List (List Int)} (hT:Tab p n M) {v:List Int} (hv:NumsL p v):Tab p (n+1) (augL M v):=Tab.tab fun i hi=>by
 obtain⟨h1,h2⟩:=hT.row hi
 refine⟨by rw[List.length_append,h1];rfl,?_⟩
 intro x hx
 rcases List.mem_append.1 hx with h | h
 ·exact h2 x h
 ·rw[List.mem_singleton.1 h];exact hv.getD hp i
theorem yaN {M:List (List Int)} (hT:Tab p n M) (v:List Int) {i:Nat} (hi:i<M.length) (q:Nat):ent (augL M v) i q=if q<n then ent M i q else if q=n then v.getD i 0 else 0:=by
 have h1:=(hT.row hi).1
 unfold ent augL
 rw[yC hi]
 by_cases hq:q<n
 ·rw[if_pos hq,jS 0 _ (by rw[h1];exact hq)]
 ·rw[if_neg hq]
  by_cases hqn:q=n
  ·rw[if_pos hqn,hqn]
   have:=qr (0:Int) (M.getD i []) [v.getD i 0] 0
   rw[h1,Nat.add_zero]at this
   rw[this];rfl
  ·rw[if_neg hqn]
   exact vR 0 (by rw[List.length_append,h1];simp;omega)
theorem yas (B:List (List Int)) (n:Nat):∀ k,(zg B n k).length=n
 | 0=>by simp[zg]
 | k+1=>by simp[zg,yas B n k]
theorem ycV (hp:0<p) {B:List (List Int)} {m:Nat} (hB:Tab p m B) (n:Nat):∀ k,NumsL p (zg B n k)
 | 0=>NumsL.replicate hp _
 | k+1=>(ycV hp hB n k).set _ (hB.ent hp k n)
theorem yhr {B:List (List Int)} {m:Nat} (hR:Red m B) {k:Nat} (hk:k≤B.length) (hn:∀ i,i<k→ld B i<n) {i:Nat} (hi:i<k):(zg B n k).getD (ld B i) 0=ent B i n:=by
 induction k with
 | zero=>omega
 | succ k ih=>
  show ((zg B n k).set (ld B k) (ent B k n)).getD (ld B i) 0=_
  rw[zv,yas]
  by_cases e:i=k
  ·subst e;rw[if_pos ⟨rfl,hn i (by omega)⟩]
  ·rw[if_neg fun h=>e (hR.inj (by omega) (by omega) h.1.symm)]
   exact ih (by omega) (fun j hj=>hn j (by omega)) (by omega)
theorem ycW {B:List (List Int)} {q:Nat}:∀ k,(∀ i,i<k→ld B i≠q)→(zg B n k).getD q 0=0
 | 0,_=>by
  show (List.replicate n (0:Int)).getD q 0=0
  rw[List.getD_eq_getElem?_getD,List.getElem?_replicate]
  split<;>rfl
 | k+1,h=>by
  show ((zg B n k).set (ld B k) (ent B k n)).getD q 0=0
  rw[zv,if_neg fun e=>h k (by omega) e.1]
  exact ycW k fun i hi=>h i (by omega)
theorem qk {B:List (List Int)} {n k:Nat}:endB B n k=true ↔ ∃ i,i<k∧ld B i=n:=by
 unfold endB
 rw[List.any_eq_true]
 constructor
 ·rintro ⟨i,hi,h⟩
  exact⟨i,List.mem_range.1 hi,beq_iff_eq.1 h⟩
 ·rintro ⟨i,hi,h⟩
  exact⟨i,List.mem_range.2 hi,beq_iff_eq.2 h⟩
theorem ycw {M:List (List Int)} (hT:Tab p n M) (v:List Int) (y:Nat→Int):Orth p (n+1) (augL M v) (fun q=>if q<n then y q else -1) ↔ ∀ i,i<M.length→(ya n fun q=>ent M i q*y q)%p=v.getD i 0%p:=by
 unfold Orth
 rw[ydD]
 have e:∀ i,i<M.length→(ya (n+1) fun q=>ent (augL M v) i q*if q<n then y q else -1)=(ya n fun q=>ent M i q*y q)-v.getD i 0:=fun i hi=>by
  rw[y8,yaN hT v hi,if_neg (by omega),if_pos rfl,if_neg (by omega),Int.mul_neg,Int.mul_one]
  rw[yw (g:=fun q=>ent M i q*y q) fun q hq=>by rw[yaN hT v hi,if_pos hq,if_pos hq]]
  rfl
 constructor
 ·intro h i hi
  have:=h i hi
  rw[e i hi]at this
  exact Int.emod_eq_emod_iff_emod_sub_eq_zero.2 this
 ·intro h i hi
  rw[e i hi]
  exact Int.emod_eq_emod_iff_emod_sub_eq_zero.1 (h i hi)
theorem yht (hP:isP p=true) {M:List (List Int)} (hT:Tab p n M) {v:List Int} (hv:NumsL p v) (h:endB (yf p (augL M v)) n (yf p (augL M v)).length=false) :
 ∀ i,i<M.length→(ya n fun q=>ent M i q*(zg (yf p (augL M v)) n (yf p (augL M v)).length).getD q 0)%p=v.getD i 0%p:=by
 have h3:=yk hP
 have hA:=u9 (show 0<p by omega) hT hv
 obtain⟨B,hB⟩:∃ B,B=yf p (augL M v):=⟨_,rfl⟩
 have hR:=xz hP _ hA
 obtain⟨_,hin⟩:=vN hP _ hA
 rw[← hB]at h hR hin ⊢
 have hlt:∀ i,i<B.length→ld B i<n:=fun i hi=>by
  have h1:=hR.lt i hi
  have h2:ld B i≠n:=fun e=>by
   have:=qk.2 ⟨i,hi,e⟩
   rw[h]at this;cases this
  omega
 refine (ycw hT v _).1 (Orth.of_in (m:=B) ?_ hin)
 intro i hi
 rw[y8]
 dsimp only
 rw[if_neg (by omega),Int.mul_neg,Int.mul_one]
 have e:(ya n fun q=>ent B i q*if q<n then (zg B n B.length).getD q 0 else -1)=ent B i n:=by
  rw[yF (ld B i) (hlt i hi) fun q hq hne=>?_]
  ·rw[if_pos (hlt i hi),hR.one i hi,Int.one_mul,yhr hR (Nat.le_refl _) hlt hi]
  ·rw[if_pos hq]
   by_cases hl:∃ j,j<B.length∧ld B j=q
   ·obtain⟨j,hj,rfl⟩:=hl
    rw[hR.zero j i hj hi fun e=>hne (by rw[e]),Int.zero_mul]
   ·rw[ycW B.length fun j hj e=>hl ⟨j,hj,e⟩,Int.mul_zero]
 rw[e]
 have:ent B i n + -ent B i n=0:=by omega
 rw[this,Int.zero_emod]
theorem yhs (hP:isP p=true) {M:List (List Int)} (hT:Tab p n M) {v:List Int} (hv:NumsL p v) (h:endB (yf p (augL M v)) n (yf p (augL M v)).length=true) (y:Nat→Int) :
 ¬ ∀ i,i<M.length→(ya n fun q=>ent M i q*y q)%p=v.getD i 0%p:=fun hy=>by
 have h3:=yk hP
 have hA:=u9 (show 0<p by omega) hT hv
 obtain⟨B,hB⟩:∃ B,B=yf p (augL M v):=⟨_,rfl⟩
 have hR:=xz hP _ hA
 obtain⟨hin,_⟩:=vN hP _ hA
 rw[← hB]at h hR hin
 obtain⟨i,hi,hl⟩:=qk.1 h
 have ho:=Orth.of_in ((ycw hT v y).2 hy) hin
 have h2:=ho i hi
 rw[y8]at h2
 dsimp only at h2
 rw[if_neg (by omega),Int.mul_neg,Int.mul_one,zl fun q hq=>by rw[hR.before i q (by omega),Int.zero_mul]]at h2
 have h1:=hR.one i hi
 rw[hl]at h1
 rw[h1]at h2
 have:(0 + -1:Int)%p=p-1:=by
  rw[show (0 + -1:Int)=(p-1)+p*(-1) by rw[Int.mul_neg,Int.mul_one];omega,Int.add_mul_emod_self_left,Int.emod_eq_of_lt (by omega) (by omega)]
 omega
end
end Go.Proofs.YtaiegpggccdgoaaGreat
namespace Go.Proofs.YtaiegpggccdgoaaGreat
open Go Go.RowKit
theorem jh {w:World} {g:Nat} {t:TypeId} {a b c:Value} (h:Blk w g t #[a,b,c]):∀ (j:Nat) (u:Value),([a,b,c]:List Value)[j]? = some u→w.cell? ⟨g,0+j,none⟩=some u:=fun j u hu=>by
 match j,hu with
 | 0,hu=>simp at hu;subst hu;exact h.cell 0
 | 1,hu=>simp at hu;subst hu;exact h.cell 1
 | 2,hu=>simp at hu;subst hu;exact h.cell 2
section
variable {P:Program}
theorem ydh {ops:Array Oper} {rest:List Oper} {o:Oper} {a:Act} {Q:Exit→Act→World→Prop} (w0 wr:World) (T E:TypeId) (z:Value) (bytes:Nat)
 (ht:P.underlying T=some (.slice E)) (hinfo:(P.info? E).map (fun i=>(i.zero,i.size,i.bytes))=some (some z,1,bytes)) (hz:z.cells.size=1) (hby:bytes≤24)
 (hgd:o.guard=none) (s x:Operand) (ho:o.op=.call { callee:=.builtin .append,args:=#[s,x],argTypes:=#[T,T] })
 (A:Option Addr) (n c:Nat) (us:List Value) (B:Option Addr) (m d:Nat) (vs:List Value) (hM:Mk w0 wr E A n c us) (hY:Rd wr B m vs) (hv:∀ v∈vs,v.oneCell'=true) (h0:0<m) (hn:n≤65536) (hm:m≤65536)
 (hs:a.eval s=.slice A n c) (hx:a.eval x=.slice B m d)
 (h:∀ A' c' w',Mk w0 w' E A' (n+m) c' (us++vs)→wr.grownBy w' (Value.slice A n c).ownBlock→wpList P ops Q rest (a.put o.dst (.slice A' (n+m) c')) w') :
 wpList P ops Q (o::rest) a wr:=by
 obtain⟨i,hi,h1,h2,h3⟩:=info_parts hinfo
 obtain⟨b1,b2⟩:=xh (show n+m≤1099511627776 by omega)
 have hyl:vs.length=m:=hY.1
 obtain⟨g,o',rfl,hc⟩:=hY.2 h0
 refine wpList_append_own_at wr hgd s x T ho w0.heap.size E i z 1 bytes ht hi h1 h2 h3 hz (by omega) (.slice A n c) n us hs hM.2 ⟨g,o',none⟩ m d vs hx (by rw[hyl,Nat.mul_one]) (fun j u hu=>by rw[Addr.add_lit];exact hc j u hu) hv (by simp only[maxLen];omega) (by have:=b2 bytes hby;have h9:=Nat.mul_le_mul_right bytes (show n+m≤n+m+1 by omega);omega) hM.1.size ?_
 intro v' w' hown hg _ _
 have hb':Below w0.heap.size w0 w':=hM.1.grown hg hM.1.size (fun k hk=>(hM.2.lt k hk).1)
 rcases hown.2 with ⟨_,h0⟩ | ⟨g,cap,cur,rfl,hr⟩
 ·omega
 ·exact h _ _ _ ⟨hb',hown⟩ hg
end
set_option maxHeartbeats 6400000 in
set_option maxRecDepth 8000 in
theorem ydP (p:Int) (A:Option Addr) (k c:Nat) (st:List Int) (n g:Nat) (X:Option Addr) (cX:Nat) (MX:List (List Int)) (Y:Option Addr) (cY:Nat) (MY:List (List Int)) (Z:Option Addr) (cZ:Nat) (MZ:List (List Int)) (w:World) (hdb:isDb p st=true) (hk3:k≤3) (hn:n=pw k) (ha:Rd w A k (ints st)) (hg:Blk w g 34 #[.slice X n cX,.slice Y n cY,.slice Z n cZ]) (hX:RdII w X n MX) (tX:Tab p n MX) (bX:n≤cX) (hY:RdII w Y n MY) (tY:Tab p n MY) (bY:n≤cY) (hZ:RdII w Z n MZ) (tZ:Tab p n MZ) (bZ:n≤cZ) :
 Calls Tryz.prog 61 #[.agg #[.int .i64 p,.slice A k c],.slice (some ⟨g,0,none⟩) 1 1] w fun e w'=>e=.returned (.int .i64 0)∧Below w.heap.size w w':=by
 have hpk:pw k≤8:=yz hk3
 have hpos:=yq k
 have hsl:st.length=k:=ha.lenI
 rw[← hn]at hpk hpos
 have hB0:Below w.heap.size w (w.alloc (.cells #[.int .i64 p,.slice A k c] 26)):=zG.alloc (Nat.le_refl _) _
 have k0:Blk (w.alloc (.cells #[.int .i64 p,.slice A k c] 26)) w.heap.size 26 #[.int .i64 p,.slice A k c]:=Blk.new _ _ _
 have HG1:Hid (Blk ((w.alloc (.cells #[.int .i64 p,.slice A k c] 26)).alloc (.cells #[] 32)) g 34 #[.slice X n cX,.slice Y n cY,.slice Z n cZ]):=Lib.hid ((hg.alloc _).alloc _)
 have hM0:Mk w ((w.alloc (.cells #[.int .i64 p,.slice A k c] 26)).alloc (.cells #[] 32)) 32 (some ⟨w.heap.size+1,0,none⟩) 0 0 []:=by
  have:=Mk.lit (E:=32) hB0 #[] (by simp)
  simpa using this
 have k1:=k0.alloc (.cells #[] 32)
 have HCK:Hid (∀ (w':World) (C:Option Addr) (dl:Nat),Below w.heap.size w w'→Rd w' C 3 [.slice X n cX,.slice Y n cY,.slice Z n cZ]→Calls Tryz.prog 41 #[.agg #[.int .i64 p,.slice A k c],.slice none 0 0,.slice C 3 dl] w' fun e w''=>e=.returned (.int .i64 0)∧Below w'.heap.size w' w''):=Lib.hid fun w' C dl hb hr=>by
  have:=qe p A none C k c 0 0 3 dl st [] [MX,MY,MZ] w' (by omega) (by omega) (by omega) (ha.below hb) ⟨[],Rd.nil _ _,rfl,fun k h=>absurd h (by simp)⟩ (fun ys hy=>absurd hy (by simp)) ⟨[.slice X n cX,.slice Y n cY,.slice Z n cZ],hr,rfl,fun i hi=>by
   rcases i with _ | i
   ·exact⟨X,cX,by simp[hX.len],by simpa [hX.len] using hX.below hb,by simpa [hX.len] using bX⟩
   rcases i with _ | i
   ·exact⟨Y,cY,by simp[hY.len],by simpa [hY.len] using hY.below hb,by simpa [hY.len] using bY⟩
   rcases i with _ | i
   ·exact⟨Z,cZ,by simp[hZ.len],by simpa [hZ.len] using hZ.below hb,by simpa [hZ.len] using bZ⟩
   ·simp at hi;omega⟩ (fun M hM=>by
   simp at hM
   rcases hM with rfl | rfl | rfl
   ·exact yae hk3 (hX.len.trans hn) (hn▸tX)
   ·exact yae hk3 (hY.len.trans hn) (hn▸tY)
   ·exact yae hk3 (hZ.len.trans hn) (hn▸tZ))
  rwa [jr hdb (by omega) (fun ys hy=>absurd hy (by simp)) (fun M hM=>by
   simp at hM
   rw[hsl,← hn]
   rcases hM with rfl | rfl | rfl
   ·exact⟨hX.len,tX⟩
   ·exact⟨hY.len,tY⟩
   ·exact⟨hZ.len,tZ⟩)]at this
 obtain⟨q0,q1⟩:=k1.two
 clear k0 hB0 hdb ha hsl hn hpk hpos hX tX bX hY tY bY hZ tZ bZ
 go_enter Tryz.func61,Tryz.ntmps61
 go_wp2
 go_loopw [5,11] (fun out i wr=>∃ (j:Nat) (A':Option Addr) (c':Nat),j≤1∧i=.int .i64 j∧out=.slice A' (3*j) c'∧Hid (Mk w wr 32 A' (3*j) c' (([.slice X n cX,.slice Y n cY,.slice Z n cZ]:List Value).take (3*j)))∧Blk wr w.heap.size 26 #[.int .i64 p,.slice A k c]∧Hid (Blk wr g 34 #[.slice X n cX,.slice Y n cY,.slice Z n cZ])) (fun _ i _=>1-(intOf i).toNat)
 case atStart=>exact⟨0,_,_,by omega,rfl,rfl,Lib.hid (by simpa using hM0),k1,HG1⟩
 case round=>
  obtain⟨j,A',c',hj,rfl,rfl,HM,kr,HG⟩:=hrel
  clear hM0 k1 q0 q1 HG1
  by_cases hlt:j<1
  ·obtain rfl:j=0:=by omega
   have q3:=HG.out.cell 0
   have q4:=HG.out.cell 1
   have q5:=HG.out.cell 2
   simp at q3 q4 q5
   have HMJ:Hid (Mk w wr 32 A' 0 c' []):=Lib.hid (by simpa using HM.out)
   have kb1:=kr.alloc (.cells #[.slice X n cX,.slice Y n cY,.slice Z n cZ] 34)
   have HMB:Hid (Mk w (wr.alloc (.cells #[.slice X n cX,.slice Y n cY,.slice Z n cZ] 34)) 32 A' 0 c' []):=Lib.hid (HMJ.out.below (zG.alloc (Nat.le_refl _) _))
   have HG2:=HG.out.alloc (.cells #[.slice X n cX,.slice Y n cY,.slice Z n cZ] 34)
   clear HM
   go_wp2_with (at_builtin;go_loud (refine ydh w ((wr.alloc (.cells #[.slice X n cX,.slice Y n cY,.slice Z n cZ] 34)).alloc (.cells #[.slice X n cX,.slice Y n cY,.slice Z n cZ] 32)) _ _ _ _ rfl (ybD) rfl (by omega) rfl _ _ rfl A' 0 c' _ (some ⟨wr.heap.size+1,0,none⟩) 3 3 [.slice X n cX,.slice Y n cY,.slice Z n cZ] (HMB.out.below (zG.alloc (Nat.le_refl _) _)) ⟨rfl,fun _=>⟨wr.heap.size+1,0,rfl,jh (Blk.newAt3 (w:=wr.alloc (.cells #[.slice X n cX,.slice Y n cY,.slice Z n cZ] 34)) (g:=wr.heap.size+1) (by simp))⟩⟩ (by intro v hv;simp at hv;rcases hv with rfl | rfl | rfl<;>rfl) (by omega) (by omega) (by omega) rfl ?_ ?_);(go_simp);intro A6 c6 w6 hM6 hg6)
   have kb2:=(kb1.alloc (.cells #[.slice X n cX,.slice Y n cY,.slice Z n cZ] 32)).grown hg6 ((HMB.out.below (zG.alloc (Nat.le_refl _) (.cells #[.slice X n cX,.slice Y n cY,.slice Z n cZ] 32))).2.ne_blk (kb1.alloc (.cells #[.slice X n cX,.slice Y n cY,.slice Z n cZ] 32)) (by decide))
   have HG3:=(HG2.alloc (.cells #[.slice X n cX,.slice Y n cY,.slice Z n cZ] 32)).grown hg6 ((HMB.out.below (zG.alloc (Nat.le_refl _) (.cells #[.slice X n cX,.slice Y n cY,.slice Z n cZ] 32))).2.ne_blk (HG2.alloc (.cells #[.slice X n cX,.slice Y n cY,.slice Z n cZ] 32)) (by decide))
   have HM6:Hid (Mk w w6 32 A6 (3*1) c6 (([.slice X n cX,.slice Y n cY,.slice Z n cZ]:List Value).take (3*1))):=Lib.hid (by simpa using hM6)
   have HG4:=Lib.hid HG3
   clear hM6 hg6 HG3 HG2 kb1 q3 q4 q5
   go_roundw
   case rel=>exact⟨1,A6,c6,by omega,by go_num,rfl,HM6,kb2,HG4⟩
   case measure=>simp[intOf]
  ·obtain rfl:j=1:=by omega
   have HMJ:Hid (Mk w wr 32 A' 3 c' [.slice X n cX,.slice Y n cY,.slice Z n cZ]):=Lib.hid (by simpa using HM.out)
   have hck:=HCK.out wr A' c' HMJ.out.1 HMJ.out.rd
   obtain⟨q0,q1⟩:=kr.two
   clear HM HG
   go_wp2_with fail
   refine hck.mono ?_
   rintro e w6 ⟨rfl,hb6⟩
   go_wp2
   go_ret
   exact⟨rfl,HMJ.out.1.trans (hb6.mono HMJ.out.1.size)⟩
theorem xf {p:Int} {n:Nat}:∀ {M:List (List Int)},Tab p n M→M.flatten.length=M.length*n
 | [],_=>by simp
 | x::M,h=>by
  rw[List.flatten_cons,List.length_append,(h x (by simp)).1,xf (M:=M) fun y hy=>h y (by simp[hy]),List.length_cons,Nat.add_mul];omega
def TripW (w w':World) (n:Nat) (A1:Option Addr) (c1:Nat) (M1:List (List Int)) (A2:Option Addr) (c2:Nat) (M2:List (List Int)) (A3:Option Addr) (c3:Nat) (M3:List (List Int)):Prop:=
 OwnII w' w.heap.size A1 n c1 M1∧OwnII w' w.heap.size A2 n c2 M2∧OwnII w' w.heap.size A3 n c3 M3∧Below w.heap.size w w'
theorem OwnII.cap {w:World} {B:Nat} {A:Option Addr} {n c:Nat} {L:List (List Int)} (h:OwnII w B A n c L):n≤c:=by
 obtain⟨rows,ho, -⟩:=h;exact ho.cap
theorem OwnII.base {w:World} {B B':Nat} {A:Option Addr} {n c:Nat} {L:List (List Int)} (h:OwnII w B A n c L) (hb:B'≤B):OwnII w B' A n c L:=by
 obtain⟨rows,ho,hn⟩:=h;exact⟨rows,ho.base hb,hn.base hb⟩
theorem TripW.below {w w' w2:World} {n:Nat} {A1 A2 A3:Option Addr} {c1 c2 c3:Nat} {M1 M2 M3:List (List Int)} (h:TripW w w' n A1 c1 M1 A2 c2 M2 A3 c3 M3) (hb:Below w'.heap.size w' w2):TripW w w2 n A1 c1 M1 A2 c2 M2 A3 c3 M3:=by
 obtain⟨h1,h2,h3,h7⟩:=h
 exact⟨h1.below hb,h2.below hb,h3.below hb,h7.trans (hb.mono h7.size)⟩
theorem OwnII.far {w:World} {B g:Nat} {t:TypeId} {cs:Array Value} {A:Option Addr} {n c:Nat} {L:List (List Int)} (h:OwnII w B A n c L) (k:Blk w g t cs) (h1:24≠t) (h2:2≠t) (i:Nat) (u:Value):OwnII (w.setCell ⟨g,i,none⟩ u) B A n c L:=by
 obtain⟨rows,ho,hn⟩:=h
 exact⟨rows,ho.far k h1 i u,hn.len,fun j hj=>by obtain⟨A',c',e,hr⟩:=hn.row j hj;exact⟨A',c',e,hr.far k h2 i u⟩,hn.apart⟩
def RelT (res:Nat) (w w':World):Prop:=∃ a b d x y z,Blk w res 34 #[a,b,d]∧w'=((w.setCell ⟨res,0,none⟩ x).setCell ⟨res,1,none⟩ y).setCell ⟨res,2,none⟩ z
theorem Blk.relT {w w':World} {res b:Nat} {t:TypeId} {cs:Array Value} (h:Blk w b t cs) (hne:b≠res) (r:RelT res w w'):Blk w' b t cs:=by
 obtain⟨a,b,d,x,y,z,k,rfl⟩:=r
 exact ((h.far hne _).far hne _).far hne _
theorem ur {w0 w w':World} {B res:Nat} (h:Below B w0 w) (hres:B≤res) (r:RelT res w w'):Below B w0 w':=by
 obtain⟨a,b,d,x,y,z,k,rfl⟩:=r
 exact ((h.setCell (p:=⟨res,0,none⟩) hres _).setCell (p:=⟨res,1,none⟩) hres _).setCell (p:=⟨res,2,none⟩) hres _
def SBt (res:Nat) (w:World):Prop:=∃ a b d,Blk w res 34 #[a,b,d]
theorem SBt.below {w w':World} {res:Nat} (h:SBt res w) (hb:Below w.heap.size w w'):SBt res w':=by obtain⟨a,b,d,k⟩:=h;exact⟨a,b,d,k.below hb k.lt⟩
theorem Blk.storedT {w:World} {res:Nat} {x y z a b d:Value} (k:Blk w res 34 #[a,b,d]):Blk (((w.setCell ⟨res,0,none⟩ x).setCell ⟨res,1,none⟩ y).setCell ⟨res,2,none⟩ z) res 34 #[x,y,z]:=by
 simpa using ((k.set_ 0 x).set_ 1 y).set_ 2 z
theorem SBt.relT {w w':World} {res:Nat} (_h:SBt res w) (r:RelT res w w'):SBt res w':=by
 obtain⟨a,b,d,x,y,z,k,rfl⟩:=r
 exact⟨_,_,_,k.storedT⟩
theorem OwnII.set3 {w':World} {B n:Nat} {A:Option Addr} {c:Nat} {M:List (List Int)} (h:OwnII w' B A n c M) {res:Nat} {a b d x y z:Value} (k:Blk w' res 34 #[a,b,d]):OwnII (((w'.setCell ⟨res,0,none⟩ x).setCell ⟨res,1,none⟩ y).setCell ⟨res,2,none⟩ z) B A n c M:=
 ((h.far k (by decide) (by decide) 0 x).far (k.set_ 0 x) (by decide) (by decide) 1 y).far ((k.set_ 0 x).set_ 1 y) (by decide) (by decide) 2 z
theorem TripW.stored {w w':World} {n:Nat} {A1 A2 A3:Option Addr} {c1 c2 c3:Nat} {M1 M2 M3:List (List Int)} (h1:MkII w w' A1 n c1 M1) (h2:MkII w w' A2 n c2 M2) (h3:MkII w w' A3 n c3 M3) {res:Nat} {a b d x y z:Value} (k:Blk w' res 34 #[a,b,d]) (hb:Below w.heap.size w w') (hr:w.heap.size≤res) :
 TripW w (((w'.setCell ⟨res,0,none⟩ x).setCell ⟨res,1,none⟩ y).setCell ⟨res,2,none⟩ z) n A1 c1 M1 A2 c2 M2 A3 c3 M3:=
 ⟨h1.own.set3 k,h2.own.set3 k,h3.own.set3 k,ur hb hr ⟨_,_,_,_,_,_,k,rfl⟩⟩
theorem TripW.stored2 {w w1 w':World} {n:Nat} {A1 A2 A3:Option Addr} {c1 c2 c3:Nat} {M1 M2 M3:List (List Int)} (h:TripW w1 w' n A1 c1 M1 A2 c2 M2 A3 c3 M3) {res:Nat} {a b d x y z:Value} (k:Blk w' res 34 #[a,b,d]) (hb:Below w.heap.size w w1) (hr:w.heap.size≤res) :
 TripW w (((w'.setCell ⟨res,0,none⟩ x).setCell ⟨res,1,none⟩ y).setCell ⟨res,2,none⟩ z) n A1 c1 M1 A2 c2 M2 A3 c3 M3:=by
 obtain⟨h1,h2,h3,h7⟩:=h
 exact⟨(h1.base hb.size).set3 k,(h2.base hb.size).set3 k,(h3.base hb.size).set3 k,ur (hb.trans (h7.mono hb.size)) hr ⟨_,_,_,_,_,_,k,rfl⟩⟩
def VTv (w0:World) (n:Nat) (M1 M2 M3:List (List Int)):VP:=⟨fun v w=>∃ A1 c1 A2 c2 A3 c3,v=.agg #[.slice A1 n c1,.slice A2 n c2,.slice A3 n c3]∧MkII w0 w A1 n c1 M1∧MkII w0 w A2 n c2 M2∧MkII w0 w A3 n c3 M3,fun _ _ _ ⟨A1,c1,A2,c2,A3,c3,e,h1,h2,h3⟩ hb=>⟨A1,c1,A2,c2,A3,c3,e,h1.below hb,h2.below hb,h3.below hb⟩⟩
def VTs (w0:World) (res n:Nat) (M1 M2 M3:List (List Int)) (v0:Value):VP:=⟨fun _ w=>∃ A1 c1 A2 c2 A3 c3,v0=.agg #[.slice A1 n c1,.slice A2 n c2,.slice A3 n c3]∧Blk w res 34 #[.slice A1 n c1,.slice A2 n c2,.slice A3 n c3]∧TripW w0 w n A1 c1 M1 A2 c2 M2 A3 c3 M3,fun _ _ _ ⟨A1,c1,A2,c2,A3,c3,e,h1,h2⟩ hb=>⟨A1,c1,A2,c2,A3,c3,e,h1.below hb h1.lt,h2.below hb⟩⟩
set_option maxHeartbeats 6400000 in
set_option maxRecDepth 8000 in
theorem jb (p:Int) (A:Option Addr) (k c:Nat) (st:List Int) (n:Nat) (X:Option Addr) (cX:Nat) (MX:List (List Int)) (Y:Option Addr) (cY:Nat) (MY:List (List Int)) (Z:Option Addr) (cZ:Nat) (MZ:List (List Int)) (w:World) (hdb:isDb p st=true) (hk3:k≤3) (hn:n=pw k) (hc:k≤c) (ha:Rd w A k (ints st)) (hX:RdII w X n MX) (tX:Tab p n MX) (bX:n≤cX) (hY:RdII w Y n MY) (tY:Tab p n MY) (bY:n≤cY) (hZ:RdII w Z n MZ) (tZ:Tab p n MZ) (bZ:n≤cZ) (hloc:∀ row∈locP p k st,dotL p row (yB MX MY MZ)=0) :
 Calls Tryz.prog 19 #[.agg #[.int .i64 p,.slice A k c],.agg #[.slice X n cX,.slice Y n cY,.slice Z n cZ]] w fun e w'=>e=.returned (.tuple #[.bool true,.int .i64 0])∧Below w.heap.size w w':=by
 obtain⟨HP, -,hst⟩:=ze hdb
 obtain⟨hp3,hp2⟩:=yk HP
 have hp:2≤p:=by omega
 have hpk:pw k≤8:=yz hk3
 have hpos:=yq k
 obtain⟨wB,hwB⟩:∃ W,W=(((w.alloc (.cells #[.int .i64 p,.slice A k c] 26)).alloc (.cells #[.slice X n cX,.slice Y n cY,.slice Z n cZ] 34)).alloc (.cells #[.slice X n cX,.slice Y n cY,.slice Z n cZ] 34)):=⟨_,rfl⟩
 have hBB:Below w.heap.size w wB:=by rw[hwB];exact ((((Below.refl w.heap.size w).alloc (by simp;try omega) (.cells #[.int .i64 p,.slice A k c] 26)).alloc (by simp;try omega) (.cells #[.slice X n cX,.slice Y n cY,.slice Z n cZ] 34)).alloc (by simp;try omega) (.cells #[.slice X n cX,.slice Y n cY,.slice Z n cZ] 34))
 have kb0:Blk wB (w.heap.size) 26 #[.int .i64 p,.slice A k c]:=by rw[hwB];exact (((Blk.newAt3 (w:=w) (g:=w.heap.size) (t:=26) (cs:=#[.int .i64 p,.slice A k c]) (by simp)).alloc (.cells #[.slice X n cX,.slice Y n cY,.slice Z n cZ] 34)).alloc (.cells #[.slice X n cX,.slice Y n cY,.slice Z n cZ] 34))
 have kb1:Blk wB (w.heap.size+1) 34 #[.slice X n cX,.slice Y n cY,.slice Z n cZ]:=by rw[hwB];exact ((Blk.newAt3 (w:=(w.alloc (.cells #[.int .i64 p,.slice A k c] 26))) (g:=w.heap.size+1) (t:=34) (cs:=#[.slice X n cX,.slice Y n cY,.slice Z n cZ]) (by simp)).alloc (.cells #[.slice X n cX,.slice Y n cY,.slice Z n cZ] 34))
 have kb2:Blk wB (w.heap.size+1+1) 34 #[.slice X n cX,.slice Y n cY,.slice Z n cZ]:=by rw[hwB];exact (Blk.newAt3 (w:=((w.alloc (.cells #[.int .i64 p,.slice A k c] 26)).alloc (.cells #[.slice X n cX,.slice Y n cY,.slice Z n cZ] 34))) (g:=w.heap.size+1+1) (t:=34) (cs:=#[.slice X n cX,.slice Y n cY,.slice Z n cZ]) (by simp))
 have HWB:=Lib.hid hwB
 have hck:=ydP p A k c st n (w.heap.size+1+1) X cX MX Y cY MY Z cZ MZ wB hdb hk3 hn (ha.below hBB) kb2 (hX.below hBB) tX bX (hY.below hBB) tY bY (hZ.below hBB) tZ bZ
 have htl:=fun w' (h:Below w.heap.size w w')=>yim n X Y Z cX cY cZ MX MY MZ w' (hX.below h) (hY.below h) (hZ.below h) (by omega) (by omega) p tX tY tZ
 have hlr:=fun w' (h:Below w.heap.size w w')=>yab p hp hp2 k (by omega) A c st w' hk3 hc (ha.below h) hst
 have htn:NumsL p (yB MX MY MZ):=fun v hv=>by
  unfold yB at hv
  obtain⟨r,hr,hvr⟩:=List.mem_flatten.1 hv
  exact ((tX.append (tY.append tZ)) r hr).2 v hvr
 have hlen:(yB MX MY MZ).length=3*(n*n):=by
  unfold yB
  rw[xf (tX.append (tY.append tZ)),List.length_append,List.length_append,hX.len,hY.len,hZ.len,show n+(n+n)=3*n by omega,Nat.mul_assoc]
 have hlpt:=ua (p:=p) (by omega) k st
 rw[← hn]at hlpt
 obtain⟨N,hN⟩:∃ N,N=3*(n*n):=⟨_,rfl⟩
 have hN192:N≤192:=by rw[hN];have:=Nat.mul_le_mul (show n≤8 by omega) (show n≤8 by omega);omega
 rw[← hN]at hlpt hlen
 obtain⟨V,hV⟩:∃ V,V=yB MX MY MZ:=⟨_,rfl⟩
 rw[← hV]at hloc htl htn hlen
 rw[hlen]at htl
 obtain⟨LP,hLP⟩:∃ z,z=locP p k st:=⟨_,rfl⟩
 rw[← hLP]at hlr hlpt hloc
 have HTL:=Lib.hid htl
 have HLR:=Lib.hid hlr
 have HTN:=Lib.hid htn
 have HLT:=Lib.hid hlpt
 have HLOC:=Lib.hid hloc
 have HBB:=Lib.hid hBB
 have e0:=kb0.cell 0
 have e1:=kb0.cell 1
 have e2:=kb1.cell 0
 have e3:=kb1.cell 1
 have e4:=kb1.cell 2
 simp at e0 e1 e2 e3 e4
 rw[hwB]at e0 e1 e2 e3 e4
 clear htl hlr htn hlpt hloc hlen hV hLP hN hwB hBB hdb HP hst ha hn hpk hpos hX hY hZ tX tY tZ bX bY bZ kb2
 go_enter Tryz.func19,Tryz.ntmps19
 go_wp2_with fail
 rw[← HWB.out]
 refine hck.mono ?_
 rintro e w2 ⟨rfl,hb2⟩
 have HB2:=Lib.hid (HBB.out.trans (hb2.mono HBB.out.size))
 have k0:=kb0.below hb2 kb0.lt
 have k1:=kb1.below hb2 kb1.lt
 clear hck hb2 kb0 kb1 e0 e1 e2 e3 e4
 obtain⟨q0,q1⟩:=k0.two
 have q2:=k1.cell 0
 have q3:=k1.cell 1
 have q4:=k1.cell 2
 simp at q2 q3 q4
 go_wp2_with fail
 refine (HTL.out _ HB2.out).mono ?_
 rintro e w3 ⟨A3,c3,rfl,hM3⟩
 have HB3:=Lib.hid (HB2.out.trans (hM3.b.mono HB2.out.size))
 have hB4:Below w3.heap.size w3 (w3.alloc (.cells #[.slice A3 N c3] 24)):=zG.alloc (Nat.le_refl _) _
 have HM3:=Lib.hid (hM3.rd.below hB4)
 have k4:=((k0.below hM3.b k0.lt).alloc (.cells #[.slice A3 N c3] 24))
 have kl:Blk (w3.alloc (.cells #[.slice A3 N c3] 24)) w3.heap.size 24 #[.slice A3 N c3]:=Blk.new _ _ _
 have HB4:=Lib.hid (HB3.out.trans (hB4.mono HB3.out.size))
 clear hM3 hB4 q0 q1 q2 q3 q4 k1 k0
 obtain⟨q0,q1⟩:=k4.two
 go_wp2_with fail
 refine (HLR.out _ HB4.out).mono ?_
 rintro e w5 ⟨A5,c5,t5,ht5,rfl,hM5⟩
 have k5:=k4.below hM5.b k4.lt
 have kl5:=kl.below hM5.b kl.lt
 have HV5:=Lib.hid (HM3.out.below hM5.b)
 have HB5:=Lib.hid (HB4.out.trans (hM5.b.mono HB4.out.size))
 have hcf:=ydk 67 ⟨w.heap.size,0,none⟩ ⟨w3.heap.size,0,none⟩ (fun row=>dotL p row V != 0) (fun row=>row.length=N∧NumsL p row) A5 t5 c5 LP w5 (by omega) hM5.rd (fun row hr=>HLT.out row hr) (fun w' R m cr row hb hr hok=>by
  have hm:m=N:=by have:=hr.lenI;omega
  subst hm
  have:=ygi p hp hp2 A k c w.heap.size w3.heap.size A3 m c3 V R cr row w' (by omega) (k5.below hb k5.lt) (kl5.below hb kl5.lt) (HV5.out.below hb) HTN.out hr hok.2
  simpa using this) (fun _ _=>rfl)
 have hany:(LP.any fun row=>dotL p row V != 0)=false:=by
  rw[List.any_eq_false]
  intro row hr
  rw[HLOC.out row hr]
  simp
 rw[hany]at hcf
 clear hany hM5 q0 q1 k4 kl
 obtain⟨q0,q1⟩:=k5.two
 go_wp2_with fail
 refine hcf.mono ?_
 rintro e w6 ⟨rfl,hb6⟩
 go_wp2
 go_ret2
 exact⟨rfl,HB5.out.trans (hb6.mono HB5.out.size)⟩
set_option maxHeartbeats 3200000 in
set_option maxRecDepth 8000 in
theorem uS (n:Nat) (X Y Z X2 Y2 Z2:Option Addr) (cX cY cZ cX2 cY2 cZ2:Nat) (MX MY MZ:List (List Int)) (w:World) (hn8:n≤8) (p:Int) (tX:Tab p n MX) (tY:Tab p n MY) (tZ:Tab p n MZ) (hX:RdII w X n MX) (hY:RdII w Y n MY) (hZ:RdII w Z n MZ) (hX2:RdII w X2 n MX) (hY2:RdII w Y2 n MY) (hZ2:RdII w Z2 n MZ) :
 Calls Tryz.prog 13 #[.agg #[.slice X n cX,.slice Y n cY,.slice Z n cZ],.agg #[.slice X2 n cX2,.slice Y2 n cY2,.slice Z2 n cZ2]] w fun e w'=>e=.returned (.bool true)∧Below w.heap.size w w':=by
 obtain⟨wB,hwB⟩:∃ W,W=((w.alloc (.cells #[.slice X n cX,.slice Y n cY,.slice Z n cZ] 34)).alloc (.cells #[.slice X2 n cX2,.slice Y2 n cY2,.slice Z2 n cZ2] 34)):=⟨_,rfl⟩
 have hBB:Below w.heap.size w wB:=by rw[hwB];exact (((Below.refl w.heap.size w).alloc (by simp;try omega) (.cells #[.slice X n cX,.slice Y n cY,.slice Z n cZ] 34)).alloc (by simp;try omega) (.cells #[.slice X2 n cX2,.slice Y2 n cY2,.slice Z2 n cZ2] 34))
 have kb0:Blk wB (w.heap.size) 34 #[.slice X n cX,.slice Y n cY,.slice Z n cZ]:=by rw[hwB];exact ((Blk.newAt3 (w:=w) (g:=w.heap.size) (t:=34) (cs:=#[.slice X n cX,.slice Y n cY,.slice Z n cZ]) (by simp)).alloc (.cells #[.slice X2 n cX2,.slice Y2 n cY2,.slice Z2 n cZ2] 34))
 have kb1:Blk wB (w.heap.size+1) 34 #[.slice X2 n cX2,.slice Y2 n cY2,.slice Z2 n cZ2]:=by rw[hwB];exact (Blk.newAt3 (w:=(w.alloc (.cells #[.slice X n cX,.slice Y n cY,.slice Z n cZ] 34))) (g:=w.heap.size+1) (t:=34) (cs:=#[.slice X2 n cX2,.slice Y2 n cY2,.slice Z2 n cZ2]) (by simp))
 have hs:=fun (w':World) (X X2:Option Addr) (cX cX2:Nat) (M:List (List Int)) (hb:Below w.heap.size w w') (t:Tab p n M) (h:RdII w X n M) (h2:RdII w X2 n M)=>ycQ X X2 n cX cX2 M w' (by omega) (fun x hx=>by rw[(t x hx).1];omega) (h.below hb) (h2.below hb)
 have HS1:=Lib.hid fun w' hb=>hs w' X X2 cX cX2 MX hb tX hX hX2
 have HS2:=Lib.hid fun w' hb=>hs w' Y Y2 cY cY2 MY hb tY hY hY2
 have HS3:=Lib.hid fun w' hb=>hs w' Z Z2 cZ cZ2 MZ hb tZ hZ hZ2
 have HBB:=Lib.hid hBB
 have HWB:=Lib.hid hwB
 have e0:=kb0.cell 0
 have e1:=kb0.cell 1
 have e2:=kb0.cell 2
 have e3:=kb1.cell 0
 have e4:=kb1.cell 1
 have e5:=kb1.cell 2
 simp at e0 e1 e2 e3 e4 e5
 rw[hwB]at e0 e1 e2 e3 e4 e5
 clear hs hX hY hZ hX2 hY2 hZ2 tX tY tZ hwB hBB
 go_enter Tryz.func13,Tryz.ntmps13
 go_wp2_with fail
 rw[← HWB.out]
 refine (HS1.out _ HBB.out).mono ?_
 rintro e w2 ⟨rfl,hb2⟩
 have HB2:=Lib.hid (HBB.out.trans (hb2.mono HBB.out.size))
 have k0:=kb0.below hb2 kb0.lt
 have k1:=kb1.below hb2 kb1.lt
 clear hb2 e0 e1 e2 e3 e4 e5 kb0 kb1
 have e1:=k0.cell 1
 have e4:=k1.cell 1
 have e2:=k0.cell 2
 have e5:=k1.cell 2
 simp at e1 e2 e4 e5
 go_wp2_with fail
 refine (HS2.out _ HB2.out).mono ?_
 rintro e w3 ⟨rfl,hb3⟩
 have HB3:=Lib.hid (HB2.out.trans (hb3.mono HB2.out.size))
 have k2:=k0.below hb3 k0.lt
 have k3:=k1.below hb3 k1.lt
 clear hb3 e1 e2 e4 e5 k0 k1
 have e2:=k2.cell 2
 have e5:=k3.cell 2
 simp at e2 e5
 go_wp2_with fail
 refine (HS3.out _ HB3.out).mono ?_
 rintro e w4 ⟨rfl,hb4⟩
 go_wp2
 go_ret
 exact⟨rfl,HB3.out.trans (hb4.mono HB3.out.size)⟩
end Go.Proofs.YtaiegpggccdgoaaGreat
namespace Go.Proofs.YtaiegpggccdgoaaGreat
theorem pw3:pw 3=8:=by decide
theorem n192:3*(pw 3*pw 3)=192:=by decide
def kbT (p:Int) (st:List Int):List (List Int):=yI p (locS p 3 st) 192
section
variable {p:Int} {st:List Int}
theorem yfr (hp:2≤p) (st:List Int):Tab p 192 (kbT p st):=vW hp _ _
theorem jW (hP:isP p=true) (st:List Int):Red 192 (kbT p st):=uI hP _ _
theorem ybN (hP:isP p=true) (hst:∀ b,b<3→st.getD b 0%p≠0):(kbT p st).length=28:=by
 have h:=ygc hP (st:=st) (show 3≤3 by omega) hst
 rw[n192]at h
 exact h
theorem ygb (hp:0<p) (st:List Int):Tab p 192 (locS p 3 st):=by have:=qE hp 3 st;rwa [n192]at this
theorem j9 (hp:0<p) (st:List Int):Tab p 192 (locP p 3 st):=by have:=ua hp 3 st;rwa [n192]at this
theorem ycv (v:Nat→Int):Orth p 192 (locP p 3 st) v↔LocEq p st 3 v:=by have:=qD (p:=p) 3 st v;rwa [n192]at this
theorem ybO (hP:isP p=true) (st:List Int) (v:Nat→Int):Sp p 192 (kbT p st) v↔LocEq p st 3 v:=by
 have h:=yaa hP 3 st v
 rw[n192]at h
 exact (vq hP (ygb (by have:=yk hP;omega) st)).trans h
theorem yfq (hP:isP p=true) {i:Nat} (hi:i<(kbT p st).length):LocEq p st 3 fun q=>ent (kbT p st) i q:=by
 refine (ybO hP st _).1 ((Sp.mem (x:=(kbT p st)[i]) (List.getElem_mem hi)).congr fun q _=>?_)
 unfold ent
 rw[yc [] hi]
theorem LocEq.sub {k:Nat} {v w:Nat→Int} (hv:LocEq p st k v) (hw:LocEq p st k w):LocEq p st k fun q=>v q-w q:=by
 refine⟨fun part i q h1 h2 h3=>?_,fun i j q hi hj hq=>?_⟩
 ·obtain⟨a,ha⟩:=hv.1 part i q h1 h2 h3
  obtain⟨b,hb⟩:=hw.1 part i q h1 h2 h3
  refine⟨a-b,?_⟩
  simp only[Int.sub_mul,Int.mul_sub]
  omega
 ·obtain⟨a,ha⟩:=hv.2 i j q hi hj hq
  obtain⟨b,hb⟩:=hw.2 i j q hi hj hq
  refine⟨a-b,?_⟩
  simp only[Int.sub_mul,Int.mul_sub]
  omega
theorem ygh (hP:isP p=true) (hst:∀ b,b<3→st.getD b 0%p≠0) {v w:Nat→Int} (hv:LocEq p st 3 v) (hw:LocEq p st 3 w) (hA:∀ q,q<64→v q%p=w q%p) {q:Nat} (hq:q<192):v q%p=w q%p:=
 Int.emod_eq_emod_iff_emod_sub_eq_zero.2 (Int.emod_eq_zero_of_dvd (yci hP hst (hv.sub hw) (fun q hq=>Int.dvd_of_emod_eq_zero (Int.emod_eq_emod_iff_emod_sub_eq_zero.1 (hA q hq))) hq))
theorem yaf (hP:isP p=true):(1:Int)%p≠0:=by have:=yk hP;rw[Int.emod_eq_of_lt (by omega) (by omega)];omega
theorem yes {i:Nat} (hi:i<8):cjS i*cD (ones 3) 3 i i=1∨cjS i*cD (ones 3) 3 i i = -1:=by
 have h:((List.range 8).all fun i=>cjS i*cD (ones 3) 3 i i == 1 || cjS i*cD (ones 3) 3 i i == -1)=true:=by decide +kernel
 rw[List.all_eq_true]at h
 have:=h i (List.mem_range.2 hi)
 simpa using this
theorem qh (hP:isP p=true) (hst:∀ b,b<3→st.getD b 0%p≠0) {i:Nat} (hi:i<8):dgZ st 3 i%p≠0:=by
 have hi':i<pw 3:=by rw[pw3];exact hi
 unfold dgZ
 rw[vk st 3 3 (Nat.le_refl 3) hi' hi',← Int.mul_assoc]
 have hu:(prT 3 fun b=>st.getD b 0^(bt b i*bt b i))%p≠0:=ud hP fun b hb=>qM hP (hst b hb) _
 rcases yes hi with e | e
 ·rw[e,Int.one_mul];exact hu
 ·rw[e]
  intro h
  refine hu ?_
  have h2:=xF (p:=p) (-1) (show (-1*prT 3 fun b=>st.getD b 0^(bt b i*bt b i))%p=(0:Int)%p by rw[h];rfl)
  rw[← Int.mul_assoc,show (-1:Int) * -1=1 by rfl,Int.one_mul]at h2
  rw[h2];rfl
theorem yhk (hP:isP p=true) (hst:∀ b,b<3→st.getD b 0%p≠0) {f g:Nat→Nat→Int} (hf:SkM p st 3 f) (hg:SkM p st 3 g) (h:∀ i j,i<j→j<8→f i j%p=g i j%p) {i j:Nat} (hi:i<8) (hj:j<8):f i j%p=g i j%p:=by
 have h8:∀ a,a<8→a<pw 3:=fun a ha=>by rw[pw3];exact ha
 rcases Nat.lt_trichotomy i j with hl | hl | hl
 ·exact h i j hl hj
 ·subst hl
  have z:∀ {f:Nat→Nat→Int},SkM p st 3 f→f i i%p=0:=fun {f} hf=>by
   have h1:=hf i i (h8 i hi) (h8 i hi)
   rw[← Int.add_mul,Int.mul_comm]at h1
   exact (qY hP).1 (Int.emod_eq_zero_of_dvd ((x6 hP (qh hP hst hi)).1 h1))
  rw[z hf,z hg]
 ·obtain⟨a,ha⟩:=hf i j (h8 i hi) (h8 j hj)
  obtain⟨b,hb⟩:=hg i j (h8 i hi) (h8 j hj)
  obtain⟨c,hc⟩:=Int.dvd_of_emod_eq_zero (Int.emod_eq_emod_iff_emod_sub_eq_zero.1 (h j i hl hi))
  have:p∣dgZ st 3 i*(f i j-g i j):=⟨a-b-c*dgZ st 3 j,by
   have e:f j i=g j i+p*c:=by omega
   rw[e,Int.add_mul]at ha
   rw[Int.mul_comm,Int.sub_mul,Int.mul_sub,Int.mul_sub,← Int.mul_assoc]
   omega⟩
  exact Int.emod_eq_emod_iff_emod_sub_eq_zero.2 (Int.emod_eq_zero_of_dvd ((x6 hP (qh hP hst hi)).1 this))
theorem LocEq.skA {v:Nat→Int} (hv:LocEq p st 3 v):SkM p st 3 fun i j=>v (i*8+j):=fun i q hi hq=>by
 have:=hv.1 0 i q (by omega) hi hq
 rwa [Nat.zero_mul,Nat.zero_add,Nat.zero_add,pw3]at this
theorem yca (hP:isP p=true) (hst:∀ b,b<3→st.getD b 0%p≠0) {i:Nat} (hi:i<(kbT p st).length):ld (kbT p st) i<64∧ld (kbT p st) i / 8<ld (kbT p st) i%8:=by
 have hR:=jW hP st
 have hrow:=yfq hP hi
 have hone:=hR.one i hi
 have h64:ld (kbT p st) i<64:=by
  refine Classical.byContradiction fun hge=>?_
  have:=yci hP hst hrow (fun q hq=>by rw[hR.before i q (by omega)];exact Int.dvd_zero p) (hR.lt i hi)
  rw[hone]at this
  exact yaf hP (Int.emod_eq_zero_of_dvd this)
 refine⟨h64,Classical.byContradiction fun hge=>?_⟩
 obtain⟨a,b,ha,hb,hl⟩:∃ a b,a<8∧b<8∧ld (kbT p st) i=a*8+b:=⟨ld (kbT p st) i / 8,ld (kbT p st) i%8,by omega,by omega,by omega⟩
 rw[hl]at hge hone
 have hab:b≤a:=by omega
 have hs:p∣ent (kbT p st) i (a*8+b)*dgZ st 3 a+ent (kbT p st) i (b*8+a)*dgZ st 3 b:=hrow.skA a b (by rw[pw3];exact ha) (by rw[pw3];exact hb)
 rw[hone]at hs
 by_cases he:a=b
 ·subst he
  rw[hone,← Int.add_mul,Int.mul_comm]at hs
  exact yaf hP ((qY hP).1 (Int.emod_eq_zero_of_dvd ((x6 hP (qh hP hst ha)).1 hs)))
 ·rw[hR.before i (b*8+a) (by omega),Int.zero_mul,Int.add_zero,Int.mul_comm]at hs
  exact yaf hP (Int.emod_eq_zero_of_dvd ((x6 hP (qh hP hst ha)).1 hs))
def upL:List Nat:=(List.range 64).filter fun q=>decide (q / 8<q%8)
theorem yio:upL.length=28:=by decide +kernel
theorem yip:upL.Nodup:=by unfold upL;exact List.Pairwise.filter _ List.nodup_range
theorem ydf {q:Nat}:q∈upL↔q<64∧q / 8<q%8:=by unfold upL;rw[List.mem_filter,List.mem_range,decide_eq_true_eq]
theorem yiq (hP:isP p=true) (hst:∀ b,b<3→st.getD b 0%p≠0) {q:Nat} (hq:q<64) (hu:q / 8<q%8):∃ i,i<(kbT p st).length∧ld (kbT p st) i=q:=by
 have hL:=ybN hP hst
 have hR:=jW hP st
 have hix:∀ x,x∈upL→upL.idxOf x<(kbT p st).length:=fun x hx=>by rw[hL,← yio];exact List.idxOf_lt_length_of_mem hx
 obtain⟨x,hx,he⟩:=ygA upL yip (fun x=>ld (kbT p st) (upL.idxOf x)) (fun x hx=>ydf.2 (yca hP hst (hix x hx))) (fun x hx y hy e=>by
  have h1:=hR.inj (hix x hx) (hix y hy) e
  have g:∀ {z},z∈upL→upL.getD (upL.idxOf z) 0=z:=fun {z} hz=>by
   rw[yc 0 (List.idxOf_lt_length_of_mem hz)]
   exact List.getElem_idxOf (List.idxOf_lt_length_of_mem hz)
  rw[← g hx,h1,g hy]) (ydf.2 ⟨hq,hu⟩)
 exact⟨_,hix x hx,he⟩
def zh (p:Int) (B M:List (List Int)):Nat→List Int
 | 0=>List.replicate 192 0
 | i+1=>yp p (zh p B M i) (B.getD i []) (ent M (ld B i / 8) (ld B i%8))
def cmpL (p:Int) (st:List Int) (M:List (List Int)):List Int:=zh p (kbT p st) M (kbT p st).length
theorem qg (p:Int) (B M:List (List Int)):∀ i,(zh p B M i).length=192
 | 0=>List.length_replicate
 | i+1=>(yP _ _ _ _).trans (qg p B M i)
theorem yaZ (hp:0<p) (B M:List (List Int)):∀ i,NumsL p (zh p B M i)
 | 0=>NumsL.replicate hp _
 | _+1=>xK hp _ _ _
theorem jp (B M:List (List Int)) {q:Nat} (hq:q<192):∀ i,(zh p B M i).getD q 0%p=(ya i fun j=>ent M (ld B j / 8) (ld B j%8)*ent B j q)%p
 | 0=>by
  unfold zh
  rw[yc 0 (by rw[List.length_replicate];exact hq),List.getElem_replicate];rfl
 | i+1=>by
  unfold zh
  rw[zw _ _ (by rw[qg];exact hq),yM,y8]
  exact zo (jp B M hq i) rfl
theorem jn (st:List Int) (M:List (List Int)):(cmpL p st M).length=192:=qg _ _ _ _
theorem jo (hp:0<p) (st:List Int) (M:List (List Int)):NumsL p (cmpL p st M):=yaZ hp _ _ _
theorem qf (hP:isP p=true) (st:List Int) (M:List (List Int)):LocEq p st 3 fun q=>(cmpL p st M).getD q 0:=
 (ybO hP st _).1 ⟨fun j=>ent M (ld (kbT p st) j / 8) (ld (kbT p st) j%8),fun q hq=>jp _ _ hq _⟩
theorem jm (hP:isP p=true) (hst:∀ b,b<3→st.getD b 0%p≠0) {M:List (List Int)} (hM:SkM p st 3 (ent M)) {i j:Nat} (hi:i<8) (hj:j<8):(cmpL p st M).getD (i*8+j) 0%p=ent M i j%p:=by
 have hR:=jW hP st
 refine yhk hP hst (f:=fun i j=>(cmpL p st M).getD (i*8+j) 0) (g:=ent M) (qf hP st M).skA hM (fun i j hij hj=>?_) hi hj
 obtain⟨a,ha,hl⟩:=yiq hP hst (q:=i*8+j) (by omega) (by omega)
 show (cmpL p st M).getD (i*8+j) 0%p=_
 unfold cmpL
 rw[jp _ _ (by omega),← hl,yF a ha (fun b hb hne=>by rw[hR.zero a b ha hb hne,Int.mul_zero]),hR.one a ha,Int.mul_one,hl,show (i*8+j) / 8=i by omega,show (i*8+j)%8=j by omega]
theorem ya0 (hP:isP p=true) (hst:∀ b,b<3→st.getD b 0%p≠0) {M:List (List Int)} (hM:SkM p st 3 (ent M)) {x:List Int} (hl:x.length=192) (hx:NumsL p x) (hv:LocEq p st 3 fun q=>x.getD q 0) (hA:∀ i j,i<8→j<8→x.getD (i*8+j) 0%p=ent M i j%p):x=cmpL p st M:=by
 have hp:0<p:=by have:=yk hP;omega
 refine yU 0 (hl.trans (jn st M).symm) fun q hq=>uu (hx.getD hp q) ((jo hp st M).getD hp q) ?_
 rw[hl]at hq
 refine ygh hP hst hv (qf hP st M) (fun r hr=>?_) hq
 have h1:=hA (r / 8) (r%8) (by omega) (by omega)
 have h2:=jm hP hst hM (i:=r / 8) (j:=r%8) (by omega) (by omega)
 rw[show r / 8*8+r%8=r by omega]at h1 h2
 exact h1.trans h2.symm
def sysM (p:Int) (st:List Int):List (List Int):=(locP p 3 st).map fun row=>row.drop 64
def sysV (p:Int) (st first:List Int):List Int:=(locP p 3 st).map fun row=>(-(dotL p (row.take 64) first))%p
theorem qT (hp:0<p) (st:List Int):Tab p 128 (sysM p st):=fun x hx=>by
 obtain⟨row,hr,rfl⟩:=List.mem_map.1 hx
 obtain⟨h1,h2⟩:=j9 hp st row hr
 exact⟨by rw[List.length_drop,h1],fun y hy=>h2 y (List.mem_of_mem_drop hy)⟩
theorem qU (hp:0<p) (st first:List Int):NumsL p (sysV p st first):=fun x hx=>by
 obtain⟨row,_,rfl⟩:=List.mem_map.1 hx
 exact⟨Int.emod_nonneg _ (by omega),Int.emod_lt_of_pos _ hp⟩
theorem yhx {a b:Nat} {row first:List Int} (hl:row.length=a+b) (y:Nat→Int):((ya b fun q=>(row.drop a).getD q 0*y q)%p=((-(dotL p (row.take a) first))%p)%p)↔(ya (a+b) fun q=>row.getD q 0*(if q<a then first.getD q 0 else y (q-a)))%p=0:=by
 have e3:dotL p (row.take a) first%p=(ya a fun q=>row.getD q 0*first.getD q 0)%p:=by
  unfold dotL
  rw[yM,List.length_take,hl,Nat.min_eq_left (by omega)]
  congr 1
  refine yw fun q hq=>?_
  rw[List.getD_eq_getElem?_getD,List.getElem?_take,if_pos hq,← List.getD_eq_getElem?_getD]
 have s1:(ya a fun q=>row.getD q 0*(if q<a then first.getD q 0 else y (q-a)))=ya a fun q=>row.getD q 0*first.getD q 0:=yw fun q hq=>by rw[if_pos hq]
 have s2:(ya b fun q=>row.getD (a+q) 0*(if a+q<a then first.getD (a+q) 0 else y (a+q-a)))=ya b fun q=>(row.drop a).getD q 0*y q:=yw fun q hq=>by
  rw[if_neg (by omega),show a+q-a=q by omega,List.getD_eq_getElem?_getD,List.getD_eq_getElem?_getD,List.getElem?_drop]
 rw[yc2,yM,s1,s2]
 obtain⟨X,hX⟩:∃ z,z=ya b fun q=>(row.drop a).getD q 0*y q:=⟨_,rfl⟩
 obtain⟨Y,hY⟩:∃ z,z=ya a fun q=>row.getD q 0*first.getD q 0:=⟨_,rfl⟩
 obtain⟨D,hD⟩:∃ z,z=dotL p (row.take a) first:=⟨_,rfl⟩
 rw[← hX,← hY,← hD]
 rw[← hY,← hD]at e3
 have e4:(-D)%p=(-Y)%p:=by
  have:=xF (p:=p) (-1) e3
  rwa [Int.neg_one_mul,Int.neg_one_mul]at this
 rw[e4]
 constructor
 ·intro h
  rw[Int.add_comm,Int.add_emod,h,← Int.add_emod,Int.add_comm,Int.add_right_neg];rfl
 ·intro h
  refine Int.emod_eq_emod_iff_emod_sub_eq_zero.2 ?_
  rw[show X - -Y=Y+X by omega];exact h
theorem yc5 (hp:0<p) {i:Nat} (hi:i<(locP p 3 st).length) (first:List Int) (y:Nat→Int):((ya 128 fun q=>ent (sysM p st) i q*y q)%p=(sysV p st first).getD i 0%p)↔(ya 192 fun q=>ent (locP p 3 st) i q*(if q<64 then first.getD q 0 else y (q-64)))%p=0:=by
 obtain⟨h1,h2⟩:=(j9 hp st).row hi
 have e1:(sysM p st).getD i []=((locP p 3 st).getD i []).drop 64:=by
  unfold sysM
  rw[yc [] (by rw[List.length_map];exact hi),List.getElem_map,yc [] hi]
 have e2:(sysV p st first).getD i 0=(-(dotL p (((locP p 3 st).getD i []).take 64) first))%p:=by
  unfold sysV
  rw[yc 0 (by rw[List.length_map];exact hi),List.getElem_map,yc [] hi]
 unfold ent
 rw[e1,e2]
 exact yhx (p:=p) (a:=64) (b:=128) h1 y
theorem yhN (hP:isP p=true) (hst:∀ b,b<3→st.getD b 0%p≠0) {M:List (List Int)} (hl:M.length=8) (hT:Tab p 8 M) (hM:SkM p st 3 (ent M)) :
 (solR p (sysM p st) (sysV p st M.flatten) 128).2=true∧M.flatten++(solR p (sysM p st) (sysV p st M.flatten) 128).1=cmpL p st M∧(solR p (sysM p st) (sysV p st M.flatten) 128).1.length=128:=by
 have hp:0<p:=by have:=yk hP;omega
 have hfl:M.flatten.length=64:=by rw[xf hT,hl]
 have hfn:NumsL p M.flatten:=fun x hx=>by
  obtain⟨r,hr,hx⟩:=List.mem_flatten.1 hx
  exact (hT r hr).2 x hx
 have hlen:(sysM p st).length=(locP p 3 st).length:=List.length_map ..
 have hfA:∀ i j,i<8→j<8→M.flatten.getD (i*8+j) 0=ent M i j:=fun i j hi hj=>uC hT (by omega) hj
 have hno:endB (yf p (augL (sysM p st) (sysV p st M.flatten))) 128 (yf p (augL (sysM p st) (sysV p st M.flatten))).length=false:=by
  cases h:endB (yf p (augL (sysM p st) (sysV p st M.flatten))) 128 (yf p (augL (sysM p st) (sysV p st M.flatten))).length
  ·rfl
  ·refine absurd ?_ (yhs hP (qT hp st) (qU hp st _) h fun q=>(cmpL p st M).getD (64+q) 0)
   intro i hi
   rw[hlen]at hi
   refine (yc5 hp hi _ _).2 ((yW p fun q hq=>?_).trans ((ycv (p:=p) (st:=st) _).2 (qf hP st M) i hi))
   refine xF _ ?_
   by_cases hq64:q<64
   ·rw[if_pos hq64]
    have h1:=jm hP hst hM (i:=q / 8) (j:=q%8) (by omega) (by omega)
    have h2:=hfA (q / 8) (q%8) (by omega) (by omega)
    rw[show q / 8*8+q%8=q by omega]at h1 h2
    rw[h1,h2]
   ·rw[if_neg hq64,show 64+(q-64)=q by omega]
 have hs:solR p (sysM p st) (sysV p st M.flatten) 128=(zg (yf p (augL (sysM p st) (sysV p st M.flatten))) 128 (yf p (augL (sysM p st) (sysV p st M.flatten))).length,true):=by
  unfold solR
  rw[hno];rfl
 have hok:=yht hP (qT hp st) (qU hp st _) hno
 have hxl:=yas (yf p (augL (sysM p st) (sysV p st M.flatten))) 128 (yf p (augL (sysM p st) (sysV p st M.flatten))).length
 have hxn:=ycV hp (vO hp _ (u9 hp (qT hp st) (qU hp st M.flatten))) 128 (yf p (augL (sysM p st) (sysV p st M.flatten))).length
 rw[hs]
 obtain⟨x,hx⟩:∃ z,z=zg (yf p (augL (sysM p st) (sysV p st M.flatten))) 128 (yf p (augL (sysM p st) (sysV p st M.flatten))).length:=⟨_,rfl⟩
 rw[← hx]at hok hxl hxn ⊢
 refine⟨rfl,?_,hxl⟩
 have hg:∀ q,q<192→(M.flatten++x).getD q 0=if q<64 then M.flatten.getD q 0 else x.getD (q-64) 0:=fun q hq=>by
  by_cases h:q<64
  ·rw[if_pos h,uF (by omega)]
  ·rw[if_neg h,vS (by omega),hfl]
 refine ya0 hP hst hM (by rw[List.length_append,hfl,hxl]) (fun y hy=>?_) ((ycv (p:=p) (st:=st) _).1 fun i hi=>?_) (fun i j hi hj=>?_)
 ·rcases List.mem_append.1 hy with h | h
  ·exact hfn y h
  ·exact hxn y h
 ·have h1:=(yc5 hp hi M.flatten _).1 (hok i (by rw[hlen];exact hi))
  have e:(ya 192 fun q=>ent (locP p 3 st) i q*(M.flatten++x).getD q 0)=ya 192 fun q=>ent (locP p 3 st) i q*(if q<64 then M.flatten.getD q 0 else x.getD (q-64) 0):=yw fun q hq=>by rw[hg q hq]
  exact (congrArg (fun z=>z%p) e).trans h1
 ·rw[hg _ (by omega),if_pos (by omega),hfA i j hi hj]
end
end Go.Proofs.YtaiegpggccdgoaaGreat
namespace Go.Proofs.YtaiegpggccdgoaaGreat
open Go.RowKit
theorem ye1 {l:Array Bool} {i k0:Nat} (h:i<l.size):(l.getD k0 false || i == k0)=(l.setIfInBounds i true).getD k0 false:=by
 by_cases e:i=k0
 ·subst e;simp[Array.getD,h]
 ·rw[getD_set_ne _ e]
  have:(i == k0)=false:=by simpa using e
  rw[this,Bool.or_false]
section
variable {P:Program} {ops:Array Oper} {Q:Exit→Act→World→Prop}
def ObJ (P:Program) (ops:Array Oper) (k0:Nat) (S:Bool→World→Prop) (R C:List (List Nat)) (Rel:Nat→World→World→Prop) (m:Nat) (V:(Nat→Value)→List VP) (x:Nat→Value) (a0:Act) (j:Nat):Prop:=
 ∀ b w,(j=k0→b=false)→S b w→(∀ i∈zW R C m j,((V x).getD i VAny).p (x i) w) →
  wpOp P ops NoWay j (fun a' w'=>∃ v,(∀ d,yg ops j=some d→a'.tmps[d]? = some v)∧a'.defers=a0.defers∧((V x).getD j VAny).p v w'∧StepR C (Rel j) j w w') (putS ops x a0 j) w
theorem yhT {m:Nat} {Rel:Nat→World→World→Prop} {R C:List (List Nat)} {V:(Nat→Value)→List VP} {k0:Nat} {S:Bool→World→Prop} {a0:Act} (hok:yZ ops m a0.tmps.size R=true)
 (hdep:∀ x x' j,(∀ i∈R.getD j [],x i=x' i)→(V x).getD j VAny=(V x').getD j VAny) (hweak:∀ i,i<m→(C.getD i []).isEmpty=false → ∀ k,k<m→k≠i→i ∉ R.getD k []→k ∉ C.getD i [] → ∀ x v w w',((V x).getD k VAny).p v w→Rel i w w'→((V x).getD k VAny).p v w') (hSt:∀ j b w w',S b w→StepR C (Rel j) j w w'→S (b || j == k0) w') (hob:∀ x j,j<m→ObJ P ops k0 S R C Rel m V x a0 j)
 (hend:∀ x w' b,S b w'→(∀ i∈endR C m,((V x).getD i VAny).p (x i) w')→wpAny P .any ops Q (ops.size-m) (yx ops.size m) (putS ops x a0 m) w') :
 ∀ (c:Nat) (U:List Nat) (listed:Array Bool) (w:World) (x:Nat→Value),U.length=c→U.Nodup→(∀ i,i∈U↔i<m∧listed.getD i false=false)→listed.size=ops.size →
  (∀ i,m≤i→i<ops.size→listed.getD i false=false)→(∀ (j:Nat) (o:Oper),ops[j]? = some o→listed.getD j false=true → ∀ e∈o.after,Region.binds .any e=true→listed.getD e.on false=true) →
  S (listed.getD k0 false) w→(∀ i,i<m→listed.getD i false=true→(∀ j,j<m→i∈C.getD j []→listed.getD j false=false)→((V x).getD i VAny).p (x i) w)→wpAny P .any ops Q (ops.size-m+c) listed (putD ops (fun i=>listed.getD i false) x a0 m) w:=by
 obtain⟨hmn,hspec,htail⟩:=vu hok
 have hsel:Region.noSelect ops=true:=by unfold yZ at hok;simp only[Bool.and_eq_true]at hok;exact hok.1.1
 intro c
 induction c with
 | zero=>
  intro U listed w x hU hnd hmem hsz hun hcl hS hV
  obtain rfl:U=[]:=List.eq_nil_of_length_eq_zero hU
  have hall:∀ i,i<m→listed.getD i false=true:=fun i hi=>by
   cases h:listed.getD i false
   ·exact absurd ((hmem i).2 ⟨hi,h⟩) (by simp)
   ·rfl
  have hl:listed=yx ops.size m:=by
   apply Array.ext
   ·simp[yx,hsz]
   ·intro i h1 h2
    have e:listed.getD i false=listed[i]:=by simp[Array.getD,h1]
    by_cases hi:i<m
    ·have:=hall i hi
     rw[e]at this
     simp[yx,this,hi]
    ·have:=hun i (by omega) (by omega)
     rw[e]at this
     simp[yx,this,hi]
  rw[Nat.add_zero,xq (ops:=ops) _ (fun _=>true) x x a0 m (fun i hi=>⟨hall i hi,fun _=>rfl⟩),hl]
  exact hend x w _ hS (fun i hi=>hV i (va.1 hi).1 (hall i (va.1 hi).1) (fun j hj hc=>absurd hc ((va.1 hi).2 j hj)))
 | succ c ih=>
  intro U listed w x hU hnd hmem hsz hun hcl hS hV
  have hne:U≠[]:=fun e=>by rw[e]at hU;simp at hU
  show (_→_)∧_
  refine⟨fun hr=>?_,fun i hi=>?_⟩
  ·exfalso
   obtain⟨i,hiU,hmin⟩:=ub U hne
   obtain⟨him,hil⟩:=(hmem i).1 hiU
   have hlt:i<ops.size:=by omega
   have:i∈Region.ready .any ops listed:=mem_ready.2 ⟨by simpa [Array.getD,hsz,hlt] using hil,_,Array.getElem?_eq_getElem hlt,fun e he hb=>by
    have hlti:=(hspec i _ (Array.getElem?_eq_getElem hlt) him).1 e he hb
    cases h:listed.getD e.on false
    ·have:=hmin e.on ((hmem _).2 ⟨by omega,h⟩);omega
    ·rfl⟩
   rw[hr]at this
   cases this
  ·obtain⟨hil,o,ho,hdeps⟩:=mem_ready.1 hi
   have hlt:i<ops.size:=(Array.getElem?_eq_some_iff.1 ho).1
   have hil':listed.getD i false=false:=by simpa [Array.getD,hsz,hlt] using hil
   have hreach:=zZ hok (fun i=>listed.getD i false) hcl i o ho hdeps
   have him:i<m:=by
    rcases Nat.lt_or_ge i m with h | h
    ·exact h
    ·exfalso
     obtain⟨k,hk⟩:=List.exists_mem_of_ne_nil U hne
     obtain⟨hkm,hkl⟩:=(hmem k).1 hk
     have:=hreach k (htail i hlt h k hkm)
     rw[hkl]at this;cases this
   obtain⟨_,⟨d,hd,hdsz,hduniq⟩,hlook⟩:=hspec i o ho him
   have hdst:yg ops i=some d:=by simp[yg,ho,hd]
   have hso:∀ cs b,o.op ≠ .select cs b:=fun cs b=>Region.noSelect_spec hsel i o cs b ho
   -- the two frames agree on what o looks at
   have hagree:∀ t∈o.looksAt ops,(putD ops (fun i=>listed.getD i false) x a0 m).tmps[t]? = (putS ops x a0 i).tmps[t]?:=fun t ht=>by
    by_cases hex:∃ k,k<m∧yg ops k=some t
    ·obtain⟨k,hkm,hkd⟩:=hex
     have hkR:=hlook t ht k hkm hkd
     have hki:=xt hok i hlt k hkR
     have hkl:=hreach k hkR
     have hks:k<ops.size:=by omega
     obtain⟨_,⟨d',hd',hdsz',hu'⟩,_⟩:=hspec k _ (Array.getElem?_eq_getElem hks) hkm
     have htd:d'=t:=by
      have:yg ops k=some d':=by simp[yg,Array.getElem?_eq_getElem hks,hd']
      rw[hkd]at this;injection this with this;exact this.symm
     rw[xR _ _ _ _ k hkd hkl (htd▸hdsz') m hkm (fun l hl hlk=>htd▸hu' l hl hlk)]
     unfold putS
     rw[xR _ _ _ _ k hkd rfl (htd▸hdsz') i hki (fun l hl hlk=>htd▸hu' l (by omega) hlk)]
    ·rw[xS _ _ _ _ m (fun k hk hkd=>absurd ⟨k,hk,hkd⟩ hex)]
     unfold putS
     rw[xS _ _ _ _ i (fun k hk hkd=>absurd ⟨k,by omega,hkd⟩ hex)]
   have hob':=hob x i him (listed.getD k0 false) w (fun e=>by rw[← e];exact hil') hS (fun k hk=>by
    obtain⟨hkR,hkC⟩:=je.1 hk
    refine hV k (by have:=xt hok i hlt k hkR;omega) (hreach k hkR) (fun j hj hc=>?_)
    rcases hkC j hj hc with rfl | hij
    ·exact hil'
    ·cases hjl:listed.getD j false
     ·rfl
     ·have hjs:j<ops.size:=by omega
      have:=zZ hok (fun i=>listed.getD i false) hcl j _ (Array.getElem?_eq_getElem hjs) (hcl j _ (Array.getElem?_eq_getElem hjs) hjl) i hij
      rw[hil']at this;cases this)
   have hsz1:=xr (ops:=ops) (fun _=>true) x a0 i
   -- what comes behind
   have next:∀ v w',((V x).getD i VAny).p v w'→StepR C (Rel i) i w w'→wpAny P .any ops Q (ops.size-m+c) (listed.setIfInBounds i true) ((putD ops (fun i=>listed.getD i false) x a0 m).put (some d) v) w':=fun v w' hv hb=>by
    have hput:=uN (ops:=ops) (fun k=>listed.getD k false) (fun k=>(listed.setIfInBounds i true).getD k false) x (fun k=>if k=i then v else x k) a0 i hil'
     (by simp[hsz,hlt]) (fun k hk=>⟨by rw[getD_set_ne _ (Ne.symm hk)],by simp[hk]⟩) m him
     (fun d' k hk hki hd'=>by rw[hdst]at hd';injection hd' with hd';exact hd'▸hduniq k hk hki)
    simp only[if_true]at hput
    rw[← hdst,hput]
    refine ih (U.erase i) _ _ _ ?_ (hnd.erase _) (fun k=>?_) (by simpa using hsz) (fun k h1 h2=>?_) (fun j oj hoj hj e he hb'=>?_) (ye1 (k0:=k0) (i:=i) (l:=listed) (by rw[hsz];exact hlt)▸hSt i _ _ _ hS hb) (fun k hk hkl hcons=>?_)
    ·rw[List.length_erase_of_mem ((hmem i).2 ⟨him,hil'⟩),hU];rfl
    ·rw[hnd.mem_erase_iff,hmem]
     by_cases hk:k=i
     ·subst hk;simp[hsz,hlt]
     ·rw[getD_set_ne _ (Ne.symm hk)];simp[hk]
    ·rw[getD_set_ne _ (by omega)];exact hun k h1 h2
    ·by_cases hji:j=i
     ·subst hji
      rw[ho]at hoj;injection hoj with hoj;subst hoj
      exact getD_set_true (hdeps e he hb')
     ·rw[getD_set_ne _ (Ne.symm hji)]at hj
      exact getD_set_true (hcl j oj hoj hj e he hb')
    ·by_cases hki:k=i
     ·subst hki
      rw[hdep _ x k (fun l hl=>by have:=xt hok k hlt l hl;simp only[show l≠k by omega,if_false])]
      simpa using hv
     ·rw[getD_set_ne _ (Ne.symm hki)]at hkl
      have hks:k<ops.size:=by omega
      have hdk:(V fun l=>if l=i then v else x l).getD k VAny=(V x).getD k VAny:=hdep _ x k (fun l hl=>by
       have hll:=zZ hok (fun i=>listed.getD i false) hcl k _ (Array.getElem?_eq_getElem hks) (hcl k _ (Array.getElem?_eq_getElem hks) hkl) l hl
       have hne:l≠i:=fun e=>by rw[e]at hll;rw[hil']at hll;cases hll
       simp only[hne,if_false])
      simp only[hki,if_false]
      rw[hdk]
      have hb0:∀ j,j<m→k∈C.getD j []→listed.getD j false=false:=fun j hj hc=>by
       have h1:=hcons j hj hc
       by_cases hji:j=i
       ·rw[hji];exact hil'
       ·rwa [getD_set_ne _ (Ne.symm hji)]at h1
      have hkC:k ∉ C.getD i []:=fun hc=>by
       have h1:=hcons i him hc
       simp[hsz,hlt]at h1
      have hiR:i ∉ R.getD k []:=fun hik=>by
       have:=zZ hok (fun i=>listed.getD i false) hcl k _ (Array.getElem?_eq_getElem hks) (hcl k _ (Array.getElem?_eq_getElem hks) hkl) i hik
       rw[hil']at this;cases this
      cases he:(C.getD i []).isEmpty
      ·replace hb:Rel i w w':=by unfold StepR at hb;rw[he]at hb;exact hb
       exact hweak i him he k hk hki hiR hkC x _ _ _ (hV k hk hkl hb0) hb
      ·replace hb:Below w.heap.size w w':=by unfold StepR at hb;rw[he]at hb;exact hb
       exact ((V x).getD k VAny).st _ _ _ (hV k hk hkl hb0) hb
   unfold wpOp at hob' ⊢
   simp only[ho]at hob' ⊢
   rw[uU hagree]
   split
   ·rename_i hw
    rw[if_pos hw]at hob'
    rcases hob' with h | ⟨_,h⟩
    case inr=>exact absurd h NoWay.lets
    refine .inl (Oper.wp_mono ?_ (ja (Q:=Q) (d:=d) (R:=fun v w'=>((V x).getD i VAny).p v w'∧StepR C (Rel i) i w w') (uB hso hagree) hd (by unfold putS;rw[hsz1.1];exact hdsz)
     (Oper.wp_mono (fun a' w' ⟨v,h1,h2,h3,h4⟩=>⟨v,h1 d hdst,by unfold putS;rw[hsz1.2];exact h2,h3,h4⟩) h)))
    rintro a' w' ⟨v,rfl,hv,hb⟩
    exact next v w' hv hb
   ·rename_i hw
    rw[if_neg hw]at hob'
    obtain⟨v,h1,_,h3,h4⟩:=hob'
    have hvu:v=undef:=by
     have:=h1 d hdst
     rw[hd]at this
     simp[Act.put,putS,hsz1.1,hdsz]at this
     exact this.symm
    rw[hd]
    exact next undef w (hvu▸h3) h4
theorem yiD {id m:Nat} {Rel:Nat→World→World→Prop} (R C:List (List Nat)) (V:(Nat→Value)→List VP) (k0:Nat) (S:Bool→World→Prop) {a0:Act} {w:World} (hm:P.follows .mixedOrders=true) (hok:yZ ops m a0.tmps.size R=true)
 (hdep:∀ x x' j,(∀ i∈R.getD j [],x i=x' i)→(V x).getD j VAny=(V x').getD j VAny) (hweak:∀ i,i<m→(C.getD i []).isEmpty=false → ∀ k,k<m→k≠i→i ∉ R.getD k []→k ∉ C.getD i [] → ∀ x v w w',((V x).getD k VAny).p v w→Rel i w w'→((V x).getD k VAny).p v w') (hS0:S false w.drew) (hSt:∀ j b w w',S b w→StepR C (Rel j) j w w'→S (b || j == k0) w') (hob:∀ x j,j<m→ObJ P ops k0 S R C Rel m V x a0 j)
 (hend:∀ x w' b,S b w'→(∀ i∈endR C m,((V x).getD i VAny).p (x i) w')→wpAny P .any ops Q (ops.size-m) (yx ops.size m) (putS ops x a0 m) w'):(Code.region id ops true).wp P Q a0 w:=by
 have hmn:=(vu hok).1
 have hf:∀ i,(Array.replicate ops.size false).getD i false=false:=fun i=>by simp[Array.getD]
 have h:=yhT (Q:=Q) hok hdep hweak hSt hob hend m (List.range m) (Array.replicate ops.size false) w.drew (fun _=>undef) (by simp) List.nodup_range (fun i=>by rw[hf];simp) (by simp) (fun i _ _=>hf i) (fun j o _ hj=>by rw[hf]at hj;cases hj) (by rw[hf];exact hS0)
  (fun i _ hi=>by rw[hf]at hi;cases hi)
 refine wp_region_any hm ?_
 rw[show ops.size-m+m=ops.size by omega,xq (ops:=ops) _ (fun _=>false) _ (fun _=>undef) a0 m (fun i _=>⟨hf i,fun _=>rfl⟩)]at h
 have e:∀ n,putD ops (fun _=>false) (fun _=>undef) a0 n=a0:=fun n=>by
  induction n with
  | zero=>rfl
  | succ n ih=>unfold putD;simpa using ih
 rw[e]at h
 exact h
def ObsJ (P:Program) (ops:Array Oper) (Q:Exit→Act→World→Prop) (k0:Nat) (S:Bool→World→Prop) (R C:List (List Nat)) (Rel:Nat→World→World→Prop) (m:Nat) (V:(Nat→Value)→List VP) (x:Nat→Value):Nat→Nat→Act→Prop
 | 0,j,a=>∀ w b,S b w→(∀ i∈endR C m,((V x).getD i VAny).p (x i) w)→wpAny P .any ops Q (ops.size-j) (yx ops.size j) a w
 | r+1,j,a=>(∀ b w,(j=k0→b=false)→S b w→(∀ i∈zW R C m j,((V x).getD i VAny).p (x i) w) →
  wpOp P ops NoWay j (fun a' w'=>∃ v,(∀ d,yg ops j=some d→a'.tmps[d]? = some v)∧a'.defers=a.defers∧((V x).getD j VAny).p v w'∧StepR C (Rel j) j w w') a w) ∧
  ObsJ P ops Q k0 S R C Rel m V x r (j+1) (a.put (yg ops j) (x j))
theorem ycr {k0:Nat} {S:Bool→World→Prop} {R C:List (List Nat)} {Rel:Nat→World→World→Prop} {m:Nat} {V:(Nat→Value)→List VP} {x:Nat→Value} {a0:Act}:∀ (r j:Nat),ObsJ P ops Q k0 S R C Rel m V x r j (putS ops x a0 j) →
 (∀ k,j≤k→k<j+r→ObJ P ops k0 S R C Rel m V x a0 k) ∧ ∀ w b,S b w→(∀ i∈endR C m,((V x).getD i VAny).p (x i) w)→wpAny P .any ops Q (ops.size-(j+r)) (yx ops.size (j+r)) (putS ops x a0 (j+r)) w:=by
 intro r
 induction r with
 | zero=>intro j h;exact⟨fun k h1 h2=>by omega,h⟩
 | succ r ih=>
  intro j h
  obtain⟨h1,h2⟩:=h
  have h2':ObsJ P ops Q k0 S R C Rel m V x r (j+1) (putS ops x a0 (j+1)):=h2
  obtain⟨h3,h4⟩:=ih (j+1) h2'
  refine⟨fun k hk1 hk2=>?_,by rw[show j+(r+1)=j+1+r by omega];exact h4⟩
  by_cases hk:k=j
  ·subst hk
   intro b w hb0 hS hV
   have h:=h1 b w hb0 hS hV
   rw[show (putS ops x a0 k).defers=a0.defers from (xr _ _ _ _).2]at h
   exact h
  ·exact h3 k (by omega) (by omega)
theorem yaB {id:Nat} (m:Nat) (Rel:Nat→World→World→Prop) (R C:List (List Nat)) (V:(Nat→Value)→List VP) (k0:Nat) (S:Bool→World→Prop) {a0:Act} {w:World} (hm:P.follows .mixedOrders=true) (hok:yZ ops m a0.tmps.size R=true)
 (hdep:∀ x x' j,(∀ i∈R.getD j [],x i=x' i)→(V x).getD j VAny=(V x').getD j VAny) (hweak:∀ i,i<m→(C.getD i []).isEmpty=false → ∀ k,k<m→k≠i→i ∉ R.getD k []→k ∉ C.getD i [] → ∀ x v w w',((V x).getD k VAny).p v w→Rel i w w'→((V x).getD k VAny).p v w') (hSt:∀ j b w w',S b w→StepR C (Rel j) j w w'→S (b || j == k0) w') (hS0:S false w.drew) (h:∀ x,ObsJ P ops Q k0 S R C Rel m V x m 0 a0):(Code.region id ops true).wp P Q a0 w:=
 yiD (m:=m) (Rel:=Rel) R C V k0 S hm hok hdep hweak hS0 hSt (fun x j hj=>(ycr m 0 (h x)).1 j (by omega) (by omega)) (fun x w' b hS hV=>by
  have:=(ycr m 0 (h x)).2 w' b hS (hV)
  rwa [Nat.zero_add]at this)
theorem yL {k0:Nat} {S:Bool→World→Prop} {R C:List (List Nat)} {Rel:Nat→World→World→Prop} {m:Nat} {V:(Nat→Value)→List VP} {x:Nat→Value} {r j:Nat} {a:Act} {o:Oper} {d:Tmp} (ho:ops[j]? = some o) (hd:o.dst=some d)
 (h:∀ b w,(j=k0→b=false)→S b w→(∀ i∈zW R C m j,((V x).getD i VAny).p (x i) w) → ∀ K:Act→World→Prop,Shut (∀ a' w' v,a'.tmps[d]? = some v→a'.defers=a.defers→((V x).getD j VAny).p v w'→StepR C (Rel j) j w w'→K a' w') →
  if Region.wanted o (yielded ops a.tmps)=true then Oper.wp P o a w K NoWay else K (a.put o.dst undef) w)
 (hr:ObsJ P ops Q k0 S R C Rel m V x r (j+1) { a with tmps:=a.tmps.setIfInBounds d (x j) }):ObsJ P ops Q k0 S R C Rel m V x (r+1) j a:=by
 have hdst:yg ops j=some d:=by simp[yg,ho,hd]
 refine⟨fun b w hb0 hS hV=>wpOp_step ho (fun K hK=>?_),by rw[hdst];exact hr⟩
 exact h b w hb0 hS hV K (fun a' w' v h1 h2 h3 h4=>hK a' w' ⟨v,fun d' hd'=>by rw[hdst]at hd';injection hd' with hd';exact hd'▸h1,h2,h3,h4⟩)
end
end Go.Proofs.YtaiegpggccdgoaaGreat
namespace Go.Proofs.YtaiegpggccdgoaaGreat
open Go Go.RowKit
theorem yay {m:Nat} {Rel:Nat→World→World→Prop} {R C:List (List Nat)} {V:(Nat→Value)→List VP} (Wk:List Nat)
 (hchk:((List.range m).all fun i=>(C.getD i []).isEmpty || (List.range m).all fun k=>k == i || (R.getD k []).contains i || (C.getD i []).contains k || Wk.contains k)=true)
 (hW:∀ k∈Wk,∀ i x v w w',((V x).getD k VAny).p v w→Rel i w w'→((V x).getD k VAny).p v w') :
 ∀ i,i<m→(C.getD i []).isEmpty=false → ∀ k,k<m→k≠i→i ∉ R.getD k []→k ∉ C.getD i [] → ∀ x v w w',((V x).getD k VAny).p v w→Rel i w w'→((V x).getD k VAny).p v w':=fun i hi he k hk hne hR hC x v w w' hp hrel=>
 z6 (Rel:=Rel i) Wk hchk (fun k hk x v w w' hp hr=>hW k hk i x v w w' hp hr) i hi he k hk hne hR hC x v w w' hp hrel
def GrB (B:Nat) (w w':World):Prop:=∃ (A:Option Addr) (n c:Nat) (us:List Value),Own w B 2 A n c us∧w.grownBy w' (Value.slice A n c).ownBlock
def RelJ (g B i6 i9:Nat) (j:Nat) (w w':World):Prop:=(j=i6∧Dr g 124 w w')∨(j=i9∧GrB B w w')
def SJ (g:Nat) (w:World) (box:Nat) (P:Int) (A:Option Addr) (n c:Nat) (xs:List Int) (b:Bool) (w':World):Prop:=
 Blk w' w.heap.size 26 #[.int .i64 0,.slice none 0 0]∧Blk w' box 26 #[.int .i64 P,.slice A n c]∧Dr g 124 w w'∧(b=false→Own w' w.heap.size 2 A n c (ints xs))
theorem SJ.step {g:Nat} {w:World} {box:Nat} {P:Int} {A:Option Addr} {n c:Nat} {xs:List Int} {i6 i9:Nat} {C:List (List Nat)} (hne:i6≠i9) (j:Nat) (b:Bool) (w1 w2:World) (h:SJ g w box P A n c xs b w1) (hb:StepR C (RelJ g w.heap.size i6 i9 j) j w1 w2):SJ g w box P A n c xs (b || j == i9) w2:=by
 obtain⟨h1,h2,h3,h4⟩:=h
 refine hb.either (fun hb=>⟨h1.below hb h1.lt,h2.below hb h2.lt,h3.then hb,fun e=>?_⟩) (fun hr=>?_)
 ·rw[Bool.or_eq_false_iff]at e
  exact (h4 e.1).below hb
 ·rcases hr with ⟨rfl,hd⟩ | ⟨rfl,A',n',c',us,ho,hg⟩
  ·refine⟨h1.dr hd (by decide),h2.dr hd (by decide),h3.trans hd,fun e=>?_⟩
   rw[Bool.or_eq_false_iff]at e
   exact (h4 e.1).dr hd (by decide)
  ·refine⟨h1.grown hg (ho.ne_blk h1 (by decide)),h2.grown hg (ho.ne_blk h2 (by decide)),h3.grown ho hg,fun e=>?_⟩
   simp at e
def VAp (B n:Nat) (xs:List Int):VP:=⟨fun v w=>∃ A c r,v=.slice A (n+1) c∧Own w B 2 A (n+1) c (ints (xs++[r])),fun _ _ _ ⟨A,c,r,e,h⟩ hb=>⟨A,c,r,e,h.below hb⟩⟩
def VNb:VP:=⟨fun v w=>∃ g r,v=.slice (some ⟨g,0,none⟩) 1 1∧Blk w g 2 #[.int .i64 r],fun _ _ _ ⟨g,r,e,h⟩ hb=>⟨g,r,e,h.below hb h.lt⟩⟩
theorem y9 {w wr:World} {g b:Nat} {T:TypeId} {P:Int} {A:Option Addr} {n c:Nat} {xs:List Int} {cs:Array Value} (k:Blk wr b 26 cs) (hb:w.heap.size≤b) (hO:Own wr w.heap.size 2 A n c (ints xs)) (hd:Dr g T w wr) :
 Own ((wr.setCell ⟨b,0,none⟩ (.int .i64 P)).setCell ⟨b,1,none⟩ (.slice A n c)) w.heap.size 2 A n c (ints xs)∧Dr g T w ((wr.setCell ⟨b,0,none⟩ (.int .i64 P)).setCell ⟨b,1,none⟩ (.slice A n c)):=
 ⟨(hO.far k (by decide) 0 _).far (k.set_ 0 (.int .i64 P)) (by decide) 1 _,(hd.setNew hb 0 _).setNew hb 1 _⟩
set_option maxHeartbeats 6400000 in
set_option maxRecDepth 8000 in
theorem yfI (g:Nat) (most:Int) (w:World) (hs:Src w g 124) (hm1:0≤most) (hm2:most≤100) :
 Calls Tryz.prog 105 #[.pointer (some ⟨g,0,none⟩),.int .i64 most] w fun e w'=>∃ (P:Int) (A:Option Addr) (n c:Nat) (xs:List Int),e=.returned (.agg #[.int .i64 P,.slice A n c])∧3≤P∧P≤13∧n≤4∧Own w' w.heap.size 2 A n c (ints xs)∧Dr g 124 w w':=by
 have hd1:=((Dr.refl hs).alloc (.cells #[.int .i64 0,.slice none 0 0] 26)).alloc (.cells #[.int .i64 3,.int .i64 5,.int .i64 7,.int .i64 11,.int .i64 13] 2)
 have k1:Blk ((w.alloc (.cells #[.int .i64 0,.slice none 0 0] 26)).alloc (.cells #[.int .i64 3,.int .i64 5,.int .i64 7,.int .i64 11,.int .i64 13] 2)) w.heap.size 26 #[.int .i64 0,.slice none 0 0]:=(Blk.new _ _ _).alloc _
 have hpk:=xJ g (w.alloc (.cells #[.int .i64 0,.slice none 0 0] 26)).heap.size [3,5,7,11,13] _ hd1.s' (Blk.new _ 2 _) (by decide) (by decide)
 have e1:(w.alloc (.cells #[.int .i64 0,.slice none 0 0] 26)).heap.size=w.heap.size+1:=by simp
 have hsz1:((w.alloc (.cells #[.int .i64 0,.slice none 0 0] 26)).alloc (.cells #[.int .i64 3,.int .i64 5,.int .i64 7,.int .i64 11,.int .i64 13] 2)).heap.size=w.heap.size+2:=by simp
 rw[e1]at hpk
 go_enter Tryz.func105,Tryz.ntmps105
 go_wp2_with fail
 refine hpk.mono ?_
 rintro e w2 ⟨p,hpm,rfl,hd2⟩
 have hp1:3≤p∧p≤13:=by simp at hpm;omega
 have hd2':=hd1.trans hd2
 have k2:=k1.dr hd2 (by decide)
 have hs2:=hd2.size
 have hd3:=(hd2'.alloc (.cells #[.int .i64 p,.slice none 0 0] 26)).alloc (.cells #[.int .i64 0,.int .i64 1,.int .i64 2,.int .i64 2,.int .i64 3,.int .i64 3,.int .i64 3,.int .i64 4] 2)
 have k3:=(k2.alloc (.cells #[.int .i64 p,.slice none 0 0] 26)).alloc (.cells #[.int .i64 0,.int .i64 1,.int .i64 2,.int .i64 2,.int .i64 3,.int .i64 3,.int .i64 3,.int .i64 4] 2)
 have kb3:=(Blk.new w2 26 #[.int .i64 p,.slice none 0 0]).alloc (.cells #[.int .i64 0,.int .i64 1,.int .i64 2,.int .i64 2,.int .i64 3,.int .i64 3,.int .i64 3,.int .i64 4] 2)
 have hpk2:=xJ g (w2.heap.size+1) [0,1,2,2,3,3,3,4] _ hd3.s' (Blk.newAt3 (w:=w2.alloc (.cells #[.int .i64 p,.slice none 0 0] 26)) (g:=w2.heap.size+1) (by simp)) (by decide) (by decide)
 have hlt2:w.heap.size<w2.heap.size:=by omega
 clear hpk hd1 k1 hd2 hd2' k2 e1 hsz1 hs2 hpm
 go_wp2_with fail
 refine hpk2.mono ?_
 rintro e w3 ⟨r,hrm,rfl,hd4⟩
 have hr1:0≤r∧r≤4:=by simp at hrm;omega
 have hd5:=hd3.trans hd4
 have k5:=k3.dr hd4 (by decide)
 have kb5:=kb3.dr hd4 (by decide)
 obtain⟨N,hN⟩:∃ N:Nat,min most r=(N:Int):=⟨(min most r).toNat,by omega⟩
 have hN4:N≤4:=by omega
 have hnx2:=fun w' (h:Src w' g 124)=>yr g 2 w' h (by omega)
 have WP:wrap64 (p-1)=p-1:=by unfold wrap64;omega
 clear hpk2 hd3 k3 kb3 hd4 hrm
 have hq:(most≤r∧most=(N:Int))∨(¬ most≤r∧r=(N:Int)):=by omega
 clear hN
 rcases hq with ⟨hmr,rfl⟩ | ⟨hmr,rfl⟩
 all_goals
  go_wp2
  go_loopw [6] (fun q wr=>∃ (j m:Nat) (A:Option Addr) (c:Nat) (xs:List Int),j+m=N∧q=.int .i64 m∧Blk wr w.heap.size 26 #[.int .i64 0,.slice none 0 0]∧Blk wr w2.heap.size 26 #[.int .i64 p,.slice A j c]∧Own wr w.heap.size 2 A j c (ints xs)∧Dr g 124 w wr) (fun q _=>(intOf q).toNat)
  case atStart=>exact⟨0,N,none,0,[],by omega,rfl,k5,kb5,World.ownsRow_nil _ _ _ _,hd5⟩
  case round=>
   obtain⟨j,m,A,c,xs,hjm,rfl,k4,k6,hO,hd⟩:=hrel
   clear k5 kb5 hd5
   cases m with
   | zero=>
    have hjN:j=N:=by omega
    subst hjN
    obtain⟨q0,q1⟩:=k6.two
    obtain⟨p0,p1⟩:=k4.two
    have f0:=k4.frozen 0
    have f1:=k4.frozen 1
    go_wp2
    first | exact bodyPost_ret (v:=.agg #[.int .i64 p,.slice A j c]) (by simp[results,Tryz.results105,go_sem,p0,p1]) rfl ⟨p,A,j,c,xs,rfl,hp1.1,hp1.2,by omega,(y9 k4 (Nat.le_refl _) hO hd).1,(y9 k4 (Nat.le_refl _) hO hd).2⟩ | exact bodyPost_ret (v:=.agg #[.int .i64 p,.slice A j c]) (by simp[results,Tryz.results105,go_sem,p0,p1]) rfl ⟨p,A,j,c,rfl,hp1.1,hp1.2,by omega,⟨xs,(y9 k4 (Nat.le_refl _) hO hd).1⟩,(y9 k4 (Nat.le_refl _) hO hd).2⟩
   | succ m=>
    have d1:decide (0<((m+1:Nat):Int))=true:=by rw[decide_eq_true_eq];omega
    have WM:wrap64 (((m+1:Nat):Int)-1)=(m:Int):=by unfold wrap64;omega
    have HO0:=Lib.hid hO
    clear hO
    go_wp2_with fail
    refine (hnx2 _ hd.s').mono ?_
    rintro e wA ⟨ra,rfl,ra1,ra2,hdA⟩
    have HO:=Lib.hid (HO0.out.dr hdA (by decide))
    have HD:=Lib.hid (hd.trans hdA)
    have k4C:=k4.dr hdA (by decide)
    have k6C:=k6.dr hdA (by decide)
    obtain⟨q0,q1⟩:=k6C.two
    clear hd hdA k4 k6 HO0
    by_cases hra:ra=0
    ·have er:(ra == 0)=true:=by simp[hra]
     clear hnx2
     go_wp2_with (at_builtin;refine yt (cutW wA w.heap.size) wA 24 2 _ _ Tryz.underlying24 yo rfl (by omega) rfl _ _ rfl A j c _ _ (HO.out.mk_ HD.out.size) (by omega) rfl rfl rfl ?_;intro A8 c8 w8 hM8 hg8 _
                  have k4a:=k4C.grown hg8 (HO.out.ne_blk k4C (by decide))
                  have k6a:=k6C.grown hg8 (HO.out.ne_blk k6C (by decide))
                  have hO3:=hM8.own_ (yv HD.out.size)
                  have hd3:=HD.out.grown HO.out hg8
                  have f8:=k6a.frozen 1
                  have f9:=k6a.cell 1
                  simp only[zA,zC,zB]at f9)
     have k4b:=k4a.far (p:=⟨w2.heap.size,1,none⟩) (show w.heap.size≠w2.heap.size by omega) (.slice A8 (j+1) c8)
     have k6b:=k6a.set_ 1 (.slice A8 (j+1) c8)
     have hO4:=hO3.far k6a (by decide) 1 (.slice A8 (j+1) c8)
     have hd4:=hd3.setNew (b:=w2.heap.size) (by omega) 1 (.slice A8 (j+1) c8)
     simp only[zD,zE,zF]at k6b
     clear k4a k6a hO3 hd3 f8 f9 hM8 hg8 k4C k6C
     go_roundw
     case rel=>exact⟨j+1,m,A8,c8,xs++[p-1],by omega,by go_num,k4b,k6b,by simpa [ints] using hO4,hd4⟩
     case measure=>simp[intOf]
    ·have er:(ra == 0)=false:=by simp[hra]
     have hO:=HO.out
     have hd:=HD.out
     have k4:=k4C
     have k6:=k6C
     clear HO HD k4C k6C hnx2
     go_wp2
     refine yaB 11 (RelJ g w.heap.size 6 9) [[],[0],[],[],[3],[3,4],[2,3,4,5],[2,3,4,5,6],[2,3,4,5,6,7],[0,1,2,3,4,5,6,7,8],[],[0,1,2,3,4,5,6,7,8,9,10]] [[],[],[],[],[],[],[99],[],[],[8],[]] (fun x=>[VIs (.pointer (some ⟨w2.heap.size,1,none⟩)),VIs (.slice A j c),VIs (.pointer (some ⟨g,0,none⟩)),VIs (.pointer (some ⟨w2.heap.size,0,none⟩)),VIs (.int .i64 (p)),VIs (.int .i64 (p-1)),VNum,VNum,VNb,VAp w.heap.size j xs,VIs (.pointer (some ⟨w2.heap.size,1,none⟩))]) 9 (SJ g w (w2.heap.size) p A j c xs) (by kernel_rfl) (by kernel_rfl) (fun x x' j hx=>by
      rcases j with _ | _ | _ | _ | _ | _ | _ | _ | _ | _ | _ | j
      ·rfl
      ·rfl
      ·rfl
      ·rfl
      ·rfl
      ·rfl
      ·rfl
      ·rfl
      ·rfl
      ·rfl
      ·rfl
      ·rfl)
      (yay [0,1,2,3,4,5,6,7,10] (by decide) (fun k hk i x v w w' hp hr=>by
       simp only[List.mem_cons,zJ,or_false]at hk
       rcases hk with rfl | rfl | rfl | rfl | rfl | rfl | rfl | rfl | rfl
       ·exact hp
       ·exact hp
       ·exact hp
       ·exact hp
       ·exact hp
       ·exact hp
       ·exact hp
       ·exact hp
       ·exact hp)) (SJ.step (by decide)) (⟨k4.drew,k6.drew,hd.then zG.drew,fun _=>hO.below zG.drew⟩) (fun x=>?_)
     refine yL (Eq.trans (by simp only[zA,zC];exact rfl) rfl) rfl (fun b w' hb0 hS hV K hK=>?_) ?_
     ·obtain⟨s1,s2,s3,s4⟩:=hS;obtain⟨q0,q1⟩:=s2.two;go_simp;exact hK.out _ _ _ rfl rfl rfl zG
     simp only[zD,zE,zF]
     refine yL (Eq.trans (by simp only[zA,zB,zC];exact rfl) rfl) rfl (fun b w' hb0 hS hV K hK=>?_) ?_
     ·have e0:=zQ hV 0;obtain⟨s1,s2,s3,s4⟩:=hS;obtain⟨q0,q1⟩:=s2.two;go_simp;exact hK.out _ _ _ rfl rfl rfl zG
     simp only[zD,zE,zF]
     refine yL (Eq.trans (by simp only[zA,zB,zC];exact rfl) rfl) rfl (fun b w' hb0 hS hV K hK=>?_) ?_
     ·obtain⟨s1,s2,s3,s4⟩:=hS;obtain⟨q0,q1⟩:=s2.two;go_simp;exact hK.out _ _ _ rfl rfl rfl zG
     simp only[zD,zE,zF]
     refine yL (Eq.trans (by simp only[zA,zB,zC];exact rfl) rfl) rfl (fun b w' hb0 hS hV K hK=>?_) ?_
     ·obtain⟨s1,s2,s3,s4⟩:=hS;obtain⟨q0,q1⟩:=s2.two;go_simp;exact hK.out _ _ _ rfl rfl rfl zG
     simp only[zD,zE,zF]
     refine yL (Eq.trans (by simp only[zA,zB,zC];exact rfl) rfl) rfl (fun b w' hb0 hS hV K hK=>?_) ?_
     ·have e3:=zQ hV 3;obtain⟨s1,s2,s3,s4⟩:=hS;obtain⟨q0,q1⟩:=s2.two;go_simp;exact hK.out _ _ _ rfl rfl rfl zG
     simp only[zD,zE,zF]
     refine yL (Eq.trans (by simp only[zA,zB,zC];exact rfl) rfl) rfl (fun b w' hb0 hS hV K hK=>?_) ?_
     ·have e4:=zQ hV 4;obtain⟨s1,s2,s3,s4⟩:=hS;obtain⟨q0,q1⟩:=s2.two;go_simp;exact hK.out _ _ _ rfl rfl (by first | rfl | exact congrArg (Value.int .i64) WP | exact congrArg (Value.int .i64) (yi _ (by omega) (by omega))) zG
     simp only[zD,zE,zF]
     refine yL (Eq.trans (by simp only[zA,zB,zC];exact rfl) rfl) rfl (fun b w' hb0 hS hV K hK=>?_) ?_
     ·have e2:=zQ hV 2;have e5:=zQ hV 5;obtain⟨s1,s2,s3,s4⟩:=hS;obtain⟨q0,q1⟩:=s2.two;go_simp;refine (yr g (p-1) w' s3.s' (by omega)).mono ?_;rintro e v1 ⟨r1,rfl,_,_,hr⟩;exact hK.out _ _ _ rfl rfl ⟨_,rfl⟩ (.inl ⟨rfl,hr⟩)
     simp only[zD,zE,zF]
     refine yL (Eq.trans (by simp only[zA,zB,zC];exact rfl) rfl) rfl (fun b w' hb0 hS hV K hK=>?_) ?_
     ·obtain⟨rv6,e6⟩:=hV 6 (by decide);obtain⟨s1,s2,s3,s4⟩:=hS;obtain⟨q0,q1⟩:=s2.two;go_simp;exact hK.out _ _ _ rfl rfl ⟨_,rfl⟩ zG
     simp only[zD,zE,zF]
     refine yL (Eq.trans (by simp only[zA,zB,zC];exact rfl) rfl) rfl (fun b w' hb0 hS hV K hK=>?_) ?_
     ·obtain⟨rv6,e6⟩:=hV 6 (by decide);obtain⟨rv7,e7⟩:=hV 7 (by decide);obtain⟨s1,s2,s3,s4⟩:=hS;obtain⟨q0,q1⟩:=s2.two;go_simp;exact hK.out _ _ _ rfl rfl ⟨_,_,rfl,Blk.new _ _ _⟩ (zG.alloc (Nat.le_refl _) _)
     simp only[zD,zE,zF]
     refine yL (Eq.trans (by simp only[zA,zB,zC];exact rfl) rfl) rfl (fun b w' hb0 hS hV K hK=>?_) ?_
     ·have e1:=zQ hV 1;obtain⟨rv6,e6⟩:=hV 6 (by decide);obtain⟨rv7,e7⟩:=hV 7 (by decide);obtain⟨G8,rw8,e8,b8⟩:=hV 8 (by decide);obtain⟨s1,s2,s3,s4⟩:=hS;obtain⟨q0,q1⟩:=s2.two;refine q8 (cutW w' w.heap.size) w' 24 2 _ _ Tryz.underlying24 yo rfl (by omega) _ _ rfl A j c _ _ ((s4 (hb0 rfl)).mk_ s3.size) (by omega) rfl G8 b8 e1 e8 ?_;intro A8 c8 w8 hM8 hg8;exact hK.out _ _ _ rfl rfl ⟨A8,c8,rw8,rfl,by have:=hM8.own_ (yv s3.size);simpa [ints] using this⟩ (.inr ⟨rfl,_,_,_,_,s4 (hb0 rfl),hg8⟩)
     simp only[zD,zE,zF]
     refine yL (Eq.trans (by simp only[zA,zB,zC];exact rfl) rfl) rfl (fun b w' hb0 hS hV K hK=>?_) ?_
     ·obtain⟨s1,s2,s3,s4⟩:=hS;obtain⟨q0,q1⟩:=s2.two;go_simp;exact hK.out _ _ _ rfl rfl rfl zG
     simp only[zD,zE,zF]
     refine fun w' bb hS hV=>?_
     have e0:=zQ hV 0
     have e1:=zQ hV 1
     have e2:=zQ hV 2
     have e3:=zQ hV 3
     have e4:=zQ hV 4
     have e5:=zQ hV 5
     obtain⟨rv6,e6⟩:=hV 6 (by decide)
     obtain⟨rv7,e7⟩:=hV 7 (by decide)
     obtain⟨A9,c9,rw9,e9,o9⟩:=hV 9 (by decide)
     have e10:=zQ hV 10
     simp only[e0,e1,e2,e3,e4,e5,e6,e7,e9,e10]
     clear e0 e1 e2 e3 e4 e5 e6 e7 e9 e10
     obtain⟨k47,k67,hd7, -⟩:=hS
     have f8:=k67.frozen 1
     obtain⟨t0,t1⟩:=k67.two
     refine yK (j:=11) (by kernel_rfl) (Eq.trans (by simp only[zA,zB,zC];exact rfl) rfl) (fun K hK=>?_)
     go_simp
     refine hK.out _ _ (wpAny_done (by kernel_rfl) ?_ _)
     have k4b:=k47.far (p:=⟨w2.heap.size,1,none⟩) (show w.heap.size≠w2.heap.size by omega) (.slice A9 (j+1) c9)
     have k6b:=k67.set_ 1 (.slice A9 (j+1) c9)
     have hO4:=o9.far k67 (by decide) 1 (.slice A9 (j+1) c9)
     have hd4:=hd7.setNew (b:=w2.heap.size) (by omega) 1 (.slice A9 (j+1) c9)
     simp only[zD,zE,zF]at k6b
     clear k47 k67 hd7 f8 t0 t1
     go_wp2
     go_roundw
     case rel=>exact⟨j+1,m,A9,c9,xs++[rw9],by omega,by go_num,k4b,k6b,hO4,hd4⟩
     case measure=>simp[intOf]
set_option maxHeartbeats 6400000 in
set_option maxRecDepth 8000 in
theorem j3 (g:Nat) (most:Int) (w:World) (hs:Src w g 124) (hm1:0≤most) (hm2:most≤100) :
 Calls Tryz.prog 45 #[.pointer (some ⟨g,0,none⟩),.int .i64 most] w fun e w'=>∃ (P:Int) (A:Option Addr) (n c:Nat) (xs:List Int),e=.returned (.agg #[.int .i64 P,.slice A n c])∧0≤P∧P≤17∧n≤5∧Own w' w.heap.size 2 A n c (ints xs)∧Dr g 124 w w':=by
 have hd1:=(Dr.refl hs).alloc (.cells #[.int .i64 0,.slice none 0 0] 26)
 have k1:Blk (w.alloc (.cells #[.int .i64 0,.slice none 0 0] 26)) w.heap.size 26 #[.int .i64 0,.slice none 0 0]:=Blk.new _ _ _
 have hdr:=yfI g most (w.alloc (.cells #[.int .i64 0,.slice none 0 0] 26)) hd1.s' hm1 hm2
 have hsw:(w.alloc (.cells #[.int .i64 0,.slice none 0 0] 26)).heap.size=w.heap.size+1:=by simp
 go_enter Tryz.func45,Tryz.ntmps45
 go_wp2_with fail
 refine hdr.mono ?_
 rintro e w2 ⟨P,A,n,c,xs,rfl,hP1,hP2,hn2,hO,hd2⟩
 have hs2:=hd2.size
 have hlt2:w.heap.size<w2.heap.size:=by omega
 have hd3:=(hd1.trans hd2).alloc (.cells #[.int .i64 P,.slice A n c] 26)
 have k3:=(k1.dr hd2 (by decide)).alloc (.cells #[.int .i64 P,.slice A n c] 26)
 have kb3:Blk (w2.alloc (.cells #[.int .i64 P,.slice A n c] 26)) w2.heap.size 26 #[.int .i64 P,.slice A n c]:=Blk.new _ _ _
 have hO3:=(hO.base (B':=w.heap.size) (by omega)).below (zG.alloc (Nat.le_refl _) (.cells #[.int .i64 P,.slice A n c] 26))
 have hnx:=yr g 30 _ hd3.s' (by omega)
 clear hdr hd1 k1 hsw hd2 hs2 hO
 go_wp2_with fail
 refine hnx.mono ?_
 rintro e w3 ⟨r,rfl,hr1,hr2,hd4⟩
 have hd:=hd3.trans hd4
 have k4:=k3.dr hd4 (by decide)
 have k6:=kb3.dr hd4 (by decide)
 have hO:=hO3.dr hd4 (by decide)
 clear hnx hd3 k3 kb3 hO3 hd4
 by_cases h0:r=0
 ·have e0:(r == 0)=true:=by simp[h0]
  obtain⟨q0,q1⟩:=k6.two
  have hd6:=(Dr.refl hd.s').alloc (.cells #[.int .i64 2,.int .i64 9,.int .i64 17,.int .i64 0] 2)
  have hpk:=xJ g w3.heap.size [2,9,17,0] _ hd6.s' (Blk.new w3 2 _) (by decide) (by decide)
  go_wp2_with fail
  refine hpk.mono ?_
  rintro e w4 ⟨P2,hP,rfl,hd7⟩
  have hP3:0≤P2∧P2≤17:=by simp at hP;omega
  have hd67:=hd6.trans hd7
  have k7:=k4.dr hd67 (by decide)
  have kb7:=k6.dr hd67 (by decide)
  have hO7:=hO.dr hd67 (by decide)
  have hd8:=hd.trans hd67
  have g0:=kb7.frozen 0
  have g1:=kb7.cell 0
  have g2:=kb7.cell 1
  simp only[zA,zC,zB]at g1 g2
  have k8:=k7.far (p:=⟨w2.heap.size,0,none⟩) (show w.heap.size≠w2.heap.size by omega) (.int .i64 P2)
  have hO8:=hO7.far kb7 (by decide) 0 (.int .i64 P2)
  have hd9:=hd8.setNew (b:=w2.heap.size) (by omega) 0 (.int .i64 P2)
  obtain⟨p0,p1⟩:=k7.two
  have f0:=k7.frozen 0
  have f1:=k7.frozen 1
  clear hpk hd6 hd7 hd67 k4 k6 hO hd q0 q1 hP
  go_wp2
  obtain⟨w5,hw5⟩:∃ W,W=w4.setCell ⟨w2.heap.size,0,none⟩ (.int .i64 P2):=⟨_,rfl⟩
  rw[← hw5]at k8 hO8 hd9 ⊢
  obtain⟨p0,p1⟩:=k8.two
  first | exact bodyPost_ret (v:=.agg #[.int .i64 P2,.slice A n c]) (by simp[results,Tryz.results45,go_sem,p0,p1]) rfl ⟨P2,A,n,c,xs,rfl,by omega,by omega,by omega,(y9 k8 (Nat.le_refl _) hO8 hd9).1,(y9 k8 (Nat.le_refl _) hO8 hd9).2⟩ | exact bodyPost_ret (v:=.agg #[.int .i64 P2,.slice A n c]) (by simp[results,Tryz.results45,go_sem,p0,p1]) rfl ⟨P2,A,n,c,rfl,by omega,by omega,by omega,⟨xs,(y9 k8 (Nat.le_refl _) hO8 hd9).1⟩,(y9 k8 (Nat.le_refl _) hO8 hd9).2⟩
 ·have e0:(r == 0)=false:=by simp[h0]
  by_cases h1:r=1
  ·have e1:(r == 1)=true:=by simp[h1]
   obtain⟨q0,q1⟩:=k6.two
   go_wp2
   refine yaB 10 (RelJ g w.heap.size 6 8) [[],[0],[],[],[3],[3,4],[2,3,4,5],[2,3,4,5,6],[0,1,2,3,4,5,6,7],[],[0,1,2,3,4,5,6,7,8,9]] [[],[],[],[],[],[],[5],[],[5,7],[]] (fun x=>[VIs (.pointer (some ⟨w2.heap.size,1,none⟩)),VIs (.slice A n c),VIs (.pointer (some ⟨g,0,none⟩)),VIs (.pointer (some ⟨w2.heap.size,0,none⟩)),VIs (.int .i64 (P)),VBs 2 #[.int .i64 0,.int .i64 P],VNum,VNb,VAp w.heap.size n xs,VIs (.pointer (some ⟨w2.heap.size,1,none⟩))]) 8 (SJ g w (w2.heap.size) P A n c xs) (by kernel_rfl) (by kernel_rfl) (fun x x' j hx=>by
    rcases j with _ | _ | _ | _ | _ | _ | _ | _ | _ | _ | j
    ·rfl
    ·rfl
    ·rfl
    ·rfl
    ·rfl
    ·rfl
    ·rfl
    ·rfl
    ·rfl
    ·rfl
    ·rfl)
    (yay [0,1,2,3,4,6,9] (by decide) (fun k hk i x v w w' hp hr=>by
     simp only[List.mem_cons,zJ,or_false]at hk
     rcases hk with rfl | rfl | rfl | rfl | rfl | rfl | rfl
     ·exact hp
     ·exact hp
     ·exact hp
     ·exact hp
     ·exact hp
     ·exact hp
     ·exact hp)) (SJ.step (by decide)) (⟨k4.drew,k6.drew,hd.then zG.drew,fun _=>hO.below zG.drew⟩) (fun x=>?_)
   refine yL (Eq.trans (by simp only[zA,zC];exact rfl) rfl) rfl (fun b w' hb0 hS hV K hK=>?_) ?_
   ·obtain⟨s1,s2,s3,s4⟩:=hS;obtain⟨q0,q1⟩:=s2.two;go_simp;exact hK.out _ _ _ rfl rfl rfl zG
   simp only[zD,zE,zF]
   refine yL (Eq.trans (by simp only[zA,zB,zC];exact rfl) rfl) rfl (fun b w' hb0 hS hV K hK=>?_) ?_
   ·have e0:=zQ hV 0;obtain⟨s1,s2,s3,s4⟩:=hS;obtain⟨q0,q1⟩:=s2.two;go_simp;exact hK.out _ _ _ rfl rfl rfl zG
   simp only[zD,zE,zF]
   refine yL (Eq.trans (by simp only[zA,zB,zC];exact rfl) rfl) rfl (fun b w' hb0 hS hV K hK=>?_) ?_
   ·obtain⟨s1,s2,s3,s4⟩:=hS;obtain⟨q0,q1⟩:=s2.two;go_simp;exact hK.out _ _ _ rfl rfl rfl zG
   simp only[zD,zE,zF]
   refine yL (Eq.trans (by simp only[zA,zB,zC];exact rfl) rfl) rfl (fun b w' hb0 hS hV K hK=>?_) ?_
   ·obtain⟨s1,s2,s3,s4⟩:=hS;obtain⟨q0,q1⟩:=s2.two;go_simp;exact hK.out _ _ _ rfl rfl rfl zG
   simp only[zD,zE,zF]
   refine yL (Eq.trans (by simp only[zA,zB,zC];exact rfl) rfl) rfl (fun b w' hb0 hS hV K hK=>?_) ?_
   ·have e3:=zQ hV 3;obtain⟨s1,s2,s3,s4⟩:=hS;obtain⟨q0,q1⟩:=s2.two;go_simp;exact hK.out _ _ _ rfl rfl rfl zG
   simp only[zD,zE,zF]
   refine yL (Eq.trans (by simp only[zA,zB,zC];exact rfl) rfl) rfl (fun b w' hb0 hS hV K hK=>?_) ?_
   ·have e4:=zQ hV 4;obtain⟨s1,s2,s3,s4⟩:=hS;obtain⟨q0,q1⟩:=s2.two;go_simp;exact hK.out _ _ _ rfl rfl ⟨_,rfl,Blk.new _ _ _⟩ (zG.alloc (Nat.le_refl _) _)
   simp only[zD,zE,zF]
   refine yL (Eq.trans (by simp only[zA,zB,zC];exact rfl) rfl) rfl (fun b w' hb0 hS hV K hK=>?_) ?_
   ·have e2:=zQ hV 2;obtain⟨G5,e5,b5⟩:=hV 5 (by decide);obtain⟨s1,s2,s3,s4⟩:=hS;obtain⟨q0,q1⟩:=s2.two;go_simp;refine (xJ g G5 [0,P] _ s3.s' (by rw[vE];exact b5) (by simp) (by simp)).mono ?_;rintro e v1 ⟨r1,_,rfl,hr⟩;exact hK.out _ _ _ rfl rfl ⟨_,rfl⟩ (.inl ⟨rfl,hr⟩)
   simp only[zD,zE,zF]
   refine yL (Eq.trans (by simp only[zA,zB,zC];exact rfl) rfl) rfl (fun b w' hb0 hS hV K hK=>?_) ?_
   ·obtain⟨rv6,e6⟩:=hV 6 (by decide);obtain⟨s1,s2,s3,s4⟩:=hS;obtain⟨q0,q1⟩:=s2.two;go_simp;exact hK.out _ _ _ rfl rfl ⟨_,_,rfl,Blk.new _ _ _⟩ (zG.alloc (Nat.le_refl _) _)
   simp only[zD,zE,zF]
   refine yL (Eq.trans (by simp only[zA,zB,zC];exact rfl) rfl) rfl (fun b w' hb0 hS hV K hK=>?_) ?_
   ·have e1:=zQ hV 1;obtain⟨rv6,e6⟩:=hV 6 (by decide);obtain⟨G7,rw7,e7,b7⟩:=hV 7 (by decide);obtain⟨s1,s2,s3,s4⟩:=hS;obtain⟨q0,q1⟩:=s2.two;refine q8 (cutW w' w.heap.size) w' 24 2 _ _ Tryz.underlying24 yo rfl (by omega) _ _ rfl A n c _ _ ((s4 (hb0 rfl)).mk_ s3.size) (by omega) rfl G7 b7 e1 e7 ?_;intro A8 c8 w8 hM8 hg8;exact hK.out _ _ _ rfl rfl ⟨A8,c8,rw7,rfl,by have:=hM8.own_ (yv s3.size);simpa [ints] using this⟩ (.inr ⟨rfl,_,_,_,_,s4 (hb0 rfl),hg8⟩)
   simp only[zD,zE,zF]
   refine yL (Eq.trans (by simp only[zA,zB,zC];exact rfl) rfl) rfl (fun b w' hb0 hS hV K hK=>?_) ?_
   ·obtain⟨s1,s2,s3,s4⟩:=hS;obtain⟨q0,q1⟩:=s2.two;go_simp;exact hK.out _ _ _ rfl rfl rfl zG
   simp only[zD,zE,zF]
   refine fun w' bb hS hV=>?_
   have e0:=zQ hV 0
   have e1:=zQ hV 1
   have e2:=zQ hV 2
   have e3:=zQ hV 3
   have e4:=zQ hV 4
   obtain⟨rv6,e6⟩:=hV 6 (by decide)
   obtain⟨A8,c8,rw8,e8,o8⟩:=hV 8 (by decide)
   have e9:=zQ hV 9
   simp only[e0,e1,e2,e3,e4,e6,e8,e9]
   clear e0 e1 e2 e3 e4 e6 e8 e9
   obtain⟨k47,k67,hd7, -⟩:=hS
   have f8:=k67.frozen 1
   obtain⟨t0,t1⟩:=k67.two
   refine yK (j:=10) (by kernel_rfl) (Eq.trans (by simp only[zA,zB,zC];exact rfl) rfl) (fun K hK=>?_)
   go_simp
   refine hK.out _ _ (wpAny_done (by kernel_rfl) ?_ _)
   have k4b:=k47.far (p:=⟨w2.heap.size,1,none⟩) (show w.heap.size≠w2.heap.size by omega) (.slice A8 (n+1) c8)
   have k6b:=k67.set_ 1 (.slice A8 (n+1) c8)
   have hO4:=o8.far k67 (by decide) 1 (.slice A8 (n+1) c8)
   have hd4:=hd7.setNew (b:=w2.heap.size) (by omega) 1 (.slice A8 (n+1) c8)
   simp only[zD,zE,zF]at k6b
   clear k47 k67 hd7 f8 t0 t1
   obtain⟨p0,p1⟩:=k4b.two
   have f0:=k4b.frozen 0
   have f1:=k4b.frozen 1
   obtain⟨t2,t3⟩:=k6b.two
   go_wp2
   first | exact bodyPost_ret (v:=.agg #[.int .i64 P,.slice A8 (n+1) c8]) (by simp[results,Tryz.results45,go_sem,p0,p1]) rfl ⟨P,A8,(n+1),c8,(xs++[rw8]),rfl,by omega,by omega,by omega,(y9 k4b (Nat.le_refl _) hO4 hd4).1,(y9 k4b (Nat.le_refl _) hO4 hd4).2⟩ | exact bodyPost_ret (v:=.agg #[.int .i64 P,.slice A8 (n+1) c8]) (by simp[results,Tryz.results45,go_sem,p0,p1]) rfl ⟨P,A8,(n+1),c8,rfl,by omega,by omega,by omega,⟨(xs++[rw8]),(y9 k4b (Nat.le_refl _) hO4 hd4).1⟩,(y9 k4b (Nat.le_refl _) hO4 hd4).2⟩
  ·have e1:(r == 1)=false:=by simp[h1]
   by_cases h3:r=2
   ·have e3:(r == 2)=true:=by simp[h3]
    go_wp2
    go_loopw [] (fun wr=>∃ (j:Nat) (A1:Option Addr) (c1:Nat) (xs1:List Int),j≤5∧Blk wr w.heap.size 26 #[.int .i64 0,.slice none 0 0]∧Blk wr w2.heap.size 26 #[.int .i64 P,.slice A1 j c1]∧Own wr w.heap.size 2 A1 j c1 (ints xs1)∧Dr g 124 w wr) (fun wr=>5-(match wr.cell? ⟨w2.heap.size,1,none⟩ with | some (.slice _ l _)=>l | _=>0))
    case atStart=>exact⟨n,A,c,xs,by omega,k4,k6,hO,hd⟩
    case round=>
     obtain⟨j,A1,c1,xs1,hj,k5,kb6,hO6,hd6⟩:=hrel
     clear k4 k6 hO hd
     obtain⟨q0,q1⟩:=kb6.two
     by_cases hlt:j<5
     ·have d7:decide ((j:Int)<5)=true:=by rw[decide_eq_true_eq];omega
      go_wp2_with (at_builtin;refine yt (cutW wr w.heap.size) wr 24 2 _ _ Tryz.underlying24 yo rfl (by omega) rfl _ _ rfl A1 j c1 _ _ (hO6.mk_ hd6.size) (by omega) rfl rfl rfl ?_;intro A8 c8 w8 hM8 hg8 _
                   have k4a:=k5.grown hg8 (hO6.ne_blk k5 (by decide))
                   have k6a:=kb6.grown hg8 (hO6.ne_blk kb6 (by decide))
                   have hO7:=hM8.own_ (yv hd6.size)
                   have hd7:=hd6.grown hO6 hg8
                   have f8:=k6a.frozen 1
                   obtain⟨f9,f10⟩:=k6a.two)
      have k4b:=k4a.far (p:=⟨w2.heap.size,1,none⟩) (show w.heap.size≠w2.heap.size by omega) (.slice A8 (j+1) c8)
      have k6b:=k6a.set_ 1 (.slice A8 (j+1) c8)
      have hO8:=hO7.far k6a (by decide) 1 (.slice A8 (j+1) c8)
      have hd8:=hd7.setNew (b:=w2.heap.size) (by omega) 1 (.slice A8 (j+1) c8)
      simp only[zD,zE,zF]at k6b
      have hm2:=k6b.two.2
      clear k4a k6a hO7 hd7 f8 f9 f10 hM8 hg8
      go_roundw
      case rel=>exact⟨j+1,A8,c8,xs1++[1],by omega,k4b,k6b,by simpa [ints] using hO8,hd8⟩
      case measure=>
       simp only[hm2,q1]
       show 5-(j+1)<5-j
       omega
     ·have d7:decide ((j:Int)<5)=false:=by rw[decide_eq_false_iff_not];omega
      obtain⟨p0,p1⟩:=k5.two
      have f0:=k5.frozen 0
      have f1:=k5.frozen 1
      go_wp2
      first | exact bodyPost_ret (v:=.agg #[.int .i64 P,.slice A1 j c1]) (by simp[results,Tryz.results45,go_sem,p0,p1]) rfl ⟨P,A1,j,c1,xs1,rfl,by omega,by omega,by omega,(y9 k5 (Nat.le_refl _) hO6 hd6).1,(y9 k5 (Nat.le_refl _) hO6 hd6).2⟩ | exact bodyPost_ret (v:=.agg #[.int .i64 P,.slice A1 j c1]) (by simp[results,Tryz.results45,go_sem,p0,p1]) rfl ⟨P,A1,j,c1,rfl,by omega,by omega,by omega,⟨xs1,(y9 k5 (Nat.le_refl _) hO6 hd6).1⟩,(y9 k5 (Nat.le_refl _) hO6 hd6).2⟩
   ·have e3:(r == 2)=false:=by simp[h3]
    obtain⟨p0,p1⟩:=k4.two
    have f0:=k4.frozen 0
    have f1:=k4.frozen 1
    obtain⟨q0,q1⟩:=k6.two
    go_wp2
    first | exact bodyPost_ret (v:=.agg #[.int .i64 P,.slice A n c]) (by simp[results,Tryz.results45,go_sem,p0,p1]) rfl ⟨P,A,n,c,xs,rfl,by omega,by omega,by omega,(y9 k4 (Nat.le_refl _) hO hd).1,(y9 k4 (Nat.le_refl _) hO hd).2⟩ | exact bodyPost_ret (v:=.agg #[.int .i64 P,.slice A n c]) (by simp[results,Tryz.results45,go_sem,p0,p1]) rfl ⟨P,A,n,c,rfl,by omega,by omega,by omega,⟨xs,(y9 k4 (Nat.le_refl _) hO hd).1⟩,(y9 k4 (Nat.le_refl _) hO hd).2⟩
end Go.Proofs.YtaiegpggccdgoaaGreat

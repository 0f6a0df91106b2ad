/-
  LawFnCompleteTriples: part 6 of the texts that the proof needs. No condition.
-/
import Derived.Test.YtaiegpggccdgoaaGreatK5
namespace Go.Proofs.YtaiegpggccdgoaaGreat
def xw (p:Int) (out row:List Int):List Int:=if out.getD (yn row) 0=0 then out else yp p out (yl p row (out.getD (yn row) 0)) (-1)
def y6 (p:Int) (rows:List (List Int)) (list:List Int) (k:Nat):List Int:=(rows.take k).foldl (xw p) list
def zi (p:Int) (rows:List (List Int)) (list:List Int):List Int:=y6 p rows list rows.length
theorem qO {p:Int} {rows:List (List Int)} {list:List Int} {k:Nat} (hk:k<rows.length):y6 p rows list (k+1)=xw p (y6 p rows list k) (rows.getD k []):=by
 unfold y6
 rw[List.take_succ_eq_append_getElem hk,List.foldl_append,yc [] hk];rfl
def yX (p:Int) (r:List Int) (at_:Nat) (row:List Int):List Int:=yp p row (yl p r (row.getD at_ 0)) (-1)
def plcL (p:Int) (r:List Int) (at_:Nat) (rows:List (List Int)):Nat→List (List Int) × Bool
 | 0=>([],false)
 | k+1=>if (plcL p r at_ rows k).2=false∧at_<yn (rows.getD k []) then ((plcL p r at_ rows k).1++[r]++[yX p r at_ (rows.getD k [])],true)
  else ((plcL p r at_ rows k).1++[yX p r at_ (rows.getD k [])],(plcL p r at_ rows k).2)
theorem ycA (p:Int) (r:List Int) (a:Nat) (rows:List (List Int)):∀ k,(plcL p r a rows k).1.length≤2*k
 | 0=>Nat.le_refl _
 | k+1=>by
  have ih:=ycA p r a rows k
  unfold plcL
  split<;>simp<;>omega
def newR (p:Int) (rest:List Int):List Int:=yl p rest (invF p (rest.getD (yn rest) 0))
def putL (p:Int) (rows:List (List Int)) (list:List Int):List (List Int):=
 if yn (zi p rows list)=list.length then rows
 else if (plcL p (newR p (zi p rows list)) (yn (zi p rows list)) rows rows.length).2=true then (plcL p (newR p (zi p rows list)) (yn (zi p rows list)) rows rows.length).1
 else (plcL p (newR p (zi p rows list)) (yn (zi p rows list)) rows rows.length).1++[newR p (zi p rows list)]
def zq (p:Int) (lists:List (List Int)) (k:Nat):List (List Int):=(lists.take k).foldl (putL p) []
theorem ycI {p:Int} {lists:List (List Int)} {k:Nat} (hk:k<lists.length):zq p lists (k+1)=putL p (zq p lists k) (lists.getD k []):=by
 unfold zq
 rw[List.take_succ_eq_append_getElem hk,List.foldl_append,yc [] hk];rfl
theorem ydM {p:Int} (a b c:Int):(a-(b + -1*(c%p)))%p=(a-(b-c))%p:=by
 rw[show a-(b + -1*(c%p))=a-b+c%p by omega,Int.add_emod,yM,← Int.add_emod];congr 1;omega
theorem ydN {p:Int} (a b:Int):(a-b%p)%p=(a-b)%p:=by rw[Int.sub_emod,yM,← Int.sub_emod]
theorem yhB (p:Int) (out row:List Int):(xw p out row).length=out.length:=by
 unfold xw;split
 ·rfl
 ·rw[yP]
theorem yhC {p:Int} (hp:0<p) {out:List Int} (row:List Int) (h:NumsL p out):NumsL p (xw p out row):=by
 unfold xw;split
 ·exact h
 ·exact xK hp _ _ _
theorem yak (p:Int) (rows:List (List Int)) (list:List Int) (k:Nat) (hk:k≤rows.length):(y6 p rows list k).length=list.length:=by
 induction k with
 | zero=>rfl
 | succ k ih=>rw[qO (by omega),yhB,ih (by omega)]
theorem yal {p:Int} (hp:0<p) (rows:List (List Int)) {list:List Int} (h:NumsL p list) (k:Nat) (hk:k≤rows.length):NumsL p (y6 p rows list k):=by
 induction k with
 | zero=>exact h
 | succ k ih=>rw[qO (by omega)];exact yhC hp _ (ih (by omega))
theorem ycJ (p:Int) (rows:List (List Int)) (list:List Int):(zi p rows list).length=list.length:=yak p rows list _ (Nat.le_refl _)
theorem ycK {p:Int} (hp:0<p) (rows:List (List Int)) {list:List Int} (h:NumsL p list):NumsL p (zi p rows list):=yal hp rows h _ (Nat.le_refl _)
theorem yg7 {p:Int} (hp:2≤p) {n:Nat} {B:List (List Int)} (hR:Red n B) (hT:Tab p n B) {list:List Int} (hl:list.length=n) (hn:NumsL p list) (k:Nat) (hk:k≤B.length) :
 (Sp p n B fun q=>list.getD q 0-(y6 p B list k).getD q 0) ∧ ∀ i,i<k→(y6 p B list k).getD (ld B i) 0=0:=by
 induction k with
 | zero=>exact⟨(Sp.zero p n B).congr fun q _=>by unfold y6;simp,fun i hi=>absurd hi (by omega)⟩
 | succ k ih=>
  obtain⟨i1,i2⟩:=ih (by omega)
  have hL:=yak p B list k (by omega)
  have hN:=yal (by omega) B hn k (by omega)
  have hrow:=(hT.row (show k<B.length by omega)).1
  rw[qO (by omega)]
  obtain⟨O,hO⟩:∃ O,O=y6 p B list k:=⟨_,rfl⟩
  rw[← hO]at i1 i2 hL hN ⊢
  unfold xw
  split
  ·rename_i h0
   refine⟨i1,fun i hi=>?_⟩
   by_cases hik:i=k
   ·subst hik;exact h0
   ·exact i2 i (by omega)
  ·have hat:∀ q,q<n→(yp p O (yl p (B.getD k []) (O.getD (yn (B.getD k [])) 0)) (-1)).getD q 0=(O.getD q 0 + -1*(ent B k q*O.getD (ld B k) 0%p))%p:=fun q hq=>by
    rw[zw _ _ (by omega),z4 _ (by omega)];rfl
   refine⟨?_,fun i hi=>?_⟩
   ·refine (i1.add ((Sp.row (p:=p) (n:=n) (m:=B) (show k<B.length by omega)).mul (O.getD (ld B k) 0))).congr fun q hq=>?_
    rw[hat q hq,ydN,ydM]
    rw[Int.mul_comm (ent B k q)];congr 1;omega
   ·rw[hat _ (hR.lt i (by omega))]
    by_cases hik:i=k
    ·subst hik
     rw[hR.one i (by omega),Int.one_mul,Int.emod_eq_of_lt (hN.getD (by omega) _).1 (hN.getD (by omega) _).2]
     rw[show O.getD (ld B i) 0 + -1*O.getD (ld B i) 0=0 by omega];rfl
    ·rw[hR.zero i k (by omega) (by omega) (Ne.symm hik),i2 i (by omega)];simp
theorem yhP (p:Int) (r:List Int) (a:Nat) (row:List Int):(yX p r a row).length=row.length:=yP _ _ _ _
theorem yhO {p:Int} {r row:List Int} {a q:Nat} (hq:q<row.length) (hl:r.length=row.length):(yX p r a row).getD q 0=(row.getD q 0-row.getD a 0*r.getD q 0)%p:=by
 unfold yX
 rw[zw _ _ hq,z4 _ (by omega),Int.add_emod,Int.mul_emod,yM,← Int.mul_emod,← Int.add_emod]
 congr 1;rw[Int.mul_comm (r.getD q 0)];omega
theorem ygD (p:Int) (r:List Int) (a:Nat) (B:List (List Int)) (j:Nat) (hj:j≤B.length) (h1:∀ i,i<j→yn (B.getD i [])≤a) (h2:∀ i,j≤i→i<B.length→a<yn (B.getD i [])) :
 (∀ k,k≤j→plcL p r a B k=(tab k fun i=>yX p r a (B.getD i []),false)) ∧ ∀ m,j+m+1≤B.length→plcL p r a B (j+m+1)=((tab j fun i=>yX p r a (B.getD i []))++[r]++tab (m+1) fun i=>yX p r a (B.getD (j+i) []),true):=by
 have A1:∀ k,k≤j→plcL p r a B k=(tab k fun i=>yX p r a (B.getD i []),false):=by
  intro k
  induction k with
  | zero=>intro _;rfl
  | succ k ih=>
   intro hk
   unfold plcL
   rw[ih (by omega),if_neg (fun hh=>by have:=h1 k (by omega);have:=hh.2;omega)]
   simp only[yQ]
 refine⟨A1,fun m=>?_⟩
 induction m with
 | zero=>
  intro hm
  unfold plcL
  show (if (plcL p r a B j).2=false∧a<yn (B.getD j []) then _ else _)=_
  rw[A1 j (Nat.le_refl _),if_pos ⟨rfl,h2 j (Nat.le_refl _) (by omega)⟩]
  simp only[yQ];rfl
 | succ m ih=>
  intro hm
  unfold plcL
  rw[show j+(m+1)=j+m+1 from rfl,ih (by omega),if_neg (by simp)]
  rw[yQ (n:=m+1)]
  simp only[List.append_assoc];rfl
theorem yhw (f:Nat→Nat) (a:Nat) (N:Nat) (hm:∀ i j,i<j→j<N→f i<f j) (hne:∀ i,i<N→f i≠a):∃ j,j≤N∧(∀ i,i<j→f i<a) ∧ ∀ i,j≤i→i<N→a<f i:=by
 induction N with
 | zero=>exact⟨0,Nat.le_refl _,fun i hi=>absurd hi (by omega),fun i _ hi=>absurd hi (by omega)⟩
 | succ N ih=>
  obtain⟨j,hj,h1,h2⟩:=ih (fun i j h h'=>hm i j h (by omega)) (fun i hi=>hne i (by omega))
  by_cases hjN:j=N
  ·subst hjN
   by_cases hlt:f j<a
   ·exact⟨j+1,Nat.le_refl _,fun i hi=>by
     by_cases hij:i=j
     ·subst hij;exact hlt
     ·exact h1 i (by omega),fun i h h'=>absurd h' (by omega)⟩
   ·have:=hne j (by omega)
    exact⟨j,by omega,h1,fun i h h'=>by obtain rfl:i=j:=by omega
                                       omega⟩
  ·refine⟨j,by omega,h1,fun i h h'=>?_⟩
   by_cases hiN:i=N
   ·subst hiN
    have:=h2 j (Nat.le_refl _) (by omega)
    have:=hm j i (by omega) (by omega)
    omega
   ·exact h2 i h (by omega)
def insL (s:Nat→List Int) (r:List Int) (j d:Nat):List (List Int):=(tab j s)++[r]++tab (d-j) fun i=>s (j+i)
theorem yfa (s:Nat→List Int) (r:List Int) {j d:Nat} (h:j≤d):(insL s r j d).length=d+1:=by unfold insL;simp[yG];omega
theorem ybJ {s:Nat→List Int} {r:List Int} {j d i:Nat} (h:i<j):(insL s r j d).getD i []=s i:=by
 unfold insL
 rw[List.append_assoc,jS [] _ (by rw[yG];exact h),yC h]
theorem ybH (s:Nat→List Int) (r:List Int) (j d:Nat):(insL s r j d).getD j []=r:=by
 unfold insL
 have:=qr [] (tab j s) ([r]++tab (d-j) fun i=>s (j+i)) 0
 rw[yG]at this
 rw[List.append_assoc];exact this
theorem ybI {s:Nat→List Int} {r:List Int} {j d i:Nat} (h:j≤i) (hd:i<d):(insL s r j d).getD (i+1) []=s i:=by
 unfold insL
 have:=qr [] (tab j s++[r]) (tab (d-j) fun i=>s (j+i)) (i-j)
 rw[List.length_append,yG,List.length_singleton,yC (by omega),show j+1+(i-j)=i+1 by omega,show j+(i-j)=i by omega]at this
 exact this
theorem yg0 {p:Int} (hP:isP p=true) {n:Nat} {B:List (List Int)} (hR:Red n B) (hT:Tab p n B) {list:List Int} (hl:list.length=n) (hn:NumsL p list) :
 Red n (putL p B list)∧Tab p n (putL p B list)∧InSp p n (putL p B list) (B++[list])∧InSp p n (B++[list]) (putL p B list):=by
 have hp:2≤p:=by have:=yk hP;omega
 obtain⟨s1,s2⟩:=yg7 hp hR hT hl hn B.length (Nat.le_refl _)
 have hX:=ycJ p B list
 have hN:=ycK (show 0<p by omega) B hn
 change Sp p n B (fun q=>list.getD q 0-(zi p B list).getD q 0) at s1
 change ∀ i,i<B.length→(zi p B list).getD (ld B i) 0=0 at s2
 unfold putL
 obtain⟨X,hXe⟩:∃ X,X=zi p B list:=⟨_,rfl⟩
 rw[← hXe]at s1 s2 hX hN ⊢
 have hBsub:InSp p n B (B++[list]):=InSp.of_sub fun x hx=>by simp[hx]
 have hlm:Sp p n (B++[list]) fun q=>list.getD q 0:=Sp.mem (by simp)
 have hle:=qA X
 by_cases hz:yn X=list.length
 ·rw[if_pos hz]
  refine⟨hR,hT,hBsub,InSp.append (InSp.refl _ _ _) (InSp.of_mem fun x hx=>?_)⟩
  obtain rfl:x=list:=by simpa using hx
  refine s1.congr fun q hq=>?_
  rw[uL X q (by omega)];congr 1;omega
 ·rw[if_neg hz]
  obtain⟨a,ha⟩:∃ a,a=yn X:=⟨_,rfl⟩
  have han:a<n:=by omega
  have hXa:X.getD a 0≠0:=by rw[ha];exact qz X (by omega)
  have hXb:∀ q,q<a→X.getD q 0=0:=fun q hq=>uL X q (by omega)
  have hXr:=hN.getD (show 0<p by omega) a
  obtain⟨v1,v2,v3⟩:=vU hP (show 0<X.getD a 0 by omega) hXr.2
  have hinv:X.getD a 0*invF p (X.getD a 0)%p=1:=(v3 _ (by omega) v2).2 rfl
  obtain⟨r,hr⟩:∃ r,r=newR p X:=⟨_,rfl⟩
  have hrl:r.length=n:=by rw[hr];unfold newR;rw[zR];omega
  have hrn:NumsL p r:=by rw[hr];exact zU (by omega) _ _
  have hrat:∀ q,q<n→r.getD q 0=X.getD q 0*invF p (X.getD a 0)%p:=fun q hq=>by rw[hr,ha];unfold newR;rw[z4 _ (by omega)]
  have hra:r.getD a 0=1:=by rw[hrat a han];exact hinv
  have hrb:∀ q,q<a→r.getD q 0=0:=fun q hq=>by rw[hrat q (by omega),hXb q hq];simp
  have hrz:∀ i,i<B.length→r.getD (ld B i) 0=0:=fun i hi=>by rw[hrat _ (hR.lt i hi),s2 i hi];simp
  have hne:∀ i,i<B.length→ld B i≠a:=fun i hi e=>hXa (by rw[← e];exact s2 i hi)
  obtain⟨j,hj,j1,j2⟩:=yhw (ld B) a B.length hR.mono hne
  obtain⟨q1,q2⟩:=ygD p r a B j hj (fun i hi=>Nat.le_of_lt (j1 i hi)) j2
  obtain⟨s,hs⟩:∃ s:Nat→List Int,s=fun i=>yX p r a (B.getD i []):=⟨_,rfl⟩
  have hL:(if (plcL p r a B B.length).2=true then (plcL p r a B B.length).1 else (plcL p r a B B.length).1++[r])=insL s r j B.length:=by
   unfold insL
   by_cases hjd:j=B.length
   ·rw[q1 B.length (by omega),if_neg (by simp),hjd,Nat.sub_self,hs];simp[tab]
   ·have:=q2 (B.length-j-1) (by omega)
    rw[show j+(B.length-j-1)+1=B.length by omega,show B.length-j-1+1=B.length-j by omega]at this
    rw[this,if_pos rfl,hs]
  rw[← ha,← hr,hL]
  have hBl:∀ i,i<B.length→(B.getD i []).length=n:=fun i hi=>(hT.row hi).1
  have hsl:∀ i,i<B.length→(s i).length=n:=fun i hi=>by rw[hs];exact (yhP _ _ _ _).trans (hBl i hi)
  have hsn:∀ i,i<B.length→NumsL p (s i):=fun i _=>by rw[hs];exact xK (by omega) _ _ _
  have hsq:∀ i q,i<B.length→q<n→(s i).getD q 0=(ent B i q-ent B i a*r.getD q 0)%p:=fun i q hi hq=>by
   rw[hs];exact yhO (by rw[hBl i hi];exact hq) (by rw[hBl i hi,hrl])
  have hsone:∀ i,i<B.length→(s i).getD (ld B i) 0=1:=fun i hi=>by
   rw[hsq i _ hi (hR.lt i hi),hR.one i hi,hrz i hi,Int.mul_zero];exact Int.emod_eq_of_lt (by omega) (by omega)
  have hszero:∀ i k,i<B.length→k<B.length→k≠i→(s k).getD (ld B i) 0=0:=fun i k hi hk hki=>by
   rw[hsq k _ hk (hR.lt i hi),hR.zero i k hi hk hki,hrz i hi,Int.mul_zero];rfl
  have hsa:∀ i,i<B.length→(s i).getD a 0=0:=fun i hi=>by rw[hsq i a hi han,hra,Int.mul_one,Int.sub_self];rfl
  have hsb:∀ i q,i<B.length→q<ld B i→(s i).getD q 0=0:=fun i q hi hq=>by
   have hln:=hR.lt i hi
   rw[hsq i q hi (by omega),hR.before i q hq]
   rcases Nat.lt_or_ge q a with h | h
   ·rw[hrb q h];simp
   ·rw[hR.before i a (by omega)];simp
  have hslead:∀ i,i<B.length→yn (s i)=ld B i:=fun i hi=>j8 _ _ (fun q hq=>hsb i q hi hq) (.inr ⟨by rw[hsl i hi];exact hR.lt i hi,by rw[hsone i hi];omega⟩)
  have hrlead:yn r=a:=j8 _ _ hrb (.inr ⟨by omega,by rw[hra];omega⟩)
  have hlen:=yfa s r hj
  -- the three kinds of places
  have kinds:∀ i,i<B.length+1→(i<j∧i<B.length∧(insL s r j B.length).getD i []=s i)∨(i=j∧(insL s r j B.length).getD i []=r) ∨ ∃ m,i=m+1∧j≤m∧m<B.length∧(insL s r j B.length).getD i []=s m:=fun i hi=>by
   rcases Nat.lt_trichotomy i j with h | h | h
   ·exact .inl ⟨h,by omega,ybJ h⟩
   ·exact .inr (.inl ⟨h,by rw[h];exact ybH _ _ _ _⟩)
   ·exact .inr (.inr ⟨i-1,by omega,by omega,by omega,by rw[show i=i-1+1 by omega];exact ybI (by omega) (by omega)⟩)
  obtain⟨L,hLe⟩:∃ L,L=insL s r j B.length:=⟨_,rfl⟩
  rw[← hLe]at hlen kinds ⊢
  have hmem:∀ x∈L,x=r ∨ ∃ i,i<B.length∧x=s i:=fun x hx=>by
   obtain⟨i,hi,rfl⟩:=List.getElem_of_mem hx
   rw[← yc [] hi]
   rcases kinds i (by omega) with ⟨_,h,e⟩ | ⟨_,e⟩ | ⟨m,_,_,h,e⟩
   ·exact .inr ⟨i,h,e⟩
   ·exact .inl e
   ·exact .inr ⟨m,h,e⟩
  have hTL:Tab p n L:=fun x hx=>by
   rcases hmem x hx with rfl | ⟨i,hi,rfl⟩
   ·exact⟨hrl,hrn⟩
   ·exact⟨hsl i hi,hsn i hi⟩
  have hrM:r∈L:=by rw[← ybH s r j B.length,← hLe];exact vQ [] (by omega)
  have hsM:∀ i,i<B.length→s i∈L:=fun i hi=>by
   rcases Nat.lt_or_ge i j with h | h
   ·rw[← ybJ (s:=s) (r:=r) (d:=B.length) h,← hLe];exact vQ [] (by omega)
   ·rw[← ybI (s:=s) (r:=r) h hi,← hLe];exact vQ [] (by omega)
  refine⟨⟨fun i hi=>?_,fun i hi=>?_,fun i k hi hk hki=>?_,fun i k hik hk=>?_⟩,hTL,InSp.of_mem fun x hx=>?_,InSp.append (InSp.of_mem fun x hx=>?_) (InSp.of_mem fun x hx=>?_)⟩
  ·unfold ld
   rcases kinds i (by omega) with ⟨_,h,e⟩ | ⟨_,e⟩ | ⟨m,_,_,h,e⟩
   ·rw[e,hslead i h];exact hR.lt i h
   ·rw[e,hrlead];exact han
   ·rw[e,hslead m h];exact hR.lt m h
  ·unfold ld ent
   rcases kinds i (by omega) with ⟨_,h,e⟩ | ⟨_,e⟩ | ⟨m,_,_,h,e⟩
   ·rw[e,hslead i h];exact hsone i h
   ·rw[e,hrlead];exact hra
   ·rw[e,hslead m h];exact hsone m h
  ·unfold ld ent
   rcases kinds i (by omega) with ⟨h',h,e⟩ | ⟨h',e⟩ | ⟨m,h',h'',h,e⟩
   ·rcases kinds k (by omega) with ⟨g',g,f⟩ | ⟨g',f⟩ | ⟨t,g',g'',g,f⟩
    ·rw[e,f,hslead i h];exact hszero i k h g hki
    ·rw[e,f,hslead i h];exact hrz i h
    ·rw[e,f,hslead i h];exact hszero i t h g (by omega)
   ·rcases kinds k (by omega) with ⟨g',g,f⟩ | ⟨g',f⟩ | ⟨t,g',g'',g,f⟩
    ·rw[e,f,hrlead];exact hsa k g
    ·omega
    ·rw[e,f,hrlead];exact hsa t g
   ·rcases kinds k (by omega) with ⟨g',g,f⟩ | ⟨g',f⟩ | ⟨t,g',g'',g,f⟩
    ·rw[e,f,hslead m h];exact hszero m k h g (by omega)
    ·rw[e,f,hslead m h];exact hrz m h
    ·rw[e,f,hslead m h];exact hszero m t h g (by omega)
  ·unfold ld
   rcases kinds i (by omega) with ⟨h',h,e⟩ | ⟨h',e⟩ | ⟨m,h',h'',h,e⟩
   ·rcases kinds k (by omega) with ⟨g',g,f⟩ | ⟨g',f⟩ | ⟨t,g',g'',g,f⟩
    ·rw[e,f,hslead i h,hslead k g];exact hR.mono i k hik g
    ·rw[e,f,hslead i h,hrlead];exact j1 i h'
    ·rw[e,f,hslead i h,hslead t g];exact hR.mono i t (by omega) g
   ·rcases kinds k (by omega) with ⟨g',g,f⟩ | ⟨g',f⟩ | ⟨t,g',g'',g,f⟩
    ·omega
    ·omega
    ·rw[e,f,hrlead,hslead t g];exact j2 t (by omega) g
   ·rcases kinds k (by omega) with ⟨g',g,f⟩ | ⟨g',f⟩ | ⟨t,g',g'',g,f⟩
    ·omega
    ·omega
    ·rw[e,f,hslead m h,hslead t g];exact hR.mono m t (by omega) g
  ·-- what is new is made of the old
   have hXs:Sp p n (B++[list]) fun q=>X.getD q 0:=(hlm.add ((hBsub.sp s1).mul (-1))).congr fun q _=>by congr 1;omega
   have hrs:Sp p n (B++[list]) fun q=>r.getD q 0:=(hXs.mul (invF p (X.getD a 0))).congr fun q hq=>by rw[hrat q hq,yM,Int.mul_comm]
   rcases hmem x hx with rfl | ⟨i,hi,rfl⟩
   ·exact hrs
   ·refine ((hBsub i hi).add (hrs.mul (-(ent B i a)))).congr fun q hq=>?_
    rw[hsq i q hi hq,yM];congr 1
    rw[Int.neg_mul];omega
  ·obtain⟨i,hi,rfl⟩:=List.getElem_of_mem hx
   rw[← yc [] hi]
   refine ((Sp.mem (p:=p) (n:=n) (hsM i hi)).add ((Sp.mem (p:=p) (n:=n) hrM).mul (ent B i a))).congr fun q hq=>?_
   rw[hsq i q hi hq,Int.add_emod,yM,← Int.add_emod]
   show _=ent B i q%p
   congr 1;omega
  ·obtain rfl:x=list:=by simpa using hx
   have hB2:InSp p n B L:=InSp.of_mem fun x hx=>by
    obtain⟨i,hi,rfl⟩:=List.getElem_of_mem hx
    rw[← yc [] hi]
    refine ((Sp.mem (p:=p) (n:=n) (hsM i hi)).add ((Sp.mem (p:=p) (n:=n) hrM).mul (ent B i a))).congr fun q hq=>?_
    rw[hsq i q hi hq,Int.add_emod,yM,← Int.add_emod]
    show _=ent B i q%p
    congr 1;omega
   refine ((hB2.sp s1).add ((Sp.mem (p:=p) (n:=n) hrM).mul (X.getD a 0))).congr fun q hq=>?_
   rw[hrat q hq,Int.add_emod,Int.mul_emod,yM,← Int.mul_emod,Int.mul_left_comm,Int.mul_emod (X.getD q 0),hinv,Int.mul_one,yM,← Int.add_emod]
   congr 1;omega
theorem ycH {p:Int} (hP:isP p=true) {n:Nat} {m:List (List Int)} (hT:Tab p n m) (k:Nat) (hk:k≤m.length) :
 Red n (zq p m k)∧Tab p n (zq p m k)∧InSp p n (zq p m k) (m.take k)∧InSp p n (m.take k) (zq p m k):=by
 induction k with
 | zero=>exact⟨Red.nil n,Tab.nil p n,InSp.refl _ _ _,InSp.refl _ _ _⟩
 | succ k ih=>
  obtain⟨a1,a2,a3,a4⟩:=ih (by omega)
  have hk':k<m.length:=by omega
  obtain⟨h1,h2⟩:=hT.row hk'
  obtain⟨b1,b2,b3,b4⟩:=yg0 hP a1 a2 h1 h2
  rw[ycI hk']
  refine⟨b1,b2,b3.trans ?_,InSp.trans ?_ b4⟩
  ·rw[List.take_succ_eq_append_getElem hk',← yc [] hk']
   exact InSp.append (a3.trans (InSp.of_sub fun x hx=>by simp[hx])) (InSp.of_sub fun x hx=>by simp at hx;simp[hx])
  ·rw[List.take_succ_eq_append_getElem hk',← yc [] hk']
   exact InSp.append (a4.trans (InSp.of_sub fun x hx=>by simp[hx])) (InSp.of_sub fun x hx=>by simp at hx;simp[hx])
theorem yg5 {p:Int} (hP:isP p=true) {n:Nat} {m:List (List Int)} (hT:Tab p n m):zq p m m.length=yf p m:=by
 have hp:2≤p:=by have:=yk hP;omega
 obtain⟨a1,a2,a3,a4⟩:=ycH hP hT m.length (Nat.le_refl _)
 rw[List.take_length]at a3 a4
 obtain⟨b1,b2⟩:=vN hP m hT
 exact a1.unique hp (xz hP m hT) a2 (vO (by omega) m hT) (a3.trans b2) (b1.trans a4)
end Go.Proofs.YtaiegpggccdgoaaGreat
namespace Go.Proofs.YtaiegpggccdgoaaGreat
open Go Go.RowKit
set_option maxHeartbeats 800000 in
set_option maxRecDepth 8000 in
theorem vX (A:Option Addr) (n c:Nat) (xs:List Int) (w:World) (hn:n≤1099511627776) (ha:Rd w A n (ints xs)) :
 Calls Tryz.prog 91 #[.slice A n c] w fun e w'=>e=.returned (.int .i64 (yn xs))∧w=w':=by
 have hxl:xs.length=n:=by have:=ha.1;rwa [yD]at this
 have Hx:=Lib.hid hxl;clear hxl
 go_enter Tryz.func91,Tryz.ntmps91
 go_wp2
 go_loop [3] (fun i=>∃ k:Nat,k≤n∧i=.int .i64 k∧k≤yn xs) (fun i=>n-(intOf i).toNat)
 case atStart=>exact⟨0,by omega,rfl,by omega⟩
 case round=>
  obtain⟨k,hk,rfl,ht⟩:=hrel
  have H:=Lib.hid ht;clear ht
  by_cases hlt:k<n
  ·obtain⟨g,o,rfl,hx,hcx⟩:=ha.int hlt
   clear ha
   by_cases hi:xs[k]=0
   ·have HI:=Lib.hid hi
    rw[hi]at hcx
    clear hi
    go_wp2
    go_round
    case rel=>exact⟨k+1,by omega,by go_num,yb7 H.out hx HI.out⟩
    case measure=>simp[intOf];omega
   ·have HI:=Lib.hid hi
    have e0:(xs[k] == 0)=false:=by simpa using hi
    clear hi
    go_wp2
    go_ret
    exact⟨xu (by rw[yb8 H.out hx HI.out]),rfl⟩
  ·go_wp2
   go_ret
   have:=H.out
   exact⟨xu (by rw[yb6 this (by rw[Hx.out];omega),Hx.out,show k=n by omega]),rfl⟩
theorem yaA {o:Oper} {a:Act} {K:Act→World→Prop} {Q:Exit→Act→World→Prop} (w0 w1:World)
 (s x:Operand) (ho:o.op=.call { callee:=.builtin .append,args:=#[s,x],argTypes:=#[32,32] })
 (A:Option Addr) (n c:Nat) (xss:List (List Int)) (A1:Option Addr) (m c1:Nat) (xs:List Int) (hM:MkO w0 w1 A n c xss) (hr:Own w1 0 2 A1 m c1 (ints xs)) (hn:n≤1099511627776) (g:Nat) (hB:Blk w1 g 24 #[.slice A1 m c1])
 (hs:a.eval s=.slice A n c) (hx:a.eval x=.slice (some ⟨g,0,none⟩) 1 1)
 (h:∀ A' c' w',MkO w0 w' A' (n+1) c' (xss++[xs])→w1.grownBy w' (Value.slice A n c).ownBlock→(∃ g,A'=some ⟨g,0,none⟩∧((Value.slice A n c).ownBlock=some g∨w1.heap.size≤g))→K (a.put o.dst (.slice A' (n+1) c')) w'):o.wp Tryz.prog a w1 K Q:=by
 obtain⟨rows,hm1,hl,hrow⟩:=hM
 have hml:xs.length=m:=by have:=hr.len;rwa [yD]at this
 subst hml
 obtain⟨i,hi,h1,h2,h3⟩:=info_parts zy
 obtain⟨b1,b2⟩:=xh hn
 refine wp_append_lies w1 s x 32 ho w0.heap.size 24 i (.slice none 0 0) 1 24 Tryz.underlying32 hi h1 h2 h3 rfl (by omega) (.slice A n c) n rows hs hm1.2 ⟨g,0,none⟩ 1 1 [.slice A1 xs.length c1] hx rfl (fun j v hv=>?_)
  (by intro v hv;simp at hv;rw[hv];rfl) (by omega) b1 (b2 _ (by omega)) hm1.1.size _ rfl (fun g' cap w' hown hg hat _=>h _ _ _ ⟨_,⟨hm1.1.grown hg hm1.1.size (fun k hk=>(hm1.2.lt k hk).1),hown⟩,by simp[hl],fun k hk=>?_⟩ hg ⟨g',rfl,hat.imp id (fun e=>by omega)⟩)
 ·match j,hv with
  | 0,hv=>simp at hv;subst hv;rw[Addr.add_lit];exact hB.cell 0
 ·by_cases hlt:k<xss.length
  ·obtain⟨A2,c2,e,ho2⟩:=hrow k hlt
   simp only[List.getElem_append_left hlt]
   exact⟨A2,c2,by rw[List.getElem?_append_left (by omega)];exact e,ho2.grown hg (ho2.ne hm1.2 (by decide))⟩
  ·have hk':k=xss.length:=by simp at hk;omega
   subst hk'
   simp only[List.getElem_append_right (Nat.le_refl _),Nat.sub_self,List.getElem_cons_zero]
   exact⟨A1,c1,by rw[List.getElem?_append_right (by omega),hl,Nat.sub_self];rfl,hr.grown hg (hr.ne hm1.2 (by decide))⟩
theorem MkO.owned {w0 w:World} {A:Option Addr} {n c:Nat} {xss:List (List Int)} (h:MkO w0 w A n c xss):∃ rows,Mk w0 w 24 A n c rows:=by
 obtain⟨rows,hm,_⟩:=h;exact⟨rows,hm⟩
theorem MkO.keepOwn {w0 w w':World} {A:Option Addr} {n c:Nat} {xss:List (List Int)} (h:MkO w0 w A n c xss) {R:Option Addr} {m cr:Nat} {us:List Value} (hr:Own w 0 2 R m cr us) (hg:w.grownBy w' (Value.slice A n c).ownBlock):Own w' 0 2 R m cr us:=by
 obtain⟨rows,hm⟩:=h.owned
 exact hr.grown hg (hr.ne hm.2 (by decide))
set_option maxHeartbeats 1600000 in
set_option maxRecDepth 8000 in
theorem yfR (p:Int) (A:Option Addr) (r0 c:Nat) (B:List (List Int)) (X:Option Addr) (n cx:Nat) (xs:List Int) (w:World) (hp:2≤p) (hp2:p≤13) (hn:n≤65536) (hr0:r0≤65536) (ha:RdII w A r0 B) (hT:Tab p n B) (hR:Red n B) (hx:Rd w X n (ints xs)) (hxs:NumsL p xs) :
 Calls Tryz.prog 162 #[.int .i64 p,.slice A r0 c,.slice X n cx] w fun e w'=>∃ A' c',e=.returned (.slice A' n c')∧MkI w w' A' n c' (zi p B xs):=by
 have hBl:=ha.len
 have hxl:=hx.lenI
 have HBL:=Lib.hid hBl
 have HT:=Lib.hid hT
 have HR:=Lib.hid hR
 have HF:Hid (∀ j,j≤r0→(y6 p B xs j).length=n∧NumsL p (y6 p B xs j)):=Lib.hid fun j hj=>⟨(yak p B xs j (by omega)).trans hxl,yal (by omega) B hxs j (by omega)⟩
 have HS:Hid (∀ j (h:j<B.length),y6 p B xs (j+1)=xw p (y6 p B xs j) B[j]):=Lib.hid fun j h=>by rw[qO h,yc [] h]
 have HE:Hid (zi p B xs=y6 p B xs r0):=Lib.hid (by unfold zi;rw[hBl])
 have hown:=ybS X n cx xs w hn hx
 clear hBl hxl hT hR hx hxs
 go_enter Tryz.func162,Tryz.ntmps162
 go_wp2_with fail
 refine hown.mono ?_
 rintro e w1 ⟨A1,c1,rfl,hM1⟩
 clear hown
 go_wp2
 go_loopw [7,8] (fun out i wr=>∃ (j:Nat) (A':Option Addr) (c':Nat),j≤r0∧i=.int .i64 j∧out=.slice A' n c'∧MkI w wr A' n c' (y6 p B xs j)) (fun _ i _=>r0-(intOf i).toNat)
 case atStart=>exact⟨0,_,_,by omega,rfl,rfl,hM1⟩
 case round=>
  obtain⟨j,A',c',hj,rfl,rfl,hM⟩:=hrel
  clear hM1
  by_cases hlt:j<r0
  ·obtain⟨g,o,rfl,hxj,Aj,cj,hcj,hrj,hcapj⟩:=(ha.below hM.b).at_ hlt
   obtain⟨hlj,hnj⟩:=HT.out _ (List.getElem_mem hxj)
   obtain⟨row,hrow⟩:∃ z,z=B[j]:=⟨_,rfl⟩
   have hld:yn row<n:=by have:=HR.out.lt j hxj;unfold ld at this;rw[yc [] hxj,← hrow]at this;exact this
   have HST:Hid (y6 p B xs (j+1)=xw p (y6 p B xs j) row):=Lib.hid (by rw[HS.out j hxj,hrow])
   rw[← hrow]at hcj hrj hcapj hlj hnj
   rw[hlj]at hcj hrj
   obtain⟨L,hL⟩:∃ L,L=y6 p B xs j:=⟨_,rfl⟩
   obtain⟨hLl,hLn⟩:=HF.out j hj
   rw[← hL]at hM HST hLl hLn
   obtain⟨gl,ol,rfl,hxl,hcl⟩:=hM.rd.int hld
   obtain⟨x,hxe⟩:∃ z,z=L[yn row]:=⟨_,rfl⟩
   obtain⟨x1,x2⟩:=hLn _ (List.getElem_mem hxl)
   rw[← hxe]at hcl x1 x2
   have HXE:Hid (L.getD (yn row) 0=x):=Lib.hid (by rw[hxe,yc 0 hxl])
   have HM:=Lib.hid hM
   have HRJ:=Lib.hid hrj
   have HNJ:=Lib.hid hnj
   have HLN:=Lib.hid hLn
   have hf:=vX Aj n cj row wr (by omega) hrj
   obtain⟨ld0,hld0⟩:∃ z,z=yn row:=⟨_,rfl⟩
   rw[← hld0]at hf hld hcl HXE
   have HLD:=Lib.hid hld0
   clear hM hrj hnj hLn hL hrow hxe hxl hlj hcapj ha hld0
   by_cases h0:x=0
   ·have HSTE:Hid (y6 p B xs (j+1)=L):=Lib.hid (by rw[HST.out];unfold xw;rw[← HLD.out,HXE.out,if_pos h0])
    subst h0
    clear HST x1 x2
    go_wp2_with fail
    refine hf.mono ?_
    rintro e w3 ⟨rfl,rfl⟩
    go_wp2
    go_roundw
    case rel=>exact⟨j+1,_,_,by omega,by go_num,rfl,by rw[HSTE.out];exact HM.out⟩
    case measure=>simp[intOf];omega
   ·have HSTE:Hid (y6 p B xs (j+1)=yp p L (yl p row x) (-1)):=Lib.hid (by rw[HST.out];unfold xw;rw[← HLD.out,HXE.out,if_neg h0])
    have h0b:(x == 0)=false:=by simpa using h0
    clear HST
    go_wp2_with fail
    refine hf.mono ?_
    rintro e w3 ⟨rfl,rfl⟩
    clear hf
    go_wp2_with fail
    refine (xm p x Aj n cj row _ hp hp2 hn HRJ.out HNJ.out x1 (by omega)).mono ?_
    rintro e w4 ⟨A4,c4,rfl,hM4⟩
    go_wp2_with fail
    refine (vG p _ n c' L A4 n c4 (yl p row x) w4 hp hp2 hn (Nat.le_refl _) (HM.out.below hM4.b).rd HLN.out hM4.rd (zU (by omega) _ _)).mono ?_
    rintro e w5 ⟨A5,c5,rfl,hM5⟩
    go_wp2
    go_roundw
    case rel=>exact⟨j+1,_,_,by omega,by go_num,rfl,by rw[HSTE.out];exact hM5.after ((HM.out.below hM4.b).b)⟩
    case measure=>simp[intOf];omega
  ·obtain rfl:j=r0:=by omega
   go_wp2
   go_ret
   exact⟨_,_,rfl,by rw[HE.out];exact hM⟩
set_option maxHeartbeats 6400000 in
set_option maxRecDepth 8000 in
theorem yfQ (p:Int) (w0:World) (A:Option Addr) (d c:Nat) (B:List (List Int)) (X:Option Addr) (n cx:Nat) (xs:List Int) (w:World) (HP:isP p=true) (hn:n≤65535) (hA:MkO w0 w A d c B) (hT:Tab p n B) (hR:Red n B) (hx:Rd w X n (ints xs)) (hxs:NumsL p xs) :
 Calls Tryz.prog 157 #[.int .i64 p,.slice A d c,.slice X n cx] w fun e w'=>∃ A' c',e=.returned (.slice A' (putL p B xs).length c')∧MkO w0 w' A' (putL p B xs).length c' (putL p B xs)∧Below w.heap.size w w':=by
 obtain⟨hp3,hp2⟩:=yk HP
 have hp:2≤p:=by omega
 have ha:=hA.rd
 have hBl:=ha.len
 have hd:d≤65535:=by have:=hR.len;omega
 have hxl:=hx.lenI
 have hrest:=yfR p A d c B X n cx xs w hp hp2 (by omega) (by omega) ha hT hR hx hxs
 have hRL:=(ycJ p B xs).trans hxl
 have hRN:=ycK (show 0<p by omega) B hxs
 obtain⟨Z,hZ⟩:∃ Z,Z=putL p B xs:=⟨_,rfl⟩
 rw[← hZ]
 unfold putL at hZ
 rw[hxl,hBl]at hZ
 obtain⟨R0,hR0⟩:∃ R0,R0=zi p B xs:=⟨_,rfl⟩
 rw[← hR0]at hrest hRL hRN hZ
 obtain⟨q,hq⟩:∃ q,q=yn R0:=⟨_,rfl⟩
 have hqn:q≤n:=by have:=qA R0;omega
 have HZ:=Lib.hid hZ
 have HT:=Lib.hid hT
 have HBL:=Lib.hid hBl
 have HRN:=Lib.hid hRN
 have HA:=Lib.hid hA
 have HQ:=Lib.hid hq
 clear hZ hT hBl hR hx hxs hR0 hRN hA hxl ha hq
 by_cases hqz:q=n
 ·have HZE:Hid (Z=B):=Lib.hid (by rw[HZ.out,← HQ.out,if_pos hqz])
  subst hqz
  clear HZ
  go_enter Tryz.func157,Tryz.ntmps157
  go_wp2_with fail
  refine hrest.mono ?_
  rintro e w1 ⟨A1,c1,rfl,hM1⟩
  go_wp2_with fail
  refine (vX A1 q c1 R0 w1 (by omega) hM1.rd).mono ?_
  rw[← HQ.out]
  rintro e w2 ⟨rfl,rfl⟩
  go_wp2
  go_ret
  rw[HZE.out,HBL.out]
  exact⟨_,_,rfl,HA.out.below hM1.b,hM1.b⟩
 have hqlt:q<n:=by omega
 have hne:((q:Int) == (n:Int))=false:=by simp;omega
 have hne2:¬ (q:Int)=(n:Int):=by omega
 obtain⟨a0,ha0⟩:∃ z,z=R0.getD q 0:=⟨_,rfl⟩
 have ha1:a0≠0:=by rw[ha0,HQ.out];exact qz R0 (by rw[← HQ.out];omega)
 obtain⟨ha2,ha3⟩:=HRN.out.getD (show 0<p by omega) q
 rw[← ha0]at ha2 ha3
 obtain⟨iv,hiv⟩:∃ z,z=invF p a0:=⟨_,rfl⟩
 obtain⟨v1,v2, -⟩:=vU HP (show 0<a0 by omega) ha3
 have hinv:=fun w'=>yfy p a0 w' HP (by omega) ha3
 rw[← hiv]at v1 v2 hinv
 obtain⟨r,hr⟩:∃ r,r=yl p R0 iv:=⟨_,rfl⟩
 have HRE:Hid (newR p R0=r):=Lib.hid (by rw[hr,hiv,ha0,HQ.out];rfl)
 have HRS:Hid (yl p R0 iv=r):=Lib.hid hr.symm
 have HRL:Hid (r.length=n):=Lib.hid (by rw[hr,zR];exact hRL)
 have HRN2:Hid (NumsL p r):=Lib.hid (by rw[hr];exact zU (by omega) _ _)
 have HZE:Hid (Z=if (plcL p r q B d).2=true then (plcL p r q B d).1 else (plcL p r q B d).1++[r]):=Lib.hid (by rw[HZ.out,if_neg (by rw[← HQ.out];exact hqz),HRE.out,← HQ.out])
 have HA0:=Lib.hid ha0
 clear hr hiv HP HZ ha0 hRL
 go_enter Tryz.func157,Tryz.ntmps157
 go_wp2_with fail
 refine hrest.mono ?_
 rintro e w1 ⟨A1,c1,rfl,hM1⟩
 clear hrest
 go_wp2_with fail
 refine (vX A1 n c1 R0 w1 (by omega) hM1.rd).mono ?_
 rw[← HQ.out]
 rintro e w2 ⟨rfl,rfl⟩
 obtain⟨gr,ogr,rfl,hxr,hcr⟩:=hM1.rd.int hqlt
 rw[show R0[q]=a0 by rw[HA0.out,yc 0 hxr]]at hcr
 have HM1:=Lib.hid hM1
 clear hM1
 go_wp2_with fail
 refine (hinv _).mono ?_
 rintro e w3 ⟨rfl,rfl⟩
 clear hinv
 go_wp2_with fail
 refine (xm p iv _ n c1 R0 w1 hp hp2 (by omega) HM1.out.rd HRN.out (by omega) (by omega)).mono ?_
 rw[HRS.out]
 rintro e w4 ⟨R,cr,rfl,hM4⟩
 have hB4:=HM1.out.b.trans (hM4.b.mono HM1.out.b.size)
 have HRO4:=Lib.hid (hM4.2.base (Nat.zero_le _))
 have hO4:MkO w (w4.alloc (.cells #[] 24)) (some ⟨w4.heap.size,0,none⟩) 0 0 []:=(MkII.empty hB4).o
 have HRO5:=Lib.hid (HRO4.out.below (zG.alloc (Nat.le_refl _) (.cells #[] 24)))
 have HRN:=HRN2
 clear hM4 HM1 hcr hxr HRO4 HRN2 hB4 HRS
 go_wp2
 go_loopw [9,10,11] (fun out pl i wr=>∃ (j on:Nat) (OA:Option Addr) (oc:Nat),j≤d∧i=.int .i64 j∧out=.slice OA on oc∧pl=.bool (plcL p r q B j).2∧Hid (Own wr 0 2 R n cr (ints r))∧Hid (MkO w wr OA on oc (plcL p r q B j).1)∧Hid ((plcL p r q B j).1.length=on)) (fun _ _ i _=>d-(intOf i).toNat)
 case atStart=>exact⟨0,0,_,_,by omega,rfl,rfl,rfl,HRO5,Lib.hid hO4,Lib.hid rfl⟩
 case round=>
  obtain⟨j,on,OA,oc,hj,rfl,rfl,rfl,HRO,HO,HOL⟩:=hrel
  clear hO4 HRO5
  have hon:on≤1000000:=by
   have:=HO.out.rd.len
   have h2:=ycA p r q B j
   omega
  by_cases hlt:j<d
  ·obtain⟨g,o,rfl,hxj,Aj,cj,hcjw,hrj,hcapj⟩:=HA.out.rd.at_ hlt
   obtain⟨hlj,hnj⟩:=HT.out _ (List.getElem_mem hxj)
   obtain⟨row,hrow⟩:∃ z,z=B[j]:=⟨_,rfl⟩
   have HPL:Hid (∀ b,plcL p r q B j=b→plcL p r q B (j+1)=if b.2=false∧q<yn row then (b.1++[r]++[yX p r q row],true) else (b.1++[yX p r q row],b.2)):=Lib.hid fun b hb=>by
    subst hb
    have:B.getD j []=row:=by rw[yc [] hxj,hrow]
    rw[← this];rfl
   rw[← hrow]at hcjw hrj hcapj hlj hnj
   rw[hlj]at hcjw hrj
   obtain⟨gj,oj,hAj,hxq,hcxw⟩:=hrj.int hqlt
   obtain⟨xv,hxe⟩:∃ z,z=row[q]:=⟨_,rfl⟩
   obtain⟨x1,x2⟩:=hnj _ (List.getElem_mem hxq)
   rw[← hxe]at hcxw x1 x2
   subst hAj
   have HTE:Hid (yX p r q row=yp p row (yl p r xv) (-1)):=Lib.hid (by unfold yX;rw[hxe,yc 0 hxq])
   have HRJw:=Lib.hid hrj
   have HNJ:=Lib.hid hnj
   have hf:=vX (some ⟨gj,oj,none⟩) n cj row wr (by omega) (hrj.below HO.out.b)
   have hcj:wr.cell? ⟨g,o+j,none⟩=some (.slice (some ⟨gj,oj,none⟩) n cj):=(HO.out.b.cell (World.block_lt_of_cell? _ _ hcjw)).trans hcjw
   have hcx:wr.cell? ⟨gj,oj+q,none⟩=some (.int .i64 xv):=(HO.out.b.cell (World.block_lt_of_cell? _ _ hcxw)).trans hcxw
   have HCJW:=Lib.hid hcjw
   have HCXW:=Lib.hid hcxw
   obtain⟨lr,hlr⟩:∃ z,z=yn row:=⟨_,rfl⟩
   rw[← hlr]at hf HPL
   obtain⟨pl,hpl⟩:∃ z,z=plcL p r q B j:=⟨_,rfl⟩
   rw[← hpl]at HO HOL
   have HPS0:=Lib.hid (HPL.out pl hpl.symm)
   rw[← hpl]
   clear hrj hnj hrow hxe hxq hlj hcapj hlr HPL hpl hcjw hcxw HA HZE HT HBL
   obtain⟨P1,P2⟩:=pl
   cases P2
   ·by_cases hgt:q<lr
    ·have HPS:Hid (plcL p r q B (j+1)=(P1++[r]++[yX p r q row],true)):=Lib.hid (by rw[HPS0.out,if_pos ⟨rfl,hgt⟩])
     clear HPS0
     go_wp2_with fail
     refine hf.mono ?_
     rintro e w3 ⟨rfl,rfl⟩
     clear hf
     go_wp2_with (at_builtin;refine ydg w wr rfl _ _ rfl OA on oc _ R n cr r HO.out HRO.out (by omega) rfl rfl ?_;intro A9 c9 w9 hM9 hg9 _)
     clear hcj hcx
     have hcj:w9.cell? ⟨g,o+j,none⟩=some (.slice (some ⟨gj,oj,none⟩) n cj):=(hM9.b.cell (World.block_lt_of_cell? _ _ HCJW.out)).trans HCJW.out
     have hcx:w9.cell? ⟨gj,oj+q,none⟩=some (.int .i64 xv):=(hM9.b.cell (World.block_lt_of_cell? _ _ HCXW.out)).trans HCXW.out
     have HRJ:=Lib.hid (HRJw.out.below hM9.b)
     have HRO9:=Lib.hid (HO.out.keepOwn HRO.out hg9)
     have HO9:Hid (MkO w w9 A9 (on+1) c9 (P1++[r])):=Lib.hid hM9
     have HOL9:Hid ((P1++[r]).length=on+1):=Lib.hid (by rw[List.length_append,show P1.length=on from HOL.out];rfl)
     clear HO HOL HRO hM9 hg9 HRJw HCJW HCXW
     go_wp2
     refine yh 18 [[],[],[],[],[2,3],[2,3,4],[],[],[],[7,8],[7,8,9],[],[7,8,9,10,11],[7,8,9,10,11,12],[],[6,7,8,9,10,11,12,13,14],[1,2,3,4,5,6,7,8,9,10,11,12,13,14,15],[1,2,3,4,5,6,7,8,9,10,11,12,13,14,15,16],[0,1,2,3,4,5,6,7,8,9,10,11,12,13,14,15,16,17],[0,1,2,3,4,5,6,7,8,9,10,11,12,13,14,15,16,17,18]] [VIs (.slice A9 (on+1) c9),VIs (.int .i64 (p)),VIs (.slice (some ⟨g,o,none⟩) d c),VIs (.int .i64 (j)),VIs (.pointer (some ⟨g,o+j,none⟩)),VIs (.slice (some ⟨gj,oj,none⟩) n cj),VIs (.int .i64 (p)),VIs (.slice (some ⟨g,o,none⟩) d c),VIs (.int .i64 (j)),VIs (.pointer (some ⟨g,o+j,none⟩)),VIs (.slice (some ⟨gj,oj,none⟩) n cj),VIs (.int .i64 (q)),VIs (.pointer (some ⟨gj,oj+q,none⟩)),VIs (.int .i64 (xv)),VIs (.slice R n cr),VSl w9 n (yl p r xv),VSl w9 n (yX p r q row),VNew w9 n (yX p r q row)] (fun w'=>w'.cell? ⟨g,o+j,none⟩=some (.slice (some ⟨gj,oj,none⟩) n cj)∧w'.cell? ⟨gj,oj+q,none⟩=some (.int .i64 xv)∧Below w9.heap.size w9 w') (by kernel_rfl) (by kernel_rfl) (fun _ _ h hb=>⟨(hb.cell (World.block_lt_of_cell? _ _ h.1)).trans h.1,(hb.cell (World.block_lt_of_cell? _ _ h.2.1)).trans h.2.1,h.2.2.trans (hb.mono h.2.2.size)⟩) (⟨hcj,hcx,zG.drew⟩) (fun x=>?_)
     refine zS (fun w' hS hV K hK=>?_) ?_
     ·have q1:=hS.1;have q2:=hS.2.1;go_simp;exact zO hK
     refine zS (fun w' hS hV K hK=>?_) ?_
     ·have q1:=hS.1;have q2:=hS.2.1;go_simp;exact zO hK
     refine zS (fun w' hS hV K hK=>?_) ?_
     ·have q1:=hS.1;have q2:=hS.2.1;go_simp;exact zO hK
     refine zS (fun w' hS hV K hK=>?_) ?_
     ·have q1:=hS.1;have q2:=hS.2.1;go_simp;exact zO hK
     refine zS (fun w' hS hV K hK=>?_) ?_
     ·have e2:=zQ hV 2;have e3:=zQ hV 3;have q1:=hS.1;have q2:=hS.2.1;go_simp;exact zO hK
     refine zS (fun w' hS hV K hK=>?_) ?_
     ·have e4:=zQ hV 4;have q1:=hS.1;have q2:=hS.2.1;go_simp;exact zO hK
     refine zS (fun w' hS hV K hK=>?_) ?_
     ·have q1:=hS.1;have q2:=hS.2.1;go_simp;exact zO hK
     refine zS (fun w' hS hV K hK=>?_) ?_
     ·have q1:=hS.1;have q2:=hS.2.1;go_simp;exact zO hK
     refine zS (fun w' hS hV K hK=>?_) ?_
     ·have q1:=hS.1;have q2:=hS.2.1;go_simp;exact zO hK
     refine zS (fun w' hS hV K hK=>?_) ?_
     ·have e7:=zQ hV 7;have e8:=zQ hV 8;have q1:=hS.1;have q2:=hS.2.1;go_simp;exact zO hK
     refine zS (fun w' hS hV K hK=>?_) ?_
     ·have e9:=zQ hV 9;have q1:=hS.1;have q2:=hS.2.1;go_simp;exact zO hK
     refine zS (fun w' hS hV K hK=>?_) ?_
     ·have q1:=hS.1;have q2:=hS.2.1;go_simp;exact zO hK
     refine zS (fun w' hS hV K hK=>?_) ?_
     ·have e10:=zQ hV 10;have e11:=zQ hV 11;have q1:=hS.1;have q2:=hS.2.1;go_simp;exact zO hK
     refine zS (fun w' hS hV K hK=>?_) ?_
     ·have e12:=zQ hV 12;have q1:=hS.1;have q2:=hS.2.1;go_simp;exact zO hK
     refine zS (fun w' hS hV K hK=>?_) ?_
     ·have q1:=hS.1;have q2:=hS.2.1;go_simp;exact zO hK
     refine zS (fun w' hS hV K hK=>?_) ?_
     ·have e6:=zQ hV 6;have e13:=zQ hV 13;have e14:=zQ hV 14;have q1:=hS.1;have q2:=hS.2.1;go_simp;refine (xm p xv R n cr r w' hp hp2 (by omega) (HRO9.out.rd.below hS.2.2) HRN.out x1 (by omega)).mono ?_;rintro e v1 ⟨A9,c9,rfl,hM⟩;exact hK.out _ _ _ rfl rfl ⟨_,_,rfl,hM.after hS.2.2⟩ hM.b
     refine zS (fun w' hS hV K hK=>?_) ?_
     ·have e1:=zQ hV 1;have e5:=zQ hV 5;obtain⟨A15,c15,e15,h15⟩:=hV 15 (by decide);have q1:=hS.1;have q2:=hS.2.1;go_simp;refine (vG p _ n cj row A15 n c15 (yl p r xv) w' hp hp2 (by omega) (Nat.le_refl _) (HRJ.out.below hS.2.2) HNJ.out h15.rd (zU (by omega) _ _)).mono ?_;rintro e v1 ⟨A9,c9,rfl,hM⟩;exact hK.out _ _ _ rfl rfl ⟨_,_,rfl,by rw[HTE.out];exact hM.after hS.2.2⟩ hM.b
     refine zS (fun w' hS hV K hK=>?_) ?_
     ·obtain⟨A15,c15,e15,h15⟩:=hV 15 (by decide);obtain⟨A16,c16,e16,h16⟩:=hV 16 (by decide);have q1:=hS.1;have q2:=hS.2.1;go_simp;exact hK.out _ _ _ rfl rfl ⟨_,_,_,rfl,Blk.new _ _ _,h16.below (zG.alloc (Nat.le_refl _) _)⟩ (zG.alloc (Nat.le_refl _) _)
     refine fun w' hS hV=>?_
     have e0:=zT hV 0
     have e1:=zT hV 1
     have e2:=zT hV 2
     have e3:=zT hV 3
     have e4:=zT hV 4
     have e5:=zT hV 5
     have e6:=zT hV 6
     have e7:=zT hV 7
     have e8:=zT hV 8
     have e9:=zT hV 9
     have e10:=zT hV 10
     have e11:=zT hV 11
     have e12:=zT hV 12
     have e13:=zT hV 13
     have e14:=zT hV 14
     obtain⟨A15,c15,e15,h15⟩:=hV 15 (by decide)
     obtain⟨A16,c16,e16,h16⟩:=hV 16 (by decide)
     obtain⟨g17,A17,c17,e17,b17,h17⟩:=hV 17 (by decide)
     simp only[e0,e1,e2,e3,e4,e5,e6,e7,e8,e9,e10,e11,e12,e13,e14,e15,e16,e17]
     clear e0 e1 e2 e3 e4 e5 e6 e7 e8 e9 e10 e11 e12 e13 e14 e15 e16 e17
     obtain⟨-, -,s2⟩:=hS
     refine xg (j:=18) (by kernel_rfl) (Eq.trans (by simp only[zA,zB,zC];exact rfl) rfl) rfl (fun K hK=>?_)
     refine yaA w w' _ _ rfl A9 (on+1) c9 _ A17 n c17 _ (HO9.out.below s2) (h17.2.base (Nat.zero_le _)) (by omega) g17 b17 (by rfl) (by rfl) ?_
     intro A20 c20 w20 hM20 hg20 hat20
     refine hK.out _ _ ?_
     simp only[Act.put,zD,zE,zF]
     refine yK (j:=19) (by kernel_rfl) (Eq.trans (by simp only[zA,zB,zC];exact rfl) rfl) (fun K hK=>?_)
     go_simp
     refine hK.out _ _ (wpAny_done (by kernel_rfl) ?_ _)
     have HRO2:=Lib.hid ((HO9.out.below s2).keepOwn (HRO9.out.below s2) hg20)
     clear hg20 hat20 HRO9
     go_wp2
     go_roundw
     case rel=>exact⟨j+1,(on+1)+1,A20,c20,by omega,by go_num,rfl,by rw[HPS.out],HRO2,Lib.hid (by rw[HPS.out];exact hM20),Lib.hid (by rw[HPS.out];show ((P1++[r])++[_]).length=_;rw[List.length_append,show ((P1++[r])).length=(on+1) from HOL9.out];rfl)⟩
     case measure=>simp[intOf];omega
    ·have HPS:Hid (plcL p r q B (j+1)=(P1++[yX p r q row],false)):=Lib.hid (by rw[HPS0.out,if_neg (fun h=>hgt h.2)])
     clear HPS0
     go_wp2_with fail
     refine hf.mono ?_
     rintro e w3 ⟨rfl,rfl⟩
     have HRJ:=Lib.hid (HRJw.out.below HO.out.b)
     clear hf HRJw HCJW HCXW
     go_wp2
     refine yh 18 [[],[],[],[],[2,3],[2,3,4],[],[],[],[7,8],[7,8,9],[],[7,8,9,10,11],[7,8,9,10,11,12],[],[6,7,8,9,10,11,12,13,14],[1,2,3,4,5,6,7,8,9,10,11,12,13,14,15],[1,2,3,4,5,6,7,8,9,10,11,12,13,14,15,16],[0,1,2,3,4,5,6,7,8,9,10,11,12,13,14,15,16,17],[0,1,2,3,4,5,6,7,8,9,10,11,12,13,14,15,16,17,18]] [VIs (.slice OA on oc),VIs (.int .i64 (p)),VIs (.slice (some ⟨g,o,none⟩) d c),VIs (.int .i64 (j)),VIs (.pointer (some ⟨g,o+j,none⟩)),VIs (.slice (some ⟨gj,oj,none⟩) n cj),VIs (.int .i64 (p)),VIs (.slice (some ⟨g,o,none⟩) d c),VIs (.int .i64 (j)),VIs (.pointer (some ⟨g,o+j,none⟩)),VIs (.slice (some ⟨gj,oj,none⟩) n cj),VIs (.int .i64 (q)),VIs (.pointer (some ⟨gj,oj+q,none⟩)),VIs (.int .i64 (xv)),VIs (.slice R n cr),VSl wr n (yl p r xv),VSl wr n (yX p r q row),VNew wr n (yX p r q row)] (fun w'=>w'.cell? ⟨g,o+j,none⟩=some (.slice (some ⟨gj,oj,none⟩) n cj)∧w'.cell? ⟨gj,oj+q,none⟩=some (.int .i64 xv)∧Below wr.heap.size wr w') (by kernel_rfl) (by kernel_rfl) (fun _ _ h hb=>⟨(hb.cell (World.block_lt_of_cell? _ _ h.1)).trans h.1,(hb.cell (World.block_lt_of_cell? _ _ h.2.1)).trans h.2.1,h.2.2.trans (hb.mono h.2.2.size)⟩) (⟨hcj,hcx,zG.drew⟩) (fun x=>?_)
     refine zS (fun w' hS hV K hK=>?_) ?_
     ·have q1:=hS.1;have q2:=hS.2.1;go_simp;exact zO hK
     refine zS (fun w' hS hV K hK=>?_) ?_
     ·have q1:=hS.1;have q2:=hS.2.1;go_simp;exact zO hK
     refine zS (fun w' hS hV K hK=>?_) ?_
     ·have q1:=hS.1;have q2:=hS.2.1;go_simp;exact zO hK
     refine zS (fun w' hS hV K hK=>?_) ?_
     ·have q1:=hS.1;have q2:=hS.2.1;go_simp;exact zO hK
     refine zS (fun w' hS hV K hK=>?_) ?_
     ·have e2:=zQ hV 2;have e3:=zQ hV 3;have q1:=hS.1;have q2:=hS.2.1;go_simp;exact zO hK
     refine zS (fun w' hS hV K hK=>?_) ?_
     ·have e4:=zQ hV 4;have q1:=hS.1;have q2:=hS.2.1;go_simp;exact zO hK
     refine zS (fun w' hS hV K hK=>?_) ?_
     ·have q1:=hS.1;have q2:=hS.2.1;go_simp;exact zO hK
     refine zS (fun w' hS hV K hK=>?_) ?_
     ·have q1:=hS.1;have q2:=hS.2.1;go_simp;exact zO hK
     refine zS (fun w' hS hV K hK=>?_) ?_
     ·have q1:=hS.1;have q2:=hS.2.1;go_simp;exact zO hK
     refine zS (fun w' hS hV K hK=>?_) ?_
     ·have e7:=zQ hV 7;have e8:=zQ hV 8;have q1:=hS.1;have q2:=hS.2.1;go_simp;exact zO hK
     refine zS (fun w' hS hV K hK=>?_) ?_
     ·have e9:=zQ hV 9;have q1:=hS.1;have q2:=hS.2.1;go_simp;exact zO hK
     refine zS (fun w' hS hV K hK=>?_) ?_
     ·have q1:=hS.1;have q2:=hS.2.1;go_simp;exact zO hK
     refine zS (fun w' hS hV K hK=>?_) ?_
     ·have e10:=zQ hV 10;have e11:=zQ hV 11;have q1:=hS.1;have q2:=hS.2.1;go_simp;exact zO hK
     refine zS (fun w' hS hV K hK=>?_) ?_
     ·have e12:=zQ hV 12;have q1:=hS.1;have q2:=hS.2.1;go_simp;exact zO hK
     refine zS (fun w' hS hV K hK=>?_) ?_
     ·have q1:=hS.1;have q2:=hS.2.1;go_simp;exact zO hK
     refine zS (fun w' hS hV K hK=>?_) ?_
     ·have e6:=zQ hV 6;have e13:=zQ hV 13;have e14:=zQ hV 14;have q1:=hS.1;have q2:=hS.2.1;go_simp;refine (xm p xv R n cr r w' hp hp2 (by omega) (HRO.out.rd.below hS.2.2) HRN.out x1 (by omega)).mono ?_;rintro e v1 ⟨A9,c9,rfl,hM⟩;exact hK.out _ _ _ rfl rfl ⟨_,_,rfl,hM.after hS.2.2⟩ hM.b
     refine zS (fun w' hS hV K hK=>?_) ?_
     ·have e1:=zQ hV 1;have e5:=zQ hV 5;obtain⟨A15,c15,e15,h15⟩:=hV 15 (by decide);have q1:=hS.1;have q2:=hS.2.1;go_simp;refine (vG p _ n cj row A15 n c15 (yl p r xv) w' hp hp2 (by omega) (Nat.le_refl _) (HRJ.out.below hS.2.2) HNJ.out h15.rd (zU (by omega) _ _)).mono ?_;rintro e v1 ⟨A9,c9,rfl,hM⟩;exact hK.out _ _ _ rfl rfl ⟨_,_,rfl,by rw[HTE.out];exact hM.after hS.2.2⟩ hM.b
     refine zS (fun w' hS hV K hK=>?_) ?_
     ·obtain⟨A15,c15,e15,h15⟩:=hV 15 (by decide);obtain⟨A16,c16,e16,h16⟩:=hV 16 (by decide);have q1:=hS.1;have q2:=hS.2.1;go_simp;exact hK.out _ _ _ rfl rfl ⟨_,_,_,rfl,Blk.new _ _ _,h16.below (zG.alloc (Nat.le_refl _) _)⟩ (zG.alloc (Nat.le_refl _) _)
     refine fun w' hS hV=>?_
     have e0:=zT hV 0
     have e1:=zT hV 1
     have e2:=zT hV 2
     have e3:=zT hV 3
     have e4:=zT hV 4
     have e5:=zT hV 5
     have e6:=zT hV 6
     have e7:=zT hV 7
     have e8:=zT hV 8
     have e9:=zT hV 9
     have e10:=zT hV 10
     have e11:=zT hV 11
     have e12:=zT hV 12
     have e13:=zT hV 13
     have e14:=zT hV 14
     obtain⟨A15,c15,e15,h15⟩:=hV 15 (by decide)
     obtain⟨A16,c16,e16,h16⟩:=hV 16 (by decide)
     obtain⟨g17,A17,c17,e17,b17,h17⟩:=hV 17 (by decide)
     simp only[e0,e1,e2,e3,e4,e5,e6,e7,e8,e9,e10,e11,e12,e13,e14,e15,e16,e17]
     clear e0 e1 e2 e3 e4 e5 e6 e7 e8 e9 e10 e11 e12 e13 e14 e15 e16 e17
     obtain⟨-, -,s2⟩:=hS
     refine xg (j:=18) (by kernel_rfl) (Eq.trans (by simp only[zA,zB,zC];exact rfl) rfl) rfl (fun K hK=>?_)
     refine yaA w w' _ _ rfl OA on oc _ A17 n c17 _ (HO.out.below s2) (h17.2.base (Nat.zero_le _)) (by omega) g17 b17 (by rfl) (by rfl) ?_
     intro A20 c20 w20 hM20 hg20 hat20
     refine hK.out _ _ ?_
     simp only[Act.put,zD,zE,zF]
     refine yK (j:=19) (by kernel_rfl) (Eq.trans (by simp only[zA,zB,zC];exact rfl) rfl) (fun K hK=>?_)
     go_simp
     refine hK.out _ _ (wpAny_done (by kernel_rfl) ?_ _)
     have HRO2:=Lib.hid ((HO.out.below s2).keepOwn (HRO.out.below s2) hg20)
     clear hg20 hat20 HRO
     go_wp2
     go_roundw
     case rel=>exact⟨j+1,on+1,A20,c20,by omega,by go_num,rfl,by rw[HPS.out],HRO2,Lib.hid (by rw[HPS.out];exact hM20),Lib.hid (by rw[HPS.out];show (P1++[_]).length=_;rw[List.length_append,show (P1).length=on from HOL.out];rfl)⟩
     case measure=>simp[intOf];omega
   ·have HPS:Hid (plcL p r q B (j+1)=(P1++[yX p r q row],true)):=Lib.hid (by rw[HPS0.out,if_neg (fun h=>by cases h.1)])
    have HRJ:=Lib.hid (HRJw.out.below HO.out.b)
    clear HPS0 hf HRJw HCJW HCXW
    go_wp2
    refine yh 18 [[],[],[],[],[2,3],[2,3,4],[],[],[],[7,8],[7,8,9],[],[7,8,9,10,11],[7,8,9,10,11,12],[],[6,7,8,9,10,11,12,13,14],[1,2,3,4,5,6,7,8,9,10,11,12,13,14,15],[1,2,3,4,5,6,7,8,9,10,11,12,13,14,15,16],[0,1,2,3,4,5,6,7,8,9,10,11,12,13,14,15,16,17],[0,1,2,3,4,5,6,7,8,9,10,11,12,13,14,15,16,17,18]] [VIs (.slice OA on oc),VIs (.int .i64 (p)),VIs (.slice (some ⟨g,o,none⟩) d c),VIs (.int .i64 (j)),VIs (.pointer (some ⟨g,o+j,none⟩)),VIs (.slice (some ⟨gj,oj,none⟩) n cj),VIs (.int .i64 (p)),VIs (.slice (some ⟨g,o,none⟩) d c),VIs (.int .i64 (j)),VIs (.pointer (some ⟨g,o+j,none⟩)),VIs (.slice (some ⟨gj,oj,none⟩) n cj),VIs (.int .i64 (q)),VIs (.pointer (some ⟨gj,oj+q,none⟩)),VIs (.int .i64 (xv)),VIs (.slice R n cr),VSl wr n (yl p r xv),VSl wr n (yX p r q row),VNew wr n (yX p r q row)] (fun w'=>w'.cell? ⟨g,o+j,none⟩=some (.slice (some ⟨gj,oj,none⟩) n cj)∧w'.cell? ⟨gj,oj+q,none⟩=some (.int .i64 xv)∧Below wr.heap.size wr w') (by kernel_rfl) (by kernel_rfl) (fun _ _ h hb=>⟨(hb.cell (World.block_lt_of_cell? _ _ h.1)).trans h.1,(hb.cell (World.block_lt_of_cell? _ _ h.2.1)).trans h.2.1,h.2.2.trans (hb.mono h.2.2.size)⟩) (⟨hcj,hcx,zG.drew⟩) (fun x=>?_)
    refine zS (fun w' hS hV K hK=>?_) ?_
    ·have q1:=hS.1;have q2:=hS.2.1;go_simp;exact zO hK
    refine zS (fun w' hS hV K hK=>?_) ?_
    ·have q1:=hS.1;have q2:=hS.2.1;go_simp;exact zO hK
    refine zS (fun w' hS hV K hK=>?_) ?_
    ·have q1:=hS.1;have q2:=hS.2.1;go_simp;exact zO hK
    refine zS (fun w' hS hV K hK=>?_) ?_
    ·have q1:=hS.1;have q2:=hS.2.1;go_simp;exact zO hK
    refine zS (fun w' hS hV K hK=>?_) ?_
    ·have e2:=zQ hV 2;have e3:=zQ hV 3;have q1:=hS.1;have q2:=hS.2.1;go_simp;exact zO hK
    refine zS (fun w' hS hV K hK=>?_) ?_
    ·have e4:=zQ hV 4;have q1:=hS.1;have q2:=hS.2.1;go_simp;exact zO hK
    refine zS (fun w' hS hV K hK=>?_) ?_
    ·have q1:=hS.1;have q2:=hS.2.1;go_simp;exact zO hK
    refine zS (fun w' hS hV K hK=>?_) ?_
    ·have q1:=hS.1;have q2:=hS.2.1;go_simp;exact zO hK
    refine zS (fun w' hS hV K hK=>?_) ?_
    ·have q1:=hS.1;have q2:=hS.2.1;go_simp;exact zO hK
    refine zS (fun w' hS hV K hK=>?_) ?_
    ·have e7:=zQ hV 7;have e8:=zQ hV 8;have q1:=hS.1;have q2:=hS.2.1;go_simp;exact zO hK
    refine zS (fun w' hS hV K hK=>?_) ?_
    ·have e9:=zQ hV 9;have q1:=hS.1;have q2:=hS.2.1;go_simp;exact zO hK
    refine zS (fun w' hS hV K hK=>?_) ?_
    ·have q1:=hS.1;have q2:=hS.2.1;go_simp;exact zO hK
    refine zS (fun w' hS hV K hK=>?_) ?_
    ·have e10:=zQ hV 10;have e11:=zQ hV 11;have q1:=hS.1;have q2:=hS.2.1;go_simp;exact zO hK
    refine zS (fun w' hS hV K hK=>?_) ?_
    ·have e12:=zQ hV 12;have q1:=hS.1;have q2:=hS.2.1;go_simp;exact zO hK
    refine zS (fun w' hS hV K hK=>?_) ?_
    ·have q1:=hS.1;have q2:=hS.2.1;go_simp;exact zO hK
    refine zS (fun w' hS hV K hK=>?_) ?_
    ·have e6:=zQ hV 6;have e13:=zQ hV 13;have e14:=zQ hV 14;have q1:=hS.1;have q2:=hS.2.1;go_simp;refine (xm p xv R n cr r w' hp hp2 (by omega) (HRO.out.rd.below hS.2.2) HRN.out x1 (by omega)).mono ?_;rintro e v1 ⟨A9,c9,rfl,hM⟩;exact hK.out _ _ _ rfl rfl ⟨_,_,rfl,hM.after hS.2.2⟩ hM.b
    refine zS (fun w' hS hV K hK=>?_) ?_
    ·have e1:=zQ hV 1;have e5:=zQ hV 5;obtain⟨A15,c15,e15,h15⟩:=hV 15 (by decide);have q1:=hS.1;have q2:=hS.2.1;go_simp;refine (vG p _ n cj row A15 n c15 (yl p r xv) w' hp hp2 (by omega) (Nat.le_refl _) (HRJ.out.below hS.2.2) HNJ.out h15.rd (zU (by omega) _ _)).mono ?_;rintro e v1 ⟨A9,c9,rfl,hM⟩;exact hK.out _ _ _ rfl rfl ⟨_,_,rfl,by rw[HTE.out];exact hM.after hS.2.2⟩ hM.b
    refine zS (fun w' hS hV K hK=>?_) ?_
    ·obtain⟨A15,c15,e15,h15⟩:=hV 15 (by decide);obtain⟨A16,c16,e16,h16⟩:=hV 16 (by decide);have q1:=hS.1;have q2:=hS.2.1;go_simp;exact hK.out _ _ _ rfl rfl ⟨_,_,_,rfl,Blk.new _ _ _,h16.below (zG.alloc (Nat.le_refl _) _)⟩ (zG.alloc (Nat.le_refl _) _)
    refine fun w' hS hV=>?_
    have e0:=zT hV 0
    have e1:=zT hV 1
    have e2:=zT hV 2
    have e3:=zT hV 3
    have e4:=zT hV 4
    have e5:=zT hV 5
    have e6:=zT hV 6
    have e7:=zT hV 7
    have e8:=zT hV 8
    have e9:=zT hV 9
    have e10:=zT hV 10
    have e11:=zT hV 11
    have e12:=zT hV 12
    have e13:=zT hV 13
    have e14:=zT hV 14
    obtain⟨A15,c15,e15,h15⟩:=hV 15 (by decide)
    obtain⟨A16,c16,e16,h16⟩:=hV 16 (by decide)
    obtain⟨g17,A17,c17,e17,b17,h17⟩:=hV 17 (by decide)
    simp only[e0,e1,e2,e3,e4,e5,e6,e7,e8,e9,e10,e11,e12,e13,e14,e15,e16,e17]
    clear e0 e1 e2 e3 e4 e5 e6 e7 e8 e9 e10 e11 e12 e13 e14 e15 e16 e17
    obtain⟨-, -,s2⟩:=hS
    refine xg (j:=18) (by kernel_rfl) (Eq.trans (by simp only[zA,zB,zC];exact rfl) rfl) rfl (fun K hK=>?_)
    refine yaA w w' _ _ rfl OA on oc _ A17 n c17 _ (HO.out.below s2) (h17.2.base (Nat.zero_le _)) (by omega) g17 b17 (by rfl) (by rfl) ?_
    intro A20 c20 w20 hM20 hg20 hat20
    refine hK.out _ _ ?_
    simp only[Act.put,zD,zE,zF]
    refine yK (j:=19) (by kernel_rfl) (Eq.trans (by simp only[zA,zB,zC];exact rfl) rfl) (fun K hK=>?_)
    go_simp
    refine hK.out _ _ (wpAny_done (by kernel_rfl) ?_ _)
    have HRO2:=Lib.hid ((HO.out.below s2).keepOwn (HRO.out.below s2) hg20)
    clear hg20 hat20 HRO
    go_wp2
    go_roundw
    case rel=>exact⟨j+1,on+1,A20,c20,by omega,by go_num,rfl,by rw[HPS.out],HRO2,Lib.hid (by rw[HPS.out];exact hM20),Lib.hid (by rw[HPS.out];show (P1++[_]).length=_;rw[List.length_append,show (P1).length=on from HOL.out];rfl)⟩
    case measure=>simp[intOf];omega
  ·obtain rfl:j=d:=by omega
   obtain⟨pl,hpl⟩:∃ z,z=plcL p r q B j:=⟨_,rfl⟩
   rw[← hpl]at HO HOL HZE ⊢
   obtain⟨P1,P2⟩:=pl
   have HB4:=Lib.hid HO.out.b
   have HA2:=Lib.hid (HA.out.b)
   clear hpl
   cases P2
   ·have HZ2:Hid (Z=P1++[r]):=Lib.hid (by rw[HZE.out];rfl)
    go_wp2_with (at_builtin;refine ydg w wr rfl _ _ rfl OA on oc _ R n cr r HO.out HRO.out (by omega) rfl rfl ?_;intro A9 c9 w9 hM9 hg9 _)
    go_ret
    refine⟨A9,c9,?_,?_,hM9.b⟩
    ·rw[HZ2.out,List.length_append,show P1.length=on from HOL.out];rfl
    ·rw[HZ2.out,List.length_append,show P1.length=on from HOL.out];exact hM9.after HA2.out
   ·have HZ2:Hid (Z=P1):=Lib.hid (by rw[HZE.out];rfl)
    go_wp2
    go_ret
    refine⟨OA,oc,?_,?_,HB4.out⟩
    ·rw[HZ2.out,show P1.length=on from HOL.out];rfl
    ·rw[HZ2.out,show P1.length=on from HOL.out];exact HO.out.after HA2.out
set_option maxHeartbeats 1600000 in
set_option maxRecDepth 8000 in
theorem ybW (p:Int) (A:Option Addr) (r0 c:Nat) (M:List (List Int)) (n:Nat) (w:World) (HP:isP p=true) (hn:n≤65535) (hr0:r0≤1048576) (ha:RdII w A r0 M) (hT:Tab p n M) :
 Calls Tryz.prog 146 #[.int .i64 p,.slice A r0 c] w fun e w'=>∃ A' c',e=.returned (.slice A' (yf p M).length c')∧MkO w w' A' (yf p M).length c' (yf p M):=by
 have hMl:=ha.len
 have HT:=Lib.hid hT
 have HML:=Lib.hid hMl
 have HRS:Hid (∀ k,k≤r0→Red n (zq p M k)∧Tab p n (zq p M k)):=Lib.hid fun k hk=>by
  obtain⟨h1,h2, -⟩:=ycH HP hT k (by omega)
  exact⟨h1,h2⟩
 have HE:Hid (yf p M=zq p M r0):=Lib.hid (by rw[← yg5 HP hT,hMl])
 have hO:MkO w (w.alloc (.cells #[] 24)) (some ⟨w.heap.size,0,none⟩) 0 0 []:=(MkII.empty zG).o
 clear hMl hT
 go_enter Tryz.func146,Tryz.ntmps146
 go_wp2
 go_loopw [5,6] (fun out i wr=>∃ (j on:Nat) (OA:Option Addr) (oc:Nat),j≤r0∧i=.int .i64 j∧out=.slice OA on oc∧Hid (MkO w wr OA on oc (zq p M j))∧Hid ((zq p M j).length=on)) (fun _ i _=>r0-(intOf i).toNat)
 case atStart=>exact⟨0,0,_,_,by omega,rfl,rfl,Lib.hid hO,Lib.hid rfl⟩
 case round=>
  obtain⟨j,on,OA,oc,hj,rfl,rfl,HO,HOL⟩:=hrel
  clear hO
  by_cases hlt:j<r0
  ·obtain⟨g,o,rfl,hxj,Aj,cj,hcj,hrj, -⟩:=(ha.below HO.out.b).at_ hlt
   obtain⟨hlj,hnj⟩:=HT.out _ (List.getElem_mem hxj)
   obtain⟨hR,hTT⟩:=HRS.out j hj
   have hput:=yfQ p w OA on oc (zq p M j) Aj n cj M[j] wr HP hn HO.out hTT hR (by rw[hlj]at hrj;exact hrj) hnj
   rw[show putL p (zq p M j) M[j]=zq p M (j+1) by rw[ycI hxj,yc [] hxj]]at hput
   rw[hlj]at hcj
   have HPUT:=Lib.hid hput
   clear hput hR hTT hrj hnj hlj ha
   go_wp2_with fail
   refine HPUT.out.mono ?_
   rintro e w1 ⟨A1,c1,rfl,hM1,hb1⟩
   go_wp2
   go_roundw
   case rel=>exact⟨j+1,_,A1,c1,by omega,by go_num,rfl,Lib.hid hM1,Lib.hid rfl⟩
   case measure=>simp[intOf];omega
  ·obtain rfl:j=r0:=by omega
   go_wp2
   go_ret
   rw[HE.out,HOL.out]
   exact⟨_,_,rfl,HO.out⟩
set_option maxHeartbeats 6400000 in
set_option maxRecDepth 8000 in
theorem yfP (p:Int) (A:Option Addr) (r0 c:Nat) (M:List (List Int)) (n:Nat) (w:World) (HP:isP p=true) (hn:n≤65535) (hr0:r0≤1048576) (ha:RdII w A r0 M) (hT:Tab p n M) :
 Calls Tryz.prog 104 #[.int .i64 p,.int .i64 n,.slice A r0 c] w fun e w'=>∃ A' c',e=.returned (.slice A' (yI p M n).length c')∧MkO w w' A' (yI p M n).length c' (yI p M n):=by
 obtain⟨hp3,hp2⟩:=yk HP
 have hp:2≤p:=by omega
 have hbas:=ybW p A r0 c M n w HP hn hr0 ha hT
 have hred:=xz HP M hT
 have htab:=vO (p:=p) (by omega) M hT
 have HKL:Hid (yI p M n=yf p (y5 p (yf p M) n n)):=Lib.hid rfl
 have hdl:=hred.len
 obtain⟨B,hB⟩:∃ B,B=yf p M:=⟨_,rfl⟩
 rw[← hB]at hbas hred htab hdl HKL
 have HRED:=Lib.hid hred
 have HTAB:=Lib.hid htab
 have HP':=Lib.hid HP
 obtain⟨d,hd⟩:∃ d,d=B.length:=⟨_,rfl⟩
 rw[← hd]at hbas hdl
 have HD:=Lib.hid hd
 clear hB hT ha hred htab HP hd
 go_enter Tryz.func104,Tryz.ntmps104
 go_wp2_with fail
 refine hbas.mono ?_
 rintro e wb ⟨A7,c7,rfl,hM7⟩
 have HB7:=Lib.hid hM7
 clear hM7 hbas
 have hlo:Own ((wb.alloc (.cells #[] 24)).alloc (.cells #[] 2)) wb.heap.size 24 (some ⟨wb.heap.size,0,none⟩) 0 0 []:=by
  have:=(Mk.lit (E:=24) (Below.refl wb.heap.size wb) #[] (by simp)).alloc (.cells #[] 2)
  exact this.2
 have hP0':MkI wb ((wb.alloc (.cells #[] 24)).alloc (.cells #[] 2)) (some ⟨wb.heap.size+1,0,none⟩) 0 0 (tab 0 fun i=>((ld B i:Nat):Int)):=by
  have:=Mk.lit (E:=2) (w0:=wb) (w:=wb.alloc (.cells #[] 24)) (zG.alloc (Nat.le_refl _) _) #[] (by simp)
  simpa [MkI,ints,tab] using this
 go_wp2
 obtain⟨w2,hw2⟩:∃ W,W=(wb.alloc (.cells #[] 24)).alloc (.cells #[] 2):=⟨_,rfl⟩
 rw[← hw2]at hP0' hlo ⊢
 clear hw2
 go_loopw [9,10] (fun pv i wr=>∃ (j:Nat) (A':Option Addr) (c':Nat),j≤d∧i=.int .i64 j∧pv=.slice A' j c'∧MkI wb wr A' j c' (tab j fun i=>((ld B i:Nat):Int))∧Own wr wb.heap.size 24 (some ⟨wb.heap.size,0,none⟩) 0 0 []) (fun _ i _=>d-(intOf i).toNat)
 case atStart=>exact⟨0,_,_,by omega,rfl,rfl,hP0',hlo⟩
 case round=>
  obtain⟨j,A',c',hj,rfl,rfl,hM,hlo2⟩:=hrel
  clear hP0' hlo
  have HLO:=Lib.hid hlo2
  clear hlo2
  by_cases hlj:j<d
  ·obtain⟨g7,o7,rfl,hxj,Aj,cj,hcj,hrj, -⟩:=(HB7.out.rd.below hM.b).at_ hlj
   have HRJ:=Lib.hid (HTAB.out B[j] (List.getElem_mem hxj))
   have hl:=HRJ.out.1
   rw[hl]at hcj hrj
   have hlead:=vX Aj n cj B[j] wr (by omega) hrj
   rw[show yn B[j]=ld B j by unfold ld;rw[yc [] hxj]]at hlead
   have HV:Hid ((tab (j+1) fun i=>((ld B i:Nat):Int))=(tab j fun i=>((ld B i:Nat):Int))++[((ld B j:Nat):Int)]):=Lib.hid (yQ _ _)
   obtain⟨l,hl'⟩:∃ l,l=ld B j:=⟨_,rfl⟩
   rw[← hl']at hlead HV
   have HM:=Lib.hid hM
   have hl4:l≤65535:=by rw[hl'];have:=HRED.out.lt j (by rw[← HD.out];exact hlj);omega
   clear hl hl' hrj hM HRJ
   go_wp2_with (first
    | (go_at_call 91;refine hlead.mono ?_;rintro e w' ⟨rfl,rfl⟩)
    | (at_builtin;refine yt wb _ 24 2 _ _ Tryz.underlying24 yo rfl (by omega) rfl _ _ rfl A' j c' _ _ HM.out (by omega) rfl rfl rfl ?_;intro A4 c4 w4 hM4 hg4 _))
   go_roundw
   case rel=>exact⟨j+1,A4,c4,by omega,by go_num,rfl,by rw[HV.out];simpa [MkI,ints] using hM4,HLO.out.grown hg4 (HLO.out.ne HM.out.2 (by decide))⟩
   case measure=>simp[intOf];omega
  ·obtain rfl:j=d:=by omega
   have HPV:=Lib.hid hM
   have HCON:Hid (∀ f:Nat,(tab j fun i=>((ld B i:Nat):Int)).contains (f:Int)=isLd B f):=Lib.hid (fun f=>by rw[HD.out];exact yfZ B f)
   have hM0:MkII wb wr (some ⟨wb.heap.size,0,none⟩) 0 0 (y5 p B n 0):=⟨[],⟨hM.b,HLO.out⟩,Nest.nil _ _⟩
   have hpo:Own wr wb.heap.size 2 A' j c' (ints (tab j fun i=>((ld B i:Nat):Int))):=hM.2
   have hmk:=xE (P:=Tryz.prog) 24 2 Tryz.underlying24 yo n (by omega)
   clear hM
   go_wp2
   go_loopw [8,11] (fun out i wr=>∃ (f q:Nat) (A2:Option Addr) (c2:Nat),f≤n∧q≤f∧i=.int .i64 f∧out=.slice A2 q c2∧MkII wb wr A2 q c2 (y5 p B n f)∧Own wr wb.heap.size 2 A' j c' (ints (tab j fun i=>((ld B i:Nat):Int)))) (fun _ i _=>n-(intOf i).toNat)
   case atStart=>exact⟨0,0,_,_,by omega,by omega,rfl,rfl,hM0,hpo⟩
   case round=>
    obtain⟨f,q,A2,c2,hf,hq,rfl,rfl,hM,hpo2⟩:=hrel
    clear hM0 hpo
    obtain⟨wo,rfl⟩:∃ W,W=wr:=⟨_,rfl⟩
    have HM:=Lib.hid hM
    have HPO:=Lib.hid hpo2
    clear hM hpo2
    by_cases hlf:f<n
    ·cases hlb:isLd B f
     ·have hhas:=ybQ A' j c' (tab j fun i=>((ld B i:Nat):Int)) (f:Int) wo (by omega) (Own.rd HPO.out) ((HCON.out f).trans hlb)
      have hm1:=Mk.made (E:=2) (n:=n) (z:=.int .i64 0) (Below.refl wo.heap.size wo) (by simp only[maxLen];omega)
      rw[xj]at hm1
      obtain⟨u1,hc1⟩:=hm1.2.cellI hlf
      have hf1:=hm1.2.frozen_ f
      have hm2:=(hm1.set f (.int .i64 1)).1
      rw[yN,World.setCell_alloc_at _ _ _ _ _ rfl]at hm2
      have hm3:=hm2
      rw[show (List.replicate n (0:Int)).set f 1=y4 p B n f (zY B 0) from (ybu p B n f hlf (zY B 0) (fun k _ hk=>yf2 HRED.out hk)).symm]at hm3
      clear hm1 hm2
      go_wp2_with (go_at_call 147;refine hhas.mono ?_;rintro e w' ⟨rfl,rfl⟩)
      go_loopw [13] (fun i wr=>∃ k:Nat,k≤j∧i=.int .i64 k∧MkI wo wr (some ⟨wo.heap.size,0,none⟩) n n (y4 p B n f (zY B k))) (fun i _=>j-(intOf i).toNat)
      case atStart=>exact⟨0,by omega,rfl,hm3⟩
      case round=>
       obtain⟨k,hk,rfl,hmv⟩:=hrel
       clear hm3 hc1 hf1 hhas
       have HMV:=Lib.hid hmv
       clear hmv
       by_cases hlk:k<j
       ·have hbo:=HM.out.b.trans (HMV.out.b.mono HM.out.b.size)
        obtain⟨g7,o7,rfl,hxl,Ai,ci,hci,hri, -⟩:=(HB7.out.rd.below hbo).at_ hlk
        have HRI:=Lib.hid (HTAB.out B[k] (List.getElem_mem hxl))
        have hl:=HRI.out.1
        rw[hl]at hci hri
        obtain⟨gi,oi,rfl,hxe,hce⟩:=hri.int hlf
        have HE:Hid (ent B k f=B[k][f]):=Lib.hid (ql hxl hxe)
        obtain⟨y,hy⟩:∃ y,y=B[k][f]:=⟨_,rfl⟩
        have hyb:0≤y∧y<p:=hy▸HRI.out.2 _ (List.getElem_mem hxe)
        rw[← hy]at hce HE
        have hld:=HRED.out.lt k (by rw[← HD.out];exact hlk)
        obtain⟨gp,op,rfl,hxp,hcp⟩:=((Own.rd HPO.out).below HMV.out.b).int hlk
        have hep:(tab j fun i=>((ld B i:Nat):Int))[k]=((ld B k:Nat):Int):=uR j _ k hxp
        rw[hep]at hcp
        have HST:Hid ((y4 p B n f (zY B k)).set (ld B k) ((-y)%p)=y4 p B n f (zY B (k+1))):=Lib.hid (by
         rw[← HE.out,ybv HRED.out (by rw[← HD.out];exact hlk) hlb]
         exact qp p B n f (fun k' _=>yf1 HRED.out (by rw[← HD.out];exact hlk) k'))
        have hwy:=jT (x:=-y) (by omega) (by omega)
        obtain⟨l,hl'⟩:∃ l,l=ld B k:=⟨_,rfl⟩
        rw[← hl']at hcp HST hld
        have hmod:=fun w'=>xl p (-y) w' (by omega) hp2 (by omega) (by omega)
        obtain⟨ym,hym⟩:∃ z,z=(-y)%p:=⟨_,rfl⟩
        rw[← hym]at hmod HST
        clear hl hl' hy hri HRI hxl hxe hxp hep hbo hym
        go_wp2
        refine yh 16 [[],[],[],[1,2],[1,2,3],[],[],[],[6,7],[6,7,8],[],[6,7,8,9,10],[6,7,8,9,10,11],[6,7,8,9,10,11,12],[5,6,7,8,9,10,11,12,13],[0,1,2,3,4],[0,1,2,3,4,5,6,7,8,9,10,11,12,13,14,15]] [VIs (.slice (some ⟨wo.heap.size,0,none⟩) n n),VIs (.slice (some ⟨gp,op,none⟩) j c'),VIs (.int .i64 (k)),VIs (.pointer (some ⟨gp,op+k,none⟩)),VIs (.int .i64 (l)),VIs (.int .i64 (p)),VIs (.slice (some ⟨g7,o7,none⟩) j c7),VIs (.int .i64 (k)),VIs (.pointer (some ⟨g7,o7+k,none⟩)),VIs (.slice (some ⟨gi,oi,none⟩) n ci),VIs (.int .i64 (f)),VIs (.pointer (some ⟨gi,oi+f,none⟩)),VIs (.int .i64 (y)),VIs (.int .i64 (-y)),VIs (.int .i64 (ym)),VIs (.pointer (some ⟨wo.heap.size,l,none⟩))] (fun w'=>w'.cell? ⟨gp,op+k,none⟩=some (.int .i64 l)∧w'.cell? ⟨g7,o7+k,none⟩=some (.slice (some ⟨gi,oi,none⟩) n ci)∧w'.cell? ⟨gi,oi+f,none⟩=some (.int .i64 y)∧Below wr.heap.size wr w') (by kernel_rfl) (by kernel_rfl) (fun _ _ h hb=>ybP h hb (Nat.le_refl _)) (⟨hcp,hci,hce,zG.drew⟩) (fun x=>?_)
        refine zS (fun w' hS hV K hK=>?_) ?_
        ·have q0:=hS.1;have q1:=hS.2.1;have q2:=hS.2.2.1;have q3:=hS.2.2.2;go_simp;exact zO hK
        refine zS (fun w' hS hV K hK=>?_) ?_
        ·have q0:=hS.1;have q1:=hS.2.1;have q2:=hS.2.2.1;have q3:=hS.2.2.2;go_simp;exact zO hK
        refine zS (fun w' hS hV K hK=>?_) ?_
        ·have q0:=hS.1;have q1:=hS.2.1;have q2:=hS.2.2.1;have q3:=hS.2.2.2;go_simp;exact zO hK
        refine zS (fun w' hS hV K hK=>?_) ?_
        ·have e1:=zQ hV 1;have e2:=zQ hV 2;have q0:=hS.1;have q1:=hS.2.1;have q2:=hS.2.2.1;have q3:=hS.2.2.2;go_simp;exact zO hK
        refine zS (fun w' hS hV K hK=>?_) ?_
        ·have e3:=zQ hV 3;have q0:=hS.1;have q1:=hS.2.1;have q2:=hS.2.2.1;have q3:=hS.2.2.2;go_simp;exact zO hK
        refine zS (fun w' hS hV K hK=>?_) ?_
        ·have q0:=hS.1;have q1:=hS.2.1;have q2:=hS.2.2.1;have q3:=hS.2.2.2;go_simp;exact zO hK
        refine zS (fun w' hS hV K hK=>?_) ?_
        ·have q0:=hS.1;have q1:=hS.2.1;have q2:=hS.2.2.1;have q3:=hS.2.2.2;go_simp;exact zO hK
        refine zS (fun w' hS hV K hK=>?_) ?_
        ·have q0:=hS.1;have q1:=hS.2.1;have q2:=hS.2.2.1;have q3:=hS.2.2.2;go_simp;exact zO hK
        refine zS (fun w' hS hV K hK=>?_) ?_
        ·have e6:=zQ hV 6;have e7:=zQ hV 7;have q0:=hS.1;have q1:=hS.2.1;have q2:=hS.2.2.1;have q3:=hS.2.2.2;go_simp;exact zO hK
        refine zS (fun w' hS hV K hK=>?_) ?_
        ·have e8:=zQ hV 8;have q0:=hS.1;have q1:=hS.2.1;have q2:=hS.2.2.1;have q3:=hS.2.2.2;go_simp;exact zO hK
        refine zS (fun w' hS hV K hK=>?_) ?_
        ·have q0:=hS.1;have q1:=hS.2.1;have q2:=hS.2.2.1;have q3:=hS.2.2.2;go_simp;exact zO hK
        refine zS (fun w' hS hV K hK=>?_) ?_
        ·have e9:=zQ hV 9;have e10:=zQ hV 10;have q0:=hS.1;have q1:=hS.2.1;have q2:=hS.2.2.1;have q3:=hS.2.2.2;go_simp;exact zO hK
        refine zS (fun w' hS hV K hK=>?_) ?_
        ·have e11:=zQ hV 11;have q0:=hS.1;have q1:=hS.2.1;have q2:=hS.2.2.1;have q3:=hS.2.2.2;go_simp;exact zO hK
        refine zS (fun w' hS hV K hK=>?_) ?_
        ·have e12:=zQ hV 12;have q0:=hS.1;have q1:=hS.2.1;have q2:=hS.2.2.1;have q3:=hS.2.2.2;go_simp;exact zO hK
        refine zS (fun w' hS hV K hK=>?_) ?_
        ·have e5:=zQ hV 5;have e13:=zQ hV 13;have q0:=hS.1;have q1:=hS.2.1;have q2:=hS.2.2.1;have q3:=hS.2.2.2;go_simp;refine (hmod w').mono ?_;rintro e v1 ⟨rfl,rfl⟩;exact zO hK
        refine zS (fun w' hS hV K hK=>?_) ?_
        ·have e0:=zQ hV 0;have e4:=zQ hV 4;have q0:=hS.1;have q1:=hS.2.1;have q2:=hS.2.2.1;have q3:=hS.2.2.2;go_simp;exact zO hK
        refine fun w' hS hV=>?_
        have e0:=zT hV 0
        have e1:=zT hV 1
        have e2:=zT hV 2
        have e3:=zT hV 3
        have e4:=zT hV 4
        have e5:=zT hV 5
        have e6:=zT hV 6
        have e7:=zT hV 7
        have e8:=zT hV 8
        have e9:=zT hV 9
        have e10:=zT hV 10
        have e11:=zT hV 11
        have e12:=zT hV 12
        have e13:=zT hV 13
        have e14:=zT hV 14
        have e15:=zT hV 15
        simp only[e0,e1,e2,e3,e4,e5,e6,e7,e8,e9,e10,e11,e12,e13,e14,e15]
        clear e0 e1 e2 e3 e4 e5 e6 e7 e8 e9 e10 e11 e12 e13 e14 e15
        obtain⟨q0,q1,q2,q3⟩:=hS
        have hm5:=HMV.out.below q3
        obtain⟨hoc,hof⟩:=zp hm5 hld
        refine yK (j:=16) (by kernel_rfl) (Eq.trans (by simp only[zA,zB,zC];exact rfl) rfl) (fun K hK=>?_)
        go_simp
        refine hK.out _ _ (wpAny_done (by kernel_rfl) ?_ _)
        have hset:=(hm5.set l (.int .i64 ym)).1
        rw[yN,HST.out]at hset
        clear q0 q1 q2 q3 hm5 hoc hof hmod
        go_wp2
        go_roundw
        case rel=>exact⟨k+1,by omega,by go_num,hset⟩
        case measure=>simp[intOf];omega
       ·obtain rfl:k=j:=by omega
        have HFR:Hid (MkI wo wr (some ⟨wo.heap.size,0,none⟩) n n (za p B n f)):=Lib.hid (by
         have e:y4 p B n f (zY B k)=za p B n f:=qp p B n f (fun k' _=>by rw[HD.out];exact yf0 k')
         rw[← e];exact HMV.out)
        go_wp2_with (at_builtin;refine vi wb wo _ rfl _ _ rfl A2 q c2 _ _ n n _ HM.out HFR.out (by omega) rfl ?_ ?_;(go_simp);intro A6 c6 w6 hM6 hg6 _)
        have hpn:=(HPO.out.below HFR.out.b).grown hg6 ((HPO.out.below HFR.out.b).ne (HM.out.outer.choose_spec.below HFR.out.b).2 (by decide))
        go_roundw
        case rel=>exact⟨f+1,q+1,A6,c6,by omega,by omega,by go_num,rfl,by rw[ybC hlb];exact hM6,hpn⟩
        case measure=>simp[intOf];omega
     ·have hhas:=ybQ A' j c' (tab j fun i=>((ld B i:Nat):Int)) (f:Int) wo (by omega) (Own.rd HPO.out) ((HCON.out f).trans hlb)
      go_wp2_with (go_at_call 147;refine hhas.mono ?_;rintro e w' ⟨rfl,rfl⟩)
      go_roundw
      case rel=>exact⟨f+1,q,A2,c2,by omega,by omega,by go_num,rfl,by rw[ybA hlb];exact HM.out,HPO.out⟩
      case measure=>simp[intOf];omega
    ·obtain rfl:f=n:=by omega
     have hlast:=ybW p A2 q c2 (y5 p B f f) f wo HP'.out hn (by omega) HM.out.rd (uE hp B f f)
     rw[← HKL.out]at hlast
     have HBW:=Lib.hid (HB7.out.b.trans (HM.out.b.mono HB7.out.b.size))
     go_wp2_with fail
     refine hlast.mono ?_
     rintro e w5 ⟨A5,c5,rfl,hM5⟩
     go_wp2
     go_ret
     exact⟨_,_,rfl,hM5.after HBW.out⟩
end Go.Proofs.YtaiegpggccdgoaaGreat
namespace Go.Proofs.YtaiegpggccdgoaaGreat
open Go.RowKit
def xa (p:Int) (l0:Nat) (r:List Int):Bool:=(r.length == l0) && decide (1≤r.length) && decide (r.length≤16) && nums p r
def isTb (p:Int) (M:List (List Int)):Bool:=decide (M.length≤16) && M.all (xa p (M.getD 0 []).length)
theorem yhW {p:Int} {l0:Nat} {M:List (List Int)} {k:Nat} (hk:k<M.length) (h:((M.take k).all (xa p l0))=true) (h1:xa p l0 M[k]=true):((M.take (k+1)).all (xa p l0))=true:=by
 rw[List.take_succ_eq_append_getElem hk,List.all_append,h];simp[h1]
theorem yhX {p:Int} {l0:Nat} {M:List (List Int)} {k:Nat} (hk:k<M.length) (h1:xa p l0 M[k]=false):(M.all (xa p l0))=false:=
 List.all_eq_false.2 ⟨M[k],List.getElem_mem hk,by simp[h1]⟩
set_option maxHeartbeats 1600000 in
set_option maxRecDepth 8000 in
theorem yfo (p:Int) (A:Option Addr) (n c:Nat) (M:List (List Int)) (w:World) (hp0:0<p) (hp1:p≤13) (hn:n≤1048576) (ha:RdII w A n M) (hM:∀ r∈M,r.length≤1048576) :
 Calls Tryz.prog 155 #[.int .i64 p,.slice A n c] w fun e w'=>e=.returned (.bool (isTb p M))∧w=w':=by
 have HLN:=Lib.hid ha.len
 have HMM:=Lib.hid hM
 obtain⟨R,hR⟩:∃ b,b=isTb p M:=⟨_,rfl⟩
 rw[← hR]
 by_cases h16:16<n
 ·obtain rfl:R=false:=by rw[hR];unfold isTb;rw[decide_eq_false (by rw[HLN.out];omega)];rfl
  have t1:decide ((16:Int)<(n:Int))=true:=by simp;omega
  clear hR hM
  go_enter Tryz.func155,Tryz.ntmps155
  go_wp2
  go_ret
  exact⟨rfl,rfl⟩
 have t1:decide ((16:Int)<(n:Int))=false:=by simp;omega
 obtain⟨l0,hl0⟩:∃ l,l=(M.getD 0 []).length:=⟨_,rfl⟩
 have HL0:=Lib.hid hl0
 have HR:Hid (R=M.all (xa p l0)):=Lib.hid (by rw[hR];unfold isTb;rw[decide_eq_true (by rw[HLN.out];omega),Bool.true_and,hl0])
 clear hM hR hl0
 go_enter Tryz.func155,Tryz.ntmps155
 go_wp2
 go_loopw [12] (fun i wr=>∃ k:Nat,k≤n∧i=.int .i64 k∧wr=w∧Hid (((M.take k).all (xa p l0))=true)) (fun i _=>n-(intOf i).toNat)
 case atStart=>exact⟨0,by omega,rfl,rfl,Lib.hid (by simp)⟩
 case round=>
  obtain⟨k,hk,rfl,rfl,HK⟩:=hrel
  by_cases hlt:k<n
  ·obtain⟨g,o,rfl,hxk,A1,c1,hc1,hr1, -⟩:=ha.at_ hlt
   obtain⟨g0,o0,e0,hx0,A0,c0,hc0,hr0, -⟩:=ha.at_ (show 0<n by omega)
   cases e0
   have hll:M[0].length=l0:=by rw[HL0.out,List.getD_eq_getElem?_getD,List.getElem?_eq_getElem hx0];rfl
   rw[hll,Nat.add_zero]at hc0
   have hml:=HMM.out M[k] (List.getElem_mem hxk)
   obtain⟨m,hm⟩:∃ m,m=M[k].length:=⟨_,rfl⟩
   have HSTEP:=Lib.hid (yhW hxk HK.out)
   have HSTOP:=Lib.hid (yhX (p:=p) (l0:=l0) hxk)
   have HTR:Hid (xa p l0 M[k]=((m == l0) && decide (1≤m) && decide (m≤16) && nums p M[k])):=Lib.hid (by rw[hm];rfl)
   rw[← hm]at hc1 hr1 hml
   clear hr0 ha hll hm
   by_cases e1:m=l0
   ·subst e1
    have t4:((m:Int) != (m:Int))=false:=by simp
    by_cases e2:m<1
    ·obtain rfl:R=false:=by rw[HR.out,HSTOP.out (by rw[HTR.out,decide_eq_false (show ¬ 1≤m by omega)];simp)]
     have t2:decide ((m:Int)<1)=true:=by simp;omega
     clear HSTEP HSTOP HTR HR
     go_wp2
     go_ret
     exact⟨rfl,rfl⟩
    have t2:decide ((m:Int)<1)=false:=by simp;omega
    by_cases e3:16<m
    ·obtain rfl:R=false:=by rw[HR.out,HSTOP.out (by rw[HTR.out,decide_eq_false (show ¬ m≤16 by omega)];simp)]
     have t3:decide ((16:Int)<(m:Int))=true:=by simp;omega
     clear HSTEP HSTOP HTR HR
     go_wp2
     go_ret
     exact⟨rfl,rfl⟩
    have t3:decide ((16:Int)<(m:Int))=false:=by simp;omega
    obtain⟨b,hb⟩:∃ b,b=nums p M[k]:=⟨_,rfl⟩
    have his:=is_b p A1 m c1 M[k] wr (by omega) (by omega) (by omega) hr1 hb.symm
    have HB:Hid (xa p m M[k]=b):=Lib.hid (by rw[HTR.out,← hb,decide_eq_true (show 1≤m by omega),decide_eq_true (show m≤16 by omega)];simp)
    clear hr1 hb HTR
    go_wp2_with fail
    refine his.mono ?_
    rintro e w1 ⟨rfl,rfl⟩
    cases b
    ·obtain rfl:R=false:=by rw[HR.out,HSTOP.out HB.out]
     clear HB HSTEP HSTOP HR
     go_wp2
     go_ret
     exact⟨rfl,rfl⟩
    ·have HB1:=Lib.hid (HSTEP.out HB.out)
     clear HB HSTEP HSTOP
     go_wp2
     go_roundw
     case rel=>exact⟨k+1,by omega,by go_num,by first | rfl | trivial,HB1⟩
     case measure=>simp[intOf];omega
   ·obtain rfl:R=false:=by rw[HR.out,HSTOP.out (by rw[HTR.out,show (m == l0)=false by simpa using e1];simp)]
    have t4:((m:Int) != (l0:Int))=true:=by simp;omega
    clear HSTEP HSTOP HTR HR
    go_wp2
    go_ret
    exact⟨rfl,rfl⟩
  ·obtain rfl:k=n:=by omega
   have hr:=HK.out
   rw[List.take_of_length_le (by rw[HLN.out];omega)]at hr
   obtain rfl:R=true:=HR.out.trans hr
   clear hr HR
   go_wp2
   go_ret
   exact⟨rfl,rfl⟩
set_option maxHeartbeats 800000 in
set_option maxRecDepth 8000 in
theorem qw (p:Int) (A:Option Addr) (n c:Nat) (M:List (List Int)) (w:World) (hp0:0<p) (hp1:p≤13) (hn:n≤1048576) (ha:RdII w A n M) (hM:∀ r∈M,r.length≤1048576) :
 Calls Tryz.prog 144 #[.int .i64 p,.slice A n c] w fun e w'=>e=.returned (.bool (decide (0<n) && isTb p M))∧w=w':=by
 have h:=yfo p A n c M w hp0 hp1 hn ha hM
 by_cases h0:0<n
 ·have t1:decide ((0:Int)<(n:Int))=true:=by simp;omega
  rw[decide_eq_true h0,Bool.true_and]
  obtain⟨R,hR⟩:∃ b,b=isTb p M:=⟨_,rfl⟩
  rw[← hR]at h ⊢
  clear hR hM
  go_enter Tryz.func144,Tryz.ntmps144
  go_wp2_with fail
  refine h.mono ?_
  rintro e w1 ⟨rfl,rfl⟩
  go_wp2
  go_ret
  exact⟨rfl,rfl⟩
 ·have t1:decide ((0:Int)<(n:Int))=false:=by simp;omega
  rw[decide_eq_false h0,Bool.false_and]
  clear h hM
  go_enter Tryz.func144,Tryz.ntmps144
  go_wp2
  go_ret
  exact⟨rfl,rfl⟩
end Go.Proofs.YtaiegpggccdgoaaGreat
namespace Go.Proofs.YtaiegpggccdgoaaGreat
open Go Go.RowKit
def RdM3 (w:World) (A:Option Addr) (n:Nat) (mss:List (List (List Int))):Prop:=∃ rows,Rd w A n rows∧rows.length=mss.length ∧
 ∀ (k:Nat) (h:k<mss.length),∃ A' c',rows[k]? = some (.slice A' mss[k].length c')∧RdII w A' mss[k].length mss[k]∧mss[k].length≤c'
section
variable {w w':World} {A:Option Addr} {n c:Nat} {mss:List (List (List Int))}
theorem RdM3.len (h:RdM3 w A n mss):mss.length=n:=by obtain⟨rows,hr,hl,_⟩:=h;rw[← hl];exact hr.1
theorem RdM3.below (h:RdM3 w A n mss) (hb:Below w.heap.size w w'):RdM3 w' A n mss:=by
 obtain⟨rows,hr,hl,hk⟩:=h
 exact⟨rows,hr.below hb,hl,fun k hlt=>by obtain⟨A',c',e,h1,h2⟩:=hk k hlt;exact⟨A',c',e,h1.below hb,h2⟩⟩
theorem RdM3.at_ (h:RdM3 w A n mss) {k:Nat} (hk:k<n):∃ g o,A=some ⟨g,o,none⟩ ∧ ∃ (hx:k<mss.length) (A':Option Addr) (c':Nat),
 w.cell? ⟨g,o+k,none⟩=some (.slice A' mss[k].length c')∧RdII w A' mss[k].length mss[k]∧mss[k].length≤c':=by
 have hlen:=h.len
 obtain⟨rows,hr,hl,hrow⟩:=h
 obtain⟨g,o,e,hc⟩:=hr.2 (by omega)
 have hx:k<mss.length:=by omega
 obtain⟨A',c',he,h1,h2⟩:=hrow k hx
 exact⟨g,o,e,hx,A',c',hc k _ he,h1,h2⟩
end
def jd (f:FuncId) (cap:Array Value) (w:World) (p:List (List Int)→Bool) (ok:List (List Int)→Prop):Prop:=
 ∀ (w':World) (A:Option Addr) (m c:Nat) (xs:List (List Int)),Below w.heap.size w w'→RdII w' A m xs→ok xs →
  Calls Tryz.prog f (#[.slice A m c]++cap) w' fun e w''=>e=.returned (.bool (p xs))∧Below w'.heap.size w' w''
set_option maxHeartbeats 800000 in
set_option maxRecDepth 8000 in
theorem ydt (f:FuncId) (q:Addr) (p:List (List Int)→Bool) (ok:List (List Int)→Prop) (A:Option Addr) (n c:Nat) (xss:List (List (List Int))) (w:World) (hn:n≤1099511627776) (ha:RdM3 w A n xss) (hok:∀ xs∈xss,ok xs)
 (hf:jd f #[.pointer (some q)] w p ok) (hcf:∀ (args:Array Value) (w:World),(callFunc f args).run Tryz.prog w=.ok (.enter f args) w) :
 Calls Tryz.prog 143 #[.slice A n c,.func (.func f) #[] #[.pointer (some q)]] w fun e w'=>∃ r:Int,e=.returned (.int .i64 r)∧decide (0≤r)=xss.any p∧Below w.heap.size w w':=by
 have hxl:=ha.len
 have Hx:=Lib.hid hxl;clear hxl
 go_enter Tryz.func143,Tryz.ntmps143
 go_wp2
 go_loopw [8] (fun i wr=>∃ k:Nat,k≤n∧i=.int .i64 k∧(xss.take k).any p=false∧Below w.heap.size w wr) (fun i _=>n-(intOf i).toNat)
 case atStart=>exact⟨0,by omega,rfl,by simp,Below.refl _ _⟩
 case round=>
  obtain⟨k,hk,rfl,ht,hB⟩:=hrel
  have H:=Lib.hid ht;clear ht
  by_cases hlt:k<n
  ·obtain⟨g,o,rfl,hx,A',c',hcx,hr, -⟩:=(ha.below hB).at_ hlt
   have hoki:=hok xss[k] (List.getElem_mem hx)
   clear ha
   cases hi:p xss[k]
   all_goals
    have HI:=Lib.hid hi;clear hi
    go_wp2_with fail
    refine (hf _ _ _ _ _ hB hr hoki).mono ?_
    rintro e w1 ⟨rfl,hb1⟩
    rw[HI.out]
    go_wp2
   ·go_roundw
    case rel=>
     refine⟨k+1,by omega,by go_num,?_,hB.trans (hb1.mono hB.size)⟩
     rw[List.take_succ_eq_append_getElem hx,List.any_append,H.out]
     simpa using HI.out
    case measure=>simp[intOf];omega
   ·go_ret
    refine⟨_,rfl,?_,hB.trans (hb1.mono hB.size)⟩
    have:xss.any p=true:=List.any_eq_true.2 ⟨xss[k],List.getElem_mem hx,HI.out⟩
    rw[this];simp
  ·go_wp2
   go_ret
   refine⟨_,rfl,?_,hB⟩
   have:=H.out
   rw[List.take_of_length_le (by rw[Hx.out];omega)]at this
   rw[this];simp
set_option maxHeartbeats 400000 in
set_option maxRecDepth 8000 in
theorem ydl (f:FuncId) (q:Addr) (p:List (List Int)→Bool) (ok:List (List Int)→Prop) (A:Option Addr) (n c:Nat) (xss:List (List (List Int))) (w:World) (hn:n≤1099511627776) (ha:RdM3 w A n xss) (hok:∀ xs∈xss,ok xs)
 (hf:jd f #[.pointer (some q)] w p ok) (hcf:∀ (args:Array Value) (w:World),(callFunc f args).run Tryz.prog w=.ok (.enter f args) w) :
 Calls Tryz.prog 97 #[.slice A n c,.func (.func f) #[] #[.pointer (some q)]] w fun e w'=>e=.returned (.bool (xss.any p))∧Below w.heap.size w w':=by
 go_enter Tryz.func97,Tryz.ntmps97
 go_wp2_with fail
 refine (ydt _ _ _ _ _ _ _ _ _ hn ha hok hf hcf).mono ?_
 rintro e w1 ⟨r,rfl,hr,hb⟩
 have HR:=Lib.hid hr;clear hr
 go_wp2
 go_ret
 exact⟨yJ HR.out,hb⟩
def isMx (p:Int) (k:Nat) (M:List (List Int)):Bool:=(decide (0<M.length) && isTb p M) && (M.length == pw k) && ((M.getD 0 []).length == pw k)
set_option maxHeartbeats 1600000 in
set_option maxRecDepth 8000 in
theorem yfj (p:Int) (A:Option Addr) (k c:Nat) (D:Option Addr) (r d:Nat) (M:List (List Int)) (w:World) (hp0:0<p) (hp1:p≤13) (hk:k≤4) (hr:r≤1048576) (hd:RdII w D r M) (hM:∀ x∈M,x.length≤1048576) (hb:(decide (0<r) && isTb p M)=false) :
 Calls Tryz.prog 99 #[.agg #[.int .i64 p,.slice A k c],.slice D r d] w fun e w'=>e=.returned (.bool false)∧Below w.heap.size w w':=by
 have hB0:Below w.heap.size w (w.alloc (.cells #[.int .i64 p,.slice A k c] 26)):=zG.alloc (Nat.le_refl _) _
 have k0:Blk (w.alloc (.cells #[.int .i64 p,.slice A k c] 26)) w.heap.size 26 #[.int .i64 p,.slice A k c]:=Blk.new _ _ _
 have HIM:=Lib.hid fun w' (h:Below w.heap.size w w')=>qw p D r d M w' hp0 hp1 hr (hd.below h) hM
 rw[hb]at HIM
 have HDS:=Lib.hid fun w'=>z8 p A k c w' hk
 have hpk:pw k≤16:=yz hk
 have hpos:=yq k
 obtain⟨N,hN⟩:∃ N,N=pw k:=⟨_,rfl⟩
 rw[← hN]at HDS hpk hpos
 clear hN
 clear hM hd hb
 obtain⟨q0,q1⟩:=k0.two
 go_enter Tryz.func99,Tryz.ntmps99
 go_wp2
 refine yh 21 [[],[0],[],[0,1,2],[0,1,2,3],[0,1,2,3,4],[0,1,2,3,4,5],[0,1,2,3,4],[0,1,2,3,4,7],[0,1,2,3,4,5,6,7,8],[0,1,2,3,4,5,6,7,8,9],[0,1,2,3,4,5,6,7,8,9,10],[0,1,2,3,4,5,6,7,8,9,10,11],[0,1,2,3,4,5,6,7,8,9,10,11,12],[0,1,2,3,4,5,6,7,8,9,10,11,12,13],[0,1,2,3,4,5,6,7,8,9,10,11,12,13,14],[0,1,2,3,4,5,6,7,8,9,10,11],[0,1,2,3,4,5,6,7,8,9,10,11,16],[0,1,2,3,4,5,6,7,8,9,10,11,12,13,14,15,16,17],[0,1,2,3,4,5,6,7,8,9,10,11,12,13,14,15,16,17,18],[0,1,2,3,4,5,6,7,8,9,10,11,12,13,14,15,16,17,18,19]] [VIs (.agg #[.int .i64 p,.slice A k c]),VIs (.int .i64 (p)),VIs (.slice D r d),VIs (.bool false),VIs (.bool false),VIs undef,VIs undef,VIs undef,VIs undef,VIs undef,VIs (.bool false),VIs (.bool false),VIs undef,VIs undef,VIs undef,VIs undef,VIs undef,VIs undef,VIs undef,VIs (.bool false),VIs (.bool false)] (fun w'=>Blk w' w.heap.size 26 #[.int .i64 p,.slice A k c]∧Below w.heap.size w w') (by kernel_rfl) (by kernel_rfl) (fun _ _ h hb=>⟨h.1.below hb h.1.lt,h.2.trans (hb.mono h.2.size)⟩) (⟨k0.drew,hB0.drew⟩) (fun x=>?_)
 refine zS (fun w' hS hV K hK=>?_) ?_
 ·obtain⟨q0,q1⟩:=hS.1.two;go_simp;exact zO hK
 refine zS (fun w' hS hV K hK=>?_) ?_
 ·have e0:=zQ hV 0;obtain⟨q0,q1⟩:=hS.1.two;go_simp;refine (zb p A k c w').mono ?_;rintro e v1 ⟨rfl,hb⟩;exact hK.out _ _ _ rfl rfl rfl hb
 refine zS (fun w' hS hV K hK=>?_) ?_
 ·obtain⟨q0,q1⟩:=hS.1.two;go_simp;exact zO hK
 refine zS (fun w' hS hV K hK=>?_) ?_
 ·have e1:=zQ hV 1;have e2:=zQ hV 2;obtain⟨q0,q1⟩:=hS.1.two;go_simp;refine (HIM.out _ hS.2).mono ?_;rintro e v1 ⟨rfl,rfl⟩;exact zO hK
 refine zS (fun w' hS hV K hK=>?_) ?_
 ·have e3:=zQ hV 3;obtain⟨q0,q1⟩:=hS.1.two;go_simp;exact zO hK
 refine zS (fun w' hS hV K hK=>?_) ?_
 ·have e4:=zQ hV 4;obtain⟨q0,q1⟩:=hS.1.two;go_simp;exact zO hK
 refine zS (fun w' hS hV K hK=>?_) ?_
 ·have e4:=zQ hV 4;have e5:=zQ hV 5;obtain⟨q0,q1⟩:=hS.1.two;go_simp;exact zO hK
 refine zS (fun w' hS hV K hK=>?_) ?_
 ·have e4:=zQ hV 4;obtain⟨q0,q1⟩:=hS.1.two;go_simp;exact zO hK
 refine zS (fun w' hS hV K hK=>?_) ?_
 ·have e4:=zQ hV 4;have e7:=zQ hV 7;obtain⟨q0,q1⟩:=hS.1.two;go_simp;exact zO hK
 refine zS (fun w' hS hV K hK=>?_) ?_
 ·have e4:=zQ hV 4;have e6:=zQ hV 6;have e8:=zQ hV 8;obtain⟨q0,q1⟩:=hS.1.two;go_simp;exact zO hK
 refine zS (fun w' hS hV K hK=>?_) ?_
 ·have e4:=zQ hV 4;have e9:=zQ hV 9;obtain⟨q0,q1⟩:=hS.1.two;go_simp;exact zO hK
 refine zS (fun w' hS hV K hK=>?_) ?_
 ·have e10:=zQ hV 10;obtain⟨q0,q1⟩:=hS.1.two;go_simp;exact zO hK
 refine zS (fun w' hS hV K hK=>?_) ?_
 ·have e11:=zQ hV 11;obtain⟨q0,q1⟩:=hS.1.two;go_simp;exact zO hK
 refine zS (fun w' hS hV K hK=>?_) ?_
 ·have e11:=zQ hV 11;have e12:=zQ hV 12;obtain⟨q0,q1⟩:=hS.1.two;go_simp;exact zO hK
 refine zS (fun w' hS hV K hK=>?_) ?_
 ·have e11:=zQ hV 11;have e13:=zQ hV 13;obtain⟨q0,q1⟩:=hS.1.two;go_simp;exact zO hK
 refine zS (fun w' hS hV K hK=>?_) ?_
 ·have e11:=zQ hV 11;have e14:=zQ hV 14;obtain⟨q0,q1⟩:=hS.1.two;go_simp;exact zO hK
 refine zS (fun w' hS hV K hK=>?_) ?_
 ·have e11:=zQ hV 11;obtain⟨q0,q1⟩:=hS.1.two;go_simp;exact zO hK
 refine zS (fun w' hS hV K hK=>?_) ?_
 ·have e11:=zQ hV 11;have e16:=zQ hV 16;obtain⟨q0,q1⟩:=hS.1.two;go_simp;exact zO hK
 refine zS (fun w' hS hV K hK=>?_) ?_
 ·have e11:=zQ hV 11;have e15:=zQ hV 15;have e17:=zQ hV 17;obtain⟨q0,q1⟩:=hS.1.two;go_simp;exact zO hK
 refine zS (fun w' hS hV K hK=>?_) ?_
 ·have e11:=zQ hV 11;have e18:=zQ hV 18;obtain⟨q0,q1⟩:=hS.1.two;go_simp;exact zO hK
 refine zS (fun w' hS hV K hK=>?_) ?_
 ·have e19:=zQ hV 19;obtain⟨q0,q1⟩:=hS.1.two;go_simp;exact zO hK
 refine fun w' hS hV=>?_
 have e0:=zT hV 0
 have e1:=zT hV 1
 have e2:=zT hV 2
 have e3:=zT hV 3
 have e4:=zT hV 4
 have e5:=zT hV 5
 have e6:=zT hV 6
 have e7:=zT hV 7
 have e8:=zT hV 8
 have e9:=zT hV 9
 have e10:=zT hV 10
 have e11:=zT hV 11
 have e12:=zT hV 12
 have e13:=zT hV 13
 have e14:=zT hV 14
 have e15:=zT hV 15
 have e16:=zT hV 16
 have e17:=zT hV 17
 have e18:=zT hV 18
 have e19:=zT hV 19
 have e20:=zT hV 20
 simp only[e0,e1,e2,e3,e4,e5,e6,e7,e8,e9,e10,e11,e12,e13,e14,e15,e16,e17,e18,e19,e20]
 clear e0 e1 e2 e3 e4 e5 e6 e7 e8 e9 e10 e11 e12 e13 e14 e15 e16 e17 e18 e19 e20
 refine wpAny_done (by kernel_rfl) ?_ _
 have hb9:=hS.2
 go_wp2
 go_ret
 exact⟨rfl,hb9⟩
set_option maxHeartbeats 1600000 in
set_option maxRecDepth 8000 in
theorem yfk (p:Int) (A:Option Addr) (k c:Nat) (D:Option Addr) (r d:Nat) (M:List (List Int)) (w:World) (hp0:0<p) (hp1:p≤13) (hk:k≤4) (hr:r≤1048576) (hd:RdII w D r M) (hM:∀ x∈M,x.length≤1048576) (hb:(decide (0<r) && isTb p M)=true) (h1:r≠pw k) :
 Calls Tryz.prog 99 #[.agg #[.int .i64 p,.slice A k c],.slice D r d] w fun e w'=>e=.returned (.bool false)∧Below w.heap.size w w':=by
 have hB0:Below w.heap.size w (w.alloc (.cells #[.int .i64 p,.slice A k c] 26)):=zG.alloc (Nat.le_refl _) _
 have k0:Blk (w.alloc (.cells #[.int .i64 p,.slice A k c] 26)) w.heap.size 26 #[.int .i64 p,.slice A k c]:=Blk.new _ _ _
 have HIM:=Lib.hid fun w' (h:Below w.heap.size w w')=>qw p D r d M w' hp0 hp1 hr (hd.below h) hM
 rw[hb]at HIM
 have HDS:=Lib.hid fun w'=>z8 p A k c w' hk
 have hpk:pw k≤16:=yz hk
 have hpos:=yq k
 obtain⟨N,hN⟩:∃ N,N=pw k:=⟨_,rfl⟩
 rw[← hN]at HDS hpk hpos h1
 clear hN
 have t4:((r:Int) == (N:Int))=false:=by rw[beq_eq_false_iff_ne];omega
 clear h1
 clear hM hd hb
 obtain⟨q0,q1⟩:=k0.two
 go_enter Tryz.func99,Tryz.ntmps99
 go_wp2
 refine yh 21 [[],[0],[],[0,1,2],[0,1,2,3],[0,1,2,3,4],[0,1,2,3,4,5],[0,1,2,3,4],[0,1,2,3,4,7],[0,1,2,3,4,5,6,7,8],[0,1,2,3,4,5,6,7,8,9],[0,1,2,3,4,5,6,7,8,9,10],[0,1,2,3,4,5,6,7,8,9,10,11],[0,1,2,3,4,5,6,7,8,9,10,11,12],[0,1,2,3,4,5,6,7,8,9,10,11,12,13],[0,1,2,3,4,5,6,7,8,9,10,11,12,13,14],[0,1,2,3,4,5,6,7,8,9,10,11],[0,1,2,3,4,5,6,7,8,9,10,11,16],[0,1,2,3,4,5,6,7,8,9,10,11,12,13,14,15,16,17],[0,1,2,3,4,5,6,7,8,9,10,11,12,13,14,15,16,17,18],[0,1,2,3,4,5,6,7,8,9,10,11,12,13,14,15,16,17,18,19]] [VIs (.agg #[.int .i64 p,.slice A k c]),VIs (.int .i64 (p)),VIs (.slice D r d),VIs (.bool true),VIs (.bool true),VIs (.slice D r d),VIs (.int .i64 (r)),VIs (.agg #[.int .i64 p,.slice A k c]),VIs (.int .i64 (N)),VIs (.bool false),VIs (.bool false),VIs (.bool false),VIs undef,VIs undef,VIs undef,VIs undef,VIs undef,VIs undef,VIs undef,VIs (.bool false),VIs (.bool false)] (fun w'=>Blk w' w.heap.size 26 #[.int .i64 p,.slice A k c]∧Below w.heap.size w w') (by kernel_rfl) (by kernel_rfl) (fun _ _ h hb=>⟨h.1.below hb h.1.lt,h.2.trans (hb.mono h.2.size)⟩) (⟨k0.drew,hB0.drew⟩) (fun x=>?_)
 refine zS (fun w' hS hV K hK=>?_) ?_
 ·obtain⟨q0,q1⟩:=hS.1.two;go_simp;exact zO hK
 refine zS (fun w' hS hV K hK=>?_) ?_
 ·have e0:=zQ hV 0;obtain⟨q0,q1⟩:=hS.1.two;go_simp;refine (zb p A k c w').mono ?_;rintro e v1 ⟨rfl,hb⟩;exact hK.out _ _ _ rfl rfl rfl hb
 refine zS (fun w' hS hV K hK=>?_) ?_
 ·obtain⟨q0,q1⟩:=hS.1.two;go_simp;exact zO hK
 refine zS (fun w' hS hV K hK=>?_) ?_
 ·have e1:=zQ hV 1;have e2:=zQ hV 2;obtain⟨q0,q1⟩:=hS.1.two;go_simp;refine (HIM.out _ hS.2).mono ?_;rintro e v1 ⟨rfl,rfl⟩;exact zO hK
 refine zS (fun w' hS hV K hK=>?_) ?_
 ·have e3:=zQ hV 3;obtain⟨q0,q1⟩:=hS.1.two;go_simp;exact zO hK
 refine zS (fun w' hS hV K hK=>?_) ?_
 ·have e4:=zQ hV 4;obtain⟨q0,q1⟩:=hS.1.two;go_simp;exact zO hK
 refine zS (fun w' hS hV K hK=>?_) ?_
 ·have e4:=zQ hV 4;have e5:=zQ hV 5;obtain⟨q0,q1⟩:=hS.1.two;go_simp;exact zO hK
 refine zS (fun w' hS hV K hK=>?_) ?_
 ·have e4:=zQ hV 4;obtain⟨q0,q1⟩:=hS.1.two;go_simp;exact zO hK
 refine zS (fun w' hS hV K hK=>?_) ?_
 ·have e4:=zQ hV 4;have e7:=zQ hV 7;obtain⟨q0,q1⟩:=hS.1.two;go_simp;refine (HDS.out w').mono ?_;rintro e v1 ⟨rfl,hb⟩;exact hK.out _ _ _ rfl rfl rfl hb
 refine zS (fun w' hS hV K hK=>?_) ?_
 ·have e4:=zQ hV 4;have e6:=zQ hV 6;have e8:=zQ hV 8;obtain⟨q0,q1⟩:=hS.1.two;go_simp;exact zO hK
 refine zS (fun w' hS hV K hK=>?_) ?_
 ·have e4:=zQ hV 4;have e9:=zQ hV 9;obtain⟨q0,q1⟩:=hS.1.two;go_simp;exact zO hK
 refine zS (fun w' hS hV K hK=>?_) ?_
 ·have e10:=zQ hV 10;obtain⟨q0,q1⟩:=hS.1.two;go_simp;exact zO hK
 refine zS (fun w' hS hV K hK=>?_) ?_
 ·have e11:=zQ hV 11;obtain⟨q0,q1⟩:=hS.1.two;go_simp;exact zO hK
 refine zS (fun w' hS hV K hK=>?_) ?_
 ·have e11:=zQ hV 11;have e12:=zQ hV 12;obtain⟨q0,q1⟩:=hS.1.two;go_simp;exact zO hK
 refine zS (fun w' hS hV K hK=>?_) ?_
 ·have e11:=zQ hV 11;have e13:=zQ hV 13;obtain⟨q0,q1⟩:=hS.1.two;go_simp;exact zO hK
 refine zS (fun w' hS hV K hK=>?_) ?_
 ·have e11:=zQ hV 11;have e14:=zQ hV 14;obtain⟨q0,q1⟩:=hS.1.two;go_simp;exact zO hK
 refine zS (fun w' hS hV K hK=>?_) ?_
 ·have e11:=zQ hV 11;obtain⟨q0,q1⟩:=hS.1.two;go_simp;exact zO hK
 refine zS (fun w' hS hV K hK=>?_) ?_
 ·have e11:=zQ hV 11;have e16:=zQ hV 16;obtain⟨q0,q1⟩:=hS.1.two;go_simp;exact zO hK
 refine zS (fun w' hS hV K hK=>?_) ?_
 ·have e11:=zQ hV 11;have e15:=zQ hV 15;have e17:=zQ hV 17;obtain⟨q0,q1⟩:=hS.1.two;go_simp;exact zO hK
 refine zS (fun w' hS hV K hK=>?_) ?_
 ·have e11:=zQ hV 11;have e18:=zQ hV 18;obtain⟨q0,q1⟩:=hS.1.two;go_simp;exact zO hK
 refine zS (fun w' hS hV K hK=>?_) ?_
 ·have e19:=zQ hV 19;obtain⟨q0,q1⟩:=hS.1.two;go_simp;exact zO hK
 refine fun w' hS hV=>?_
 have e0:=zT hV 0
 have e1:=zT hV 1
 have e2:=zT hV 2
 have e3:=zT hV 3
 have e4:=zT hV 4
 have e5:=zT hV 5
 have e6:=zT hV 6
 have e7:=zT hV 7
 have e8:=zT hV 8
 have e9:=zT hV 9
 have e10:=zT hV 10
 have e11:=zT hV 11
 have e12:=zT hV 12
 have e13:=zT hV 13
 have e14:=zT hV 14
 have e15:=zT hV 15
 have e16:=zT hV 16
 have e17:=zT hV 17
 have e18:=zT hV 18
 have e19:=zT hV 19
 have e20:=zT hV 20
 simp only[e0,e1,e2,e3,e4,e5,e6,e7,e8,e9,e10,e11,e12,e13,e14,e15,e16,e17,e18,e19,e20]
 clear e0 e1 e2 e3 e4 e5 e6 e7 e8 e9 e10 e11 e12 e13 e14 e15 e16 e17 e18 e19 e20
 refine wpAny_done (by kernel_rfl) ?_ _
 have hb9:=hS.2
 go_wp2
 go_ret
 exact⟨rfl,hb9⟩
set_option maxHeartbeats 1600000 in
set_option maxRecDepth 8000 in
theorem yfl (p:Int) (A:Option Addr) (k c:Nat) (D:Option Addr) (r d:Nat) (M:List (List Int)) (w:World) (hp0:0<p) (hp1:p≤13) (hk:k≤4) (hr:r≤1048576) (hd:RdII w D r M) (hM:∀ x∈M,x.length≤1048576) (hb:(decide (0<r) && isTb p M)=true) (h1:r=pw k) (h2:(M.getD 0 []).length≠pw k) :
 Calls Tryz.prog 99 #[.agg #[.int .i64 p,.slice A k c],.slice D r d] w fun e w'=>e=.returned (.bool false)∧Below w.heap.size w w':=by
 have hB0:Below w.heap.size w (w.alloc (.cells #[.int .i64 p,.slice A k c] 26)):=zG.alloc (Nat.le_refl _) _
 have k0:Blk (w.alloc (.cells #[.int .i64 p,.slice A k c] 26)) w.heap.size 26 #[.int .i64 p,.slice A k c]:=Blk.new _ _ _
 have HIM:=Lib.hid fun w' (h:Below w.heap.size w w')=>qw p D r d M w' hp0 hp1 hr (hd.below h) hM
 rw[hb]at HIM
 have HDS:=Lib.hid fun w'=>z8 p A k c w' hk
 have hpk:pw k≤16:=yz hk
 have hpos:=yq k
 obtain⟨N,hN⟩:∃ N,N=pw k:=⟨_,rfl⟩
 rw[← hN]at HDS hpk hpos h1 h2
 clear hN
 obtain⟨g,o,rfl,hx0,A0,c0,hc0, -, -⟩:=(hd.below hB0).at_ (show 0<r by omega)
 have hm0:M[0].length=(M.getD 0 []).length:=by rw[List.getD_eq_getElem?_getD,List.getElem?_eq_getElem hx0];rfl
 rw[hm0,Nat.add_zero]at hc0
 obtain⟨m,hm⟩:∃ m,m=(M.getD 0 []).length:=⟨_,rfl⟩
 rw[← hm]at hc0 h2
 clear hm0 hm
 obtain rfl:r=N:=h1
 have hr0:0<r:=hpos
 have t4:((r:Int) == (r:Int))=true:=by simp
 have t5:((m:Int) == (r:Int))=false:=by rw[beq_eq_false_iff_ne];omega
 clear h2
 clear hM hd hb
 obtain⟨q0,q1⟩:=k0.two
 go_enter Tryz.func99,Tryz.ntmps99
 go_wp2
 refine yh 21 [[],[0],[],[0,1,2],[0,1,2,3],[0,1,2,3,4],[0,1,2,3,4,5],[0,1,2,3,4],[0,1,2,3,4,7],[0,1,2,3,4,5,6,7,8],[0,1,2,3,4,5,6,7,8,9],[0,1,2,3,4,5,6,7,8,9,10],[0,1,2,3,4,5,6,7,8,9,10,11],[0,1,2,3,4,5,6,7,8,9,10,11,12],[0,1,2,3,4,5,6,7,8,9,10,11,12,13],[0,1,2,3,4,5,6,7,8,9,10,11,12,13,14],[0,1,2,3,4,5,6,7,8,9,10,11],[0,1,2,3,4,5,6,7,8,9,10,11,16],[0,1,2,3,4,5,6,7,8,9,10,11,12,13,14,15,16,17],[0,1,2,3,4,5,6,7,8,9,10,11,12,13,14,15,16,17,18],[0,1,2,3,4,5,6,7,8,9,10,11,12,13,14,15,16,17,18,19]] [VIs (.agg #[.int .i64 p,.slice A k c]),VIs (.int .i64 (p)),VIs (.slice (some ⟨g,o,none⟩) r d),VIs (.bool true),VIs (.bool true),VIs (.slice (some ⟨g,o,none⟩) r d),VIs (.int .i64 (r)),VIs (.agg #[.int .i64 p,.slice A k c]),VIs (.int .i64 (r)),VIs (.bool true),VIs (.bool true),VIs (.bool true),VIs (.slice (some ⟨g,o,none⟩) r d),VIs (.pointer (some ⟨g,o,none⟩)),VIs (.slice A0 m c0),VIs (.int .i64 (m)),VIs (.agg #[.int .i64 p,.slice A k c]),VIs (.int .i64 (r)),VIs (.bool false),VIs (.bool false),VIs (.bool false)] (fun w'=>w'.cell? ⟨g,o,none⟩=some (.slice A0 m c0)∧Blk w' w.heap.size 26 #[.int .i64 p,.slice A k c]∧Below w.heap.size w w') (by kernel_rfl) (by kernel_rfl) (fun _ _ h hb=>⟨(hb.cell (World.block_lt_of_cell? _ _ h.1)).trans h.1,h.2.1.below hb h.2.1.lt,h.2.2.trans (hb.mono h.2.2.size)⟩) (⟨hc0,k0.drew,hB0.drew⟩) (fun x=>?_)
 refine zS (fun w' hS hV K hK=>?_) ?_
 ·have q2:=hS.1;obtain⟨q0,q1⟩:=hS.2.1.two;go_simp;exact zO hK
 refine zS (fun w' hS hV K hK=>?_) ?_
 ·have e0:=zQ hV 0;have q2:=hS.1;obtain⟨q0,q1⟩:=hS.2.1.two;go_simp;refine (zb p A k c w').mono ?_;rintro e v1 ⟨rfl,hb⟩;exact hK.out _ _ _ rfl rfl rfl hb
 refine zS (fun w' hS hV K hK=>?_) ?_
 ·have q2:=hS.1;obtain⟨q0,q1⟩:=hS.2.1.two;go_simp;exact zO hK
 refine zS (fun w' hS hV K hK=>?_) ?_
 ·have e1:=zQ hV 1;have e2:=zQ hV 2;have q2:=hS.1;obtain⟨q0,q1⟩:=hS.2.1.two;go_simp;refine (HIM.out _ hS.2.2).mono ?_;rintro e v1 ⟨rfl,rfl⟩;exact zO hK
 refine zS (fun w' hS hV K hK=>?_) ?_
 ·have e3:=zQ hV 3;have q2:=hS.1;obtain⟨q0,q1⟩:=hS.2.1.two;go_simp;exact zO hK
 refine zS (fun w' hS hV K hK=>?_) ?_
 ·have e4:=zQ hV 4;have q2:=hS.1;obtain⟨q0,q1⟩:=hS.2.1.two;go_simp;exact zO hK
 refine zS (fun w' hS hV K hK=>?_) ?_
 ·have e4:=zQ hV 4;have e5:=zQ hV 5;have q2:=hS.1;obtain⟨q0,q1⟩:=hS.2.1.two;go_simp;exact zO hK
 refine zS (fun w' hS hV K hK=>?_) ?_
 ·have e4:=zQ hV 4;have q2:=hS.1;obtain⟨q0,q1⟩:=hS.2.1.two;go_simp;exact zO hK
 refine zS (fun w' hS hV K hK=>?_) ?_
 ·have e4:=zQ hV 4;have e7:=zQ hV 7;have q2:=hS.1;obtain⟨q0,q1⟩:=hS.2.1.two;go_simp;refine (HDS.out w').mono ?_;rintro e v1 ⟨rfl,hb⟩;exact hK.out _ _ _ rfl rfl rfl hb
 refine zS (fun w' hS hV K hK=>?_) ?_
 ·have e4:=zQ hV 4;have e6:=zQ hV 6;have e8:=zQ hV 8;have q2:=hS.1;obtain⟨q0,q1⟩:=hS.2.1.two;go_simp;exact zO hK
 refine zS (fun w' hS hV K hK=>?_) ?_
 ·have e4:=zQ hV 4;have e9:=zQ hV 9;have q2:=hS.1;obtain⟨q0,q1⟩:=hS.2.1.two;go_simp;exact zO hK
 refine zS (fun w' hS hV K hK=>?_) ?_
 ·have e10:=zQ hV 10;have q2:=hS.1;obtain⟨q0,q1⟩:=hS.2.1.two;go_simp;exact zO hK
 refine zS (fun w' hS hV K hK=>?_) ?_
 ·have e11:=zQ hV 11;have q2:=hS.1;obtain⟨q0,q1⟩:=hS.2.1.two;go_simp;exact zO hK
 refine zS (fun w' hS hV K hK=>?_) ?_
 ·have e11:=zQ hV 11;have e12:=zQ hV 12;have q2:=hS.1;obtain⟨q0,q1⟩:=hS.2.1.two;go_simp;exact zO hK
 refine zS (fun w' hS hV K hK=>?_) ?_
 ·have e11:=zQ hV 11;have e13:=zQ hV 13;have q2:=hS.1;obtain⟨q0,q1⟩:=hS.2.1.two;go_simp;exact zO hK
 refine zS (fun w' hS hV K hK=>?_) ?_
 ·have e11:=zQ hV 11;have e14:=zQ hV 14;have q2:=hS.1;obtain⟨q0,q1⟩:=hS.2.1.two;go_simp;exact zO hK
 refine zS (fun w' hS hV K hK=>?_) ?_
 ·have e11:=zQ hV 11;have q2:=hS.1;obtain⟨q0,q1⟩:=hS.2.1.two;go_simp;exact zO hK
 refine zS (fun w' hS hV K hK=>?_) ?_
 ·have e11:=zQ hV 11;have e16:=zQ hV 16;have q2:=hS.1;obtain⟨q0,q1⟩:=hS.2.1.two;go_simp;refine (HDS.out w').mono ?_;rintro e v1 ⟨rfl,hb⟩;exact hK.out _ _ _ rfl rfl rfl hb
 refine zS (fun w' hS hV K hK=>?_) ?_
 ·have e11:=zQ hV 11;have e15:=zQ hV 15;have e17:=zQ hV 17;have q2:=hS.1;obtain⟨q0,q1⟩:=hS.2.1.two;go_simp;exact zO hK
 refine zS (fun w' hS hV K hK=>?_) ?_
 ·have e11:=zQ hV 11;have e18:=zQ hV 18;have q2:=hS.1;obtain⟨q0,q1⟩:=hS.2.1.two;go_simp;exact zO hK
 refine zS (fun w' hS hV K hK=>?_) ?_
 ·have e19:=zQ hV 19;have q2:=hS.1;obtain⟨q0,q1⟩:=hS.2.1.two;go_simp;exact zO hK
 refine fun w' hS hV=>?_
 have e0:=zT hV 0
 have e1:=zT hV 1
 have e2:=zT hV 2
 have e3:=zT hV 3
 have e4:=zT hV 4
 have e5:=zT hV 5
 have e6:=zT hV 6
 have e7:=zT hV 7
 have e8:=zT hV 8
 have e9:=zT hV 9
 have e10:=zT hV 10
 have e11:=zT hV 11
 have e12:=zT hV 12
 have e13:=zT hV 13
 have e14:=zT hV 14
 have e15:=zT hV 15
 have e16:=zT hV 16
 have e17:=zT hV 17
 have e18:=zT hV 18
 have e19:=zT hV 19
 have e20:=zT hV 20
 simp only[e0,e1,e2,e3,e4,e5,e6,e7,e8,e9,e10,e11,e12,e13,e14,e15,e16,e17,e18,e19,e20]
 clear e0 e1 e2 e3 e4 e5 e6 e7 e8 e9 e10 e11 e12 e13 e14 e15 e16 e17 e18 e19 e20
 refine wpAny_done (by kernel_rfl) ?_ _
 have hb9:=hS.2.2
 go_wp2
 go_ret
 exact⟨rfl,hb9⟩
set_option maxHeartbeats 1600000 in
set_option maxRecDepth 8000 in
theorem yfm (p:Int) (A:Option Addr) (k c:Nat) (D:Option Addr) (r d:Nat) (M:List (List Int)) (w:World) (hp0:0<p) (hp1:p≤13) (hk:k≤4) (hr:r≤1048576) (hd:RdII w D r M) (hM:∀ x∈M,x.length≤1048576) (hb:(decide (0<r) && isTb p M)=true) (h1:r=pw k) (h2:(M.getD 0 []).length=pw k) :
 Calls Tryz.prog 99 #[.agg #[.int .i64 p,.slice A k c],.slice D r d] w fun e w'=>e=.returned (.bool true)∧Below w.heap.size w w':=by
 have hB0:Below w.heap.size w (w.alloc (.cells #[.int .i64 p,.slice A k c] 26)):=zG.alloc (Nat.le_refl _) _
 have k0:Blk (w.alloc (.cells #[.int .i64 p,.slice A k c] 26)) w.heap.size 26 #[.int .i64 p,.slice A k c]:=Blk.new _ _ _
 have HIM:=Lib.hid fun w' (h:Below w.heap.size w w')=>qw p D r d M w' hp0 hp1 hr (hd.below h) hM
 rw[hb]at HIM
 have HDS:=Lib.hid fun w'=>z8 p A k c w' hk
 have hpk:pw k≤16:=yz hk
 have hpos:=yq k
 obtain⟨N,hN⟩:∃ N,N=pw k:=⟨_,rfl⟩
 rw[← hN]at HDS hpk hpos h1 h2
 clear hN
 obtain⟨g,o,rfl,hx0,A0,c0,hc0, -, -⟩:=(hd.below hB0).at_ (show 0<r by omega)
 have hm0:M[0].length=(M.getD 0 []).length:=by rw[List.getD_eq_getElem?_getD,List.getElem?_eq_getElem hx0];rfl
 rw[hm0,Nat.add_zero]at hc0
 obtain⟨m,hm⟩:∃ m,m=(M.getD 0 []).length:=⟨_,rfl⟩
 rw[← hm]at hc0 h2
 clear hm0 hm
 obtain rfl:r=N:=h1
 obtain rfl:m=r:=h2
 have hr0:0<m:=hpos
 have t4:((m:Int) == (m:Int))=true:=by simp
 clear hM hd hb
 obtain⟨q0,q1⟩:=k0.two
 go_enter Tryz.func99,Tryz.ntmps99
 go_wp2
 refine yh 21 [[],[0],[],[0,1,2],[0,1,2,3],[0,1,2,3,4],[0,1,2,3,4,5],[0,1,2,3,4],[0,1,2,3,4,7],[0,1,2,3,4,5,6,7,8],[0,1,2,3,4,5,6,7,8,9],[0,1,2,3,4,5,6,7,8,9,10],[0,1,2,3,4,5,6,7,8,9,10,11],[0,1,2,3,4,5,6,7,8,9,10,11,12],[0,1,2,3,4,5,6,7,8,9,10,11,12,13],[0,1,2,3,4,5,6,7,8,9,10,11,12,13,14],[0,1,2,3,4,5,6,7,8,9,10,11],[0,1,2,3,4,5,6,7,8,9,10,11,16],[0,1,2,3,4,5,6,7,8,9,10,11,12,13,14,15,16,17],[0,1,2,3,4,5,6,7,8,9,10,11,12,13,14,15,16,17,18],[0,1,2,3,4,5,6,7,8,9,10,11,12,13,14,15,16,17,18,19]] [VIs (.agg #[.int .i64 p,.slice A k c]),VIs (.int .i64 (p)),VIs (.slice (some ⟨g,o,none⟩) m d),VIs (.bool true),VIs (.bool true),VIs (.slice (some ⟨g,o,none⟩) m d),VIs (.int .i64 (m)),VIs (.agg #[.int .i64 p,.slice A k c]),VIs (.int .i64 (m)),VIs (.bool true),VIs (.bool true),VIs (.bool true),VIs (.slice (some ⟨g,o,none⟩) m d),VIs (.pointer (some ⟨g,o,none⟩)),VIs (.slice A0 m c0),VIs (.int .i64 (m)),VIs (.agg #[.int .i64 p,.slice A k c]),VIs (.int .i64 (m)),VIs (.bool true),VIs (.bool true),VIs (.bool true)] (fun w'=>w'.cell? ⟨g,o,none⟩=some (.slice A0 m c0)∧Blk w' w.heap.size 26 #[.int .i64 p,.slice A k c]∧Below w.heap.size w w') (by kernel_rfl) (by kernel_rfl) (fun _ _ h hb=>⟨(hb.cell (World.block_lt_of_cell? _ _ h.1)).trans h.1,h.2.1.below hb h.2.1.lt,h.2.2.trans (hb.mono h.2.2.size)⟩) (⟨hc0,k0.drew,hB0.drew⟩) (fun x=>?_)
 refine zS (fun w' hS hV K hK=>?_) ?_
 ·have q2:=hS.1;obtain⟨q0,q1⟩:=hS.2.1.two;go_simp;exact zO hK
 refine zS (fun w' hS hV K hK=>?_) ?_
 ·have e0:=zQ hV 0;have q2:=hS.1;obtain⟨q0,q1⟩:=hS.2.1.two;go_simp;refine (zb p A k c w').mono ?_;rintro e v1 ⟨rfl,hb⟩;exact hK.out _ _ _ rfl rfl rfl hb
 refine zS (fun w' hS hV K hK=>?_) ?_
 ·have q2:=hS.1;obtain⟨q0,q1⟩:=hS.2.1.two;go_simp;exact zO hK
 refine zS (fun w' hS hV K hK=>?_) ?_
 ·have e1:=zQ hV 1;have e2:=zQ hV 2;have q2:=hS.1;obtain⟨q0,q1⟩:=hS.2.1.two;go_simp;refine (HIM.out _ hS.2.2).mono ?_;rintro e v1 ⟨rfl,rfl⟩;exact zO hK
 refine zS (fun w' hS hV K hK=>?_) ?_
 ·have e3:=zQ hV 3;have q2:=hS.1;obtain⟨q0,q1⟩:=hS.2.1.two;go_simp;exact zO hK
 refine zS (fun w' hS hV K hK=>?_) ?_
 ·have e4:=zQ hV 4;have q2:=hS.1;obtain⟨q0,q1⟩:=hS.2.1.two;go_simp;exact zO hK
 refine zS (fun w' hS hV K hK=>?_) ?_
 ·have e4:=zQ hV 4;have e5:=zQ hV 5;have q2:=hS.1;obtain⟨q0,q1⟩:=hS.2.1.two;go_simp;exact zO hK
 refine zS (fun w' hS hV K hK=>?_) ?_
 ·have e4:=zQ hV 4;have q2:=hS.1;obtain⟨q0,q1⟩:=hS.2.1.two;go_simp;exact zO hK
 refine zS (fun w' hS hV K hK=>?_) ?_
 ·have e4:=zQ hV 4;have e7:=zQ hV 7;have q2:=hS.1;obtain⟨q0,q1⟩:=hS.2.1.two;go_simp;refine (HDS.out w').mono ?_;rintro e v1 ⟨rfl,hb⟩;exact hK.out _ _ _ rfl rfl rfl hb
 refine zS (fun w' hS hV K hK=>?_) ?_
 ·have e4:=zQ hV 4;have e6:=zQ hV 6;have e8:=zQ hV 8;have q2:=hS.1;obtain⟨q0,q1⟩:=hS.2.1.two;go_simp;exact zO hK
 refine zS (fun w' hS hV K hK=>?_) ?_
 ·have e4:=zQ hV 4;have e9:=zQ hV 9;have q2:=hS.1;obtain⟨q0,q1⟩:=hS.2.1.two;go_simp;exact zO hK
 refine zS (fun w' hS hV K hK=>?_) ?_
 ·have e10:=zQ hV 10;have q2:=hS.1;obtain⟨q0,q1⟩:=hS.2.1.two;go_simp;exact zO hK
 refine zS (fun w' hS hV K hK=>?_) ?_
 ·have e11:=zQ hV 11;have q2:=hS.1;obtain⟨q0,q1⟩:=hS.2.1.two;go_simp;exact zO hK
 refine zS (fun w' hS hV K hK=>?_) ?_
 ·have e11:=zQ hV 11;have e12:=zQ hV 12;have q2:=hS.1;obtain⟨q0,q1⟩:=hS.2.1.two;go_simp;exact zO hK
 refine zS (fun w' hS hV K hK=>?_) ?_
 ·have e11:=zQ hV 11;have e13:=zQ hV 13;have q2:=hS.1;obtain⟨q0,q1⟩:=hS.2.1.two;go_simp;exact zO hK
 refine zS (fun w' hS hV K hK=>?_) ?_
 ·have e11:=zQ hV 11;have e14:=zQ hV 14;have q2:=hS.1;obtain⟨q0,q1⟩:=hS.2.1.two;go_simp;exact zO hK
 refine zS (fun w' hS hV K hK=>?_) ?_
 ·have e11:=zQ hV 11;have q2:=hS.1;obtain⟨q0,q1⟩:=hS.2.1.two;go_simp;exact zO hK
 refine zS (fun w' hS hV K hK=>?_) ?_
 ·have e11:=zQ hV 11;have e16:=zQ hV 16;have q2:=hS.1;obtain⟨q0,q1⟩:=hS.2.1.two;go_simp;refine (HDS.out w').mono ?_;rintro e v1 ⟨rfl,hb⟩;exact hK.out _ _ _ rfl rfl rfl hb
 refine zS (fun w' hS hV K hK=>?_) ?_
 ·have e11:=zQ hV 11;have e15:=zQ hV 15;have e17:=zQ hV 17;have q2:=hS.1;obtain⟨q0,q1⟩:=hS.2.1.two;go_simp;exact zO hK
 refine zS (fun w' hS hV K hK=>?_) ?_
 ·have e11:=zQ hV 11;have e18:=zQ hV 18;have q2:=hS.1;obtain⟨q0,q1⟩:=hS.2.1.two;go_simp;exact zO hK
 refine zS (fun w' hS hV K hK=>?_) ?_
 ·have e19:=zQ hV 19;have q2:=hS.1;obtain⟨q0,q1⟩:=hS.2.1.two;go_simp;exact zO hK
 refine fun w' hS hV=>?_
 have e0:=zT hV 0
 have e1:=zT hV 1
 have e2:=zT hV 2
 have e3:=zT hV 3
 have e4:=zT hV 4
 have e5:=zT hV 5
 have e6:=zT hV 6
 have e7:=zT hV 7
 have e8:=zT hV 8
 have e9:=zT hV 9
 have e10:=zT hV 10
 have e11:=zT hV 11
 have e12:=zT hV 12
 have e13:=zT hV 13
 have e14:=zT hV 14
 have e15:=zT hV 15
 have e16:=zT hV 16
 have e17:=zT hV 17
 have e18:=zT hV 18
 have e19:=zT hV 19
 have e20:=zT hV 20
 simp only[e0,e1,e2,e3,e4,e5,e6,e7,e8,e9,e10,e11,e12,e13,e14,e15,e16,e17,e18,e19,e20]
 clear e0 e1 e2 e3 e4 e5 e6 e7 e8 e9 e10 e11 e12 e13 e14 e15 e16 e17 e18 e19 e20
 refine wpAny_done (by kernel_rfl) ?_ _
 have hb9:=hS.2.2
 go_wp2
 go_ret
 exact⟨rfl,hb9⟩
theorem yeu (p:Int) (A:Option Addr) (k c:Nat) (D:Option Addr) (r d:Nat) (M:List (List Int)) (w:World) (hp0:0<p) (hp1:p≤13) (hk:k≤4) (hr:r≤1048576) (hd:RdII w D r M) (hM:∀ x∈M,x.length≤1048576) :
 Calls Tryz.prog 99 #[.agg #[.int .i64 p,.slice A k c],.slice D r d] w fun e w'=>e=.returned (.bool (isMx p k M))∧Below w.heap.size w w':=by
 unfold isMx
 rw[hd.len]
 cases hb:(decide (0<r) && isTb p M)
 ·exact yfj p A k c D r d M w hp0 hp1 hk hr hd hM hb
 ·by_cases h1:r=pw k
  ·by_cases h2:(M.getD 0 []).length=pw k
   ·rw[show (r == pw k)=true by simpa using h1,show ((M.getD 0 []).length == pw k)=true by simpa using h2];exact yfm p A k c D r d M w hp0 hp1 hk hr hd hM hb h1 h2
   ·rw[show (r == pw k)=true by simpa using h1,show ((M.getD 0 []).length == pw k)=false by simpa using h2];exact yfl p A k c D r d M w hp0 hp1 hk hr hd hM hb h1 h2
  ·rw[show (r == pw k)=false by simpa using h1];exact yfk p A k c D r d M w hp0 hp1 hk hr hd hM hb h1
def yH (p:Int) (st:List Int) (yss:List (List Int)) (mss:List (List (List Int))):Int:=if isDb p st=true then (if 3<st.length then 3 else if xi p st yss≠0∨(mss.any fun m=>!isMx p st.length m)=true then 2 else 0) else 1
def okM3 (M:List (List Int)):Prop:=M.length≤1048576 ∧ ∀ x∈M,x.length≤1048576
set_option maxHeartbeats 800000 in
set_option maxRecDepth 8000 in
theorem ygu (p:Int) (k:Nat) (g:Nat) (A:Option Addr) (c:Nat) (w:World) (hk4:k≤4) (hp0:0<p) (hp1:p≤13) (hk:Blk w g 26 #[.int .i64 p,.slice A k c]) :
 jd 98 #[.pointer (some ⟨g,0,none⟩)] w (fun m=>!isMx p k m) okM3:=by
 intro w' D m d ys hb hr hm
 have k0:=hk.below hb hk.lt
 obtain⟨q0,q1⟩:=k0.two
 have hml:m≤1048576:=by have:=hr.len;have:=hm.1;omega
 have his:=yeu p A k c D m d ys w' hp0 hp1 hk4 hml hr hm.2
 obtain⟨b,hb'⟩:∃ b,b=isMx p k ys:=⟨_,rfl⟩
 have HB:=Lib.hid hb'
 rw[← hb']at his
 clear hb' hm hr
 simp only[List.append_toArray,List.cons_append,List.nil_append]
 go_enter Tryz.func98,Tryz.ntmps98
 go_wp2_with fail
 refine his.mono ?_
 rintro e w1 ⟨rfl,hb1⟩
 go_wp2
 go_ret
 exact⟨yJ (by rw[← HB.out]),hb1⟩
set_option maxHeartbeats 1600000 in
set_option maxRecDepth 8000 in
theorem qe (p:Int) (A B C:Option Addr) (k c m d l dl:Nat) (st:List Int) (yss:List (List Int)) (mss:List (List (List Int))) (w:World) (hk6:k≤65536) (hm:m≤1048576) (hl:l≤1048576) (ha:Rd w A k (ints st)) (hb:RdII w B m yss) (hys:∀ ys∈yss,ys.length≤1048576) (hc:RdM3 w C l mss) (hms:∀ M∈mss,okM3 M) :
 Calls Tryz.prog 41 #[.agg #[.int .i64 p,.slice A k c],.slice B m d,.slice C l dl] w fun e w'=>e=.returned (.int .i64 (yH p st yss mss))∧Below w.heap.size w w':=by
 have hB0:Below w.heap.size w (w.alloc (.cells #[.int .i64 p,.slice A k c] 26)):=zG.alloc (Nat.le_refl _) _
 have k0:Blk (w.alloc (.cells #[.int .i64 p,.slice A k c] 26)) w.heap.size 26 #[.int .i64 p,.slice A k c]:=Blk.new _ _ _
 have his:=yaG p A k c st (w.alloc (.cells #[.int .i64 p,.slice A k c] 26)) hk6 (ha.below hB0)
 have hln:st.length=k:=ha.lenI
 obtain⟨R,hR⟩:∃ R,R=yH p st yss mss:=⟨_,rfl⟩
 rw[← hR]
 obtain⟨q0,q1⟩:=k0.two
 cases hdb:isDb p st
 ·have HR:Hid (R=1):=Lib.hid (by rw[hR];unfold yH;rw[if_neg (by rw[hdb];decide)])
  rw[hdb]at his
  clear hR hdb hln
  go_enter Tryz.func41,Tryz.ntmps41
  go_wp2_with fail
  refine his.mono ?_
  rintro e w1 ⟨rfl,hb1⟩
  go_wp2
  go_ret
  exact⟨by rw[HR.out];rfl,hB0.trans (hb1.mono hB0.size)⟩
 rw[hdb]at his
 by_cases h3:3<k
 ·have HR:Hid (R=3):=Lib.hid (by rw[hR];unfold yH;rw[if_pos hdb,if_pos (by omega)])
  have t3:decide ((3:Int)<(k:Int))=true:=by simp;omega
  clear hR hdb hln
  go_enter Tryz.func41,Tryz.ntmps41
  go_wp2_with fail
  refine his.mono ?_
  rintro e w1 ⟨rfl,hb1⟩
  have k1:=k0.below hb1 k0.lt
  have hB1:=hB0.trans (hb1.mono hB0.size)
  clear q0 q1 his hb1 k0 hB0
  obtain⟨q0,q1⟩:=k1.two
  go_wp2
  go_ret
  exact⟨by rw[HR.out];rfl,hB1⟩
 have t3:decide ((3:Int)<(k:Int))=false:=by simp;omega
 obtain⟨hP, -,hnum⟩:=ze hdb
 have hge:=yk hP
 have hch:=fun w' (h:Below w.heap.size w w')=>ydO p A B k c m d st yss w' hk6 hm (ha.below h) (hb.below h) hys
 by_cases hcd:xi p st yss=0
 ·have HR:Hid (R=if (mss.any fun m=>!isMx p k m)=true then 2 else 0):=Lib.hid (by
   rw[hR];unfold yH
   rw[if_pos hdb,if_neg (by omega),hcd,hln]
   simp)
  rw[hcd]at hch
  clear hR hdb hln hcd hP hnum
  go_enter Tryz.func41,Tryz.ntmps41
  go_wp2_with fail
  refine his.mono ?_
  rintro e w1 ⟨rfl,hb1⟩
  have k1:=k0.below hb1 k0.lt
  have hB1:=hB0.trans (hb1.mono hB0.size)
  clear q0 q1 his hb1 k0 hB0
  obtain⟨q0,q1⟩:=k1.two
  go_wp2_with fail
  refine (hch _ hB1).mono ?_
  rintro e w2 ⟨rfl,hb2⟩
  have k2:=k1.below hb2 k1.lt
  have hB2:=hB1.trans (hb2.mono hB1.size)
  clear q0 q1 hb2 k1 hB1 hch
  obtain⟨q0,q1⟩:=k2.two
  have hT:=ygu p k w.heap.size A c w2 (by omega) (by omega) (by omega) k2
  go_wp2_with fail
  refine (ydl _ _ _ _ _ _ _ _ _ (by omega) (hc.below hB2) hms hT (fun _ _=>rfl)).mono ?_
  rintro e w3 ⟨rfl,hb3⟩
  have hB3:=hB2.trans (hb3.mono hB2.size)
  cases ht:(mss.any fun m=>!isMx p k m)
  ·rw[ht]at HR
   go_wp2
   go_ret
   exact⟨by rw[HR.out];rfl,hB3⟩
  ·rw[ht]at HR
   go_wp2
   go_ret
   exact⟨by rw[HR.out];rfl,hB3⟩
 ·have HR:Hid (R=2):=Lib.hid (by
   rw[hR];unfold yH
   rw[if_pos hdb,if_neg (by omega),if_pos (.inl hcd)])
  obtain⟨cd,hcd2⟩:∃ cd,cd=xi p st yss:=⟨_,rfl⟩
  rw[← hcd2]at hch hcd
  have t5:(cd == 0)=false:=by simpa using hcd
  have t6:(cd != 0)=true:=by simpa using hcd
  clear hR hdb hln hcd hcd2 hP hnum
  go_enter Tryz.func41,Tryz.ntmps41
  go_wp2_with fail
  refine his.mono ?_
  rintro e w1 ⟨rfl,hb1⟩
  have k1:=k0.below hb1 k0.lt
  have hB1:=hB0.trans (hb1.mono hB0.size)
  clear q0 q1 his hb1 k0 hB0
  obtain⟨q0,q1⟩:=k1.two
  go_wp2_with fail
  refine (hch _ hB1).mono ?_
  rintro e w2 ⟨rfl,hb2⟩
  have hB2:=hB1.trans (hb2.mono hB1.size)
  go_wp2
  go_ret
  exact⟨by rw[HR.out];rfl,hB2⟩
theorem ya3 (p:Int) (st:List Int):yH p st [] []=if isDb p st=true then (if 3<st.length then 3 else 0) else 1:=by
 unfold yH xi
 cases h:isDb p st
 ·rfl
 ·simp
set_option maxHeartbeats 1600000 in
set_option maxRecDepth 8000 in
theorem ybX (p:Int) (A:Option Addr) (k c:Nat) (st:List Int) (w:World) (hk6:k≤1048576) (ha:Rd w A k (ints st)) :
 Calls Tryz.prog 42 #[.agg #[.int .i64 p,.slice A k c]] w fun e w'=>e=.returned (.int .i64 (yH p st [] []))∧Below w.heap.size w w':=by
 have hB0:Below w.heap.size w (w.alloc (.cells #[.int .i64 p,.slice A k c] 26)):=zG.alloc (Nat.le_refl _) _
 have k0:Blk (w.alloc (.cells #[.int .i64 p,.slice A k c] 26)) w.heap.size 26 #[.int .i64 p,.slice A k c]:=Blk.new _ _ _
 have his:=qy p A k c st (w.alloc (.cells #[.int .i64 p,.slice A k c] 26)) hk6 (ha.below hB0)
 have hln:st.length=k:=ha.lenI
 obtain⟨R,hR⟩:∃ R,R=yH p st [] []:=⟨_,rfl⟩
 rw[← hR]
 rw[ya3,hln]at hR
 obtain⟨q0,q1⟩:=k0.two
 cases hdb:isDb p st
 ·have HR:Hid (R=1):=Lib.hid (by rw[hR,hdb];rfl)
  rw[hdb]at his
  clear hR hdb hln
  go_enter Tryz.func42,Tryz.ntmps42
  go_wp2_with fail
  refine his.mono ?_
  rintro e w1 ⟨rfl,hb1⟩
  go_wp2
  go_ret
  exact⟨by rw[HR.out];rfl,hB0.trans (hb1.mono hB0.size)⟩
 rw[hdb]at his
 by_cases h3:3<k
 ·have HR:Hid (R=3):=Lib.hid (by rw[hR,hdb,if_pos rfl,if_pos h3])
  have t3:decide ((3:Int)<(k:Int))=true:=by simp;omega
  clear hR hdb hln
  go_enter Tryz.func42,Tryz.ntmps42
  go_wp2_with fail
  refine his.mono ?_
  rintro e w1 ⟨rfl,hb1⟩
  have k1:=k0.below hb1 k0.lt
  have hB1:=hB0.trans (hb1.mono hB0.size)
  clear q0 q1 his hb1 k0 hB0
  obtain⟨q0,q1⟩:=k1.two
  go_wp2
  go_ret
  exact⟨by rw[HR.out];rfl,hB1⟩
 ·have HR:Hid (R=0):=Lib.hid (by rw[hR,hdb,if_pos rfl,if_neg h3])
  have t3:decide ((3:Int)<(k:Int))=false:=by simp;omega
  clear hR hdb hln
  go_enter Tryz.func42,Tryz.ntmps42
  go_wp2_with fail
  refine his.mono ?_
  rintro e w1 ⟨rfl,hb1⟩
  have k1:=k0.below hb1 k0.lt
  have hB1:=hB0.trans (hb1.mono hB0.size)
  clear q0 q1 his hb1 k0 hB0
  obtain⟨q0,q1⟩:=k1.two
  go_wp2
  go_ret
  exact⟨by rw[HR.out];rfl,hB1⟩
theorem qu {p:Int} {k:Nat} {ys:List Int} (h:isEl p k ys=true):ys.length=pw k∧NumsL p ys:=by
 unfold isEl at h
 rw[Bool.and_eq_true]at h
 exact⟨by have:=h.1;simp at this;omega,ycn h.2⟩
theorem vm {p:Int} {st:List Int} {yss:List (List Int)} {mss:List (List (List Int))} (h:yH p st yss mss=0):isDb p st=true∧st.length≤3∧(∀ ys∈yss,ys.length=pw st.length∧NumsL p ys) ∧ ∀ m∈mss,isMx p st.length m=true:=by
 unfold yH at h
 split at h
 ·rename_i hdb
  split at h
  ·omega
  ·rename_i h3
   split at h
   ·omega
   ·rename_i h2
    refine⟨hdb,by omega,fun ys hy=>?_,fun m hm=>?_⟩
    ·refine qu ?_
     cases he:isEl p st.length ys
     ·exact absurd (.inl (by unfold xi;rw[if_pos hdb,if_pos (List.any_eq_true.2 ⟨ys,hy,by rw[he];rfl⟩)];decide)) h2
     ·rfl
    ·cases he:isMx p st.length m
     ·exact absurd (.inr (List.any_eq_true.2 ⟨m,hm,by rw[he];rfl⟩)) h2
     ·rfl
 ·omega
theorem ye8 {p:Int} (hp:0<p) (k:Nat) (st x y:List Int):Tab p (pw k) (innM p k st x y):=by
 have h:Tab p (pw k) (tab (pw k) fun i=>innL p k st x y (ye (pw k) i)):=Tab.tab fun i _=>⟨ybF _ _ _ _ _ _,ybG hp _ _ _ _ _⟩
 have:=yau hp h
 rwa [yG]at this
theorem yar {g o c m lo hi:Nat} (w:World) (h1:lo≤hi) (h2:hi≤c) (h3:lo<c):(Instr.slice 24 (.slice (some ⟨g,o,none⟩) m c) (some (.int .i64 (lo:Int))) (some (.int .i64 (hi:Int))) none).run Tryz.prog w=.ok (.slice (some ⟨g,o+lo,none⟩) (hi-lo) (c-lo)) w:=by
 have h:=run_slice_lh (P:=Tryz.prog) (w:=w) (t:=24) (a:=some ⟨g,o,none⟩) (len:=m) (cap:=c) (ht:=by kernel_rfl) (kl:=.i64) (kh:=.i64) (l:=(lo:Int)) (h:=(hi:Int)) (h0:=by omega) (h1:=by omega) (h2:=by omega)
 have hne:c≠lo:=by omega
 rw[h]
 simp[go_sem,sliced,hne,Addr.add]
def yj (xs:List Int) (n cnt:Nat):List (List Int):=tab cnt fun i=>(xs.drop (i*n)).take n
theorem zj (xs:List Int) (n cnt:Nat):(yj xs n cnt).length=cnt:=yG _ _
theorem qQ {p:Int} {xs:List Int} (hx:NumsL p xs) (n cnt:Nat) (hl:xs.length=cnt*n):Tab p n (yj xs n cnt):=Tab.tab fun i hi=>by
 refine⟨?_,fun v hv=>hx v (List.mem_of_mem_drop (List.mem_of_mem_take hv))⟩
 rw[List.length_take,List.length_drop,hl]
 have:=Nat.mul_le_mul_right n (show i+1≤cnt by omega)
 rw[Nat.add_mul,Nat.one_mul]at this
 omega
theorem yan {xs:List Int} {n cnt i j:Nat} (hi:i<cnt) (hj:j<n):ent (yj xs n cnt) i j=xs.getD (i*n+j) 0:=by
 unfold ent yj
 rw[yC hi,uk hj,uA]
set_option maxHeartbeats 1600000 in
set_option maxRecDepth 8000 in
theorem yha (X:Option Addr) (m cx:Nat) (xs:List Int) (n cnt:Nat) (w:World) (h0:0<n) (hn:n≤64) (hcnt:cnt≤1000) (hm:m=cnt*n) (hcx:m≤cx) (hx:Rd w X m (ints xs)) :
 Calls Tryz.prog 75 #[.slice X m cx,.int .i64 n] w fun e w'=>∃ A' c',e=.returned (.slice A' cnt c')∧MkII w w' A' cnt c' (yj xs n cnt):=by
 have hM0:MkII w (w.alloc (.cells #[] 24)) (some ⟨w.heap.size,0,none⟩) 0 0 []:=MkII.empty zG
 have hmB:m≤64000:=by rw[hm];exact Nat.mul_le_mul hcnt hn
 have HM:=Lib.hid hm
 have HXL:=Lib.hid hx.lenI
 clear hm
 go_enter Tryz.func75,Tryz.ntmps75
 go_wp2
 go_loopw [5,6] (fun out i wr=>∃ (j t:Nat) (A':Option Addr) (c':Nat),j≤cnt∧i=.int .i64 t∧Hid (t=j*n)∧t≤64000∧out=.slice A' j c'∧Hid (MkII w wr A' j c' (yj xs n j))) (fun _ i _=>m-(intOf i).toNat)
 case atStart=>exact⟨0,0,_,_,by omega,rfl,Lib.hid (by simp),by omega,rfl,Lib.hid hM0⟩
 case round=>
  obtain⟨j,t,A',c',hj,rfl,HTT,ht,rfl,HMM⟩:=hrel
  clear hM0
  by_cases hlt:t<m
  ·have hjc:j<cnt:=by
    refine Nat.lt_of_le_of_ne hj fun e=>?_
    have h1:=HTT.out
    have h2:=HM.out
    rw[e]at h1
    omega
   have htn:t+n≤m:=by
    have h1:=HTT.out
    have h2:=HM.out
    have h3:=Nat.mul_le_mul_right n (show j+1≤cnt by omega)
    rw[Nat.add_mul,Nat.one_mul]at h3
    omega
   obtain⟨gx,ox,rfl,hx2⟩:=(hx.below HMM.out.b).behind hlt
   have hx3:=hx2.cut (show n≤m-t by omega)
   rw[vc,qs]at hx3
   have s1:=fun w=>yar (g:=gx) (o:=ox) (c:=cx) (m:=m) (lo:=t) (hi:=t+n) w (by omega) (by omega) (by omega)
   simp only[Nat.add_sub_cancel_left]at s1
   have e1:((t+n:Nat):Int)=(t:Int)+(n:Int):=by omega
   rw[e1]at s1
   have hcl:=jl (some ⟨gx,ox+t,none⟩) n (cx-t) ((xs.drop t).take n) wr (by omega) hx3
   have HT2:Hid (t+n=(j+1)*n):=Lib.hid (by rw[HTT.out,Nat.add_mul,Nat.one_mul])
   have HRO:Hid (yj xs n (j+1)=yj xs n j++[(xs.drop t).take n]):=Lib.hid (by unfold yj;rw[yQ,← HTT.out])
   clear hx hx2 hx3 e1
   go_wp2_with fail
   refine hcl.mono ?_
   rintro e w1 ⟨A1,c1,rfl,hM1⟩
   clear hcl
   go_wp2_with (at_builtin;refine vw w wr _ rfl _ _ rfl A' j c' _ A1 n c1 _ HMM.out hM1 (by omega) rfl ?_ ?_;(go_simp);intro A4 c4 w4 hM4)
   go_roundw
   case rel=>exact⟨j+1,t+n,A4,c4,by omega,by go_num,HT2,by omega,rfl,Lib.hid (by rw[HRO.out];exact hM4)⟩
   case measure=>simp[intOf];omega
  ·obtain rfl:j=cnt:=by
    refine Nat.le_antisymm hj (Nat.le_of_not_lt fun h=>hlt ?_)
    have h1:=HTT.out
    have h2:=HM.out
    have h3:=Nat.mul_le_mul_right n (show j+1≤cnt by omega)
    rw[Nat.add_mul,Nat.one_mul]at h3
    omega
   go_wp2
   go_ret
   exact⟨_,_,rfl,HMM.out⟩
def MkM3 (w0 w:World) (A:Option Addr) (n c:Nat) (mss:List (List (List Int))):Prop:=∃ rows,Mk w0 w 32 A n c rows∧rows.length=mss.length ∧
 ∀ (k:Nat) (h:k<mss.length),∃ A' c',rows[k]? = some (.slice A' mss[k].length c')∧MkII w0 w A' mss[k].length c' mss[k]
theorem MkII.grownBy {w0 w w':World} {A:Option Addr} {n c:Nat} {xss:List (List Int)} (h:MkII w0 w A n c xss) {B:Nat} {A2:Option Addr} {n2 c2:Nat} {us:List Value} (ho:Own w w0.heap.size 32 A2 n2 c2 us) (hg:w.grownBy w' (Value.slice A2 n2 c2).ownBlock):MkII w0 w' A n c xss:=by
 obtain⟨rows,hm,hn⟩:=h
 exact⟨rows,⟨hm.1.grown hg hm.1.size (fun k hk=>(ho.lt k hk).1),hm.2.grown hg (hm.2.ne ho (by decide))⟩,hn.grown ho (by decide) hg⟩
theorem MkM3.rd {w0 w:World} {A:Option Addr} {n c:Nat} {mss:List (List (List Int))} (h:MkM3 w0 w A n c mss):RdM3 w A n mss:=by
 obtain⟨rows,hm,hl,hk⟩:=h
 exact⟨rows,hm.rd,hl,fun k hlt=>by
  obtain⟨A',c',e,ho⟩:=hk k hlt
  exact⟨A',c',e,ho.rd,by obtain⟨us,hm⟩:=ho.outer;exact hm.2.cap⟩⟩
theorem MkM3.below {w0 w w':World} {A:Option Addr} {n c:Nat} {mss:List (List (List Int))} (h:MkM3 w0 w A n c mss) (hb:Below w.heap.size w w'):MkM3 w0 w' A n c mss:=by
 obtain⟨rows,hm,hl,hk⟩:=h
 exact⟨rows,hm.below hb,hl,fun k hlt=>by obtain⟨A',c',e,ho⟩:=hk k hlt;exact⟨A',c',e,ho.below hb⟩⟩
theorem MkM3.b {w0 w:World} {A:Option Addr} {n c:Nat} {mss:List (List (List Int))} (h:MkM3 w0 w A n c mss):Below w0.heap.size w0 w:=by
 obtain⟨_,hm,_⟩:=h;exact hm.1
theorem MkM3.empty {w0 w:World} (h:Below w0.heap.size w0 w):MkM3 w0 (w.alloc (.cells #[] 32)) (some ⟨w.heap.size,0,none⟩) 0 0 []:=⟨[],Mk.lit h #[] (by simp),rfl,fun k hk=>absurd hk (by simp)⟩
theorem ybD:(Tryz.prog.info? 32).map (fun i=>(i.zero,i.size,i.bytes))=some (some (.slice none 0 0),1,24):=by kernel_rfl
theorem yit {ops:Array Oper} {rest:List Oper} {o:Oper} {a:Act} {Q:Exit→Act→World→Prop} (w0 w1:World)
 (hgd:o.guard=none) (s x:Operand) (ho:o.op=.call { callee:=.builtin .append,args:=#[s,x],argTypes:=#[52,52] })
 (A:Option Addr) (n c:Nat) (mss:List (List (List Int))) (A1:Option Addr) (m c1:Nat) (M:List (List Int)) (hM:MkM3 w0 w1 A n c mss) (hr:MkII w0 w1 A1 m c1 M) (hn:n≤1099511627776)
 (hs:a.eval s=.slice A n c) (hx:a.eval x=.slice (some ⟨w1.heap.size,0,none⟩) 1 1)
 (h:∀ A' c' w',MkM3 w0 w' A' (n+1) c' (mss++[M])→w1.grownBy w' (Value.slice A n c).ownBlock→(∃ g,A'=some ⟨g,0,none⟩∧((Value.slice A n c).ownBlock=some g∨w1.heap.size≤g))→wpList Tryz.prog ops Q rest (a.put o.dst (.slice A' (n+1) c')) w') :
 wpList Tryz.prog ops Q (o::rest) a (w1.alloc (.cells #[.slice A1 m c1] 32)):=by
 obtain⟨rows,hm,hl,hrow⟩:=hM
 have hml:M.length=m:=hr.len
 subst hml
 refine yt w0 w1 52 32 (.slice none 0 0) 24 Tryz.underlying52 ybD rfl (by omega) hgd s x ho A n c rows (.slice A1 M.length c1) hm hn rfl hs hx ?_
 intro A' c' w' hM' hg hat
 refine h A' c' w' ⟨_,hM',by simp[hl],fun k hk=>?_⟩ hg hat
 by_cases hlt:k<mss.length
 ·obtain⟨A2,c2,e,ho2⟩:=hrow k hlt
  simp only[List.getElem_append_left hlt]
  exact⟨A2,c2,by rw[List.getElem?_append_left (by omega)];exact e,ho2.grownBy (B:=0) hm.2 hg⟩
 ·have hk':k=mss.length:=by simp at hk;omega
  subst hk'
  simp only[List.getElem_append_right (Nat.le_refl _),Nat.sub_self,List.getElem_cons_zero]
  exact⟨A1,c1,by rw[List.getElem?_append_right (by omega),hl,Nat.sub_self];rfl,hr.grownBy (B:=0) hm.2 hg⟩
theorem MkM3.ne_blk {w0 w:World} {A:Option Addr} {n c g:Nat} {mss:List (List (List Int))} {t:TypeId} {cs:Array Value} (h:MkM3 w0 w A n c mss) (hb:Blk w g t cs) (hE:32≠t):some g≠(Value.slice A n c).ownBlock:=by
 obtain⟨rows,hm,_⟩:=h
 exact hm.2.ne_blk hb hE
theorem qt {p:Int} {st:List Int} (h:isDb p st=true):∀ b,b<st.length→st.getD b 0%p≠0:=fun b hb=>by
 obtain⟨HP, -,hn⟩:=ze h
 have h0:st.contains 0=false:=by
  unfold isDb at h
  simp only[Bool.and_eq_true]at h
  simpa using h.2
 have hm:st.getD b 0∈st:=vQ 0 hb
 have:=hn _ hm
 have hz:st.getD b 0≠0:=fun e=>by
  rw[e]at hm
  have:st.contains 0=true:=List.contains_iff_mem.2 hm
  rw[h0]at this;cases this
 rw[Int.emod_eq_of_lt this.1 this.2]
 exact hz
end Go.Proofs.YtaiegpggccdgoaaGreat
namespace Go.Proofs.YtaiegpggccdgoaaGreat
section
variable {p:Int} {n:Nat} {M:List (List Int)}
def Mt.pw (x:Mt p n):Nat→Mt p n
 | 0=>Mt.one x.pos
 | k+1=>Mt.pw x k*x
end
section
variable {p:Int} {sq:List Int} {M:List (List Int)}
end
end Go.Proofs.YtaiegpggccdgoaaGreat

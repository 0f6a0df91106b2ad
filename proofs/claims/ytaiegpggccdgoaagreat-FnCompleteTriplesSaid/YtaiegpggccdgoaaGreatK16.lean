/-
  LawFnCompleteTriples: part 16 of the texts that the proof needs. No condition.
-/
import Derived.Test.YtaiegpggccdgoaaGreatK15
namespace Go.Proofs.YtaiegpggccdgoaaGreat
open Go Go.RowKit
theorem jG {p:Int} {n:Nat} {y:List Int} (hy:NumsL p y) (hl:y.length=n*n):(yj y n n).flatten=y:=by
 have hT:=qQ hy n n hl
 have hf:=xf hT
 rw[zj]at hf
 refine yU 0 (hf.trans hl.symm) fun q hq=>?_
 rw[hf]at hq
 have hn:0<n:=by rcases Nat.eq_zero_or_pos n with e | e;(subst e;omega);exact e
 have h1:q / n<n:=Nat.div_lt_of_lt_mul hq
 have h2:q%n<n:=Nat.mod_lt _ hn
 have h3:q / n*n+q%n=q:=by rw[Nat.mul_comm];exact Nat.div_add_mod q n
 have h4:=uC hT (i:=q / n) (q:=q%n) (by rw[zj];exact h1) h2
 have h5:=yan (xs:=y) (n:=n) (cnt:=n) h1 h2
 rw[h3]at h4 h5
 exact h4.trans h5
theorem yao {p:Int} {n:Nat} {L:List (List Int)} (hT:Tab p n L) (hl:L.length=n):yj L.flatten n n=L:=by
 refine yU [] ((zj _ _ _).trans hl.symm) fun i hi=>?_
 rw[zj]at hi
 have hf:=xf hT
 rw[hl]at hf
 obtain⟨h1,h2⟩:=hT.row (i:=i) (by omega)
 have hk:=Nat.mul_le_mul_right n (show i+1≤n by omega)
 rw[Nat.add_mul,Nat.one_mul]at hk
 have e:((yj L.flatten n n).getD i []).length=n:=by
  unfold yj
  rw[yC hi,List.length_take,List.length_drop,hf]
  omega
 refine yU 0 (e.trans h1.symm) fun j hj=>?_
 rw[e]at hj
 have a1:=yan (xs:=L.flatten) (n:=n) (cnt:=n) hi hj
 have a2:=uC hT (i:=i) (q:=j) (by omega) hj
 unfold ent at a1 a2
 exact a1.trans a2
section
variable {p:Int} {n:Nat} {x:List Int}
theorem yac (n:Nat) (x:List Int):(mA n x).length=n∧(mB n x).length=n∧(mC n x).length=n:=⟨zj _ _ _,zj _ _ _,zj _ _ _⟩
theorem qJ {a:List Int} (h:NumsL p a) (k:Nat):NumsL p (a.take k):=fun v hv=>h v (List.mem_of_mem_take hv)
theorem qI {a:List Int} (h:NumsL p a) (k:Nat):NumsL p (a.drop k):=fun v hv=>h v (List.mem_of_mem_drop hv)
theorem yad (hx:NumsL p x) (hl:x.length=3*(n*n)):Tab p n (mA n x)∧Tab p n (mB n x)∧Tab p n (mC n x):=
 ⟨qQ (qJ hx _) n n (by rw[List.length_take,hl];omega),qQ (qJ (qI hx _) _) n n (by rw[List.length_take,List.length_drop,hl];omega),qQ (qI hx _) n n (by rw[List.length_drop,hl];omega)⟩
theorem ygl (hx:NumsL p x) (hl:x.length=3*(n*n)):yB (mA n x) (mB n x) (mC n x)=x:=by
 unfold yB mA mB mC
 rw[List.flatten_append,List.flatten_append,jG (qJ hx _) (by rw[List.length_take,hl];omega),jG (qJ (qI hx _) _) (by rw[List.length_take,List.length_drop,hl];omega),jG (qI hx _) (by rw[List.length_drop,hl];omega)]
 have e:x.drop (2*(n*n))=(x.drop (n*n)).drop (n*n):=by rw[List.drop_drop,Nat.two_mul]
 rw[e,List.take_append_drop,List.take_append_drop]
theorem ygk {L R C:List (List Int)} (tL:Tab p n L) (tR:Tab p n R) (tC:Tab p n C) (lL:L.length=n) (lR:R.length=n) (lC:C.length=n):mA n (yB L R C)=L∧mB n (yB L R C)=R∧mC n (yB L R C)=C:=by
 have f1:=xf tL
 have f2:=xf tR
 have f3:=xf tC
 rw[lL]at f1
 rw[lR]at f2
 rw[lC]at f3
 have e:yB L R C=L.flatten++(R.flatten++C.flatten):=by unfold yB;rw[List.flatten_append,List.flatten_append]
 have d1:(L.flatten++(R.flatten++C.flatten)).drop (n*n)=R.flatten++C.flatten:=by rw[List.drop_append_of_le_length (by omega),List.drop_of_length_le (by omega),List.nil_append]
 rw[e]
 refine⟨?_,?_,?_⟩
 ·unfold mA
  rw[List.take_append_of_le_length (by omega),List.take_of_length_le (by omega)]
  exact yao tL lL
 ·unfold mB
  rw[d1,List.take_append_of_le_length (by omega),List.take_of_length_le (by omega)]
  exact yao tR lR
 ·unfold mC
  rw[Nat.two_mul,← List.drop_drop,d1,List.drop_append_of_le_length (by omega),List.drop_of_length_le (by omega),List.nil_append]
  exact yao tC lC
theorem ych (hp:0<p) {k:Nat} {st:List Int} (hx:NumsL p x) (hl:x.length=3*(pw k*pw k)) (hv:LocEq p st k fun q=>x.getD q 0):∀ row∈locP p k st,dotL p row (yB (mA (pw k) x) (mB (pw k) x) (mC (pw k) x))=0:=fun row hr=>by
 rw[ygl hx hl]
 have:=yag.1 ((qD (p:=p) k st fun q=>x.getD q 0).2 hv) row hr
 unfold dotL
 rw[(ua hp k st row hr).1]
 exact this
theorem yei (hP:isP p=true) {st:List Int} (hst:∀ b,b<3→st.getD b 0%p≠0) {M:List (List Int)} (hT:Tab p 8 M) (hl:M.length=8) (hM:SkM p st 3 (ent M)):mA 8 (cmpL p st M)=M:=by
 have hp:0<p:=by have:=yk hP;omega
 have hx:=jo hp st M
 have hxl:=jn (p:=p) st M
 have hTA:=(yad (n:=8) hx (by rw[hxl])).1
 refine yU [] ((yac 8 _).1.trans hl.symm) fun i hi=>?_
 rw[(yac 8 _).1]at hi
 have r1:=hTA.row (i:=i) (by rw[(yac 8 _).1];exact hi)
 have r2:=hT.row (i:=i) (by omega)
 refine yU 0 (r1.1.trans r2.1.symm) fun j hj=>?_
 rw[r1.1]at hj
 refine uu (NumsL.getD r1.2 hp j) (NumsL.getD r2.2 hp j) ?_
 have e:=yan (xs:=(cmpL p st M).take (8*8)) (n:=8) (cnt:=8) hi hj
 have e2:((cmpL p st M).take (8*8)).getD (i*8+j) 0=(cmpL p st M).getD (i*8+j) 0:=by rw[List.getD_eq_getElem?_getD,List.getElem?_take,if_pos (by omega),← List.getD_eq_getElem?_getD]
 have e3:=jm hP hst hM hi hj
 rw[← e2,← e]at e3
 exact e3
theorem yej (hP:isP p=true) {st:List Int} (hst:∀ b,b<3→st.getD b 0%p≠0) {L R C:List (List Int)} (tL:Tab p 8 L) (tR:Tab p 8 R) (tC:Tab p 8 C) (lL:L.length=8) (lR:R.length=8) (lC:C.length=8) (h:Loc p st 3 (ent L) (ent R) (ent C)):cmpL p st L=yB L R C:=by
 have f1:=xf tL
 have f2:=xf tR
 have f3:=xf tC
 rw[lL]at f1
 rw[lR]at f2
 rw[lC]at f3
 have e:yB L R C=L.flatten++(R.flatten++C.flatten):=by unfold yB;rw[List.flatten_append,List.flatten_append]
 have fl:∀ {M:List (List Int)},Tab p 8 M→NumsL p M.flatten:=fun {M} hM v hv=>by
  obtain⟨r,hr,hv⟩:=List.mem_flatten.1 hv
  exact (hM r hr).2 v hv
 refine (ya0 hP hst h.sa ?_ ?_ ?_ ?_).symm
 ·rw[e,List.length_append,List.length_append,f1,f2,f3]
 ·rw[e]
  intro v hv
  rcases List.mem_append.1 hv with hv | hv
  ·exact fl tL v hv
  ·rcases List.mem_append.1 hv with hv | hv
   ·exact fl tR v hv
   ·exact fl tC v hv
 ·exact (yge (k:=3) (by rw[pw3];exact tL) (by rw[pw3];exact tR) (by rw[pw3];exact tC) (by rw[pw3];exact lL) (by rw[pw3];exact lR) (by rw[pw3];exact lC)).2 h
 ·intro i j hi hj
  have:=ydb tL tR tC lL lR lC (part:=0) (i:=i) (q:=j) (by omega) hi hj
  rw[Nat.zero_mul,Nat.zero_add]at this
  rw[this]
  rfl
theorem yeg {st:List Int} {M:List (List Int)} (h:cmpC p st M=0):isDb p st=true∧st.length=3∧M.length=8∧Tab p 8 M∧SkM p st 3 (ent M):=by
 unfold cmpC at h
 split at h
 ·rename_i hc
  split at h
  ·rename_i hh
   obtain⟨h1, -, -,h4⟩:=vm hc
   obtain⟨h5,h6⟩:=jU (by omega) (h4 M (by simp))
   rw[hh.1,pw3]at h5 h6
   exact⟨h1,hh.1,h5,h6,yaq.1 hh.2⟩
  ·omega
 ·rename_i hc;exact absurd h hc
theorem yef {st:List Int} {M:List (List Int)} (h1:isDb p st=true) (h3:st.length=3) (hl:M.length=8) (hT:Tab p 8 M) (hS:SkM p st 3 (ent M)):cmpC p st M=0:=by
 unfold cmpC
 rw[if_pos (jr h1 (by omega) (fun ys hy=>absurd hy (by simp)) fun N hN=>by
  obtain rfl:N=M:=by simpa using hN
  rw[h3,pw3];exact⟨hl,hT⟩),if_pos ⟨h3,yaq.2 hS⟩]
end
theorem CmpP.bad {p:Int} {st:List Int} {M:List (List Int)} {w w':World} {e:Ending} (h:CmpP p st M w e w') (hz:cmpC p st M≠0):e=.returned (.tuple #[.agg #[.slice none 0 0,.slice none 0 0,.slice none 0 0],.int .i64 (cmpC p st M)])∧Below w.heap.size w w':=by
 rcases h with ⟨-,h1,h2⟩ | ⟨h0, -⟩
 ·exact⟨h1,h2⟩
 ·exact absurd h0 hz
theorem CmpP.good {p:Int} {st:List Int} {M:List (List Int)} {w w':World} {e:Ending} (h:CmpP p st M w e w') (hz:cmpC p st M=0) {N:Nat} (hN:N=8):∃ A1 c1 A2 c2 A3 c3,e=.returned (.tuple #[.agg #[.slice A1 N c1,.slice A2 N c2,.slice A3 N c3],.int .i64 0])∧RdII w' A1 N (mA N (cmpL p st M))∧RdII w' A2 N (mB N (cmpL p st M))∧RdII w' A3 N (mC N (cmpL p st M))∧N≤c1∧N≤c2∧N≤c3∧Below w.heap.size w w':=by
 subst hN
 rcases h with ⟨h0, -⟩ | ⟨-,u1,u2,u3,e1,hc,hb⟩
 ·exact absurd hz h0
 ·obtain⟨A1,c1,A2,c2,A3,c3,rfl,rfl,rfl,h1,h2,h3,h4,h5,h6⟩:=hc.rd
  exact⟨A1,c1,A2,c2,A3,c3,e1,h1,h2,h3,h4,h5,h6,hb⟩
def lbaV (p:Int) (st:List Int):List (List Int):=if lbaC p st=0 then lbaL p st.length st else []
theorem yb1 {p:Int} {st:List Int} (h:lbaC p st=0):isDb p st=true∧st.length≤2:=by
 unfold lbaC at h
 split at h
 ·rename_i hc
  obtain⟨h1,h2, -, -⟩:=vm hc
  split at h
  ·omega
  ·exact⟨h1,by omega⟩
 ·rename_i hc;exact absurd h hc
def LbaU (p:Int) (st:List Int) (w:World) (e:Ending) (w':World):Prop:=∃ A c us,e=.returned (.tuple #[.slice A (lbaV p st).length c,.int .i64 (lbaC p st)])∧Own3 w' w.heap.size A (lbaV p st).length c us∧LT w' w.heap.size (pw st.length) us (lbaV p st)∧Below w.heap.size w w'
theorem LbaP.all {p:Int} {st:List Int} {w w':World} {e:Ending} (h:LbaP p st w e w'):LbaU p st w e w':=by
 rcases h with ⟨h0,h1,h2⟩ | ⟨h0,A,c,us,h1,h2,h3,h4⟩
 ·have hv:lbaV p st=[]:=by unfold lbaV;rw[if_neg h0]
  unfold LbaU
  rw[hv]
  exact⟨none,0,[],h1,World.ownsRow_nil _ _ _ _,LT.nil _ _ _,h2⟩
 ·have hv:lbaV p st=lbaL p st.length st:=by unfold lbaV;rw[if_pos h0]
  unfold LbaU
  rw[hv,h0]
  exact⟨A,c,us,h1,h2,h3,h4⟩
theorem yfX {p:Int} {st:List Int} {i:Nat} (hi:i<(lbaV p st).length):isDb p st=true∧st.length≤2∧((lbaV p st).getD i []).length=3*(pw st.length*pw st.length)∧NumsL p ((lbaV p st).getD i [])∧LocEq p st st.length fun q=>((lbaV p st).getD i []).getD q 0:=by
 by_cases h0:lbaC p st=0
 ·have hv:lbaV p st=lbaL p st.length st:=by unfold lbaV;rw[if_pos h0]
  obtain⟨hdb,h2⟩:=yb1 h0
  obtain⟨HP, -, -⟩:=ze hdb
  have hp:=yk HP
  rw[hv]at hi ⊢
  have hT:=vW (p:=p) (by omega) (locP p st.length st) (3*(pw st.length*pw st.length))
  unfold lbaL at hi ⊢
  obtain⟨r1,r2⟩:=hT.row hi
  refine⟨hdb,h2,r1,r2,(qD (p:=p) st.length st _).1 ((vq HP (ua (by omega) st.length st)).1 ((Sp.mem (List.getElem_mem hi)).congr fun q _=>?_))⟩
  rw[yc [] hi]
 ·have hv:lbaV p st=[]:=by unfold lbaV;rw[if_neg h0]
  rw[hv]at hi
  exact absurd hi (by simp)
def GoodR (w:World) (B:Nat) (rows:List Value):Prop:=∀ u∈rows,∃ (A1:Option Addr) (m1 c1:Nat) (xs1:List Int),u=.slice A1 m1 c1∧m1≤16∧OwnT w B A1 m1 c1 xs1
theorem GoodR.dr {w w':World} {g B:Nat} {T:TypeId} {rows:List Value} (h:GoodR w B rows) (d:Dr g T w w') (hne:2≠T):GoodR w' B rows:=fun u hu=>by
 obtain⟨A1,m1,c1,xs1,e,h1,h2⟩:=h u hu;exact⟨A1,m1,c1,xs1,e,h1,h2.dr d hne⟩
theorem GoodR.snoc {w w':World} {B B2:Nat} {rows us:List Value} {A A2:Option Addr} {m c n2 c2:Nat} {xs:List Int} (h:GoodR w B rows) (ho:OwnT w B A m c xs) (hm:m≤16) (ho2:Own w B2 24 A2 n2 c2 us) (hg:w.grownBy w' (Value.slice A2 n2 c2).ownBlock):GoodR w' B (rows++[.slice A m c]):=fun u hu=>by
 rcases List.mem_append.1 hu with hu | hu
 ·obtain⟨A1,m1,c1,xs1,e,h1,h2⟩:=h u hu;exact⟨A1,m1,c1,xs1,e,h1,h2.grown ho2 (by decide) hg⟩
 ·obtain rfl:u=.slice A m c:=by simpa using hu
  exact⟨A,m,c,xs,rfl,hm,ho.grown ho2 (by decide) hg⟩
def RelD (res:Nat) (w w':World):Prop:=∃ (p:Int) (A:Option Addr) (n c:Nat) (p':Int) (A':Option Addr) (n' c':Nat),Blk w res 26 #[.int .i64 p,.slice A n c]∧w'=(w.setCell ⟨res,0,none⟩ (.int .i64 p')).setCell ⟨res,1,none⟩ (.slice A' n' c')
theorem Own.relD {w w':World} {res:Nat} {B:Nat} {E:TypeId} {A:Option Addr} {n c:Nat} {us:List Value} (h:Own w B E A n c us) (hE:E≠26) (r:RelD res w w'):Own w' B E A n c us:=by
 obtain⟨p,A1,n1,c1,p',A',n',c',k,rfl⟩:=r
 exact (h.far k hE 0 _).far (k.set_ 0 (.int .i64 p')) hE 1 _
theorem Blk.relD {w w':World} {res b:Nat} {t:TypeId} {cs:Array Value} (h:Blk w b t cs) (hne:b≠res) (r:RelD res w w'):Blk w' b t cs:=by
 obtain⟨p,A1,n1,c1,p',A',n',c',k,rfl⟩:=r
 exact (h.far hne _).far hne _
theorem xA {w0 w w':World} {B res:Nat} (h:Below B w0 w) (hres:B≤res) (r:RelD res w w'):Below B w0 w':=by
 obtain⟨p,A1,n1,c1,p',A',n',c',k,rfl⟩:=r
 exact (h.setCell (p:=⟨res,0,none⟩) hres _).setCell (p:=⟨res,1,none⟩) hres _
def SBd (res:Nat) (w:World):Prop:=∃ (p:Int) (A:Option Addr) (n c:Nat),Blk w res 26 #[.int .i64 p,.slice A n c]
theorem SBd.below {w w':World} {res:Nat} (h:SBd res w) (hb:Below w.heap.size w w'):SBd res w':=by obtain⟨p,A,n,c,k⟩:=h;exact⟨p,A,n,c,k.below hb k.lt⟩
theorem SBd.relD {w w':World} {res:Nat} (_h:SBd res w) (r:RelD res w w'):SBd res w':=by
 obtain⟨p,A1,n1,c1,p',A',n',c',k,rfl⟩:=r
 exact⟨p',A',n',c',by simpa using (k.set_ 0 (.int .i64 p')).set_ 1 (.slice A' n' c')⟩
theorem Blk.storedD {w:World} {res:Nat} {p':Int} {A':Option Addr} {n' c':Nat} {a b:Value} (k:Blk w res 26 #[a,b]):Blk ((w.setCell ⟨res,0,none⟩ (.int .i64 p')).setCell ⟨res,1,none⟩ (.slice A' n' c')) res 26 #[.int .i64 p',.slice A' n' c']:=by
 simpa using (k.set_ 0 (.int .i64 p')).set_ 1 (.slice A' n' c')
def ydp (w:World) (e:Ending) (w':World):Prop:=∃ (P:Int) (A:Option Addr) (n c:Nat) (st:List Int),e=.returned (.agg #[.int .i64 P,.slice A n c])∧0≤P∧P≤17∧n≤5∧Own w' w.heap.size 2 A n c (ints st)∧Below w.heap.size w w'
end Go.Proofs.YtaiegpggccdgoaaGreat
namespace Go.Proofs.YtaiegpggccdgoaaGreat
open Go.RowKit
theorem Nest.cellSet {w:World} {B:Nat} {rows:List Value} {xss:List (List Int)} (h:Nest w B rows xss) {i gr m c:Nat} (hi:i<xss.length) (ei:rows[i]? = some (.slice (some ⟨gr,0,none⟩) m c)) (k:Nat) (x:Int) :
 Nest (w.setCell ⟨gr,k,none⟩ (.int .i64 x)) B rows (xss.set i ((xss.getD i []).set k x))∧w.grownBy (w.setCell ⟨gr,k,none⟩ (.int .i64 x)) (some gr)∧B≤gr:=by
 obtain⟨A,c',e,ho⟩:=h.row i hi
 have e0:=ei
 rw[e]at ei
 injection ei with ei;injection ei with e1 e2 e3
 subst e1;subst e3
 obtain⟨s1,s2⟩:=World.ownsRow.stored ho k (.int .i64 x)
 have hgd:xss.getD i []=xss[i]:=yc [] hi
 refine⟨⟨by simp[h.len],fun j hj=>?_,h.apart⟩,s2,(ho.lt gr rfl).1⟩
 have hj':j<xss.length:=by simpa using hj
 by_cases hij:i=j
 ·subst hij
  rw[List.getElem_set_self,hgd]
  refine⟨some ⟨gr,0,none⟩,c',by rw[List.length_set];exact e,?_⟩
  rw[List.length_set,← yN]
  exact s1
 ·obtain⟨A',c2,e',ho'⟩:=h.row j hj'
  rw[List.getElem_set_ne hij]
  refine⟨A',c2,e',Own.grown (row:=some gr) ho' s2 (Or.inr fun hb=>?_)⟩
  refine h.apart_ne i j gr hij ?_ ?_
  ·rw[e0];rfl
  ·rw[e'];exact hb
theorem MkII.cellSet1 {w0 w:World} {g n c:Nat} {xss:List (List Int)} (h:MkII w0 w (some ⟨g,0,none⟩) n c xss) {i gr m cr:Nat} (hi:i<n) (ci:w.cell? ⟨g,i,none⟩=some (.slice (some ⟨gr,0,none⟩) m cr)) (k:Nat) (x:Int) :
 MkII w0 (w.setCell ⟨gr,k,none⟩ (.int .i64 x)) (some ⟨g,0,none⟩) n c (xss.set i ((xss.getD i []).set k x))∧g≠gr∧w0.heap.size≤gr:=by
 have hl:=h.len
 obtain⟨rows,hm,hn⟩:=h
 obtain⟨u,hu,hc⟩:=hm.2.cell_ hi
 rw[ci]at hc
 injection hc with hc
 subst hc
 obtain⟨n1,g1,b1⟩:=hn.cellSet (by omega) hu k x
 have hne:g≠gr:=fun e=>by
  obtain⟨A',c2,e',ho'⟩:=hn.row i (by omega)
  rw[hu]at e'
  injection e' with e';injection e' with e1 e2 e3
  subst e1
  have:=hm.2.ne ho' (by decide)
  rcases this with h1 | h1
  ·cases h1
  ·exact h1 (by rw[e];rfl)
 refine⟨⟨rows,⟨hm.1.setCell b1 _,Own.grown (row:=some gr) hm.2 g1 (Or.inr fun hb=>hne (by injection hb))⟩,n1⟩,hne,b1⟩
end Go.Proofs.YtaiegpggccdgoaaGreat
namespace Go.Proofs.YtaiegpggccdgoaaGreat
open Go Go.RowKit
theorem OwnII.dr {w w':World} {g B:Nat} {T:TypeId} {A:Option Addr} {n c:Nat} {L:List (List Int)} (h:OwnII w B A n c L) (d:Dr g T w w') (h1:24≠T) (h2:2≠T):OwnII w' B A n c L:=by
 obtain⟨rows,ho,hn⟩:=h
 exact⟨rows,ho.dr d h1,hn.len,fun j hj=>by obtain⟨A',c',e,hr⟩:=hn.row j hj;exact⟨A',c',e,hr.dr d h2⟩,hn.apart⟩
theorem OwnII.rowAt {w:World} {B go n co:Nat} {Ms:List (List Int)} (h:OwnII w B (some ⟨go,0,none⟩) n co Ms) (hl:∀ r∈Ms,r.length=n) {i q:Nat} (hi:i<n) (hq:q<n):∃ gi ci x,w.cell? ⟨go,i,none⟩=some (.slice (some ⟨gi,0,none⟩) n ci)∧w.cell? ⟨gi,q,none⟩=some (.int .i64 x)∧w.frozen? ⟨gi,q,none⟩=false∧B≤gi:=by
 have hml:=h.len
 obtain⟨rows,ho,hn⟩:=h
 obtain⟨u,hu,hc⟩:=ho.cell_ hi
 have hi':i<Ms.length:=by omega
 obtain⟨A',c',e,hr⟩:=hn.row i hi'
 rw[hl _ (List.getElem_mem hi')]at e hr
 rw[hu]at e
 injection e with e
 subst e
 rcases hr.form with ⟨_,hz⟩ | ⟨gi,rfl,h1,_⟩
 ·omega
 ·obtain⟨x,hx⟩:=hr.cellI hq
  exact⟨gi,c',x,hc,hx,hr.frozen_ q,h1⟩
theorem OwnII.rowFr {w:World} {B go n co:Nat} {Ms:List (List Int)} (h:OwnII w B (some ⟨go,0,none⟩) n co Ms) {i gi m ci:Nat} (hi:i<n) (hc:w.cell? ⟨go,i,none⟩=some (.slice (some ⟨gi,0,none⟩) m ci)) (q:Nat):w.frozen? ⟨gi,q,none⟩=false:=by
 have hml:=h.len
 obtain⟨rows,ho,hn⟩:=h
 obtain⟨u,hu,hcu⟩:=ho.cell_ hi
 rw[hc]at hcu
 injection hcu with hcu
 subst hcu
 obtain⟨A',c',e,hr⟩:=hn.row i (by omega)
 rw[hu]at e
 injection e with e;injection e with e1 e2 e3
 subst e1
 exact hr.frozen_ q
theorem OwnII.cellSet {w:World} {B go n co:Nat} {Ms:List (List Int)} (h:OwnII w B (some ⟨go,0,none⟩) n co Ms) (hB:B≤w.heap.size) {i gr m cr:Nat} (hi:i<n) (ci:w.cell? ⟨go,i,none⟩=some (.slice (some ⟨gr,0,none⟩) m cr)) (k:Nat) (x:Int):OwnII (w.setCell ⟨gr,k,none⟩ (.int .i64 x)) B (some ⟨go,0,none⟩) n co (Ms.set i ((Ms.getD i []).set k x)):=by
 obtain⟨rows,ho,hn⟩:=h
 have hm:MkII (cutW w B) w (some ⟨go,0,none⟩) n co Ms:=⟨rows,ho.mk_ hB,by rw[yv hB];exact hn⟩
 have:=(hm.cellSet1 hi ci k x).1.own
 rwa [yv hB]at this
theorem qB {n:Nat} {Ms:List (List Int)} (h:∀ r∈Ms,r.length=n) (i k:Nat) (x:Int):∀ r∈Ms.set i ((Ms.getD i []).set k x),r.length=n:=fun r hr=>by
 rcases List.mem_or_eq_of_mem_set hr with h1 | h1
 ·exact h r h1
 ·by_cases hi:i<Ms.length
  ·rw[h1,List.length_set,yc [] hi];exact h _ (List.getElem_mem hi)
  ·rw[List.set_eq_of_length_le (by omega)]at hr;exact h r hr
def RdN (w:World) (B:Nat) (A:Option Addr) (n:Nat) (M:List (List Int)):Prop:=∀ w2:World,(∀ b,B≤b→b<w.heap.size→w2.heap[b]? = w.heap[b]?)→RdII w2 A n M
theorem RdN.rd {w:World} {B:Nat} {A:Option Addr} {n:Nat} {M:List (List Int)} (h:RdN w B A n M):RdII w A n M:=h w fun _ _ _=>rfl
theorem RdN.base {w:World} {B B':Nat} {A:Option Addr} {n:Nat} {M:List (List Int)} (h:RdN w B A n M) (hB:B'≤B):RdN w B' A n M:=fun w2 h2=>h w2 fun b h1 h3=>h2 b (by omega) h3
theorem RdN.below {w w':World} {B:Nat} {A:Option Addr} {n:Nat} {M:List (List Int)} (h:RdN w B A n M) (hb:Below w.heap.size w w'):RdN w' B A n M:=fun w2 h2=>h w2 fun b h1 h3=>(h2 b h1 (Nat.lt_of_lt_of_le h3 hb.size)).trans (hb.block b h3)
theorem RdN.setLow {w:World} {B:Nat} {A:Option Addr} {n:Nat} {M:List (List Int)} (h:RdN w B A n M) {r:Nat} (hr:r<B) (i:Nat) (u:Value):RdN (w.setCell ⟨r,i,none⟩ u) B A n M:=fun w2 h2=>h w2 fun b h1 h3=>(h2 b h1 (by simpa [World.setCell] using h3)).trans (Below.heap_setCell w ⟨r,i,none⟩ u b (by intro e;simp at e;omega))
theorem OwnII.rdN {w:World} {B:Nat} {A:Option Addr} {n c:Nat} {M:List (List Int)} (h:OwnII w B A n c M):RdN w B A n M:=fun w2 h2=>by
 obtain⟨rows,ho,hn⟩:=h
 exact⟨rows,ho.keep h2,hn.len,fun j hj=>by obtain⟨A',c',e,hr⟩:=hn.row j hj;exact⟨A',c',e,hr.keep h2,hr.cap⟩⟩
def yaF (g:Nat) (w:World) (e:Ending) (w':World):Prop:=∃ (A:Option Addr) (n c:Nat) (M:List (List Int)),e=.returned (.slice A n c)∧n≤16∧n≤c∧RdN w' w.heap.size A n M∧(∀ r∈M,r.length≤16)∧Dr g 124 w w'
set_option maxHeartbeats 12800000 in
set_option maxRecDepth 8000 in
theorem yb0 (g:Nat) (p:Int) (A:Option Addr) (k c:Nat) (st:List Int) (w:World) (hs:Src w g 124) (hp:2≤p) (hp2:p≤13) (hk:k≤4) (hc:k≤c) (ha:Rd w A k (ints st)) (hst:NumsL p st) :
 Calls Tryz.prog 83 #[.pointer (some ⟨g,0,none⟩),.agg #[.int .i64 p,.slice A k c]] w (yaF g w):=by
 have hpk:pw k≤16:=yz hk
 have hpos:=yq k
 have hB1:Below w.heap.size w (w.alloc (.cells #[.int .i64 p,.slice A k c] 26)):=zG.alloc (Nat.le_refl _) _
 have k1:Blk (w.alloc (.cells #[.int .i64 p,.slice A k c] 26)) w.heap.size 26 #[.int .i64 p,.slice A k c]:=Blk.new _ _ _
 obtain⟨w1,hw1⟩:∃ W,W=w.alloc (.cells #[.int .i64 p,.slice A k c] 26):=⟨_,rfl⟩
 have hdg:=fun w' (h:Below w1.heap.size w1 w')=>jZ p hp hp2 k hk A c st w' hc ((ha.below (hw1▸hB1)).below h) hst
 have hsz:=fun w'=>xb p A k c w' (by omega)
 have hDN:=vn (show 0<p by omega) k st
 obtain⟨DG,hDG⟩:∃ z,z=dgL p k st:=⟨_,rfl⟩
 obtain⟨n,hn⟩:∃ n,n=pw k:=⟨_,rfl⟩
 rw[← hDG]at hdg hDN
 rw[← hn]at hpk hpos hdg hsz
 have HDG:=Lib.hid hdg
 have HSZ:=Lib.hid hsz
 have HDN:=Lib.hid hDN
 have hgw:g<w.heap.size:=hs.lt
 clear hDG hn hdg hsz hDN ha hst
 go_enter Tryz.func83,Tryz.ntmps83
 go_wp2
 rw[← hw1]at k1 hB1 ⊢
 clear hw1
 refine yh 6 [[],[0],[],[2],[0,1],[2,3]] [VIs (.agg #[.int .i64 p,.slice A k c]),VSl w1 n DG,VIs (.agg #[.int .i64 p,.slice A k c]),VIs (.int .i64 (n:Nat)),VSl w1 n DG,VIs (.int .i64 (n:Nat))] (fun w'=>Blk w' w.heap.size 26 #[.int .i64 p,.slice A k c]∧Below w1.heap.size w1 w') (by kernel_rfl) (by kernel_rfl) (fun _ _ h hb=>⟨h.1.below hb h.1.lt,h.2.trans (hb.mono h.2.size)⟩) (⟨k1.drew,zG.drew⟩) (fun x=>?_)
 refine zS (fun w' hS hV K hK=>?_) ?_
 ·obtain⟨q0,q1⟩:=hS.1.two;go_simp;exact zO hK
 refine zS (fun w' hS hV K hK=>?_) ?_
 ·have e0:=zQ hV 0;obtain⟨q0,q1⟩:=hS.1.two;go_simp;refine (HDG.out w' hS.2).mono ?_;rintro e v1 ⟨A9,c9,rfl,hM⟩;exact hK.out _ _ _ rfl rfl ⟨_,_,rfl,hM.after hS.2⟩ hM.b
 refine zS (fun w' hS hV K hK=>?_) ?_
 ·obtain⟨q0,q1⟩:=hS.1.two;go_simp;exact zO hK
 refine zS (fun w' hS hV K hK=>?_) ?_
 ·have e2:=zQ hV 2;obtain⟨q0,q1⟩:=hS.1.two;go_simp;refine (HSZ.out w').mono ?_;rintro e v1 ⟨rfl,hb⟩;exact hK.out _ _ _ rfl rfl rfl hb
 refine zS (fun w' hS hV K hK=>?_) ?_
 ·obtain⟨A1,c1,e1,h1⟩:=hV 1 (by decide);obtain⟨q0,q1⟩:=hS.1.two;go_simp;exact hK.out _ _ _ rfl rfl ⟨_,_,rfl,h1⟩ zG
 refine zS (fun w' hS hV K hK=>?_) ?_
 ·have e3:=zQ hV 3;obtain⟨q0,q1⟩:=hS.1.two;go_simp;exact zO hK
 refine fun w' hS hV=>?_
 have e0:=zT hV 0
 obtain⟨A1,c1,e1,h1⟩:=hV 1 (by decide)
 have e2:=zT hV 2
 have e3:=zT hV 3
 obtain⟨A4,c4,e4,h4⟩:=hV 4 (by decide)
 have e5:=zT hV 5
 simp only[e0,e1,e2,e3,e4,e5]
 clear e0 e1 e2 e3 e4 e5
 refine wpAny_done (by kernel_rfl) ?_ _
 obtain⟨k2,s2⟩:=hS
 obtain⟨w2,hw2⟩:∃ W,W=w':=⟨_,rfl⟩
 rw[← hw2]at k2 s2 h4 ⊢
 clear hw2 k1 hV
 have hB2:=hB1.trans (s2.mono hB1.size)
 have hs2:=hs.below hB2
 have hdi:=h4
 obtain⟨AD,hAD⟩:∃ z,z=A4:=⟨_,rfl⟩
 obtain⟨cd,hcd⟩:∃ z,z=c4:=⟨_,rfl⟩
 rw[← hAD,← hcd]at hdi ⊢
 obtain⟨gd,od,rfl, -⟩:=hdi.rd.int hpos
 have HDI:=Lib.hid hdi.2
 have HKB:=Lib.hid k2
 have HS2:=Lib.hid hs2
 have HB2:=Lib.hid hB2
 have hM3:MkII w2 (w2.alloc (.cells #[] 24)) (some ⟨w2.heap.size,0,none⟩) 0 0 []:=MkII.empty zG
 clear hdi hAD hcd k2 hs2 s2 hB1 hB2 h4
 go_wp2
 obtain⟨w3,hw3⟩:∃ W,W=w2.alloc (.cells #[] 24):=⟨_,rfl⟩
 rw[← hw3]at hM3 ⊢
 clear hw3
 go_loopw [7,8] (fun out i wr=>∃ (j:Nat) (A':Option Addr) (c':Nat),j≤n∧i=.int .i64 j∧out=.slice A' j c'∧Hid (MkII w2 wr A' j c' (tab j fun _=>List.replicate n 0))) (fun _ i _=>n-(intOf i).toNat)
 case atStart=>exact⟨0,_,_,by omega,rfl,rfl,Lib.hid (by simpa [tab] using hM3)⟩
 case round=>
  obtain⟨j,A',c',hj,rfl,rfl,HM⟩:=hrel
  clear hM3
  by_cases hlt:j<n
  ·have hmk:=xE (P:=Tryz.prog) 24 2 Tryz.underlying24 yo n (by omega)
   have hm1:=Mk.made (E:=2) (n:=n) (z:=.int .i64 0) (Below.refl wr.heap.size wr) (by simp only[maxLen];omega)
   rw[xj]at hm1
   have HM1:Hid (MkI wr _ (some ⟨wr.heap.size,0,none⟩) n n (List.replicate n 0)):=Lib.hid hm1
   clear hm1
   go_wp2_with (at_builtin;refine vw w2 wr _ rfl _ _ rfl A' j c' _ (some ⟨wr.heap.size,0,none⟩) n n _ HM.out HM1.out (by omega) rfl ?_ ?_;(go_simp);intro A4 c4 w4 hM4)
   go_roundw
   case rel=>exact⟨j+1,A4,c4,by omega,by go_num,rfl,Lib.hid (by rw[yQ];exact hM4)⟩
   case measure=>simp[intOf];omega
  ·obtain rfl:j=n:=by omega
   have hO:=HM.out.own
   obtain⟨go,rfl⟩:∃ go,A'=some ⟨go,0,none⟩:=by
    obtain⟨rows,ho, -⟩:=hO
    rcases ho.form with ⟨_,hz⟩ | ⟨g,e, -, -⟩
    ·omega
    ·exact⟨g,e⟩
   have HO0:=Lib.hid hO
   have HL0:Hid (∀ r∈(tab j fun _=>List.replicate j (0:Int)),r.length=j):=Lib.hid fun r hr=>by
    obtain⟨i,hi,rfl⟩:=ui hr
    exact List.length_replicate
   have HD0:=Lib.hid (Dr.of_below HS2.out HM.out.b)
   have hcap:=hO.cap
   have hna:=yr g 2 wr HD0.out.s' (by omega)
   obtain⟨co,hco⟩:∃ z,z=c':=⟨_,rfl⟩
   rw[← hco]at HO0 hcap ⊢
   obtain⟨n,hnj⟩:∃ z,z=j:=⟨_,rfl⟩
   rw[← hnj]at HO0 HL0 hcap hpk hpos HDI HSZ ⊢
   clear hO hco HM hlt hj hnj
   go_wp2_with fail
   refine hna.mono ?_
   rintro e w5 ⟨few,rfl,hf0, -,hd5⟩
   have HO5:=Lib.hid (HO0.out.dr hd5 (by decide) (by decide))
   have HD5:=Lib.hid (HD0.out.trans hd5)
   clear hna hd5 HO0 HD0
   go_wp2
   go_loopw [10] (fun iv wr=>∃ (j:Nat) (Ms:List (List Int)),j≤n∧iv=.int .i64 j∧Hid (OwnII wr w2.heap.size (some ⟨go,0,none⟩) n co Ms)∧Hid (∀ r∈Ms,r.length=n)∧Hid (Dr g 124 w2 wr)) (fun iv _=>n-(intOf iv).toNat)
   case atStart=>exact⟨0,_,by omega,rfl,HO5,HL0,HD5⟩
   case round=>
    obtain⟨i,Ms0,hi',rfl,HO,HL,HD⟩:=hrel
    clear HO5 HL0 HD5
    by_cases hi:i<n
    ·go_wp2
     go_loopw [11] (fun qv wr=>∃ (j:Nat) (Ms:List (List Int)),j≤i∧qv=.int .i64 j∧Hid (OwnII wr w2.heap.size (some ⟨go,0,none⟩) n co Ms)∧Hid (∀ r∈Ms,r.length=n)∧Hid (Dr g 124 w2 wr)) (fun qv _=>i-(intOf qv).toNat)
     case atStart=>exact⟨0,_,by omega,rfl,HO,HL,HD⟩
     case round=>
      obtain⟨q,Ms,hq',rfl,HOw,HLw,HDw⟩:=hrel
      clear HO HL HD
      by_cases hqi:q<i
      ·have hq:q<n:=by omega
       by_cases hf:few=1
       ·have hfb:(few == 1)=true:=by simp[hf]
        clear hf
        have hn6:=yr g 6 wr HDw.out.s' (by omega)
        go_wp2_with fail
        refine hn6.mono ?_
        rintro e w6 ⟨r6,rfl,h60, -,hd6⟩
        have HOw2:=Lib.hid (HOw.out.dr hd6 (by decide) (by decide))
        have HDw2:=Lib.hid (HDw.out.trans hd6)
        clear hn6 hd6 HOw HDw
        by_cases h6:0<r6
        ·have d6:decide (0<r6)=true:=by rw[decide_eq_true_eq];exact h6
         go_wp2
         go_roundw
         case rel=>exact⟨q+1,Ms,by omega,by go_num,HOw2,HLw,HDw2⟩
         case measure=>simp[intOf];omega
        ·have d6:decide (0<r6)=false:=by rw[decide_eq_false_iff_not];exact h6
         have HOw:=HOw2
         have HDw:=HDw2
         clear HOw2 HDw2
         have hna:=yr g p w6 HDw.out.s' (by omega)
         have kq:=HKB.out.dr HDw.out (by decide)
         obtain⟨q0,q1⟩:=kq.two
         go_wp2_with fail
         refine hna.mono ?_
         rintro e wB ⟨ra,rfl,ha0,ha1,hdB⟩
         have ha1':=ha1 (by omega)
         have HOB:=Lib.hid (HOw.out.dr hdB (by decide) (by decide))
         have HLB:=HLw
         have HDB:=Lib.hid (HDw.out.trans hdB)
         clear hna kq q0 q1 ha1 hdB HOw HLw HDw
         obtain⟨gi,ci,x0,c1,c3,f3,hgi⟩:=HOB.out.rowAt HLB.out hi hq
         obtain⟨gd1,od1,e1,hx1,c2⟩:=(HDI.out.dr HDB.out (by decide)).rd.int hq
         injection e1 with e1;injection e1 with e11 e12 _
         subst e11 e12
         obtain⟨b5,b6⟩:=HDN.out _ (List.getElem_mem hx1)
         obtain⟨d1,hd1e⟩:∃ z,z=DG[q]:=⟨_,rfl⟩
         rw[← hd1e]at c2 b5 b6
         have m1:0≤ra*d1:=Int.mul_nonneg ha0 b5
         have m2:ra*d1≤13*13:=Int.mul_le_mul (by omega) (by omega) b5 (by omega)
         have kb:=HKB.out.dr HDB.out (by decide)
         obtain⟨zz,hzz⟩:∃ z,z=(ra*d1)%p:=⟨_,rfl⟩
         have HZZ:=Lib.hid hzz
         clear hd1e hx1 b5 b6 hzz
         go_wp2
         refine yh 15 [[],[],[0,1],[0,1,2],[],[],[5],[],[],[],[8,9],[8,9,10],[7,8,9,10,11],[5,6,7,8,9,10,11,12],[0,1,2,3,4],[0,1,2,3,4,5,6,7,8,9,10,11,12,13,14]] [VIs (.slice (some ⟨go,0,none⟩) n co),VIs (.int .i64 (i)),VIs (.pointer (some ⟨go,i,none⟩)),VIs (.slice (some ⟨gi,0,none⟩) n ci),VIs (.int .i64 (q)),VIs (.pointer (some ⟨w.heap.size,0,none⟩)),VIs (.int .i64 (p)),VIs (.int .i64 (ra)),VIs (.slice (some ⟨gd,od,none⟩) n cd),VIs (.int .i64 (q)),VIs (.pointer (some ⟨gd,od+q,none⟩)),VIs (.int .i64 (d1)),VIs (.int .i64 (ra*d1)),VIs (.int .i64 (zz)),VIs (.pointer (some ⟨gi,q,none⟩))] (fun w'=>Blk w' w.heap.size 26 #[.int .i64 p,.slice A k c]∧w'.cell? ⟨go,i,none⟩=some (.slice (some ⟨gi,0,none⟩) n ci)∧w'.cell? ⟨gd,od+q,none⟩=some (.int .i64 d1)∧Below wB.heap.size wB w') (by kernel_rfl) (by kernel_rfl) (fun _ _ h hb=>⟨h.1.below hb h.1.lt,(hb.cell (World.block_lt_of_cell? _ _ h.2.1)).trans h.2.1,(hb.cell (World.block_lt_of_cell? _ _ h.2.2.1)).trans h.2.2.1,h.2.2.2.trans (hb.mono h.2.2.2.size)⟩) (⟨kb.drew,c1,c2,zG.drew⟩) (fun x=>?_)
         refine zS (fun w' hS hV K hK=>?_) ?_
         ·obtain⟨q0,q1⟩:=hS.1.two;have t1:=hS.2.1;have t2:=hS.2.2.1;go_simp;exact zO hK
         refine zS (fun w' hS hV K hK=>?_) ?_
         ·obtain⟨q0,q1⟩:=hS.1.two;have t1:=hS.2.1;have t2:=hS.2.2.1;go_simp;exact zO hK
         refine zS (fun w' hS hV K hK=>?_) ?_
         ·have e0:=zQ hV 0;have e1:=zQ hV 1;obtain⟨q0,q1⟩:=hS.1.two;have t1:=hS.2.1;have t2:=hS.2.2.1;go_simp;exact zO hK
         refine zS (fun w' hS hV K hK=>?_) ?_
         ·have e2:=zQ hV 2;obtain⟨q0,q1⟩:=hS.1.two;have t1:=hS.2.1;have t2:=hS.2.2.1;go_simp;exact zO hK
         refine zS (fun w' hS hV K hK=>?_) ?_
         ·obtain⟨q0,q1⟩:=hS.1.two;have t1:=hS.2.1;have t2:=hS.2.2.1;go_simp;exact zO hK
         refine zS (fun w' hS hV K hK=>?_) ?_
         ·obtain⟨q0,q1⟩:=hS.1.two;have t1:=hS.2.1;have t2:=hS.2.2.1;go_simp;exact zO hK
         refine zS (fun w' hS hV K hK=>?_) ?_
         ·have e5:=zQ hV 5;obtain⟨q0,q1⟩:=hS.1.two;have t1:=hS.2.1;have t2:=hS.2.2.1;go_simp;exact zO hK
         refine zS (fun w' hS hV K hK=>?_) ?_
         ·obtain⟨q0,q1⟩:=hS.1.two;have t1:=hS.2.1;have t2:=hS.2.2.1;go_simp;exact zO hK
         refine zS (fun w' hS hV K hK=>?_) ?_
         ·obtain⟨q0,q1⟩:=hS.1.two;have t1:=hS.2.1;have t2:=hS.2.2.1;go_simp;exact zO hK
         refine zS (fun w' hS hV K hK=>?_) ?_
         ·obtain⟨q0,q1⟩:=hS.1.two;have t1:=hS.2.1;have t2:=hS.2.2.1;go_simp;exact zO hK
         refine zS (fun w' hS hV K hK=>?_) ?_
         ·have e8:=zQ hV 8;have e9:=zQ hV 9;obtain⟨q0,q1⟩:=hS.1.two;have t1:=hS.2.1;have t2:=hS.2.2.1;go_simp;exact zO hK
         refine zS (fun w' hS hV K hK=>?_) ?_
         ·have e10:=zQ hV 10;obtain⟨q0,q1⟩:=hS.1.two;have t1:=hS.2.1;have t2:=hS.2.2.1;go_simp;exact zO hK
         refine zS (fun w' hS hV K hK=>?_) ?_
         ·have e7:=zQ hV 7;have e11:=zQ hV 11;obtain⟨q0,q1⟩:=hS.1.two;have t1:=hS.2.1;have t2:=hS.2.2.1;go_simp;exact hK.out _ _ _ rfl rfl (by first | rfl | exact congrArg (Value.int .i64) (by omega) | exact congrArg (Value.int .i64) (yi _ (by omega) (by omega))) zG
         refine zS (fun w' hS hV K hK=>?_) ?_
         ·have e6:=zQ hV 6;have e12:=zQ hV 12;obtain⟨q0,q1⟩:=hS.1.two;have t1:=hS.2.1;have t2:=hS.2.2.1;go_simp;refine (xl p (ra*d1) w' (by omega) (by omega) (by omega) (by omega)).mono ?_;rintro e v1 ⟨rfl,rfl⟩;exact hK.out _ _ _ rfl rfl (by rw[HZZ.out];rfl) zG
         refine zS (fun w' hS hV K hK=>?_) ?_
         ·have e3:=zQ hV 3;have e4:=zQ hV 4;obtain⟨q0,q1⟩:=hS.1.two;have t1:=hS.2.1;have t2:=hS.2.2.1;go_simp;exact zO hK
         refine fun w' hS hV=>?_
         have e0:=zT hV 0
         have e1:=zT hV 1
         have e2:=zT hV 2
         have e3:=zT hV 3
         have e4:=zT hV 4
         have e5:=zT hV 5
         have e6:=zT hV 6
         have e7:=zT hV 7
         have e8:=zT hV 8
         have e9:=zT hV 9
         have e10:=zT hV 10
         have e11:=zT hV 11
         have e12:=zT hV 12
         have e13:=zT hV 13
         have e14:=zT hV 14
         simp only[e0,e1,e2,e3,e4,e5,e6,e7,e8,e9,e10,e11,e12,e13,e14]
         clear e0 e1 e2 e3 e4 e5 e6 e7 e8 e9 e10 e11 e12 e13 e14
         obtain⟨-, -, -,s7⟩:=hS
         have c4:=(s7.cell (World.block_lt_of_cell? _ _ c3)).trans c3
         have f4:w'.frozen? ⟨gi,q,none⟩=false:=((HOB.out.below s7).rowFr hi ((s7.cell (World.block_lt_of_cell? _ _ c1)).trans c1)) q
         refine yK (j:=15) (by kernel_rfl) (Eq.trans (by simp only[zA,zB,zC];exact rfl) rfl) (fun K hK=>?_)
         go_simp
         refine hK.out _ _ (wpAny_done (by kernel_rfl) ?_ _)
         have hO9:=(HOB.out.below s7).cellSet (Nat.le_trans (HDB.out.size) s7.size) hi ((s7.cell (World.block_lt_of_cell? _ _ c1)).trans c1) q zz
         have HL9:=Lib.hid (qB HLB.out i q zz)
         have HD9:=Lib.hid ((HDB.out.then s7).setNew (b:=gi) hgi q (.int .i64 zz))
         have HO9:=Lib.hid hO9
         obtain⟨wC,hW2⟩:∃ W,W=w'.setCell ⟨gi,q,none⟩ (.int .i64 zz):=⟨_,rfl⟩
         rw[← hW2]at HD9 HO9 ⊢
         clear hW2 hO9 c1 c2 c3 c4 f3 f4 kb s7 m1 m2 HZZ hgi hV
         have HOC:=HO9
         have HLC:=HL9
         have HDC:=HD9
         clear HO9 HL9 HD9 HOB HLB HDB
         obtain⟨gi,ci,x0,c1,c3,f3,hgi⟩:=HOC.out.rowAt HLC.out hq hi
         obtain⟨gd1,od1,e1,hx1,c2⟩:=(HDI.out.dr HDC.out (by decide)).rd.int hi
         injection e1 with e1;injection e1 with e11 e12 _
         subst e11 e12
         obtain⟨b5,b6⟩:=HDN.out _ (List.getElem_mem hx1)
         obtain⟨d1,hd1e⟩:∃ z,z=DG[i]:=⟨_,rfl⟩
         rw[← hd1e]at c2 b5 b6
         have m1:0≤ra*d1:=Int.mul_nonneg ha0 b5
         have m2:ra*d1≤13*13:=Int.mul_le_mul (by omega) (by omega) b5 (by omega)
         obtain⟨na,hna9⟩:∃ z,z = -ra:=⟨_,rfl⟩
         have hn1:na*d1 = -(ra*d1):=by rw[hna9,Int.neg_mul]
         have HNA:=Lib.hid hna9
         have HNW:Hid (wrap64 (-ra)=na):=Lib.hid (by rw[hna9];unfold wrap64;omega)
         clear hna9
         have m3:-(13*13)≤na*d1:=by omega
         have m4:na*d1≤0:=by omega
         clear m1 m2
         have m1:=m3
         have m2:=m4
         clear m3 m4
         have HN1:=Lib.hid hn1
         clear hn1
         have kb:=HKB.out.dr HDC.out (by decide)
         obtain⟨zz,hzz⟩:∃ z,z=(na*d1)%p:=⟨_,rfl⟩
         have HZZ:=Lib.hid hzz
         clear hd1e hx1 b5 b6 hzz
         go_wp2
         refine yh 16 [[],[],[0,1],[0,1,2],[],[],[5],[],[7],[],[],[9,10],[9,10,11],[7,8,9,10,11,12],[5,6,7,8,9,10,11,12,13],[0,1,2,3,4],[0,1,2,3,4,5,6,7,8,9,10,11,12,13,14,15]] [VIs (.slice (some ⟨go,0,none⟩) n co),VIs (.int .i64 (q)),VIs (.pointer (some ⟨go,q,none⟩)),VIs (.slice (some ⟨gi,0,none⟩) n ci),VIs (.int .i64 (i)),VIs (.pointer (some ⟨w.heap.size,0,none⟩)),VIs (.int .i64 (p)),VIs (.int .i64 (ra)),VIs (.int .i64 (na)),VIs (.slice (some ⟨gd,od,none⟩) n cd),VIs (.int .i64 (i)),VIs (.pointer (some ⟨gd,od+i,none⟩)),VIs (.int .i64 (d1)),VIs (.int .i64 (na*d1)),VIs (.int .i64 (zz)),VIs (.pointer (some ⟨gi,i,none⟩))] (fun w'=>Blk w' w.heap.size 26 #[.int .i64 p,.slice A k c]∧w'.cell? ⟨go,q,none⟩=some (.slice (some ⟨gi,0,none⟩) n ci)∧w'.cell? ⟨gd,od+i,none⟩=some (.int .i64 d1)∧Below wC.heap.size wC w') (by kernel_rfl) (by kernel_rfl) (fun _ _ h hb=>⟨h.1.below hb h.1.lt,(hb.cell (World.block_lt_of_cell? _ _ h.2.1)).trans h.2.1,(hb.cell (World.block_lt_of_cell? _ _ h.2.2.1)).trans h.2.2.1,h.2.2.2.trans (hb.mono h.2.2.2.size)⟩) (⟨kb.drew,c1,c2,zG.drew⟩) (fun x=>?_)
         refine zS (fun w' hS hV K hK=>?_) ?_
         ·obtain⟨q0,q1⟩:=hS.1.two;have t1:=hS.2.1;have t2:=hS.2.2.1;go_simp;exact zO hK
         refine zS (fun w' hS hV K hK=>?_) ?_
         ·obtain⟨q0,q1⟩:=hS.1.two;have t1:=hS.2.1;have t2:=hS.2.2.1;go_simp;exact zO hK
         refine zS (fun w' hS hV K hK=>?_) ?_
         ·have e0:=zQ hV 0;have e1:=zQ hV 1;obtain⟨q0,q1⟩:=hS.1.two;have t1:=hS.2.1;have t2:=hS.2.2.1;go_simp;exact zO hK
         refine zS (fun w' hS hV K hK=>?_) ?_
         ·have e2:=zQ hV 2;obtain⟨q0,q1⟩:=hS.1.two;have t1:=hS.2.1;have t2:=hS.2.2.1;go_simp;exact zO hK
         refine zS (fun w' hS hV K hK=>?_) ?_
         ·obtain⟨q0,q1⟩:=hS.1.two;have t1:=hS.2.1;have t2:=hS.2.2.1;go_simp;exact zO hK
         refine zS (fun w' hS hV K hK=>?_) ?_
         ·obtain⟨q0,q1⟩:=hS.1.two;have t1:=hS.2.1;have t2:=hS.2.2.1;go_simp;exact zO hK
         refine zS (fun w' hS hV K hK=>?_) ?_
         ·have e5:=zQ hV 5;obtain⟨q0,q1⟩:=hS.1.two;have t1:=hS.2.1;have t2:=hS.2.2.1;go_simp;exact zO hK
         refine zS (fun w' hS hV K hK=>?_) ?_
         ·obtain⟨q0,q1⟩:=hS.1.two;have t1:=hS.2.1;have t2:=hS.2.2.1;go_simp;exact zO hK
         refine zS (fun w' hS hV K hK=>?_) ?_
         ·have e7:=zQ hV 7;obtain⟨q0,q1⟩:=hS.1.two;have t1:=hS.2.1;have t2:=hS.2.2.1;go_simp;exact hK.out _ _ _ rfl rfl (by first | rfl | exact congrArg (Value.int .i64) HNW.out | exact congrArg (Value.int .i64) (by rw[IntWalk.i64_left];exact HNW.out) | exact congrArg (Value.int .i64) HNA.out.symm) zG
         refine zS (fun w' hS hV K hK=>?_) ?_
         ·obtain⟨q0,q1⟩:=hS.1.two;have t1:=hS.2.1;have t2:=hS.2.2.1;go_simp;exact zO hK
         refine zS (fun w' hS hV K hK=>?_) ?_
         ·obtain⟨q0,q1⟩:=hS.1.two;have t1:=hS.2.1;have t2:=hS.2.2.1;go_simp;exact zO hK
         refine zS (fun w' hS hV K hK=>?_) ?_
         ·have e9:=zQ hV 9;have e10:=zQ hV 10;obtain⟨q0,q1⟩:=hS.1.two;have t1:=hS.2.1;have t2:=hS.2.2.1;go_simp;exact zO hK
         refine zS (fun w' hS hV K hK=>?_) ?_
         ·have e11:=zQ hV 11;obtain⟨q0,q1⟩:=hS.1.two;have t1:=hS.2.1;have t2:=hS.2.2.1;go_simp;exact zO hK
         refine zS (fun w' hS hV K hK=>?_) ?_
         ·have e8:=zQ hV 8;have e12:=zQ hV 12;obtain⟨q0,q1⟩:=hS.1.two;have t1:=hS.2.1;have t2:=hS.2.2.1;go_simp;exact hK.out _ _ _ rfl rfl (by first | rfl | exact congrArg (Value.int .i64) (by omega) | exact congrArg (Value.int .i64) (yi _ (by omega) (by omega))) zG
         refine zS (fun w' hS hV K hK=>?_) ?_
         ·have e6:=zQ hV 6;have e13:=zQ hV 13;obtain⟨q0,q1⟩:=hS.1.two;have t1:=hS.2.1;have t2:=hS.2.2.1;go_simp;refine (xl p (na*d1) w' (by omega) (by omega) (by omega) (by omega)).mono ?_;rintro e v1 ⟨rfl,rfl⟩;exact hK.out _ _ _ rfl rfl (by rw[HZZ.out];rfl) zG
         refine zS (fun w' hS hV K hK=>?_) ?_
         ·have e3:=zQ hV 3;have e4:=zQ hV 4;obtain⟨q0,q1⟩:=hS.1.two;have t1:=hS.2.1;have t2:=hS.2.2.1;go_simp;exact zO hK
         refine fun w' hS hV=>?_
         have e0:=zT hV 0
         have e1:=zT hV 1
         have e2:=zT hV 2
         have e3:=zT hV 3
         have e4:=zT hV 4
         have e5:=zT hV 5
         have e6:=zT hV 6
         have e7:=zT hV 7
         have e8:=zT hV 8
         have e9:=zT hV 9
         have e10:=zT hV 10
         have e11:=zT hV 11
         have e12:=zT hV 12
         have e13:=zT hV 13
         have e14:=zT hV 14
         have e15:=zT hV 15
         simp only[e0,e1,e2,e3,e4,e5,e6,e7,e8,e9,e10,e11,e12,e13,e14,e15]
         clear e0 e1 e2 e3 e4 e5 e6 e7 e8 e9 e10 e11 e12 e13 e14 e15
         obtain⟨-, -, -,s7⟩:=hS
         have c4:=(s7.cell (World.block_lt_of_cell? _ _ c3)).trans c3
         have f4:w'.frozen? ⟨gi,i,none⟩=false:=((HOC.out.below s7).rowFr hq ((s7.cell (World.block_lt_of_cell? _ _ c1)).trans c1)) i
         refine yK (j:=16) (by kernel_rfl) (Eq.trans (by simp only[zA,zB,zC];exact rfl) rfl) (fun K hK=>?_)
         go_simp
         refine hK.out _ _ (wpAny_done (by kernel_rfl) ?_ _)
         have hO9:=(HOC.out.below s7).cellSet (Nat.le_trans (HDC.out.size) s7.size) hq ((s7.cell (World.block_lt_of_cell? _ _ c1)).trans c1) i zz
         have HL9:=Lib.hid (qB HLC.out q i zz)
         have HD9:=Lib.hid ((HDC.out.then s7).setNew (b:=gi) hgi i (.int .i64 zz))
         have HO9:=Lib.hid hO9
         obtain⟨wE,hW2⟩:∃ W,W=w'.setCell ⟨gi,i,none⟩ (.int .i64 zz):=⟨_,rfl⟩
         rw[← hW2]at HD9 HO9 ⊢
         clear hW2 hO9 c1 c2 c3 c4 f3 f4 kb s7 m1 m2 HNA HNW HN1 HZZ hgi hV
         go_wp2
         go_roundw
         case rel=>exact⟨q+1,_,by omega,by go_num,HO9,HL9,HD9⟩
         case measure=>simp[intOf];omega
       ·have hfb:(few == 1)=false:=by simp[hf]
        clear hf
        have hna:=yr g p wr HDw.out.s' (by omega)
        have kq:=HKB.out.dr HDw.out (by decide)
        obtain⟨q0,q1⟩:=kq.two
        go_wp2_with fail
        refine hna.mono ?_
        rintro e wB ⟨ra,rfl,ha0,ha1,hdB⟩
        have ha1':=ha1 (by omega)
        have HOB:=Lib.hid (HOw.out.dr hdB (by decide) (by decide))
        have HLB:=HLw
        have HDB:=Lib.hid (HDw.out.trans hdB)
        clear hna kq q0 q1 ha1 hdB HOw HLw HDw
        obtain⟨gi,ci,x0,c1,c3,f3,hgi⟩:=HOB.out.rowAt HLB.out hi hq
        obtain⟨gd1,od1,e1,hx1,c2⟩:=(HDI.out.dr HDB.out (by decide)).rd.int hq
        injection e1 with e1;injection e1 with e11 e12 _
        subst e11 e12
        obtain⟨b5,b6⟩:=HDN.out _ (List.getElem_mem hx1)
        obtain⟨d1,hd1e⟩:∃ z,z=DG[q]:=⟨_,rfl⟩
        rw[← hd1e]at c2 b5 b6
        have m1:0≤ra*d1:=Int.mul_nonneg ha0 b5
        have m2:ra*d1≤13*13:=Int.mul_le_mul (by omega) (by omega) b5 (by omega)
        have kb:=HKB.out.dr HDB.out (by decide)
        obtain⟨zz,hzz⟩:∃ z,z=(ra*d1)%p:=⟨_,rfl⟩
        have HZZ:=Lib.hid hzz
        clear hd1e hx1 b5 b6 hzz
        go_wp2
        refine yh 15 [[],[],[0,1],[0,1,2],[],[],[5],[],[],[],[8,9],[8,9,10],[7,8,9,10,11],[5,6,7,8,9,10,11,12],[0,1,2,3,4],[0,1,2,3,4,5,6,7,8,9,10,11,12,13,14]] [VIs (.slice (some ⟨go,0,none⟩) n co),VIs (.int .i64 (i)),VIs (.pointer (some ⟨go,i,none⟩)),VIs (.slice (some ⟨gi,0,none⟩) n ci),VIs (.int .i64 (q)),VIs (.pointer (some ⟨w.heap.size,0,none⟩)),VIs (.int .i64 (p)),VIs (.int .i64 (ra)),VIs (.slice (some ⟨gd,od,none⟩) n cd),VIs (.int .i64 (q)),VIs (.pointer (some ⟨gd,od+q,none⟩)),VIs (.int .i64 (d1)),VIs (.int .i64 (ra*d1)),VIs (.int .i64 (zz)),VIs (.pointer (some ⟨gi,q,none⟩))] (fun w'=>Blk w' w.heap.size 26 #[.int .i64 p,.slice A k c]∧w'.cell? ⟨go,i,none⟩=some (.slice (some ⟨gi,0,none⟩) n ci)∧w'.cell? ⟨gd,od+q,none⟩=some (.int .i64 d1)∧Below wB.heap.size wB w') (by kernel_rfl) (by kernel_rfl) (fun _ _ h hb=>⟨h.1.below hb h.1.lt,(hb.cell (World.block_lt_of_cell? _ _ h.2.1)).trans h.2.1,(hb.cell (World.block_lt_of_cell? _ _ h.2.2.1)).trans h.2.2.1,h.2.2.2.trans (hb.mono h.2.2.2.size)⟩) (⟨kb.drew,c1,c2,zG.drew⟩) (fun x=>?_)
        refine zS (fun w' hS hV K hK=>?_) ?_
        ·obtain⟨q0,q1⟩:=hS.1.two;have t1:=hS.2.1;have t2:=hS.2.2.1;go_simp;exact zO hK
        refine zS (fun w' hS hV K hK=>?_) ?_
        ·obtain⟨q0,q1⟩:=hS.1.two;have t1:=hS.2.1;have t2:=hS.2.2.1;go_simp;exact zO hK
        refine zS (fun w' hS hV K hK=>?_) ?_
        ·have e0:=zQ hV 0;have e1:=zQ hV 1;obtain⟨q0,q1⟩:=hS.1.two;have t1:=hS.2.1;have t2:=hS.2.2.1;go_simp;exact zO hK
        refine zS (fun w' hS hV K hK=>?_) ?_
        ·have e2:=zQ hV 2;obtain⟨q0,q1⟩:=hS.1.two;have t1:=hS.2.1;have t2:=hS.2.2.1;go_simp;exact zO hK
        refine zS (fun w' hS hV K hK=>?_) ?_
        ·obtain⟨q0,q1⟩:=hS.1.two;have t1:=hS.2.1;have t2:=hS.2.2.1;go_simp;exact zO hK
        refine zS (fun w' hS hV K hK=>?_) ?_
        ·obtain⟨q0,q1⟩:=hS.1.two;have t1:=hS.2.1;have t2:=hS.2.2.1;go_simp;exact zO hK
        refine zS (fun w' hS hV K hK=>?_) ?_
        ·have e5:=zQ hV 5;obtain⟨q0,q1⟩:=hS.1.two;have t1:=hS.2.1;have t2:=hS.2.2.1;go_simp;exact zO hK
        refine zS (fun w' hS hV K hK=>?_) ?_
        ·obtain⟨q0,q1⟩:=hS.1.two;have t1:=hS.2.1;have t2:=hS.2.2.1;go_simp;exact zO hK
        refine zS (fun w' hS hV K hK=>?_) ?_
        ·obtain⟨q0,q1⟩:=hS.1.two;have t1:=hS.2.1;have t2:=hS.2.2.1;go_simp;exact zO hK
        refine zS (fun w' hS hV K hK=>?_) ?_
        ·obtain⟨q0,q1⟩:=hS.1.two;have t1:=hS.2.1;have t2:=hS.2.2.1;go_simp;exact zO hK
        refine zS (fun w' hS hV K hK=>?_) ?_
        ·have e8:=zQ hV 8;have e9:=zQ hV 9;obtain⟨q0,q1⟩:=hS.1.two;have t1:=hS.2.1;have t2:=hS.2.2.1;go_simp;exact zO hK
        refine zS (fun w' hS hV K hK=>?_) ?_
        ·have e10:=zQ hV 10;obtain⟨q0,q1⟩:=hS.1.two;have t1:=hS.2.1;have t2:=hS.2.2.1;go_simp;exact zO hK
        refine zS (fun w' hS hV K hK=>?_) ?_
        ·have e7:=zQ hV 7;have e11:=zQ hV 11;obtain⟨q0,q1⟩:=hS.1.two;have t1:=hS.2.1;have t2:=hS.2.2.1;go_simp;exact hK.out _ _ _ rfl rfl (by first | rfl | exact congrArg (Value.int .i64) (by omega) | exact congrArg (Value.int .i64) (yi _ (by omega) (by omega))) zG
        refine zS (fun w' hS hV K hK=>?_) ?_
        ·have e6:=zQ hV 6;have e12:=zQ hV 12;obtain⟨q0,q1⟩:=hS.1.two;have t1:=hS.2.1;have t2:=hS.2.2.1;go_simp;refine (xl p (ra*d1) w' (by omega) (by omega) (by omega) (by omega)).mono ?_;rintro e v1 ⟨rfl,rfl⟩;exact hK.out _ _ _ rfl rfl (by rw[HZZ.out];rfl) zG
        refine zS (fun w' hS hV K hK=>?_) ?_
        ·have e3:=zQ hV 3;have e4:=zQ hV 4;obtain⟨q0,q1⟩:=hS.1.two;have t1:=hS.2.1;have t2:=hS.2.2.1;go_simp;exact zO hK
        refine fun w' hS hV=>?_
        have e0:=zT hV 0
        have e1:=zT hV 1
        have e2:=zT hV 2
        have e3:=zT hV 3
        have e4:=zT hV 4
        have e5:=zT hV 5
        have e6:=zT hV 6
        have e7:=zT hV 7
        have e8:=zT hV 8
        have e9:=zT hV 9
        have e10:=zT hV 10
        have e11:=zT hV 11
        have e12:=zT hV 12
        have e13:=zT hV 13
        have e14:=zT hV 14
        simp only[e0,e1,e2,e3,e4,e5,e6,e7,e8,e9,e10,e11,e12,e13,e14]
        clear e0 e1 e2 e3 e4 e5 e6 e7 e8 e9 e10 e11 e12 e13 e14
        obtain⟨-, -, -,s7⟩:=hS
        have c4:=(s7.cell (World.block_lt_of_cell? _ _ c3)).trans c3
        have f4:w'.frozen? ⟨gi,q,none⟩=false:=((HOB.out.below s7).rowFr hi ((s7.cell (World.block_lt_of_cell? _ _ c1)).trans c1)) q
        refine yK (j:=15) (by kernel_rfl) (Eq.trans (by simp only[zA,zB,zC];exact rfl) rfl) (fun K hK=>?_)
        go_simp
        refine hK.out _ _ (wpAny_done (by kernel_rfl) ?_ _)
        have hO9:=(HOB.out.below s7).cellSet (Nat.le_trans (HDB.out.size) s7.size) hi ((s7.cell (World.block_lt_of_cell? _ _ c1)).trans c1) q zz
        have HL9:=Lib.hid (qB HLB.out i q zz)
        have HD9:=Lib.hid ((HDB.out.then s7).setNew (b:=gi) hgi q (.int .i64 zz))
        have HO9:=Lib.hid hO9
        obtain⟨wC,hW2⟩:∃ W,W=w'.setCell ⟨gi,q,none⟩ (.int .i64 zz):=⟨_,rfl⟩
        rw[← hW2]at HD9 HO9 ⊢
        clear hW2 hO9 c1 c2 c3 c4 f3 f4 kb s7 m1 m2 HZZ hgi hV
        have HOC:=HO9
        have HLC:=HL9
        have HDC:=HD9
        clear HO9 HL9 HD9 HOB HLB HDB
        obtain⟨gi,ci,x0,c1,c3,f3,hgi⟩:=HOC.out.rowAt HLC.out hq hi
        obtain⟨gd1,od1,e1,hx1,c2⟩:=(HDI.out.dr HDC.out (by decide)).rd.int hi
        injection e1 with e1;injection e1 with e11 e12 _
        subst e11 e12
        obtain⟨b5,b6⟩:=HDN.out _ (List.getElem_mem hx1)
        obtain⟨d1,hd1e⟩:∃ z,z=DG[i]:=⟨_,rfl⟩
        rw[← hd1e]at c2 b5 b6
        have m1:0≤ra*d1:=Int.mul_nonneg ha0 b5
        have m2:ra*d1≤13*13:=Int.mul_le_mul (by omega) (by omega) b5 (by omega)
        obtain⟨na,hna9⟩:∃ z,z = -ra:=⟨_,rfl⟩
        have hn1:na*d1 = -(ra*d1):=by rw[hna9,Int.neg_mul]
        have HNA:=Lib.hid hna9
        have HNW:Hid (wrap64 (-ra)=na):=Lib.hid (by rw[hna9];unfold wrap64;omega)
        clear hna9
        have m3:-(13*13)≤na*d1:=by omega
        have m4:na*d1≤0:=by omega
        clear m1 m2
        have m1:=m3
        have m2:=m4
        clear m3 m4
        have HN1:=Lib.hid hn1
        clear hn1
        have kb:=HKB.out.dr HDC.out (by decide)
        obtain⟨zz,hzz⟩:∃ z,z=(na*d1)%p:=⟨_,rfl⟩
        have HZZ:=Lib.hid hzz
        clear hd1e hx1 b5 b6 hzz
        go_wp2
        refine yh 16 [[],[],[0,1],[0,1,2],[],[],[5],[],[7],[],[],[9,10],[9,10,11],[7,8,9,10,11,12],[5,6,7,8,9,10,11,12,13],[0,1,2,3,4],[0,1,2,3,4,5,6,7,8,9,10,11,12,13,14,15]] [VIs (.slice (some ⟨go,0,none⟩) n co),VIs (.int .i64 (q)),VIs (.pointer (some ⟨go,q,none⟩)),VIs (.slice (some ⟨gi,0,none⟩) n ci),VIs (.int .i64 (i)),VIs (.pointer (some ⟨w.heap.size,0,none⟩)),VIs (.int .i64 (p)),VIs (.int .i64 (ra)),VIs (.int .i64 (na)),VIs (.slice (some ⟨gd,od,none⟩) n cd),VIs (.int .i64 (i)),VIs (.pointer (some ⟨gd,od+i,none⟩)),VIs (.int .i64 (d1)),VIs (.int .i64 (na*d1)),VIs (.int .i64 (zz)),VIs (.pointer (some ⟨gi,i,none⟩))] (fun w'=>Blk w' w.heap.size 26 #[.int .i64 p,.slice A k c]∧w'.cell? ⟨go,q,none⟩=some (.slice (some ⟨gi,0,none⟩) n ci)∧w'.cell? ⟨gd,od+i,none⟩=some (.int .i64 d1)∧Below wC.heap.size wC w') (by kernel_rfl) (by kernel_rfl) (fun _ _ h hb=>⟨h.1.below hb h.1.lt,(hb.cell (World.block_lt_of_cell? _ _ h.2.1)).trans h.2.1,(hb.cell (World.block_lt_of_cell? _ _ h.2.2.1)).trans h.2.2.1,h.2.2.2.trans (hb.mono h.2.2.2.size)⟩) (⟨kb.drew,c1,c2,zG.drew⟩) (fun x=>?_)
        refine zS (fun w' hS hV K hK=>?_) ?_
        ·obtain⟨q0,q1⟩:=hS.1.two;have t1:=hS.2.1;have t2:=hS.2.2.1;go_simp;exact zO hK
        refine zS (fun w' hS hV K hK=>?_) ?_
        ·obtain⟨q0,q1⟩:=hS.1.two;have t1:=hS.2.1;have t2:=hS.2.2.1;go_simp;exact zO hK
        refine zS (fun w' hS hV K hK=>?_) ?_
        ·have e0:=zQ hV 0;have e1:=zQ hV 1;obtain⟨q0,q1⟩:=hS.1.two;have t1:=hS.2.1;have t2:=hS.2.2.1;go_simp;exact zO hK
        refine zS (fun w' hS hV K hK=>?_) ?_
        ·have e2:=zQ hV 2;obtain⟨q0,q1⟩:=hS.1.two;have t1:=hS.2.1;have t2:=hS.2.2.1;go_simp;exact zO hK
        refine zS (fun w' hS hV K hK=>?_) ?_
        ·obtain⟨q0,q1⟩:=hS.1.two;have t1:=hS.2.1;have t2:=hS.2.2.1;go_simp;exact zO hK
        refine zS (fun w' hS hV K hK=>?_) ?_
        ·obtain⟨q0,q1⟩:=hS.1.two;have t1:=hS.2.1;have t2:=hS.2.2.1;go_simp;exact zO hK
        refine zS (fun w' hS hV K hK=>?_) ?_
        ·have e5:=zQ hV 5;obtain⟨q0,q1⟩:=hS.1.two;have t1:=hS.2.1;have t2:=hS.2.2.1;go_simp;exact zO hK
        refine zS (fun w' hS hV K hK=>?_) ?_
        ·obtain⟨q0,q1⟩:=hS.1.two;have t1:=hS.2.1;have t2:=hS.2.2.1;go_simp;exact zO hK
        refine zS (fun w' hS hV K hK=>?_) ?_
        ·have e7:=zQ hV 7;obtain⟨q0,q1⟩:=hS.1.two;have t1:=hS.2.1;have t2:=hS.2.2.1;go_simp;exact hK.out _ _ _ rfl rfl (by first | rfl | exact congrArg (Value.int .i64) HNW.out | exact congrArg (Value.int .i64) (by rw[IntWalk.i64_left];exact HNW.out) | exact congrArg (Value.int .i64) HNA.out.symm) zG
        refine zS (fun w' hS hV K hK=>?_) ?_
        ·obtain⟨q0,q1⟩:=hS.1.two;have t1:=hS.2.1;have t2:=hS.2.2.1;go_simp;exact zO hK
        refine zS (fun w' hS hV K hK=>?_) ?_
        ·obtain⟨q0,q1⟩:=hS.1.two;have t1:=hS.2.1;have t2:=hS.2.2.1;go_simp;exact zO hK
        refine zS (fun w' hS hV K hK=>?_) ?_
        ·have e9:=zQ hV 9;have e10:=zQ hV 10;obtain⟨q0,q1⟩:=hS.1.two;have t1:=hS.2.1;have t2:=hS.2.2.1;go_simp;exact zO hK
        refine zS (fun w' hS hV K hK=>?_) ?_
        ·have e11:=zQ hV 11;obtain⟨q0,q1⟩:=hS.1.two;have t1:=hS.2.1;have t2:=hS.2.2.1;go_simp;exact zO hK
        refine zS (fun w' hS hV K hK=>?_) ?_
        ·have e8:=zQ hV 8;have e12:=zQ hV 12;obtain⟨q0,q1⟩:=hS.1.two;have t1:=hS.2.1;have t2:=hS.2.2.1;go_simp;exact hK.out _ _ _ rfl rfl (by first | rfl | exact congrArg (Value.int .i64) (by omega) | exact congrArg (Value.int .i64) (yi _ (by omega) (by omega))) zG
        refine zS (fun w' hS hV K hK=>?_) ?_
        ·have e6:=zQ hV 6;have e13:=zQ hV 13;obtain⟨q0,q1⟩:=hS.1.two;have t1:=hS.2.1;have t2:=hS.2.2.1;go_simp;refine (xl p (na*d1) w' (by omega) (by omega) (by omega) (by omega)).mono ?_;rintro e v1 ⟨rfl,rfl⟩;exact hK.out _ _ _ rfl rfl (by rw[HZZ.out];rfl) zG
        refine zS (fun w' hS hV K hK=>?_) ?_
        ·have e3:=zQ hV 3;have e4:=zQ hV 4;obtain⟨q0,q1⟩:=hS.1.two;have t1:=hS.2.1;have t2:=hS.2.2.1;go_simp;exact zO hK
        refine fun w' hS hV=>?_
        have e0:=zT hV 0
        have e1:=zT hV 1
        have e2:=zT hV 2
        have e3:=zT hV 3
        have e4:=zT hV 4
        have e5:=zT hV 5
        have e6:=zT hV 6
        have e7:=zT hV 7
        have e8:=zT hV 8
        have e9:=zT hV 9
        have e10:=zT hV 10
        have e11:=zT hV 11
        have e12:=zT hV 12
        have e13:=zT hV 13
        have e14:=zT hV 14
        have e15:=zT hV 15
        simp only[e0,e1,e2,e3,e4,e5,e6,e7,e8,e9,e10,e11,e12,e13,e14,e15]
        clear e0 e1 e2 e3 e4 e5 e6 e7 e8 e9 e10 e11 e12 e13 e14 e15
        obtain⟨-, -, -,s7⟩:=hS
        have c4:=(s7.cell (World.block_lt_of_cell? _ _ c3)).trans c3
        have f4:w'.frozen? ⟨gi,i,none⟩=false:=((HOC.out.below s7).rowFr hq ((s7.cell (World.block_lt_of_cell? _ _ c1)).trans c1)) i
        refine yK (j:=16) (by kernel_rfl) (Eq.trans (by simp only[zA,zB,zC];exact rfl) rfl) (fun K hK=>?_)
        go_simp
        refine hK.out _ _ (wpAny_done (by kernel_rfl) ?_ _)
        have hO9:=(HOC.out.below s7).cellSet (Nat.le_trans (HDC.out.size) s7.size) hq ((s7.cell (World.block_lt_of_cell? _ _ c1)).trans c1) i zz
        have HL9:=Lib.hid (qB HLC.out q i zz)
        have HD9:=Lib.hid ((HDC.out.then s7).setNew (b:=gi) hgi i (.int .i64 zz))
        have HO9:=Lib.hid hO9
        obtain⟨wE,hW2⟩:∃ W,W=w'.setCell ⟨gi,i,none⟩ (.int .i64 zz):=⟨_,rfl⟩
        rw[← hW2]at HD9 HO9 ⊢
        clear hW2 hO9 c1 c2 c3 c4 f3 f4 kb s7 m1 m2 HNA HNW HN1 HZZ hgi hV
        go_wp2
        go_roundw
        case rel=>exact⟨q+1,_,by omega,by go_num,HO9,HL9,HD9⟩
        case measure=>simp[intOf];omega
      ·have HQ:Hid (q=i):=Lib.hid (by omega)
       go_wp2
       go_roundw
       case rel=>exact⟨i+1,Ms,by omega,by go_num,HOw,HLw,HDw⟩
       case measure=>simp[intOf];omega
    ·have hrd:=HO.out.rdN.base HB2.out.size
     have HRD:=Lib.hid hrd
     have HFD:Hid (Dr g 124 w wr):=Lib.hid ((Dr.of_below hs HB2.out).trans HD.out)
     clear hrd
     go_wp2
     go_ret
     exact⟨_,n,co,Ms0,rfl,hpk,hcap,HRD.out,fun r hr=>by rw[HL.out r hr];exact hpk,HFD.out⟩
def VEl (B:Nat):VP:=⟨fun v w=>∃ (A:Option Addr) (m c:Nat) (xs:List Int),v=.slice A m c∧m≤16∧OwnT w B A m c xs,fun _ _ _ ⟨A,m,c,xs,e,h1,h⟩ hb=>⟨A,m,c,xs,e,h1,h.below hb⟩⟩
theorem VEl.dr {B g:Nat} {v:Value} {w w':World} (h:(VEl B).p v w) (d:Dr g 124 w w'):(VEl B).p v w':=by
 obtain⟨A,m,c,xs,e,h1,h2⟩:=h
 exact⟨A,m,c,xs,e,h1,h2.dr d (by decide)⟩
theorem VwT.keep {w w':World} {B:Nat} {A0:Option Addr} {n0 c0:Nat} {us:List Value} {A:Option Addr} {n:Nat} {xs:List Int} (h:VwT A0 n0 us A n xs) (ho:Own w B 2 A0 n0 c0 us) (hk:∀ b,B≤b→b<w.heap.size→w'.heap[b]? = w.heap[b]?):Rd w' A n (ints xs):=by
 rcases h with ⟨rfl,rfl⟩ | ⟨g,o,ys,rfl,rfl,rfl,h0,hle,rfl⟩
 ·exact Rd.nil _ _
 ·obtain⟨g',o',e,hr⟩:=(ho.keep hk).behind (show o<n0 by omega)
  injection e with e
  injection e with e1 e2 _
  subst e1;subst e2
  have:=hr.cutT (show n≤n0-o by omega)
  rw[vc,Nat.zero_add]at this
  rw[show ints ((ys.drop o).take n)=(ints (ys.drop o)).take n by unfold ints;rw[List.map_take]]
  exact this
theorem GoodR.rdN {w:World} {B:Nat} {rows:List Value} {A:Option Addr} {n c:Nat} (h:GoodR w B rows) (ho:Own w B 24 A n c rows):∃ M,RdN w B A n M ∧ ∀ r∈M,r.length≤16:=by
 have key:∀ u∈rows,∃ (A1:Option Addr) (xs1:List Int) (c1:Nat),u=.slice A1 xs1.length c1∧xs1.length≤16∧xs1.length≤c1 ∧ ∀ w2:World,(∀ b,B≤b→b<w.heap.size→w2.heap[b]? = w.heap[b]?)→Rd w2 A1 xs1.length (ints xs1):=fun u hu=>by
  obtain⟨A1,m1,c1,xs1,e,h1,hc,A0,n0,c0,us,h2,h3⟩:=h u hu
  have hl:xs1.length=m1:=(h3.rd h2).lenI
  subst hl
  exact⟨A1,xs1,c1,e,h1,hc,fun w2 hk=>h3.keep h2 hk⟩
 have hM:∃ M:List (List Int),M.length=rows.length ∧ ∀ (k:Nat) (hk:k<M.length),∃ A1 c1,rows[k]? = some (.slice A1 M[k].length c1)∧M[k].length≤16∧M[k].length≤c1 ∧ ∀ w2:World,(∀ b,B≤b→b<w.heap.size→w2.heap[b]? = w.heap[b]?)→Rd w2 A1 M[k].length (ints M[k]):=by
  clear ho h
  induction rows with
  | nil=>exact⟨[],rfl,fun k hk=>absurd hk (by simp)⟩
  | cons u rows ih=>
   obtain⟨M,hl,hM⟩:=ih (fun v hv=>key v (by simp[hv]))
   obtain⟨A1,xs1,c1,e,h1,h2,h3⟩:=key u (by simp)
   refine⟨xs1::M,by simp[hl],fun k hk=>?_⟩
   cases k with
   | zero=>exact⟨A1,c1,by simp[e],h1,h2,h3⟩
   | succ k=>exact hM k (by simpa using hk)
 obtain⟨M,hl,hM⟩:=hM
 refine⟨M,fun w2 hk=>⟨rows,ho.keep hk,hl.symm,fun k hk'=>?_⟩,fun r hr=>?_⟩
 ·obtain⟨A1,c1,e, -,h2,h3⟩:=hM k hk'
  exact⟨A1,c1,e,h3 w2 hk,h2⟩
 ·obtain⟨k,hk,rfl⟩:=List.getElem_of_mem hr
  obtain⟨_,_,_,h1,_⟩:=hM k hk
  exact h1
theorem RdII.cast0 {w:World} {A:Option Addr} {n:Nat} (h:RdII w A 0 []) (hn:n=0):RdII w A n []:=by subst hn;exact h
theorem uf {g m c:Nat} (w:World) (hk:1≤m) (hc:m≤c):(Instr.slice 32 (.slice (some ⟨g,0,none⟩) m c) (some (.int .i64 1)) none none).run Tryz.prog w=.ok (.slice (some ⟨g,if c=1 then 0 else 1,none⟩) (m-1) (c-1)) w:=by
 have h:=run_slice_l (P:=Tryz.prog) (w:=w) (t:=32) (a:=some ⟨g,0,none⟩) (len:=m) (cap:=c) (ht:=by kernel_rfl) (kl:=.i64) (l:=1) (h0:=by omega) (h1:=by omega)
 rw[h]
 by_cases h1:c=1
 ·subst h1;simp[go_sem,sliced,Addr.add]
 ·simp[go_sem,sliced,h1,Addr.add]
set_option maxHeartbeats 12800000 in
set_option maxRecDepth 8000 in
theorem vY (g:Nat) (p:Int) (A:Option Addr) (k c:Nat) (st:List Int) (w:World) (hs:Src w g 124) (hP0:0≤p) (hP17:p≤17) (hk:k≤5) (hc:k≤c) (ha:Own w 0 2 A k c (ints st)) :
 Calls Tryz.prog 84 #[.pointer (some ⟨g,0,none⟩),.agg #[.int .i64 p,.slice A k c]] w (yaF g w):=by
 have hd1:Dr g 124 w (w.alloc (.cells #[.int .i64 p,.slice A k c] 26)):=(Dr.refl hs).alloc _
 have k1:Blk (w.alloc (.cells #[.int .i64 p,.slice A k c] 26)) w.heap.size 26 #[.int .i64 p,.slice A k c]:=Blk.new _ _ _
 obtain⟨q0,q1⟩:=k1.two
 obtain⟨N,hN⟩:∃ z,z=pw (min 4 k):=⟨_,rfl⟩
 have hN16:N≤16:=by rw[hN];exact yz (show min 4 k≤4 by omega)
 have hN1:1≤N:=by rw[hN];exact yq _
 have hsl:st.length=k:=ha.rd.lenI
 have his:=qy p A k c st _ (by omega) ((ha.dr hd1 (by decide)).rd)
 obtain⟨b,hb⟩:∃ z,z=isDb p st:=⟨_,rfl⟩
 rw[← hb]at his
 rcases Nat.lt_or_ge k 4 with h4 | h4
 ·have h4i:¬ ((4:Int)≤(k:Int)):=by omega
  have hNk:N=pw k:=by rw[hN,Nat.min_eq_right (by omega)]
  have hshl:IntKind.i64.wrap (2^k)=(N:Int):=by rw[IntWalk.i64_left,hNk];exact uV k (by omega)
  have hshl2:wrap64 (2^k)=(N:Int):=by rw[hNk];exact uV k (by omega)
  have h3i:(k:Int)≤3:=by omega
  have hd3:decide ((k:Int)≤3)=true:=by rw[decide_eq_true_eq];omega
  cases b with
  | false=>
   have HNK:=Lib.hid hNk
   clear hN hNk hb hsl ha h4
   go_enter Tryz.func84,Tryz.ntmps84
   go_wp2_with fail
   refine his.mono ?_
   rintro e w2 ⟨rfl,hb2⟩
   have HD2:=hd1.then hb2
   have k2:=k1.below hb2 k1.lt
   clear his hd1 k1 hb2 q0 q1
   go_wp2
   obtain⟨wl,hwl⟩:∃ W,W=w2.alloc (.cells #[] 24):=⟨_,rfl⟩
   have hdl:Dr g 124 w wl:=by rw[hwl];exact HD2.alloc (.cells #[] 24)
   have hol:Own wl w.heap.size 24 (some ⟨w2.heap.size,0,none⟩) 0 0 []:=by rw[hwl];exact Own.of_cells (cs:=#[]) HD2.size (Blk.new w2 24 #[]) (by simp[maxLen])
   have kl:Blk wl w.heap.size 26 #[.int .i64 p,.slice A k c]:=by rw[hwl];exact k2.alloc _
   rw[← hwl]
   clear hwl
   go_loopw [8,9] (fun out iv wr=>∃ (j:Nat) (OA:Option Addr) (oc:Nat) (rows:List Value),j≤N∧iv=.int .i64 j∧out=.slice OA j oc∧Hid (Own wr w.heap.size 24 OA j oc rows)∧Hid (GoodR wr w.heap.size rows)∧Blk wr w.heap.size 26 #[.int .i64 p,.slice A k c]∧Hid (Dr g 124 w wr)) (fun _ iv _=>N-(intOf iv).toNat)
   case atStart=>exact⟨0,_,_,[],by omega,rfl,rfl,Lib.hid hol,Lib.hid (fun u hu=>by cases hu),kl,Lib.hid hdl⟩
   case round=>
    obtain⟨j,OA,oc,rows,hj,rfl,rfl,HO,HG,k4,HD⟩:=hrel
    clear hol hdl kl
    by_cases hlt:j<N
    ·obtain⟨wo,rfl⟩:∃ W,W=wr:=⟨_,rfl⟩
     have jb1:(j:Int)<(N:Int):=by omega
     have hdr0:Dr g 124 wo (wo.alloc (.cells #[] 2)):=(Dr.refl HD.out.s').alloc _
     have hor:Own (wo.alloc (.cells #[] 2)) wo.heap.size 2 (some ⟨wo.heap.size,0,none⟩) 0 0 (ints []):=Own.of_cells (cs:=#[]) (Nat.le_refl _) (Blk.new wo 2 #[]) (by simp[maxLen])
     go_wp2
     obtain⟨wi,hwi⟩:∃ W,W=wo.alloc (.cells #[] 2):=⟨_,rfl⟩
     rw[← hwi]at hdr0 hor ⊢
     clear hwi
     go_loopw [10,11] (fun row qv wr=>∃ (q:Nat) (A2:Option Addr) (c2:Nat) (xs:List Int),q≤N∧qv=.int .i64 q∧row=.slice A2 q c2∧Hid (Own wr wo.heap.size 2 A2 q c2 (ints xs))∧Hid (Dr g 124 wo wr)) (fun _ qv _=>N-(intOf qv).toNat)
     case atStart=>exact⟨0,_,_,[],by omega,rfl,rfl,Lib.hid hor,Lib.hid hdr0⟩
     case round=>
      obtain⟨q,A2,c2,xs,hq,rfl,rfl,HR,HDI⟩:=hrel
      clear hor hdr0
      by_cases hlq:q<N
      ·have kt:=k4.dr HDI.out (by decide)
       obtain⟨q0,q1⟩:=kt.two
       have qb1:(q:Int)<(N:Int):=by omega
       by_cases hp1:p≤1
       all_goals try (exfalso;omega)
       all_goals
        go_wp2_with fail
        refine (yr g _ _ HDI.out.s' (by first | omega | (split<;>omega))).mono ?_
        rintro e wB ⟨ra,rfl, -, -,hdB⟩
        have HRB:=Lib.hid (HR.out.dr hdB (by decide))
        have HDB:=Lib.hid (HDI.out.trans hdB)
        clear kt q0 q1 hdB HR HDI
        go_wp2_with (at_builtin;refine yt (cutW wB wo.heap.size) wB 24 2 _ _ Tryz.underlying24 yo rfl (by omega) rfl _ _ rfl A2 q c2 _ _ (HRB.out.mk_ HDB.out.size) (by omega) rfl rfl rfl ?_;intro A8 c8 w8 hM8 hg8 _)
        have HR8:=Lib.hid (hM8.own_ (yv HDB.out.size))
        have HD8:=Lib.hid (HDB.out.grown HRB.out hg8)
        clear hM8 hg8
        go_roundw
        case rel=>exact⟨q+1,A8,c8,xs++[ra],by omega,by go_num,rfl,Lib.hid (by simpa [ints] using HR8.out),HD8⟩
        case measure=>simp[intOf];omega
      ·have HQ:Hid (q=N):=Lib.hid (by omega)
       have HO2:=Lib.hid (HO.out.dr HDI.out (by decide))
       have HG2:=Lib.hid (HG.out.dr HDI.out (by decide))
       have HD2:=Lib.hid (HD.out.trans HDI.out)
       have HT2:=Lib.hid (OwnT.of (HR.out.base HD.out.size))
       have k5:=k4.dr HDI.out (by decide)
       have hq16:q≤16:=by omega
       clear HO HG HD HR HDI k4
       obtain⟨wt,hwt⟩:∃ W,W=wr:=⟨_,rfl⟩
       rw[← hwt]at HO2 HG2 HD2 HT2 k5 ⊢
       clear hwt
       go_wp2_with (at_builtin;refine yt (cutW wt w.heap.size) wt 32 24 (.slice none 0 0) 24 Tryz.underlying32 zy rfl (by omega) rfl _ _ rfl OA j oc rows (.slice A2 q c2) (HO2.out.mk_ HD2.out.size) (by omega) rfl rfl rfl ?_;intro A8 c8 w8 hM8 hg8 _)
       have HO8:=Lib.hid (hM8.own_ (yv HD2.out.size))
       have HG8:=Lib.hid (HG2.out.snoc HT2.out hq16 HO2.out hg8)
       have HD8:=Lib.hid (HD2.out.grown HO2.out hg8)
       have k8:=k5.grown hg8 (HO2.out.ne_blk k5 (by decide))
       clear hM8 hg8 k5
       go_roundw
       case rel=>exact⟨j+1,A8,c8,_,by omega,by go_num,rfl,HO8,HG8,k8,HD8⟩
       case measure=>simp[intOf];omega
    ·have HJN:Hid (j=N):=Lib.hid (by omega)
     have hj16:j≤16:=by omega
     have hj1:1≤j:=by omega
     have hnx:=yr g 12 wr HD.out.s' (by omega)
     go_wp2_with fail
     refine hnx.mono ?_
     rintro e wB ⟨r12,rfl, -, -,hdB⟩
     have HOB:=Lib.hid (HO.out.dr hdB (by decide))
     have HGB:=Lib.hid (HG.out.dr hdB (by decide))
     have HDB:=Lib.hid (HD.out.trans hdB)
     clear hnx hdB HO HG HD
     by_cases h12:r12=0
     ·have hb:(r12 == 0)=true:=by simp[h12]
      have hcap:=HOB.out.cap
      obtain⟨go,rfl⟩:∃ go,OA=some ⟨go,0,none⟩:=by
       rcases HOB.out.form with ⟨_,hz⟩ | ⟨g,e, -, -⟩
       ·omega
       ·exact⟨g,e⟩
      have hsl:=fun w'=>uf (g:=go) (m:=j) (c:=oc) w' hj1 hcap
      clear h12
      obtain⟨M,h1,h2⟩:=HGB.out.rdN HOB.out
      have H1:=Lib.hid h1
      have H2:=Lib.hid h2
      clear h1 h2
      by_cases hc1:oc=1
      ·simp only[if_pos hc1]at hsl
       go_wp2
       go_ret
       exact⟨_,_,_,[],rfl,by omega,by omega,fun w2 h2=>RdII.cast0 (RdII.nil _ _) (by omega),fun r hr=>absurd hr (by simp),HDB.out⟩
      ·simp only[if_neg hc1]at hsl
       go_wp2
       go_ret
       exact⟨_,_,_,(M.drop 1).take (j-1),rfl,by omega,by omega,fun w2 h=>by have:=(H1.out w2 h).part (i:=1) (m:=j-1) (by omega);rwa [Nat.zero_add]at this,fun r hr=>H2.out r (List.mem_of_mem_drop (List.mem_of_mem_take hr)),HDB.out⟩
     ·have hb:(r12 == 0)=false:=by simp[h12]
      clear h12
      have hcap:=HOB.out.cap
      go_wp2
      go_ret
      obtain⟨M,h1,h2⟩:=HGB.out.rdN HOB.out
      exact⟨_,_,_,M,rfl,by omega,hcap,h1,h2,HDB.out⟩
  | true=>
   obtain⟨HP, -,hst⟩:=ze hb.symm
   obtain⟨hp3,hp13⟩:=yk HP
   have hstn:NumsL p st:=hst
   have HHA:=Lib.hid ha
   have HNK:=Lib.hid hNk
   clear hN hNk hb hsl ha HP hst
   go_enter Tryz.func84,Tryz.ntmps84
   go_wp2_with fail
   refine his.mono ?_
   rintro e w2 ⟨rfl,hb2⟩
   have HD2:=hd1.then hb2
   have k2:=k1.below hb2 k1.lt
   have hn3:=yr g 3 w2 HD2.s' (by omega)
   clear his hd1 k1 hb2 q0 q1
   obtain⟨q0,q1⟩:=k2.two
   go_wp2_with fail
   refine hn3.mono ?_
   rintro e wq ⟨r3,rfl,hr0, -,hdq⟩
   have HDq:=HD2.trans hdq
   have kq:=k2.dr hdq (by decide)
   have hsq:=HDq.s'
   clear hn3 HD2 k2 hdq q0 q1
   by_cases h3r:0<r3
   ·have d3:decide (0<r3)=true:=by rw[decide_eq_true_eq];exact h3r
    clear h3r
    obtain⟨q0,q1⟩:=kq.two
    go_wp2
    refine yiA 8 (Dr g 124) [[],[],[0,1],[],[],[3,4],[0,1,2],[3,4,5]] [[],[],[99],[],[],[99],[],[]] (fun x=>[VIs (.pointer (some ⟨g,0,none⟩)),VIs (.agg #[.int .i64 p,.slice A k c]),VEl wq.heap.size,VIs (.pointer (some ⟨g,0,none⟩)),VIs (.agg #[.int .i64 p,.slice A k c]),VEl wq.heap.size,VEl wq.heap.size,VEl wq.heap.size]) (fun w'=>Blk w' w.heap.size 26 #[.int .i64 p,.slice A k c]∧Dr g 124 wq w') (by kernel_rfl) (by kernel_rfl) (fun x x' j hx=>by
     rcases j with _ | _ | _ | _ | _ | _ | _ | _ | j
     ·rfl
     ·rfl
     ·rfl
     ·rfl
     ·rfl
     ·rfl
     ·rfl
     ·rfl
     ·rfl)
     (z6 [0,1,2,3,4,5,6,7] (by decide) (fun k hk x v w w' hp hr=>by
      simp only[List.mem_cons,zJ,or_false]at hk
      rcases hk with rfl | rfl | rfl | rfl | rfl | rfl | rfl | rfl
      ·exact hp
      ·exact hp
      ·exact VEl.dr hp hr
      ·exact hp
      ·exact hp
      ·exact VEl.dr hp hr
      ·exact VEl.dr hp hr
      ·exact VEl.dr hp hr)) (fun j _ _ h hb=>hb.either (fun hb=>⟨h.1.below hb h.1.lt,h.2.then hb⟩) (fun hr=>⟨h.1.dr hr (by decide),h.2.trans hr⟩)) (⟨kq.drew,(Dr.refl hsq).then zG.drew⟩) (fun x=>?_)
    refine zSR (fun w' hS hV K hK=>?_) ?_
    ·obtain⟨q0,q1⟩:=hS.1.two;go_simp;exact hK.out _ _ _ rfl rfl rfl zG
    refine zSR (fun w' hS hV K hK=>?_) ?_
    ·obtain⟨q0,q1⟩:=hS.1.two;go_simp;exact hK.out _ _ _ rfl rfl rfl zG
    refine zSR (fun w' hS hV K hK=>?_) ?_
    ·have e0:=zQ hV 0;have e1:=zQ hV 1;obtain⟨q0,q1⟩:=hS.1.two;go_simp;refine (ybT g p A k c w' hS.2.s' hP0 hP17 hk).mono ?_;rintro e v1 ⟨A9,m9,c9,xs9,rfl,hm9,ho9,hd9⟩;exact hK.out _ _ _ rfl rfl ⟨_,_,_,_,rfl,hm9,ho9.base hS.2.size⟩ hd9
    refine zSR (fun w' hS hV K hK=>?_) ?_
    ·obtain⟨q0,q1⟩:=hS.1.two;go_simp;exact hK.out _ _ _ rfl rfl rfl zG
    refine zSR (fun w' hS hV K hK=>?_) ?_
    ·obtain⟨q0,q1⟩:=hS.1.two;go_simp;exact hK.out _ _ _ rfl rfl rfl zG
    refine zSR (fun w' hS hV K hK=>?_) ?_
    ·have e3:=zQ hV 3;have e4:=zQ hV 4;obtain⟨q0,q1⟩:=hS.1.two;go_simp;refine (ybT g p A k c w' hS.2.s' hP0 hP17 hk).mono ?_;rintro e v1 ⟨A9,m9,c9,xs9,rfl,hm9,ho9,hd9⟩;exact hK.out _ _ _ rfl rfl ⟨_,_,_,_,rfl,hm9,ho9.base hS.2.size⟩ hd9
    refine zSR (fun w' hS hV K hK=>?_) ?_
    ·obtain⟨A2,m2,c2,xs2,e2,hm2,h2⟩:=hV 2 (by decide);obtain⟨q0,q1⟩:=hS.1.two;go_simp;exact hK.out _ _ _ rfl rfl ⟨_,_,_,_,rfl,hm2,h2⟩ zG
    refine zSR (fun w' hS hV K hK=>?_) ?_
    ·obtain⟨A5,m5,c5,xs5,e5,hm5,h5⟩:=hV 5 (by decide);obtain⟨q0,q1⟩:=hS.1.two;go_simp;exact hK.out _ _ _ rfl rfl ⟨_,_,_,_,rfl,hm5,h5⟩ zG
    refine fun w' hS hV=>?_
    have e0:=zQ hV 0
    have e1:=zQ hV 1
    obtain⟨A2,m2,c2,xs2,e2,hm2,h2⟩:=hV 2 (by decide)
    have e3:=zQ hV 3
    have e4:=zQ hV 4
    obtain⟨A5,m5,c5,xs5,e5,hm5,h5⟩:=hV 5 (by decide)
    obtain⟨A6,m6,c6,xs6,e6,hm6,h6⟩:=hV 6 (by decide)
    obtain⟨A7,m7,c7,xs7,e7,hm7,h7⟩:=hV 7 (by decide)
    simp only[e0,e1,e2,e3,e4,e5,e6,e7]
    clear e0 e1 e2 e3 e4 e5 e6 e7
    refine wpAny_done (by kernel_rfl) ?_ _
    obtain⟨k4,hd4⟩:=hS
    obtain⟨w4,hw4⟩:∃ W,W=w':=⟨_,rfl⟩
    rw[← hw4]at k4 hd4 h6 h7 ⊢
    obtain⟨X,hXe⟩:∃ z,z=A6:=⟨_,rfl⟩
    obtain⟨mx,hmx⟩:∃ z,z=m6:=⟨_,rfl⟩
    obtain⟨cx,hcx⟩:∃ z,z=c6:=⟨_,rfl⟩
    obtain⟨Y,hYe⟩:∃ z,z=A7:=⟨_,rfl⟩
    obtain⟨my,hmy⟩:∃ z,z=m7:=⟨_,rfl⟩
    obtain⟨cy,hcy⟩:∃ z,z=c7:=⟨_,rfl⟩
    obtain⟨xs,hxs⟩:∃ z,z=xs6:=⟨_,rfl⟩
    obtain⟨ys,hys⟩:∃ z,z=xs7:=⟨_,rfl⟩
    have hX:=h6
    have hY:=h7
    have hmx16:=hm6
    have hmy16:=hm7
    rw[← hXe,← hmx,← hcx,← hxs]at hX
    rw[← hYe,← hmy,← hcy,← hys]at hY
    rw[← hmx]at hmx16
    rw[← hmy]at hmy16
    rw[← hXe,← hmx,← hcx,← hYe,← hmy,← hcy]
    have HD4:=HDq.trans hd4
    have hcxx:=hX.1
    have hcyy:=hY.1
    have RX:=Lib.hid hX.rd
    have RY:=Lib.hid hY.rd
    have hex:=j4 p A X k c mx cx xs w4 (by omega) (by omega) (by omega) (by omega) RX.out
    have hxl:xs.length=mx:=RX.out.lenI
    have hyl:ys.length=my:=RY.out.lenI
    obtain⟨bx,hbx⟩:∃ z,z=isEl p k xs:=⟨_,rfl⟩
    rw[← hbx]at hex
    have HBX:=Lib.hid hbx
    have HXL:=Lib.hid (And.intro hxl hyl)
    clear hw4 hXe hmx hcx hYe hmy hcy hxs hys hX hY hV hm6 hm7 h6 h7 hd4 HDq kq hsq hbx hxl hyl
    obtain⟨q0,q1⟩:=k4.two
    cases bx with
    | false=>
     go_wp2_with fail
     refine hex.mono ?_
     rintro e w5 ⟨rfl,hb5⟩
     have HD5:=HD4.then hb5
     have k5:=k4.below hb5 k4.lt
     clear hex HD4 k4 hb5 q0 q1
     go_wp2
     obtain⟨wl,hwl⟩:∃ W,W=w5.alloc (.cells #[] 24):=⟨_,rfl⟩
     have hdl:Dr g 124 w wl:=by rw[hwl];exact HD5.alloc (.cells #[] 24)
     have hol:Own wl w.heap.size 24 (some ⟨w5.heap.size,0,none⟩) 0 0 []:=by rw[hwl];exact Own.of_cells (cs:=#[]) HD5.size (Blk.new w5 24 #[]) (by simp[maxLen])
     have kl:Blk wl w.heap.size 26 #[.int .i64 p,.slice A k c]:=by rw[hwl];exact k5.alloc _
     rw[← hwl]
     clear hwl
     go_loopw [8,9] (fun out iv wr=>∃ (j:Nat) (OA:Option Addr) (oc:Nat) (rows:List Value),j≤N∧iv=.int .i64 j∧out=.slice OA j oc∧Hid (Own wr w.heap.size 24 OA j oc rows)∧Hid (GoodR wr w.heap.size rows)∧Blk wr w.heap.size 26 #[.int .i64 p,.slice A k c]∧Hid (Dr g 124 w wr)) (fun _ iv _=>N-(intOf iv).toNat)
     case atStart=>exact⟨0,_,_,[],by omega,rfl,rfl,Lib.hid hol,Lib.hid (fun u hu=>by cases hu),kl,Lib.hid hdl⟩
     case round=>
      obtain⟨j,OA,oc,rows,hj,rfl,rfl,HO,HG,k4,HD⟩:=hrel
      clear hol hdl kl
      by_cases hlt:j<N
      ·obtain⟨wo,rfl⟩:∃ W,W=wr:=⟨_,rfl⟩
       have jb1:(j:Int)<(N:Int):=by omega
       have hdr0:Dr g 124 wo (wo.alloc (.cells #[] 2)):=(Dr.refl HD.out.s').alloc _
       have hor:Own (wo.alloc (.cells #[] 2)) wo.heap.size 2 (some ⟨wo.heap.size,0,none⟩) 0 0 (ints []):=Own.of_cells (cs:=#[]) (Nat.le_refl _) (Blk.new wo 2 #[]) (by simp[maxLen])
       go_wp2
       obtain⟨wi,hwi⟩:∃ W,W=wo.alloc (.cells #[] 2):=⟨_,rfl⟩
       rw[← hwi]at hdr0 hor ⊢
       clear hwi
       go_loopw [10,11] (fun row qv wr=>∃ (q:Nat) (A2:Option Addr) (c2:Nat) (xs:List Int),q≤N∧qv=.int .i64 q∧row=.slice A2 q c2∧Hid (Own wr wo.heap.size 2 A2 q c2 (ints xs))∧Hid (Dr g 124 wo wr)) (fun _ qv _=>N-(intOf qv).toNat)
       case atStart=>exact⟨0,_,_,[],by omega,rfl,rfl,Lib.hid hor,Lib.hid hdr0⟩
       case round=>
        obtain⟨q,A2,c2,xs,hq,rfl,rfl,HR,HDI⟩:=hrel
        clear hor hdr0
        by_cases hlq:q<N
        ·have kt:=k4.dr HDI.out (by decide)
         obtain⟨q0,q1⟩:=kt.two
         have qb1:(q:Int)<(N:Int):=by omega
         by_cases hp1:p≤1
         all_goals try (exfalso;omega)
         all_goals
          go_wp2_with fail
          refine (yr g _ _ HDI.out.s' (by first | omega | (split<;>omega))).mono ?_
          rintro e wB ⟨ra,rfl, -, -,hdB⟩
          have HRB:=Lib.hid (HR.out.dr hdB (by decide))
          have HDB:=Lib.hid (HDI.out.trans hdB)
          clear kt q0 q1 hdB HR HDI
          go_wp2_with (at_builtin;refine yt (cutW wB wo.heap.size) wB 24 2 _ _ Tryz.underlying24 yo rfl (by omega) rfl _ _ rfl A2 q c2 _ _ (HRB.out.mk_ HDB.out.size) (by omega) rfl rfl rfl ?_;intro A8 c8 w8 hM8 hg8 _)
          have HR8:=Lib.hid (hM8.own_ (yv HDB.out.size))
          have HD8:=Lib.hid (HDB.out.grown HRB.out hg8)
          clear hM8 hg8
          go_roundw
          case rel=>exact⟨q+1,A8,c8,xs++[ra],by omega,by go_num,rfl,Lib.hid (by simpa [ints] using HR8.out),HD8⟩
          case measure=>simp[intOf];omega
        ·have HQ:Hid (q=N):=Lib.hid (by omega)
         have HO2:=Lib.hid (HO.out.dr HDI.out (by decide))
         have HG2:=Lib.hid (HG.out.dr HDI.out (by decide))
         have HD2:=Lib.hid (HD.out.trans HDI.out)
         have HT2:=Lib.hid (OwnT.of (HR.out.base HD.out.size))
         have k5:=k4.dr HDI.out (by decide)
         have hq16:q≤16:=by omega
         clear HO HG HD HR HDI k4
         obtain⟨wt,hwt⟩:∃ W,W=wr:=⟨_,rfl⟩
         rw[← hwt]at HO2 HG2 HD2 HT2 k5 ⊢
         clear hwt
         go_wp2_with (at_builtin;refine yt (cutW wt w.heap.size) wt 32 24 (.slice none 0 0) 24 Tryz.underlying32 zy rfl (by omega) rfl _ _ rfl OA j oc rows (.slice A2 q c2) (HO2.out.mk_ HD2.out.size) (by omega) rfl rfl rfl ?_;intro A8 c8 w8 hM8 hg8 _)
         have HO8:=Lib.hid (hM8.own_ (yv HD2.out.size))
         have HG8:=Lib.hid (HG2.out.snoc HT2.out hq16 HO2.out hg8)
         have HD8:=Lib.hid (HD2.out.grown HO2.out hg8)
         have k8:=k5.grown hg8 (HO2.out.ne_blk k5 (by decide))
         clear hM8 hg8 k5
         go_roundw
         case rel=>exact⟨j+1,A8,c8,_,by omega,by go_num,rfl,HO8,HG8,k8,HD8⟩
         case measure=>simp[intOf];omega
      ·have HJN:Hid (j=N):=Lib.hid (by omega)
       have hj16:j≤16:=by omega
       have hj1:1≤j:=by omega
       have hnx:=yr g 12 wr HD.out.s' (by omega)
       go_wp2_with fail
       refine hnx.mono ?_
       rintro e wB ⟨r12,rfl, -, -,hdB⟩
       have HOB:=Lib.hid (HO.out.dr hdB (by decide))
       have HGB:=Lib.hid (HG.out.dr hdB (by decide))
       have HDB:=Lib.hid (HD.out.trans hdB)
       clear hnx hdB HO HG HD
       by_cases h12:r12=0
       ·have hb:(r12 == 0)=true:=by simp[h12]
        have hcap:=HOB.out.cap
        obtain⟨go,rfl⟩:∃ go,OA=some ⟨go,0,none⟩:=by
         rcases HOB.out.form with ⟨_,hz⟩ | ⟨g,e, -, -⟩
         ·omega
         ·exact⟨g,e⟩
        have hsl:=fun w'=>uf (g:=go) (m:=j) (c:=oc) w' hj1 hcap
        clear h12
        obtain⟨M,h1,h2⟩:=HGB.out.rdN HOB.out
        have H1:=Lib.hid h1
        have H2:=Lib.hid h2
        clear h1 h2
        by_cases hc1:oc=1
        ·simp only[if_pos hc1]at hsl
         go_wp2
         go_ret
         exact⟨_,_,_,[],rfl,by omega,by omega,fun w2 h2=>RdII.cast0 (RdII.nil _ _) (by omega),fun r hr=>absurd hr (by simp),HDB.out⟩
        ·simp only[if_neg hc1]at hsl
         go_wp2
         go_ret
         exact⟨_,_,_,(M.drop 1).take (j-1),rfl,by omega,by omega,fun w2 h=>by have:=(H1.out w2 h).part (i:=1) (m:=j-1) (by omega);rwa [Nat.zero_add]at this,fun r hr=>H2.out r (List.mem_of_mem_drop (List.mem_of_mem_take hr)),HDB.out⟩
       ·have hb:(r12 == 0)=false:=by simp[h12]
        clear h12
        have hcap:=HOB.out.cap
        go_wp2
        go_ret
        obtain⟨M,h1,h2⟩:=HGB.out.rdN HOB.out
        exact⟨_,_,_,M,rfl,by omega,hcap,h1,h2,HDB.out⟩
    | true=>
     have hey:=fun w' (h:Below w4.heap.size w4 w')=>j4 p A Y k c my cy ys w' (by omega) (by omega) (by omega) (by omega) (RY.out.below h)
     obtain⟨bY,hbY⟩:∃ z,z=isEl p k ys:=⟨_,rfl⟩
     rw[← hbY]at hey
     have HBY:=Lib.hid hbY
     have HEY:=Lib.hid hey
     clear hbY hey
     go_wp2_with fail
     refine hex.mono ?_
     rintro e w5 ⟨rfl,hb5⟩
     have hD5:=HD4.then hb5
     have k5:=k4.below hb5 k4.lt
     have hey:=HEY.out w5 hb5
     have HB5:=Lib.hid hb5
     clear hex HD4 k4 hb5 q0 q1
     obtain⟨q0,q1⟩:=k5.two
     cases bY with
     | false=>
      go_wp2_with fail
      refine hey.mono ?_
      rintro e w6 ⟨rfl,hb6⟩
      have HD6:=hD5.then hb6
      have k6:=k5.below hb6 k5.lt
      clear hey hD5 k5 hb6 q0 q1
      go_wp2
      obtain⟨wl,hwl⟩:∃ W,W=w6.alloc (.cells #[] 24):=⟨_,rfl⟩
      have hdl:Dr g 124 w wl:=by rw[hwl];exact HD6.alloc (.cells #[] 24)
      have hol:Own wl w.heap.size 24 (some ⟨w6.heap.size,0,none⟩) 0 0 []:=by rw[hwl];exact Own.of_cells (cs:=#[]) HD6.size (Blk.new w6 24 #[]) (by simp[maxLen])
      have kl:Blk wl w.heap.size 26 #[.int .i64 p,.slice A k c]:=by rw[hwl];exact k6.alloc _
      rw[← hwl]
      clear hwl
      go_loopw [8,9] (fun out iv wr=>∃ (j:Nat) (OA:Option Addr) (oc:Nat) (rows:List Value),j≤N∧iv=.int .i64 j∧out=.slice OA j oc∧Hid (Own wr w.heap.size 24 OA j oc rows)∧Hid (GoodR wr w.heap.size rows)∧Blk wr w.heap.size 26 #[.int .i64 p,.slice A k c]∧Hid (Dr g 124 w wr)) (fun _ iv _=>N-(intOf iv).toNat)
      case atStart=>exact⟨0,_,_,[],by omega,rfl,rfl,Lib.hid hol,Lib.hid (fun u hu=>by cases hu),kl,Lib.hid hdl⟩
      case round=>
       obtain⟨j,OA,oc,rows,hj,rfl,rfl,HO,HG,k4,HD⟩:=hrel
       clear hol hdl kl
       by_cases hlt:j<N
       ·obtain⟨wo,rfl⟩:∃ W,W=wr:=⟨_,rfl⟩
        have jb1:(j:Int)<(N:Int):=by omega
        have hdr0:Dr g 124 wo (wo.alloc (.cells #[] 2)):=(Dr.refl HD.out.s').alloc _
        have hor:Own (wo.alloc (.cells #[] 2)) wo.heap.size 2 (some ⟨wo.heap.size,0,none⟩) 0 0 (ints []):=Own.of_cells (cs:=#[]) (Nat.le_refl _) (Blk.new wo 2 #[]) (by simp[maxLen])
        go_wp2
        obtain⟨wi,hwi⟩:∃ W,W=wo.alloc (.cells #[] 2):=⟨_,rfl⟩
        rw[← hwi]at hdr0 hor ⊢
        clear hwi
        go_loopw [10,11] (fun row qv wr=>∃ (q:Nat) (A2:Option Addr) (c2:Nat) (xs:List Int),q≤N∧qv=.int .i64 q∧row=.slice A2 q c2∧Hid (Own wr wo.heap.size 2 A2 q c2 (ints xs))∧Hid (Dr g 124 wo wr)) (fun _ qv _=>N-(intOf qv).toNat)
        case atStart=>exact⟨0,_,_,[],by omega,rfl,rfl,Lib.hid hor,Lib.hid hdr0⟩
        case round=>
         obtain⟨q,A2,c2,xs,hq,rfl,rfl,HR,HDI⟩:=hrel
         clear hor hdr0
         by_cases hlq:q<N
         ·have kt:=k4.dr HDI.out (by decide)
          obtain⟨q0,q1⟩:=kt.two
          have qb1:(q:Int)<(N:Int):=by omega
          by_cases hp1:p≤1
          all_goals try (exfalso;omega)
          all_goals
           go_wp2_with fail
           refine (yr g _ _ HDI.out.s' (by first | omega | (split<;>omega))).mono ?_
           rintro e wB ⟨ra,rfl, -, -,hdB⟩
           have HRB:=Lib.hid (HR.out.dr hdB (by decide))
           have HDB:=Lib.hid (HDI.out.trans hdB)
           clear kt q0 q1 hdB HR HDI
           go_wp2_with (at_builtin;refine yt (cutW wB wo.heap.size) wB 24 2 _ _ Tryz.underlying24 yo rfl (by omega) rfl _ _ rfl A2 q c2 _ _ (HRB.out.mk_ HDB.out.size) (by omega) rfl rfl rfl ?_;intro A8 c8 w8 hM8 hg8 _)
           have HR8:=Lib.hid (hM8.own_ (yv HDB.out.size))
           have HD8:=Lib.hid (HDB.out.grown HRB.out hg8)
           clear hM8 hg8
           go_roundw
           case rel=>exact⟨q+1,A8,c8,xs++[ra],by omega,by go_num,rfl,Lib.hid (by simpa [ints] using HR8.out),HD8⟩
           case measure=>simp[intOf];omega
         ·have HQ:Hid (q=N):=Lib.hid (by omega)
          have HO2:=Lib.hid (HO.out.dr HDI.out (by decide))
          have HG2:=Lib.hid (HG.out.dr HDI.out (by decide))
          have HD2:=Lib.hid (HD.out.trans HDI.out)
          have HT2:=Lib.hid (OwnT.of (HR.out.base HD.out.size))
          have k5:=k4.dr HDI.out (by decide)
          have hq16:q≤16:=by omega
          clear HO HG HD HR HDI k4
          obtain⟨wt,hwt⟩:∃ W,W=wr:=⟨_,rfl⟩
          rw[← hwt]at HO2 HG2 HD2 HT2 k5 ⊢
          clear hwt
          go_wp2_with (at_builtin;refine yt (cutW wt w.heap.size) wt 32 24 (.slice none 0 0) 24 Tryz.underlying32 zy rfl (by omega) rfl _ _ rfl OA j oc rows (.slice A2 q c2) (HO2.out.mk_ HD2.out.size) (by omega) rfl rfl rfl ?_;intro A8 c8 w8 hM8 hg8 _)
          have HO8:=Lib.hid (hM8.own_ (yv HD2.out.size))
          have HG8:=Lib.hid (HG2.out.snoc HT2.out hq16 HO2.out hg8)
          have HD8:=Lib.hid (HD2.out.grown HO2.out hg8)
          have k8:=k5.grown hg8 (HO2.out.ne_blk k5 (by decide))
          clear hM8 hg8 k5
          go_roundw
          case rel=>exact⟨j+1,A8,c8,_,by omega,by go_num,rfl,HO8,HG8,k8,HD8⟩
          case measure=>simp[intOf];omega
       ·have HJN:Hid (j=N):=Lib.hid (by omega)
        have hj16:j≤16:=by omega
        have hj1:1≤j:=by omega
        have hnx:=yr g 12 wr HD.out.s' (by omega)
        go_wp2_with fail
        refine hnx.mono ?_
        rintro e wB ⟨r12,rfl, -, -,hdB⟩
        have HOB:=Lib.hid (HO.out.dr hdB (by decide))
        have HGB:=Lib.hid (HG.out.dr hdB (by decide))
        have HDB:=Lib.hid (HD.out.trans hdB)
        clear hnx hdB HO HG HD
        by_cases h12:r12=0
        ·have hb:(r12 == 0)=true:=by simp[h12]
         have hcap:=HOB.out.cap
         obtain⟨go,rfl⟩:∃ go,OA=some ⟨go,0,none⟩:=by
          rcases HOB.out.form with ⟨_,hz⟩ | ⟨g,e, -, -⟩
          ·omega
          ·exact⟨g,e⟩
         have hsl:=fun w'=>uf (g:=go) (m:=j) (c:=oc) w' hj1 hcap
         clear h12
         obtain⟨M,h1,h2⟩:=HGB.out.rdN HOB.out
         have H1:=Lib.hid h1
         have H2:=Lib.hid h2
         clear h1 h2
         by_cases hc1:oc=1
         ·simp only[if_pos hc1]at hsl
          go_wp2
          go_ret
          exact⟨_,_,_,[],rfl,by omega,by omega,fun w2 h2=>RdII.cast0 (RdII.nil _ _) (by omega),fun r hr=>absurd hr (by simp),HDB.out⟩
         ·simp only[if_neg hc1]at hsl
          go_wp2
          go_ret
          exact⟨_,_,_,(M.drop 1).take (j-1),rfl,by omega,by omega,fun w2 h=>by have:=(H1.out w2 h).part (i:=1) (m:=j-1) (by omega);rwa [Nat.zero_add]at this,fun r hr=>H2.out r (List.mem_of_mem_drop (List.mem_of_mem_take hr)),HDB.out⟩
        ·have hb:(r12 == 0)=false:=by simp[h12]
         clear h12
         have hcap:=HOB.out.cap
         go_wp2
         go_ret
         obtain⟨M,h1,h2⟩:=HGB.out.rdN HOB.out
         exact⟨_,_,_,M,rfl,by omega,hcap,h1,h2,HDB.out⟩
     | true=>
      obtain⟨hxl,hxn⟩:=qu HBX.out.symm
      obtain⟨hyl,hyn⟩:=qu HBY.out.symm
      obtain rfl:mx=pw k:=by have:=HXL.out.1;omega
      obtain rfl:my=pw k:=by have:=HXL.out.2;omega
      go_wp2_with fail
      refine hey.mono ?_
      rintro e w6 ⟨rfl,hb6⟩
      have hD6:=hD5.then hb6
      have k6:=k5.below hb6 k5.lt
      have h46:=HB5.out.trans (hb6.mono HB5.out.size)
      have hin:=yfS p (by omega) hp13 k (by omega) A c st X cx xs Y cy ys w6 hc (HHA.out.dr hD6 (by decide)).rd hstn (RX.out.below h46) hxn hcxx (RY.out.below h46) hyn hcyy
      have HXN:=Lib.hid (And.intro hxn hyn)
      clear hey hD5 k5 hb6 q0 q1 hxl hyl hxn hyn
      obtain⟨q0,q1⟩:=k6.two
      go_wp2_with fail
      refine hin.mono ?_
      rintro e w7 ⟨A7,c7,rfl,hM7⟩
      have HRD:=Lib.hid (hM7.own.rdN.base hD6.size)
      have HD7:=Lib.hid (hD6.then hM7.b)
      have hc7:pw k≤c7:=hM7.own.cap
      have hpk:pw k≤8:=yz (show k≤3 by omega)
      clear hin hM7 q0 q1
      go_wp2
      go_ret
      exact⟨_,_,_,_,rfl,by omega,hc7,HRD.out,fun r hr=>by have:=(ye8 (p:=p) (by omega) k st xs ys r hr).1;omega,HD7.out⟩
   ·have d3:decide (0<r3)=false:=by rw[decide_eq_false_iff_not];exact h3r
    clear h3r
    go_wp2
    obtain⟨wl,hwl⟩:∃ W,W=wq.alloc (.cells #[] 24):=⟨_,rfl⟩
    have hdl:Dr g 124 w wl:=by rw[hwl];exact HDq.alloc (.cells #[] 24)
    have hol:Own wl w.heap.size 24 (some ⟨wq.heap.size,0,none⟩) 0 0 []:=by rw[hwl];exact Own.of_cells (cs:=#[]) HDq.size (Blk.new wq 24 #[]) (by simp[maxLen])
    have kl:Blk wl w.heap.size 26 #[.int .i64 p,.slice A k c]:=by rw[hwl];exact kq.alloc _
    rw[← hwl]
    clear hwl
    go_loopw [8,9] (fun out iv wr=>∃ (j:Nat) (OA:Option Addr) (oc:Nat) (rows:List Value),j≤N∧iv=.int .i64 j∧out=.slice OA j oc∧Hid (Own wr w.heap.size 24 OA j oc rows)∧Hid (GoodR wr w.heap.size rows)∧Blk wr w.heap.size 26 #[.int .i64 p,.slice A k c]∧Hid (Dr g 124 w wr)) (fun _ iv _=>N-(intOf iv).toNat)
    case atStart=>exact⟨0,_,_,[],by omega,rfl,rfl,Lib.hid hol,Lib.hid (fun u hu=>by cases hu),kl,Lib.hid hdl⟩
    case round=>
     obtain⟨j,OA,oc,rows,hj,rfl,rfl,HO,HG,k4,HD⟩:=hrel
     clear hol hdl kl
     by_cases hlt:j<N
     ·obtain⟨wo,rfl⟩:∃ W,W=wr:=⟨_,rfl⟩
      have jb1:(j:Int)<(N:Int):=by omega
      have hdr0:Dr g 124 wo (wo.alloc (.cells #[] 2)):=(Dr.refl HD.out.s').alloc _
      have hor:Own (wo.alloc (.cells #[] 2)) wo.heap.size 2 (some ⟨wo.heap.size,0,none⟩) 0 0 (ints []):=Own.of_cells (cs:=#[]) (Nat.le_refl _) (Blk.new wo 2 #[]) (by simp[maxLen])
      go_wp2
      obtain⟨wi,hwi⟩:∃ W,W=wo.alloc (.cells #[] 2):=⟨_,rfl⟩
      rw[← hwi]at hdr0 hor ⊢
      clear hwi
      go_loopw [10,11] (fun row qv wr=>∃ (q:Nat) (A2:Option Addr) (c2:Nat) (xs:List Int),q≤N∧qv=.int .i64 q∧row=.slice A2 q c2∧Hid (Own wr wo.heap.size 2 A2 q c2 (ints xs))∧Hid (Dr g 124 wo wr)) (fun _ qv _=>N-(intOf qv).toNat)
      case atStart=>exact⟨0,_,_,[],by omega,rfl,rfl,Lib.hid hor,Lib.hid hdr0⟩
      case round=>
       obtain⟨q,A2,c2,xs,hq,rfl,rfl,HR,HDI⟩:=hrel
       clear hor hdr0
       by_cases hlq:q<N
       ·have kt:=k4.dr HDI.out (by decide)
        obtain⟨q0,q1⟩:=kt.two
        have qb1:(q:Int)<(N:Int):=by omega
        by_cases hp1:p≤1
        all_goals try (exfalso;omega)
        all_goals
         go_wp2_with fail
         refine (yr g _ _ HDI.out.s' (by first | omega | (split<;>omega))).mono ?_
         rintro e wB ⟨ra,rfl, -, -,hdB⟩
         have HRB:=Lib.hid (HR.out.dr hdB (by decide))
         have HDB:=Lib.hid (HDI.out.trans hdB)
         clear kt q0 q1 hdB HR HDI
         go_wp2_with (at_builtin;refine yt (cutW wB wo.heap.size) wB 24 2 _ _ Tryz.underlying24 yo rfl (by omega) rfl _ _ rfl A2 q c2 _ _ (HRB.out.mk_ HDB.out.size) (by omega) rfl rfl rfl ?_;intro A8 c8 w8 hM8 hg8 _)
         have HR8:=Lib.hid (hM8.own_ (yv HDB.out.size))
         have HD8:=Lib.hid (HDB.out.grown HRB.out hg8)
         clear hM8 hg8
         go_roundw
         case rel=>exact⟨q+1,A8,c8,xs++[ra],by omega,by go_num,rfl,Lib.hid (by simpa [ints] using HR8.out),HD8⟩
         case measure=>simp[intOf];omega
       ·have HQ:Hid (q=N):=Lib.hid (by omega)
        have HO2:=Lib.hid (HO.out.dr HDI.out (by decide))
        have HG2:=Lib.hid (HG.out.dr HDI.out (by decide))
        have HD2:=Lib.hid (HD.out.trans HDI.out)
        have HT2:=Lib.hid (OwnT.of (HR.out.base HD.out.size))
        have k5:=k4.dr HDI.out (by decide)
        have hq16:q≤16:=by omega
        clear HO HG HD HR HDI k4
        obtain⟨wt,hwt⟩:∃ W,W=wr:=⟨_,rfl⟩
        rw[← hwt]at HO2 HG2 HD2 HT2 k5 ⊢
        clear hwt
        go_wp2_with (at_builtin;refine yt (cutW wt w.heap.size) wt 32 24 (.slice none 0 0) 24 Tryz.underlying32 zy rfl (by omega) rfl _ _ rfl OA j oc rows (.slice A2 q c2) (HO2.out.mk_ HD2.out.size) (by omega) rfl rfl rfl ?_;intro A8 c8 w8 hM8 hg8 _)
        have HO8:=Lib.hid (hM8.own_ (yv HD2.out.size))
        have HG8:=Lib.hid (HG2.out.snoc HT2.out hq16 HO2.out hg8)
        have HD8:=Lib.hid (HD2.out.grown HO2.out hg8)
        have k8:=k5.grown hg8 (HO2.out.ne_blk k5 (by decide))
        clear hM8 hg8 k5
        go_roundw
        case rel=>exact⟨j+1,A8,c8,_,by omega,by go_num,rfl,HO8,HG8,k8,HD8⟩
        case measure=>simp[intOf];omega
     ·have HJN:Hid (j=N):=Lib.hid (by omega)
      have hj16:j≤16:=by omega
      have hj1:1≤j:=by omega
      have hnx:=yr g 12 wr HD.out.s' (by omega)
      go_wp2_with fail
      refine hnx.mono ?_
      rintro e wB ⟨r12,rfl, -, -,hdB⟩
      have HOB:=Lib.hid (HO.out.dr hdB (by decide))
      have HGB:=Lib.hid (HG.out.dr hdB (by decide))
      have HDB:=Lib.hid (HD.out.trans hdB)
      clear hnx hdB HO HG HD
      by_cases h12:r12=0
      ·have hb:(r12 == 0)=true:=by simp[h12]
       have hcap:=HOB.out.cap
       obtain⟨go,rfl⟩:∃ go,OA=some ⟨go,0,none⟩:=by
        rcases HOB.out.form with ⟨_,hz⟩ | ⟨g,e, -, -⟩
        ·omega
        ·exact⟨g,e⟩
       have hsl:=fun w'=>uf (g:=go) (m:=j) (c:=oc) w' hj1 hcap
       clear h12
       obtain⟨M,h1,h2⟩:=HGB.out.rdN HOB.out
       have H1:=Lib.hid h1
       have H2:=Lib.hid h2
       clear h1 h2
       by_cases hc1:oc=1
       ·simp only[if_pos hc1]at hsl
        go_wp2
        go_ret
        exact⟨_,_,_,[],rfl,by omega,by omega,fun w2 h2=>RdII.cast0 (RdII.nil _ _) (by omega),fun r hr=>absurd hr (by simp),HDB.out⟩
       ·simp only[if_neg hc1]at hsl
        go_wp2
        go_ret
        exact⟨_,_,_,(M.drop 1).take (j-1),rfl,by omega,by omega,fun w2 h=>by have:=(H1.out w2 h).part (i:=1) (m:=j-1) (by omega);rwa [Nat.zero_add]at this,fun r hr=>H2.out r (List.mem_of_mem_drop (List.mem_of_mem_take hr)),HDB.out⟩
      ·have hb:(r12 == 0)=false:=by simp[h12]
       clear h12
       have hcap:=HOB.out.cap
       go_wp2
       go_ret
       obtain⟨M,h1,h2⟩:=HGB.out.rdN HOB.out
       exact⟨_,_,_,M,rfl,by omega,hcap,h1,h2,HDB.out⟩
 ·have h4i:(4:Int)≤(k:Int):=by omega
  have hN':N=16:=by rw[hN,Nat.min_eq_left h4];decide
  have h3i:¬ (k:Int)≤3:=by omega
  have hd3:decide ((k:Int)≤3)=false:=by rw[decide_eq_false_iff_not];omega
  subst hN'
  cases b with
  | false=>
   clear hN hb hsl ha
   go_enter Tryz.func84,Tryz.ntmps84
   go_wp2_with fail
   refine his.mono ?_
   rintro e w2 ⟨rfl,hb2⟩
   have HD2:=hd1.then hb2
   have k2:=k1.below hb2 k1.lt
   clear his hd1 k1 hb2 q0 q1
   go_wp2
   obtain⟨wl,hwl⟩:∃ W,W=w2.alloc (.cells #[] 24):=⟨_,rfl⟩
   have hdl:Dr g 124 w wl:=by rw[hwl];exact HD2.alloc (.cells #[] 24)
   have hol:Own wl w.heap.size 24 (some ⟨w2.heap.size,0,none⟩) 0 0 []:=by rw[hwl];exact Own.of_cells (cs:=#[]) HD2.size (Blk.new w2 24 #[]) (by simp[maxLen])
   have kl:Blk wl w.heap.size 26 #[.int .i64 p,.slice A k c]:=by rw[hwl];exact k2.alloc _
   rw[← hwl]
   clear hwl
   go_loopw [8,9] (fun out iv wr=>∃ (j:Nat) (OA:Option Addr) (oc:Nat) (rows:List Value),j≤16∧iv=.int .i64 j∧out=.slice OA j oc∧Hid (Own wr w.heap.size 24 OA j oc rows)∧Hid (GoodR wr w.heap.size rows)∧Blk wr w.heap.size 26 #[.int .i64 p,.slice A k c]∧Hid (Dr g 124 w wr)) (fun _ iv _=>16-(intOf iv).toNat)
   case atStart=>exact⟨0,_,_,[],by omega,rfl,rfl,Lib.hid hol,Lib.hid (fun u hu=>by cases hu),kl,Lib.hid hdl⟩
   case round=>
    obtain⟨j,OA,oc,rows,hj,rfl,rfl,HO,HG,k4,HD⟩:=hrel
    clear hol hdl kl
    by_cases hlt:j<16
    ·obtain⟨wo,rfl⟩:∃ W,W=wr:=⟨_,rfl⟩
     have jb1:(j:Int)<(16:Int):=by omega
     have hdr0:Dr g 124 wo (wo.alloc (.cells #[] 2)):=(Dr.refl HD.out.s').alloc _
     have hor:Own (wo.alloc (.cells #[] 2)) wo.heap.size 2 (some ⟨wo.heap.size,0,none⟩) 0 0 (ints []):=Own.of_cells (cs:=#[]) (Nat.le_refl _) (Blk.new wo 2 #[]) (by simp[maxLen])
     go_wp2
     obtain⟨wi,hwi⟩:∃ W,W=wo.alloc (.cells #[] 2):=⟨_,rfl⟩
     rw[← hwi]at hdr0 hor ⊢
     clear hwi
     go_loopw [10,11] (fun row qv wr=>∃ (q:Nat) (A2:Option Addr) (c2:Nat) (xs:List Int),q≤16∧qv=.int .i64 q∧row=.slice A2 q c2∧Hid (Own wr wo.heap.size 2 A2 q c2 (ints xs))∧Hid (Dr g 124 wo wr)) (fun _ qv _=>16-(intOf qv).toNat)
     case atStart=>exact⟨0,_,_,[],by omega,rfl,rfl,Lib.hid hor,Lib.hid hdr0⟩
     case round=>
      obtain⟨q,A2,c2,xs,hq,rfl,rfl,HR,HDI⟩:=hrel
      clear hor hdr0
      by_cases hlq:q<16
      ·have kt:=k4.dr HDI.out (by decide)
       obtain⟨q0,q1⟩:=kt.two
       have qb1:(q:Int)<(16:Int):=by omega
       by_cases hp1:p≤1
       all_goals try (exfalso;omega)
       all_goals
        go_wp2_with fail
        refine (yr g _ _ HDI.out.s' (by first | omega | (split<;>omega))).mono ?_
        rintro e wB ⟨ra,rfl, -, -,hdB⟩
        have HRB:=Lib.hid (HR.out.dr hdB (by decide))
        have HDB:=Lib.hid (HDI.out.trans hdB)
        clear kt q0 q1 hdB HR HDI
        go_wp2_with (at_builtin;refine yt (cutW wB wo.heap.size) wB 24 2 _ _ Tryz.underlying24 yo rfl (by omega) rfl _ _ rfl A2 q c2 _ _ (HRB.out.mk_ HDB.out.size) (by omega) rfl rfl rfl ?_;intro A8 c8 w8 hM8 hg8 _)
        have HR8:=Lib.hid (hM8.own_ (yv HDB.out.size))
        have HD8:=Lib.hid (HDB.out.grown HRB.out hg8)
        clear hM8 hg8
        go_roundw
        case rel=>exact⟨q+1,A8,c8,xs++[ra],by omega,by go_num,rfl,Lib.hid (by simpa [ints] using HR8.out),HD8⟩
        case measure=>simp[intOf];omega
      ·have HQ:Hid (q=16):=Lib.hid (by omega)
       have HO2:=Lib.hid (HO.out.dr HDI.out (by decide))
       have HG2:=Lib.hid (HG.out.dr HDI.out (by decide))
       have HD2:=Lib.hid (HD.out.trans HDI.out)
       have HT2:=Lib.hid (OwnT.of (HR.out.base HD.out.size))
       have k5:=k4.dr HDI.out (by decide)
       have hq16:q≤16:=by omega
       clear HO HG HD HR HDI k4
       obtain⟨wt,hwt⟩:∃ W,W=wr:=⟨_,rfl⟩
       rw[← hwt]at HO2 HG2 HD2 HT2 k5 ⊢
       clear hwt
       go_wp2_with (at_builtin;refine yt (cutW wt w.heap.size) wt 32 24 (.slice none 0 0) 24 Tryz.underlying32 zy rfl (by omega) rfl _ _ rfl OA j oc rows (.slice A2 q c2) (HO2.out.mk_ HD2.out.size) (by omega) rfl rfl rfl ?_;intro A8 c8 w8 hM8 hg8 _)
       have HO8:=Lib.hid (hM8.own_ (yv HD2.out.size))
       have HG8:=Lib.hid (HG2.out.snoc HT2.out hq16 HO2.out hg8)
       have HD8:=Lib.hid (HD2.out.grown HO2.out hg8)
       have k8:=k5.grown hg8 (HO2.out.ne_blk k5 (by decide))
       clear hM8 hg8 k5
       go_roundw
       case rel=>exact⟨j+1,A8,c8,_,by omega,by go_num,rfl,HO8,HG8,k8,HD8⟩
       case measure=>simp[intOf];omega
    ·have HJN:Hid (j=16):=Lib.hid (by omega)
     have hj16:j≤16:=by omega
     have hj1:1≤j:=by omega
     have hnx:=yr g 12 wr HD.out.s' (by omega)
     go_wp2_with fail
     refine hnx.mono ?_
     rintro e wB ⟨r12,rfl, -, -,hdB⟩
     have HOB:=Lib.hid (HO.out.dr hdB (by decide))
     have HGB:=Lib.hid (HG.out.dr hdB (by decide))
     have HDB:=Lib.hid (HD.out.trans hdB)
     clear hnx hdB HO HG HD
     by_cases h12:r12=0
     ·have hb:(r12 == 0)=true:=by simp[h12]
      have hcap:=HOB.out.cap
      obtain⟨go,rfl⟩:∃ go,OA=some ⟨go,0,none⟩:=by
       rcases HOB.out.form with ⟨_,hz⟩ | ⟨g,e, -, -⟩
       ·omega
       ·exact⟨g,e⟩
      have hsl:=fun w'=>uf (g:=go) (m:=j) (c:=oc) w' hj1 hcap
      clear h12
      obtain⟨M,h1,h2⟩:=HGB.out.rdN HOB.out
      have H1:=Lib.hid h1
      have H2:=Lib.hid h2
      clear h1 h2
      by_cases hc1:oc=1
      ·simp only[if_pos hc1]at hsl
       go_wp2
       go_ret
       exact⟨_,_,_,[],rfl,by omega,by omega,fun w2 h2=>RdII.cast0 (RdII.nil _ _) (by omega),fun r hr=>absurd hr (by simp),HDB.out⟩
      ·simp only[if_neg hc1]at hsl
       go_wp2
       go_ret
       exact⟨_,_,_,(M.drop 1).take (j-1),rfl,by omega,by omega,fun w2 h=>by have:=(H1.out w2 h).part (i:=1) (m:=j-1) (by omega);rwa [Nat.zero_add]at this,fun r hr=>H2.out r (List.mem_of_mem_drop (List.mem_of_mem_take hr)),HDB.out⟩
     ·have hb:(r12 == 0)=false:=by simp[h12]
      clear h12
      have hcap:=HOB.out.cap
      go_wp2
      go_ret
      obtain⟨M,h1,h2⟩:=HGB.out.rdN HOB.out
      exact⟨_,_,_,M,rfl,by omega,hcap,h1,h2,HDB.out⟩
  | true=>
   clear hN hb hsl ha
   go_enter Tryz.func84,Tryz.ntmps84
   go_wp2_with fail
   refine his.mono ?_
   rintro e w2 ⟨rfl,hb2⟩
   have HD2:=hd1.then hb2
   have k2:=k1.below hb2 k1.lt
   clear his hd1 k1 hb2 q0 q1
   obtain⟨q0,q1⟩:=k2.two
   go_wp2
   obtain⟨wl,hwl⟩:∃ W,W=w2.alloc (.cells #[] 24):=⟨_,rfl⟩
   have hdl:Dr g 124 w wl:=by rw[hwl];exact HD2.alloc (.cells #[] 24)
   have hol:Own wl w.heap.size 24 (some ⟨w2.heap.size,0,none⟩) 0 0 []:=by rw[hwl];exact Own.of_cells (cs:=#[]) HD2.size (Blk.new w2 24 #[]) (by simp[maxLen])
   have kl:Blk wl w.heap.size 26 #[.int .i64 p,.slice A k c]:=by rw[hwl];exact k2.alloc _
   rw[← hwl]
   clear hwl
   go_loopw [8,9] (fun out iv wr=>∃ (j:Nat) (OA:Option Addr) (oc:Nat) (rows:List Value),j≤16∧iv=.int .i64 j∧out=.slice OA j oc∧Hid (Own wr w.heap.size 24 OA j oc rows)∧Hid (GoodR wr w.heap.size rows)∧Blk wr w.heap.size 26 #[.int .i64 p,.slice A k c]∧Hid (Dr g 124 w wr)) (fun _ iv _=>16-(intOf iv).toNat)
   case atStart=>exact⟨0,_,_,[],by omega,rfl,rfl,Lib.hid hol,Lib.hid (fun u hu=>by cases hu),kl,Lib.hid hdl⟩
   case round=>
    obtain⟨j,OA,oc,rows,hj,rfl,rfl,HO,HG,k4,HD⟩:=hrel
    clear hol hdl kl
    by_cases hlt:j<16
    ·obtain⟨wo,rfl⟩:∃ W,W=wr:=⟨_,rfl⟩
     have jb1:(j:Int)<(16:Int):=by omega
     have hdr0:Dr g 124 wo (wo.alloc (.cells #[] 2)):=(Dr.refl HD.out.s').alloc _
     have hor:Own (wo.alloc (.cells #[] 2)) wo.heap.size 2 (some ⟨wo.heap.size,0,none⟩) 0 0 (ints []):=Own.of_cells (cs:=#[]) (Nat.le_refl _) (Blk.new wo 2 #[]) (by simp[maxLen])
     go_wp2
     obtain⟨wi,hwi⟩:∃ W,W=wo.alloc (.cells #[] 2):=⟨_,rfl⟩
     rw[← hwi]at hdr0 hor ⊢
     clear hwi
     go_loopw [10,11] (fun row qv wr=>∃ (q:Nat) (A2:Option Addr) (c2:Nat) (xs:List Int),q≤16∧qv=.int .i64 q∧row=.slice A2 q c2∧Hid (Own wr wo.heap.size 2 A2 q c2 (ints xs))∧Hid (Dr g 124 wo wr)) (fun _ qv _=>16-(intOf qv).toNat)
     case atStart=>exact⟨0,_,_,[],by omega,rfl,rfl,Lib.hid hor,Lib.hid hdr0⟩
     case round=>
      obtain⟨q,A2,c2,xs,hq,rfl,rfl,HR,HDI⟩:=hrel
      clear hor hdr0
      by_cases hlq:q<16
      ·have kt:=k4.dr HDI.out (by decide)
       obtain⟨q0,q1⟩:=kt.two
       have qb1:(q:Int)<(16:Int):=by omega
       by_cases hp1:p≤1
       all_goals try (exfalso;omega)
       all_goals
        go_wp2_with fail
        refine (yr g _ _ HDI.out.s' (by first | omega | (split<;>omega))).mono ?_
        rintro e wB ⟨ra,rfl, -, -,hdB⟩
        have HRB:=Lib.hid (HR.out.dr hdB (by decide))
        have HDB:=Lib.hid (HDI.out.trans hdB)
        clear kt q0 q1 hdB HR HDI
        go_wp2_with (at_builtin;refine yt (cutW wB wo.heap.size) wB 24 2 _ _ Tryz.underlying24 yo rfl (by omega) rfl _ _ rfl A2 q c2 _ _ (HRB.out.mk_ HDB.out.size) (by omega) rfl rfl rfl ?_;intro A8 c8 w8 hM8 hg8 _)
        have HR8:=Lib.hid (hM8.own_ (yv HDB.out.size))
        have HD8:=Lib.hid (HDB.out.grown HRB.out hg8)
        clear hM8 hg8
        go_roundw
        case rel=>exact⟨q+1,A8,c8,xs++[ra],by omega,by go_num,rfl,Lib.hid (by simpa [ints] using HR8.out),HD8⟩
        case measure=>simp[intOf];omega
      ·have HQ:Hid (q=16):=Lib.hid (by omega)
       have HO2:=Lib.hid (HO.out.dr HDI.out (by decide))
       have HG2:=Lib.hid (HG.out.dr HDI.out (by decide))
       have HD2:=Lib.hid (HD.out.trans HDI.out)
       have HT2:=Lib.hid (OwnT.of (HR.out.base HD.out.size))
       have k5:=k4.dr HDI.out (by decide)
       have hq16:q≤16:=by omega
       clear HO HG HD HR HDI k4
       obtain⟨wt,hwt⟩:∃ W,W=wr:=⟨_,rfl⟩
       rw[← hwt]at HO2 HG2 HD2 HT2 k5 ⊢
       clear hwt
       go_wp2_with (at_builtin;refine yt (cutW wt w.heap.size) wt 32 24 (.slice none 0 0) 24 Tryz.underlying32 zy rfl (by omega) rfl _ _ rfl OA j oc rows (.slice A2 q c2) (HO2.out.mk_ HD2.out.size) (by omega) rfl rfl rfl ?_;intro A8 c8 w8 hM8 hg8 _)
       have HO8:=Lib.hid (hM8.own_ (yv HD2.out.size))
       have HG8:=Lib.hid (HG2.out.snoc HT2.out hq16 HO2.out hg8)
       have HD8:=Lib.hid (HD2.out.grown HO2.out hg8)
       have k8:=k5.grown hg8 (HO2.out.ne_blk k5 (by decide))
       clear hM8 hg8 k5
       go_roundw
       case rel=>exact⟨j+1,A8,c8,_,by omega,by go_num,rfl,HO8,HG8,k8,HD8⟩
       case measure=>simp[intOf];omega
    ·have HJN:Hid (j=16):=Lib.hid (by omega)
     have hj16:j≤16:=by omega
     have hj1:1≤j:=by omega
     have hnx:=yr g 12 wr HD.out.s' (by omega)
     go_wp2_with fail
     refine hnx.mono ?_
     rintro e wB ⟨r12,rfl, -, -,hdB⟩
     have HOB:=Lib.hid (HO.out.dr hdB (by decide))
     have HGB:=Lib.hid (HG.out.dr hdB (by decide))
     have HDB:=Lib.hid (HD.out.trans hdB)
     clear hnx hdB HO HG HD
     by_cases h12:r12=0
     ·have hb:(r12 == 0)=true:=by simp[h12]
      have hcap:=HOB.out.cap
      obtain⟨go,rfl⟩:∃ go,OA=some ⟨go,0,none⟩:=by
       rcases HOB.out.form with ⟨_,hz⟩ | ⟨g,e, -, -⟩
       ·omega
       ·exact⟨g,e⟩
      have hsl:=fun w'=>uf (g:=go) (m:=j) (c:=oc) w' hj1 hcap
      clear h12
      obtain⟨M,h1,h2⟩:=HGB.out.rdN HOB.out
      have H1:=Lib.hid h1
      have H2:=Lib.hid h2
      clear h1 h2
      by_cases hc1:oc=1
      ·simp only[if_pos hc1]at hsl
       go_wp2
       go_ret
       exact⟨_,_,_,[],rfl,by omega,by omega,fun w2 h2=>RdII.cast0 (RdII.nil _ _) (by omega),fun r hr=>absurd hr (by simp),HDB.out⟩
      ·simp only[if_neg hc1]at hsl
       go_wp2
       go_ret
       exact⟨_,_,_,(M.drop 1).take (j-1),rfl,by omega,by omega,fun w2 h=>by have:=(H1.out w2 h).part (i:=1) (m:=j-1) (by omega);rwa [Nat.zero_add]at this,fun r hr=>H2.out r (List.mem_of_mem_drop (List.mem_of_mem_take hr)),HDB.out⟩
     ·have hb:(r12 == 0)=false:=by simp[h12]
      clear h12
      have hcap:=HOB.out.cap
      go_wp2
      go_ret
      obtain⟨M,h1,h2⟩:=HGB.out.rdN HOB.out
      exact⟨_,_,_,M,rfl,by omega,hcap,h1,h2,HDB.out⟩
end Go.Proofs.YtaiegpggccdgoaaGreat

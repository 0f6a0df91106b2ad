/-
  LawFnCompleteTriples: part 3 of the texts that the proof needs. No condition.
-/
import Derived.Test.YtaiegpggccdgoaaGreatK2
namespace Go.Proofs.YtaiegpggccdgoaaGreat
open Go.RowKit
section
variable {P:Program} {ops:Array Oper} {Q:Exit→Act→World→Prop}
def uq (R C:List (List Nat)) (m j:Nat):List Nat:=(R.getD j []).filter fun i=>(List.range m).all fun k=>!((C.getD k []).contains i) || k == j || (R.getD k []).contains j
def endL (C:List (List Nat)) (m:Nat):List Nat:=(List.range m).filter fun i=>(List.range m).all fun k=>!((C.getD k []).contains i)
def lim (C:List (List Nat)) (B:Nat) (j:Nat) (w:World):Nat:=if (C.getD j []).isEmpty then w.heap.size else B
theorem qF {L:List Nat} {i:Nat}:(!(L.contains i))=true↔i ∉ L:=by
 rw[Bool.not_eq_true',← Bool.not_eq_true,List.contains_iff_mem]
theorem ydE {R C:List (List Nat)} {m j i:Nat}:i∈uq R C m j↔i∈R.getD j [] ∧ ∀ k,k<m→i∈C.getD k []→k=j∨j∈R.getD k []:=by
 unfold uq
 rw[List.mem_filter,List.all_eq_true]
 refine and_congr_right fun _=>⟨fun h k hk hi=>?_,fun h k hk=>?_⟩
 ·have h1:=h k (List.mem_range.2 hk)
  rw[Bool.or_eq_true,Bool.or_eq_true,qF,beq_iff_eq,List.contains_iff_mem]at h1
  rcases h1 with (h1 | h1) | h1
  ·exact absurd hi h1
  ·exact .inl h1
  ·exact .inr h1
 ·rw[Bool.or_eq_true,Bool.or_eq_true,qF,beq_iff_eq,List.contains_iff_mem]
  by_cases hi:i∈C.getD k []
  ·rcases h k (List.mem_range.1 hk) hi with h1 | h1
   ·exact .inl (.inr h1)
   ·exact .inr h1
  ·exact .inl (.inl hi)
theorem jA {C:List (List Nat)} {m i:Nat}:i∈endL C m↔i<m ∧ ∀ k,k<m→i ∉ C.getD k []:=by
 unfold endL
 rw[List.mem_filter,List.all_eq_true,List.mem_range]
 exact and_congr_right fun _=>⟨fun h k hk=>qF.1 (h k (List.mem_range.2 hk)),fun h k hk=>qF.2 (h k (List.mem_range.1 hk))⟩
def ObD (P:Program) (ops:Array Oper) (S:World→Prop) (R C:List (List Nat)) (B m:Nat) (V:(Nat→Value)→List VP) (x:Nat→Value) (a0:Act) (j:Nat):Prop:=
 ∀ w,S w→(∀ i∈uq R C m j,((V x).getD i VAny).p (x i) w) →
  wpOp P ops NoWay j (fun a' w'=>∃ v,(∀ d,yg ops j=some d→a'.tmps[d]? = some v)∧a'.defers=a0.defers∧((V x).getD j VAny).p v w'∧Below (lim C B j w) w w') (putS ops x a0 j) w
theorem yhS {m B:Nat} {R C:List (List Nat)} {V:(Nat→Value)→List VP} {S:World→Prop} {a0:Act} (hok:yZ ops m a0.tmps.size R=true)
 (hdep:∀ x x' j,(∀ i∈R.getD j [],x i=x' i)→(V x).getD j VAny=(V x').getD j VAny) (hweak:∀ i,i<m→(C.getD i []).isEmpty=false → ∀ k,k<m→k≠i→i ∉ R.getD k []→k ∉ C.getD i [] → ∀ x v w w',((V x).getD k VAny).p v w→Below B w w'→((V x).getD k VAny).p v w') (hSt:∀ j w w',S w→Below (lim C B j w) w w'→S w') (hob:∀ x j,j<m→ObD P ops S R C B m V x a0 j)
 (hend:∀ x w',S w'→(∀ i∈endL C m,((V x).getD i VAny).p (x i) w')→wpAny P .any ops Q (ops.size-m) (yx ops.size m) (putS ops x a0 m) w') :
 ∀ (c:Nat) (U:List Nat) (listed:Array Bool) (w:World) (x:Nat→Value),U.length=c→U.Nodup→(∀ i,i∈U↔i<m∧listed.getD i false=false)→listed.size=ops.size →
  (∀ i,m≤i→i<ops.size→listed.getD i false=false)→(∀ (j:Nat) (o:Oper),ops[j]? = some o→listed.getD j false=true → ∀ e∈o.after,Region.binds .any e=true→listed.getD e.on false=true) →
  S w→(∀ i,i<m→listed.getD i false=true→(∀ j,j<m→i∈C.getD j []→listed.getD j false=false)→((V x).getD i VAny).p (x i) w)→wpAny P .any ops Q (ops.size-m+c) listed (putD ops (fun i=>listed.getD i false) x a0 m) w:=by
 obtain⟨hmn,hspec,htail⟩:=vu hok
 have hsel:Region.noSelect ops=true:=by unfold yZ at hok;simp only[Bool.and_eq_true]at hok;exact hok.1.1
 intro c
 induction c with
 | zero=>
  intro U listed w x hU hnd hmem hsz hun hcl hS hV
  obtain rfl:U=[]:=List.eq_nil_of_length_eq_zero hU
  have hall:∀ i,i<m→listed.getD i false=true:=fun i hi=>by
   cases h:listed.getD i false
   ·exact absurd ((hmem i).2 ⟨hi,h⟩) (by simp)
   ·rfl
  have hl:listed=yx ops.size m:=by
   apply Array.ext
   ·simp[yx,hsz]
   ·intro i h1 h2
    have e:listed.getD i false=listed[i]:=by simp[Array.getD,h1]
    by_cases hi:i<m
    ·have:=hall i hi
     rw[e]at this
     simp[yx,this,hi]
    ·have:=hun i (by omega) (by omega)
     rw[e]at this
     simp[yx,this,hi]
  rw[Nat.add_zero,xq (ops:=ops) _ (fun _=>true) x x a0 m (fun i hi=>⟨hall i hi,fun _=>rfl⟩),hl]
  exact hend x w hS (fun i hi=>hV i (jA.1 hi).1 (hall i (jA.1 hi).1) (fun j hj hc=>absurd hc ((jA.1 hi).2 j hj)))
 | succ c ih=>
  intro U listed w x hU hnd hmem hsz hun hcl hS hV
  have hne:U≠[]:=fun e=>by rw[e]at hU;simp at hU
  show (_→_)∧_
  refine⟨fun hr=>?_,fun i hi=>?_⟩
  ·exfalso
   obtain⟨i,hiU,hmin⟩:=ub U hne
   obtain⟨him,hil⟩:=(hmem i).1 hiU
   have hlt:i<ops.size:=by omega
   have:i∈Region.ready .any ops listed:=mem_ready.2 ⟨by simpa [Array.getD,hsz,hlt] using hil,_,Array.getElem?_eq_getElem hlt,fun e he hb=>by
    have hlti:=(hspec i _ (Array.getElem?_eq_getElem hlt) him).1 e he hb
    cases h:listed.getD e.on false
    ·have:=hmin e.on ((hmem _).2 ⟨by omega,h⟩);omega
    ·rfl⟩
   rw[hr]at this
   cases this
  ·obtain⟨hil,o,ho,hdeps⟩:=mem_ready.1 hi
   have hlt:i<ops.size:=(Array.getElem?_eq_some_iff.1 ho).1
   have hil':listed.getD i false=false:=by simpa [Array.getD,hsz,hlt] using hil
   have hreach:=zZ hok (fun i=>listed.getD i false) hcl i o ho hdeps
   have him:i<m:=by
    rcases Nat.lt_or_ge i m with h | h
    ·exact h
    ·exfalso
     obtain⟨k,hk⟩:=List.exists_mem_of_ne_nil U hne
     obtain⟨hkm,hkl⟩:=(hmem k).1 hk
     have:=hreach k (htail i hlt h k hkm)
     rw[hkl]at this;cases this
   obtain⟨_,⟨d,hd,hdsz,hduniq⟩,hlook⟩:=hspec i o ho him
   have hdst:yg ops i=some d:=by simp[yg,ho,hd]
   have hso:∀ cs b,o.op ≠ .select cs b:=fun cs b=>Region.noSelect_spec hsel i o cs b ho
   -- the two frames agree on what o looks at
   have hagree:∀ t∈o.looksAt ops,(putD ops (fun i=>listed.getD i false) x a0 m).tmps[t]? = (putS ops x a0 i).tmps[t]?:=fun t ht=>by
    by_cases hex:∃ k,k<m∧yg ops k=some t
    ·obtain⟨k,hkm,hkd⟩:=hex
     have hkR:=hlook t ht k hkm hkd
     have hki:=xt hok i hlt k hkR
     have hkl:=hreach k hkR
     have hks:k<ops.size:=by omega
     obtain⟨_,⟨d',hd',hdsz',hu'⟩,_⟩:=hspec k _ (Array.getElem?_eq_getElem hks) hkm
     have htd:d'=t:=by
      have:yg ops k=some d':=by simp[yg,Array.getElem?_eq_getElem hks,hd']
      rw[hkd]at this;injection this with this;exact this.symm
     rw[xR _ _ _ _ k hkd hkl (htd▸hdsz') m hkm (fun l hl hlk=>htd▸hu' l hl hlk)]
     unfold putS
     rw[xR _ _ _ _ k hkd rfl (htd▸hdsz') i hki (fun l hl hlk=>htd▸hu' l (by omega) hlk)]
    ·rw[xS _ _ _ _ m (fun k hk hkd=>absurd ⟨k,hk,hkd⟩ hex)]
     unfold putS
     rw[xS _ _ _ _ i (fun k hk hkd=>absurd ⟨k,by omega,hkd⟩ hex)]
   have hob':=hob x i him w hS (fun k hk=>by
    obtain⟨hkR,hkC⟩:=ydE.1 hk
    refine hV k (by have:=xt hok i hlt k hkR;omega) (hreach k hkR) (fun j hj hc=>?_)
    rcases hkC j hj hc with rfl | hij
    ·exact hil'
    ·cases hjl:listed.getD j false
     ·rfl
     ·have hjs:j<ops.size:=by omega
      have:=zZ hok (fun i=>listed.getD i false) hcl j _ (Array.getElem?_eq_getElem hjs) (hcl j _ (Array.getElem?_eq_getElem hjs) hjl) i hij
      rw[hil']at this;cases this)
   have hsz1:=xr (ops:=ops) (fun _=>true) x a0 i
   -- what comes behind
   have next:∀ v w',((V x).getD i VAny).p v w'→Below (lim C B i w) w w'→wpAny P .any ops Q (ops.size-m+c) (listed.setIfInBounds i true) ((putD ops (fun i=>listed.getD i false) x a0 m).put (some d) v) w':=fun v w' hv hb=>by
    have hput:=uN (ops:=ops) (fun k=>listed.getD k false) (fun k=>(listed.setIfInBounds i true).getD k false) x (fun k=>if k=i then v else x k) a0 i hil'
     (by simp[hsz,hlt]) (fun k hk=>⟨by rw[getD_set_ne _ (Ne.symm hk)],by simp[hk]⟩) m him
     (fun d' k hk hki hd'=>by rw[hdst]at hd';injection hd' with hd';exact hd'▸hduniq k hk hki)
    simp only[if_true]at hput
    rw[← hdst,hput]
    refine ih (U.erase i) _ _ _ ?_ (hnd.erase _) (fun k=>?_) (by simpa using hsz) (fun k h1 h2=>?_) (fun j oj hoj hj e he hb'=>?_) (hSt i _ _ hS hb) (fun k hk hkl hcons=>?_)
    ·rw[List.length_erase_of_mem ((hmem i).2 ⟨him,hil'⟩),hU];rfl
    ·rw[hnd.mem_erase_iff,hmem]
     by_cases hk:k=i
     ·subst hk;simp[hsz,hlt]
     ·rw[getD_set_ne _ (Ne.symm hk)];simp[hk]
    ·rw[getD_set_ne _ (by omega)];exact hun k h1 h2
    ·by_cases hji:j=i
     ·subst hji
      rw[ho]at hoj;injection hoj with hoj;subst hoj
      exact getD_set_true (hdeps e he hb')
     ·rw[getD_set_ne _ (Ne.symm hji)]at hj
      exact getD_set_true (hcl j oj hoj hj e he hb')
    ·by_cases hki:k=i
     ·subst hki
      rw[hdep _ x k (fun l hl=>by have:=xt hok k hlt l hl;simp only[show l≠k by omega,if_false])]
      simpa using hv
     ·rw[getD_set_ne _ (Ne.symm hki)]at hkl
      have hks:k<ops.size:=by omega
      have hdk:(V fun l=>if l=i then v else x l).getD k VAny=(V x).getD k VAny:=hdep _ x k (fun l hl=>by
       have hll:=zZ hok (fun i=>listed.getD i false) hcl k _ (Array.getElem?_eq_getElem hks) (hcl k _ (Array.getElem?_eq_getElem hks) hkl) l hl
       have hne:l≠i:=fun e=>by rw[e]at hll;rw[hil']at hll;cases hll
       simp only[hne,if_false])
      simp only[hki,if_false]
      rw[hdk]
      have hb0:∀ j,j<m→k∈C.getD j []→listed.getD j false=false:=fun j hj hc=>by
       have h1:=hcons j hj hc
       by_cases hji:j=i
       ·rw[hji];exact hil'
       ·rwa [getD_set_ne _ (Ne.symm hji)]at h1
      have hkC:k ∉ C.getD i []:=fun hc=>by
       have h1:=hcons i him hc
       simp[hsz,hlt]at h1
      have hiR:i ∉ R.getD k []:=fun hik=>by
       have:=zZ hok (fun i=>listed.getD i false) hcl k _ (Array.getElem?_eq_getElem hks) (hcl k _ (Array.getElem?_eq_getElem hks) hkl) i hik
       rw[hil']at this;cases this
      cases he:(C.getD i []).isEmpty
      ·rw[show lim C B i w=B by unfold lim;rw[he];rfl]at hb
       exact hweak i him he k hk hki hiR hkC x _ _ _ (hV k hk hkl hb0) hb
      ·rw[show lim C B i w=w.heap.size by unfold lim;rw[he];rfl]at hb
       exact ((V x).getD k VAny).st _ _ _ (hV k hk hkl hb0) hb
   unfold wpOp at hob' ⊢
   simp only[ho]at hob' ⊢
   rw[uU hagree]
   split
   ·rename_i hw
    rw[if_pos hw]at hob'
    rcases hob' with h | ⟨_,h⟩
    case inr=>exact absurd h NoWay.lets
    refine .inl (Oper.wp_mono ?_ (ja (Q:=Q) (d:=d) (R:=fun v w'=>((V x).getD i VAny).p v w'∧Below (lim C B i w) w w') (uB hso hagree) hd (by unfold putS;rw[hsz1.1];exact hdsz)
     (Oper.wp_mono (fun a' w' ⟨v,h1,h2,h3,h4⟩=>⟨v,h1 d hdst,by unfold putS;rw[hsz1.2];exact h2,h3,h4⟩) h)))
    rintro a' w' ⟨v,rfl,hv,hb⟩
    exact next v w' hv hb
   ·rename_i hw
    rw[if_neg hw]at hob'
    obtain⟨v,h1,_,h3,h4⟩:=hob'
    have hvu:v=undef:=by
     have:=h1 d hdst
     rw[hd]at this
     simp[Act.put,putS,hsz1.1,hdsz]at this
     exact this.symm
    rw[hd]
    exact next undef w (hvu▸h3) h4
theorem yiC {id m B:Nat} (R C:List (List Nat)) (V:(Nat→Value)→List VP) (S:World→Prop) {a0:Act} {w:World} (hm:P.follows .mixedOrders=true) (hok:yZ ops m a0.tmps.size R=true)
 (hdep:∀ x x' j,(∀ i∈R.getD j [],x i=x' i)→(V x).getD j VAny=(V x').getD j VAny) (hweak:∀ i,i<m→(C.getD i []).isEmpty=false → ∀ k,k<m→k≠i→i ∉ R.getD k []→k ∉ C.getD i [] → ∀ x v w w',((V x).getD k VAny).p v w→Below B w w'→((V x).getD k VAny).p v w') (hS0:S w.drew) (hSt:∀ j w w',S w→Below (lim C B j w) w w'→S w') (hob:∀ x j,j<m→ObD P ops S R C B m V x a0 j)
 (hend:∀ x w',S w'→(∀ i∈endL C m,((V x).getD i VAny).p (x i) w')→wpAny P .any ops Q (ops.size-m) (yx ops.size m) (putS ops x a0 m) w'):(Code.region id ops true).wp P Q a0 w:=by
 have hmn:=(vu hok).1
 have hf:∀ i,(Array.replicate ops.size false).getD i false=false:=fun i=>by simp[Array.getD]
 have h:=yhS (Q:=Q) hok hdep hweak hSt hob hend m (List.range m) (Array.replicate ops.size false) w.drew (fun _=>undef) (by simp) List.nodup_range (fun i=>by rw[hf];simp) (by simp) (fun i _ _=>hf i) (fun j o _ hj=>by rw[hf]at hj;cases hj) hS0
  (fun i _ hi=>by rw[hf]at hi;cases hi)
 refine wp_region_any hm ?_
 rw[show ops.size-m+m=ops.size by omega,xq (ops:=ops) _ (fun _=>false) _ (fun _=>undef) a0 m (fun i _=>⟨hf i,fun _=>rfl⟩)]at h
 have e:∀ n,putD ops (fun _=>false) (fun _=>undef) a0 n=a0:=fun n=>by
  induction n with
  | zero=>rfl
  | succ n ih=>unfold putD;simpa using ih
 rw[e]at h
 exact h
def ObsD (P:Program) (ops:Array Oper) (Q:Exit→Act→World→Prop) (S:World→Prop) (R C:List (List Nat)) (B m:Nat) (V:(Nat→Value)→List VP) (x:Nat→Value):Nat→Nat→Act→Prop
 | 0,j,a=>∀ w,S w→(∀ i∈endL C m,((V x).getD i VAny).p (x i) w)→wpAny P .any ops Q (ops.size-j) (yx ops.size j) a w
 | r+1,j,a=>(∀ w,S w→(∀ i∈uq R C m j,((V x).getD i VAny).p (x i) w) →
  wpOp P ops NoWay j (fun a' w'=>∃ v,(∀ d,yg ops j=some d→a'.tmps[d]? = some v)∧a'.defers=a.defers∧((V x).getD j VAny).p v w'∧Below (lim C B j w) w w') a w) ∧
  ObsD P ops Q S R C B m V x r (j+1) (a.put (yg ops j) (x j))
theorem ycq {S:World→Prop} {R C:List (List Nat)} {B m:Nat} {V:(Nat→Value)→List VP} {x:Nat→Value} {a0:Act}:∀ (r j:Nat),ObsD P ops Q S R C B m V x r j (putS ops x a0 j) →
 (∀ k,j≤k→k<j+r→ObD P ops S R C B m V x a0 k) ∧ ∀ w,S w→(∀ i∈endL C m,((V x).getD i VAny).p (x i) w)→wpAny P .any ops Q (ops.size-(j+r)) (yx ops.size (j+r)) (putS ops x a0 (j+r)) w:=by
 intro r
 induction r with
 | zero=>intro j h;exact⟨fun k h1 h2=>by omega,h⟩
 | succ r ih=>
  intro j h
  obtain⟨h1,h2⟩:=h
  have h2':ObsD P ops Q S R C B m V x r (j+1) (putS ops x a0 (j+1)):=h2
  obtain⟨h3,h4⟩:=ih (j+1) h2'
  refine⟨fun k hk1 hk2=>?_,by rw[show j+(r+1)=j+1+r by omega];exact h4⟩
  by_cases hk:k=j
  ·subst hk
   intro w hS hV
   have h:=h1 w hS hV
   rw[show (putS ops x a0 k).defers=a0.defers from (xr _ _ _ _).2]at h
   exact h
  ·exact h3 k (by omega) (by omega)
theorem yiz {id:Nat} (m B:Nat) (R C:List (List Nat)) (V:(Nat→Value)→List VP) (S:World→Prop) {a0:Act} {w:World} (hm:P.follows .mixedOrders=true) (hok:yZ ops m a0.tmps.size R=true)
 (hdep:∀ x x' j,(∀ i∈R.getD j [],x i=x' i)→(V x).getD j VAny=(V x').getD j VAny) (hweak:∀ i,i<m→(C.getD i []).isEmpty=false → ∀ k,k<m→k≠i→i ∉ R.getD k []→k ∉ C.getD i [] → ∀ x v w w',((V x).getD k VAny).p v w→Below B w w'→((V x).getD k VAny).p v w') (hSt:∀ j w w',S w→Below (lim C B j w) w w'→S w') (hS0:S w.drew) (h:∀ x,ObsD P ops Q S R C B m V x m 0 a0):(Code.region id ops true).wp P Q a0 w:=
 yiC (m:=m) (B:=B) R C V S hm hok hdep hweak hS0 hSt (fun x j hj=>(ycq m 0 (h x)).1 j (by omega) (by omega)) (fun x w' hS hV=>by
  have:=(ycq m 0 (h x)).2 w' hS (hV)
  rwa [Nat.zero_add]at this)
theorem xH {S:World→Prop} {R C:List (List Nat)} {B m:Nat} {V:(Nat→Value)→List VP} {x:Nat→Value} {r j:Nat} {a:Act} {o:Oper} {d:Tmp} (ho:ops[j]? = some o) (hd:o.dst=some d)
 (h:∀ w,S w→(∀ i∈uq R C m j,((V x).getD i VAny).p (x i) w) → ∀ K:Act→World→Prop,Shut (∀ a' w' v,a'.tmps[d]? = some v→a'.defers=a.defers→((V x).getD j VAny).p v w'→Below (lim C B j w) w w'→K a' w') →
  if Region.wanted o (yielded ops a.tmps)=true then Oper.wp P o a w K NoWay else K (a.put o.dst undef) w)
 (hr:ObsD P ops Q S R C B m V x r (j+1) { a with tmps:=a.tmps.setIfInBounds d (x j) }):ObsD P ops Q S R C B m V x (r+1) j a:=by
 have hdst:yg ops j=some d:=by simp[yg,ho,hd]
 refine⟨fun w hS hV=>wpOp_step ho (fun K hK=>?_),by rw[hdst];exact hr⟩
 exact h w hS hV K (fun a' w' v h1 h2 h3 h4=>hK a' w' ⟨v,fun d' hd'=>by rw[hdst]at hd';injection hd' with hd';exact hd'▸h1,h2,h3,h4⟩)
theorem yis {m B:Nat} {R C:List (List Nat)} {V:(Nat→Value)→List VP} (Wk:List Nat)
 (hchk:((List.range m).all fun i=>(C.getD i []).isEmpty || (List.range m).all fun k=>k == i || (R.getD k []).contains i || (C.getD i []).contains k || Wk.contains k)=true)
 (hW:∀ k∈Wk,∀ x,∃ u,(V x).getD k VAny=VIs u) :
 ∀ i,i<m→(C.getD i []).isEmpty=false → ∀ k,k<m→k≠i→i ∉ R.getD k []→k ∉ C.getD i [] → ∀ x v w w',((V x).getD k VAny).p v w→Below B w w'→((V x).getD k VAny).p v w':=by
 intro i hi he k hk hne hR hC x v w w' hp _
 have h1:=List.all_eq_true.1 hchk i (List.mem_range.2 hi)
 rw[he,Bool.false_or]at h1
 have h2:=List.all_eq_true.1 h1 k (List.mem_range.2 hk)
 rw[Bool.or_eq_true,Bool.or_eq_true,Bool.or_eq_true,beq_iff_eq,List.contains_iff_mem,List.contains_iff_mem,List.contains_iff_mem]at h2
 rcases h2 with ((h2 | h2) | h2) | h2
 ·exact absurd h2 hne
 ·exact absurd h2 hR
 ·exact absurd h2 hC
 ·obtain⟨u,hu⟩:=hW k h2 x
  rw[hu]at hp ⊢
  exact hp
theorem ycc {C:List (List Nat)} {B j:Nat} {w:World} (h:B≤w.heap.size):B≤lim C B j w:=by
 unfold lim
 split
 ·exact h
 ·exact Nat.le_refl _
end
def CK (w w':World):Prop:=∀ b i u,w.cell? ⟨b,i,none⟩=some u→w'.cell? ⟨b,i,none⟩=some u
theorem CK.refl (w:World):CK w w:=fun _ _ _ h=>h
theorem Rd.ck {w w':World} {A:Option Addr} {n:Nat} {us:List Value} (h:Rd w A n us) (k:CK w w'):Rd w' A n us:=⟨h.1,fun hn=>by
 obtain⟨g,o,e,hc⟩:=h.2 hn
 exact⟨g,o,e,fun j u hu=>k _ _ _ (hc j u hu)⟩⟩
theorem RdII.ck {w w':World} {A:Option Addr} {n:Nat} {xss:List (List Int)} (h:RdII w A n xss) (k:CK w w'):RdII w' A n xss:=by
 obtain⟨rows,hr,hl,hk⟩:=h
 exact⟨rows,hr.ck k,hl,fun j hj=>by obtain⟨A',c',e,h1,h2⟩:=hk j hj;exact⟨A',c',e,h1.ck k,h2⟩⟩
theorem Rd.cut {w:World} {A:Option Addr} {n k:Nat} {us:List Value} (h:Rd w A n us) (hk:k≤n):Rd w A k (us.take k):=⟨by rw[List.length_take,h.1];omega,fun hn=>by
 obtain⟨g,o,e,hc⟩:=h.2 (by omega)
 exact⟨g,o,e,fun j u hu=>hc j u (by
  rw[List.getElem?_take]at hu
  split at hu
  ·exact hu
  ·cases hu)⟩⟩
def Grows (w wr:World) (g:Nat) (v:Value):Prop:=CK w wr∧w.heap.size≤wr.heap.size ∧ ∀ gb,v.ownBlock=some gb→gb=g∨w.heap.size≤gb
theorem Grows.step {w wr v1 w':World} {g:Nat} {T:TypeId} {A A':Option Addr} {n c n' c':Nat} (h:Grows w wr g (.slice A n c)) (he:Blk w g T #[]) (hb:Below wr.heap.size wr v1) (hg:v1.grownBy w' (Value.slice A n c).ownBlock)
 (hat:∃ g',A'=some ⟨g',0,none⟩∧((Value.slice A n c).ownBlock=some g'∨v1.heap.size≤g')):Grows w w' g (.slice A' n' c'):=by
 obtain⟨h1,h2,h3⟩:=h
 refine⟨fun b i u hu=>?_,by have:=hb.size;have:=hg.size;omega,fun gb hgb=>?_⟩
 ·refine hg.cell ((hb.cell (World.block_lt_of_cell? _ _ (h1 b i u hu))).trans (h1 b i u hu)) fun e=>?_
  rcases h3 b e.symm with rfl | hge
  ·rw[he.cell]at hu;simp at hu
  ·have hlt:b<w.heap.size:=World.block_lt_of_cell? _ _ hu
   omega
 ·obtain⟨g',rfl,hor⟩:=hat
  simp only[Value.ownBlock,Option.some.injEq]at hgb
  subst hgb
  rcases hor with hor | hor
  ·exact h3 _ hor
  ·right;have:=hb.size;omega
theorem qs (xs:List Int) (k:Nat):(ints xs).take k=ints (xs.take k):=by unfold ints;rw[List.map_take]
section
variable {P:Program} {ops:Array Oper} {Q:Exit→Act→World→Prop}
def zW (R C:List (List Nat)) (m j:Nat):List Nat:=(R.getD j []).filter fun i=>(List.range m).all fun k=>!((C.getD k []).contains i) || k == j || (R.getD k []).contains j
def endR (C:List (List Nat)) (m:Nat):List Nat:=(List.range m).filter fun i=>(List.range m).all fun k=>!((C.getD k []).contains i)
def StepR (C:List (List Nat)) (Rel:World→World→Prop) (j:Nat) (w w':World):Prop:=if (C.getD j []).isEmpty then Below w.heap.size w w' else Rel w w'
theorem StepR.rel {C:List (List Nat)} {Rel:World→World→Prop} {j:Nat} {w w':World} (h:(C.getD j []).isEmpty=false) (hb:Rel w w'):StepR C Rel j w w':=by unfold StepR;rw[h];exact hb
theorem StepR.either {C:List (List Nat)} {Rel:World→World→Prop} {j:Nat} {w w':World} {q:Prop} (h:StepR C Rel j w w') (h1:Below w.heap.size w w'→q) (h2:Rel w w'→q):q:=by
 unfold StepR at h
 split at h
 ·exact h1 h
 ·exact h2 h
theorem qG {L:List Nat} {i:Nat}:(!(L.contains i))=true↔i ∉ L:=by
 rw[Bool.not_eq_true',← Bool.not_eq_true,List.contains_iff_mem]
theorem je {R C:List (List Nat)} {m j i:Nat}:i∈zW R C m j↔i∈R.getD j [] ∧ ∀ k,k<m→i∈C.getD k []→k=j∨j∈R.getD k []:=by
 unfold zW
 rw[List.mem_filter,List.all_eq_true]
 refine and_congr_right fun _=>⟨fun h k hk hi=>?_,fun h k hk=>?_⟩
 ·have h1:=h k (List.mem_range.2 hk)
  rw[Bool.or_eq_true,Bool.or_eq_true,qG,beq_iff_eq,List.contains_iff_mem]at h1
  rcases h1 with (h1 | h1) | h1
  ·exact absurd hi h1
  ·exact .inl h1
  ·exact .inr h1
 ·rw[Bool.or_eq_true,Bool.or_eq_true,qG,beq_iff_eq,List.contains_iff_mem]
  by_cases hi:i∈C.getD k []
  ·rcases h k (List.mem_range.1 hk) hi with h1 | h1
   ·exact .inl (.inr h1)
   ·exact .inr h1
  ·exact .inl (.inl hi)
theorem va {C:List (List Nat)} {m i:Nat}:i∈endR C m↔i<m ∧ ∀ k,k<m→i ∉ C.getD k []:=by
 unfold endR
 rw[List.mem_filter,List.all_eq_true,List.mem_range]
 exact and_congr_right fun _=>⟨fun h k hk=>qG.1 (h k (List.mem_range.2 hk)),fun h k hk=>qG.2 (h k (List.mem_range.1 hk))⟩
def ObR (P:Program) (ops:Array Oper) (S:World→Prop) (R C:List (List Nat)) (Rel:World→World→Prop) (m:Nat) (V:(Nat→Value)→List VP) (x:Nat→Value) (a0:Act) (j:Nat):Prop:=
 ∀ w,S w→(∀ i∈zW R C m j,((V x).getD i VAny).p (x i) w) →
  wpOp P ops NoWay j (fun a' w'=>∃ v,(∀ d,yg ops j=some d→a'.tmps[d]? = some v)∧a'.defers=a0.defers∧((V x).getD j VAny).p v w'∧StepR C Rel j w w') (putS ops x a0 j) w
theorem yhU {m:Nat} {Rel:World→World→Prop} {R C:List (List Nat)} {V:(Nat→Value)→List VP} {S:World→Prop} {a0:Act} (hok:yZ ops m a0.tmps.size R=true)
 (hdep:∀ x x' j,(∀ i∈R.getD j [],x i=x' i)→(V x).getD j VAny=(V x').getD j VAny) (hweak:∀ i,i<m→(C.getD i []).isEmpty=false → ∀ k,k<m→k≠i→i ∉ R.getD k []→k ∉ C.getD i [] → ∀ x v w w',((V x).getD k VAny).p v w→Rel w w'→((V x).getD k VAny).p v w') (hSt:∀ j w w',S w→StepR C Rel j w w'→S w') (hob:∀ x j,j<m→ObR P ops S R C Rel m V x a0 j)
 (hend:∀ x w',S w'→(∀ i∈endR C m,((V x).getD i VAny).p (x i) w')→wpAny P .any ops Q (ops.size-m) (yx ops.size m) (putS ops x a0 m) w') :
 ∀ (c:Nat) (U:List Nat) (listed:Array Bool) (w:World) (x:Nat→Value),U.length=c→U.Nodup→(∀ i,i∈U↔i<m∧listed.getD i false=false)→listed.size=ops.size →
  (∀ i,m≤i→i<ops.size→listed.getD i false=false)→(∀ (j:Nat) (o:Oper),ops[j]? = some o→listed.getD j false=true → ∀ e∈o.after,Region.binds .any e=true→listed.getD e.on false=true) →
  S w→(∀ i,i<m→listed.getD i false=true→(∀ j,j<m→i∈C.getD j []→listed.getD j false=false)→((V x).getD i VAny).p (x i) w)→wpAny P .any ops Q (ops.size-m+c) listed (putD ops (fun i=>listed.getD i false) x a0 m) w:=by
 obtain⟨hmn,hspec,htail⟩:=vu hok
 have hsel:Region.noSelect ops=true:=by unfold yZ at hok;simp only[Bool.and_eq_true]at hok;exact hok.1.1
 intro c
 induction c with
 | zero=>
  intro U listed w x hU hnd hmem hsz hun hcl hS hV
  obtain rfl:U=[]:=List.eq_nil_of_length_eq_zero hU
  have hall:∀ i,i<m→listed.getD i false=true:=fun i hi=>by
   cases h:listed.getD i false
   ·exact absurd ((hmem i).2 ⟨hi,h⟩) (by simp)
   ·rfl
  have hl:listed=yx ops.size m:=by
   apply Array.ext
   ·simp[yx,hsz]
   ·intro i h1 h2
    have e:listed.getD i false=listed[i]:=by simp[Array.getD,h1]
    by_cases hi:i<m
    ·have:=hall i hi
     rw[e]at this
     simp[yx,this,hi]
    ·have:=hun i (by omega) (by omega)
     rw[e]at this
     simp[yx,this,hi]
  rw[Nat.add_zero,xq (ops:=ops) _ (fun _=>true) x x a0 m (fun i hi=>⟨hall i hi,fun _=>rfl⟩),hl]
  exact hend x w hS (fun i hi=>hV i (va.1 hi).1 (hall i (va.1 hi).1) (fun j hj hc=>absurd hc ((va.1 hi).2 j hj)))
 | succ c ih=>
  intro U listed w x hU hnd hmem hsz hun hcl hS hV
  have hne:U≠[]:=fun e=>by rw[e]at hU;simp at hU
  show (_→_)∧_
  refine⟨fun hr=>?_,fun i hi=>?_⟩
  ·exfalso
   obtain⟨i,hiU,hmin⟩:=ub U hne
   obtain⟨him,hil⟩:=(hmem i).1 hiU
   have hlt:i<ops.size:=by omega
   have:i∈Region.ready .any ops listed:=mem_ready.2 ⟨by simpa [Array.getD,hsz,hlt] using hil,_,Array.getElem?_eq_getElem hlt,fun e he hb=>by
    have hlti:=(hspec i _ (Array.getElem?_eq_getElem hlt) him).1 e he hb
    cases h:listed.getD e.on false
    ·have:=hmin e.on ((hmem _).2 ⟨by omega,h⟩);omega
    ·rfl⟩
   rw[hr]at this
   cases this
  ·obtain⟨hil,o,ho,hdeps⟩:=mem_ready.1 hi
   have hlt:i<ops.size:=(Array.getElem?_eq_some_iff.1 ho).1
   have hil':listed.getD i false=false:=by simpa [Array.getD,hsz,hlt] using hil
   have hreach:=zZ hok (fun i=>listed.getD i false) hcl i o ho hdeps
   have him:i<m:=by
    rcases Nat.lt_or_ge i m with h | h
    ·exact h
    ·exfalso
     obtain⟨k,hk⟩:=List.exists_mem_of_ne_nil U hne
     obtain⟨hkm,hkl⟩:=(hmem k).1 hk
     have:=hreach k (htail i hlt h k hkm)
     rw[hkl]at this;cases this
   obtain⟨_,⟨d,hd,hdsz,hduniq⟩,hlook⟩:=hspec i o ho him
   have hdst:yg ops i=some d:=by simp[yg,ho,hd]
   have hso:∀ cs b,o.op ≠ .select cs b:=fun cs b=>Region.noSelect_spec hsel i o cs b ho
   -- the two frames agree on what o looks at
   have hagree:∀ t∈o.looksAt ops,(putD ops (fun i=>listed.getD i false) x a0 m).tmps[t]? = (putS ops x a0 i).tmps[t]?:=fun t ht=>by
    by_cases hex:∃ k,k<m∧yg ops k=some t
    ·obtain⟨k,hkm,hkd⟩:=hex
     have hkR:=hlook t ht k hkm hkd
     have hki:=xt hok i hlt k hkR
     have hkl:=hreach k hkR
     have hks:k<ops.size:=by omega
     obtain⟨_,⟨d',hd',hdsz',hu'⟩,_⟩:=hspec k _ (Array.getElem?_eq_getElem hks) hkm
     have htd:d'=t:=by
      have:yg ops k=some d':=by simp[yg,Array.getElem?_eq_getElem hks,hd']
      rw[hkd]at this;injection this with this;exact this.symm
     rw[xR _ _ _ _ k hkd hkl (htd▸hdsz') m hkm (fun l hl hlk=>htd▸hu' l hl hlk)]
     unfold putS
     rw[xR _ _ _ _ k hkd rfl (htd▸hdsz') i hki (fun l hl hlk=>htd▸hu' l (by omega) hlk)]
    ·rw[xS _ _ _ _ m (fun k hk hkd=>absurd ⟨k,hk,hkd⟩ hex)]
     unfold putS
     rw[xS _ _ _ _ i (fun k hk hkd=>absurd ⟨k,by omega,hkd⟩ hex)]
   have hob':=hob x i him w hS (fun k hk=>by
    obtain⟨hkR,hkC⟩:=je.1 hk
    refine hV k (by have:=xt hok i hlt k hkR;omega) (hreach k hkR) (fun j hj hc=>?_)
    rcases hkC j hj hc with rfl | hij
    ·exact hil'
    ·cases hjl:listed.getD j false
     ·rfl
     ·have hjs:j<ops.size:=by omega
      have:=zZ hok (fun i=>listed.getD i false) hcl j _ (Array.getElem?_eq_getElem hjs) (hcl j _ (Array.getElem?_eq_getElem hjs) hjl) i hij
      rw[hil']at this;cases this)
   have hsz1:=xr (ops:=ops) (fun _=>true) x a0 i
   -- what comes behind
   have next:∀ v w',((V x).getD i VAny).p v w'→StepR C Rel i w w'→wpAny P .any ops Q (ops.size-m+c) (listed.setIfInBounds i true) ((putD ops (fun i=>listed.getD i false) x a0 m).put (some d) v) w':=fun v w' hv hb=>by
    have hput:=uN (ops:=ops) (fun k=>listed.getD k false) (fun k=>(listed.setIfInBounds i true).getD k false) x (fun k=>if k=i then v else x k) a0 i hil'
     (by simp[hsz,hlt]) (fun k hk=>⟨by rw[getD_set_ne _ (Ne.symm hk)],by simp[hk]⟩) m him
     (fun d' k hk hki hd'=>by rw[hdst]at hd';injection hd' with hd';exact hd'▸hduniq k hk hki)
    simp only[if_true]at hput
    rw[← hdst,hput]
    refine ih (U.erase i) _ _ _ ?_ (hnd.erase _) (fun k=>?_) (by simpa using hsz) (fun k h1 h2=>?_) (fun j oj hoj hj e he hb'=>?_) (hSt i _ _ hS hb) (fun k hk hkl hcons=>?_)
    ·rw[List.length_erase_of_mem ((hmem i).2 ⟨him,hil'⟩),hU];rfl
    ·rw[hnd.mem_erase_iff,hmem]
     by_cases hk:k=i
     ·subst hk;simp[hsz,hlt]
     ·rw[getD_set_ne _ (Ne.symm hk)];simp[hk]
    ·rw[getD_set_ne _ (by omega)];exact hun k h1 h2
    ·by_cases hji:j=i
     ·subst hji
      rw[ho]at hoj;injection hoj with hoj;subst hoj
      exact getD_set_true (hdeps e he hb')
     ·rw[getD_set_ne _ (Ne.symm hji)]at hj
      exact getD_set_true (hcl j oj hoj hj e he hb')
    ·by_cases hki:k=i
     ·subst hki
      rw[hdep _ x k (fun l hl=>by have:=xt hok k hlt l hl;simp only[show l≠k by omega,if_false])]
      simpa using hv
     ·rw[getD_set_ne _ (Ne.symm hki)]at hkl
      have hks:k<ops.size:=by omega
      have hdk:(V fun l=>if l=i then v else x l).getD k VAny=(V x).getD k VAny:=hdep _ x k (fun l hl=>by
       have hll:=zZ hok (fun i=>listed.getD i false) hcl k _ (Array.getElem?_eq_getElem hks) (hcl k _ (Array.getElem?_eq_getElem hks) hkl) l hl
       have hne:l≠i:=fun e=>by rw[e]at hll;rw[hil']at hll;cases hll
       simp only[hne,if_false])
      simp only[hki,if_false]
      rw[hdk]
      have hb0:∀ j,j<m→k∈C.getD j []→listed.getD j false=false:=fun j hj hc=>by
       have h1:=hcons j hj hc
       by_cases hji:j=i
       ·rw[hji];exact hil'
       ·rwa [getD_set_ne _ (Ne.symm hji)]at h1
      have hkC:k ∉ C.getD i []:=fun hc=>by
       have h1:=hcons i him hc
       simp[hsz,hlt]at h1
      have hiR:i ∉ R.getD k []:=fun hik=>by
       have:=zZ hok (fun i=>listed.getD i false) hcl k _ (Array.getElem?_eq_getElem hks) (hcl k _ (Array.getElem?_eq_getElem hks) hkl) i hik
       rw[hil']at this;cases this
      cases he:(C.getD i []).isEmpty
      ·replace hb:Rel w w':=by unfold StepR at hb;rw[he]at hb;exact hb
       exact hweak i him he k hk hki hiR hkC x _ _ _ (hV k hk hkl hb0) hb
      ·replace hb:Below w.heap.size w w':=by unfold StepR at hb;rw[he]at hb;exact hb
       exact ((V x).getD k VAny).st _ _ _ (hV k hk hkl hb0) hb
   unfold wpOp at hob' ⊢
   simp only[ho]at hob' ⊢
   rw[uU hagree]
   split
   ·rename_i hw
    rw[if_pos hw]at hob'
    rcases hob' with h | ⟨_,h⟩
    case inr=>exact absurd h NoWay.lets
    refine .inl (Oper.wp_mono ?_ (ja (Q:=Q) (d:=d) (R:=fun v w'=>((V x).getD i VAny).p v w'∧StepR C Rel i w w') (uB hso hagree) hd (by unfold putS;rw[hsz1.1];exact hdsz)
     (Oper.wp_mono (fun a' w' ⟨v,h1,h2,h3,h4⟩=>⟨v,h1 d hdst,by unfold putS;rw[hsz1.2];exact h2,h3,h4⟩) h)))
    rintro a' w' ⟨v,rfl,hv,hb⟩
    exact next v w' hv hb
   ·rename_i hw
    rw[if_neg hw]at hob'
    obtain⟨v,h1,_,h3,h4⟩:=hob'
    have hvu:v=undef:=by
     have:=h1 d hdst
     rw[hd]at this
     simp[Act.put,putS,hsz1.1,hdsz]at this
     exact this.symm
    rw[hd]
    exact next undef w (hvu▸h3) h4
theorem yiE {id m:Nat} {Rel:World→World→Prop} (R C:List (List Nat)) (V:(Nat→Value)→List VP) (S:World→Prop) {a0:Act} {w:World} (hm:P.follows .mixedOrders=true) (hok:yZ ops m a0.tmps.size R=true)
 (hdep:∀ x x' j,(∀ i∈R.getD j [],x i=x' i)→(V x).getD j VAny=(V x').getD j VAny) (hweak:∀ i,i<m→(C.getD i []).isEmpty=false → ∀ k,k<m→k≠i→i ∉ R.getD k []→k ∉ C.getD i [] → ∀ x v w w',((V x).getD k VAny).p v w→Rel w w'→((V x).getD k VAny).p v w') (hS0:S w.drew) (hSt:∀ j w w',S w→StepR C Rel j w w'→S w') (hob:∀ x j,j<m→ObR P ops S R C Rel m V x a0 j)
 (hend:∀ x w',S w'→(∀ i∈endR C m,((V x).getD i VAny).p (x i) w')→wpAny P .any ops Q (ops.size-m) (yx ops.size m) (putS ops x a0 m) w'):(Code.region id ops true).wp P Q a0 w:=by
 have hmn:=(vu hok).1
 have hf:∀ i,(Array.replicate ops.size false).getD i false=false:=fun i=>by simp[Array.getD]
 have h:=yhU (Q:=Q) hok hdep hweak hSt hob hend m (List.range m) (Array.replicate ops.size false) w.drew (fun _=>undef) (by simp) List.nodup_range (fun i=>by rw[hf];simp) (by simp) (fun i _ _=>hf i) (fun j o _ hj=>by rw[hf]at hj;cases hj) hS0
  (fun i _ hi=>by rw[hf]at hi;cases hi)
 refine wp_region_any hm ?_
 rw[show ops.size-m+m=ops.size by omega,xq (ops:=ops) _ (fun _=>false) _ (fun _=>undef) a0 m (fun i _=>⟨hf i,fun _=>rfl⟩)]at h
 have e:∀ n,putD ops (fun _=>false) (fun _=>undef) a0 n=a0:=fun n=>by
  induction n with
  | zero=>rfl
  | succ n ih=>unfold putD;simpa using ih
 rw[e]at h
 exact h
def ObsR (P:Program) (ops:Array Oper) (Q:Exit→Act→World→Prop) (S:World→Prop) (R C:List (List Nat)) (Rel:World→World→Prop) (m:Nat) (V:(Nat→Value)→List VP) (x:Nat→Value):Nat→Nat→Act→Prop
 | 0,j,a=>∀ w,S w→(∀ i∈endR C m,((V x).getD i VAny).p (x i) w)→wpAny P .any ops Q (ops.size-j) (yx ops.size j) a w
 | r+1,j,a=>(∀ w,S w→(∀ i∈zW R C m j,((V x).getD i VAny).p (x i) w) →
  wpOp P ops NoWay j (fun a' w'=>∃ v,(∀ d,yg ops j=some d→a'.tmps[d]? = some v)∧a'.defers=a.defers∧((V x).getD j VAny).p v w'∧StepR C Rel j w w') a w) ∧
  ObsR P ops Q S R C Rel m V x r (j+1) (a.put (yg ops j) (x j))
theorem ycs {S:World→Prop} {R C:List (List Nat)} {Rel:World→World→Prop} {m:Nat} {V:(Nat→Value)→List VP} {x:Nat→Value} {a0:Act}:∀ (r j:Nat),ObsR P ops Q S R C Rel m V x r j (putS ops x a0 j) →
 (∀ k,j≤k→k<j+r→ObR P ops S R C Rel m V x a0 k) ∧ ∀ w,S w→(∀ i∈endR C m,((V x).getD i VAny).p (x i) w)→wpAny P .any ops Q (ops.size-(j+r)) (yx ops.size (j+r)) (putS ops x a0 (j+r)) w:=by
 intro r
 induction r with
 | zero=>intro j h;exact⟨fun k h1 h2=>by omega,h⟩
 | succ r ih=>
  intro j h
  obtain⟨h1,h2⟩:=h
  have h2':ObsR P ops Q S R C Rel m V x r (j+1) (putS ops x a0 (j+1)):=h2
  obtain⟨h3,h4⟩:=ih (j+1) h2'
  refine⟨fun k hk1 hk2=>?_,by rw[show j+(r+1)=j+1+r by omega];exact h4⟩
  by_cases hk:k=j
  ·subst hk
   intro w hS hV
   have h:=h1 w hS hV
   rw[show (putS ops x a0 k).defers=a0.defers from (xr _ _ _ _).2]at h
   exact h
  ·exact h3 k (by omega) (by omega)
theorem yiA {id:Nat} (m:Nat) (Rel:World→World→Prop) (R C:List (List Nat)) (V:(Nat→Value)→List VP) (S:World→Prop) {a0:Act} {w:World} (hm:P.follows .mixedOrders=true) (hok:yZ ops m a0.tmps.size R=true)
 (hdep:∀ x x' j,(∀ i∈R.getD j [],x i=x' i)→(V x).getD j VAny=(V x').getD j VAny) (hweak:∀ i,i<m→(C.getD i []).isEmpty=false → ∀ k,k<m→k≠i→i ∉ R.getD k []→k ∉ C.getD i [] → ∀ x v w w',((V x).getD k VAny).p v w→Rel w w'→((V x).getD k VAny).p v w') (hSt:∀ j w w',S w→StepR C Rel j w w'→S w') (hS0:S w.drew) (h:∀ x,ObsR P ops Q S R C Rel m V x m 0 a0):(Code.region id ops true).wp P Q a0 w:=
 yiE (m:=m) (Rel:=Rel) R C V S hm hok hdep hweak hS0 hSt (fun x j hj=>(ycs m 0 (h x)).1 j (by omega) (by omega)) (fun x w' hS hV=>by
  have:=(ycs m 0 (h x)).2 w' hS (hV)
  rwa [Nat.zero_add]at this)
theorem ygw {S:World→Prop} {R C:List (List Nat)} {Rel:World→World→Prop} {m:Nat} {V:(Nat→Value)→List VP} {x:Nat→Value} {r j:Nat} {a:Act} {o:Oper} {d:Tmp} (ho:ops[j]? = some o) (hd:o.dst=some d)
 (h:∀ w,S w→(∀ i∈zW R C m j,((V x).getD i VAny).p (x i) w) → ∀ K:Act→World→Prop,Shut (∀ a' w' v,a'.tmps[d]? = some v→a'.defers=a.defers→((V x).getD j VAny).p v w'→StepR C Rel j w w'→K a' w') →
  if Region.wanted o (yielded ops a.tmps)=true then Oper.wp P o a w K NoWay else K (a.put o.dst undef) w)
 (hr:ObsR P ops Q S R C Rel m V x r (j+1) { a with tmps:=a.tmps.setIfInBounds d (x j) }):ObsR P ops Q S R C Rel m V x (r+1) j a:=by
 have hdst:yg ops j=some d:=by simp[yg,ho,hd]
 refine⟨fun w hS hV=>wpOp_step ho (fun K hK=>?_),by rw[hdst];exact hr⟩
 exact h w hS hV K (fun a' w' v h1 h2 h3 h4=>hK a' w' ⟨v,fun d' hd'=>by rw[hdst]at hd';injection hd' with hd';exact hd'▸h1,h2,h3,h4⟩)
theorem zSR {S:World→Prop} {R C:List (List Nat)} {Rel:World→World→Prop} {m:Nat} {V:(Nat→Value)→List VP} {x:Nat→Value} {r j:Nat} {a a':Act} {o:Oper} {d:Tmp}
 (h:∀ w,S w→(∀ i∈zW R C m j,((V x).getD i VAny).p (x i) w) → ∀ K:Act→World→Prop,Shut (∀ a' w' v,a'.tmps[d]? = some v→a'.defers=a.defers→((V x).getD j VAny).p v w'→StepR C Rel j w w'→K a' w') →
  if Region.wanted o (yielded ops a.tmps)=true then Oper.wp P o a w K NoWay else K (a.put o.dst undef) w)
 (hr:ObsR P ops Q S R C Rel m V x r (j+1) a') (ho:ops[j]? = some o:=by exact Eq.trans (by simp only[zA,zB,zC];exact rfl) rfl) (hd:o.dst=some d:=by exact rfl)
 (ha:{ a with tmps:=a.tmps.setIfInBounds d (x j) } = a':=by simp only[zD,zE,zF];exact rfl):ObsR P ops Q S R C Rel m V x (r+1) j a:=by
 subst ha
 exact ygw ho hd h hr
theorem z6 {m:Nat} {Rel:World→World→Prop} {R C:List (List Nat)} {V:(Nat→Value)→List VP} (Wk:List Nat)
 (hchk:((List.range m).all fun i=>(C.getD i []).isEmpty || (List.range m).all fun k=>k == i || (R.getD k []).contains i || (C.getD i []).contains k || Wk.contains k)=true)
 (hW:∀ k∈Wk,∀ x v w w',((V x).getD k VAny).p v w→Rel w w'→((V x).getD k VAny).p v w') :
 ∀ i,i<m→(C.getD i []).isEmpty=false → ∀ k,k<m→k≠i→i ∉ R.getD k []→k ∉ C.getD i [] → ∀ x v w w',((V x).getD k VAny).p v w→Rel w w'→((V x).getD k VAny).p v w':=by
 intro i hi he k hk hne hR hC x v w w' hp hrel
 have h1:=List.all_eq_true.1 hchk i (List.mem_range.2 hi)
 rw[he,Bool.false_or]at h1
 have h2:=List.all_eq_true.1 h1 k (List.mem_range.2 hk)
 rw[Bool.or_eq_true,Bool.or_eq_true,Bool.or_eq_true,beq_iff_eq,List.contains_iff_mem,List.contains_iff_mem,List.contains_iff_mem]at h2
 rcases h2 with ((h2 | h2) | h2) | h2
 ·exact absurd h2 hne
 ·exact absurd h2 hR
 ·exact absurd h2 hC
 ·exact hW k h2 x v w w' hp hrel
end
theorem yaM (x:Int):0≤bits BinOp.and IntKind.u64 x 16777215∧bits BinOp.and IntKind.u64 x 16777215≤16777215:=by
 unfold bits
 simp only
 have h:(BitVec.ofInt IntKind.u64.bits x &&& BitVec.ofInt IntKind.u64.bits 16777215).toNat≤16777215:=by
  rw[BitVec.toNat_and]
  exact Nat.le_trans Nat.and_le_right (by decide)
 obtain⟨r,hr⟩:∃ r,r=(BitVec.ofInt IntKind.u64.bits x &&& BitVec.ofInt IntKind.u64.bits 16777215).toNat:=⟨_,rfl⟩
 rw[← hr]at h ⊢
 have e:IntKind.u64.wrap ((r:Nat):Int)=(r:Int):=by
  have e1:IntKind.u64.wrap ((r:Nat):Int)=((r:Nat):Int)%18446744073709551616:=rfl
  rw[e1];omega
 rw[e]
 omega
def Src (w:World) (g:Nat) (T:TypeId):Prop:=∃ (B:Option Addr) (nb cb:Nat) (bs:List Int) (pl:Nat) (h:Int),Blk w g T #[.slice B nb cb,.int .i64 pl,.int .u64 h]∧Rd w B nb (bs.map (Value.int .u8))∧(∀ b∈bs,0≤b∧b<256)∧pl≤nb∧nb≤4096 ∧ ∀ a,B=some a→a.block<g
structure Dr (g:Nat) (T:TypeId) (w w':World):Prop where
 s:Src w g T
 s':Src w' g T
 b:Below g w w'
 k:∀ k,k<w.heap.size→k≠g→w'.heap[k]? = w.heap[k]?
theorem Blk.three {w:World} {g:Nat} {t:TypeId} {a b c:Value} (h:Blk w g t #[a,b,c]):w.cell? ⟨g,0,none⟩=some a∧w.cell? ⟨g,1,none⟩=some b∧w.cell? ⟨g,2,none⟩=some c:=⟨h.cell 0,h.cell 1,h.cell 2⟩
theorem Src.lt {w:World} {g:Nat} {T:TypeId} (h:Src w g T):g<w.heap.size:=by obtain⟨B,nb,cb,bs,pl,x,k,_⟩:=h;exact k.lt
theorem Src.keep {w w':World} {g:Nat} {T:TypeId} (h:Src w g T) (hk:w'.heap[g]? = w.heap[g]?) (hb:Below g w w'):Src w' g T:=by
 obtain⟨B,nb,cb,bs,pl,x,k,r,h1,h2,h3,h4⟩:=h
 refine⟨B,nb,cb,bs,pl,x,hk.trans k,⟨r.1,fun hn0=>?_⟩,h1,h2,h3,h4⟩
 obtain⟨gb,ob,e,hc⟩:=r.2 hn0
 exact⟨gb,ob,e,fun j u hu=>(hb.cell (show gb<g from h4 _ e)).trans (hc j u hu)⟩
theorem Src.below {w w':World} {g:Nat} {T:TypeId} (h:Src w g T) (hb:Below w.heap.size w w'):Src w' g T:=by
 obtain⟨B,nb,cb,bs,pl,x,k,r,rest⟩:=h
 exact⟨B,nb,cb,bs,pl,x,k.below hb k.lt,r.below hb,rest⟩
theorem Dr.refl {w:World} {g:Nat} {T:TypeId} (h:Src w g T):Dr g T w w:=⟨h,h,Below.refl _ _,fun _ _ _=>rfl⟩
theorem Dr.of_below {w w':World} {g:Nat} {T:TypeId} (h:Src w g T) (hb:Below w.heap.size w w'):Dr g T w w':=⟨h,h.below hb,hb.mono (Nat.le_of_lt h.lt),fun k hk _=>hb.block k hk⟩
theorem Dr.trans {w w1 w2:World} {g:Nat} {T:TypeId} (h:Dr g T w w1) (h':Dr g T w1 w2):Dr g T w w2:=
 ⟨h.s,h'.s',h.b.trans h'.b,fun k hk hne=>(h'.k k (Nat.lt_of_lt_of_le hk h.b.size) hne).trans (h.k k hk hne)⟩
theorem Dr.size {w w':World} {g:Nat} {T:TypeId} (h:Dr g T w w'):w.heap.size≤w'.heap.size:=h.b.size
theorem Dr.down {w0 w w':World} {g:Nat} {T:TypeId} (h:Dr g T w w') (hb:Below w0.heap.size w0 w) (hg:w0.heap.size≤g):Below w0.heap.size w0 w':=hb.trans (h.b.mono hg)
theorem Blk.dr {w w':World} {g g':Nat} {T t:TypeId} {cs:Array Value} (h:Blk w g' t cs) (d:Dr g T w w') (hne:t≠T):Blk w' g' t cs:=by
 refine (d.k g' h.lt fun e=>?_).trans h
 subst e
 obtain⟨B,nb,cb,bs,pl,x,k,_⟩:=d.s
 unfold Blk at h k
 rw[h]at k
 injection k with k
 injection k with _ e
 exact hne e
theorem Own.dr {w w':World} {g:Nat} {T E:TypeId} {B:Nat} {A:Option Addr} {n c:Nat} {us:List Value} (h:Own w B E A n c us) (d:Dr g T w w') (hne:E≠T):Own w' B E A n c us:=by
 obtain⟨B',nb,cb,bs,pl,x,k,_⟩:=d.s
 have hn:=h.ne_blk k hne
 refine⟨h.1,?_⟩
 rcases h.2 with hz | ⟨g',cap,cur,he,hB,hg,r⟩
 ·exact .inl hz
 ·refine .inr ⟨g',cap,cur,he,hB,(d.k g' (Array.getElem?_eq_some_iff.1 hg).1 fun e=>hn ?_).trans hg,r⟩
  rw[he,← e];rfl
theorem Dr.set {w:World} {g:Nat} {T:TypeId} {B:Option Addr} {nb cb:Nat} {bs:List Int} {pl pl':Nat} {h h':Int} (k:Blk w g T #[.slice B nb cb,.int .i64 pl,.int .u64 h]) (r:Rd w B nb (bs.map (Value.int .u8))) (hbs:∀ b∈bs,0≤b∧b<256) (hpl:pl≤nb) (hnb:nb≤4096) (hbg:∀ a,B=some a→a.block<g)
 (i:Nat) (u:Value) (e:(#[.slice B nb cb,.int .i64 pl,.int .u64 h]:Array Value).setIfInBounds i u=#[.slice B nb cb,.int .i64 pl',.int .u64 h']) (hpl':pl'≤nb) :
 Dr g T w (w.setCell ⟨g,i,none⟩ u)∧Blk (w.setCell ⟨g,i,none⟩ u) g T #[.slice B nb cb,.int .i64 pl',.int .u64 h']∧Rd (w.setCell ⟨g,i,none⟩ u) B nb (bs.map (Value.int .u8)):=by
 have k1:=k.set_ i u
 rw[e]at k1
 have hfar:∀ b,b≠g→(w.setCell ⟨g,i,none⟩ u).heap[b]? = w.heap[b]?:=fun b hb=>Below.heap_setCell w ⟨g,i,none⟩ _ b hb
 have hr:Rd (w.setCell ⟨g,i,none⟩ u) B nb (bs.map (Value.int .u8)):=⟨r.1,fun hn0=>by
  obtain⟨gb,ob,e,hc⟩:=r.2 hn0
  refine⟨gb,ob,e,fun j u hu=>?_⟩
  have hcj:=hc j u hu
  have hlt:=hbg _ e
  exact (World.cell?_of_block (hfar gb (fun e=>by simp at hlt;omega))).trans hcj⟩
 exact⟨⟨⟨B,nb,cb,bs,pl,h,k,r,hbs,hpl,hnb,hbg⟩,⟨B,nb,cb,bs,pl',h',k1,hr,hbs,hpl',hnb,hbg⟩,zG.setCell (p:=⟨g,i,none⟩) (Nat.le_refl _) _,fun b _ hb=>hfar b hb⟩,k1,hr⟩
theorem Dr.alloc {w w':World} {g:Nat} {T:TypeId} (h:Dr g T w w') (o:Obj):Dr g T w (w'.alloc o):=h.trans (Dr.of_below h.s' (zG.alloc (Nat.le_refl _) o))
theorem Dr.then {w w1 w2:World} {g:Nat} {T:TypeId} (h:Dr g T w w1) (hb:Below w1.heap.size w1 w2):Dr g T w w2:=h.trans (Dr.of_below h.s' hb)
theorem Dr.grown {w wr w':World} {g:Nat} {T E:TypeId} {A:Option Addr} {n c:Nat} {us:List Value} (d:Dr g T w wr) (o:Own wr w.heap.size E A n c us) (hg:wr.grownBy w' (Value.slice A n c).ownBlock):Dr g T w w':=by
 have hlt:=d.s.lt
 have hrow:∀ k,(Value.slice A n c).ownBlock=some k→w.heap.size≤k:=fun k hk=>(World.ownsRow.lt o k hk).1
 have hb:Below g wr w':=(Below.refl g wr).grown hg (Nat.le_of_lt (Nat.lt_of_lt_of_le hlt d.size)) fun k hk=>Nat.le_trans (Nat.le_of_lt hlt) (hrow k hk)
 exact⟨d.s,d.s'.keep (hg.block g (Nat.lt_of_lt_of_le hlt d.size) fun e=>by have:=hrow g e.symm;omega) hb,d.b.trans hb,
  fun k hk hne=>(hg.block k (Nat.lt_of_lt_of_le hk d.size) fun e=>by have:=hrow k e.symm;omega).trans (d.k k hk hne)⟩
set_option maxHeartbeats 1600000 in
set_option maxRecDepth 8000 in
theorem yr (g:Nat) (n:Int) (w:World) (hs:Src w g 124) (hn:n≤4611686018427387904) :
 Calls Tryz.prog 47 #[.pointer (some ⟨g,0,none⟩),.int .i64 n] w fun e w'=>∃ r:Int,e=.returned (.int .i64 r)∧0≤r∧(1≤n→r<n)∧Dr g 124 w w':=by
 by_cases h1:n<1
 ·have d1:decide (n<1)=true:=by simpa using h1
  go_enter Tryz.func47,Tryz.ntmps47
  go_wp2
  go_ret
  exact⟨0,rfl,by omega,fun h=>by omega,Dr.refl hs⟩
 ·have d1:decide (n<1)=false:=by simpa using h1
  obtain⟨B,nb,cb,bs,pl,h,k,r,hbs,hpl,hnb,hbg⟩:=id hs
  have q0:w.cell? ⟨g,0,none⟩=some (.slice B nb cb):=k.cell 0
  have q1:w.cell? ⟨g,1,none⟩=some (.int .i64 pl):=k.cell 1
  have q2:w.cell? ⟨g,2,none⟩=some (.int .u64 h):=k.cell 2
  have f2:=k.frozen 2
  go_enter Tryz.func47,Tryz.ntmps47
  go_wp2
  obtain⟨H,hH⟩:∃ H,H=IntKind.u64.wrap (IntKind.u64.wrap (h*6364136223846793005)+1442695040888963407):=⟨_,rfl⟩
  rw[← hH]
  have hsm:=yaM (H / 8589934592)
  obtain⟨X,hX⟩:∃ X,X=bits BinOp.and IntKind.u64 (H / 8589934592) 16777215:=⟨_,rfl⟩
  rw[← hX]at hsm ⊢
  have W1:wrap64 X=X:=by unfold wrap64;omega
  rw[W1]
  obtain⟨x1,x2⟩:=hsm
  obtain⟨hd1,k1,r1⟩:=Dr.set k r hbs hpl hnb hbg 2 (.int .u64 H) (pl':=pl) (h':=H) (by simp) hpl
  clear q0 q1 q2 f2 hX
  obtain⟨w1,hw1⟩:∃ W,W=w.setCell ⟨g,2,none⟩ (.int .u64 H):=⟨_,rfl⟩
  rw[← hw1]at k1 r1 hd1 ⊢
  have hN0:(n == 0)=false:=by simp;omega
  have hN1:(n == -1)=false:=by simp;omega
  have hN2:¬ n=0:=by omega
  have HD:=Lib.hid hd1
  have HBS:=Lib.hid hbs
  have HBG:=Lib.hid hbg
  have HR1:=Lib.hid r1
  clear hw1 hH hd1 r k hbg
  by_cases hpn:pl<nb
  ·have dl:decide ((pl:Int)<(nb:Int))=true:=by simp;omega
   obtain⟨gb,ob,rfl,hc⟩:=r1.2 (by omega)
   have hbl:pl<bs.length:=by have:=r1.1;rw[List.length_map]at this;omega
   have hcb:=hc pl (.int .u8 bs[pl]) (by simp[hbl])
   obtain⟨b1,b2⟩:=hbs _ (List.getElem_mem hbl)
   obtain⟨bb,hbb⟩:∃ x,x=bs[pl]:=⟨_,rfl⟩
   rw[← hbb]at hcb b1 b2
   have i1:(0:Int)≤(pl:Int):=by omega
   have i2:(pl:Int)<(nb:Int):=by omega
   have W2:IntKind.i64.wrap bb=bb:=by rw[IntWalk.i64_left];unfold wrap64;omega
   have W4:IntKind.i64.wrap (X+bb)=X+bb:=by rw[IntWalk.i64_left];unfold wrap64;omega
   have W5:wrap64 ((pl:Int)+1)=((pl+1:Nat):Int):=by unfold wrap64;omega
   have T1:=Int.tmod_eq_emod_of_nonneg (b:=n) (show 0≤X+bb by omega)
   clear hc hbs hbb r1
   go_wp2
   refine yh 10 [[],[0],[0,1],[0,1,2],[],[4],[4,5],[4,5,6],[4,5,6,7],[0,1,2,3,4,5,6,7,8]] [VIs (.pointer (some ⟨g,0,none⟩)),VIs (.pointer (some ⟨g,0,none⟩)),VIs (.pointer (some ⟨g,1,none⟩)),VIs (.int .i64 (pl)),VIs (.pointer (some ⟨g,0,none⟩)),VIs (.pointer (some ⟨g,0,none⟩)),VIs (.pointer (some ⟨g,0,none⟩)),VIs (.slice (some ⟨gb,ob,none⟩) nb cb),VIs (.int .i64 (nb)),VIs (.bool true)] (fun w'=>Blk w' g 124 #[.slice (some ⟨gb,ob,none⟩) nb cb,.int .i64 pl,.int .u64 H]∧w'.cell? ⟨gb,ob+pl,none⟩=some (.int .u8 bb)∧Below w1.heap.size w1 w') (by kernel_rfl) (by kernel_rfl) (fun _ _ h hb=>⟨h.1.below hb h.1.lt,(hb.cell (World.block_lt_of_cell? _ _ h.2.1)).trans h.2.1,h.2.2.trans (hb.mono h.2.2.size)⟩) (⟨k1.drew,hcb,zG.drew⟩) (fun x=>?_)
   refine zS (fun w' hS hV K hK=>?_) ?_
   ·obtain⟨q0,q1,q2⟩:=hS.1.three;have qb:=hS.2.1;go_simp;exact zO hK
   refine zS (fun w' hS hV K hK=>?_) ?_
   ·have e0:=zQ hV 0;obtain⟨q0,q1,q2⟩:=hS.1.three;have qb:=hS.2.1;go_simp;exact zO hK
   refine zS (fun w' hS hV K hK=>?_) ?_
   ·have e1:=zQ hV 1;obtain⟨q0,q1,q2⟩:=hS.1.three;have qb:=hS.2.1;go_simp;exact zO hK
   refine zS (fun w' hS hV K hK=>?_) ?_
   ·have e2:=zQ hV 2;obtain⟨q0,q1,q2⟩:=hS.1.three;have qb:=hS.2.1;go_simp;exact zO hK
   refine zS (fun w' hS hV K hK=>?_) ?_
   ·obtain⟨q0,q1,q2⟩:=hS.1.three;have qb:=hS.2.1;go_simp;exact zO hK
   refine zS (fun w' hS hV K hK=>?_) ?_
   ·have e4:=zQ hV 4;obtain⟨q0,q1,q2⟩:=hS.1.three;have qb:=hS.2.1;go_simp;exact zO hK
   refine zS (fun w' hS hV K hK=>?_) ?_
   ·have e5:=zQ hV 5;obtain⟨q0,q1,q2⟩:=hS.1.three;have qb:=hS.2.1;go_simp;exact zO hK
   refine zS (fun w' hS hV K hK=>?_) ?_
   ·have e6:=zQ hV 6;obtain⟨q0,q1,q2⟩:=hS.1.three;have qb:=hS.2.1;go_simp;exact zO hK
   refine zS (fun w' hS hV K hK=>?_) ?_
   ·have e7:=zQ hV 7;obtain⟨q0,q1,q2⟩:=hS.1.three;have qb:=hS.2.1;go_simp;exact zO hK
   refine zS (fun w' hS hV K hK=>?_) ?_
   ·have e3:=zQ hV 3;have e8:=zQ hV 8;obtain⟨q0,q1,q2⟩:=hS.1.three;have qb:=hS.2.1;go_simp;exact zO hK
   refine fun w' hS hV=>?_
   have e0:=zT hV 0
   have e1:=zT hV 1
   have e2:=zT hV 2
   have e3:=zT hV 3
   have e4:=zT hV 4
   have e5:=zT hV 5
   have e6:=zT hV 6
   have e7:=zT hV 7
   have e8:=zT hV 8
   have e9:=zT hV 9
   simp only[e0,e1,e2,e3,e4,e5,e6,e7,e8,e9]
   clear e0 e1 e2 e3 e4 e5 e6 e7 e8 e9
   refine wpAny_done (by kernel_rfl) ?_ _
   obtain⟨w2,rfl⟩:∃ W,W=w':=⟨_,rfl⟩
   obtain⟨k2,hcb2,hb2⟩:=hS
   have HR2:=Lib.hid (HR1.out.below hb2)
   have HD2:=Lib.hid (HD.out.trans (Dr.of_below HD.out.s' hb2))
   clear k1 hcb hb2
   go_wp2
   refine yh 13 [[],[],[1],[1,2],[1,2,3],[],[5],[5,6],[5,6,7],[1,2,3,4,5,6,7,8],[1,2,3,4,5,6,7,8,9],[1,2,3,4,5,6,7,8,9,10],[0,1,2,3,4,5,6,7,8,9,10,11],[0,1,2,3,4,5,6,7,8,9,10,11,12]] [VIs (.int .i64 (X)),VIs (.pointer (some ⟨g,0,none⟩)),VIs (.pointer (some ⟨g,0,none⟩)),VIs (.pointer (some ⟨g,0,none⟩)),VIs (.slice (some ⟨gb,ob,none⟩) nb cb),VIs (.pointer (some ⟨g,0,none⟩)),VIs (.pointer (some ⟨g,0,none⟩)),VIs (.pointer (some ⟨g,1,none⟩)),VIs (.int .i64 (pl)),VIs (.pointer (some ⟨gb,ob+pl,none⟩)),VIs (.int .u8 bb),VIs (.int .i64 (bb)),VIs (.int .i64 (X+bb))] (fun w'=>Blk w' g 124 #[.slice (some ⟨gb,ob,none⟩) nb cb,.int .i64 pl,.int .u64 H]∧w'.cell? ⟨gb,ob+pl,none⟩=some (.int .u8 bb)∧Below w2.heap.size w2 w') (by kernel_rfl) (by kernel_rfl) (fun _ _ h hb=>⟨h.1.below hb h.1.lt,(hb.cell (World.block_lt_of_cell? _ _ h.2.1)).trans h.2.1,h.2.2.trans (hb.mono h.2.2.size)⟩) (⟨k2.drew,hcb2,zG.drew⟩) (fun x=>?_)
   refine zS (fun w' hS hV K hK=>?_) ?_
   ·obtain⟨q0,q1,q2⟩:=hS.1.three;have qb:=hS.2.1;go_simp;exact zO hK
   refine zS (fun w' hS hV K hK=>?_) ?_
   ·obtain⟨q0,q1,q2⟩:=hS.1.three;have qb:=hS.2.1;go_simp;exact zO hK
   refine zS (fun w' hS hV K hK=>?_) ?_
   ·have e1:=zQ hV 1;obtain⟨q0,q1,q2⟩:=hS.1.three;have qb:=hS.2.1;go_simp;exact zO hK
   refine zS (fun w' hS hV K hK=>?_) ?_
   ·have e2:=zQ hV 2;obtain⟨q0,q1,q2⟩:=hS.1.three;have qb:=hS.2.1;go_simp;exact zO hK
   refine zS (fun w' hS hV K hK=>?_) ?_
   ·have e3:=zQ hV 3;obtain⟨q0,q1,q2⟩:=hS.1.three;have qb:=hS.2.1;go_simp;exact zO hK
   refine zS (fun w' hS hV K hK=>?_) ?_
   ·obtain⟨q0,q1,q2⟩:=hS.1.three;have qb:=hS.2.1;go_simp;exact zO hK
   refine zS (fun w' hS hV K hK=>?_) ?_
   ·have e5:=zQ hV 5;obtain⟨q0,q1,q2⟩:=hS.1.three;have qb:=hS.2.1;go_simp;exact zO hK
   refine zS (fun w' hS hV K hK=>?_) ?_
   ·have e6:=zQ hV 6;obtain⟨q0,q1,q2⟩:=hS.1.three;have qb:=hS.2.1;go_simp;exact zO hK
   refine zS (fun w' hS hV K hK=>?_) ?_
   ·have e7:=zQ hV 7;obtain⟨q0,q1,q2⟩:=hS.1.three;have qb:=hS.2.1;go_simp;exact zO hK
   refine zS (fun w' hS hV K hK=>?_) ?_
   ·have e4:=zQ hV 4;have e8:=zQ hV 8;obtain⟨q0,q1,q2⟩:=hS.1.three;have qb:=hS.2.1;go_simp;exact zO hK
   refine zS (fun w' hS hV K hK=>?_) ?_
   ·have e9:=zQ hV 9;obtain⟨q0,q1,q2⟩:=hS.1.three;have qb:=hS.2.1;go_simp;exact zO hK
   refine zS (fun w' hS hV K hK=>?_) ?_
   ·have e10:=zQ hV 10;obtain⟨q0,q1,q2⟩:=hS.1.three;have qb:=hS.2.1;go_simp;exact zO hK
   refine zS (fun w' hS hV K hK=>?_) ?_
   ·have e0:=zQ hV 0;have e11:=zQ hV 11;obtain⟨q0,q1,q2⟩:=hS.1.three;have qb:=hS.2.1;go_simp;exact zO hK
   refine fun w' hS hV=>?_
   have e0:=zT hV 0
   have e1:=zT hV 1
   have e2:=zT hV 2
   have e3:=zT hV 3
   have e4:=zT hV 4
   have e5:=zT hV 5
   have e6:=zT hV 6
   have e7:=zT hV 7
   have e8:=zT hV 8
   have e9:=zT hV 9
   have e10:=zT hV 10
   have e11:=zT hV 11
   have e12:=zT hV 12
   simp only[e0,e1,e2,e3,e4,e5,e6,e7,e8,e9,e10,e11,e12]
   clear e0 e1 e2 e3 e4 e5 e6 e7 e8 e9 e10 e11 e12
   refine yK (j:=13) (by kernel_rfl) (Eq.trans (by simp only[zA,zB,zC];exact rfl) rfl) (fun K hK=>?_)
   go_simp
   refine hK.out _ _ (wpAny_done (by kernel_rfl) ?_ _)
   obtain⟨w3,rfl⟩:∃ W,W=w':=⟨_,rfl⟩
   obtain⟨k3,hcb3,hb3⟩:=hS
   have HR3:=Lib.hid (HR2.out.below hb3)
   have HD3:=Lib.hid (HD2.out.trans (Dr.of_below HD2.out.s' hb3))
   obtain⟨hd4,k4,r4⟩:=Dr.set k3 HR3.out HBS.out hpl hnb HBG.out 1 (.int .i64 ((pl+1:Nat):Int)) (pl':=pl+1) (h':=H) (by simp) hpn
   have HD4:=Lib.hid (HD3.out.trans hd4)
   have q1:w3.cell? ⟨g,1,none⟩=some (.int .i64 pl):=k3.cell 1
   have f1:=k3.frozen 1
   clear k2 hcb2 hb3 hd4 k4 r4
   go_wp2
   go_ret
   refine⟨(X+bb)%n,rfl,Int.emod_nonneg _ hN2,fun hn=>Int.emod_lt_of_pos _ (by omega),?_⟩
   first
    | exact HD4.out
    | (rw[W5];exact HD4.out)
  ·have dl:decide ((pl:Int)<(nb:Int))=false:=by simp;omega
   have T1:=Int.tmod_eq_emod_of_nonneg (b:=n) (show 0≤X by omega)
   clear hbs r1
   go_wp2
   refine yh 10 [[],[0],[0,1],[0,1,2],[],[4],[4,5],[4,5,6],[4,5,6,7],[0,1,2,3,4,5,6,7,8]] [VIs (.pointer (some ⟨g,0,none⟩)),VIs (.pointer (some ⟨g,0,none⟩)),VIs (.pointer (some ⟨g,1,none⟩)),VIs (.int .i64 (pl)),VIs (.pointer (some ⟨g,0,none⟩)),VIs (.pointer (some ⟨g,0,none⟩)),VIs (.pointer (some ⟨g,0,none⟩)),VIs (.slice B nb cb),VIs (.int .i64 (nb)),VIs (.bool false)] (fun w'=>Blk w' g 124 #[.slice B nb cb,.int .i64 pl,.int .u64 H]∧Below w1.heap.size w1 w') (by kernel_rfl) (by kernel_rfl) (fun _ _ h hb=>⟨h.1.below hb h.1.lt,h.2.trans (hb.mono h.2.size)⟩) (⟨k1.drew,zG.drew⟩) (fun x=>?_)
   refine zS (fun w' hS hV K hK=>?_) ?_
   ·obtain⟨q0,q1,q2⟩:=hS.1.three;go_simp;exact zO hK
   refine zS (fun w' hS hV K hK=>?_) ?_
   ·have e0:=zQ hV 0;obtain⟨q0,q1,q2⟩:=hS.1.three;go_simp;exact zO hK
   refine zS (fun w' hS hV K hK=>?_) ?_
   ·have e1:=zQ hV 1;obtain⟨q0,q1,q2⟩:=hS.1.three;go_simp;exact zO hK
   refine zS (fun w' hS hV K hK=>?_) ?_
   ·have e2:=zQ hV 2;obtain⟨q0,q1,q2⟩:=hS.1.three;go_simp;exact zO hK
   refine zS (fun w' hS hV K hK=>?_) ?_
   ·obtain⟨q0,q1,q2⟩:=hS.1.three;go_simp;exact zO hK
   refine zS (fun w' hS hV K hK=>?_) ?_
   ·have e4:=zQ hV 4;obtain⟨q0,q1,q2⟩:=hS.1.three;go_simp;exact zO hK
   refine zS (fun w' hS hV K hK=>?_) ?_
   ·have e5:=zQ hV 5;obtain⟨q0,q1,q2⟩:=hS.1.three;go_simp;exact zO hK
   refine zS (fun w' hS hV K hK=>?_) ?_
   ·have e6:=zQ hV 6;obtain⟨q0,q1,q2⟩:=hS.1.three;go_simp;exact zO hK
   refine zS (fun w' hS hV K hK=>?_) ?_
   ·have e7:=zQ hV 7;obtain⟨q0,q1,q2⟩:=hS.1.three;go_simp;exact zO hK
   refine zS (fun w' hS hV K hK=>?_) ?_
   ·have e3:=zQ hV 3;have e8:=zQ hV 8;obtain⟨q0,q1,q2⟩:=hS.1.three;go_simp;exact zO hK
   refine fun w' hS hV=>?_
   have e0:=zT hV 0
   have e1:=zT hV 1
   have e2:=zT hV 2
   have e3:=zT hV 3
   have e4:=zT hV 4
   have e5:=zT hV 5
   have e6:=zT hV 6
   have e7:=zT hV 7
   have e8:=zT hV 8
   have e9:=zT hV 9
   simp only[e0,e1,e2,e3,e4,e5,e6,e7,e8,e9]
   clear e0 e1 e2 e3 e4 e5 e6 e7 e8 e9
   refine wpAny_done (by kernel_rfl) ?_ _
   obtain⟨w2,rfl⟩:∃ W,W=w':=⟨_,rfl⟩
   obtain⟨k2,hb2⟩:=hS
   have HD2:=Lib.hid (HD.out.trans (Dr.of_below HD.out.s' hb2))
   clear k1 hb2 k2
   go_wp2
   go_ret
   exact⟨X%n,rfl,Int.emod_nonneg _ hN2,fun hn=>Int.emod_lt_of_pos _ (by omega),HD2.out⟩
set_option maxHeartbeats 1600000 in
set_option maxRecDepth 8000 in
theorem ydH (g:Nat) (n:Int) (w:World) (hs:Src w g 85) (hn:n≤4611686018427387904) :
 Calls Tryz.prog 27 #[.pointer (some ⟨g,0,none⟩),.int .i64 n] w fun e w'=>∃ r:Int,e=.returned (.int .i64 r)∧0≤r∧(1≤n→r<n)∧Dr g 85 w w':=by
 by_cases h1:n<1
 ·have d1:decide (n<1)=true:=by simpa using h1
  go_enter Tryz.func27,Tryz.ntmps27
  go_wp2
  go_ret
  exact⟨0,rfl,by omega,fun h=>by omega,Dr.refl hs⟩
 ·have d1:decide (n<1)=false:=by simpa using h1
  obtain⟨B,nb,cb,bs,pl,h,k,r,hbs,hpl,hnb,hbg⟩:=id hs
  have q0:w.cell? ⟨g,0,none⟩=some (.slice B nb cb):=k.cell 0
  have q1:w.cell? ⟨g,1,none⟩=some (.int .i64 pl):=k.cell 1
  have q2:w.cell? ⟨g,2,none⟩=some (.int .u64 h):=k.cell 2
  have f2:=k.frozen 2
  go_enter Tryz.func27,Tryz.ntmps27
  go_wp2
  obtain⟨H,hH⟩:∃ H,H=IntKind.u64.wrap (IntKind.u64.wrap (h*6364136223846793005)+1442695040888963407):=⟨_,rfl⟩
  rw[← hH]
  have hsm:=yaM (H / 8589934592)
  obtain⟨X,hX⟩:∃ X,X=bits BinOp.and IntKind.u64 (H / 8589934592) 16777215:=⟨_,rfl⟩
  rw[← hX]at hsm ⊢
  have W1:wrap64 X=X:=by unfold wrap64;omega
  rw[W1]
  obtain⟨x1,x2⟩:=hsm
  obtain⟨hd1,k1,r1⟩:=Dr.set k r hbs hpl hnb hbg 2 (.int .u64 H) (pl':=pl) (h':=H) (by simp) hpl
  clear q0 q1 q2 f2 hX
  obtain⟨w1,hw1⟩:∃ W,W=w.setCell ⟨g,2,none⟩ (.int .u64 H):=⟨_,rfl⟩
  rw[← hw1]at k1 r1 hd1 ⊢
  have hN0:(n == 0)=false:=by simp;omega
  have hN1:(n == -1)=false:=by simp;omega
  have hN2:¬ n=0:=by omega
  have HD:=Lib.hid hd1
  have HBS:=Lib.hid hbs
  have HBG:=Lib.hid hbg
  have HR1:=Lib.hid r1
  clear hw1 hH hd1 r k hbg
  by_cases hpn:pl<nb
  ·have dl:decide ((pl:Int)<(nb:Int))=true:=by simp;omega
   obtain⟨gb,ob,rfl,hc⟩:=r1.2 (by omega)
   have hbl:pl<bs.length:=by have:=r1.1;rw[List.length_map]at this;omega
   have hcb:=hc pl (.int .u8 bs[pl]) (by simp[hbl])
   obtain⟨b1,b2⟩:=hbs _ (List.getElem_mem hbl)
   obtain⟨bb,hbb⟩:∃ x,x=bs[pl]:=⟨_,rfl⟩
   rw[← hbb]at hcb b1 b2
   have i1:(0:Int)≤(pl:Int):=by omega
   have i2:(pl:Int)<(nb:Int):=by omega
   have W2:IntKind.i64.wrap bb=bb:=by rw[IntWalk.i64_left];unfold wrap64;omega
   have W4:IntKind.i64.wrap (X+bb)=X+bb:=by rw[IntWalk.i64_left];unfold wrap64;omega
   have W5:wrap64 ((pl:Int)+1)=((pl+1:Nat):Int):=by unfold wrap64;omega
   have T1:=Int.tmod_eq_emod_of_nonneg (b:=n) (show 0≤X+bb by omega)
   clear hc hbs hbb r1
   go_wp2
   refine yh 10 [[],[0],[0,1],[0,1,2],[],[4],[4,5],[4,5,6],[4,5,6,7],[0,1,2,3,4,5,6,7,8]] [VIs (.pointer (some ⟨g,0,none⟩)),VIs (.pointer (some ⟨g,0,none⟩)),VIs (.pointer (some ⟨g,1,none⟩)),VIs (.int .i64 (pl)),VIs (.pointer (some ⟨g,0,none⟩)),VIs (.pointer (some ⟨g,0,none⟩)),VIs (.pointer (some ⟨g,0,none⟩)),VIs (.slice (some ⟨gb,ob,none⟩) nb cb),VIs (.int .i64 (nb)),VIs (.bool true)] (fun w'=>Blk w' g 85 #[.slice (some ⟨gb,ob,none⟩) nb cb,.int .i64 pl,.int .u64 H]∧w'.cell? ⟨gb,ob+pl,none⟩=some (.int .u8 bb)∧Below w1.heap.size w1 w') (by kernel_rfl) (by kernel_rfl) (fun _ _ h hb=>⟨h.1.below hb h.1.lt,(hb.cell (World.block_lt_of_cell? _ _ h.2.1)).trans h.2.1,h.2.2.trans (hb.mono h.2.2.size)⟩) (⟨k1.drew,hcb,zG.drew⟩) (fun x=>?_)
   refine zS (fun w' hS hV K hK=>?_) ?_
   ·obtain⟨q0,q1,q2⟩:=hS.1.three;have qb:=hS.2.1;go_simp;exact zO hK
   refine zS (fun w' hS hV K hK=>?_) ?_
   ·have e0:=zQ hV 0;obtain⟨q0,q1,q2⟩:=hS.1.three;have qb:=hS.2.1;go_simp;exact zO hK
   refine zS (fun w' hS hV K hK=>?_) ?_
   ·have e1:=zQ hV 1;obtain⟨q0,q1,q2⟩:=hS.1.three;have qb:=hS.2.1;go_simp;exact zO hK
   refine zS (fun w' hS hV K hK=>?_) ?_
   ·have e2:=zQ hV 2;obtain⟨q0,q1,q2⟩:=hS.1.three;have qb:=hS.2.1;go_simp;exact zO hK
   refine zS (fun w' hS hV K hK=>?_) ?_
   ·obtain⟨q0,q1,q2⟩:=hS.1.three;have qb:=hS.2.1;go_simp;exact zO hK
   refine zS (fun w' hS hV K hK=>?_) ?_
   ·have e4:=zQ hV 4;obtain⟨q0,q1,q2⟩:=hS.1.three;have qb:=hS.2.1;go_simp;exact zO hK
   refine zS (fun w' hS hV K hK=>?_) ?_
   ·have e5:=zQ hV 5;obtain⟨q0,q1,q2⟩:=hS.1.three;have qb:=hS.2.1;go_simp;exact zO hK
   refine zS (fun w' hS hV K hK=>?_) ?_
   ·have e6:=zQ hV 6;obtain⟨q0,q1,q2⟩:=hS.1.three;have qb:=hS.2.1;go_simp;exact zO hK
   refine zS (fun w' hS hV K hK=>?_) ?_
   ·have e7:=zQ hV 7;obtain⟨q0,q1,q2⟩:=hS.1.three;have qb:=hS.2.1;go_simp;exact zO hK
   refine zS (fun w' hS hV K hK=>?_) ?_
   ·have e3:=zQ hV 3;have e8:=zQ hV 8;obtain⟨q0,q1,q2⟩:=hS.1.three;have qb:=hS.2.1;go_simp;exact zO hK
   refine fun w' hS hV=>?_
   have e0:=zT hV 0
   have e1:=zT hV 1
   have e2:=zT hV 2
   have e3:=zT hV 3
   have e4:=zT hV 4
   have e5:=zT hV 5
   have e6:=zT hV 6
   have e7:=zT hV 7
   have e8:=zT hV 8
   have e9:=zT hV 9
   simp only[e0,e1,e2,e3,e4,e5,e6,e7,e8,e9]
   clear e0 e1 e2 e3 e4 e5 e6 e7 e8 e9
   refine wpAny_done (by kernel_rfl) ?_ _
   obtain⟨w2,rfl⟩:∃ W,W=w':=⟨_,rfl⟩
   obtain⟨k2,hcb2,hb2⟩:=hS
   have HR2:=Lib.hid (HR1.out.below hb2)
   have HD2:=Lib.hid (HD.out.trans (Dr.of_below HD.out.s' hb2))
   clear k1 hcb hb2
   go_wp2
   refine yh 13 [[],[],[1],[1,2],[1,2,3],[],[5],[5,6],[5,6,7],[1,2,3,4,5,6,7,8],[1,2,3,4,5,6,7,8,9],[1,2,3,4,5,6,7,8,9,10],[0,1,2,3,4,5,6,7,8,9,10,11],[0,1,2,3,4,5,6,7,8,9,10,11,12]] [VIs (.int .i64 (X)),VIs (.pointer (some ⟨g,0,none⟩)),VIs (.pointer (some ⟨g,0,none⟩)),VIs (.pointer (some ⟨g,0,none⟩)),VIs (.slice (some ⟨gb,ob,none⟩) nb cb),VIs (.pointer (some ⟨g,0,none⟩)),VIs (.pointer (some ⟨g,0,none⟩)),VIs (.pointer (some ⟨g,1,none⟩)),VIs (.int .i64 (pl)),VIs (.pointer (some ⟨gb,ob+pl,none⟩)),VIs (.int .u8 bb),VIs (.int .i64 (bb)),VIs (.int .i64 (X+bb))] (fun w'=>Blk w' g 85 #[.slice (some ⟨gb,ob,none⟩) nb cb,.int .i64 pl,.int .u64 H]∧w'.cell? ⟨gb,ob+pl,none⟩=some (.int .u8 bb)∧Below w2.heap.size w2 w') (by kernel_rfl) (by kernel_rfl) (fun _ _ h hb=>⟨h.1.below hb h.1.lt,(hb.cell (World.block_lt_of_cell? _ _ h.2.1)).trans h.2.1,h.2.2.trans (hb.mono h.2.2.size)⟩) (⟨k2.drew,hcb2,zG.drew⟩) (fun x=>?_)
   refine zS (fun w' hS hV K hK=>?_) ?_
   ·obtain⟨q0,q1,q2⟩:=hS.1.three;have qb:=hS.2.1;go_simp;exact zO hK
   refine zS (fun w' hS hV K hK=>?_) ?_
   ·obtain⟨q0,q1,q2⟩:=hS.1.three;have qb:=hS.2.1;go_simp;exact zO hK
   refine zS (fun w' hS hV K hK=>?_) ?_
   ·have e1:=zQ hV 1;obtain⟨q0,q1,q2⟩:=hS.1.three;have qb:=hS.2.1;go_simp;exact zO hK
   refine zS (fun w' hS hV K hK=>?_) ?_
   ·have e2:=zQ hV 2;obtain⟨q0,q1,q2⟩:=hS.1.three;have qb:=hS.2.1;go_simp;exact zO hK
   refine zS (fun w' hS hV K hK=>?_) ?_
   ·have e3:=zQ hV 3;obtain⟨q0,q1,q2⟩:=hS.1.three;have qb:=hS.2.1;go_simp;exact zO hK
   refine zS (fun w' hS hV K hK=>?_) ?_
   ·obtain⟨q0,q1,q2⟩:=hS.1.three;have qb:=hS.2.1;go_simp;exact zO hK
   refine zS (fun w' hS hV K hK=>?_) ?_
   ·have e5:=zQ hV 5;obtain⟨q0,q1,q2⟩:=hS.1.three;have qb:=hS.2.1;go_simp;exact zO hK
   refine zS (fun w' hS hV K hK=>?_) ?_
   ·have e6:=zQ hV 6;obtain⟨q0,q1,q2⟩:=hS.1.three;have qb:=hS.2.1;go_simp;exact zO hK
   refine zS (fun w' hS hV K hK=>?_) ?_
   ·have e7:=zQ hV 7;obtain⟨q0,q1,q2⟩:=hS.1.three;have qb:=hS.2.1;go_simp;exact zO hK
   refine zS (fun w' hS hV K hK=>?_) ?_
   ·have e4:=zQ hV 4;have e8:=zQ hV 8;obtain⟨q0,q1,q2⟩:=hS.1.three;have qb:=hS.2.1;go_simp;exact zO hK
   refine zS (fun w' hS hV K hK=>?_) ?_
   ·have e9:=zQ hV 9;obtain⟨q0,q1,q2⟩:=hS.1.three;have qb:=hS.2.1;go_simp;exact zO hK
   refine zS (fun w' hS hV K hK=>?_) ?_
   ·have e10:=zQ hV 10;obtain⟨q0,q1,q2⟩:=hS.1.three;have qb:=hS.2.1;go_simp;exact zO hK
   refine zS (fun w' hS hV K hK=>?_) ?_
   ·have e0:=zQ hV 0;have e11:=zQ hV 11;obtain⟨q0,q1,q2⟩:=hS.1.three;have qb:=hS.2.1;go_simp;exact zO hK
   refine fun w' hS hV=>?_
   have e0:=zT hV 0
   have e1:=zT hV 1
   have e2:=zT hV 2
   have e3:=zT hV 3
   have e4:=zT hV 4
   have e5:=zT hV 5
   have e6:=zT hV 6
   have e7:=zT hV 7
   have e8:=zT hV 8
   have e9:=zT hV 9
   have e10:=zT hV 10
   have e11:=zT hV 11
   have e12:=zT hV 12
   simp only[e0,e1,e2,e3,e4,e5,e6,e7,e8,e9,e10,e11,e12]
   clear e0 e1 e2 e3 e4 e5 e6 e7 e8 e9 e10 e11 e12
   refine yK (j:=13) (by kernel_rfl) (Eq.trans (by simp only[zA,zB,zC];exact rfl) rfl) (fun K hK=>?_)
   go_simp
   refine hK.out _ _ (wpAny_done (by kernel_rfl) ?_ _)
   obtain⟨w3,rfl⟩:∃ W,W=w':=⟨_,rfl⟩
   obtain⟨k3,hcb3,hb3⟩:=hS
   have HR3:=Lib.hid (HR2.out.below hb3)
   have HD3:=Lib.hid (HD2.out.trans (Dr.of_below HD2.out.s' hb3))
   obtain⟨hd4,k4,r4⟩:=Dr.set k3 HR3.out HBS.out hpl hnb HBG.out 1 (.int .i64 ((pl+1:Nat):Int)) (pl':=pl+1) (h':=H) (by simp) hpn
   have HD4:=Lib.hid (HD3.out.trans hd4)
   have q1:w3.cell? ⟨g,1,none⟩=some (.int .i64 pl):=k3.cell 1
   have f1:=k3.frozen 1
   clear k2 hcb2 hb3 hd4 k4 r4
   go_wp2
   go_ret
   refine⟨(X+bb)%n,rfl,Int.emod_nonneg _ hN2,fun hn=>Int.emod_lt_of_pos _ (by omega),?_⟩
   first
    | exact HD4.out
    | (rw[W5];exact HD4.out)
  ·have dl:decide ((pl:Int)<(nb:Int))=false:=by simp;omega
   have T1:=Int.tmod_eq_emod_of_nonneg (b:=n) (show 0≤X by omega)
   clear hbs r1
   go_wp2
   refine yh 10 [[],[0],[0,1],[0,1,2],[],[4],[4,5],[4,5,6],[4,5,6,7],[0,1,2,3,4,5,6,7,8]] [VIs (.pointer (some ⟨g,0,none⟩)),VIs (.pointer (some ⟨g,0,none⟩)),VIs (.pointer (some ⟨g,1,none⟩)),VIs (.int .i64 (pl)),VIs (.pointer (some ⟨g,0,none⟩)),VIs (.pointer (some ⟨g,0,none⟩)),VIs (.pointer (some ⟨g,0,none⟩)),VIs (.slice B nb cb),VIs (.int .i64 (nb)),VIs (.bool false)] (fun w'=>Blk w' g 85 #[.slice B nb cb,.int .i64 pl,.int .u64 H]∧Below w1.heap.size w1 w') (by kernel_rfl) (by kernel_rfl) (fun _ _ h hb=>⟨h.1.below hb h.1.lt,h.2.trans (hb.mono h.2.size)⟩) (⟨k1.drew,zG.drew⟩) (fun x=>?_)
   refine zS (fun w' hS hV K hK=>?_) ?_
   ·obtain⟨q0,q1,q2⟩:=hS.1.three;go_simp;exact zO hK
   refine zS (fun w' hS hV K hK=>?_) ?_
   ·have e0:=zQ hV 0;obtain⟨q0,q1,q2⟩:=hS.1.three;go_simp;exact zO hK
   refine zS (fun w' hS hV K hK=>?_) ?_
   ·have e1:=zQ hV 1;obtain⟨q0,q1,q2⟩:=hS.1.three;go_simp;exact zO hK
   refine zS (fun w' hS hV K hK=>?_) ?_
   ·have e2:=zQ hV 2;obtain⟨q0,q1,q2⟩:=hS.1.three;go_simp;exact zO hK
   refine zS (fun w' hS hV K hK=>?_) ?_
   ·obtain⟨q0,q1,q2⟩:=hS.1.three;go_simp;exact zO hK
   refine zS (fun w' hS hV K hK=>?_) ?_
   ·have e4:=zQ hV 4;obtain⟨q0,q1,q2⟩:=hS.1.three;go_simp;exact zO hK
   refine zS (fun w' hS hV K hK=>?_) ?_
   ·have e5:=zQ hV 5;obtain⟨q0,q1,q2⟩:=hS.1.three;go_simp;exact zO hK
   refine zS (fun w' hS hV K hK=>?_) ?_
   ·have e6:=zQ hV 6;obtain⟨q0,q1,q2⟩:=hS.1.three;go_simp;exact zO hK
   refine zS (fun w' hS hV K hK=>?_) ?_
   ·have e7:=zQ hV 7;obtain⟨q0,q1,q2⟩:=hS.1.three;go_simp;exact zO hK
   refine zS (fun w' hS hV K hK=>?_) ?_
   ·have e3:=zQ hV 3;have e8:=zQ hV 8;obtain⟨q0,q1,q2⟩:=hS.1.three;go_simp;exact zO hK
   refine fun w' hS hV=>?_
   have e0:=zT hV 0
   have e1:=zT hV 1
   have e2:=zT hV 2
   have e3:=zT hV 3
   have e4:=zT hV 4
   have e5:=zT hV 5
   have e6:=zT hV 6
   have e7:=zT hV 7
   have e8:=zT hV 8
   have e9:=zT hV 9
   simp only[e0,e1,e2,e3,e4,e5,e6,e7,e8,e9]
   clear e0 e1 e2 e3 e4 e5 e6 e7 e8 e9
   refine wpAny_done (by kernel_rfl) ?_ _
   obtain⟨w2,rfl⟩:∃ W,W=w':=⟨_,rfl⟩
   obtain⟨k2,hb2⟩:=hS
   have HD2:=Lib.hid (HD.out.trans (Dr.of_below HD.out.s' hb2))
   clear k1 hb2 k2
   go_wp2
   go_ret
   exact⟨X%n,rfl,Int.emod_nonneg _ hN2,fun hn=>Int.emod_lt_of_pos _ (by omega),HD2.out⟩
def cutW (w:World) (B:Nat):World:={ w with heap:=w.heap.extract 0 B }
theorem yv {w:World} {B:Nat} (h:B≤w.heap.size):(cutW w B).heap.size=B:=by simp[cutW];omega
theorem yen {w:World} {B:Nat} (h:B≤w.heap.size):Below (cutW w B).heap.size (cutW w B) w:=by
 refine⟨rfl,rfl,rfl,by rw[yv h];exact h,fun k hk=>?_⟩
 rw[yv h]at hk
 simp[cutW,Array.getElem?_extract,hk]
 intro h2
 omega
theorem Own.mk_ {w:World} {E:TypeId} {B:Nat} {A:Option Addr} {n c:Nat} {us:List Value} (h:Own w B E A n c us) (hB:B≤w.heap.size):Mk (cutW w B) w E A n c us:=⟨yen hB,by rw[yv hB];exact h⟩
theorem Mk.own_ {w0 w:World} {E:TypeId} {B:Nat} {A:Option Addr} {n c:Nat} {us:List Value} (h:Mk w0 w E A n c us) (hB:w0.heap.size=B):Own w B E A n c us:=by rw[← hB];exact h.2
set_option maxHeartbeats 1600000 in
set_option maxRecDepth 8000 in
theorem jR (B:Option Addr) (nb cb:Nat) (bs:List Int) (w:World) (hnb:nb≤4096) (r:Rd w B nb (bs.map (Value.int .u8))) (hbs:∀ b∈bs,0≤b∧b<256) (hbg:∀ a,B=some a→a.block<w.heap.size) :
 Calls Tryz.prog 44 #[.slice B nb cb] w fun e w'=>∃ g,e=.returned (.pointer (some ⟨g,0,none⟩))∧w.heap.size≤g∧Src w' g 124∧Below w.heap.size w w':=by
 have W0:wrap64 (nb:Int)=nb:=by unfold wrap64;omega
 go_enter Tryz.func44,Tryz.ntmps44
 go_wp2
 go_loopw [4] (fun i wr=>∃ (j:Nat) (h:Int),j≤nb∧i=.int .i64 j∧Blk wr w.heap.size 124 #[.slice B nb cb,.int .i64 0,.int .u64 h]∧Below w.heap.size w wr) (fun i _=>nb-(intOf i).toNat)
 case atStart=>exact⟨0,_,by omega,rfl,Blk.new _ _ _,zG.alloc (Nat.le_refl _) _⟩
 case round=>
  obtain⟨j,h,hj,rfl,k1,hb1⟩:=hrel
  by_cases hlt:j<nb
  ·have d1:decide ((j:Int)<(nb:Int))=true:=by simp;omega
   have d2:decide ((j:Int)<4096)=true:=by simp;omega
   obtain⟨gb,ob,rfl,hc⟩:=(r.below hb1).2 (by omega)
   have hbl:j<bs.length:=by have:=r.1;rw[List.length_map]at this;omega
   have hcb:=hc j (.int .u8 bs[j]) (by simp[hbl])
   obtain⟨b1,b2⟩:=hbs _ (List.getElem_mem hbl)
   obtain⟨bb,hbb⟩:∃ x,x=bs[j]:=⟨_,rfl⟩
   rw[← hbb]at hcb b1 b2
   have i1:(0:Int)≤(j:Int):=by omega
   have i2:(j:Int)<(nb:Int):=by omega
   have W2:IntKind.u64.wrap bb=bb:=IntWalk.u64_in _ ⟨b1,by omega⟩
   clear hc hbb
   go_wp2
   refine yh 15 [[],[],[1],[1,2],[1,2,3],[1,2,3,4],[],[],[6,7],[6,7,8],[6,7,8,9],[1,2,3,4,5,6,7,8,9,10],[1,2,3,4,5,6,7,8,9,10,11],[0],[0,13],[0,1,2,3,4,5,6,7,8,9,10,11,12,13,14]] [VIs (.pointer (some ⟨w.heap.size,0,none⟩)),VIs (.pointer (some ⟨w.heap.size,0,none⟩)),VIs (.pointer (some ⟨w.heap.size,0,none⟩)),VIs (.pointer (some ⟨w.heap.size,2,none⟩)),VIs (.int .u64 (h)),VIs (.int .u64 (IntKind.u64.wrap (h*1099511628211))),VIs (.slice (some ⟨gb,ob,none⟩) nb cb),VIs (.int .i64 (j)),VIs (.pointer (some ⟨gb,ob+j,none⟩)),VIs (.int .u8 bb),VIs (.int .u64 (bb)),VIs (.int .u64 (IntKind.u64.wrap (IntKind.u64.wrap (h*1099511628211)+bb))),VIs (.int .u64 (IntKind.u64.wrap (IntKind.u64.wrap (IntKind.u64.wrap (h*1099511628211)+bb)+11))),VIs (.pointer (some ⟨w.heap.size,0,none⟩)),VIs (.pointer (some ⟨w.heap.size,2,none⟩))] (fun w'=>Blk w' w.heap.size 124 #[.slice (some ⟨gb,ob,none⟩) nb cb,.int .i64 0,.int .u64 h]∧w'.cell? ⟨gb,ob+j,none⟩=some (.int .u8 bb)∧Below wr.heap.size wr w') (by kernel_rfl) (by kernel_rfl) (fun _ _ h hb=>⟨h.1.below hb h.1.lt,(hb.cell (World.block_lt_of_cell? _ _ h.2.1)).trans h.2.1,h.2.2.trans (hb.mono h.2.2.size)⟩) (⟨k1.drew,hcb,zG.drew⟩) (fun x=>?_)
   refine zS (fun w' hS hV K hK=>?_) ?_
   ·obtain⟨q0,q1,q2⟩:=hS.1.three;have qb:=hS.2.1;go_simp;exact zO hK
   refine zS (fun w' hS hV K hK=>?_) ?_
   ·obtain⟨q0,q1,q2⟩:=hS.1.three;have qb:=hS.2.1;go_simp;exact zO hK
   refine zS (fun w' hS hV K hK=>?_) ?_
   ·have e1:=zQ hV 1;obtain⟨q0,q1,q2⟩:=hS.1.three;have qb:=hS.2.1;go_simp;exact zO hK
   refine zS (fun w' hS hV K hK=>?_) ?_
   ·have e2:=zQ hV 2;obtain⟨q0,q1,q2⟩:=hS.1.three;have qb:=hS.2.1;go_simp;exact zO hK
   refine zS (fun w' hS hV K hK=>?_) ?_
   ·have e3:=zQ hV 3;obtain⟨q0,q1,q2⟩:=hS.1.three;have qb:=hS.2.1;go_simp;exact zO hK
   refine zS (fun w' hS hV K hK=>?_) ?_
   ·have e4:=zQ hV 4;obtain⟨q0,q1,q2⟩:=hS.1.three;have qb:=hS.2.1;go_simp;exact zO hK
   refine zS (fun w' hS hV K hK=>?_) ?_
   ·obtain⟨q0,q1,q2⟩:=hS.1.three;have qb:=hS.2.1;go_simp;exact zO hK
   refine zS (fun w' hS hV K hK=>?_) ?_
   ·obtain⟨q0,q1,q2⟩:=hS.1.three;have qb:=hS.2.1;go_simp;exact zO hK
   refine zS (fun w' hS hV K hK=>?_) ?_
   ·have e6:=zQ hV 6;have e7:=zQ hV 7;obtain⟨q0,q1,q2⟩:=hS.1.three;have qb:=hS.2.1;go_simp;exact zO hK
   refine zS (fun w' hS hV K hK=>?_) ?_
   ·have e8:=zQ hV 8;obtain⟨q0,q1,q2⟩:=hS.1.three;have qb:=hS.2.1;go_simp;exact zO hK
   refine zS (fun w' hS hV K hK=>?_) ?_
   ·have e9:=zQ hV 9;obtain⟨q0,q1,q2⟩:=hS.1.three;have qb:=hS.2.1;go_simp;exact zO hK
   refine zS (fun w' hS hV K hK=>?_) ?_
   ·have e5:=zQ hV 5;have e10:=zQ hV 10;obtain⟨q0,q1,q2⟩:=hS.1.three;have qb:=hS.2.1;go_simp;exact zO hK
   refine zS (fun w' hS hV K hK=>?_) ?_
   ·have e11:=zQ hV 11;obtain⟨q0,q1,q2⟩:=hS.1.three;have qb:=hS.2.1;go_simp;exact zO hK
   refine zS (fun w' hS hV K hK=>?_) ?_
   ·have e0:=zQ hV 0;obtain⟨q0,q1,q2⟩:=hS.1.three;have qb:=hS.2.1;go_simp;exact zO hK
   refine zS (fun w' hS hV K hK=>?_) ?_
   ·have e13:=zQ hV 13;obtain⟨q0,q1,q2⟩:=hS.1.three;have qb:=hS.2.1;go_simp;exact zO hK
   refine fun w' hS hV=>?_
   have e0:=zT hV 0
   have e1:=zT hV 1
   have e2:=zT hV 2
   have e3:=zT hV 3
   have e4:=zT hV 4
   have e5:=zT hV 5
   have e6:=zT hV 6
   have e7:=zT hV 7
   have e8:=zT hV 8
   have e9:=zT hV 9
   have e10:=zT hV 10
   have e11:=zT hV 11
   have e12:=zT hV 12
   have e13:=zT hV 13
   have e14:=zT hV 14
   simp only[e0,e1,e2,e3,e4,e5,e6,e7,e8,e9,e10,e11,e12,e13,e14]
   clear e0 e1 e2 e3 e4 e5 e6 e7 e8 e9 e10 e11 e12 e13 e14
   obtain⟨k2,_,hb2⟩:=hS
   have q2:=k2.three.2.2
   have f2:=k2.frozen 2
   refine yK (j:=15) (by kernel_rfl) (Eq.trans (by simp only[zA,zB,zC];exact rfl) rfl) (fun K hK=>?_)
   go_simp
   refine hK.out _ _ (wpAny_done (by kernel_rfl) ?_ _)
   have k3:=k2.set_ 2 (.int .u64 (IntKind.u64.wrap (IntKind.u64.wrap (IntKind.u64.wrap (h*1099511628211)+bb)+11)))
   simp only[zD,zE,zF]at k3
   have hb3:=(hb1.trans (hb2.mono hb1.size)).setCell (p:=⟨w.heap.size,2,none⟩) (Nat.le_refl _) (.int .u64 (IntKind.u64.wrap (IntKind.u64.wrap (IntKind.u64.wrap (h*1099511628211)+bb)+11)))
   clear q2 f2 k2 hb2 k1
   go_wp2
   go_roundw
   case rel=>exact⟨j+1,_,by omega,by go_num,k3,hb3⟩
   case measure=>simp[intOf];omega
  ·have d1:decide ((j:Int)<(nb:Int))=false:=by simp;omega
   go_wp2
   go_ret
   exact⟨_,rfl,Nat.le_refl _,⟨B,nb,cb,bs,0,h,k1,r.below hb1,hbs,by omega,hnb,hbg⟩,hb1⟩
set_option maxHeartbeats 1600000 in
set_option maxRecDepth 8000 in
theorem yg9 (B:Option Addr) (nb cb:Nat) (bs:List Int) (sd:Int) (w:World) (hnb:nb≤4096) (r:Rd w B nb (bs.map (Value.int .u8))) (hbs:∀ b∈bs,0≤b∧b<256) (hbg:∀ a,B=some a→a.block<w.heap.size) :
 Calls Tryz.prog 14 #[.slice B nb cb,.int .u64 sd] w fun e w'=>∃ g,e=.returned (.pointer (some ⟨g,0,none⟩))∧w.heap.size≤g∧Src w' g 85∧Below w.heap.size w w':=by
 have W0:wrap64 (nb:Int)=nb:=by unfold wrap64;omega
 go_enter Tryz.func14,Tryz.ntmps14
 go_wp2
 go_loopw [6] (fun i wr=>∃ (j:Nat) (h:Int),j≤nb∧i=.int .i64 j∧Blk wr w.heap.size 85 #[.slice B nb cb,.int .i64 0,.int .u64 h]∧Below w.heap.size w wr) (fun i _=>nb-(intOf i).toNat)
 case atStart=>exact⟨0,_,by omega,rfl,Blk.new _ _ _,zG.alloc (Nat.le_refl _) _⟩
 case round=>
  obtain⟨j,h,hj,rfl,k1,hb1⟩:=hrel
  by_cases hlt:j<nb
  ·have d1:decide ((j:Int)<(nb:Int))=true:=by simp;omega
   skip
   obtain⟨gb,ob,rfl,hc⟩:=(r.below hb1).2 (by omega)
   have hbl:j<bs.length:=by have:=r.1;rw[List.length_map]at this;omega
   have hcb:=hc j (.int .u8 bs[j]) (by simp[hbl])
   obtain⟨b1,b2⟩:=hbs _ (List.getElem_mem hbl)
   obtain⟨bb,hbb⟩:∃ x,x=bs[j]:=⟨_,rfl⟩
   rw[← hbb]at hcb b1 b2
   have i1:(0:Int)≤(j:Int):=by omega
   have i2:(j:Int)<(nb:Int):=by omega
   have W2:IntKind.u64.wrap bb=bb:=IntWalk.u64_in _ ⟨b1,by omega⟩
   clear hc hbb
   go_wp2
   refine yh 15 [[],[],[1],[1,2],[1,2,3],[1,2,3,4],[],[],[6,7],[6,7,8],[6,7,8,9],[1,2,3,4,5,6,7,8,9,10],[1,2,3,4,5,6,7,8,9,10,11],[0],[0,13],[0,1,2,3,4,5,6,7,8,9,10,11,12,13,14]] [VIs (.pointer (some ⟨w.heap.size,0,none⟩)),VIs (.pointer (some ⟨w.heap.size,0,none⟩)),VIs (.pointer (some ⟨w.heap.size,0,none⟩)),VIs (.pointer (some ⟨w.heap.size,2,none⟩)),VIs (.int .u64 (h)),VIs (.int .u64 (IntKind.u64.wrap (h*1099511628211))),VIs (.slice (some ⟨gb,ob,none⟩) nb cb),VIs (.int .i64 (j)),VIs (.pointer (some ⟨gb,ob+j,none⟩)),VIs (.int .u8 bb),VIs (.int .u64 (bb)),VIs (.int .u64 (IntKind.u64.wrap (IntKind.u64.wrap (h*1099511628211)+bb))),VIs (.int .u64 (IntKind.u64.wrap (IntKind.u64.wrap (IntKind.u64.wrap (h*1099511628211)+bb)+5))),VIs (.pointer (some ⟨w.heap.size,0,none⟩)),VIs (.pointer (some ⟨w.heap.size,2,none⟩))] (fun w'=>Blk w' w.heap.size 85 #[.slice (some ⟨gb,ob,none⟩) nb cb,.int .i64 0,.int .u64 h]∧w'.cell? ⟨gb,ob+j,none⟩=some (.int .u8 bb)∧Below wr.heap.size wr w') (by kernel_rfl) (by kernel_rfl) (fun _ _ h hb=>⟨h.1.below hb h.1.lt,(hb.cell (World.block_lt_of_cell? _ _ h.2.1)).trans h.2.1,h.2.2.trans (hb.mono h.2.2.size)⟩) (⟨k1.drew,hcb,zG.drew⟩) (fun x=>?_)
   refine zS (fun w' hS hV K hK=>?_) ?_
   ·obtain⟨q0,q1,q2⟩:=hS.1.three;have qb:=hS.2.1;go_simp;exact zO hK
   refine zS (fun w' hS hV K hK=>?_) ?_
   ·obtain⟨q0,q1,q2⟩:=hS.1.three;have qb:=hS.2.1;go_simp;exact zO hK
   refine zS (fun w' hS hV K hK=>?_) ?_
   ·have e1:=zQ hV 1;obtain⟨q0,q1,q2⟩:=hS.1.three;have qb:=hS.2.1;go_simp;exact zO hK
   refine zS (fun w' hS hV K hK=>?_) ?_
   ·have e2:=zQ hV 2;obtain⟨q0,q1,q2⟩:=hS.1.three;have qb:=hS.2.1;go_simp;exact zO hK
   refine zS (fun w' hS hV K hK=>?_) ?_
   ·have e3:=zQ hV 3;obtain⟨q0,q1,q2⟩:=hS.1.three;have qb:=hS.2.1;go_simp;exact zO hK
   refine zS (fun w' hS hV K hK=>?_) ?_
   ·have e4:=zQ hV 4;obtain⟨q0,q1,q2⟩:=hS.1.three;have qb:=hS.2.1;go_simp;exact zO hK
   refine zS (fun w' hS hV K hK=>?_) ?_
   ·obtain⟨q0,q1,q2⟩:=hS.1.three;have qb:=hS.2.1;go_simp;exact zO hK
   refine zS (fun w' hS hV K hK=>?_) ?_
   ·obtain⟨q0,q1,q2⟩:=hS.1.three;have qb:=hS.2.1;go_simp;exact zO hK
   refine zS (fun w' hS hV K hK=>?_) ?_
   ·have e6:=zQ hV 6;have e7:=zQ hV 7;obtain⟨q0,q1,q2⟩:=hS.1.three;have qb:=hS.2.1;go_simp;exact zO hK
   refine zS (fun w' hS hV K hK=>?_) ?_
   ·have e8:=zQ hV 8;obtain⟨q0,q1,q2⟩:=hS.1.three;have qb:=hS.2.1;go_simp;exact zO hK
   refine zS (fun w' hS hV K hK=>?_) ?_
   ·have e9:=zQ hV 9;obtain⟨q0,q1,q2⟩:=hS.1.three;have qb:=hS.2.1;go_simp;exact zO hK
   refine zS (fun w' hS hV K hK=>?_) ?_
   ·have e5:=zQ hV 5;have e10:=zQ hV 10;obtain⟨q0,q1,q2⟩:=hS.1.three;have qb:=hS.2.1;go_simp;exact zO hK
   refine zS (fun w' hS hV K hK=>?_) ?_
   ·have e11:=zQ hV 11;obtain⟨q0,q1,q2⟩:=hS.1.three;have qb:=hS.2.1;go_simp;exact zO hK
   refine zS (fun w' hS hV K hK=>?_) ?_
   ·have e0:=zQ hV 0;obtain⟨q0,q1,q2⟩:=hS.1.three;have qb:=hS.2.1;go_simp;exact zO hK
   refine zS (fun w' hS hV K hK=>?_) ?_
   ·have e13:=zQ hV 13;obtain⟨q0,q1,q2⟩:=hS.1.three;have qb:=hS.2.1;go_simp;exact zO hK
   refine fun w' hS hV=>?_
   have e0:=zT hV 0
   have e1:=zT hV 1
   have e2:=zT hV 2
   have e3:=zT hV 3
   have e4:=zT hV 4
   have e5:=zT hV 5
   have e6:=zT hV 6
   have e7:=zT hV 7
   have e8:=zT hV 8
   have e9:=zT hV 9
   have e10:=zT hV 10
   have e11:=zT hV 11
   have e12:=zT hV 12
   have e13:=zT hV 13
   have e14:=zT hV 14
   simp only[e0,e1,e2,e3,e4,e5,e6,e7,e8,e9,e10,e11,e12,e13,e14]
   clear e0 e1 e2 e3 e4 e5 e6 e7 e8 e9 e10 e11 e12 e13 e14
   obtain⟨k2,_,hb2⟩:=hS
   have q2:=k2.three.2.2
   have f2:=k2.frozen 2
   refine yK (j:=15) (by kernel_rfl) (Eq.trans (by simp only[zA,zB,zC];exact rfl) rfl) (fun K hK=>?_)
   go_simp
   refine hK.out _ _ (wpAny_done (by kernel_rfl) ?_ _)
   have k3:=k2.set_ 2 (.int .u64 (IntKind.u64.wrap (IntKind.u64.wrap (IntKind.u64.wrap (h*1099511628211)+bb)+5)))
   simp only[zD,zE,zF]at k3
   have hb3:=(hb1.trans (hb2.mono hb1.size)).setCell (p:=⟨w.heap.size,2,none⟩) (Nat.le_refl _) (.int .u64 (IntKind.u64.wrap (IntKind.u64.wrap (IntKind.u64.wrap (h*1099511628211)+bb)+5)))
   clear q2 f2 k2 hb2 k1
   go_wp2
   go_roundw
   case rel=>exact⟨j+1,_,by omega,by go_num,k3,hb3⟩
   case measure=>simp[intOf];omega
  ·have d1:decide ((j:Int)<(nb:Int))=false:=by simp;omega
   go_wp2
   go_ret
   exact⟨_,rfl,Nat.le_refl _,⟨B,nb,cb,bs,0,h,k1,r.below hb1,hbs,by omega,hnb,hbg⟩,hb1⟩
set_option maxHeartbeats 800000 in
set_option maxRecDepth 8000 in
theorem xJ (g gl:Nat) (xs:List Int) (w:World) (hs:Src w g 124) (kl:Blk w gl 2 (ints xs).toArray) (h0:0<xs.length) (hl:xs.length≤1000) :
 Calls Tryz.prog 106 #[.pointer (some ⟨g,0,none⟩),.slice (some ⟨gl,0,none⟩) xs.length xs.length] w fun e w'=>∃ r:Int,r∈xs∧e=.returned (.int .i64 r)∧Dr g 124 w w':=by
 have hnx:=yr g (xs.length:Int) w hs (by omega)
 go_enter Tryz.func106,Tryz.ntmps106
 go_wp2_with fail
 refine hnx.mono ?_
 rintro e w2 ⟨r,rfl,hr1,hr2,hd⟩
 have hr3:=hr2 (by omega)
 obtain⟨rn,rfl⟩:∃ rn:Nat,r=rn:=⟨r.toNat,by omega⟩
 have hlt:rn<xs.length:=by omega
 have kl2:=kl.dr hd (by decide)
 have hc:w2.cell? ⟨gl,rn,none⟩=some (.int .i64 xs[rn]):=by
  rw[kl2.cell]
  simp[ints,hlt]
 have hmem:=List.getElem_mem hlt
 obtain⟨x,hx⟩:∃ x,x=xs[rn]:=⟨_,rfl⟩
 rw[← hx]at hc hmem
 clear hnx hx
 go_wp2
 go_ret
 exact⟨x,hmem,rfl,hd⟩
theorem vE (a b:Int):(ints [a,b]).toArray=#[.int .i64 a,.int .i64 b]:=rfl
theorem Dr.setNew {w wr:World} {g b:Nat} {T:TypeId} (d:Dr g T w wr) (hb:w.heap.size≤b) (i:Nat) (u:Value):Dr g T w (wr.setCell ⟨b,i,none⟩ u):=by
 have hlt:=d.s.lt
 have hfar:∀ k,k≠b→(wr.setCell ⟨b,i,none⟩ u).heap[k]? = wr.heap[k]?:=fun k hk=>Below.heap_setCell wr ⟨b,i,none⟩ _ k hk
 have hB:Below g wr (wr.setCell ⟨b,i,none⟩ u):=zG.setCell (p:=⟨b,i,none⟩) (Nat.le_trans (Nat.le_of_lt hlt) hb) _
 exact⟨d.s,d.s'.keep (hfar g (by omega)) hB,d.b.trans hB,fun k hk hne=>(hfar k (by omega)).trans (d.k k hk hne)⟩
def VNum:VP:=⟨fun v _=>∃ r:Int,v=.int .i64 r,fun _ _ _ h _=>h⟩
theorem Own.set_ {w:World} {E:TypeId} {B g:Nat} {n c:Nat} {us:List Value} (h:Own w B E (some ⟨g,0,none⟩) n c us) (k:Nat) (u:Value):Own (w.setCell ⟨g,k,none⟩ u) B E (some ⟨g,0,none⟩) n c (us.set k u)∧w.grownBy (w.setCell ⟨g,k,none⟩ u) (some g):=World.ownsRow.stored h k u
def xU (ops:Array Oper) (m sz:Nat) (R:List (List Nat)):Bool:=
 Region.noSelect ops && m≤ops.size &&
 (List.range ops.size).all (fun j=>match ops[j]? with
  | none=>false
  | some o=>(R.getD j []).all (fun i=>o.after.toList.any fun e=>Region.binds .any e && (decide (e.on<j)) && (e.on == i || (R.getD e.on []).contains i)) &&
   if j<m then
    (o.after.toList.all fun e=>!Region.binds .any e || decide (e.on<j)) &&
    (match o.dst with
     | none=>true
     | some d=>decide (d<sz) && (List.range m).all fun i=>i == j || yg ops i != some d) &&
    (o.looksAt ops).all (fun t=>(List.range m).all fun i=>yg ops i != some t || (R.getD j []).contains i)
   else (List.range m).all fun i=>(R.getD j []).contains i)
section
variable {P:Program} {ops:Array Oper} {Q:Exit→Act→World→Prop}
theorem qC {ops:Array Oper} {m sz:Nat} {R:List (List Nat)} (hok:xU ops m sz R=true) (L:Nat→Bool)
 (hL:∀ (j:Nat) (o:Oper),ops[j]? = some o→L j=true → ∀ e∈o.after,Region.binds .any e=true→L e.on=true) :
 ∀ (j:Nat) (o:Oper),ops[j]? = some o→(∀ e∈o.after,Region.binds .any e=true→L e.on=true) → ∀ i∈R.getD j [],L i=true:=by
 intro j
 induction j using Nat.strongRecOn with
 | ind j ih=>
  intro o ho hal i hi
  have hlt:j<ops.size:=(Array.getElem?_eq_some_iff.1 ho).1
  unfold xU at hok
  simp only[Bool.and_eq_true]at hok
  have h1:=List.all_eq_true.1 hok.2 j (by simpa using hlt)
  rw[ho]at h1
  simp only[Bool.and_eq_true]at h1
  have h2:=List.all_eq_true.1 h1.1 i hi
  obtain⟨e,he,hc⟩:=List.any_eq_true.1 h2
  replace he:e∈o.after:=by simpa using he
  simp only[Bool.and_eq_true,Bool.or_eq_true,decide_eq_true_eq,beq_iff_eq,List.contains_iff_mem]at hc
  obtain⟨⟨hb,hej⟩,hc⟩:=hc
  have hle:=hal e he hb
  rcases hc with rfl | hc
  ·exact hle
  ·have hes:e.on<ops.size:=by omega
   exact ih e.on hej _ (Array.getElem?_eq_getElem hes) (fun e' he' hb'=>hL e.on _ (Array.getElem?_eq_getElem hes) hle e' he' hb') i hc
theorem yaj {ops:Array Oper} {m sz:Nat} {R:List (List Nat)} (hok:xU ops m sz R=true):∀ j,j<ops.size → ∀ i∈R.getD j [],i<j:=by
 intro j
 induction j using Nat.strongRecOn with
 | ind j ih=>
  intro hlt i hi
  unfold xU at hok
  simp only[Bool.and_eq_true]at hok
  have h1:=List.all_eq_true.1 hok.2 j (by simpa using hlt)
  rw[Array.getElem?_eq_getElem hlt]at h1
  simp only[Bool.and_eq_true]at h1
  have h2:=List.all_eq_true.1 h1.1 i hi
  obtain⟨e,he,hc⟩:=List.any_eq_true.1 h2
  simp only[Bool.and_eq_true,Bool.or_eq_true,decide_eq_true_eq,beq_iff_eq,List.contains_iff_mem]at hc
  obtain⟨⟨hb,hej⟩,hc⟩:=hc
  rcases hc with rfl | hc
  ·exact hej
  ·have:=ih e.on hej (by omega) i hc
   omega
theorem yc6 {ops:Array Oper} {m sz:Nat} {R:List (List Nat)} (hok:xU ops m sz R=true) :
 m≤ops.size∧(∀ (j:Nat) (o:Oper),ops[j]? = some o→j<m→(∀ e∈o.after,Region.binds .any e=true→e.on<j)∧(∀ d,o.dst=some d→d<sz ∧ ∀ i,i<m→i≠j→yg ops i≠some d) ∧
  ∀ t∈o.looksAt ops,∀ i,i<m→yg ops i=some t→i∈R.getD j [])∧(∀ (j:Nat),j<ops.size→m≤j → ∀ i,i<m→i∈R.getD j []):=by
 unfold xU at hok
 simp only[Bool.and_eq_true,decide_eq_true_eq]at hok
 obtain⟨⟨_,hm⟩,hall⟩:=hok
 refine⟨hm,fun j o ho hj=>?_,fun j hlt hj i hi=>?_⟩
 ·have hlt:j<ops.size:=(Array.getElem?_eq_some_iff.1 ho).1
  have h1:=List.all_eq_true.1 hall j (by simpa using hlt)
  rw[ho]at h1
  simp only[Bool.and_eq_true,if_pos hj]at h1
  obtain⟨_,⟨h2,h3⟩,h4⟩:=h1
  refine⟨fun e he hb=>?_,fun d hd=>?_,fun t ht i hi hd=>?_⟩
  ·have:=List.all_eq_true.1 h2 e (by simpa using he)
   simpa [hb] using this
  ·rw[hd]at h3
   simp only[Bool.and_eq_true,decide_eq_true_eq]at h3
   refine⟨h3.1,fun i hi hne=>?_⟩
   have:=List.all_eq_true.1 h3.2 i (by simpa using hi)
   simpa [hne] using this
  ·have:=List.all_eq_true.1 (List.all_eq_true.1 h4 t ht) i (by simpa using hi)
   simpa [hd] using this
 ·have h1:=List.all_eq_true.1 hall j (by simpa using hlt)
  rw[Array.getElem?_eq_getElem hlt]at h1
  simp only[Bool.and_eq_true,if_neg (Nat.not_lt.2 hj)]at h1
  have:=List.all_eq_true.1 h1.2 i (by simpa using hi)
  simpa using this
theorem yiy {o:Oper} {a1 a2:Act} {w:World} {R:Value→World→Prop} (he:execOp a2.eval o=execOp a1.eval o) (hs:∀ d,o.dst=some d→d<a1.tmps.size)
 (h:o.wp P a1 w (fun a' w'=>∃ v,(∀ d,o.dst=some d→a'.tmps[d]? = some v)∧a'.defers=a1.defers∧R v w') NoWay):o.wp P a2 w (fun a' w'=>∃ v,a'=a2.put o.dst v∧R v w') Q:=by
 have key:∀ (u:Value) (w':World),(∃ v,(∀ d,o.dst=some d→(a1.put o.dst u).tmps[d]? = some v)∧(a1.put o.dst u).defers=a1.defers∧R v w') → ∃ v,a2.put o.dst u=a2.put o.dst v∧R v w':=by
  rintro u w' ⟨v,hv,_,hR⟩
  cases hd:o.dst with
  | none=>exact⟨v,rfl,hR⟩
  | some d=>
   refine⟨u,rfl,?_⟩
   have h1:=hv d hd
   have h2:=hs d hd
   rw[hd]at h1
   simp[Act.put,h2]at h1
   exact h1▸hR
 unfold Oper.wp at *
 rw[he]
 generalize (execOp a1.eval o).run P w=r at *
 cases r with
 | ok n w'=>
  cases n<;>simp only[Oper.upon]at h ⊢
  case value u=>exact key _ _ h
  case skip=>exact key _ _ h
  case defer dd=>
   obtain⟨v,_,h,_⟩:=h
   have h1:=congrArg List.length h
   cases hd:o.dst<;>simp[Act.put,hd]at h1
  case enter f args=>
   refine Calls.mono h fun e w'' he=>?_
   cases e with
   | returned u=>exact key _ _ he
   | panicked c=>exact absurd he id
   | outgrown=>exact absurd he NoWay.lets
  case row row args=>exact Rows.mono h fun u w'' he=>key _ _ he
 | halt x w'=>
  cases x<;>simp only[Oper.upon]at h ⊢
  case panic u=>exact absurd h id
def ObS (P:Program) (ops:Array Oper) (S:World→Prop) (R C:List (List Nat)) (Rel:World→World→Prop) (m:Nat) (V:(Nat→Value)→List VP) (x:Nat→Value) (a0:Act) (j:Nat):Prop:=
 ∀ w,S w→(∀ i∈zW R C m j,((V x).getD i VAny).p (x i) w) →
  wpOp P ops NoWay j (fun a' w'=>∃ v,(∀ d,yg ops j=some d→a'.tmps[d]? = some v)∧a'.defers=a0.defers∧((V x).getD j VAny).p v w'∧StepR C Rel j w w') (putS ops x a0 j) w
theorem yhV {m:Nat} {Rel:World→World→Prop} {R C:List (List Nat)} {V:(Nat→Value)→List VP} {S:World→Prop} {a0:Act} (hok:xU ops m a0.tmps.size R=true)
 (hdep:∀ x x' j,(∀ i∈R.getD j [],x i=x' i)→(V x).getD j VAny=(V x').getD j VAny) (hweak:∀ i,i<m→(C.getD i []).isEmpty=false → ∀ k,k<m→k≠i→i ∉ R.getD k []→k ∉ C.getD i [] → ∀ x v w w',((V x).getD k VAny).p v w→Rel w w'→((V x).getD k VAny).p v w') (hSt:∀ j w w',S w→StepR C Rel j w w'→S w') (hob:∀ x j,j<m→ObS P ops S R C Rel m V x a0 j)
 (hend:∀ x w',S w'→(∀ i∈endR C m,((V x).getD i VAny).p (x i) w')→wpAny P .any ops Q (ops.size-m) (yx ops.size m) (putS ops x a0 m) w') :
 ∀ (c:Nat) (U:List Nat) (listed:Array Bool) (w:World) (x:Nat→Value),U.length=c→U.Nodup→(∀ i,i∈U↔i<m∧listed.getD i false=false)→listed.size=ops.size →
  (∀ i,m≤i→i<ops.size→listed.getD i false=false)→(∀ (j:Nat) (o:Oper),ops[j]? = some o→listed.getD j false=true → ∀ e∈o.after,Region.binds .any e=true→listed.getD e.on false=true) →
  S w→(∀ i,i<m→listed.getD i false=true→(∀ j,j<m→i∈C.getD j []→listed.getD j false=false)→((V x).getD i VAny).p (x i) w)→wpAny P .any ops Q (ops.size-m+c) listed (putD ops (fun i=>listed.getD i false) x a0 m) w:=by
 obtain⟨hmn,hspec,htail⟩:=yc6 hok
 have hsel:Region.noSelect ops=true:=by unfold xU at hok;simp only[Bool.and_eq_true]at hok;exact hok.1.1
 intro c
 induction c with
 | zero=>
  intro U listed w x hU hnd hmem hsz hun hcl hS hV
  obtain rfl:U=[]:=List.eq_nil_of_length_eq_zero hU
  have hall:∀ i,i<m→listed.getD i false=true:=fun i hi=>by
   cases h:listed.getD i false
   ·exact absurd ((hmem i).2 ⟨hi,h⟩) (by simp)
   ·rfl
  have hl:listed=yx ops.size m:=by
   apply Array.ext
   ·simp[yx,hsz]
   ·intro i h1 h2
    have e:listed.getD i false=listed[i]:=by simp[Array.getD,h1]
    by_cases hi:i<m
    ·have:=hall i hi
     rw[e]at this
     simp[yx,this,hi]
    ·have:=hun i (by omega) (by omega)
     rw[e]at this
     simp[yx,this,hi]
  rw[Nat.add_zero,xq (ops:=ops) _ (fun _=>true) x x a0 m (fun i hi=>⟨hall i hi,fun _=>rfl⟩),hl]
  exact hend x w hS (fun i hi=>hV i (va.1 hi).1 (hall i (va.1 hi).1) (fun j hj hc=>absurd hc ((va.1 hi).2 j hj)))
 | succ c ih=>
  intro U listed w x hU hnd hmem hsz hun hcl hS hV
  have hne:U≠[]:=fun e=>by rw[e]at hU;simp at hU
  show (_→_)∧_
  refine⟨fun hr=>?_,fun i hi=>?_⟩
  ·exfalso
   obtain⟨i,hiU,hmin⟩:=ub U hne
   obtain⟨him,hil⟩:=(hmem i).1 hiU
   have hlt:i<ops.size:=by omega
   have:i∈Region.ready .any ops listed:=mem_ready.2 ⟨by simpa [Array.getD,hsz,hlt] using hil,_,Array.getElem?_eq_getElem hlt,fun e he hb=>by
    have hlti:=(hspec i _ (Array.getElem?_eq_getElem hlt) him).1 e he hb
    cases h:listed.getD e.on false
    ·have:=hmin e.on ((hmem _).2 ⟨by omega,h⟩);omega
    ·rfl⟩
   rw[hr]at this
   cases this
  ·obtain⟨hil,o,ho,hdeps⟩:=mem_ready.1 hi
   have hlt:i<ops.size:=(Array.getElem?_eq_some_iff.1 ho).1
   have hil':listed.getD i false=false:=by simpa [Array.getD,hsz,hlt] using hil
   have hreach:=qC hok (fun i=>listed.getD i false) hcl i o ho hdeps
   have him:i<m:=by
    rcases Nat.lt_or_ge i m with h | h
    ·exact h
    ·exfalso
     obtain⟨k,hk⟩:=List.exists_mem_of_ne_nil U hne
     obtain⟨hkm,hkl⟩:=(hmem k).1 hk
     have:=hreach k (htail i hlt h k hkm)
     rw[hkl]at this;cases this
   obtain⟨_,hdd,hlook⟩:=hspec i o ho him
   have hdst:yg ops i=o.dst:=by simp[yg,ho]
   have hso:∀ cs b,o.op ≠ .select cs b:=fun cs b=>Region.noSelect_spec hsel i o cs b ho
   -- the two frames agree on what o looks at
   have hagree:∀ t∈o.looksAt ops,(putD ops (fun i=>listed.getD i false) x a0 m).tmps[t]? = (putS ops x a0 i).tmps[t]?:=fun t ht=>by
    by_cases hex:∃ k,k<m∧yg ops k=some t
    ·obtain⟨k,hkm,hkd⟩:=hex
     have hkR:=hlook t ht k hkm hkd
     have hki:=yaj hok i hlt k hkR
     have hkl:=hreach k hkR
     have hks:k<ops.size:=by omega
     have hkd':ops[k].dst=some t:=by
      have h0:=hkd
      simp only[yg,Array.getElem?_eq_getElem hks,Option.bind_some]at h0
      exact h0
     obtain⟨hdsz',hu'⟩:=(hspec k _ (Array.getElem?_eq_getElem hks) hkm).2.1 t hkd'
     rw[xR _ _ _ _ k hkd hkl hdsz' m hkm (fun l hl hlk=>hu' l hl hlk)]
     unfold putS
     rw[xR _ _ _ _ k hkd rfl hdsz' i hki (fun l hl hlk=>hu' l (by omega) hlk)]
    ·rw[xS _ _ _ _ m (fun k hk hkd=>absurd ⟨k,hk,hkd⟩ hex)]
     unfold putS
     rw[xS _ _ _ _ i (fun k hk hkd=>absurd ⟨k,by omega,hkd⟩ hex)]
   have hob':=hob x i him w hS (fun k hk=>by
    obtain⟨hkR,hkC⟩:=je.1 hk
    refine hV k (by have:=yaj hok i hlt k hkR;omega) (hreach k hkR) (fun j hj hc=>?_)
    rcases hkC j hj hc with rfl | hij
    ·exact hil'
    ·cases hjl:listed.getD j false
     ·rfl
     ·have hjs:j<ops.size:=by omega
      have:=qC hok (fun i=>listed.getD i false) hcl j _ (Array.getElem?_eq_getElem hjs) (hcl j _ (Array.getElem?_eq_getElem hjs) hjl) i hij
      rw[hil']at this;cases this)
   have hsz1:=xr (ops:=ops) (fun _=>true) x a0 i
   -- what comes behind
   have next:∀ v w',((V x).getD i VAny).p v w'→StepR C Rel i w w'→wpAny P .any ops Q (ops.size-m+c) (listed.setIfInBounds i true) ((putD ops (fun i=>listed.getD i false) x a0 m).put o.dst v) w':=fun v w' hv hb=>by
    have hput:=uN (ops:=ops) (fun k=>listed.getD k false) (fun k=>(listed.setIfInBounds i true).getD k false) x (fun k=>if k=i then v else x k) a0 i hil'
     (by simp[hsz,hlt]) (fun k hk=>⟨by rw[getD_set_ne _ (Ne.symm hk)],by simp[hk]⟩) m him
     (fun d' k hk hki hd'=>(hdd d' (hdst▸hd')).2 k hk hki)
    simp only[if_true]at hput
    rw[← hdst,hput]
    refine ih (U.erase i) _ _ _ ?_ (hnd.erase _) (fun k=>?_) (by simpa using hsz) (fun k h1 h2=>?_) (fun j oj hoj hj e he hb'=>?_) (hSt i _ _ hS hb) (fun k hk hkl hcons=>?_)
    ·rw[List.length_erase_of_mem ((hmem i).2 ⟨him,hil'⟩),hU];rfl
    ·rw[hnd.mem_erase_iff,hmem]
     by_cases hk:k=i
     ·subst hk;simp[hsz,hlt]
     ·rw[getD_set_ne _ (Ne.symm hk)];simp[hk]
    ·rw[getD_set_ne _ (by omega)];exact hun k h1 h2
    ·by_cases hji:j=i
     ·subst hji
      rw[ho]at hoj;injection hoj with hoj;subst hoj
      exact getD_set_true (hdeps e he hb')
     ·rw[getD_set_ne _ (Ne.symm hji)]at hj
      exact getD_set_true (hcl j oj hoj hj e he hb')
    ·by_cases hki:k=i
     ·subst hki
      rw[hdep _ x k (fun l hl=>by have:=yaj hok k hlt l hl;simp only[show l≠k by omega,if_false])]
      simpa using hv
     ·rw[getD_set_ne _ (Ne.symm hki)]at hkl
      have hks:k<ops.size:=by omega
      have hdk:(V fun l=>if l=i then v else x l).getD k VAny=(V x).getD k VAny:=hdep _ x k (fun l hl=>by
       have hll:=qC hok (fun i=>listed.getD i false) hcl k _ (Array.getElem?_eq_getElem hks) (hcl k _ (Array.getElem?_eq_getElem hks) hkl) l hl
       have hne:l≠i:=fun e=>by rw[e]at hll;rw[hil']at hll;cases hll
       simp only[hne,if_false])
      simp only[hki,if_false]
      rw[hdk]
      have hb0:∀ j,j<m→k∈C.getD j []→listed.getD j false=false:=fun j hj hc=>by
       have h1:=hcons j hj hc
       by_cases hji:j=i
       ·rw[hji];exact hil'
       ·rwa [getD_set_ne _ (Ne.symm hji)]at h1
      have hkC:k ∉ C.getD i []:=fun hc=>by
       have h1:=hcons i him hc
       simp[hsz,hlt]at h1
      have hiR:i ∉ R.getD k []:=fun hik=>by
       have:=qC hok (fun i=>listed.getD i false) hcl k _ (Array.getElem?_eq_getElem hks) (hcl k _ (Array.getElem?_eq_getElem hks) hkl) i hik
       rw[hil']at this;cases this
      cases he:(C.getD i []).isEmpty
      ·replace hb:Rel w w':=by unfold StepR at hb;rw[he]at hb;exact hb
       exact hweak i him he k hk hki hiR hkC x _ _ _ (hV k hk hkl hb0) hb
      ·replace hb:Below w.heap.size w w':=by unfold StepR at hb;rw[he]at hb;exact hb
       exact ((V x).getD k VAny).st _ _ _ (hV k hk hkl hb0) hb
   unfold wpOp at hob' ⊢
   simp only[ho]at hob' ⊢
   rw[uU hagree]
   split
   ·rename_i hw
    rw[if_pos hw]at hob'
    rcases hob' with h | ⟨_,h⟩
    case inr=>exact absurd h NoWay.lets
    refine .inl (Oper.wp_mono ?_ (yiy (Q:=Q) (R:=fun v w'=>((V x).getD i VAny).p v w'∧StepR C Rel i w w') (uB hso hagree) (fun d hd=>by unfold putS;rw[hsz1.1];exact (hdd d hd).1)
     (Oper.wp_mono (fun a' w' ⟨v,h1,h2,h3,h4⟩=>⟨v,fun d hd=>h1 d (hdst.trans hd),by unfold putS;rw[hsz1.2];exact h2,h3,h4⟩) h)))
    rintro a' w' ⟨v,rfl,hv,hb⟩
    exact next v w' hv hb
   ·rename_i hw
    rw[if_neg hw]at hob'
    obtain⟨v,h1,_,h3,h4⟩:=hob'
    cases hd:o.dst with
    | none=>
     have hn:=next v w h3 h4
     rw[hd]at hn
     exact hn
    | some d=>
     have hvu:v=undef:=by
      have:=h1 d (hdst.trans hd)
      rw[hd]at this
      simp[Act.put,putS,hsz1.1,(hdd d hd).1]at this
      exact this.symm
     have hn:=next undef w (hvu▸h3) h4
     rw[hd]at hn
     exact hn
theorem yiF {id m:Nat} {Rel:World→World→Prop} (R C:List (List Nat)) (V:(Nat→Value)→List VP) (S:World→Prop) {a0:Act} {w:World} (hm:P.follows .mixedOrders=true) (hok:xU ops m a0.tmps.size R=true)
 (hdep:∀ x x' j,(∀ i∈R.getD j [],x i=x' i)→(V x).getD j VAny=(V x').getD j VAny) (hweak:∀ i,i<m→(C.getD i []).isEmpty=false → ∀ k,k<m→k≠i→i ∉ R.getD k []→k ∉ C.getD i [] → ∀ x v w w',((V x).getD k VAny).p v w→Rel w w'→((V x).getD k VAny).p v w') (hS0:S w.drew) (hSt:∀ j w w',S w→StepR C Rel j w w'→S w') (hob:∀ x j,j<m→ObS P ops S R C Rel m V x a0 j)
 (hend:∀ x w',S w'→(∀ i∈endR C m,((V x).getD i VAny).p (x i) w')→wpAny P .any ops Q (ops.size-m) (yx ops.size m) (putS ops x a0 m) w'):(Code.region id ops true).wp P Q a0 w:=by
 have hmn:=(yc6 hok).1
 have hf:∀ i,(Array.replicate ops.size false).getD i false=false:=fun i=>by simp[Array.getD]
 have h:=yhV (Q:=Q) hok hdep hweak hSt hob hend m (List.range m) (Array.replicate ops.size false) w.drew (fun _=>undef) (by simp) List.nodup_range (fun i=>by rw[hf];simp) (by simp) (fun i _ _=>hf i) (fun j o _ hj=>by rw[hf]at hj;cases hj) hS0
  (fun i _ hi=>by rw[hf]at hi;cases hi)
 refine wp_region_any hm ?_
 rw[show ops.size-m+m=ops.size by omega,xq (ops:=ops) _ (fun _=>false) _ (fun _=>undef) a0 m (fun i _=>⟨hf i,fun _=>rfl⟩)]at h
 have e:∀ n,putD ops (fun _=>false) (fun _=>undef) a0 n=a0:=fun n=>by
  induction n with
  | zero=>rfl
  | succ n ih=>unfold putD;simpa using ih
 rw[e]at h
 exact h
def ObsS (P:Program) (ops:Array Oper) (Q:Exit→Act→World→Prop) (S:World→Prop) (R C:List (List Nat)) (Rel:World→World→Prop) (m:Nat) (V:(Nat→Value)→List VP) (x:Nat→Value):Nat→Nat→Act→Prop
 | 0,j,a=>∀ w,S w→(∀ i∈endR C m,((V x).getD i VAny).p (x i) w)→wpAny P .any ops Q (ops.size-j) (yx ops.size j) a w
 | r+1,j,a=>(∀ w,S w→(∀ i∈zW R C m j,((V x).getD i VAny).p (x i) w) →
  wpOp P ops NoWay j (fun a' w'=>∃ v,(∀ d,yg ops j=some d→a'.tmps[d]? = some v)∧a'.defers=a.defers∧((V x).getD j VAny).p v w'∧StepR C Rel j w w') a w) ∧
  ObsS P ops Q S R C Rel m V x r (j+1) (a.put (yg ops j) (x j))
theorem yct {S:World→Prop} {R C:List (List Nat)} {Rel:World→World→Prop} {m:Nat} {V:(Nat→Value)→List VP} {x:Nat→Value} {a0:Act}:∀ (r j:Nat),ObsS P ops Q S R C Rel m V x r j (putS ops x a0 j) →
 (∀ k,j≤k→k<j+r→ObS P ops S R C Rel m V x a0 k) ∧ ∀ w,S w→(∀ i∈endR C m,((V x).getD i VAny).p (x i) w)→wpAny P .any ops Q (ops.size-(j+r)) (yx ops.size (j+r)) (putS ops x a0 (j+r)) w:=by
 intro r
 induction r with
 | zero=>intro j h;exact⟨fun k h1 h2=>by omega,h⟩
 | succ r ih=>
  intro j h
  obtain⟨h1,h2⟩:=h
  have h2':ObsS P ops Q S R C Rel m V x r (j+1) (putS ops x a0 (j+1)):=h2
  obtain⟨h3,h4⟩:=ih (j+1) h2'
  refine⟨fun k hk1 hk2=>?_,by rw[show j+(r+1)=j+1+r by omega];exact h4⟩
  by_cases hk:k=j
  ·subst hk
   intro w hS hV
   have h:=h1 w hS hV
   rw[show (putS ops x a0 k).defers=a0.defers from (xr _ _ _ _).2]at h
   exact h
  ·exact h3 k (by omega) (by omega)
theorem xy {id:Nat} (m:Nat) (Rel:World→World→Prop) (R C:List (List Nat)) (V:(Nat→Value)→List VP) (S:World→Prop) {a0:Act} {w:World} (hm:P.follows .mixedOrders=true) (hok:xU ops m a0.tmps.size R=true)
 (hdep:∀ x x' j,(∀ i∈R.getD j [],x i=x' i)→(V x).getD j VAny=(V x').getD j VAny) (hweak:∀ i,i<m→(C.getD i []).isEmpty=false → ∀ k,k<m→k≠i→i ∉ R.getD k []→k ∉ C.getD i [] → ∀ x v w w',((V x).getD k VAny).p v w→Rel w w'→((V x).getD k VAny).p v w') (hSt:∀ j w w',S w→StepR C Rel j w w'→S w') (hS0:S w.drew) (h:∀ x,ObsS P ops Q S R C Rel m V x m 0 a0):(Code.region id ops true).wp P Q a0 w:=
 yiF (m:=m) (Rel:=Rel) R C V S hm hok hdep hweak hS0 hSt (fun x j hj=>(yct m 0 (h x)).1 j (by omega) (by omega)) (fun x w' hS hV=>by
  have:=(yct m 0 (h x)).2 w' hS (hV)
  rwa [Nat.zero_add]at this)
theorem yd {S:World→Prop} {R C:List (List Nat)} {Rel:World→World→Prop} {m:Nat} {V:(Nat→Value)→List VP} {x:Nat→Value} {r j:Nat} {a:Act} {o:Oper} {d:Tmp} (ho:ops[j]? = some o) (hd:o.dst=some d)
 (h:∀ w,S w→(∀ i∈zW R C m j,((V x).getD i VAny).p (x i) w) → ∀ K:Act→World→Prop,Shut (∀ a' w' v,a'.tmps[d]? = some v→a'.defers=a.defers→((V x).getD j VAny).p v w'→StepR C Rel j w w'→K a' w') →
  if Region.wanted o (yielded ops a.tmps)=true then Oper.wp P o a w K NoWay else K (a.put o.dst undef) w)
 (hr:ObsS P ops Q S R C Rel m V x r (j+1) { a with tmps:=a.tmps.setIfInBounds d (x j) }):ObsS P ops Q S R C Rel m V x (r+1) j a:=by
 have hdst:yg ops j=some d:=by simp[yg,ho,hd]
 refine⟨fun w hS hV=>wpOp_step ho (fun K hK=>?_),by rw[hdst];exact hr⟩
 exact h w hS hV K (fun a' w' v h1 h2 h3 h4=>hK a' w' ⟨v,fun d' hd'=>by rw[hdst]at hd';injection hd' with hd';exact hd'▸h1,h2,h3,h4⟩)
theorem xp {S:World→Prop} {R C:List (List Nat)} {Rel:World→World→Prop} {m:Nat} {V:(Nat→Value)→List VP} {x:Nat→Value} {r j:Nat} {a:Act} {o:Oper} (ho:ops[j]? = some o) (hd:o.dst=none)
 (h:∀ w,S w→(∀ i∈zW R C m j,((V x).getD i VAny).p (x i) w) → ∀ K:Act→World→Prop,Shut (∀ a' w',a'.defers=a.defers→((V x).getD j VAny).p undef w'→StepR C Rel j w w'→K a' w') →
  if Region.wanted o (yielded ops a.tmps)=true then Oper.wp P o a w K NoWay else K (a.put o.dst undef) w)
 (hr:ObsS P ops Q S R C Rel m V x r (j+1) a):ObsS P ops Q S R C Rel m V x (r+1) j a:=by
 have hdst:yg ops j=none:=by simp[yg,ho,hd]
 refine⟨fun w hS hV=>wpOp_step ho (fun K hK=>?_),by rw[hdst];exact hr⟩
 exact h w hS hV K (fun a' w' h2 hv h4=>hK a' w' ⟨undef,fun d' hd'=>absurd (hdst.symm.trans hd') (by simp),h2,hv,h4⟩)
end
def VBk (g:Nat) (t:TypeId) (cs:Array Value):VP:=⟨fun _ w=>Blk w g t cs,fun _ _ _ h hb=>h.below hb h.lt⟩
section
variable {w w':World} {g res:Nat}
end
section
variable {w0 w w':World} {E:TypeId} {A:Option Addr} {n c:Nat} {us:List Value}
theorem Mk.grown_below (h:Mk w0 w E A n c us) (hg:w.grownBy w' (Value.slice A n c).ownBlock):Below w0.heap.size w w':=
 zG.grown hg h.1.size (fun k hk=>(h.2.lt k hk).1)
theorem Rd.behind {k:Nat} (h:Rd w A n us) (hk:k<n):∃ g o,A=some ⟨g,o,none⟩∧Rd w (some ⟨g,o+k,none⟩) (n-k) (us.drop k):=by
 obtain⟨g,o,e,hc⟩:=h.2 (by omega)
 refine⟨g,o,e,by rw[List.length_drop,h.1],fun _=>⟨g,o+k,rfl,fun j u hu=>?_⟩⟩
 rw[List.getElem?_drop]at hu
 rw[Nat.add_assoc]
 exact hc _ _ hu
end
theorem vc (xs:List Int) (k:Nat):(ints xs).drop k=ints (xs.drop k):=by unfold ints;rw[List.map_drop]
theorem uh {g o c m k:Nat} (w:World) (hk:k≤m) (hc:k<c):(Instr.slice 24 (.slice (some ⟨g,o,none⟩) m c) (some (.int .i64 (k:Int))) none none).run Tryz.prog w=.ok (.slice (some ⟨g,o+k,none⟩) (m-k) (c-k)) w:=by
 have h:=run_slice_l (P:=Tryz.prog) (w:=w) (t:=24) (a:=some ⟨g,o,none⟩) (len:=m) (cap:=c) (ht:=by kernel_rfl) (kl:=.i64) (l:=(k:Int)) (h0:=by omega) (h1:=by omega)
 have hne:c≠k:=by omega
 rw[h]
 simp[go_sem,sliced,hne,Addr.add]
theorem ydi {o:Oper} {a:Act} {K:Act→World→Prop} {Q:Exit→Act→World→Prop} (w0 wr:World)
 (s x:Operand) (ho:o.op=.call { callee:=.builtin .append,args:=#[s,x],argTypes:=#[24,24] })
 (A:Option Addr) (n c:Nat) (xs:List Int) (B:Option Addr) (m d:Nat) (ys:List Int) (hM:MkI w0 wr A n c xs) (hY:Rd wr B m (ints ys)) (h0:0<m) (hn:n≤65536) (hm:m≤65536)
 (hs:a.eval s=.slice A n c) (hx:a.eval x=.slice B m d)
 (h:∀ A' c' w',MkI w0 w' A' (n+m) c' (xs++ys)→wr.grownBy w' (Value.slice A n c).ownBlock→K (a.put o.dst (.slice A' (n+m) c')) w'):o.wp Tryz.prog a wr K Q:=by
 obtain⟨i,hi,h1,h2,h3⟩:=info_parts yo
 obtain⟨b1,b2⟩:=xh (show n+m≤1099511627776 by omega)
 have hyl:ys.length=m:=by have:=hY.1;rwa [yD]at this
 obtain⟨g,o',rfl,hc⟩:=hY.2 h0
 obtain⟨v',w',hr,hown,hg,_,_⟩:=run_append_own_at (P:=Tryz.prog) wr w0.heap.size 24 o.type 2 i _ 1 8 Tryz.underlying24 hi h1 h2 h3 rfl (by omega) (.slice A n c) n (ints xs) hM.2 ⟨g,o',none⟩ m d (ints ys) (by rw[yD,hyl,Nat.mul_one]) (fun j u hu=>by rw[Addr.add_lit];exact hc j u hu) (by intro u hu;obtain⟨y,_,rfl⟩:=List.mem_map.1 hu;rfl) (by simp only[maxLen];omega) (by have:=b2 8 (by omega);omega) hM.1.size
 unfold Oper.wp execOp
 simp only[ho,resolve,invoke,builtin,Sem.run_bind,Sem.run_pure,Result.andThen_ok,List.map_toArray,List.map_cons,List.map_nil,hs,hx,hr]
 have hb':Below w0.heap.size w0 w':=hM.1.grown hg hM.1.size (fun k hk=>(hM.2.lt k hk).1)
 have e:ints xs++ints ys=ints (xs++ys):=by unfold ints;rw[List.map_append]
 rw[e]at hown
 rcases hown.2 with ⟨_,h0⟩ | ⟨g,cap,cur,rfl,hr⟩
 ·omega
 ·exact h _ _ _ ⟨hb',hown⟩ hg
theorem ycd {C:List (List Nat)} {j b B:Nat} {w:World} (h:b<B) (hB:B≤w.heap.size):b<lim C B j w:=Nat.lt_of_lt_of_le h (ycc hB)
def yE (p:Int) (xs:List Int):List Int:=(yl p xs (-1)).set 0 (xs.getD 0 0)
set_option maxHeartbeats 400000 in
set_option maxRecDepth 8000 in
theorem ju (p:Int) (X:Option Addr) (n c:Nat) (xs:List Int) (w:World) (hp:2≤p) (hp2:p≤13) (hn:n≤65536) (h0:0<n) (hx:Rd w X n (ints xs)) (hxs:NumsL p xs) :
 Calls Tryz.prog 159 #[.int .i64 p,.slice X n c] w fun e w'=>∃ A' c',e=.returned (.slice A' n c')∧MkI w w' A' n c' (yE p xs):=by
 obtain⟨gx,ox,rfl,hxk,hcx⟩:=hx.int h0
 rw[Nat.add_zero]at hcx
 have HS1:=Lib.hid (yap p (some ⟨gx,ox,none⟩) n c (-1) xs w hp hp2 hn hx hxs (by omega) (by omega))
 have HE:Hid (xs[0]=xs.getD 0 0):=Lib.hid (by rw[List.getD_eq_getElem?_getD,List.getElem?_eq_getElem hxk];rfl)
 have hlt:=World.block_lt_of_cell? _ _ hcx
 go_enter Tryz.func159,Tryz.ntmps159
 go_wp2_with fail
 refine HS1.out.mono ?_
 rintro e w1 ⟨G,c1,rfl,hM⟩
 have hcx1:=(hM.b.cell hlt).trans hcx
 rcases hM.2.form with ⟨_,hz⟩ | ⟨g,rfl,hg,_⟩
 ·omega
 ·obtain⟨u1,hc1⟩:=hM.2.cellI h0
  have hf1:=hM.2.frozen_ 0
  have hset:=(hM.set 0 (.int .i64 xs[0])).1
  rw[yN,HE.out]at hset
  have HS:=Lib.hid hset
  clear hM hset
  go_wp2
  go_ret
  exact⟨_,_,rfl,by rw[HE.out];exact HS.out⟩
theorem jt (p:Int) (xs:List Int):(yE p xs).length=xs.length:=by unfold yE;rw[List.length_set,zR]
theorem uw {p:Int} (hp:0<p) {xs:List Int} (h:NumsL p xs):NumsL p (yE p xs):=fun v hv=>by
 rcases List.mem_or_eq_of_mem_set hv with h1 | rfl
 ·exact zU hp _ _ _ h1
 ·cases xs with
  | nil=>simp;omega
  | cons a r=>simpa using h a (by simp)
def dblL (p:Int):Nat→List Int→List Int→List Int→List Int
 | 0,_,x,y=>[(x.getD 0 0*y.getD 0 0)%p]
 | k+1,st,x,y=>
  yp p (dblL p k (st.take k) (x.take (pw k)) (y.take (pw k))) (dblL p k (st.take k) (yE p (y.drop (pw k))) (x.drop (pw k))) (st.getD k 0) ++
  yp p (dblL p k (st.take k) (y.drop (pw k)) (x.take (pw k))) (dblL p k (st.take k) (x.drop (pw k)) (yE p (y.take (pw k)))) 1
theorem zu (p:Int):∀ (k:Nat) (st x y:List Int),(dblL p k st x y).length=pw k:=by
 intro k
 induction k with
 | zero=>intro st x y;rfl
 | succ k ih=>
  intro st x y
  show (_++_:List Int).length=_
  rw[List.length_append,yP,yP,ih,ih,vd]
  omega
theorem yT {p:Int} (hp:0<p):∀ (k:Nat) (st x y:List Int),NumsL p (dblL p k st x y):=by
 intro k
 cases k with
 | zero=>
  intro st x y v hv
  obtain rfl:v=(x.getD 0 0*y.getD 0 0)%p:=by simpa [dblL] using hv
  exact⟨Int.emod_nonneg _ (by omega),Int.emod_lt_of_pos _ hp⟩
 | succ k=>
  intro st x y v hv
  rcases List.mem_append.1 (show v∈_++_ from hv) with h | h
  ·exact xK hp _ _ _ v h
  ·exact xK hp _ _ _ v h
theorem ug {g o c m k:Nat} (w:World) (hk:k≤c) (hc:0<c):(Instr.slice 24 (.slice (some ⟨g,o,none⟩) m c) none (some (.int .i64 (k:Int))) none).run Tryz.prog w=.ok (.slice (some ⟨g,o,none⟩) k c) w:=by
 have h:=run_slice_h (P:=Tryz.prog) (w:=w) (t:=24) (a:=some ⟨g,o,none⟩) (len:=m) (cap:=c) (ht:=by kernel_rfl) (kh:=.i64) (h:=(k:Int)) (h0:=by omega) (h2:=by omega)
 have hne:c≠0:=by omega
 rw[h]
 simp[go_sem,sliced,hne,Addr.add]
def MkO (w0 w:World) (A:Option Addr) (n c:Nat) (xss:List (List Int)):Prop:=∃ rows,Mk w0 w 24 A n c rows∧rows.length=xss.length ∧
 ∀ (k:Nat) (h:k<xss.length),∃ A' c',rows[k]? = some (.slice A' xss[k].length c')∧Own w 0 2 A' xss[k].length c' (ints xss[k])
theorem MkII.o {w0 w:World} {A:Option Addr} {n c:Nat} {xss:List (List Int)} (h:MkII w0 w A n c xss):MkO w0 w A n c xss:=by
 obtain⟨rows,hm,hn⟩:=h
 exact⟨rows,hm,hn.len,fun k hk=>by obtain⟨A',c',e,ho⟩:=hn.row k hk;exact⟨A',c',e,ho.base (Nat.zero_le _)⟩⟩
theorem MkO.rd {w0 w:World} {A:Option Addr} {n c:Nat} {xss:List (List Int)} (h:MkO w0 w A n c xss):RdII w A n xss:=by
 obtain⟨rows,hm,hl,hk⟩:=h
 exact⟨rows,hm.rd,hl,fun k hlt=>by obtain⟨A',c',e,ho⟩:=hk k hlt;exact⟨A',c',e,ho.rd,ho.cap⟩⟩
theorem MkO.b {w0 w:World} {A:Option Addr} {n c:Nat} {xss:List (List Int)} (h:MkO w0 w A n c xss):Below w0.heap.size w0 w:=by
 obtain⟨_,hm,_⟩:=h;exact hm.1
theorem MkO.below {w0 w w':World} {A:Option Addr} {n c:Nat} {xss:List (List Int)} (h:MkO w0 w A n c xss) (hb:Below w.heap.size w w'):MkO w0 w' A n c xss:=by
 obtain⟨rows,hm,hl,hk⟩:=h
 exact⟨rows,hm.below hb,hl,fun k hlt=>by obtain⟨A',c',e,ho⟩:=hk k hlt;exact⟨A',c',e,ho.below hb⟩⟩
theorem MkO.after {w0 w1 w:World} {A:Option Addr} {n c:Nat} {xss:List (List Int)} (h:MkO w1 w A n c xss) (hb:Below w0.heap.size w0 w1):MkO w0 w A n c xss:=by
 obtain⟨rows,hm,hl,hk⟩:=h
 exact⟨rows,hm.after hb,hl,hk⟩
theorem ydg {ops:Array Oper} {rest:List Oper} {o:Oper} {a:Act} {Q:Exit→Act→World→Prop} (w0 w1:World)
 (hgd:o.guard=none) (s x:Operand) (ho:o.op=.call { callee:=.builtin .append,args:=#[s,x],argTypes:=#[32,32] })
 (A:Option Addr) (n c:Nat) (xss:List (List Int)) (A1:Option Addr) (m c1:Nat) (xs:List Int) (hM:MkO w0 w1 A n c xss) (hr:Own w1 0 2 A1 m c1 (ints xs)) (hn:n≤1099511627776)
 (hs:a.eval s=.slice A n c) (hx:a.eval x=.slice (some ⟨w1.heap.size,0,none⟩) 1 1)
 (h:∀ A' c' w',MkO w0 w' A' (n+1) c' (xss++[xs])→w1.grownBy w' (Value.slice A n c).ownBlock→(∃ g,A'=some ⟨g,0,none⟩∧((Value.slice A n c).ownBlock=some g∨w1.heap.size≤g))→wpList Tryz.prog ops Q rest (a.put o.dst (.slice A' (n+1) c')) w') :
 wpList Tryz.prog ops Q (o::rest) a (w1.alloc (.cells #[.slice A1 m c1] 24)):=by
 obtain⟨rows,hm,hl,hrow⟩:=hM
 have hml:xs.length=m:=by have:=hr.len;rwa [yD]at this
 subst hml
 refine yt w0 w1 32 24 (.slice none 0 0) 24 Tryz.underlying32 zy rfl (by omega) hgd s x ho A n c rows (.slice A1 xs.length c1) hm hn rfl hs hx ?_
 intro A' c' w' hM' hg hat
 refine h A' c' w' ⟨_,hM',by simp[hl],fun k hk=>?_⟩ hg hat
 by_cases hlt:k<xss.length
 ·obtain⟨A2,c2,e,ho2⟩:=hrow k hlt
  simp only[List.getElem_append_left hlt]
  exact⟨A2,c2,by rw[List.getElem?_append_left (by omega)];exact e,ho2.grown hg (ho2.ne hm.2 (by decide))⟩
 ·have hk':k=xss.length:=by simp at hk;omega
  subst hk'
  simp only[List.getElem_append_right (Nat.le_refl _),Nat.sub_self,List.getElem_cons_zero]
  exact⟨A1,c1,by rw[List.getElem?_append_right (by omega),hl,Nat.sub_self];rfl,hr.grown hg (hr.ne hm.2 (by decide))⟩
set_option maxHeartbeats 1600000 in
set_option maxRecDepth 8000 in
theorem yeH (p:Int) (hp:2≤p) (hp2:p≤13) (A:Option Addr) (c:Nat) (X:Option Addr) (cx:Nat) (xs:List Int) (Y:Option Addr) (cy:Nat) (ys:List Int) (w:World) (hx:Rd w X 1 (ints xs)) (hxs:NumsL p xs) (hy:Rd w Y 1 (ints ys)) (hys:NumsL p ys) :
 Calls Tryz.prog 148 #[.int .i64 p,.slice A 0 c,.slice X 1 cx,.slice Y 1 cy] w fun e w'=>∃ A' c',e=.returned (.slice A' 1 c')∧MkI w w' A' 1 c' [(xs.getD 0 0*ys.getD 0 0)%p]:=by
 obtain⟨gx,ox,rfl,hxk,hcx⟩:=hx.int (show 0<1 by omega)
 obtain⟨gy,oy,rfl,hyk,hcy⟩:=hy.int (show 0<1 by omega)
 rw[Nat.add_zero]at hcx hcy
 have b1:=hxs _ (List.getElem_mem hxk)
 have b2:=hys _ (List.getElem_mem hyk)
 have e1:xs.getD 0 0=xs[0]:=by rw[List.getD_eq_getElem?_getD,List.getElem?_eq_getElem hxk];rfl
 have e2:ys.getD 0 0=ys[0]:=by rw[List.getD_eq_getElem?_getD,List.getElem?_eq_getElem hyk];rfl
 rw[e1,e2]
 obtain⟨x0,hx0⟩:∃ z,z=xs[0]:=⟨_,rfl⟩
 obtain⟨y0,hy0⟩:∃ z,z=ys[0]:=⟨_,rfl⟩
 rw[← hx0]at hcx b1 ⊢
 rw[← hy0]at hcy b2 ⊢
 have hm1:0≤x0*y0:=Int.mul_nonneg b1.1 b2.1
 have hm2:x0*y0≤13*13:=Int.mul_le_mul (by omega) (by omega) b2.1 (by omega)
 have HB:-1000000000000≤x0*y0∧x0*y0≤1000000000000:=by omega
 have hwr:IntKind.i64.wrap (x0*y0)=x0*y0:=yi _ HB.1 HB.2
 clear e1 e2 hx0 hy0 hx hy hm1 hm2 b1 b2
 go_enter Tryz.func148,Tryz.ntmps148
 go_wp2
 refine yh 11 [[],[],[1],[1,2],[],[4],[4,5],[1,2,3,4,5,6],[0,1,2,3,4,5,6,7],[0,1,2,3,4,5,6,7,8],[0,1,2,3,4,5,6,7,8,9]] [VIs (.int .i64 (p)),VIs (.slice (some ⟨gx,ox,none⟩) 1 cx),VIs (.pointer (some ⟨gx,ox,none⟩)),VIs (.int .i64 (x0)),VIs (.slice (some ⟨gy,oy,none⟩) 1 cy),VIs (.pointer (some ⟨gy,oy,none⟩)),VIs (.int .i64 (y0)),VIs (.int .i64 (x0*y0)),VIs (.int .i64 ((x0*y0)%p)),VSl w 1 [(x0*y0)%p],VSl w 1 [(x0*y0)%p]] (fun w'=>w'.cell? ⟨gx,ox,none⟩=some (.int .i64 x0)∧w'.cell? ⟨gy,oy,none⟩=some (.int .i64 y0)∧Below w.heap.size w w') (by kernel_rfl) (by kernel_rfl) (fun _ _ h hb=>⟨(hb.cell (World.block_lt_of_cell? _ _ h.1)).trans h.1,(hb.cell (World.block_lt_of_cell? _ _ h.2.1)).trans h.2.1,h.2.2.trans (hb.mono h.2.2.size)⟩) (⟨hcx,hcy,zG.drew⟩) (fun x=>?_)
 refine zS (fun w' hS hV K hK=>?_) ?_
 ·have q0:=hS.1;have q1:=hS.2.1;go_simp;exact zO hK
 refine zS (fun w' hS hV K hK=>?_) ?_
 ·have q0:=hS.1;have q1:=hS.2.1;go_simp;exact zO hK
 refine zS (fun w' hS hV K hK=>?_) ?_
 ·have e1:=zQ hV 1;have q0:=hS.1;have q1:=hS.2.1;go_simp;exact zO hK
 refine zS (fun w' hS hV K hK=>?_) ?_
 ·have e2:=zQ hV 2;have q0:=hS.1;have q1:=hS.2.1;go_simp;exact zO hK
 refine zS (fun w' hS hV K hK=>?_) ?_
 ·have q0:=hS.1;have q1:=hS.2.1;go_simp;exact zO hK
 refine zS (fun w' hS hV K hK=>?_) ?_
 ·have e4:=zQ hV 4;have q0:=hS.1;have q1:=hS.2.1;go_simp;exact zO hK
 refine zS (fun w' hS hV K hK=>?_) ?_
 ·have e5:=zQ hV 5;have q0:=hS.1;have q1:=hS.2.1;go_simp;exact zO hK
 refine zS (fun w' hS hV K hK=>?_) ?_
 ·have e3:=zQ hV 3;have e6:=zQ hV 6;have q0:=hS.1;have q1:=hS.2.1;go_simp;exact zO hK
 refine zS (fun w' hS hV K hK=>?_) ?_
 ·have e0:=zQ hV 0;have e7:=zQ hV 7;have q0:=hS.1;have q1:=hS.2.1;go_simp;refine (zN p (x0*y0) w' (by omega) hp2 HB.1 HB.2).mono ?_;rintro e w1 ⟨rfl,rfl⟩;exact zO hK
 refine zS (fun w' hS hV K hK=>?_) ?_
 ·have e8:=zQ hV 8;have q0:=hS.1;have q1:=hS.2.1;go_simp;exact hK.out _ _ _ rfl rfl ⟨_,_,rfl,by have:=Mk.lit (E:=2) hS.2.2 #[.int .i64 ((x0*y0)%p)] (by simp[maxLen]);simpa [MkI,ints] using this⟩ (zG.alloc (Nat.le_refl _) _)
 refine zS (fun w' hS hV K hK=>?_) ?_
 ·obtain⟨A9,c9,e9,h9⟩:=hV 9 (by decide);have q0:=hS.1;have q1:=hS.2.1;go_simp;exact hK.out _ _ _ rfl rfl ⟨_,_,rfl,h9⟩ zG
 refine fun w' hS hV=>?_
 have e0:=zT hV 0
 have e1:=zT hV 1
 have e2:=zT hV 2
 have e3:=zT hV 3
 have e4:=zT hV 4
 have e5:=zT hV 5
 have e6:=zT hV 6
 have e7:=zT hV 7
 have e8:=zT hV 8
 obtain⟨A9,c9,e9,h9⟩:=hV 9 (by decide)
 obtain⟨A10,c10,e10,h10⟩:=hV 10 (by decide)
 simp only[e0,e1,e2,e3,e4,e5,e6,e7,e8,e9,e10]
 clear e0 e1 e2 e3 e4 e5 e6 e7 e8 e9 e10
 refine wpAny_done (by kernel_rfl) ?_ _
 go_wp2
 go_ret
 exact⟨_,_,rfl,h10⟩
def u4 (p:Int) (k:Nat):Prop:=∀ (A:Option Addr) (c:Nat) (st:List Int) (X:Option Addr) (cx:Nat) (xs:List Int) (Y:Option Addr) (cy:Nat) (ys:List Int) (w:World),k≤c→pw k≤cx→pw k≤cy →
 Rd w A k (ints st)→NumsL p st→Rd w X (pw k) (ints xs)→NumsL p xs→Rd w Y (pw k) (ints ys)→NumsL p ys →
 Calls Tryz.prog 148 #[.int .i64 p,.slice A k c,.slice X (pw k) cx,.slice Y (pw k) cy] w fun e w'=>∃ A' c',e=.returned (.slice A' (pw k) c')∧MkI w w' A' (pw k) c' (dblL p k st xs ys)
end Go.Proofs.YtaiegpggccdgoaaGreat

/-
  FnCompleteTriples: for every list of bytes the law returns true. No condition.
-/
import Derived.Test.YtaiegpggccdgoaaGreatK18
namespace Go.Proofs.YtaiegpggccdgoaaGreat
open Go.ChangeShapes Go.WideShapes Go.ChangeAt Go.RowKit
namespace fnCompleteTriples
theorem own:ownKnob Tryz.prog.godebug=none:=by kernel_rfl
set_option maxRecDepth 100000 in
theorem yf8 (os:Os) (started:os.Started) (H:Type) (enc:TypeId × Value→H) :
 ReturnsInHanded {} Tryz.checked os 5 .any (Rows.fnCompleteTriplesSpec.pre6 enc Tryz.prog Tryz.f5 Rows.fnCompleteTriplesRow.domain false) (Rows.fnCompleteTriplesSpec.post enc Tryz.prog Tryz.f5 false true false false):=by
 refine returnsInHanded_of_change (C:=Tryz.checked) own started (by kernel_rfl) Tryz.func5
  (ChangeSpec.witness6 (enc:=enc) (C:=Tryz.checked) false ⟨#[],#[.slice none 0 0],[]⟩ 8 (by kernel_rfl) (by kernel_rfl) (by kernel_rfl) (by kernel_rfl)) ?_
 intro W base args ds gs before hval0 hW hcnd _
 have hval:∀ (j:Nat) t v,Tryz.f5.params[j]? = some t→args[j]? = some v→Value.okWide Tryz.prog W .any base t v:=hval0
 have hW':=hW
 obtain⟨p,q,hA0,hV,rfl,hfz,hnd⟩:=hW
 have hA:DataW.TrodAll enc Tryz.prog W 0 (fun _=>true) true Tryz.f5.params.toList args.toList ds p:=hA0
 rw[Tryz.params5]at hA hval
 obtain⟨v0,d0,rfl,rfl,h0⟩:=trodAll_one hA
 obtain⟨rfl,rfl⟩:=trodVars_none hV
 have hv0:=hval 0 22 v0 rfl rfl
 obtain⟨B,nb,cb,rfl⟩:=okWide_slice Tryz.underlying22 hv0
 have hbg:=ygx Tryz.underlying22 hv0
 clear hA0 hval0
 simp only[List.append_nil]at hW'
 obtain⟨fuel0,hf0⟩:=id h0
 obtain⟨B',nb',cb',bs,e1,hnc,hr,hbs⟩:=ygy hf0
 obtain⟨rfl,rfl,rfl⟩:B=B'∧nb=nb'∧cb=cb':=by simpa [Value.cells] using e1
 refine (ydr B nb cb bs W hr hbs hbg).mono fun e' W' ⟨he,hg⟩=>?_
 subst he
 exact⟨_,rfl,ygH (pa:=p) (pv:=[]) hW' (fun _ _ _=>(trodAll_cons_mk (shut_bool Tryz.underlying4 _) trodAll_mk0))
  (fun sp hs=>trodAll_mk1 (WideElems.Trod_stays (by kernel_rfl) (by kernel_rfl) (of_decide_eq_true (by kernel_rfl)) h0 (fun x hx=>hg.same (hW'.lt x (by simp[hx]))) (fun x hx=>hs x (by simp[hx])))) (fun _ _=>rfl) (by simp) hg
  (ok_one (by kernel_rfl) rfl (okWide_bool_mk Tryz.underlying4 _))⟩
set_option maxRecDepth 100000 in
theorem k1:(Rows.fnCompleteTriplesRow.inPlace == Tryz.prog.inPlace 5)=true:=by kernel_rfl
set_option maxRecDepth 100000 in
theorem k2:(Rows.fnCompleteTriplesRow.unfollowed == Tryz.prog.unfollowed 5)=true:=by kernel_rfl
set_option maxRecDepth 100000 in
theorem k3:(Rows.fnCompleteTriplesRow.recurses == Tryz.prog.recurses 5)=true:=by kernel_rfl
set_option maxRecDepth 100000 in
theorem k4:(Rows.fnCompleteTriplesRow.named == Tryz.prog.varsNamed 5)=true:=by kernel_rfl
set_option maxRecDepth 100000 in
theorem yec:joinedFacts Tryz.prog 5 Tryz.f5 Rows.fnCompleteTriplesSpec Rows.fnCompleteTriplesRow=true:=by
 unfold joinedFacts
 rw[k1,k2,k3,k4]
 kernel_rfl
theorem over:Rows.fnCompleteTriplesRow.holds Tryz.pinned (OpenSpec.ofChange Rows.fnCompleteTriplesSpec):=
 OpenClaim.holds_of_wide 5 Tryz.f5 rfl rfl rfl rfl rfl rfl rfl ⟨rfl,rfl,rfl,rfl,rfl⟩ rfl rfl rfl rfl rfl (by kernel_rfl) Tryz.func5 yec
  (of_decide_eq_true (by kernel_rfl)) (by unfold Func.isWrapper;first | (rw[if_pos (by decide +kernel)];kernel_rfl) | (rw[if_neg (by decide +kernel)];exact⟨rfl,rfl⟩))
  (fun os started H enc _=>yf8 os started H enc)
theorem proved:Rows.FnCompleteTriplesSaid:=over
#print axioms proved
end fnCompleteTriples
end Go.Proofs.YtaiegpggccdgoaaGreat

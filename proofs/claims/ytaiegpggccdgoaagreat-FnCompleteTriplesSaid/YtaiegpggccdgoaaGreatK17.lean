/-
  LawFnCompleteTriples: part 17 of the texts that the proof needs. No condition.
-/
import Derived.Test.YtaiegpggccdgoaaGreatK16
namespace Go.Proofs.YtaiegpggccdgoaaGreat
open Go Go.RowKit
def ydq (w:World) (e:Ending) (w':World):Prop:=∃ (P:Int) (A:Option Addr) (n c:Nat) (st:List Int) (X:Option Addr) (m cx:Nat) (M:List (List Int)),e=.returned (.tuple #[.agg #[.int .i64 P,.slice A n c],.slice X m cx])∧(0≤P∧P≤17)∧n≤5∧m≤16∧m≤cx∧Own w' w.heap.size 2 A n c (ints st)∧RdII w' X m M∧(∀ r∈M,r.length≤16)∧Below w.heap.size w w'
def VSkD (B:Nat):VP:=⟨fun v w=>∃ (A:Option Addr) (m c:Nat) (M:List (List Int)),v=.slice A m c∧m≤16∧m≤c∧(∀ r∈M,r.length≤16)∧RdN w B A m M,fun _ _ _ ⟨A,m,c,M,e,h1,h2,h3,h⟩ hb=>⟨A,m,c,M,e,h1,h2,h3,h.below hb⟩⟩
theorem RdN.dr {w w':World} {g B:Nat} {T:TypeId} {A:Option Addr} {n:Nat} {M:List (List Int)} (h:RdN w B A n M) (d:Dr g T w w') (hg:g<B):RdN w' B A n M:=fun w2 h2=>h w2 fun b h1 h3=>(h2 b h1 (Nat.lt_of_lt_of_le h3 d.size)).trans (d.k b h3 (by omega))
theorem RdN.relD {w w':World} {res B:Nat} {A:Option Addr} {n:Nat} {M:List (List Int)} (h:RdN w B A n M) (hr:res<B) (r:RelD res w w'):RdN w' B A n M:=by
 obtain⟨p,A1,n1,c1,p',A',n',c',k,rfl⟩:=r
 exact (h.setLow hr 0 _).setLow hr 1 _
def RelE (res:Nat) (P:Int) (A:Option Addr) (n c:Nat) (w w':World):Prop:=∃ (p1:Int) (A1:Option Addr) (n1 c1:Nat),Blk w res 26 #[.int .i64 p1,.slice A1 n1 c1]∧w'=(w.setCell ⟨res,0,none⟩ (.int .i64 P)).setCell ⟨res,1,none⟩ (.slice A n c)
theorem RelE.relD {w w':World} {res:Nat} {P:Int} {A:Option Addr} {n c:Nat} (h:RelE res P A n c w w'):RelD res w w':=by
 obtain⟨p1,A1,n1,c1,k,e⟩:=h
 exact⟨p1,A1,n1,c1,P,A,n,c,k,e⟩
theorem VBk.step_ {g res:Nat} {T:TypeId} {P:Int} {A:Option Addr} {n c:Nat} {v:Value} {w w':World} (hT:26≠T) (h:(VBk res 26 #[.int .i64 P,.slice A n c]).p v w) (d:Dr g T w w'∨RelE res P A n c w w'):(VBk res 26 #[.int .i64 P,.slice A n c]).p v w':=by
 rcases d with d | ⟨p1,A1,n1,c1,k,rfl⟩
 ·exact Blk.dr h d hT
 ·exact k.storedD
theorem VSkD.step {B g res:Nat} {P:Int} {A0:Option Addr} {n0 c0:Nat} {T:TypeId} {v:Value} {w w':World} (hg:g<B) (hr:res<B) (h:(VSkD B).p v w) (d:Dr g T w w'∨RelE res P A0 n0 c0 w w'):(VSkD B).p v w':=by
 obtain⟨A,m,c,M,e,h1,h2,h3,h⟩:=h
 rcases d with d | d
 ·exact⟨A,m,c,M,e,h1,h2,h3,h.dr d hg⟩
 ·exact⟨A,m,c,M,e,h1,h2,h3,h.relD hr d.relD⟩
theorem ve {w w':World} {res:Nat} (r:RelD res w w'):w'.heap.size=w.heap.size:=by
 obtain⟨p,A1,n1,c1,p',A',n',c',k,rfl⟩:=r
 simp[World.setCell]
theorem SBd.dr_ {w w':World} {res g:Nat} {T:TypeId} (h:SBd res w) (d:Dr g T w w') (hne:26≠T):SBd res w':=by obtain⟨p,A,n,c,k⟩:=h;exact⟨p,A,n,c,k.dr d hne⟩
theorem Src.relDg {w w':World} {g res:Nat} (h:Src w g 124) (r:RelD res w w'):Src w' g 124:=by
 have hsz:=ve r
 have hlt:=h.lt
 obtain⟨p,A1,n1,c1,p',A',n',c',k,rfl⟩:=r
 obtain⟨B,nb,cb,bs,pl,x,kg,r,h1,h2,h3,h4⟩:=h
 have hgr:g≠res:=fun e=>by
  subst e
  have e1:=Option.some.inj (kg.symm.trans k)
  injection e1 with e1 e2
  exact absurd e2 (by decide)
 have k1:=kg.far (p:=⟨res,0,none⟩) (by simpa using hgr) (.int .i64 p')
 have k2:=k1.far (p:=⟨res,1,none⟩) (by simpa using hgr) (.slice A' n' c')
 refine⟨B,nb,cb,bs,pl,x,k2,⟨r.1,fun hn0=>?_⟩,h1,h2,h3,h4⟩
 obtain⟨gb,ob,e,hc⟩:=r.2 hn0
 refine⟨gb,ob,e,fun j u hu=>?_⟩
 have hne:gb≠res:=by
  intro e2
  subst e2
  have h0:=hc j u hu
  obtain⟨b, -,rfl⟩:=List.mem_map.1 (List.mem_of_getElem? hu)
  rw[k.cell]at h0
  rcases hj:ob+j with _ | _ | i
  ·rw[hj]at h0;simp at h0
  ·rw[hj]at h0;simp at h0
  ·rw[hj]at h0;simp at h0
 have hh:((w.setCell ⟨res,0,none⟩ (.int .i64 p')).setCell ⟨res,1,none⟩ (.slice A' n' c')).heap[gb]? = w.heap[gb]?:=(Below.heap_setCell _ ⟨res,1,none⟩ _ gb (by simpa using hne)).trans (Below.heap_setCell _ ⟨res,0,none⟩ _ gb (by simpa using hne))
 have h5:=hc j u hu
 simp only[World.cell?]at h5 ⊢
 simp only[hh]
 exact h5
set_option maxHeartbeats 12800000 in
set_option maxRecDepth 8000 in
theorem ydo (B:Option Addr) (nb cb:Nat) (bs:List Int) (w:World) (hnb:nb≤4096) (r:Rd w B nb (bs.map (Value.int .u8))) (hbs:∀ b∈bs,0≤b∧b<256) (hbg:∀ a,B=some a→a.block<w.heap.size) :
 Calls Tryz.prog 34 #[.slice B nb cb] w (ydq w):=by
 have hB0:Below w.heap.size w (w.alloc (.cells #[.int .i64 0,.slice none 0 0] 26)):=zG.alloc (Nat.le_refl _) _
 have k0:Blk (w.alloc (.cells #[.int .i64 0,.slice none 0 0] 26)) w.heap.size 26 #[.int .i64 0,.slice none 0 0]:=Blk.new _ _ _
 have hfr:=jR B nb cb bs (w.alloc (.cells #[.int .i64 0,.slice none 0 0] 26)) hnb (r.below hB0) hbs (fun a e=>by have:=hbg a e;simp;omega)
 have hz0:w.heap.size<(w.alloc (.cells #[.int .i64 0,.slice none 0 0] 26)).heap.size:=by simp
 go_enter Tryz.func34,Tryz.ntmps34
 go_wp2_with fail
 refine hfr.mono ?_
 rintro e w2 ⟨g,rfl,hg,hs2,hb2⟩
 have k2:=k0.below hb2 k0.lt
 have hB2:=hB0.trans (hb2.mono hB0.size)
 have hgw2:w.heap.size<g:=Nat.lt_of_lt_of_le hz0 hg
 have hgw:w.heap.size≤g:=Nat.le_of_lt hgw2
 clear hfr hb2 k0 hB0 hg hz0
 go_wp2_with fail
 refine (j3 g 3 w2 hs2 (by omega) (by omega)).mono ?_
 rintro e w3 ⟨P,A,n,c,st,rfl,hP0,hP17,hn,hO,hd3⟩
 obtain⟨bx,hbxe⟩:∃ z,z=w3.heap.size:=⟨_,rfl⟩
 have hbx:w.heap.size<bx:=by rw[hbxe];exact Nat.lt_of_lt_of_le k2.lt hd3.size
 have k5:=(k2.dr hd3 (by decide)).alloc (.cells #[.int .i64 P,.slice A n c] 26)
 have kb5:=Blk.new w3 26 #[.int .i64 P,.slice A n c]
 rw[← hbxe]at kb5
 have hO5:=(hO.base (B':=w.heap.size) hB2.size).below (zG.alloc (Nat.le_refl _) (.cells #[.int .i64 P,.slice A n c] 26))
 have hd5:=hd3.alloc (.cells #[.int .i64 P,.slice A n c] 26)
 have hB5:=hd5.down hB2 hgw
 have hs5:=hd5.s'
 have HP:=Lib.hid (show (0≤P∧P≤17)∧n≤5 from ⟨⟨hP0,hP17⟩,hn⟩)
 clear k2 hs2 hd3 hO hB2 hd5 hP0 hP17 hn
 go_wp2
 obtain⟨wl,hwl⟩:∃ W,W=w3.alloc (.cells #[.int .i64 P,.slice A n c] 26):=⟨_,rfl⟩
 rw[← hwl]at k5 kb5 hO5 hB5 hs5 ⊢
 simp only[← hbxe]
 clear hwl hbxe
 go_loopw [6] (fun kv wr=>∃ (j:Nat) (P:Int) (A:Option Addr) (n c:Nat) (st:List Int),j≤5∧kv=.int .i64 j∧Hid ((0≤P∧P≤17)∧n≤5)∧Hid (Blk wr w.heap.size 26 #[.int .i64 0,.slice none 0 0])∧Hid (Blk wr bx 26 #[.int .i64 P,.slice A n c])∧Hid (Own wr w.heap.size 2 A n c (ints st))∧Hid (Src wr g 124)∧Hid (Below w.heap.size w wr)) (fun kv _=>5-(intOf kv).toNat)
 case atStart=>exact⟨0,P,A,n,c,st,by omega,rfl,HP,Lib.hid k5,Lib.hid kb5,Lib.hid hO5,Lib.hid hs5,Lib.hid hB5⟩
 case round=>
  clear k5 kb5 hO5 hs5 hB5 HP
  obtain⟨j,P,A,n,c,st,hj,rfl,HP,K4,K6,HO,HS,HB⟩:=hrel
  have kb:=K6.out
  obtain⟨q0,q1⟩:=kb.two
  by_cases hlt:j<5
  ·have jb1:(j:Int)<5:=by omega
   by_cases h3:n=3
   ·have nb:((n:Int) != 3)=false:=by simp[h3]
    have HN3:=Lib.hid h3
    clear h3
    have kr:=K4.out
    have oA:=HO.out
    have hS0:=HS.out
    have hBq:=HB.out
    have hP:=HP.out.1
    have hn:=HP.out.2
    have his:=qy P A n c st wr (by omega) oA.rd
    clear K4 K6 HO HS HB HP
    obtain⟨b,hb⟩:∃ z,z=isDb P st:=⟨_,rfl⟩
    rw[← hb]at his
    cases b with
    | false=>
     clear hb
     go_wp2_with fail
     refine his.mono ?_
     rintro e v1 ⟨rfl,hb1⟩
     replace kr:=kr.below hb1 kr.lt
     replace kb:=kb.below hb1 kb.lt
     replace oA:=oA.below hb1
     replace hS0:=hS0.below hb1
     replace hBq:=hBq.trans (hb1.mono hBq.size)
     clear his hb1 q0 q1
     obtain⟨wq,hwq⟩:∃ W,W=v1:=⟨_,rfl⟩
     rw[← hwq]at kr kb oA hS0 hBq ⊢
     clear hwq
     have hgq:=hS0.lt
     have hrq:w.heap.size<wq.heap.size:=kr.lt
     obtain⟨q0,q1⟩:=kb.two
     go_wp2
     refine xy 6 (fun w1 w2=>Dr g 124 w1 w2∨RelE w.heap.size P A n c w1 w2) [[],[],[],[1,2],[0],[1,2,3]] [[],[],[],[98],[99],[]] (fun x=>[VIs (.agg #[.int .i64 P,.slice A n c]),VIs (.pointer (some ⟨g,0,none⟩)),VIs (.agg #[.int .i64 P,.slice A n c]),VSkD wq.heap.size,VBk w.heap.size 26 #[.int .i64 P,.slice A n c],VSkD wq.heap.size]) (fun w'=>SBd w.heap.size w'∧Blk w' bx 26 #[.int .i64 P,.slice A n c]∧Own w' w.heap.size 2 A n c (ints st)∧Src w' g 124∧Below w.heap.size w w'∧wq.heap.size≤w'.heap.size) (by kernel_rfl) (by kernel_rfl) (fun x x' j hx=>by
      rcases j with _ | _ | _ | _ | _ | _ | j
      ·rfl
      ·rfl
      ·rfl
      ·rfl
      ·rfl
      ·rfl
      ·rfl)
      (z6 [0,1,2,3,4,5] (by decide) (fun k hk x v w w' hp hr=>by
       simp only[List.mem_cons,zJ,or_false]at hk
       rcases hk with rfl | rfl | rfl | rfl | rfl | rfl
       ·exact hp
       ·exact hp
       ·exact hp
       ·exact VSkD.step hgq hrq hp hr
       ·exact VBk.step_ (by decide) hp hr
       ·exact VSkD.step hgq hrq hp hr)) (fun j _ _ h hb=>hb.either (fun hb=>⟨h.1.below hb,h.2.1.below hb h.2.1.lt,h.2.2.1.below hb,h.2.2.2.1.below hb,h.2.2.2.2.1.trans (hb.mono h.2.2.2.2.1.size),Nat.le_trans h.2.2.2.2.2 hb.size⟩) (fun hr=>by
        rcases hr with hr | hr
        ·exact⟨h.1.dr_ hr (by decide),h.2.1.dr hr (by decide),h.2.2.1.dr hr (by decide),hr.s',hr.down h.2.2.2.2.1 hgw,Nat.le_trans h.2.2.2.2.2 hr.size⟩
        ·exact⟨h.1.relD hr.relD,h.2.1.relD (Nat.ne_of_gt hbx) hr.relD,h.2.2.1.relD (by decide) hr.relD,h.2.2.2.1.relDg hr.relD,xA h.2.2.2.2.1 (Nat.le_refl _) hr.relD,by rw[ve hr.relD];exact h.2.2.2.2.2⟩)) (⟨⟨_,_,_,_,kr.drew⟩,kb.drew,oA.below zG.drew,hS0.below zG.drew,hBq.trans (zG.drew),Nat.le_refl _⟩) (fun x=>?_)
     refine yd (Eq.trans (by simp only[zA,zC];exact rfl) rfl) rfl (fun w' hS hV K hK=>?_) ?_
     ·obtain⟨q0,q1⟩:=hS.2.1.two;go_simp;exact hK.out _ _ _ rfl rfl rfl zG
     simp only[zD,zE,zF]
     refine yd (Eq.trans (by simp only[zA,zB,zC];exact rfl) rfl) rfl (fun w' hS hV K hK=>?_) ?_
     ·obtain⟨q0,q1⟩:=hS.2.1.two;go_simp;exact hK.out _ _ _ rfl rfl rfl zG
     simp only[zD,zE,zF]
     refine yd (Eq.trans (by simp only[zA,zB,zC];exact rfl) rfl) rfl (fun w' hS hV K hK=>?_) ?_
     ·obtain⟨q0,q1⟩:=hS.2.1.two;go_simp;exact hK.out _ _ _ rfl rfl rfl zG
     simp only[zD,zE,zF]
     refine yd (Eq.trans (by simp only[zA,zB,zC];exact rfl) rfl) rfl (fun w' hS hV K hK=>?_) ?_
     ·have e1:=zQ hV 1;have e2:=zQ hV 2;obtain⟨q0,q1⟩:=hS.2.1.two;go_simp;refine (vY g P A n c st w' hS.2.2.2.1 hP.1 hP.2 hn hS.2.2.1.cap (hS.2.2.1.base (Nat.zero_le _))).mono ?_;rintro e v1 ⟨A9,m9,c9,M9,rfl,hm9,hc9,hr9,hl9,hd9⟩;exact hK.out _ _ _ rfl rfl ⟨_,_,_,_,rfl,hm9,hc9,hl9,hr9.base hS.2.2.2.2.2⟩ (StepR.rel rfl (.inl hd9))
     simp only[zD,zE,zF]
     refine xp (Eq.trans (by simp only[zA,zB,zC];exact rfl) rfl) rfl (fun w' hS hV K hK=>?_) ?_
     ·have e0:=zQ hV 0;obtain⟨q0,q1⟩:=hS.2.1.two;obtain⟨p9,A9,n9,c9,k9⟩:=hS.1;obtain⟨t0,t1⟩:=k9.two;have f0:=k9.frozen 0;have f1:=k9.frozen 1;go_simp;exact hK.out _ _ rfl k9.storedD (StepR.rel rfl (.inr ⟨_,_,_,_,k9,rfl⟩))
     refine yd (Eq.trans (by simp only[zA,zB,zC];exact rfl) rfl) rfl (fun w' hS hV K hK=>?_) ?_
     ·obtain⟨A3,m3,c3,M3,e3,hm3,hc3,hl3,h3⟩:=hV 3 (by decide);obtain⟨q0,q1⟩:=hS.2.1.two;go_simp;exact hK.out _ _ _ rfl rfl ⟨_,_,_,_,rfl,hm3,hc3,hl3,h3⟩ zG
     simp only[zD,zE,zF]
     refine fun w' hS hV=>?_
     have e0:=zQ hV 0
     have e1:=zQ hV 1
     have e2:=zQ hV 2
     obtain⟨A3,m3,c3,M3,e3,hm3,hc3,hl3,h3⟩:=hV 3 (by decide)
     have b4:=hV 4 (by decide)
     obtain⟨A5,m5,c5,M5,e5,hm5,hc5,hl5,h5⟩:=hV 5 (by decide)
     simp only[e0,e1,e2,e3,e5]
     clear e0 e1 e2 e3 e5
     refine wpAny_done (by kernel_rfl) ?_ _
     obtain⟨-, -,o6, -,hB6, -⟩:=hS
     replace b4:Blk w' w.heap.size 26 #[.int .i64 P,.slice A n c]:=b4
     obtain⟨p0,p1⟩:=b4.two
     have HR6:=Lib.hid h5.rd
     have HL6:=Lib.hid hl5
     clear h5 h3 hl3 hl5
     go_wp2
     exact bodyPost_ret (v:=.tuple #[.agg #[.int .i64 P,.slice A n c],.slice A5 m5 c5]) (by simp[results,Tryz.results34,go_sem,p0,p1]) rfl ⟨P,A,n,c,st,A5,m5,c5,M5,rfl,hP,hn,hm5,hc5,o6,HR6.out,HL6.out,hB6⟩
    | true=>
     have HBE:=Lib.hid hb
     clear hb
     by_cases hn3:n≤3
     ·have n3b:(n:Int)≤3:=by omega
      go_wp2_with fail
      refine his.mono ?_
      rintro e v1 ⟨rfl,hb1⟩
      replace kr:=kr.below hb1 kr.lt
      replace kb:=kb.below hb1 kb.lt
      replace oA:=oA.below hb1
      replace hS0:=hS0.below hb1
      replace hBq:=hBq.trans (hb1.mono hBq.size)
      have hnx:=yr g 12 v1 hS0 (by omega)
      clear his hb1 q0 q1
      obtain⟨q0,q1⟩:=kb.two
      go_wp2_with fail
      refine hnx.mono ?_
      rintro e v2 ⟨r12,rfl,hr0, -,hd2⟩
      replace kr:=kr.dr hd2 (by decide)
      replace kb:=kb.dr hd2 (by decide)
      replace oA:=oA.dr hd2 (by decide)
      replace hBq:=hd2.down hBq hgw
      replace hS0:=hd2.s'
      clear hnx hd2 q0 q1
      obtain⟨wq,hwq⟩:∃ W,W=v2:=⟨_,rfl⟩
      rw[← hwq]at kr kb oA hS0 hBq ⊢
      clear hwq
      have hgq:=hS0.lt
      have hrq:w.heap.size<wq.heap.size:=kr.lt
      obtain⟨q0,q1⟩:=kb.two
      by_cases h12:0<r12
      ·have d12:decide (0<r12)=true:=by rw[decide_eq_true_eq];exact h12
       obtain⟨HPP, -,hst⟩:=ze HBE.out.symm
       obtain⟨hp3,hp13⟩:=yk HPP
       have hst:NumsL P st:=hst
       go_wp2
       refine xy 6 (fun w1 w2=>Dr g 124 w1 w2∨RelE w.heap.size P A n c w1 w2) [[],[],[],[1,2],[0],[1,2,3]] [[],[],[],[98],[99],[]] (fun x=>[VIs (.agg #[.int .i64 P,.slice A n c]),VIs (.pointer (some ⟨g,0,none⟩)),VIs (.agg #[.int .i64 P,.slice A n c]),VSkD wq.heap.size,VBk w.heap.size 26 #[.int .i64 P,.slice A n c],VSkD wq.heap.size]) (fun w'=>SBd w.heap.size w'∧Blk w' bx 26 #[.int .i64 P,.slice A n c]∧Own w' w.heap.size 2 A n c (ints st)∧Src w' g 124∧Below w.heap.size w w'∧wq.heap.size≤w'.heap.size) (by kernel_rfl) (by kernel_rfl) (fun x x' j hx=>by
        rcases j with _ | _ | _ | _ | _ | _ | j
        ·rfl
        ·rfl
        ·rfl
        ·rfl
        ·rfl
        ·rfl
        ·rfl)
        (z6 [0,1,2,3,4,5] (by decide) (fun k hk x v w w' hp hr=>by
         simp only[List.mem_cons,zJ,or_false]at hk
         rcases hk with rfl | rfl | rfl | rfl | rfl | rfl
         ·exact hp
         ·exact hp
         ·exact hp
         ·exact VSkD.step hgq hrq hp hr
         ·exact VBk.step_ (by decide) hp hr
         ·exact VSkD.step hgq hrq hp hr)) (fun j _ _ h hb=>hb.either (fun hb=>⟨h.1.below hb,h.2.1.below hb h.2.1.lt,h.2.2.1.below hb,h.2.2.2.1.below hb,h.2.2.2.2.1.trans (hb.mono h.2.2.2.2.1.size),Nat.le_trans h.2.2.2.2.2 hb.size⟩) (fun hr=>by
          rcases hr with hr | hr
          ·exact⟨h.1.dr_ hr (by decide),h.2.1.dr hr (by decide),h.2.2.1.dr hr (by decide),hr.s',hr.down h.2.2.2.2.1 hgw,Nat.le_trans h.2.2.2.2.2 hr.size⟩
          ·exact⟨h.1.relD hr.relD,h.2.1.relD (Nat.ne_of_gt hbx) hr.relD,h.2.2.1.relD (by decide) hr.relD,h.2.2.2.1.relDg hr.relD,xA h.2.2.2.2.1 (Nat.le_refl _) hr.relD,by rw[ve hr.relD];exact h.2.2.2.2.2⟩)) (⟨⟨_,_,_,_,kr.drew⟩,kb.drew,oA.below zG.drew,hS0.below zG.drew,hBq.trans (zG.drew),Nat.le_refl _⟩) (fun x=>?_)
       refine yd (Eq.trans (by simp only[zA,zC];exact rfl) rfl) rfl (fun w' hS hV K hK=>?_) ?_
       ·obtain⟨q0,q1⟩:=hS.2.1.two;go_simp;exact hK.out _ _ _ rfl rfl rfl zG
       simp only[zD,zE,zF]
       refine yd (Eq.trans (by simp only[zA,zB,zC];exact rfl) rfl) rfl (fun w' hS hV K hK=>?_) ?_
       ·obtain⟨q0,q1⟩:=hS.2.1.two;go_simp;exact hK.out _ _ _ rfl rfl rfl zG
       simp only[zD,zE,zF]
       refine yd (Eq.trans (by simp only[zA,zB,zC];exact rfl) rfl) rfl (fun w' hS hV K hK=>?_) ?_
       ·obtain⟨q0,q1⟩:=hS.2.1.two;go_simp;exact hK.out _ _ _ rfl rfl rfl zG
       simp only[zD,zE,zF]
       refine yd (Eq.trans (by simp only[zA,zB,zC];exact rfl) rfl) rfl (fun w' hS hV K hK=>?_) ?_
       ·have e1:=zQ hV 1;have e2:=zQ hV 2;obtain⟨q0,q1⟩:=hS.2.1.two;go_simp;refine (yb0 g P A n c st w' hS.2.2.2.1 (by omega) (by omega) (by omega) hS.2.2.1.cap hS.2.2.1.rd hst).mono ?_;rintro e v1 ⟨A9,m9,c9,M9,rfl,hm9,hc9,hr9,hl9,hd9⟩;exact hK.out _ _ _ rfl rfl ⟨_,_,_,_,rfl,hm9,hc9,hl9,hr9.base hS.2.2.2.2.2⟩ (StepR.rel rfl (.inl hd9))
       simp only[zD,zE,zF]
       refine xp (Eq.trans (by simp only[zA,zB,zC];exact rfl) rfl) rfl (fun w' hS hV K hK=>?_) ?_
       ·have e0:=zQ hV 0;obtain⟨q0,q1⟩:=hS.2.1.two;obtain⟨p9,A9,n9,c9,k9⟩:=hS.1;obtain⟨t0,t1⟩:=k9.two;have f0:=k9.frozen 0;have f1:=k9.frozen 1;go_simp;exact hK.out _ _ rfl k9.storedD (StepR.rel rfl (.inr ⟨_,_,_,_,k9,rfl⟩))
       refine yd (Eq.trans (by simp only[zA,zB,zC];exact rfl) rfl) rfl (fun w' hS hV K hK=>?_) ?_
       ·obtain⟨A3,m3,c3,M3,e3,hm3,hc3,hl3,h3⟩:=hV 3 (by decide);obtain⟨q0,q1⟩:=hS.2.1.two;go_simp;exact hK.out _ _ _ rfl rfl ⟨_,_,_,_,rfl,hm3,hc3,hl3,h3⟩ zG
       simp only[zD,zE,zF]
       refine fun w' hS hV=>?_
       have e0:=zQ hV 0
       have e1:=zQ hV 1
       have e2:=zQ hV 2
       obtain⟨A3,m3,c3,M3,e3,hm3,hc3,hl3,h3⟩:=hV 3 (by decide)
       have b4:=hV 4 (by decide)
       obtain⟨A5,m5,c5,M5,e5,hm5,hc5,hl5,h5⟩:=hV 5 (by decide)
       simp only[e0,e1,e2,e3,e5]
       clear e0 e1 e2 e3 e5
       refine wpAny_done (by kernel_rfl) ?_ _
       obtain⟨-, -,o6, -,hB6, -⟩:=hS
       replace b4:Blk w' w.heap.size 26 #[.int .i64 P,.slice A n c]:=b4
       obtain⟨p0,p1⟩:=b4.two
       have HR6:=Lib.hid h5.rd
       have HL6:=Lib.hid hl5
       clear h5 h3 hl3 hl5
       go_wp2
       exact bodyPost_ret (v:=.tuple #[.agg #[.int .i64 P,.slice A n c],.slice A5 m5 c5]) (by simp[results,Tryz.results34,go_sem,p0,p1]) rfl ⟨P,A,n,c,st,A5,m5,c5,M5,rfl,hP,hn,hm5,hc5,o6,HR6.out,HL6.out,hB6⟩
      ·have d12:decide (0<r12)=false:=by rw[decide_eq_false_iff_not];exact h12
       go_wp2
       refine xy 6 (fun w1 w2=>Dr g 124 w1 w2∨RelE w.heap.size P A n c w1 w2) [[],[],[],[1,2],[0],[1,2,3]] [[],[],[],[98],[99],[]] (fun x=>[VIs (.agg #[.int .i64 P,.slice A n c]),VIs (.pointer (some ⟨g,0,none⟩)),VIs (.agg #[.int .i64 P,.slice A n c]),VSkD wq.heap.size,VBk w.heap.size 26 #[.int .i64 P,.slice A n c],VSkD wq.heap.size]) (fun w'=>SBd w.heap.size w'∧Blk w' bx 26 #[.int .i64 P,.slice A n c]∧Own w' w.heap.size 2 A n c (ints st)∧Src w' g 124∧Below w.heap.size w w'∧wq.heap.size≤w'.heap.size) (by kernel_rfl) (by kernel_rfl) (fun x x' j hx=>by
        rcases j with _ | _ | _ | _ | _ | _ | j
        ·rfl
        ·rfl
        ·rfl
        ·rfl
        ·rfl
        ·rfl
        ·rfl)
        (z6 [0,1,2,3,4,5] (by decide) (fun k hk x v w w' hp hr=>by
         simp only[List.mem_cons,zJ,or_false]at hk
         rcases hk with rfl | rfl | rfl | rfl | rfl | rfl
         ·exact hp
         ·exact hp
         ·exact hp
         ·exact VSkD.step hgq hrq hp hr
         ·exact VBk.step_ (by decide) hp hr
         ·exact VSkD.step hgq hrq hp hr)) (fun j _ _ h hb=>hb.either (fun hb=>⟨h.1.below hb,h.2.1.below hb h.2.1.lt,h.2.2.1.below hb,h.2.2.2.1.below hb,h.2.2.2.2.1.trans (hb.mono h.2.2.2.2.1.size),Nat.le_trans h.2.2.2.2.2 hb.size⟩) (fun hr=>by
          rcases hr with hr | hr
          ·exact⟨h.1.dr_ hr (by decide),h.2.1.dr hr (by decide),h.2.2.1.dr hr (by decide),hr.s',hr.down h.2.2.2.2.1 hgw,Nat.le_trans h.2.2.2.2.2 hr.size⟩
          ·exact⟨h.1.relD hr.relD,h.2.1.relD (Nat.ne_of_gt hbx) hr.relD,h.2.2.1.relD (by decide) hr.relD,h.2.2.2.1.relDg hr.relD,xA h.2.2.2.2.1 (Nat.le_refl _) hr.relD,by rw[ve hr.relD];exact h.2.2.2.2.2⟩)) (⟨⟨_,_,_,_,kr.drew⟩,kb.drew,oA.below zG.drew,hS0.below zG.drew,hBq.trans (zG.drew),Nat.le_refl _⟩) (fun x=>?_)
       refine yd (Eq.trans (by simp only[zA,zC];exact rfl) rfl) rfl (fun w' hS hV K hK=>?_) ?_
       ·obtain⟨q0,q1⟩:=hS.2.1.two;go_simp;exact hK.out _ _ _ rfl rfl rfl zG
       simp only[zD,zE,zF]
       refine yd (Eq.trans (by simp only[zA,zB,zC];exact rfl) rfl) rfl (fun w' hS hV K hK=>?_) ?_
       ·obtain⟨q0,q1⟩:=hS.2.1.two;go_simp;exact hK.out _ _ _ rfl rfl rfl zG
       simp only[zD,zE,zF]
       refine yd (Eq.trans (by simp only[zA,zB,zC];exact rfl) rfl) rfl (fun w' hS hV K hK=>?_) ?_
       ·obtain⟨q0,q1⟩:=hS.2.1.two;go_simp;exact hK.out _ _ _ rfl rfl rfl zG
       simp only[zD,zE,zF]
       refine yd (Eq.trans (by simp only[zA,zB,zC];exact rfl) rfl) rfl (fun w' hS hV K hK=>?_) ?_
       ·have e1:=zQ hV 1;have e2:=zQ hV 2;obtain⟨q0,q1⟩:=hS.2.1.two;go_simp;refine (vY g P A n c st w' hS.2.2.2.1 hP.1 hP.2 hn hS.2.2.1.cap (hS.2.2.1.base (Nat.zero_le _))).mono ?_;rintro e v1 ⟨A9,m9,c9,M9,rfl,hm9,hc9,hr9,hl9,hd9⟩;exact hK.out _ _ _ rfl rfl ⟨_,_,_,_,rfl,hm9,hc9,hl9,hr9.base hS.2.2.2.2.2⟩ (StepR.rel rfl (.inl hd9))
       simp only[zD,zE,zF]
       refine xp (Eq.trans (by simp only[zA,zB,zC];exact rfl) rfl) rfl (fun w' hS hV K hK=>?_) ?_
       ·have e0:=zQ hV 0;obtain⟨q0,q1⟩:=hS.2.1.two;obtain⟨p9,A9,n9,c9,k9⟩:=hS.1;obtain⟨t0,t1⟩:=k9.two;have f0:=k9.frozen 0;have f1:=k9.frozen 1;go_simp;exact hK.out _ _ rfl k9.storedD (StepR.rel rfl (.inr ⟨_,_,_,_,k9,rfl⟩))
       refine yd (Eq.trans (by simp only[zA,zB,zC];exact rfl) rfl) rfl (fun w' hS hV K hK=>?_) ?_
       ·obtain⟨A3,m3,c3,M3,e3,hm3,hc3,hl3,h3⟩:=hV 3 (by decide);obtain⟨q0,q1⟩:=hS.2.1.two;go_simp;exact hK.out _ _ _ rfl rfl ⟨_,_,_,_,rfl,hm3,hc3,hl3,h3⟩ zG
       simp only[zD,zE,zF]
       refine fun w' hS hV=>?_
       have e0:=zQ hV 0
       have e1:=zQ hV 1
       have e2:=zQ hV 2
       obtain⟨A3,m3,c3,M3,e3,hm3,hc3,hl3,h3⟩:=hV 3 (by decide)
       have b4:=hV 4 (by decide)
       obtain⟨A5,m5,c5,M5,e5,hm5,hc5,hl5,h5⟩:=hV 5 (by decide)
       simp only[e0,e1,e2,e3,e5]
       clear e0 e1 e2 e3 e5
       refine wpAny_done (by kernel_rfl) ?_ _
       obtain⟨-, -,o6, -,hB6, -⟩:=hS
       replace b4:Blk w' w.heap.size 26 #[.int .i64 P,.slice A n c]:=b4
       obtain⟨p0,p1⟩:=b4.two
       have HR6:=Lib.hid h5.rd
       have HL6:=Lib.hid hl5
       clear h5 h3 hl3 hl5
       go_wp2
       exact bodyPost_ret (v:=.tuple #[.agg #[.int .i64 P,.slice A n c],.slice A5 m5 c5]) (by simp[results,Tryz.results34,go_sem,p0,p1]) rfl ⟨P,A,n,c,st,A5,m5,c5,M5,rfl,hP,hn,hm5,hc5,o6,HR6.out,HL6.out,hB6⟩
     ·have n3b:¬ (n:Int)≤3:=by omega
      go_wp2_with fail
      refine his.mono ?_
      rintro e v1 ⟨rfl,hb1⟩
      replace kr:=kr.below hb1 kr.lt
      replace kb:=kb.below hb1 kb.lt
      replace oA:=oA.below hb1
      replace hS0:=hS0.below hb1
      replace hBq:=hBq.trans (hb1.mono hBq.size)
      clear his hb1 q0 q1
      obtain⟨wq,hwq⟩:∃ W,W=v1:=⟨_,rfl⟩
      rw[← hwq]at kr kb oA hS0 hBq ⊢
      clear hwq
      have hgq:=hS0.lt
      have hrq:w.heap.size<wq.heap.size:=kr.lt
      obtain⟨q0,q1⟩:=kb.two
      go_wp2
      refine xy 6 (fun w1 w2=>Dr g 124 w1 w2∨RelE w.heap.size P A n c w1 w2) [[],[],[],[1,2],[0],[1,2,3]] [[],[],[],[98],[99],[]] (fun x=>[VIs (.agg #[.int .i64 P,.slice A n c]),VIs (.pointer (some ⟨g,0,none⟩)),VIs (.agg #[.int .i64 P,.slice A n c]),VSkD wq.heap.size,VBk w.heap.size 26 #[.int .i64 P,.slice A n c],VSkD wq.heap.size]) (fun w'=>SBd w.heap.size w'∧Blk w' bx 26 #[.int .i64 P,.slice A n c]∧Own w' w.heap.size 2 A n c (ints st)∧Src w' g 124∧Below w.heap.size w w'∧wq.heap.size≤w'.heap.size) (by kernel_rfl) (by kernel_rfl) (fun x x' j hx=>by
       rcases j with _ | _ | _ | _ | _ | _ | j
       ·rfl
       ·rfl
       ·rfl
       ·rfl
       ·rfl
       ·rfl
       ·rfl)
       (z6 [0,1,2,3,4,5] (by decide) (fun k hk x v w w' hp hr=>by
        simp only[List.mem_cons,zJ,or_false]at hk
        rcases hk with rfl | rfl | rfl | rfl | rfl | rfl
        ·exact hp
        ·exact hp
        ·exact hp
        ·exact VSkD.step hgq hrq hp hr
        ·exact VBk.step_ (by decide) hp hr
        ·exact VSkD.step hgq hrq hp hr)) (fun j _ _ h hb=>hb.either (fun hb=>⟨h.1.below hb,h.2.1.below hb h.2.1.lt,h.2.2.1.below hb,h.2.2.2.1.below hb,h.2.2.2.2.1.trans (hb.mono h.2.2.2.2.1.size),Nat.le_trans h.2.2.2.2.2 hb.size⟩) (fun hr=>by
         rcases hr with hr | hr
         ·exact⟨h.1.dr_ hr (by decide),h.2.1.dr hr (by decide),h.2.2.1.dr hr (by decide),hr.s',hr.down h.2.2.2.2.1 hgw,Nat.le_trans h.2.2.2.2.2 hr.size⟩
         ·exact⟨h.1.relD hr.relD,h.2.1.relD (Nat.ne_of_gt hbx) hr.relD,h.2.2.1.relD (by decide) hr.relD,h.2.2.2.1.relDg hr.relD,xA h.2.2.2.2.1 (Nat.le_refl _) hr.relD,by rw[ve hr.relD];exact h.2.2.2.2.2⟩)) (⟨⟨_,_,_,_,kr.drew⟩,kb.drew,oA.below zG.drew,hS0.below zG.drew,hBq.trans (zG.drew),Nat.le_refl _⟩) (fun x=>?_)
      refine yd (Eq.trans (by simp only[zA,zC];exact rfl) rfl) rfl (fun w' hS hV K hK=>?_) ?_
      ·obtain⟨q0,q1⟩:=hS.2.1.two;go_simp;exact hK.out _ _ _ rfl rfl rfl zG
      simp only[zD,zE,zF]
      refine yd (Eq.trans (by simp only[zA,zB,zC];exact rfl) rfl) rfl (fun w' hS hV K hK=>?_) ?_
      ·obtain⟨q0,q1⟩:=hS.2.1.two;go_simp;exact hK.out _ _ _ rfl rfl rfl zG
      simp only[zD,zE,zF]
      refine yd (Eq.trans (by simp only[zA,zB,zC];exact rfl) rfl) rfl (fun w' hS hV K hK=>?_) ?_
      ·obtain⟨q0,q1⟩:=hS.2.1.two;go_simp;exact hK.out _ _ _ rfl rfl rfl zG
      simp only[zD,zE,zF]
      refine yd (Eq.trans (by simp only[zA,zB,zC];exact rfl) rfl) rfl (fun w' hS hV K hK=>?_) ?_
      ·have e1:=zQ hV 1;have e2:=zQ hV 2;obtain⟨q0,q1⟩:=hS.2.1.two;go_simp;refine (vY g P A n c st w' hS.2.2.2.1 hP.1 hP.2 hn hS.2.2.1.cap (hS.2.2.1.base (Nat.zero_le _))).mono ?_;rintro e v1 ⟨A9,m9,c9,M9,rfl,hm9,hc9,hr9,hl9,hd9⟩;exact hK.out _ _ _ rfl rfl ⟨_,_,_,_,rfl,hm9,hc9,hl9,hr9.base hS.2.2.2.2.2⟩ (StepR.rel rfl (.inl hd9))
      simp only[zD,zE,zF]
      refine xp (Eq.trans (by simp only[zA,zB,zC];exact rfl) rfl) rfl (fun w' hS hV K hK=>?_) ?_
      ·have e0:=zQ hV 0;obtain⟨q0,q1⟩:=hS.2.1.two;obtain⟨p9,A9,n9,c9,k9⟩:=hS.1;obtain⟨t0,t1⟩:=k9.two;have f0:=k9.frozen 0;have f1:=k9.frozen 1;go_simp;exact hK.out _ _ rfl k9.storedD (StepR.rel rfl (.inr ⟨_,_,_,_,k9,rfl⟩))
      refine yd (Eq.trans (by simp only[zA,zB,zC];exact rfl) rfl) rfl (fun w' hS hV K hK=>?_) ?_
      ·obtain⟨A3,m3,c3,M3,e3,hm3,hc3,hl3,h3⟩:=hV 3 (by decide);obtain⟨q0,q1⟩:=hS.2.1.two;go_simp;exact hK.out _ _ _ rfl rfl ⟨_,_,_,_,rfl,hm3,hc3,hl3,h3⟩ zG
      simp only[zD,zE,zF]
      refine fun w' hS hV=>?_
      have e0:=zQ hV 0
      have e1:=zQ hV 1
      have e2:=zQ hV 2
      obtain⟨A3,m3,c3,M3,e3,hm3,hc3,hl3,h3⟩:=hV 3 (by decide)
      have b4:=hV 4 (by decide)
      obtain⟨A5,m5,c5,M5,e5,hm5,hc5,hl5,h5⟩:=hV 5 (by decide)
      simp only[e0,e1,e2,e3,e5]
      clear e0 e1 e2 e3 e5
      refine wpAny_done (by kernel_rfl) ?_ _
      obtain⟨-, -,o6, -,hB6, -⟩:=hS
      replace b4:Blk w' w.heap.size 26 #[.int .i64 P,.slice A n c]:=b4
      obtain⟨p0,p1⟩:=b4.two
      have HR6:=Lib.hid h5.rd
      have HL6:=Lib.hid hl5
      clear h5 h3 hl3 hl5
      go_wp2
      exact bodyPost_ret (v:=.tuple #[.agg #[.int .i64 P,.slice A n c],.slice A5 m5 c5]) (by simp[results,Tryz.results34,go_sem,p0,p1]) rfl ⟨P,A,n,c,st,A5,m5,c5,M5,rfl,hP,hn,hm5,hc5,o6,HR6.out,HL6.out,hB6⟩
   ·have n3:¬ (n:Int)=3:=by omega
    go_wp2_with fail
    refine (j3 g 3 wr HS.out (by omega) (by omega)).mono ?_
    rintro e v3 ⟨P2,A2,n2,c2,st2,rfl,hP0,hP17,hn2,hO2,hd2⟩
    have k4:=K4.out.dr hd2 (by decide)
    have k6:=kb.dr hd2 (by decide)
    have hO3:=hO2.base (B':=w.heap.size) HB.out.size
    have hB3:=hd2.down HB.out hgw
    have hS3:=hd2.s'
    have f0:=k6.frozen 0
    have f1:=k6.frozen 1
    obtain⟨r0,r1⟩:=k6.two
    have hR3:RelD bx v3 ((v3.setCell ⟨bx,0,none⟩ (.int .i64 P2)).setCell ⟨bx,1,none⟩ (.slice A2 n2 c2)):=⟨_,_,_,_,_,_,_,_,k6,rfl⟩
    have K4b:=Lib.hid (k4.relD (Nat.ne_of_lt hbx) hR3)
    have K6b:=Lib.hid (k6.storedD (p':=P2) (A':=A2) (n':=n2) (c':=c2))
    have HO3:=Lib.hid (hO3.relD (by decide) hR3)
    have HS3:=Lib.hid (hS3.relDg hR3)
    have HB3:=Lib.hid (xA hB3 (Nat.le_of_lt hbx) hR3)
    have HP2:=Lib.hid (show (0≤P2∧P2≤17)∧n2≤5 from ⟨⟨hP0,hP17⟩,hn2⟩)
    clear kb q0 q1 k4 k6 hO2 hO3 hB3 hS3 hd2 hR3 K4 K6 HO HS HB HP hP0 hP17 hn2
    go_wp2
    exact⟨⟨j+1,P2,A2,n2,c2,st2,by omega,by go_num,HP2,K4b,K6b,HO3,HS3,HB3⟩,by simp[intOf];omega⟩
  ·have jb1:¬ (j:Int)<5:=by omega
   have kr:=K4.out
   have oA:=HO.out
   have hS0:=HS.out
   have hBq:=HB.out
   have hP:=HP.out.1
   have hn:=HP.out.2
   have his:=qy P A n c st wr (by omega) oA.rd
   clear K4 K6 HO HS HB HP
   obtain⟨b,hb⟩:∃ z,z=isDb P st:=⟨_,rfl⟩
   rw[← hb]at his
   cases b with
   | false=>
    clear hb
    go_wp2_with fail
    refine his.mono ?_
    rintro e v1 ⟨rfl,hb1⟩
    replace kr:=kr.below hb1 kr.lt
    replace kb:=kb.below hb1 kb.lt
    replace oA:=oA.below hb1
    replace hS0:=hS0.below hb1
    replace hBq:=hBq.trans (hb1.mono hBq.size)
    clear his hb1 q0 q1
    obtain⟨wq,hwq⟩:∃ W,W=v1:=⟨_,rfl⟩
    rw[← hwq]at kr kb oA hS0 hBq ⊢
    clear hwq
    have hgq:=hS0.lt
    have hrq:w.heap.size<wq.heap.size:=kr.lt
    obtain⟨q0,q1⟩:=kb.two
    go_wp2
    refine xy 6 (fun w1 w2=>Dr g 124 w1 w2∨RelE w.heap.size P A n c w1 w2) [[],[],[],[1,2],[0],[1,2,3]] [[],[],[],[98],[99],[]] (fun x=>[VIs (.agg #[.int .i64 P,.slice A n c]),VIs (.pointer (some ⟨g,0,none⟩)),VIs (.agg #[.int .i64 P,.slice A n c]),VSkD wq.heap.size,VBk w.heap.size 26 #[.int .i64 P,.slice A n c],VSkD wq.heap.size]) (fun w'=>SBd w.heap.size w'∧Blk w' bx 26 #[.int .i64 P,.slice A n c]∧Own w' w.heap.size 2 A n c (ints st)∧Src w' g 124∧Below w.heap.size w w'∧wq.heap.size≤w'.heap.size) (by kernel_rfl) (by kernel_rfl) (fun x x' j hx=>by
     rcases j with _ | _ | _ | _ | _ | _ | j
     ·rfl
     ·rfl
     ·rfl
     ·rfl
     ·rfl
     ·rfl
     ·rfl)
     (z6 [0,1,2,3,4,5] (by decide) (fun k hk x v w w' hp hr=>by
      simp only[List.mem_cons,zJ,or_false]at hk
      rcases hk with rfl | rfl | rfl | rfl | rfl | rfl
      ·exact hp
      ·exact hp
      ·exact hp
      ·exact VSkD.step hgq hrq hp hr
      ·exact VBk.step_ (by decide) hp hr
      ·exact VSkD.step hgq hrq hp hr)) (fun j _ _ h hb=>hb.either (fun hb=>⟨h.1.below hb,h.2.1.below hb h.2.1.lt,h.2.2.1.below hb,h.2.2.2.1.below hb,h.2.2.2.2.1.trans (hb.mono h.2.2.2.2.1.size),Nat.le_trans h.2.2.2.2.2 hb.size⟩) (fun hr=>by
       rcases hr with hr | hr
       ·exact⟨h.1.dr_ hr (by decide),h.2.1.dr hr (by decide),h.2.2.1.dr hr (by decide),hr.s',hr.down h.2.2.2.2.1 hgw,Nat.le_trans h.2.2.2.2.2 hr.size⟩
       ·exact⟨h.1.relD hr.relD,h.2.1.relD (Nat.ne_of_gt hbx) hr.relD,h.2.2.1.relD (by decide) hr.relD,h.2.2.2.1.relDg hr.relD,xA h.2.2.2.2.1 (Nat.le_refl _) hr.relD,by rw[ve hr.relD];exact h.2.2.2.2.2⟩)) (⟨⟨_,_,_,_,kr.drew⟩,kb.drew,oA.below zG.drew,hS0.below zG.drew,hBq.trans (zG.drew),Nat.le_refl _⟩) (fun x=>?_)
    refine yd (Eq.trans (by simp only[zA,zC];exact rfl) rfl) rfl (fun w' hS hV K hK=>?_) ?_
    ·obtain⟨q0,q1⟩:=hS.2.1.two;go_simp;exact hK.out _ _ _ rfl rfl rfl zG
    simp only[zD,zE,zF]
    refine yd (Eq.trans (by simp only[zA,zB,zC];exact rfl) rfl) rfl (fun w' hS hV K hK=>?_) ?_
    ·obtain⟨q0,q1⟩:=hS.2.1.two;go_simp;exact hK.out _ _ _ rfl rfl rfl zG
    simp only[zD,zE,zF]
    refine yd (Eq.trans (by simp only[zA,zB,zC];exact rfl) rfl) rfl (fun w' hS hV K hK=>?_) ?_
    ·obtain⟨q0,q1⟩:=hS.2.1.two;go_simp;exact hK.out _ _ _ rfl rfl rfl zG
    simp only[zD,zE,zF]
    refine yd (Eq.trans (by simp only[zA,zB,zC];exact rfl) rfl) rfl (fun w' hS hV K hK=>?_) ?_
    ·have e1:=zQ hV 1;have e2:=zQ hV 2;obtain⟨q0,q1⟩:=hS.2.1.two;go_simp;refine (vY g P A n c st w' hS.2.2.2.1 hP.1 hP.2 hn hS.2.2.1.cap (hS.2.2.1.base (Nat.zero_le _))).mono ?_;rintro e v1 ⟨A9,m9,c9,M9,rfl,hm9,hc9,hr9,hl9,hd9⟩;exact hK.out _ _ _ rfl rfl ⟨_,_,_,_,rfl,hm9,hc9,hl9,hr9.base hS.2.2.2.2.2⟩ (StepR.rel rfl (.inl hd9))
    simp only[zD,zE,zF]
    refine xp (Eq.trans (by simp only[zA,zB,zC];exact rfl) rfl) rfl (fun w' hS hV K hK=>?_) ?_
    ·have e0:=zQ hV 0;obtain⟨q0,q1⟩:=hS.2.1.two;obtain⟨p9,A9,n9,c9,k9⟩:=hS.1;obtain⟨t0,t1⟩:=k9.two;have f0:=k9.frozen 0;have f1:=k9.frozen 1;go_simp;exact hK.out _ _ rfl k9.storedD (StepR.rel rfl (.inr ⟨_,_,_,_,k9,rfl⟩))
    refine yd (Eq.trans (by simp only[zA,zB,zC];exact rfl) rfl) rfl (fun w' hS hV K hK=>?_) ?_
    ·obtain⟨A3,m3,c3,M3,e3,hm3,hc3,hl3,h3⟩:=hV 3 (by decide);obtain⟨q0,q1⟩:=hS.2.1.two;go_simp;exact hK.out _ _ _ rfl rfl ⟨_,_,_,_,rfl,hm3,hc3,hl3,h3⟩ zG
    simp only[zD,zE,zF]
    refine fun w' hS hV=>?_
    have e0:=zQ hV 0
    have e1:=zQ hV 1
    have e2:=zQ hV 2
    obtain⟨A3,m3,c3,M3,e3,hm3,hc3,hl3,h3⟩:=hV 3 (by decide)
    have b4:=hV 4 (by decide)
    obtain⟨A5,m5,c5,M5,e5,hm5,hc5,hl5,h5⟩:=hV 5 (by decide)
    simp only[e0,e1,e2,e3,e5]
    clear e0 e1 e2 e3 e5
    refine wpAny_done (by kernel_rfl) ?_ _
    obtain⟨-, -,o6, -,hB6, -⟩:=hS
    replace b4:Blk w' w.heap.size 26 #[.int .i64 P,.slice A n c]:=b4
    obtain⟨p0,p1⟩:=b4.two
    have HR6:=Lib.hid h5.rd
    have HL6:=Lib.hid hl5
    clear h5 h3 hl3 hl5
    go_wp2
    exact bodyPost_ret (v:=.tuple #[.agg #[.int .i64 P,.slice A n c],.slice A5 m5 c5]) (by simp[results,Tryz.results34,go_sem,p0,p1]) rfl ⟨P,A,n,c,st,A5,m5,c5,M5,rfl,hP,hn,hm5,hc5,o6,HR6.out,HL6.out,hB6⟩
   | true=>
    have HBE:=Lib.hid hb
    clear hb
    by_cases hn3:n≤3
    ·have n3b:(n:Int)≤3:=by omega
     go_wp2_with fail
     refine his.mono ?_
     rintro e v1 ⟨rfl,hb1⟩
     replace kr:=kr.below hb1 kr.lt
     replace kb:=kb.below hb1 kb.lt
     replace oA:=oA.below hb1
     replace hS0:=hS0.below hb1
     replace hBq:=hBq.trans (hb1.mono hBq.size)
     have hnx:=yr g 12 v1 hS0 (by omega)
     clear his hb1 q0 q1
     obtain⟨q0,q1⟩:=kb.two
     go_wp2_with fail
     refine hnx.mono ?_
     rintro e v2 ⟨r12,rfl,hr0, -,hd2⟩
     replace kr:=kr.dr hd2 (by decide)
     replace kb:=kb.dr hd2 (by decide)
     replace oA:=oA.dr hd2 (by decide)
     replace hBq:=hd2.down hBq hgw
     replace hS0:=hd2.s'
     clear hnx hd2 q0 q1
     obtain⟨wq,hwq⟩:∃ W,W=v2:=⟨_,rfl⟩
     rw[← hwq]at kr kb oA hS0 hBq ⊢
     clear hwq
     have hgq:=hS0.lt
     have hrq:w.heap.size<wq.heap.size:=kr.lt
     obtain⟨q0,q1⟩:=kb.two
     by_cases h12:0<r12
     ·have d12:decide (0<r12)=true:=by rw[decide_eq_true_eq];exact h12
      obtain⟨HPP, -,hst⟩:=ze HBE.out.symm
      obtain⟨hp3,hp13⟩:=yk HPP
      have hst:NumsL P st:=hst
      go_wp2
      refine xy 6 (fun w1 w2=>Dr g 124 w1 w2∨RelE w.heap.size P A n c w1 w2) [[],[],[],[1,2],[0],[1,2,3]] [[],[],[],[98],[99],[]] (fun x=>[VIs (.agg #[.int .i64 P,.slice A n c]),VIs (.pointer (some ⟨g,0,none⟩)),VIs (.agg #[.int .i64 P,.slice A n c]),VSkD wq.heap.size,VBk w.heap.size 26 #[.int .i64 P,.slice A n c],VSkD wq.heap.size]) (fun w'=>SBd w.heap.size w'∧Blk w' bx 26 #[.int .i64 P,.slice A n c]∧Own w' w.heap.size 2 A n c (ints st)∧Src w' g 124∧Below w.heap.size w w'∧wq.heap.size≤w'.heap.size) (by kernel_rfl) (by kernel_rfl) (fun x x' j hx=>by
       rcases j with _ | _ | _ | _ | _ | _ | j
       ·rfl
       ·rfl
       ·rfl
       ·rfl
       ·rfl
       ·rfl
       ·rfl)
       (z6 [0,1,2,3,4,5] (by decide) (fun k hk x v w w' hp hr=>by
        simp only[List.mem_cons,zJ,or_false]at hk
        rcases hk with rfl | rfl | rfl | rfl | rfl | rfl
        ·exact hp
        ·exact hp
        ·exact hp
        ·exact VSkD.step hgq hrq hp hr
        ·exact VBk.step_ (by decide) hp hr
        ·exact VSkD.step hgq hrq hp hr)) (fun j _ _ h hb=>hb.either (fun hb=>⟨h.1.below hb,h.2.1.below hb h.2.1.lt,h.2.2.1.below hb,h.2.2.2.1.below hb,h.2.2.2.2.1.trans (hb.mono h.2.2.2.2.1.size),Nat.le_trans h.2.2.2.2.2 hb.size⟩) (fun hr=>by
         rcases hr with hr | hr
         ·exact⟨h.1.dr_ hr (by decide),h.2.1.dr hr (by decide),h.2.2.1.dr hr (by decide),hr.s',hr.down h.2.2.2.2.1 hgw,Nat.le_trans h.2.2.2.2.2 hr.size⟩
         ·exact⟨h.1.relD hr.relD,h.2.1.relD (Nat.ne_of_gt hbx) hr.relD,h.2.2.1.relD (by decide) hr.relD,h.2.2.2.1.relDg hr.relD,xA h.2.2.2.2.1 (Nat.le_refl _) hr.relD,by rw[ve hr.relD];exact h.2.2.2.2.2⟩)) (⟨⟨_,_,_,_,kr.drew⟩,kb.drew,oA.below zG.drew,hS0.below zG.drew,hBq.trans (zG.drew),Nat.le_refl _⟩) (fun x=>?_)
      refine yd (Eq.trans (by simp only[zA,zC];exact rfl) rfl) rfl (fun w' hS hV K hK=>?_) ?_
      ·obtain⟨q0,q1⟩:=hS.2.1.two;go_simp;exact hK.out _ _ _ rfl rfl rfl zG
      simp only[zD,zE,zF]
      refine yd (Eq.trans (by simp only[zA,zB,zC];exact rfl) rfl) rfl (fun w' hS hV K hK=>?_) ?_
      ·obtain⟨q0,q1⟩:=hS.2.1.two;go_simp;exact hK.out _ _ _ rfl rfl rfl zG
      simp only[zD,zE,zF]
      refine yd (Eq.trans (by simp only[zA,zB,zC];exact rfl) rfl) rfl (fun w' hS hV K hK=>?_) ?_
      ·obtain⟨q0,q1⟩:=hS.2.1.two;go_simp;exact hK.out _ _ _ rfl rfl rfl zG
      simp only[zD,zE,zF]
      refine yd (Eq.trans (by simp only[zA,zB,zC];exact rfl) rfl) rfl (fun w' hS hV K hK=>?_) ?_
      ·have e1:=zQ hV 1;have e2:=zQ hV 2;obtain⟨q0,q1⟩:=hS.2.1.two;go_simp;refine (yb0 g P A n c st w' hS.2.2.2.1 (by omega) (by omega) (by omega) hS.2.2.1.cap hS.2.2.1.rd hst).mono ?_;rintro e v1 ⟨A9,m9,c9,M9,rfl,hm9,hc9,hr9,hl9,hd9⟩;exact hK.out _ _ _ rfl rfl ⟨_,_,_,_,rfl,hm9,hc9,hl9,hr9.base hS.2.2.2.2.2⟩ (StepR.rel rfl (.inl hd9))
      simp only[zD,zE,zF]
      refine xp (Eq.trans (by simp only[zA,zB,zC];exact rfl) rfl) rfl (fun w' hS hV K hK=>?_) ?_
      ·have e0:=zQ hV 0;obtain⟨q0,q1⟩:=hS.2.1.two;obtain⟨p9,A9,n9,c9,k9⟩:=hS.1;obtain⟨t0,t1⟩:=k9.two;have f0:=k9.frozen 0;have f1:=k9.frozen 1;go_simp;exact hK.out _ _ rfl k9.storedD (StepR.rel rfl (.inr ⟨_,_,_,_,k9,rfl⟩))
      refine yd (Eq.trans (by simp only[zA,zB,zC];exact rfl) rfl) rfl (fun w' hS hV K hK=>?_) ?_
      ·obtain⟨A3,m3,c3,M3,e3,hm3,hc3,hl3,h3⟩:=hV 3 (by decide);obtain⟨q0,q1⟩:=hS.2.1.two;go_simp;exact hK.out _ _ _ rfl rfl ⟨_,_,_,_,rfl,hm3,hc3,hl3,h3⟩ zG
      simp only[zD,zE,zF]
      refine fun w' hS hV=>?_
      have e0:=zQ hV 0
      have e1:=zQ hV 1
      have e2:=zQ hV 2
      obtain⟨A3,m3,c3,M3,e3,hm3,hc3,hl3,h3⟩:=hV 3 (by decide)
      have b4:=hV 4 (by decide)
      obtain⟨A5,m5,c5,M5,e5,hm5,hc5,hl5,h5⟩:=hV 5 (by decide)
      simp only[e0,e1,e2,e3,e5]
      clear e0 e1 e2 e3 e5
      refine wpAny_done (by kernel_rfl) ?_ _
      obtain⟨-, -,o6, -,hB6, -⟩:=hS
      replace b4:Blk w' w.heap.size 26 #[.int .i64 P,.slice A n c]:=b4
      obtain⟨p0,p1⟩:=b4.two
      have HR6:=Lib.hid h5.rd
      have HL6:=Lib.hid hl5
      clear h5 h3 hl3 hl5
      go_wp2
      exact bodyPost_ret (v:=.tuple #[.agg #[.int .i64 P,.slice A n c],.slice A5 m5 c5]) (by simp[results,Tryz.results34,go_sem,p0,p1]) rfl ⟨P,A,n,c,st,A5,m5,c5,M5,rfl,hP,hn,hm5,hc5,o6,HR6.out,HL6.out,hB6⟩
     ·have d12:decide (0<r12)=false:=by rw[decide_eq_false_iff_not];exact h12
      go_wp2
      refine xy 6 (fun w1 w2=>Dr g 124 w1 w2∨RelE w.heap.size P A n c w1 w2) [[],[],[],[1,2],[0],[1,2,3]] [[],[],[],[98],[99],[]] (fun x=>[VIs (.agg #[.int .i64 P,.slice A n c]),VIs (.pointer (some ⟨g,0,none⟩)),VIs (.agg #[.int .i64 P,.slice A n c]),VSkD wq.heap.size,VBk w.heap.size 26 #[.int .i64 P,.slice A n c],VSkD wq.heap.size]) (fun w'=>SBd w.heap.size w'∧Blk w' bx 26 #[.int .i64 P,.slice A n c]∧Own w' w.heap.size 2 A n c (ints st)∧Src w' g 124∧Below w.heap.size w w'∧wq.heap.size≤w'.heap.size) (by kernel_rfl) (by kernel_rfl) (fun x x' j hx=>by
       rcases j with _ | _ | _ | _ | _ | _ | j
       ·rfl
       ·rfl
       ·rfl
       ·rfl
       ·rfl
       ·rfl
       ·rfl)
       (z6 [0,1,2,3,4,5] (by decide) (fun k hk x v w w' hp hr=>by
        simp only[List.mem_cons,zJ,or_false]at hk
        rcases hk with rfl | rfl | rfl | rfl | rfl | rfl
        ·exact hp
        ·exact hp
        ·exact hp
        ·exact VSkD.step hgq hrq hp hr
        ·exact VBk.step_ (by decide) hp hr
        ·exact VSkD.step hgq hrq hp hr)) (fun j _ _ h hb=>hb.either (fun hb=>⟨h.1.below hb,h.2.1.below hb h.2.1.lt,h.2.2.1.below hb,h.2.2.2.1.below hb,h.2.2.2.2.1.trans (hb.mono h.2.2.2.2.1.size),Nat.le_trans h.2.2.2.2.2 hb.size⟩) (fun hr=>by
         rcases hr with hr | hr
         ·exact⟨h.1.dr_ hr (by decide),h.2.1.dr hr (by decide),h.2.2.1.dr hr (by decide),hr.s',hr.down h.2.2.2.2.1 hgw,Nat.le_trans h.2.2.2.2.2 hr.size⟩
         ·exact⟨h.1.relD hr.relD,h.2.1.relD (Nat.ne_of_gt hbx) hr.relD,h.2.2.1.relD (by decide) hr.relD,h.2.2.2.1.relDg hr.relD,xA h.2.2.2.2.1 (Nat.le_refl _) hr.relD,by rw[ve hr.relD];exact h.2.2.2.2.2⟩)) (⟨⟨_,_,_,_,kr.drew⟩,kb.drew,oA.below zG.drew,hS0.below zG.drew,hBq.trans (zG.drew),Nat.le_refl _⟩) (fun x=>?_)
      refine yd (Eq.trans (by simp only[zA,zC];exact rfl) rfl) rfl (fun w' hS hV K hK=>?_) ?_
      ·obtain⟨q0,q1⟩:=hS.2.1.two;go_simp;exact hK.out _ _ _ rfl rfl rfl zG
      simp only[zD,zE,zF]
      refine yd (Eq.trans (by simp only[zA,zB,zC];exact rfl) rfl) rfl (fun w' hS hV K hK=>?_) ?_
      ·obtain⟨q0,q1⟩:=hS.2.1.two;go_simp;exact hK.out _ _ _ rfl rfl rfl zG
      simp only[zD,zE,zF]
      refine yd (Eq.trans (by simp only[zA,zB,zC];exact rfl) rfl) rfl (fun w' hS hV K hK=>?_) ?_
      ·obtain⟨q0,q1⟩:=hS.2.1.two;go_simp;exact hK.out _ _ _ rfl rfl rfl zG
      simp only[zD,zE,zF]
      refine yd (Eq.trans (by simp only[zA,zB,zC];exact rfl) rfl) rfl (fun w' hS hV K hK=>?_) ?_
      ·have e1:=zQ hV 1;have e2:=zQ hV 2;obtain⟨q0,q1⟩:=hS.2.1.two;go_simp;refine (vY g P A n c st w' hS.2.2.2.1 hP.1 hP.2 hn hS.2.2.1.cap (hS.2.2.1.base (Nat.zero_le _))).mono ?_;rintro e v1 ⟨A9,m9,c9,M9,rfl,hm9,hc9,hr9,hl9,hd9⟩;exact hK.out _ _ _ rfl rfl ⟨_,_,_,_,rfl,hm9,hc9,hl9,hr9.base hS.2.2.2.2.2⟩ (StepR.rel rfl (.inl hd9))
      simp only[zD,zE,zF]
      refine xp (Eq.trans (by simp only[zA,zB,zC];exact rfl) rfl) rfl (fun w' hS hV K hK=>?_) ?_
      ·have e0:=zQ hV 0;obtain⟨q0,q1⟩:=hS.2.1.two;obtain⟨p9,A9,n9,c9,k9⟩:=hS.1;obtain⟨t0,t1⟩:=k9.two;have f0:=k9.frozen 0;have f1:=k9.frozen 1;go_simp;exact hK.out _ _ rfl k9.storedD (StepR.rel rfl (.inr ⟨_,_,_,_,k9,rfl⟩))
      refine yd (Eq.trans (by simp only[zA,zB,zC];exact rfl) rfl) rfl (fun w' hS hV K hK=>?_) ?_
      ·obtain⟨A3,m3,c3,M3,e3,hm3,hc3,hl3,h3⟩:=hV 3 (by decide);obtain⟨q0,q1⟩:=hS.2.1.two;go_simp;exact hK.out _ _ _ rfl rfl ⟨_,_,_,_,rfl,hm3,hc3,hl3,h3⟩ zG
      simp only[zD,zE,zF]
      refine fun w' hS hV=>?_
      have e0:=zQ hV 0
      have e1:=zQ hV 1
      have e2:=zQ hV 2
      obtain⟨A3,m3,c3,M3,e3,hm3,hc3,hl3,h3⟩:=hV 3 (by decide)
      have b4:=hV 4 (by decide)
      obtain⟨A5,m5,c5,M5,e5,hm5,hc5,hl5,h5⟩:=hV 5 (by decide)
      simp only[e0,e1,e2,e3,e5]
      clear e0 e1 e2 e3 e5
      refine wpAny_done (by kernel_rfl) ?_ _
      obtain⟨-, -,o6, -,hB6, -⟩:=hS
      replace b4:Blk w' w.heap.size 26 #[.int .i64 P,.slice A n c]:=b4
      obtain⟨p0,p1⟩:=b4.two
      have HR6:=Lib.hid h5.rd
      have HL6:=Lib.hid hl5
      clear h5 h3 hl3 hl5
      go_wp2
      exact bodyPost_ret (v:=.tuple #[.agg #[.int .i64 P,.slice A n c],.slice A5 m5 c5]) (by simp[results,Tryz.results34,go_sem,p0,p1]) rfl ⟨P,A,n,c,st,A5,m5,c5,M5,rfl,hP,hn,hm5,hc5,o6,HR6.out,HL6.out,hB6⟩
    ·have n3b:¬ (n:Int)≤3:=by omega
     go_wp2_with fail
     refine his.mono ?_
     rintro e v1 ⟨rfl,hb1⟩
     replace kr:=kr.below hb1 kr.lt
     replace kb:=kb.below hb1 kb.lt
     replace oA:=oA.below hb1
     replace hS0:=hS0.below hb1
     replace hBq:=hBq.trans (hb1.mono hBq.size)
     clear his hb1 q0 q1
     obtain⟨wq,hwq⟩:∃ W,W=v1:=⟨_,rfl⟩
     rw[← hwq]at kr kb oA hS0 hBq ⊢
     clear hwq
     have hgq:=hS0.lt
     have hrq:w.heap.size<wq.heap.size:=kr.lt
     obtain⟨q0,q1⟩:=kb.two
     go_wp2
     refine xy 6 (fun w1 w2=>Dr g 124 w1 w2∨RelE w.heap.size P A n c w1 w2) [[],[],[],[1,2],[0],[1,2,3]] [[],[],[],[98],[99],[]] (fun x=>[VIs (.agg #[.int .i64 P,.slice A n c]),VIs (.pointer (some ⟨g,0,none⟩)),VIs (.agg #[.int .i64 P,.slice A n c]),VSkD wq.heap.size,VBk w.heap.size 26 #[.int .i64 P,.slice A n c],VSkD wq.heap.size]) (fun w'=>SBd w.heap.size w'∧Blk w' bx 26 #[.int .i64 P,.slice A n c]∧Own w' w.heap.size 2 A n c (ints st)∧Src w' g 124∧Below w.heap.size w w'∧wq.heap.size≤w'.heap.size) (by kernel_rfl) (by kernel_rfl) (fun x x' j hx=>by
      rcases j with _ | _ | _ | _ | _ | _ | j
      ·rfl
      ·rfl
      ·rfl
      ·rfl
      ·rfl
      ·rfl
      ·rfl)
      (z6 [0,1,2,3,4,5] (by decide) (fun k hk x v w w' hp hr=>by
       simp only[List.mem_cons,zJ,or_false]at hk
       rcases hk with rfl | rfl | rfl | rfl | rfl | rfl
       ·exact hp
       ·exact hp
       ·exact hp
       ·exact VSkD.step hgq hrq hp hr
       ·exact VBk.step_ (by decide) hp hr
       ·exact VSkD.step hgq hrq hp hr)) (fun j _ _ h hb=>hb.either (fun hb=>⟨h.1.below hb,h.2.1.below hb h.2.1.lt,h.2.2.1.below hb,h.2.2.2.1.below hb,h.2.2.2.2.1.trans (hb.mono h.2.2.2.2.1.size),Nat.le_trans h.2.2.2.2.2 hb.size⟩) (fun hr=>by
        rcases hr with hr | hr
        ·exact⟨h.1.dr_ hr (by decide),h.2.1.dr hr (by decide),h.2.2.1.dr hr (by decide),hr.s',hr.down h.2.2.2.2.1 hgw,Nat.le_trans h.2.2.2.2.2 hr.size⟩
        ·exact⟨h.1.relD hr.relD,h.2.1.relD (Nat.ne_of_gt hbx) hr.relD,h.2.2.1.relD (by decide) hr.relD,h.2.2.2.1.relDg hr.relD,xA h.2.2.2.2.1 (Nat.le_refl _) hr.relD,by rw[ve hr.relD];exact h.2.2.2.2.2⟩)) (⟨⟨_,_,_,_,kr.drew⟩,kb.drew,oA.below zG.drew,hS0.below zG.drew,hBq.trans (zG.drew),Nat.le_refl _⟩) (fun x=>?_)
     refine yd (Eq.trans (by simp only[zA,zC];exact rfl) rfl) rfl (fun w' hS hV K hK=>?_) ?_
     ·obtain⟨q0,q1⟩:=hS.2.1.two;go_simp;exact hK.out _ _ _ rfl rfl rfl zG
     simp only[zD,zE,zF]
     refine yd (Eq.trans (by simp only[zA,zB,zC];exact rfl) rfl) rfl (fun w' hS hV K hK=>?_) ?_
     ·obtain⟨q0,q1⟩:=hS.2.1.two;go_simp;exact hK.out _ _ _ rfl rfl rfl zG
     simp only[zD,zE,zF]
     refine yd (Eq.trans (by simp only[zA,zB,zC];exact rfl) rfl) rfl (fun w' hS hV K hK=>?_) ?_
     ·obtain⟨q0,q1⟩:=hS.2.1.two;go_simp;exact hK.out _ _ _ rfl rfl rfl zG
     simp only[zD,zE,zF]
     refine yd (Eq.trans (by simp only[zA,zB,zC];exact rfl) rfl) rfl (fun w' hS hV K hK=>?_) ?_
     ·have e1:=zQ hV 1;have e2:=zQ hV 2;obtain⟨q0,q1⟩:=hS.2.1.two;go_simp;refine (vY g P A n c st w' hS.2.2.2.1 hP.1 hP.2 hn hS.2.2.1.cap (hS.2.2.1.base (Nat.zero_le _))).mono ?_;rintro e v1 ⟨A9,m9,c9,M9,rfl,hm9,hc9,hr9,hl9,hd9⟩;exact hK.out _ _ _ rfl rfl ⟨_,_,_,_,rfl,hm9,hc9,hl9,hr9.base hS.2.2.2.2.2⟩ (StepR.rel rfl (.inl hd9))
     simp only[zD,zE,zF]
     refine xp (Eq.trans (by simp only[zA,zB,zC];exact rfl) rfl) rfl (fun w' hS hV K hK=>?_) ?_
     ·have e0:=zQ hV 0;obtain⟨q0,q1⟩:=hS.2.1.two;obtain⟨p9,A9,n9,c9,k9⟩:=hS.1;obtain⟨t0,t1⟩:=k9.two;have f0:=k9.frozen 0;have f1:=k9.frozen 1;go_simp;exact hK.out _ _ rfl k9.storedD (StepR.rel rfl (.inr ⟨_,_,_,_,k9,rfl⟩))
     refine yd (Eq.trans (by simp only[zA,zB,zC];exact rfl) rfl) rfl (fun w' hS hV K hK=>?_) ?_
     ·obtain⟨A3,m3,c3,M3,e3,hm3,hc3,hl3,h3⟩:=hV 3 (by decide);obtain⟨q0,q1⟩:=hS.2.1.two;go_simp;exact hK.out _ _ _ rfl rfl ⟨_,_,_,_,rfl,hm3,hc3,hl3,h3⟩ zG
     simp only[zD,zE,zF]
     refine fun w' hS hV=>?_
     have e0:=zQ hV 0
     have e1:=zQ hV 1
     have e2:=zQ hV 2
     obtain⟨A3,m3,c3,M3,e3,hm3,hc3,hl3,h3⟩:=hV 3 (by decide)
     have b4:=hV 4 (by decide)
     obtain⟨A5,m5,c5,M5,e5,hm5,hc5,hl5,h5⟩:=hV 5 (by decide)
     simp only[e0,e1,e2,e3,e5]
     clear e0 e1 e2 e3 e5
     refine wpAny_done (by kernel_rfl) ?_ _
     obtain⟨-, -,o6, -,hB6, -⟩:=hS
     replace b4:Blk w' w.heap.size 26 #[.int .i64 P,.slice A n c]:=b4
     obtain⟨p0,p1⟩:=b4.two
     have HR6:=Lib.hid h5.rd
     have HL6:=Lib.hid hl5
     clear h5 h3 hl3 hl5
     go_wp2
     exact bodyPost_ret (v:=.tuple #[.agg #[.int .i64 P,.slice A n c],.slice A5 m5 c5]) (by simp[results,Tryz.results34,go_sem,p0,p1]) rfl ⟨P,A,n,c,st,A5,m5,c5,M5,rfl,hP,hn,hm5,hc5,o6,HR6.out,HL6.out,hB6⟩
set_option maxHeartbeats 3200000 in
set_option maxRecDepth 8000 in
theorem yaE (B:Option Addr) (nb cb:Nat) (bs:List Int) (w:World) (hnb:nb≤4096) (r:Rd w B nb (bs.map (Value.int .u8))) (hbs:∀ b∈bs,0≤b∧b<256) (hbg:∀ a,B=some a→a.block<w.heap.size) :
 Calls Tryz.prog 37 #[.slice B nb cb] w (ydp w):=by
 have hB0:Below w.heap.size w (w.alloc (.cells #[.int .i64 0,.slice none 0 0] 26)):=zG.alloc (Nat.le_refl _) _
 have k0:Blk (w.alloc (.cells #[.int .i64 0,.slice none 0 0] 26)) w.heap.size 26 #[.int .i64 0,.slice none 0 0]:=Blk.new _ _ _
 have hfr:=jR B nb cb bs (w.alloc (.cells #[.int .i64 0,.slice none 0 0] 26)) hnb (r.below hB0) hbs (fun a e=>by have:=hbg a e;simp;omega)
 go_enter Tryz.func37,Tryz.ntmps37
 go_wp2_with fail
 refine hfr.mono ?_
 rintro e w2 ⟨g,rfl,hg,hs2,hb2⟩
 have k2:=k0.below hb2 k0.lt
 have hB2:=hB0.trans (hb2.mono hB0.size)
 have hgw:w.heap.size≤g:=Nat.le_trans hB0.size hg
 have hfr2:=jR B nb cb bs w2 hnb (r.below hB2) hbs (fun a e=>Nat.lt_of_lt_of_le (hbg a e) hB2.size)
 clear hfr hb2 k0 hB0 hg
 go_wp2_with fail
 refine hfr2.mono ?_
 rintro e w3 ⟨g2,rfl,hg2,hs3,hb3⟩
 have hnx:=yr g2 8 w3 hs3 (by omega)
 clear hfr2 hs3
 go_wp2_with fail
 refine hnx.mono ?_
 rintro e w4 ⟨r0,rfl,hr0,hr8,hd4⟩
 have hb4:=hd4.down hb3 hg2
 have hs4:=hs2.below hb4
 have k4:=k2.below hb4 k2.lt
 have hB4:=hB2.trans (hb4.mono hB2.size)
 have hr8':=hr8 (by omega)
 obtain⟨q7,hq7⟩:∃ z,z=r0 / 7:=⟨_,rfl⟩
 have hq0:0≤q7:=by omega
 have hq1:q7≤1:=by omega
 have T1:r0.tdiv 7=q7:=by rw[Int.tdiv_eq_ediv_of_nonneg hr0,hq7]
 have W1:wrap64 q7=q7:=by unfold wrap64;omega
 have W2:wrap64 (2+q7)=2+q7:=by unfold wrap64;omega
 have hda:=j3 g (2+q7) w4 hs4 (by omega) (by omega)
 clear hnx hs2 hd4 hb3 hb4 k2 hB2 hr8 hq7
 go_wp2_with fail
 refine hda.mono ?_
 rintro e w5 ⟨P,A,n,c,st,rfl,hP0,hP,hn,hO,hd5⟩
 have k5:=k4.dr hd5 (by decide)
 have hB5:=hd5.down hB4 hgw
 have hO5:=hO.base (B':=w.heap.size) hB4.size
 obtain⟨p0,p1⟩:=k5.two
 have f0:=k5.frozen 0
 have f1:=k5.frozen 1
 have hrl:RelD w.heap.size w5 ((w5.setCell ⟨w.heap.size,0,none⟩ (.int .i64 P)).setCell ⟨w.heap.size,1,none⟩ (.slice A n c)):=⟨_,_,_,_,_,_,_,_,k5,rfl⟩
 clear hda hd5 hO hs4 k4 hB4
 go_wp2
 exact bodyPost_ret (v:=.agg #[.int .i64 P,.slice A n c]) (by simp[results,Tryz.results37,go_sem,p0,p1]) rfl ⟨P,A,n,c,st,rfl,hP0,hP,hn,hO5.relD (by decide) hrl,xA hB5 (Nat.le_refl _) hrl⟩
set_option maxHeartbeats 3200000 in
set_option maxRecDepth 8000 in
theorem yeK (g:Nat) (P:Int) (A:Option Addr) (k c:Nat) (w:World) (hs:Src w g 85) (hP:1≤P) (hP2:P≤17) (hk:k≤4) :
 Calls Tryz.prog 15 #[.pointer (some ⟨g,0,none⟩),.agg #[.int .i64 P,.slice A k c]] w fun e w'=>∃ (A':Option Addr) (c':Nat) (ys:List Int),e=.returned (.slice A' (pw k) c')∧NumsL P ys∧Own w' w.heap.size 2 A' (pw k) c' (ints ys)∧Dr g 85 w w':=by
 have hd1:=((Dr.refl hs).alloc (.cells #[.int .i64 P,.slice A k c] 26)).alloc (.cells #[] 2)
 have k1:Blk ((w.alloc (.cells #[.int .i64 P,.slice A k c] 26)).alloc (.cells #[] 2)) w.heap.size 26 #[.int .i64 P,.slice A k c]:=(Blk.new _ _ _).alloc _
 have hO1:Own ((w.alloc (.cells #[.int .i64 P,.slice A k c] 26)).alloc (.cells #[] 2)) w.heap.size 2 (some ⟨w.heap.size+1,0,none⟩) 0 0 (ints []):=Own.of_cells (cs:=#[]) (by omega) (Blk.newAt3 (w:=w.alloc (.cells #[.int .i64 P,.slice A k c] 26)) (g:=w.heap.size+1) (by simp)) (by simp[maxLen])
 have hpk:pw k≤16:=yz hk
 have WPW:=uV k (show k≤30 by omega)
 obtain⟨w1,hw1⟩:∃ W,W=((w.alloc (.cells #[.int .i64 P,.slice A k c] 26)).alloc (.cells #[] 2)):=⟨_,rfl⟩
 go_enter Tryz.func15,Tryz.ntmps15
 go_wp2
 rw[← hw1]at hd1 k1 hO1 ⊢
 clear hw1
 go_loopw [5,6] (fun out i wr=>∃ (j:Nat) (A':Option Addr) (c':Nat) (ys:List Int),j≤pw k∧i=.int .i64 j∧out=.slice A' j c'∧Blk wr w.heap.size 26 #[.int .i64 P,.slice A k c]∧Hid (NumsL P ys)∧Hid (Own wr w.heap.size 2 A' j c' (ints ys))∧Hid (Dr g 85 w wr)) (fun _ i _=>pw k-(intOf i).toNat)
 case atStart=>exact⟨0,_,_,[],by omega,rfl,rfl,k1,Lib.hid (fun x hx=>by cases hx),Lib.hid hO1,Lib.hid hd1⟩
 case round=>
  obtain⟨j,A',c',ys,hj,rfl,rfl,k4,HN,HO,HD⟩:=hrel
  clear k1 hO1 hd1
  obtain⟨q0,q1⟩:=k4.two
  by_cases hlt:j<pw k
  ·have d1:decide ((j:Int)<(pw k:Int))=true:=by rw[decide_eq_true_eq];omega
   have hbl:=ydH g P wr HD.out.s' (by omega)
   go_wp2_with fail
   refine hbl.mono ?_
   rintro e w5 ⟨r,rfl,h1,h2,hd5⟩
   have k5:=k4.dr hd5 (by decide)
   have HN2:Hid (NumsL P (ys++[r])):=Lib.hid (fun x hx=>by
    rcases List.mem_append.1 hx with h | h
    ·exact HN.out x h
    ·obtain rfl:x=r:=by simpa using h
     exact⟨h1,h2 (by omega)⟩)
   have HO5:=Lib.hid (HO.out.dr hd5 (by decide))
   have HD5:=Lib.hid (HD.out.trans hd5)
   clear hbl k4 q0 q1 HN HO HD h1 h2 hd5
   go_wp2_with (at_builtin;refine yt (cutW w5 w.heap.size) w5 24 2 _ _ Tryz.underlying24 yo rfl (by omega) rfl _ _ rfl A' j c' _ _ (HO5.out.mk_ HD5.out.size) (by omega) rfl rfl rfl ?_;intro A8 c8 w8 hM8 hg8 _)
   have hO8:=hM8.own_ (yv HD5.out.size)
   have k8:=k5.grown hg8 (HO5.out.ne_blk k5 (by decide))
   have hd8:=HD5.out.grown HO5.out hg8
   clear hM8 hg8 k5
   go_roundw
   case rel=>exact⟨j+1,A8,c8,ys++[r],by omega,by go_num,rfl,k8,HN2,Lib.hid (by simpa [ints] using hO8),Lib.hid hd8⟩
   case measure=>simp[intOf];omega
  ·have d1:decide ((j:Int)<(pw k:Int))=false:=by rw[decide_eq_false_iff_not];omega
   obtain rfl:j=pw k:=by omega
   go_wp2
   go_ret
   exact⟨_,_,ys,rfl,HN.out,HO.out,HD.out⟩
end Go.Proofs.YtaiegpggccdgoaaGreat
namespace Go.Proofs.YtaiegpggccdgoaaGreat
open Go.RowKit
theorem ydJ (A:Option Addr) (n c:Nat) (w:World) :
 Calls Tryz.prog 6 #[.slice A n c] w fun e w'=>e=.returned (.bool (decide (4096<n)))∧w=w':=by
 go_enter Tryz.func6,Tryz.ntmps6
 by_cases h:4096<n
 ·have d1:decide ((4096:Int)<(n:Int))=true:=by rw[decide_eq_true_eq];omega
  go_wp2
  go_ret
  exact⟨yJ (by rw[eq_comm,decide_eq_true_eq];exact h),rfl⟩
 ·have d1:decide ((4096:Int)<(n:Int))=false:=by rw[decide_eq_false_iff_not];omega
  go_wp2
  go_ret
  exact⟨yJ (by rw[eq_comm,decide_eq_false_iff_not];exact h),rfl⟩
end Go.Proofs.YtaiegpggccdgoaaGreat

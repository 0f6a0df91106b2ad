/-
  LawFnCompleteTriples: part 10 of the texts that the proof needs. No condition.
-/
import Derived.Test.YtaiegpggccdgoaaGreatK9
namespace Go.Proofs.YtaiegpggccdgoaaGreat
open Go Go.RowKit
theorem Rd.cutT {w:World} {A:Option Addr} {n k:Nat} {us:List Value} (h:Rd w A n us) (hk:k≤n):Rd w A k (us.take k):=⟨by rw[List.length_take,h.1];omega,fun hn=>by
 obtain⟨g,o,e,hc⟩:=h.2 (by omega)
 exact⟨g,o,e,fun j u hu=>hc j u (by
  rw[List.getElem?_take]at hu
  split at hu
  ·exact hu
  ·cases hu)⟩⟩
def VwT (A0:Option Addr) (n0:Nat) (us:List Value) (A:Option Addr) (n:Nat) (xs:List Int):Prop:=(n=0∧xs=[]) ∨ ∃ (g o:Nat) (ys:List Int),A0=some ⟨g,0,none⟩∧A=some ⟨g,o,none⟩∧us=ints ys∧0<n∧o+n≤n0∧xs=(ys.drop o).take n
theorem VwT.rd {w:World} {B:Nat} {A0:Option Addr} {n0 c0:Nat} {us:List Value} {A:Option Addr} {n:Nat} {xs:List Int} (h:VwT A0 n0 us A n xs) (ho:Own w B 2 A0 n0 c0 us):Rd w A n (ints xs):=by
 rcases h with ⟨rfl,rfl⟩ | ⟨g,o,ys,rfl,rfl,rfl,h0,hle,rfl⟩
 ·exact Rd.nil _ _
 ·obtain⟨g',o',e,hr⟩:=ho.rd.behind (show o<n0 by omega)
  injection e with e
  injection e with e1 e2 _
  subst e1;subst e2
  have:=hr.cutT (show n≤n0-o by omega)
  rw[vc,Nat.zero_add]at this
  rw[show ints ((ys.drop o).take n)=(ints (ys.drop o)).take n by unfold ints;rw[List.map_take]]
  exact this
def OwnT (w:World) (B:Nat) (A:Option Addr) (n c:Nat) (xs:List Int):Prop:=n≤c ∧ ∃ (A0:Option Addr) (n0 c0:Nat) (us:List Value),Own w B 2 A0 n0 c0 us∧VwT A0 n0 us A n xs
theorem OwnT.of {w:World} {B:Nat} {A:Option Addr} {n c:Nat} {xs:List Int} (h:Own w B 2 A n c (ints xs)):OwnT w B A n c xs:=by
 refine⟨h.cap,A,n,c,ints xs,h,?_⟩
 have hl:xs.length=n:=by have:=h.len;rwa [yD]at this
 by_cases h0:n=0
 ·exact .inl ⟨h0,List.eq_nil_of_length_eq_zero (by omega)⟩
 ·rcases h.form with ⟨_,hz⟩ | ⟨g,rfl, -, -⟩
  ·exact absurd hz h0
  ·exact .inr ⟨g,0,xs,rfl,rfl,rfl,by omega,by omega,by rw[List.drop_zero,List.take_of_length_le (by omega)]⟩
theorem OwnT.rd {w:World} {B:Nat} {A:Option Addr} {n c:Nat} {xs:List Int} (h:OwnT w B A n c xs):Rd w A n (ints xs):=by obtain⟨_,_,_,_,_,ho,hr⟩:=h;exact hr.rd ho
theorem OwnT.below {w w':World} {B:Nat} {A:Option Addr} {n c:Nat} {xs:List Int} (h:OwnT w B A n c xs) (hb:Below w.heap.size w w'):OwnT w' B A n c xs:=by
 obtain⟨hc,A0,n0,c0,us,ho,hr⟩:=h;exact⟨hc,A0,n0,c0,us,ho.below hb,hr⟩
theorem OwnT.base {w:World} {B B':Nat} {A:Option Addr} {n c:Nat} {xs:List Int} (h:OwnT w B A n c xs) (hB:B'≤B):OwnT w B' A n c xs:=by
 obtain⟨hc,A0,n0,c0,us,ho,hr⟩:=h;exact⟨hc,A0,n0,c0,us,ho.base hB,hr⟩
theorem OwnT.dr {w w':World} {g B:Nat} {T:TypeId} {A:Option Addr} {n c:Nat} {xs:List Int} (h:OwnT w B A n c xs) (d:Dr g T w w') (hne:2≠T):OwnT w' B A n c xs:=by
 obtain⟨hc,A0,n0,c0,us,ho,hr⟩:=h;exact⟨hc,A0,n0,c0,us,ho.dr d hne,hr⟩
theorem OwnT.grown {w w':World} {B B2:Nat} {E:TypeId} {A A2:Option Addr} {n c n2 c2:Nat} {xs:List Int} {us:List Value} (h:OwnT w B A n c xs) (ho2:Own w B2 E A2 n2 c2 us) (hE:2≠E) (hg:w.grownBy w' (Value.slice A2 n2 c2).ownBlock):OwnT w' B A n c xs:=by
 obtain⟨hc,A0,n0,c0,us,ho,hr⟩:=h;exact⟨hc,A0,n0,c0,us,ho.grown hg (ho.ne ho2 hE),hr⟩
theorem OwnT.tail {w:World} {B g m c:Nat} {xs:List Int} (h:Own w B 2 (some ⟨g,0,none⟩) (m+1) c (ints xs)):OwnT w B (some ⟨g,if c=1 then 0 else 1,none⟩) m (c-1) (xs.drop 1):=by
 have hc:=h.cap
 have hl:xs.length=m+1:=by have:=h.len;rwa [yD]at this
 refine⟨by omega,_,_,_,_,h,?_⟩
 by_cases hm:m=0
 ·subst hm
  exact .inl ⟨rfl,List.drop_eq_nil_of_le (by omega)⟩
 ·rw[if_neg (by omega)]
  exact .inr ⟨g,1,xs,rfl,rfl,rfl,by omega,by omega,by rw[List.take_of_length_le (by rw[List.length_drop];omega)]⟩
theorem OwnT.none_ (w:World) (B:Nat) (A:Option Addr) (c:Nat):OwnT w B A 0 c []:=⟨Nat.zero_le _,none,0,0,[],World.ownsRow_nil _ _ _ _,.inl ⟨rfl,rfl⟩⟩
theorem OwnT.tail1 {w:World} {B g m c:Nat} {xs:List Int} (h:Own w B 2 (some ⟨g,0,none⟩) (m+1) c (ints xs)) (hc:¬ c=1):OwnT w B (some ⟨g,1,none⟩) m (c-1) (xs.drop 1):=by
 have:=OwnT.tail h;rw[if_neg hc]at this;exact this
theorem xd {g m c:Nat} (w:World) (hk:1≤m) (hc:m≤c):(Instr.slice 24 (.slice (some ⟨g,0,none⟩) m c) (some (.int .i64 1)) none none).run Tryz.prog w=.ok (.slice (some ⟨g,if c=1 then 0 else 1,none⟩) (m-1) (c-1)) w:=by
 have h:=run_slice_l (P:=Tryz.prog) (w:=w) (t:=24) (a:=some ⟨g,0,none⟩) (len:=m) (cap:=c) (ht:=by kernel_rfl) (kl:=.i64) (l:=1) (h0:=by omega) (h1:=by omega)
 rw[h]
 by_cases h1:c=1
 ·subst h1;simp[go_sem,sliced,Addr.add]
 ·simp[go_sem,sliced,h1,Addr.add]
set_option maxHeartbeats 3200000 in
set_option maxRecDepth 8000 in
theorem yfC (g:Nat) (P:Int) (A:Option Addr) (c:Nat) (w:World) (hs:Src w g 124) (hP0:0≤P) (hP17:P≤17) :
 Calls Tryz.prog 46 #[.pointer (some ⟨g,0,none⟩),.agg #[.int .i64 P,.slice A 0 c]] w fun e w'=>∃ (A':Option Addr) (m c':Nat) (xs:List Int),e=.returned (.slice A' m c')∧m≤16∧OwnT w' w.heap.size A' m c' xs∧Dr g 124 w w':=by
 have hd1:=((Dr.refl hs).alloc (.cells #[.int .i64 P,.slice A 0 c] 26)).alloc (.cells #[] 2)
 have k1:Blk ((w.alloc (.cells #[.int .i64 P,.slice A 0 c] 26)).alloc (.cells #[] 2)) w.heap.size 26 #[.int .i64 P,.slice A 0 c]:=(Blk.new _ _ _).alloc _
 have hO1:Own ((w.alloc (.cells #[.int .i64 P,.slice A 0 c] 26)).alloc (.cells #[] 2)) w.heap.size 2 (some ⟨w.heap.size+1,0,none⟩) 0 0 (ints []):=by
  have:=(Mk.lit (E:=2) ((Below.refl w.heap.size w).alloc (Nat.le_refl _) (.cells #[.int .i64 P,.slice A 0 c] 26)) #[] (by simp)).2
  simpa [ints] using this
 have hnx:=yr g 4 _ hd1.s' (by omega)
 go_enter Tryz.func46,Tryz.ntmps46
 go_wp2_with fail
 refine hnx.mono ?_
 rintro e w2 ⟨kd,rfl,kd1,kd2,hd2⟩
 have kd3:=kd2 (by omega)
 have k2:=k1.dr hd2 (by decide)
 have HO2:=Lib.hid (hO1.dr hd2 (by decide))
 have HD2:=Lib.hid (hd1.trans hd2)
 clear hnx hd1 k1 hO1 hd2 kd2
 by_cases hP1:P≤1
 all_goals
  go_wp2
  go_loopw [5,7] (fun out i wr=>∃ (j:Nat) (A1:Option Addr) (c1:Nat) (xs:List Int),j≤1∧i=.int .i64 j∧out=.slice A1 j c1∧Hid (Own wr w.heap.size 2 A1 j c1 (ints xs))∧Blk wr w.heap.size 26 #[.int .i64 P,.slice A 0 c]∧Hid (Dr g 124 w wr)) (fun _ i _=>1-(intOf i).toNat)
  case atStart=>exact⟨0,_,_,[],by omega,rfl,rfl,HO2,k2,HD2⟩
  case round=>
   obtain⟨j,A1,c1,xs,hj,rfl,rfl,HO,kr,HD⟩:=hrel
   clear k2 HO2 HD2
   obtain⟨q0,q1⟩:=kr.two
   by_cases hlt:j<1
   ·have hjl:decide ((j:Int)<1)=true:=by rw[decide_eq_true_eq];omega
    go_wp2_with fail
    refine (yr g _ _ HD.out.s' (by omega)).mono ?_
    rintro e w3 ⟨r3,rfl,_,_,d3⟩
    replace HO:=Lib.hid (HO.out.dr d3 (by decide))
    replace HD:=Lib.hid (HD.out.trans d3)
    have k3:=kr.dr d3 (by decide)
    clear q0 q1 kr d3
    by_cases hk0:kd=0
    ·subst hk0
     go_wp2_with fail
     refine (yr g 3 _ HD.out.s' (by omega)).mono ?_
     rintro e wA ⟨r4,rfl,_,_,d4⟩
     replace HO:=Lib.hid (HO.out.dr d4 (by decide))
     replace HD:=Lib.hid (HD.out.trans d4)
     have kA:=k3.dr d4 (by decide)
     clear k3 d4
     by_cases hr4:0<r4
     ·have hr4b:decide (0<r4)=true:=by simpa using hr4
      go_wp2_with (at_builtin;refine yt (cutW wA w.heap.size) wA 24 2 _ _ Tryz.underlying24 yo rfl (by omega) rfl _ _ rfl A1 j c1 _ _ (HO.out.mk_ HD.out.size) (by omega) rfl rfl rfl ?_;intro A8 c8 w8 hM8 hg8 _)
      have k8:=kA.grown hg8 (HO.out.ne_blk kA (by decide))
      have hO3:=hM8.own_ (yv HD.out.size)
      have hd3:=HD.out.grown HO.out hg8
      clear hM8 hg8 kA
      go_roundw
      case rel=>exact⟨j+1,A8,c8,xs++[0],by omega,by go_num,rfl,Lib.hid (by simpa [ints] using hO3),k8,Lib.hid hd3⟩
      case measure=>simp[intOf];omega
     ·have hr4b:decide (0<r4)=false:=by simpa using hr4
      go_wp2_with (at_builtin;refine yt (cutW wA w.heap.size) wA 24 2 _ _ Tryz.underlying24 yo rfl (by omega) rfl _ _ rfl A1 j c1 _ _ (HO.out.mk_ HD.out.size) (by omega) rfl rfl rfl ?_;intro A8 c8 w8 hM8 hg8 _)
      have k8:=kA.grown hg8 (HO.out.ne_blk kA (by decide))
      have hO3:=hM8.own_ (yv HD.out.size)
      have hd3:=HD.out.grown HO.out hg8
      clear hM8 hg8 kA
      go_roundw
      case rel=>exact⟨j+1,A8,c8,xs++[r3],by omega,by go_num,rfl,Lib.hid (by simpa [ints] using hO3),k8,Lib.hid hd3⟩
      case measure=>simp[intOf];omega
    ·have hk0b:(kd == 0)=false:=by simpa using hk0
     obtain⟨wA,hwA⟩:∃ W,W=w3:=⟨_,rfl⟩
     rw[← hwA]at HO HD k3 ⊢
     have kA:=k3
     clear k3 hwA
     go_wp2_with (at_builtin;refine yt (cutW wA w.heap.size) wA 24 2 _ _ Tryz.underlying24 yo rfl (by omega) rfl _ _ rfl A1 j c1 _ _ (HO.out.mk_ HD.out.size) (by omega) rfl rfl rfl ?_;intro A8 c8 w8 hM8 hg8 _)
     have k8:=kA.grown hg8 (HO.out.ne_blk kA (by decide))
     have hO3:=hM8.own_ (yv HD.out.size)
     have hd3:=HD.out.grown HO.out hg8
     clear hM8 hg8 kA
     go_roundw
     case rel=>exact⟨j+1,A8,c8,xs++[r3],by omega,by go_num,rfl,Lib.hid (by simpa [ints] using hO3),k8,Lib.hid hd3⟩
     case measure=>simp[intOf];omega
   ·obtain rfl:j=1:=by omega
    have hjl:decide (((1:Nat):Int)<1)=false:=by simp
    go_wp2_with fail
    refine (yr g 60 _ HD.out.s' (by omega)).mono ?_
    rintro e w3 ⟨sw,rfl,_,_,d3⟩
    replace HO:=Lib.hid (HO.out.dr d3 (by decide))
    replace HD:=Lib.hid (HD.out.trans d3)
    have k3:=kr.dr d3 (by decide)
    clear q0 q1 kr d3
    rcases HO.out.form with ⟨_,hz⟩ | ⟨gA,rfl,hg1,hg2⟩
    ·omega
    by_cases hs0:sw=0
    ·have hs0b:(sw == 0)=true:=by simp[hs0]
     obtain⟨q0,q1⟩:=k3.two
     have hd6:=(Dr.refl HD.out.s').alloc (.cells #[.int .i64 (-1),.int .i64 P] 2)
     have hpk:=xJ g w3.heap.size [-1,P] _ hd6.s' (by rw[vE];exact Blk.new w3 2 _) (by simp) (by simp)
     go_wp2_with fail
     refine hpk.mono ?_
     rintro e w4 ⟨r4,_,rfl,d4⟩
     replace HO:=Lib.hid (HO.out.dr (hd6.trans d4) (by decide))
     replace HD:=Lib.hid (HD.out.trans (hd6.trans d4))
     obtain⟨u0,hc0⟩:=HO.out.cellI (show 0<1 by omega)
     have ff:=HO.out.frozen_ 0
     obtain⟨hO7,hg7⟩:=HO.out.set_ 0 (.int .i64 r4)
     rw[yN]at hO7
     have hd7:=HD.out.grown HO.out hg7
     clear hpk hd6 d4 k3 q0 q1 hg7
     go_wp2
     go_ret
     first | exact⟨_,_,_,_,rfl,by omega,OwnT.of hO7,hd7⟩ | exact⟨_,_,_,rfl,by omega,⟨_,OwnT.of hO7⟩,hd7⟩
    ·have hs0b:(sw == 0)=false:=by simpa using hs0
     by_cases hs1:sw=1
     ·have hs1b:(sw == 1)=true:=by simp[hs1]
      have hcp:=HO.out.cap
      by_cases hc1:c1=1
      ·subst hc1
       have sl:=fun w=>xd (g:=gA) (m:=1) (c:=1) w (by omega) hcp
       rw[if_pos rfl]at sl
       go_wp2
       go_ret
       first | exact⟨_,_,_,[],rfl,by omega,OwnT.none_ _ _ _ _,HD.out⟩ | exact⟨_,_,_,rfl,by omega,⟨[],OwnT.none_ _ _ _ _⟩,HD.out⟩
      ·have sl:=fun w=>xd (g:=gA) (m:=1) (c:=c1) w (by omega) hcp
       rw[if_neg hc1]at sl
       clear hcp
       go_wp2
       go_ret
       first | exact⟨_,_,_,_,rfl,by omega,OwnT.tail1 (m:=1-1) HO.out hc1,HD.out⟩ | exact⟨_,_,_,rfl,by omega,⟨_,OwnT.tail1 (m:=1-1) HO.out hc1⟩,HD.out⟩
     ·have hs1b:(sw == 1)=false:=by simpa using hs1
      go_wp2
      go_ret
      first | exact⟨_,_,_,_,rfl,by omega,OwnT.of HO.out,HD.out⟩ | exact⟨_,_,_,rfl,by omega,⟨_,OwnT.of HO.out⟩,HD.out⟩
set_option maxHeartbeats 3200000 in
set_option maxRecDepth 8000 in
theorem yfD (g:Nat) (P:Int) (A:Option Addr) (c:Nat) (w:World) (hs:Src w g 124) (hP0:0≤P) (hP17:P≤17) :
 Calls Tryz.prog 46 #[.pointer (some ⟨g,0,none⟩),.agg #[.int .i64 P,.slice A 1 c]] w fun e w'=>∃ (A':Option Addr) (m c':Nat) (xs:List Int),e=.returned (.slice A' m c')∧m≤16∧OwnT w' w.heap.size A' m c' xs∧Dr g 124 w w':=by
 have hd1:=((Dr.refl hs).alloc (.cells #[.int .i64 P,.slice A 1 c] 26)).alloc (.cells #[] 2)
 have k1:Blk ((w.alloc (.cells #[.int .i64 P,.slice A 1 c] 26)).alloc (.cells #[] 2)) w.heap.size 26 #[.int .i64 P,.slice A 1 c]:=(Blk.new _ _ _).alloc _
 have hO1:Own ((w.alloc (.cells #[.int .i64 P,.slice A 1 c] 26)).alloc (.cells #[] 2)) w.heap.size 2 (some ⟨w.heap.size+1,0,none⟩) 0 0 (ints []):=by
  have:=(Mk.lit (E:=2) ((Below.refl w.heap.size w).alloc (Nat.le_refl _) (.cells #[.int .i64 P,.slice A 1 c] 26)) #[] (by simp)).2
  simpa [ints] using this
 have hnx:=yr g 4 _ hd1.s' (by omega)
 go_enter Tryz.func46,Tryz.ntmps46
 go_wp2_with fail
 refine hnx.mono ?_
 rintro e w2 ⟨kd,rfl,kd1,kd2,hd2⟩
 have kd3:=kd2 (by omega)
 have k2:=k1.dr hd2 (by decide)
 have HO2:=Lib.hid (hO1.dr hd2 (by decide))
 have HD2:=Lib.hid (hd1.trans hd2)
 clear hnx hd1 k1 hO1 hd2 kd2
 by_cases hP1:P≤1
 all_goals
  go_wp2
  go_loopw [5,7] (fun out i wr=>∃ (j:Nat) (A1:Option Addr) (c1:Nat) (xs:List Int),j≤2∧i=.int .i64 j∧out=.slice A1 j c1∧Hid (Own wr w.heap.size 2 A1 j c1 (ints xs))∧Blk wr w.heap.size 26 #[.int .i64 P,.slice A 1 c]∧Hid (Dr g 124 w wr)) (fun _ i _=>2-(intOf i).toNat)
  case atStart=>exact⟨0,_,_,[],by omega,rfl,rfl,HO2,k2,HD2⟩
  case round=>
   obtain⟨j,A1,c1,xs,hj,rfl,rfl,HO,kr,HD⟩:=hrel
   clear k2 HO2 HD2
   obtain⟨q0,q1⟩:=kr.two
   by_cases hlt:j<2
   ·have hjl:decide ((j:Int)<2)=true:=by rw[decide_eq_true_eq];omega
    go_wp2_with fail
    refine (yr g _ _ HD.out.s' (by omega)).mono ?_
    rintro e w3 ⟨r3,rfl,_,_,d3⟩
    replace HO:=Lib.hid (HO.out.dr d3 (by decide))
    replace HD:=Lib.hid (HD.out.trans d3)
    have k3:=kr.dr d3 (by decide)
    clear q0 q1 kr d3
    by_cases hk0:kd=0
    ·subst hk0
     go_wp2_with fail
     refine (yr g 3 _ HD.out.s' (by omega)).mono ?_
     rintro e wA ⟨r4,rfl,_,_,d4⟩
     replace HO:=Lib.hid (HO.out.dr d4 (by decide))
     replace HD:=Lib.hid (HD.out.trans d4)
     have kA:=k3.dr d4 (by decide)
     clear k3 d4
     by_cases hr4:0<r4
     ·have hr4b:decide (0<r4)=true:=by simpa using hr4
      go_wp2_with (at_builtin;refine yt (cutW wA w.heap.size) wA 24 2 _ _ Tryz.underlying24 yo rfl (by omega) rfl _ _ rfl A1 j c1 _ _ (HO.out.mk_ HD.out.size) (by omega) rfl rfl rfl ?_;intro A8 c8 w8 hM8 hg8 _)
      have k8:=kA.grown hg8 (HO.out.ne_blk kA (by decide))
      have hO3:=hM8.own_ (yv HD.out.size)
      have hd3:=HD.out.grown HO.out hg8
      clear hM8 hg8 kA
      go_roundw
      case rel=>exact⟨j+1,A8,c8,xs++[0],by omega,by go_num,rfl,Lib.hid (by simpa [ints] using hO3),k8,Lib.hid hd3⟩
      case measure=>simp[intOf];omega
     ·have hr4b:decide (0<r4)=false:=by simpa using hr4
      go_wp2_with (at_builtin;refine yt (cutW wA w.heap.size) wA 24 2 _ _ Tryz.underlying24 yo rfl (by omega) rfl _ _ rfl A1 j c1 _ _ (HO.out.mk_ HD.out.size) (by omega) rfl rfl rfl ?_;intro A8 c8 w8 hM8 hg8 _)
      have k8:=kA.grown hg8 (HO.out.ne_blk kA (by decide))
      have hO3:=hM8.own_ (yv HD.out.size)
      have hd3:=HD.out.grown HO.out hg8
      clear hM8 hg8 kA
      go_roundw
      case rel=>exact⟨j+1,A8,c8,xs++[r3],by omega,by go_num,rfl,Lib.hid (by simpa [ints] using hO3),k8,Lib.hid hd3⟩
      case measure=>simp[intOf];omega
    ·have hk0b:(kd == 0)=false:=by simpa using hk0
     obtain⟨wA,hwA⟩:∃ W,W=w3:=⟨_,rfl⟩
     rw[← hwA]at HO HD k3 ⊢
     have kA:=k3
     clear k3 hwA
     go_wp2_with (at_builtin;refine yt (cutW wA w.heap.size) wA 24 2 _ _ Tryz.underlying24 yo rfl (by omega) rfl _ _ rfl A1 j c1 _ _ (HO.out.mk_ HD.out.size) (by omega) rfl rfl rfl ?_;intro A8 c8 w8 hM8 hg8 _)
     have k8:=kA.grown hg8 (HO.out.ne_blk kA (by decide))
     have hO3:=hM8.own_ (yv HD.out.size)
     have hd3:=HD.out.grown HO.out hg8
     clear hM8 hg8 kA
     go_roundw
     case rel=>exact⟨j+1,A8,c8,xs++[r3],by omega,by go_num,rfl,Lib.hid (by simpa [ints] using hO3),k8,Lib.hid hd3⟩
     case measure=>simp[intOf];omega
   ·obtain rfl:j=2:=by omega
    have hjl:decide (((2:Nat):Int)<2)=false:=by simp
    go_wp2_with fail
    refine (yr g 60 _ HD.out.s' (by omega)).mono ?_
    rintro e w3 ⟨sw,rfl,_,_,d3⟩
    replace HO:=Lib.hid (HO.out.dr d3 (by decide))
    replace HD:=Lib.hid (HD.out.trans d3)
    have k3:=kr.dr d3 (by decide)
    clear q0 q1 kr d3
    rcases HO.out.form with ⟨_,hz⟩ | ⟨gA,rfl,hg1,hg2⟩
    ·omega
    by_cases hs0:sw=0
    ·have hs0b:(sw == 0)=true:=by simp[hs0]
     obtain⟨q0,q1⟩:=k3.two
     have hd6:=(Dr.refl HD.out.s').alloc (.cells #[.int .i64 (-1),.int .i64 P] 2)
     have hpk:=xJ g w3.heap.size [-1,P] _ hd6.s' (by rw[vE];exact Blk.new w3 2 _) (by simp) (by simp)
     go_wp2_with fail
     refine hpk.mono ?_
     rintro e w4 ⟨r4,_,rfl,d4⟩
     replace HO:=Lib.hid (HO.out.dr (hd6.trans d4) (by decide))
     replace HD:=Lib.hid (HD.out.trans (hd6.trans d4))
     obtain⟨u0,hc0⟩:=HO.out.cellI (show 0<2 by omega)
     have ff:=HO.out.frozen_ 0
     obtain⟨hO7,hg7⟩:=HO.out.set_ 0 (.int .i64 r4)
     rw[yN]at hO7
     have hd7:=HD.out.grown HO.out hg7
     clear hpk hd6 d4 k3 q0 q1 hg7
     go_wp2
     go_ret
     first | exact⟨_,_,_,_,rfl,by omega,OwnT.of hO7,hd7⟩ | exact⟨_,_,_,rfl,by omega,⟨_,OwnT.of hO7⟩,hd7⟩
    ·have hs0b:(sw == 0)=false:=by simpa using hs0
     by_cases hs1:sw=1
     ·have hs1b:(sw == 1)=true:=by simp[hs1]
      have hcp:=HO.out.cap
      by_cases hc1:c1=1
      ·subst hc1
       have sl:=fun w=>xd (g:=gA) (m:=2) (c:=1) w (by omega) hcp
       rw[if_pos rfl]at sl
       omega
      ·have sl:=fun w=>xd (g:=gA) (m:=2) (c:=c1) w (by omega) hcp
       rw[if_neg hc1]at sl
       clear hcp
       go_wp2
       go_ret
       first | exact⟨_,_,_,_,rfl,by omega,OwnT.tail1 (m:=2-1) HO.out hc1,HD.out⟩ | exact⟨_,_,_,rfl,by omega,⟨_,OwnT.tail1 (m:=2-1) HO.out hc1⟩,HD.out⟩
     ·have hs1b:(sw == 1)=false:=by simpa using hs1
      go_wp2
      go_ret
      first | exact⟨_,_,_,_,rfl,by omega,OwnT.of HO.out,HD.out⟩ | exact⟨_,_,_,rfl,by omega,⟨_,OwnT.of HO.out⟩,HD.out⟩
set_option maxHeartbeats 3200000 in
set_option maxRecDepth 8000 in
theorem yfE (g:Nat) (P:Int) (A:Option Addr) (c:Nat) (w:World) (hs:Src w g 124) (hP0:0≤P) (hP17:P≤17) :
 Calls Tryz.prog 46 #[.pointer (some ⟨g,0,none⟩),.agg #[.int .i64 P,.slice A 2 c]] w fun e w'=>∃ (A':Option Addr) (m c':Nat) (xs:List Int),e=.returned (.slice A' m c')∧m≤16∧OwnT w' w.heap.size A' m c' xs∧Dr g 124 w w':=by
 have hd1:=((Dr.refl hs).alloc (.cells #[.int .i64 P,.slice A 2 c] 26)).alloc (.cells #[] 2)
 have k1:Blk ((w.alloc (.cells #[.int .i64 P,.slice A 2 c] 26)).alloc (.cells #[] 2)) w.heap.size 26 #[.int .i64 P,.slice A 2 c]:=(Blk.new _ _ _).alloc _
 have hO1:Own ((w.alloc (.cells #[.int .i64 P,.slice A 2 c] 26)).alloc (.cells #[] 2)) w.heap.size 2 (some ⟨w.heap.size+1,0,none⟩) 0 0 (ints []):=by
  have:=(Mk.lit (E:=2) ((Below.refl w.heap.size w).alloc (Nat.le_refl _) (.cells #[.int .i64 P,.slice A 2 c] 26)) #[] (by simp)).2
  simpa [ints] using this
 have hnx:=yr g 4 _ hd1.s' (by omega)
 go_enter Tryz.func46,Tryz.ntmps46
 go_wp2_with fail
 refine hnx.mono ?_
 rintro e w2 ⟨kd,rfl,kd1,kd2,hd2⟩
 have kd3:=kd2 (by omega)
 have k2:=k1.dr hd2 (by decide)
 have HO2:=Lib.hid (hO1.dr hd2 (by decide))
 have HD2:=Lib.hid (hd1.trans hd2)
 clear hnx hd1 k1 hO1 hd2 kd2
 by_cases hP1:P≤1
 all_goals
  go_wp2
  go_loopw [5,7] (fun out i wr=>∃ (j:Nat) (A1:Option Addr) (c1:Nat) (xs:List Int),j≤4∧i=.int .i64 j∧out=.slice A1 j c1∧Hid (Own wr w.heap.size 2 A1 j c1 (ints xs))∧Blk wr w.heap.size 26 #[.int .i64 P,.slice A 2 c]∧Hid (Dr g 124 w wr)) (fun _ i _=>4-(intOf i).toNat)
  case atStart=>exact⟨0,_,_,[],by omega,rfl,rfl,HO2,k2,HD2⟩
  case round=>
   obtain⟨j,A1,c1,xs,hj,rfl,rfl,HO,kr,HD⟩:=hrel
   clear k2 HO2 HD2
   obtain⟨q0,q1⟩:=kr.two
   by_cases hlt:j<4
   ·have hjl:decide ((j:Int)<4)=true:=by rw[decide_eq_true_eq];omega
    go_wp2_with fail
    refine (yr g _ _ HD.out.s' (by omega)).mono ?_
    rintro e w3 ⟨r3,rfl,_,_,d3⟩
    replace HO:=Lib.hid (HO.out.dr d3 (by decide))
    replace HD:=Lib.hid (HD.out.trans d3)
    have k3:=kr.dr d3 (by decide)
    clear q0 q1 kr d3
    by_cases hk0:kd=0
    ·subst hk0
     go_wp2_with fail
     refine (yr g 3 _ HD.out.s' (by omega)).mono ?_
     rintro e wA ⟨r4,rfl,_,_,d4⟩
     replace HO:=Lib.hid (HO.out.dr d4 (by decide))
     replace HD:=Lib.hid (HD.out.trans d4)
     have kA:=k3.dr d4 (by decide)
     clear k3 d4
     by_cases hr4:0<r4
     ·have hr4b:decide (0<r4)=true:=by simpa using hr4
      go_wp2_with (at_builtin;refine yt (cutW wA w.heap.size) wA 24 2 _ _ Tryz.underlying24 yo rfl (by omega) rfl _ _ rfl A1 j c1 _ _ (HO.out.mk_ HD.out.size) (by omega) rfl rfl rfl ?_;intro A8 c8 w8 hM8 hg8 _)
      have k8:=kA.grown hg8 (HO.out.ne_blk kA (by decide))
      have hO3:=hM8.own_ (yv HD.out.size)
      have hd3:=HD.out.grown HO.out hg8
      clear hM8 hg8 kA
      go_roundw
      case rel=>exact⟨j+1,A8,c8,xs++[0],by omega,by go_num,rfl,Lib.hid (by simpa [ints] using hO3),k8,Lib.hid hd3⟩
      case measure=>simp[intOf];omega
     ·have hr4b:decide (0<r4)=false:=by simpa using hr4
      go_wp2_with (at_builtin;refine yt (cutW wA w.heap.size) wA 24 2 _ _ Tryz.underlying24 yo rfl (by omega) rfl _ _ rfl A1 j c1 _ _ (HO.out.mk_ HD.out.size) (by omega) rfl rfl rfl ?_;intro A8 c8 w8 hM8 hg8 _)
      have k8:=kA.grown hg8 (HO.out.ne_blk kA (by decide))
      have hO3:=hM8.own_ (yv HD.out.size)
      have hd3:=HD.out.grown HO.out hg8
      clear hM8 hg8 kA
      go_roundw
      case rel=>exact⟨j+1,A8,c8,xs++[r3],by omega,by go_num,rfl,Lib.hid (by simpa [ints] using hO3),k8,Lib.hid hd3⟩
      case measure=>simp[intOf];omega
    ·have hk0b:(kd == 0)=false:=by simpa using hk0
     obtain⟨wA,hwA⟩:∃ W,W=w3:=⟨_,rfl⟩
     rw[← hwA]at HO HD k3 ⊢
     have kA:=k3
     clear k3 hwA
     go_wp2_with (at_builtin;refine yt (cutW wA w.heap.size) wA 24 2 _ _ Tryz.underlying24 yo rfl (by omega) rfl _ _ rfl A1 j c1 _ _ (HO.out.mk_ HD.out.size) (by omega) rfl rfl rfl ?_;intro A8 c8 w8 hM8 hg8 _)
     have k8:=kA.grown hg8 (HO.out.ne_blk kA (by decide))
     have hO3:=hM8.own_ (yv HD.out.size)
     have hd3:=HD.out.grown HO.out hg8
     clear hM8 hg8 kA
     go_roundw
     case rel=>exact⟨j+1,A8,c8,xs++[r3],by omega,by go_num,rfl,Lib.hid (by simpa [ints] using hO3),k8,Lib.hid hd3⟩
     case measure=>simp[intOf];omega
   ·obtain rfl:j=4:=by omega
    have hjl:decide (((4:Nat):Int)<4)=false:=by simp
    go_wp2_with fail
    refine (yr g 60 _ HD.out.s' (by omega)).mono ?_
    rintro e w3 ⟨sw,rfl,_,_,d3⟩
    replace HO:=Lib.hid (HO.out.dr d3 (by decide))
    replace HD:=Lib.hid (HD.out.trans d3)
    have k3:=kr.dr d3 (by decide)
    clear q0 q1 kr d3
    rcases HO.out.form with ⟨_,hz⟩ | ⟨gA,rfl,hg1,hg2⟩
    ·omega
    by_cases hs0:sw=0
    ·have hs0b:(sw == 0)=true:=by simp[hs0]
     obtain⟨q0,q1⟩:=k3.two
     have hd6:=(Dr.refl HD.out.s').alloc (.cells #[.int .i64 (-1),.int .i64 P] 2)
     have hpk:=xJ g w3.heap.size [-1,P] _ hd6.s' (by rw[vE];exact Blk.new w3 2 _) (by simp) (by simp)
     go_wp2_with fail
     refine hpk.mono ?_
     rintro e w4 ⟨r4,_,rfl,d4⟩
     replace HO:=Lib.hid (HO.out.dr (hd6.trans d4) (by decide))
     replace HD:=Lib.hid (HD.out.trans (hd6.trans d4))
     obtain⟨u0,hc0⟩:=HO.out.cellI (show 0<4 by omega)
     have ff:=HO.out.frozen_ 0
     obtain⟨hO7,hg7⟩:=HO.out.set_ 0 (.int .i64 r4)
     rw[yN]at hO7
     have hd7:=HD.out.grown HO.out hg7
     clear hpk hd6 d4 k3 q0 q1 hg7
     go_wp2
     go_ret
     first | exact⟨_,_,_,_,rfl,by omega,OwnT.of hO7,hd7⟩ | exact⟨_,_,_,rfl,by omega,⟨_,OwnT.of hO7⟩,hd7⟩
    ·have hs0b:(sw == 0)=false:=by simpa using hs0
     by_cases hs1:sw=1
     ·have hs1b:(sw == 1)=true:=by simp[hs1]
      have hcp:=HO.out.cap
      by_cases hc1:c1=1
      ·subst hc1
       have sl:=fun w=>xd (g:=gA) (m:=4) (c:=1) w (by omega) hcp
       rw[if_pos rfl]at sl
       omega
      ·have sl:=fun w=>xd (g:=gA) (m:=4) (c:=c1) w (by omega) hcp
       rw[if_neg hc1]at sl
       clear hcp
       go_wp2
       go_ret
       first | exact⟨_,_,_,_,rfl,by omega,OwnT.tail1 (m:=4-1) HO.out hc1,HD.out⟩ | exact⟨_,_,_,rfl,by omega,⟨_,OwnT.tail1 (m:=4-1) HO.out hc1⟩,HD.out⟩
     ·have hs1b:(sw == 1)=false:=by simpa using hs1
      go_wp2
      go_ret
      first | exact⟨_,_,_,_,rfl,by omega,OwnT.of HO.out,HD.out⟩ | exact⟨_,_,_,rfl,by omega,⟨_,OwnT.of HO.out⟩,HD.out⟩
set_option maxHeartbeats 3200000 in
set_option maxRecDepth 8000 in
theorem yfF (g:Nat) (P:Int) (A:Option Addr) (c:Nat) (w:World) (hs:Src w g 124) (hP0:0≤P) (hP17:P≤17) :
 Calls Tryz.prog 46 #[.pointer (some ⟨g,0,none⟩),.agg #[.int .i64 P,.slice A 3 c]] w fun e w'=>∃ (A':Option Addr) (m c':Nat) (xs:List Int),e=.returned (.slice A' m c')∧m≤16∧OwnT w' w.heap.size A' m c' xs∧Dr g 124 w w':=by
 have hd1:=((Dr.refl hs).alloc (.cells #[.int .i64 P,.slice A 3 c] 26)).alloc (.cells #[] 2)
 have k1:Blk ((w.alloc (.cells #[.int .i64 P,.slice A 3 c] 26)).alloc (.cells #[] 2)) w.heap.size 26 #[.int .i64 P,.slice A 3 c]:=(Blk.new _ _ _).alloc _
 have hO1:Own ((w.alloc (.cells #[.int .i64 P,.slice A 3 c] 26)).alloc (.cells #[] 2)) w.heap.size 2 (some ⟨w.heap.size+1,0,none⟩) 0 0 (ints []):=by
  have:=(Mk.lit (E:=2) ((Below.refl w.heap.size w).alloc (Nat.le_refl _) (.cells #[.int .i64 P,.slice A 3 c] 26)) #[] (by simp)).2
  simpa [ints] using this
 have hnx:=yr g 4 _ hd1.s' (by omega)
 go_enter Tryz.func46,Tryz.ntmps46
 go_wp2_with fail
 refine hnx.mono ?_
 rintro e w2 ⟨kd,rfl,kd1,kd2,hd2⟩
 have kd3:=kd2 (by omega)
 have k2:=k1.dr hd2 (by decide)
 have HO2:=Lib.hid (hO1.dr hd2 (by decide))
 have HD2:=Lib.hid (hd1.trans hd2)
 clear hnx hd1 k1 hO1 hd2 kd2
 by_cases hP1:P≤1
 all_goals
  go_wp2
  go_loopw [5,7] (fun out i wr=>∃ (j:Nat) (A1:Option Addr) (c1:Nat) (xs:List Int),j≤8∧i=.int .i64 j∧out=.slice A1 j c1∧Hid (Own wr w.heap.size 2 A1 j c1 (ints xs))∧Blk wr w.heap.size 26 #[.int .i64 P,.slice A 3 c]∧Hid (Dr g 124 w wr)) (fun _ i _=>8-(intOf i).toNat)
  case atStart=>exact⟨0,_,_,[],by omega,rfl,rfl,HO2,k2,HD2⟩
  case round=>
   obtain⟨j,A1,c1,xs,hj,rfl,rfl,HO,kr,HD⟩:=hrel
   clear k2 HO2 HD2
   obtain⟨q0,q1⟩:=kr.two
   by_cases hlt:j<8
   ·have hjl:decide ((j:Int)<8)=true:=by rw[decide_eq_true_eq];omega
    go_wp2_with fail
    refine (yr g _ _ HD.out.s' (by omega)).mono ?_
    rintro e w3 ⟨r3,rfl,_,_,d3⟩
    replace HO:=Lib.hid (HO.out.dr d3 (by decide))
    replace HD:=Lib.hid (HD.out.trans d3)
    have k3:=kr.dr d3 (by decide)
    clear q0 q1 kr d3
    by_cases hk0:kd=0
    ·subst hk0
     go_wp2_with fail
     refine (yr g 3 _ HD.out.s' (by omega)).mono ?_
     rintro e wA ⟨r4,rfl,_,_,d4⟩
     replace HO:=Lib.hid (HO.out.dr d4 (by decide))
     replace HD:=Lib.hid (HD.out.trans d4)
     have kA:=k3.dr d4 (by decide)
     clear k3 d4
     by_cases hr4:0<r4
     ·have hr4b:decide (0<r4)=true:=by simpa using hr4
      go_wp2_with (at_builtin;refine yt (cutW wA w.heap.size) wA 24 2 _ _ Tryz.underlying24 yo rfl (by omega) rfl _ _ rfl A1 j c1 _ _ (HO.out.mk_ HD.out.size) (by omega) rfl rfl rfl ?_;intro A8 c8 w8 hM8 hg8 _)
      have k8:=kA.grown hg8 (HO.out.ne_blk kA (by decide))
      have hO3:=hM8.own_ (yv HD.out.size)
      have hd3:=HD.out.grown HO.out hg8
      clear hM8 hg8 kA
      go_roundw
      case rel=>exact⟨j+1,A8,c8,xs++[0],by omega,by go_num,rfl,Lib.hid (by simpa [ints] using hO3),k8,Lib.hid hd3⟩
      case measure=>simp[intOf];omega
     ·have hr4b:decide (0<r4)=false:=by simpa using hr4
      go_wp2_with (at_builtin;refine yt (cutW wA w.heap.size) wA 24 2 _ _ Tryz.underlying24 yo rfl (by omega) rfl _ _ rfl A1 j c1 _ _ (HO.out.mk_ HD.out.size) (by omega) rfl rfl rfl ?_;intro A8 c8 w8 hM8 hg8 _)
      have k8:=kA.grown hg8 (HO.out.ne_blk kA (by decide))
      have hO3:=hM8.own_ (yv HD.out.size)
      have hd3:=HD.out.grown HO.out hg8
      clear hM8 hg8 kA
      go_roundw
      case rel=>exact⟨j+1,A8,c8,xs++[r3],by omega,by go_num,rfl,Lib.hid (by simpa [ints] using hO3),k8,Lib.hid hd3⟩
      case measure=>simp[intOf];omega
    ·have hk0b:(kd == 0)=false:=by simpa using hk0
     obtain⟨wA,hwA⟩:∃ W,W=w3:=⟨_,rfl⟩
     rw[← hwA]at HO HD k3 ⊢
     have kA:=k3
     clear k3 hwA
     go_wp2_with (at_builtin;refine yt (cutW wA w.heap.size) wA 24 2 _ _ Tryz.underlying24 yo rfl (by omega) rfl _ _ rfl A1 j c1 _ _ (HO.out.mk_ HD.out.size) (by omega) rfl rfl rfl ?_;intro A8 c8 w8 hM8 hg8 _)
     have k8:=kA.grown hg8 (HO.out.ne_blk kA (by decide))
     have hO3:=hM8.own_ (yv HD.out.size)
     have hd3:=HD.out.grown HO.out hg8
     clear hM8 hg8 kA
     go_roundw
     case rel=>exact⟨j+1,A8,c8,xs++[r3],by omega,by go_num,rfl,Lib.hid (by simpa [ints] using hO3),k8,Lib.hid hd3⟩
     case measure=>simp[intOf];omega
   ·obtain rfl:j=8:=by omega
    have hjl:decide (((8:Nat):Int)<8)=false:=by simp
    go_wp2_with fail
    refine (yr g 60 _ HD.out.s' (by omega)).mono ?_
    rintro e w3 ⟨sw,rfl,_,_,d3⟩
    replace HO:=Lib.hid (HO.out.dr d3 (by decide))
    replace HD:=Lib.hid (HD.out.trans d3)
    have k3:=kr.dr d3 (by decide)
    clear q0 q1 kr d3
    rcases HO.out.form with ⟨_,hz⟩ | ⟨gA,rfl,hg1,hg2⟩
    ·omega
    by_cases hs0:sw=0
    ·have hs0b:(sw == 0)=true:=by simp[hs0]
     obtain⟨q0,q1⟩:=k3.two
     have hd6:=(Dr.refl HD.out.s').alloc (.cells #[.int .i64 (-1),.int .i64 P] 2)
     have hpk:=xJ g w3.heap.size [-1,P] _ hd6.s' (by rw[vE];exact Blk.new w3 2 _) (by simp) (by simp)
     go_wp2_with fail
     refine hpk.mono ?_
     rintro e w4 ⟨r4,_,rfl,d4⟩
     replace HO:=Lib.hid (HO.out.dr (hd6.trans d4) (by decide))
     replace HD:=Lib.hid (HD.out.trans (hd6.trans d4))
     obtain⟨u0,hc0⟩:=HO.out.cellI (show 0<8 by omega)
     have ff:=HO.out.frozen_ 0
     obtain⟨hO7,hg7⟩:=HO.out.set_ 0 (.int .i64 r4)
     rw[yN]at hO7
     have hd7:=HD.out.grown HO.out hg7
     clear hpk hd6 d4 k3 q0 q1 hg7
     go_wp2
     go_ret
     first | exact⟨_,_,_,_,rfl,by omega,OwnT.of hO7,hd7⟩ | exact⟨_,_,_,rfl,by omega,⟨_,OwnT.of hO7⟩,hd7⟩
    ·have hs0b:(sw == 0)=false:=by simpa using hs0
     by_cases hs1:sw=1
     ·have hs1b:(sw == 1)=true:=by simp[hs1]
      have hcp:=HO.out.cap
      by_cases hc1:c1=1
      ·subst hc1
       have sl:=fun w=>xd (g:=gA) (m:=8) (c:=1) w (by omega) hcp
       rw[if_pos rfl]at sl
       omega
      ·have sl:=fun w=>xd (g:=gA) (m:=8) (c:=c1) w (by omega) hcp
       rw[if_neg hc1]at sl
       clear hcp
       go_wp2
       go_ret
       first | exact⟨_,_,_,_,rfl,by omega,OwnT.tail1 (m:=8-1) HO.out hc1,HD.out⟩ | exact⟨_,_,_,rfl,by omega,⟨_,OwnT.tail1 (m:=8-1) HO.out hc1⟩,HD.out⟩
     ·have hs1b:(sw == 1)=false:=by simpa using hs1
      go_wp2
      go_ret
      first | exact⟨_,_,_,_,rfl,by omega,OwnT.of HO.out,HD.out⟩ | exact⟨_,_,_,rfl,by omega,⟨_,OwnT.of HO.out⟩,HD.out⟩
set_option maxHeartbeats 3200000 in
set_option maxRecDepth 8000 in
theorem yfG (g:Nat) (P:Int) (A:Option Addr) (c:Nat) (w:World) (hs:Src w g 124) (hP0:0≤P) (hP17:P≤17) :
 Calls Tryz.prog 46 #[.pointer (some ⟨g,0,none⟩),.agg #[.int .i64 P,.slice A 4 c]] w fun e w'=>∃ (A':Option Addr) (m c':Nat) (xs:List Int),e=.returned (.slice A' m c')∧m≤16∧OwnT w' w.heap.size A' m c' xs∧Dr g 124 w w':=by
 have hd1:=((Dr.refl hs).alloc (.cells #[.int .i64 P,.slice A 4 c] 26)).alloc (.cells #[] 2)
 have k1:Blk ((w.alloc (.cells #[.int .i64 P,.slice A 4 c] 26)).alloc (.cells #[] 2)) w.heap.size 26 #[.int .i64 P,.slice A 4 c]:=(Blk.new _ _ _).alloc _
 have hO1:Own ((w.alloc (.cells #[.int .i64 P,.slice A 4 c] 26)).alloc (.cells #[] 2)) w.heap.size 2 (some ⟨w.heap.size+1,0,none⟩) 0 0 (ints []):=by
  have:=(Mk.lit (E:=2) ((Below.refl w.heap.size w).alloc (Nat.le_refl _) (.cells #[.int .i64 P,.slice A 4 c] 26)) #[] (by simp)).2
  simpa [ints] using this
 have hnx:=yr g 4 _ hd1.s' (by omega)
 go_enter Tryz.func46,Tryz.ntmps46
 go_wp2_with fail
 refine hnx.mono ?_
 rintro e w2 ⟨kd,rfl,kd1,kd2,hd2⟩
 have kd3:=kd2 (by omega)
 have k2:=k1.dr hd2 (by decide)
 have HO2:=Lib.hid (hO1.dr hd2 (by decide))
 have HD2:=Lib.hid (hd1.trans hd2)
 clear hnx hd1 k1 hO1 hd2 kd2
 by_cases hP1:P≤1
 all_goals
  go_wp2
  go_loopw [5,7] (fun out i wr=>∃ (j:Nat) (A1:Option Addr) (c1:Nat) (xs:List Int),j≤16∧i=.int .i64 j∧out=.slice A1 j c1∧Hid (Own wr w.heap.size 2 A1 j c1 (ints xs))∧Blk wr w.heap.size 26 #[.int .i64 P,.slice A 4 c]∧Hid (Dr g 124 w wr)) (fun _ i _=>16-(intOf i).toNat)
  case atStart=>exact⟨0,_,_,[],by omega,rfl,rfl,HO2,k2,HD2⟩
  case round=>
   obtain⟨j,A1,c1,xs,hj,rfl,rfl,HO,kr,HD⟩:=hrel
   clear k2 HO2 HD2
   obtain⟨q0,q1⟩:=kr.two
   by_cases hlt:j<16
   ·have hjl:decide ((j:Int)<16)=true:=by rw[decide_eq_true_eq];omega
    go_wp2_with fail
    refine (yr g _ _ HD.out.s' (by omega)).mono ?_
    rintro e w3 ⟨r3,rfl,_,_,d3⟩
    replace HO:=Lib.hid (HO.out.dr d3 (by decide))
    replace HD:=Lib.hid (HD.out.trans d3)
    have k3:=kr.dr d3 (by decide)
    clear q0 q1 kr d3
    by_cases hk0:kd=0
    ·subst hk0
     go_wp2_with fail
     refine (yr g 3 _ HD.out.s' (by omega)).mono ?_
     rintro e wA ⟨r4,rfl,_,_,d4⟩
     replace HO:=Lib.hid (HO.out.dr d4 (by decide))
     replace HD:=Lib.hid (HD.out.trans d4)
     have kA:=k3.dr d4 (by decide)
     clear k3 d4
     by_cases hr4:0<r4
     ·have hr4b:decide (0<r4)=true:=by simpa using hr4
      go_wp2_with (at_builtin;refine yt (cutW wA w.heap.size) wA 24 2 _ _ Tryz.underlying24 yo rfl (by omega) rfl _ _ rfl A1 j c1 _ _ (HO.out.mk_ HD.out.size) (by omega) rfl rfl rfl ?_;intro A8 c8 w8 hM8 hg8 _)
      have k8:=kA.grown hg8 (HO.out.ne_blk kA (by decide))
      have hO3:=hM8.own_ (yv HD.out.size)
      have hd3:=HD.out.grown HO.out hg8
      clear hM8 hg8 kA
      go_roundw
      case rel=>exact⟨j+1,A8,c8,xs++[0],by omega,by go_num,rfl,Lib.hid (by simpa [ints] using hO3),k8,Lib.hid hd3⟩
      case measure=>simp[intOf];omega
     ·have hr4b:decide (0<r4)=false:=by simpa using hr4
      go_wp2_with (at_builtin;refine yt (cutW wA w.heap.size) wA 24 2 _ _ Tryz.underlying24 yo rfl (by omega) rfl _ _ rfl A1 j c1 _ _ (HO.out.mk_ HD.out.size) (by omega) rfl rfl rfl ?_;intro A8 c8 w8 hM8 hg8 _)
      have k8:=kA.grown hg8 (HO.out.ne_blk kA (by decide))
      have hO3:=hM8.own_ (yv HD.out.size)
      have hd3:=HD.out.grown HO.out hg8
      clear hM8 hg8 kA
      go_roundw
      case rel=>exact⟨j+1,A8,c8,xs++[r3],by omega,by go_num,rfl,Lib.hid (by simpa [ints] using hO3),k8,Lib.hid hd3⟩
      case measure=>simp[intOf];omega
    ·have hk0b:(kd == 0)=false:=by simpa using hk0
     obtain⟨wA,hwA⟩:∃ W,W=w3:=⟨_,rfl⟩
     rw[← hwA]at HO HD k3 ⊢
     have kA:=k3
     clear k3 hwA
     go_wp2_with (at_builtin;refine yt (cutW wA w.heap.size) wA 24 2 _ _ Tryz.underlying24 yo rfl (by omega) rfl _ _ rfl A1 j c1 _ _ (HO.out.mk_ HD.out.size) (by omega) rfl rfl rfl ?_;intro A8 c8 w8 hM8 hg8 _)
     have k8:=kA.grown hg8 (HO.out.ne_blk kA (by decide))
     have hO3:=hM8.own_ (yv HD.out.size)
     have hd3:=HD.out.grown HO.out hg8
     clear hM8 hg8 kA
     go_roundw
     case rel=>exact⟨j+1,A8,c8,xs++[r3],by omega,by go_num,rfl,Lib.hid (by simpa [ints] using hO3),k8,Lib.hid hd3⟩
     case measure=>simp[intOf];omega
   ·obtain rfl:j=16:=by omega
    have hjl:decide (((16:Nat):Int)<16)=false:=by simp
    go_wp2_with fail
    refine (yr g 60 _ HD.out.s' (by omega)).mono ?_
    rintro e w3 ⟨sw,rfl,_,_,d3⟩
    replace HO:=Lib.hid (HO.out.dr d3 (by decide))
    replace HD:=Lib.hid (HD.out.trans d3)
    have k3:=kr.dr d3 (by decide)
    clear q0 q1 kr d3
    rcases HO.out.form with ⟨_,hz⟩ | ⟨gA,rfl,hg1,hg2⟩
    ·omega
    by_cases hs0:sw=0
    ·have hs0b:(sw == 0)=true:=by simp[hs0]
     obtain⟨q0,q1⟩:=k3.two
     have hd6:=(Dr.refl HD.out.s').alloc (.cells #[.int .i64 (-1),.int .i64 P] 2)
     have hpk:=xJ g w3.heap.size [-1,P] _ hd6.s' (by rw[vE];exact Blk.new w3 2 _) (by simp) (by simp)
     go_wp2_with fail
     refine hpk.mono ?_
     rintro e w4 ⟨r4,_,rfl,d4⟩
     replace HO:=Lib.hid (HO.out.dr (hd6.trans d4) (by decide))
     replace HD:=Lib.hid (HD.out.trans (hd6.trans d4))
     obtain⟨u0,hc0⟩:=HO.out.cellI (show 0<16 by omega)
     have ff:=HO.out.frozen_ 0
     obtain⟨hO7,hg7⟩:=HO.out.set_ 0 (.int .i64 r4)
     rw[yN]at hO7
     have hd7:=HD.out.grown HO.out hg7
     clear hpk hd6 d4 k3 q0 q1 hg7
     go_wp2
     go_ret
     first | exact⟨_,_,_,_,rfl,by omega,OwnT.of hO7,hd7⟩ | exact⟨_,_,_,rfl,by omega,⟨_,OwnT.of hO7⟩,hd7⟩
    ·have hs0b:(sw == 0)=false:=by simpa using hs0
     by_cases hs1:sw=1
     ·have hs1b:(sw == 1)=true:=by simp[hs1]
      have hcp:=HO.out.cap
      by_cases hc1:c1=1
      ·subst hc1
       have sl:=fun w=>xd (g:=gA) (m:=16) (c:=1) w (by omega) hcp
       rw[if_pos rfl]at sl
       omega
      ·have sl:=fun w=>xd (g:=gA) (m:=16) (c:=c1) w (by omega) hcp
       rw[if_neg hc1]at sl
       clear hcp
       go_wp2
       go_ret
       first | exact⟨_,_,_,_,rfl,by omega,OwnT.tail1 (m:=16-1) HO.out hc1,HD.out⟩ | exact⟨_,_,_,rfl,by omega,⟨_,OwnT.tail1 (m:=16-1) HO.out hc1⟩,HD.out⟩
     ·have hs1b:(sw == 1)=false:=by simpa using hs1
      go_wp2
      go_ret
      first | exact⟨_,_,_,_,rfl,by omega,OwnT.of HO.out,HD.out⟩ | exact⟨_,_,_,rfl,by omega,⟨_,OwnT.of HO.out⟩,HD.out⟩
set_option maxHeartbeats 3200000 in
set_option maxRecDepth 8000 in
theorem yfH (g:Nat) (P:Int) (A:Option Addr) (c:Nat) (w:World) (hs:Src w g 124) (hP0:0≤P) (hP17:P≤17) :
 Calls Tryz.prog 46 #[.pointer (some ⟨g,0,none⟩),.agg #[.int .i64 P,.slice A 5 c]] w fun e w'=>∃ (A':Option Addr) (m c':Nat) (xs:List Int),e=.returned (.slice A' m c')∧m≤16∧OwnT w' w.heap.size A' m c' xs∧Dr g 124 w w':=by
 have hd1:=((Dr.refl hs).alloc (.cells #[.int .i64 P,.slice A 5 c] 26)).alloc (.cells #[] 2)
 have k1:Blk ((w.alloc (.cells #[.int .i64 P,.slice A 5 c] 26)).alloc (.cells #[] 2)) w.heap.size 26 #[.int .i64 P,.slice A 5 c]:=(Blk.new _ _ _).alloc _
 have hO1:Own ((w.alloc (.cells #[.int .i64 P,.slice A 5 c] 26)).alloc (.cells #[] 2)) w.heap.size 2 (some ⟨w.heap.size+1,0,none⟩) 0 0 (ints []):=by
  have:=(Mk.lit (E:=2) ((Below.refl w.heap.size w).alloc (Nat.le_refl _) (.cells #[.int .i64 P,.slice A 5 c] 26)) #[] (by simp)).2
  simpa [ints] using this
 have hnx:=yr g 4 _ hd1.s' (by omega)
 go_enter Tryz.func46,Tryz.ntmps46
 go_wp2_with fail
 refine hnx.mono ?_
 rintro e w2 ⟨kd,rfl,kd1,kd2,hd2⟩
 have kd3:=kd2 (by omega)
 have k2:=k1.dr hd2 (by decide)
 have HO2:=Lib.hid (hO1.dr hd2 (by decide))
 have HD2:=Lib.hid (hd1.trans hd2)
 clear hnx hd1 k1 hO1 hd2 kd2
 by_cases hP1:P≤1
 all_goals
  go_wp2
  go_loopw [5,7] (fun out i wr=>∃ (j:Nat) (A1:Option Addr) (c1:Nat) (xs:List Int),j≤16∧i=.int .i64 j∧out=.slice A1 j c1∧Hid (Own wr w.heap.size 2 A1 j c1 (ints xs))∧Blk wr w.heap.size 26 #[.int .i64 P,.slice A 5 c]∧Hid (Dr g 124 w wr)) (fun _ i _=>16-(intOf i).toNat)
  case atStart=>exact⟨0,_,_,[],by omega,rfl,rfl,HO2,k2,HD2⟩
  case round=>
   obtain⟨j,A1,c1,xs,hj,rfl,rfl,HO,kr,HD⟩:=hrel
   clear k2 HO2 HD2
   obtain⟨q0,q1⟩:=kr.two
   by_cases hlt:j<16
   ·have hjl:decide ((j:Int)<16)=true:=by rw[decide_eq_true_eq];omega
    go_wp2_with fail
    refine (yr g _ _ HD.out.s' (by omega)).mono ?_
    rintro e w3 ⟨r3,rfl,_,_,d3⟩
    replace HO:=Lib.hid (HO.out.dr d3 (by decide))
    replace HD:=Lib.hid (HD.out.trans d3)
    have k3:=kr.dr d3 (by decide)
    clear q0 q1 kr d3
    by_cases hk0:kd=0
    ·subst hk0
     go_wp2_with fail
     refine (yr g 3 _ HD.out.s' (by omega)).mono ?_
     rintro e wA ⟨r4,rfl,_,_,d4⟩
     replace HO:=Lib.hid (HO.out.dr d4 (by decide))
     replace HD:=Lib.hid (HD.out.trans d4)
     have kA:=k3.dr d4 (by decide)
     clear k3 d4
     by_cases hr4:0<r4
     ·have hr4b:decide (0<r4)=true:=by simpa using hr4
      go_wp2_with (at_builtin;refine yt (cutW wA w.heap.size) wA 24 2 _ _ Tryz.underlying24 yo rfl (by omega) rfl _ _ rfl A1 j c1 _ _ (HO.out.mk_ HD.out.size) (by omega) rfl rfl rfl ?_;intro A8 c8 w8 hM8 hg8 _)
      have k8:=kA.grown hg8 (HO.out.ne_blk kA (by decide))
      have hO3:=hM8.own_ (yv HD.out.size)
      have hd3:=HD.out.grown HO.out hg8
      clear hM8 hg8 kA
      go_roundw
      case rel=>exact⟨j+1,A8,c8,xs++[0],by omega,by go_num,rfl,Lib.hid (by simpa [ints] using hO3),k8,Lib.hid hd3⟩
      case measure=>simp[intOf];omega
     ·have hr4b:decide (0<r4)=false:=by simpa using hr4
      go_wp2_with (at_builtin;refine yt (cutW wA w.heap.size) wA 24 2 _ _ Tryz.underlying24 yo rfl (by omega) rfl _ _ rfl A1 j c1 _ _ (HO.out.mk_ HD.out.size) (by omega) rfl rfl rfl ?_;intro A8 c8 w8 hM8 hg8 _)
      have k8:=kA.grown hg8 (HO.out.ne_blk kA (by decide))
      have hO3:=hM8.own_ (yv HD.out.size)
      have hd3:=HD.out.grown HO.out hg8
      clear hM8 hg8 kA
      go_roundw
      case rel=>exact⟨j+1,A8,c8,xs++[r3],by omega,by go_num,rfl,Lib.hid (by simpa [ints] using hO3),k8,Lib.hid hd3⟩
      case measure=>simp[intOf];omega
    ·have hk0b:(kd == 0)=false:=by simpa using hk0
     obtain⟨wA,hwA⟩:∃ W,W=w3:=⟨_,rfl⟩
     rw[← hwA]at HO HD k3 ⊢
     have kA:=k3
     clear k3 hwA
     go_wp2_with (at_builtin;refine yt (cutW wA w.heap.size) wA 24 2 _ _ Tryz.underlying24 yo rfl (by omega) rfl _ _ rfl A1 j c1 _ _ (HO.out.mk_ HD.out.size) (by omega) rfl rfl rfl ?_;intro A8 c8 w8 hM8 hg8 _)
     have k8:=kA.grown hg8 (HO.out.ne_blk kA (by decide))
     have hO3:=hM8.own_ (yv HD.out.size)
     have hd3:=HD.out.grown HO.out hg8
     clear hM8 hg8 kA
     go_roundw
     case rel=>exact⟨j+1,A8,c8,xs++[r3],by omega,by go_num,rfl,Lib.hid (by simpa [ints] using hO3),k8,Lib.hid hd3⟩
     case measure=>simp[intOf];omega
   ·obtain rfl:j=16:=by omega
    have hjl:decide (((16:Nat):Int)<16)=false:=by simp
    go_wp2_with fail
    refine (yr g 60 _ HD.out.s' (by omega)).mono ?_
    rintro e w3 ⟨sw,rfl,_,_,d3⟩
    replace HO:=Lib.hid (HO.out.dr d3 (by decide))
    replace HD:=Lib.hid (HD.out.trans d3)
    have k3:=kr.dr d3 (by decide)
    clear q0 q1 kr d3
    rcases HO.out.form with ⟨_,hz⟩ | ⟨gA,rfl,hg1,hg2⟩
    ·omega
    by_cases hs0:sw=0
    ·have hs0b:(sw == 0)=true:=by simp[hs0]
     obtain⟨q0,q1⟩:=k3.two
     have hd6:=(Dr.refl HD.out.s').alloc (.cells #[.int .i64 (-1),.int .i64 P] 2)
     have hpk:=xJ g w3.heap.size [-1,P] _ hd6.s' (by rw[vE];exact Blk.new w3 2 _) (by simp) (by simp)
     go_wp2_with fail
     refine hpk.mono ?_
     rintro e w4 ⟨r4,_,rfl,d4⟩
     replace HO:=Lib.hid (HO.out.dr (hd6.trans d4) (by decide))
     replace HD:=Lib.hid (HD.out.trans (hd6.trans d4))
     obtain⟨u0,hc0⟩:=HO.out.cellI (show 0<16 by omega)
     have ff:=HO.out.frozen_ 0
     obtain⟨hO7,hg7⟩:=HO.out.set_ 0 (.int .i64 r4)
     rw[yN]at hO7
     have hd7:=HD.out.grown HO.out hg7
     clear hpk hd6 d4 k3 q0 q1 hg7
     go_wp2
     go_ret
     first | exact⟨_,_,_,_,rfl,by omega,OwnT.of hO7,hd7⟩ | exact⟨_,_,_,rfl,by omega,⟨_,OwnT.of hO7⟩,hd7⟩
    ·have hs0b:(sw == 0)=false:=by simpa using hs0
     by_cases hs1:sw=1
     ·have hs1b:(sw == 1)=true:=by simp[hs1]
      have hcp:=HO.out.cap
      by_cases hc1:c1=1
      ·subst hc1
       have sl:=fun w=>xd (g:=gA) (m:=16) (c:=1) w (by omega) hcp
       rw[if_pos rfl]at sl
       omega
      ·have sl:=fun w=>xd (g:=gA) (m:=16) (c:=c1) w (by omega) hcp
       rw[if_neg hc1]at sl
       clear hcp
       go_wp2
       go_ret
       first | exact⟨_,_,_,_,rfl,by omega,OwnT.tail1 (m:=16-1) HO.out hc1,HD.out⟩ | exact⟨_,_,_,rfl,by omega,⟨_,OwnT.tail1 (m:=16-1) HO.out hc1⟩,HD.out⟩
     ·have hs1b:(sw == 1)=false:=by simpa using hs1
      go_wp2
      go_ret
      first | exact⟨_,_,_,_,rfl,by omega,OwnT.of HO.out,HD.out⟩ | exact⟨_,_,_,rfl,by omega,⟨_,OwnT.of HO.out⟩,HD.out⟩
theorem ybT (g:Nat) (P:Int) (A:Option Addr) (n c:Nat) (w:World) (hs:Src w g 124) (hP0:0≤P) (hP17:P≤17) (hn:n≤5) :
 Calls Tryz.prog 46 #[.pointer (some ⟨g,0,none⟩),.agg #[.int .i64 P,.slice A n c]] w fun e w'=>∃ (A':Option Addr) (m c':Nat) (xs:List Int),e=.returned (.slice A' m c')∧m≤16∧OwnT w' w.heap.size A' m c' xs∧Dr g 124 w w':=by
 match n,hn with
 | 0,_=>exact yfC g P A c w hs hP0 hP17
 | 1,_=>exact yfD g P A c w hs hP0 hP17
 | 2,_=>exact yfE g P A c w hs hP0 hP17
 | 3,_=>exact yfF g P A c w hs hP0 hP17
 | 4,_=>exact yfG g P A c w hs hP0 hP17
 | 5,_=>exact yfH g P A c w hs hP0 hP17
theorem OwnII.relT {w w':World} {res B:Nat} {A:Option Addr} {n c:Nat} {L:List (List Int)} (h:OwnII w B A n c L) (r:RelT res w w'):OwnII w' B A n c L:=by
 obtain⟨a,b,d,x,y,z,k,rfl⟩:=r
 exact h.set3 k
theorem RdII.part {w:World} {g o n i m:Nat} {L:List (List Int)} (h:RdII w (some ⟨g,o,none⟩) n L) (hle:i+m≤n):RdII w (some ⟨g,o+i,none⟩) m ((L.drop i).take m):=by
 have hl:=h.len
 obtain⟨rows,hr,hrl,hrow⟩:=h
 by_cases hm:m=0
 ·subst hm
  rw[List.take_zero]
  exact⟨[],Rd.nil _ _,rfl,fun k hk=>absurd hk (by simp)⟩
 ·obtain⟨g',o',e,hb⟩:=hr.behind (show i<n by omega)
  injection e with e;injection e with e1 e2 _
  subst e1;subst e2
  refine⟨(rows.drop i).take m,hb.cutT (by omega),by rw[List.length_take,List.length_take,List.length_drop,List.length_drop,hrl],fun k hk=>?_⟩
  have hk2:k<m:=by rw[List.length_take]at hk;omega
  have hk3:i+k<L.length:=by omega
  obtain⟨A',c',h1,h2,h3⟩:=hrow (i+k) hk3
  have e:((L.drop i).take m)[k]=L[i+k]:=by rw[List.getElem_take,List.getElem_drop]
  rw[e]
  exact⟨A',c',by rw[List.getElem?_take,if_pos hk2,List.getElem?_drop];exact h1,h2,h3⟩
theorem yhn {g n r c:Nat} (w:World) (h0:0<n) (h1:n≤c):(Instr.slice 32 (.slice (some ⟨g,0,none⟩) r c) none (some (.int .i64 (n:Int))) (some (.int .i64 (n:Int)))).run Tryz.prog w=.ok (.slice (some ⟨g,0,none⟩) n n) w:=by
 have h:=run_slice_hm (P:=Tryz.prog) (w:=w) (t:=32) (a:=some ⟨g,0,none⟩) (len:=r) (cap:=c) (ht:=by kernel_rfl) (kh:=.i64) (km:=.i64) (h:=(n:Int)) (m:=(n:Int)) (h0:=by omega) (h2:=by omega) (h3:=by omega)
 have hne:n≠0:=by omega
 rw[h]
 simp[go_sem,sliced,hne,Addr.add]
theorem yhp {g n d r c:Nat} (w:World) (h0:0<n) (h1:d=2*n) (h2:d≤c):(Instr.slice 32 (.slice (some ⟨g,0,none⟩) r c) (some (.int .i64 (n:Int))) (some (.int .i64 (d:Int))) (some (.int .i64 (d:Int)))).run Tryz.prog w=.ok (.slice (some ⟨g,n,none⟩) n n) w:=by
 have h:=run_slice_lhm (P:=Tryz.prog) (w:=w) (t:=32) (a:=some ⟨g,0,none⟩) (len:=r) (cap:=c) (ht:=by kernel_rfl) (kl:=.i64) (kh:=.i64) (km:=.i64) (l:=(n:Int)) (h:=(d:Int)) (m:=(d:Int)) (h0:=by omega) (h1:=by omega) (h2:=by omega) (h3:=by omega)
 have hne:d≠n:=by omega
 have e:d-n=n:=by omega
 have hn0:¬ n=0:=by omega
 rw[h]
 simp[go_sem,sliced,hne,Addr.add,e,hn0]
theorem yho {g n d r c:Nat} (w:World) (h0:0<n) (h1:r=d+n) (h2:r≤c):(Instr.slice 32 (.slice (some ⟨g,0,none⟩) r c) (some (.int .i64 (d:Int))) none none).run Tryz.prog w=.ok (.slice (some ⟨g,d,none⟩) n (c-d)) w:=by
 have h:=run_slice_l (P:=Tryz.prog) (w:=w) (t:=32) (a:=some ⟨g,0,none⟩) (len:=r) (cap:=c) (ht:=by kernel_rfl) (kl:=.i64) (l:=(d:Int)) (h0:=by omega) (h1:=by omega)
 have hne:c≠d:=by omega
 have e:r-d=n:=by omega
 rw[h]
 simp[go_sem,sliced,hne,Addr.add,e]
 omega
def yaJ (w w':World) (n:Nat) (L:List (List Int)) (g c:Nat):Prop:=OwnII w' w.heap.size (some ⟨g,0,none⟩) (3*n) c L∧Below w.heap.size w w'
set_option maxHeartbeats 3200000 in
set_option maxRecDepth 8000 in
theorem ydc (X:Option Addr) (m cx n:Nat) (xs:List Int) (w:World) (h0:0<n) (hn:n≤8) (hm:m=3*n*n) (hcx:m≤cx) (hx:Rd w X m (ints xs)) :
 Calls Tryz.prog 88 #[.slice X m cx,.int .i64 (n:Nat)] w fun e w'=>∃ g c,e=.returned (.agg #[.slice (some ⟨g,0,none⟩) n n,.slice (some ⟨g,n,none⟩) n n,.slice (some ⟨g,2*n,none⟩) n (c-2*n)])∧yaJ w w' n (yj xs n (3*n)) g c:=by
 have hB0:Below w.heap.size w (w.alloc (.cells #[.slice none 0 0,.slice none 0 0,.slice none 0 0] 34)):=zG.alloc (Nat.le_refl _) _
 have k0:Blk (w.alloc (.cells #[.slice none 0 0,.slice none 0 0,.slice none 0 0] 34)) w.heap.size 34 #[.slice none 0 0,.slice none 0 0,.slice none 0 0]:=Blk.new _ _ _
 have hri:=yha X m cx xs n (3*n) (w.alloc (.cells #[.slice none 0 0,.slice none 0 0,.slice none 0 0] 34)) h0 (by omega) (by omega) hm hcx (hx.below hB0)
 unfold yaJ
 obtain⟨r,hr⟩:∃ r,r=3*n:=⟨_,rfl⟩
 obtain⟨d,hd⟩:∃ d,d=2*n:=⟨_,rfl⟩
 obtain⟨L,hL⟩:∃ z,z=yj xs n r:=⟨_,rfl⟩
 rw[← hr,← hL]at hri
 rw[← hr,← hd,← hL]
 have HWP:Hid (wrap64 (2*(n:Int))=(d:Int)):=Lib.hid (by unfold wrap64;omega)
 have HD:=Lib.hid hd
 have HR:=Lib.hid hr
 clear hL hd hr hm
 go_enter Tryz.func88,Tryz.ntmps88
 go_wp2_with fail
 refine hri.mono ?_
 rintro e w2 ⟨A2,c2,rfl,hM2⟩
 have k2:=k0.below hM2.b k0.lt
 have hB2:=hB0.trans (hM2.b.mono hB0.size)
 have hO1:=hM2.own
 have hcap:=hO1.cap
 obtain⟨g,rfl⟩:∃ g,A2=some ⟨g,0,none⟩:=by
  obtain⟨rows,ho, -⟩:=hO1
  rcases ho.form with ⟨_,hz⟩ | ⟨g,e, -, -⟩
  ·have:=HR.out;omega
  ·exact⟨g,e⟩
 have hO2:=hO1.base hB0.size
 have hs12:=fun w'=>yhn (g:=g) (r:=r) (c:=c2) w' h0 (by have:=HR.out;omega)
 have hs19:=fun w'=>yhp (g:=g) (r:=r) (c:=c2) w' h0 HD.out (by have:=HR.out;have:=HD.out;omega)
 have hs23:=fun w'=>yho (g:=g) (n:=n) (d:=d) (r:=r) (c:=c2) w' h0 (by have:=HR.out;have:=HD.out;omega) (by omega)
 have WP:=HWP.out
 clear hri hM2 hO1 k0 hB0
 go_wp2
 refine xy 17 (RelT w.heap.size) [[],[],[],[0,1,2],[],[],[],[6],[],[8],[4,5,6,7,8,9],[],[],[12],[11,12,13],[0,1,2,3,4,5,6,7,8,9,10,11,12,13,14],[0,1,2,3,4,5,6,7,8,9,10,11,12,13,14,15]] [[],[],[],[],[],[],[],[],[],[],[],[],[],[],[],[],[99]] (fun x=>[VIs (.slice (some ⟨g,0,none⟩) r c2),VIs (.int .i64 (n:Nat)),VIs (.int .i64 (n:Nat)),VIs (.slice (some ⟨g,0,none⟩) n n),VIs (.slice (some ⟨g,0,none⟩) r c2),VIs (.int .i64 (n:Nat)),VIs (.int .i64 (n:Nat)),VIs (.int .i64 (d:Nat)),VIs (.int .i64 (n:Nat)),VIs (.int .i64 (d:Nat)),VIs (.slice (some ⟨g,n,none⟩) n n),VIs (.slice (some ⟨g,0,none⟩) r c2),VIs (.int .i64 (n:Nat)),VIs (.int .i64 (d:Nat)),VIs (.slice (some ⟨g,d,none⟩) n (c2-d)),VIs (.agg #[.slice (some ⟨g,0,none⟩) n n,.slice (some ⟨g,n,none⟩) n n,.slice (some ⟨g,d,none⟩) n (c2-d)]),VBk w.heap.size 34 #[.slice (some ⟨g,0,none⟩) n n,.slice (some ⟨g,n,none⟩) n n,.slice (some ⟨g,d,none⟩) n (c2-d)]]) (fun w'=>SBt w.heap.size w'∧OwnII w' w.heap.size (some ⟨g,0,none⟩) r c2 L∧Below w.heap.size w w') (by kernel_rfl) (by kernel_rfl) (fun x x' j hx=>by
  rcases j with _ | _ | _ | _ | _ | _ | _ | _ | _ | _ | _ | _ | _ | _ | _ | _ | _ | j
  ·rfl
  ·rfl
  ·rfl
  ·rfl
  ·rfl
  ·rfl
  ·rfl
  ·rfl
  ·rfl
  ·rfl
  ·rfl
  ·rfl
  ·rfl
  ·rfl
  ·rfl
  ·rfl
  ·rfl
  ·rfl)
  (z6 [0,1,2,3,4,5,6,7,8,9,10,11,12,13,14,15] (by decide) (fun k hk x v w w' hp hr=>by
   simp only[List.mem_cons,zJ,or_false]at hk
   rcases hk with rfl | rfl | rfl | rfl | rfl | rfl | rfl | rfl | rfl | rfl | rfl | rfl | rfl | rfl | rfl | rfl
   ·exact hp
   ·exact hp
   ·exact hp
   ·exact hp
   ·exact hp
   ·exact hp
   ·exact hp
   ·exact hp
   ·exact hp
   ·exact hp
   ·exact hp
   ·exact hp
   ·exact hp
   ·exact hp
   ·exact hp
   ·exact hp)) (fun j _ _ h hb=>hb.either (fun hb=>⟨h.1.below hb,h.2.1.below hb,h.2.2.trans (hb.mono h.2.2.size)⟩) (fun hr=>⟨h.1.relT hr,h.2.1.relT hr,ur h.2.2 (Nat.le_refl _) hr⟩)) (⟨⟨_,_,_,k2.drew⟩,hO2.below zG.drew,hB2.trans zG.drew⟩) (fun x=>?_)
 refine yd (Eq.trans (by simp only[zA,zC];exact rfl) rfl) rfl (fun w' hS hV K hK=>?_) ?_
 ·skip;go_simp;exact hK.out _ _ _ rfl rfl rfl zG
 simp only[zD,zE,zF]
 refine yd (Eq.trans (by simp only[zA,zB,zC];exact rfl) rfl) rfl (fun w' hS hV K hK=>?_) ?_
 ·skip;go_simp;exact hK.out _ _ _ rfl rfl rfl zG
 simp only[zD,zE,zF]
 refine yd (Eq.trans (by simp only[zA,zB,zC];exact rfl) rfl) rfl (fun w' hS hV K hK=>?_) ?_
 ·skip;go_simp;exact hK.out _ _ _ rfl rfl rfl zG
 simp only[zD,zE,zF]
 refine yd (Eq.trans (by simp only[zA,zB,zC];exact rfl) rfl) rfl (fun w' hS hV K hK=>?_) ?_
 ·have e0:=zQ hV 0;have e1:=zQ hV 1;have e2:=zQ hV 2;skip;go_simp;exact hK.out _ _ _ rfl rfl rfl zG
 simp only[zD,zE,zF]
 refine yd (Eq.trans (by simp only[zA,zB,zC];exact rfl) rfl) rfl (fun w' hS hV K hK=>?_) ?_
 ·skip;go_simp;exact hK.out _ _ _ rfl rfl rfl zG
 simp only[zD,zE,zF]
 refine yd (Eq.trans (by simp only[zA,zB,zC];exact rfl) rfl) rfl (fun w' hS hV K hK=>?_) ?_
 ·skip;go_simp;exact hK.out _ _ _ rfl rfl rfl zG
 simp only[zD,zE,zF]
 refine yd (Eq.trans (by simp only[zA,zB,zC];exact rfl) rfl) rfl (fun w' hS hV K hK=>?_) ?_
 ·skip;go_simp;exact hK.out _ _ _ rfl rfl rfl zG
 simp only[zD,zE,zF]
 refine yd (Eq.trans (by simp only[zA,zB,zC];exact rfl) rfl) rfl (fun w' hS hV K hK=>?_) ?_
 ·have e6:=zQ hV 6;skip;go_simp;exact hK.out _ _ _ rfl rfl (by first | rfl | exact congrArg (Value.int .i64) ((by rw[IntWalk.i64_left];exact WP:IntKind.i64.wrap (2*(n:Int))=(d:Int)))) zG
 simp only[zD,zE,zF]
 refine yd (Eq.trans (by simp only[zA,zB,zC];exact rfl) rfl) rfl (fun w' hS hV K hK=>?_) ?_
 ·skip;go_simp;exact hK.out _ _ _ rfl rfl rfl zG
 simp only[zD,zE,zF]
 refine yd (Eq.trans (by simp only[zA,zB,zC];exact rfl) rfl) rfl (fun w' hS hV K hK=>?_) ?_
 ·have e8:=zQ hV 8;skip;go_simp;exact hK.out _ _ _ rfl rfl (by first | rfl | exact congrArg (Value.int .i64) ((by rw[IntWalk.i64_left];exact WP:IntKind.i64.wrap (2*(n:Int))=(d:Int)))) zG
 simp only[zD,zE,zF]
 refine yd (Eq.trans (by simp only[zA,zB,zC];exact rfl) rfl) rfl (fun w' hS hV K hK=>?_) ?_
 ·have e4:=zQ hV 4;have e5:=zQ hV 5;have e7:=zQ hV 7;have e9:=zQ hV 9;skip;go_simp;exact hK.out _ _ _ rfl rfl rfl zG
 simp only[zD,zE,zF]
 refine yd (Eq.trans (by simp only[zA,zB,zC];exact rfl) rfl) rfl (fun w' hS hV K hK=>?_) ?_
 ·skip;go_simp;exact hK.out _ _ _ rfl rfl rfl zG
 simp only[zD,zE,zF]
 refine yd (Eq.trans (by simp only[zA,zB,zC];exact rfl) rfl) rfl (fun w' hS hV K hK=>?_) ?_
 ·skip;go_simp;exact hK.out _ _ _ rfl rfl rfl zG
 simp only[zD,zE,zF]
 refine yd (Eq.trans (by simp only[zA,zB,zC];exact rfl) rfl) rfl (fun w' hS hV K hK=>?_) ?_
 ·have e12:=zQ hV 12;skip;go_simp;exact hK.out _ _ _ rfl rfl (by first | rfl | exact congrArg (Value.int .i64) ((by rw[IntWalk.i64_left];exact WP:IntKind.i64.wrap (2*(n:Int))=(d:Int)))) zG
 simp only[zD,zE,zF]
 refine yd (Eq.trans (by simp only[zA,zB,zC];exact rfl) rfl) rfl (fun w' hS hV K hK=>?_) ?_
 ·have e11:=zQ hV 11;have e13:=zQ hV 13;skip;go_simp;exact hK.out _ _ _ rfl rfl rfl zG
 simp only[zD,zE,zF]
 refine yd (Eq.trans (by simp only[zA,zB,zC];exact rfl) rfl) rfl (fun w' hS hV K hK=>?_) ?_
 ·have e3:=zQ hV 3;have e10:=zQ hV 10;have e14:=zQ hV 14;skip;go_simp;exact hK.out _ _ _ rfl rfl rfl zG
 simp only[zD,zE,zF]
 refine xp (Eq.trans (by simp only[zA,zB,zC];exact rfl) rfl) rfl (fun w' hS hV K hK=>?_) ?_
 ·have e15:=zQ hV 15;skip;obtain⟨a9,b9,d9,k9⟩:=hS.1;have r0:=k9.cell 0;have r1:=k9.cell 1;have r2:=k9.cell 2;have z0:=k9.frozen 0;have z1:=k9.frozen 1;have z2:=k9.frozen 2;simp at r0 r1 r2;go_simp;exact hK.out _ _ rfl k9.storedT (StepR.rel rfl ⟨_,_,_,_,_,_,k9,rfl⟩)
 refine fun w' hS hV=>?_
 have e0:=zQ hV 0
 have e1:=zQ hV 1
 have e2:=zQ hV 2
 have e3:=zQ hV 3
 have e4:=zQ hV 4
 have e5:=zQ hV 5
 have e6:=zQ hV 6
 have e7:=zQ hV 7
 have e8:=zQ hV 8
 have e9:=zQ hV 9
 have e10:=zQ hV 10
 have e11:=zQ hV 11
 have e12:=zQ hV 12
 have e13:=zQ hV 13
 have e14:=zQ hV 14
 have e15:=zQ hV 15
 have b16:=hV 16 (by decide)
 simp only[e0,e1,e2,e3,e4,e5,e6,e7,e8,e9,e10,e11,e12,e13,e14,e15]
 clear e0 e1 e2 e3 e4 e5 e6 e7 e8 e9 e10 e11 e12 e13 e14 e15
 refine wpAny_done (by kernel_rfl) ?_ _
 obtain⟨-,hO3,hB3⟩:=hS
 replace b16:Blk w' w.heap.size 34 #[.slice (some ⟨g,0,none⟩) n n,.slice (some ⟨g,n,none⟩) n n,.slice (some ⟨g,d,none⟩) n (c2-d)]:=b16
 have p0:=b16.cell 0
 have p1:=b16.cell 1
 have p2:=b16.cell 2
 simp at p0 p1 p2
 go_wp2
 exact bodyPost_ret (v:=.agg #[.slice (some ⟨g,0,none⟩) n n,.slice (some ⟨g,n,none⟩) n n,.slice (some ⟨g,d,none⟩) n (c2-d)]) (by simp[results,Tryz.results88,go_sem,p0,p1,p2]) rfl ⟨g,c2,rfl,hO3,hB3⟩
def Own3 (w:World) (B:Nat) (A:Option Addr) (n c:Nat) (us:List Value):Prop:=w.ownsRow B 34 3 (.slice A n c) n us
section
variable {w w':World} {B B':Nat} {A:Option Addr} {n c:Nat} {us:List Value}
theorem Own3.len (h:Own3 w B A n c us):us.length=n*3:=h.1
theorem Own3.below (h:Own3 w B A n c us) (hb:Below w.heap.size w w'):Own3 w' B A n c us:=by
 refine⟨h.1,?_⟩
 rcases h.2 with hn | ⟨g,cap,cur,he,hB,hg,r⟩
 ·exact .inl hn
 ·exact .inr ⟨g,cap,cur,he,hB,(hb.block g (Array.getElem?_eq_some_iff.1 hg).1).trans hg,r⟩
theorem Own3.base (h:Own3 w B A n c us) (hB:B'≤B):Own3 w B' A n c us:=by
 refine⟨h.1,?_⟩
 rcases h.2 with hn | ⟨g,cap,cur,he,hb,r⟩
 ·exact .inl hn
 ·exact .inr ⟨g,cap,cur,he,Nat.le_trans hB hb,r⟩
theorem Own3.cell (h:Own3 w B A n c us) (h0:0<n):∃ g,A=some ⟨g,0,none⟩ ∧ ∀ (j:Nat) (u:Value),us[j]? = some u→w.cell? ⟨g,j,none⟩=some u:=by
 rcases h.2 with ⟨_,hz⟩ | ⟨g,cap,cur,he,hb,hg,r⟩
 ·omega
 ·injection he with hA
  subst hA
  refine⟨g,rfl,fun j u hu=>?_⟩
  have:=World.ownsRow.cells (g:=g) h rfl j u hu
  rwa [Addr.add_lit,Nat.zero_add]at this
theorem Own3.ne {E:TypeId} {A2:Option Addr} {n2 c2 B2:Nat} {vs:List Value} (h:Own3 w B A n c us) (h2:Own w B2 E A2 n2 c2 vs) (hE:E≠34):(Value.slice A2 n2 c2).ownBlock=none∨(Value.slice A2 n2 c2).ownBlock≠(Value.slice A n c).ownBlock:=by
 rcases h2.2 with ⟨e,_⟩ | ⟨g2,cap2,cur2,e2,hb2,hg2,r2⟩
 ·rw[e];exact .inl rfl
 ·rw[e2]
  rcases h.2 with ⟨e,_⟩ | ⟨g,cap,cur,e1,hb,hg,r⟩
  ·rw[e];exact .inr (by simp[Value.ownBlock])
  ·rw[e1]
   refine .inr fun e=>?_
   injection e with e
   subst e
   rw[hg]at hg2
   injection hg2 with hg2
   injection hg2 with _ h3 _
   exact hE h3.symm
theorem OwnII.grown3 {A2:Option Addr} {n2 c2 B2:Nat} {L:List (List Int)} (h:OwnII w B2 A2 n2 c2 L) (h3:Own3 w B A n c us) (hg:w.grownBy w' (Value.slice A n c).ownBlock):OwnII w' B2 A2 n2 c2 L:=by
 obtain⟨rows,ho,hn⟩:=h
 exact⟨rows,ho.grown hg (h3.ne ho (by decide)),hn.len,fun j hj=>by obtain⟨A',c',e,hr⟩:=hn.row j hj;exact⟨A',c',e,hr.grown hg (h3.ne hr (by decide))⟩,hn.apart⟩
theorem Blk.grown3 {g:Nat} {t:TypeId} {cs:Array Value} (k:Blk w g t cs) (ht:t≠34) (h3:Own3 w B A n c us) (hg:w.grownBy w' (Value.slice A n c).ownBlock):Blk w' g t cs:=by
 refine k.grown hg fun e=>?_
 rcases h3.2 with ⟨he,_⟩ | ⟨g3,cap,cur,he,hb,hg3,r⟩
 ·rw[he]at e;cases e
 ·rw[he]at e
  injection e with e
  subst e
  unfold Blk at k
  change w.heap[g]? = _ at hg3
  rw[k]at hg3
  injection hg3 with hg3
  injection hg3 with _ h3 _
  exact ht h3
theorem Below.grown3 {B0:Nat} {w0:World} (hb:Below B0 w0 w) (h3:Own3 w B A n c us) (hg:w.grownBy w' (Value.slice A n c).ownBlock) (hB:B0≤B) (hs:B0≤w.heap.size):Below B0 w0 w':=
 hb.grown hg hs fun k hk=>Nat.le_trans hB (World.ownsRow.lt h3 k hk).1
end
theorem ybE:(Tryz.prog.info? 34).map (fun i=>(i.zero,i.size,i.bytes))=some (some (.agg #[.slice none 0 0,.slice none 0 0,.slice none 0 0]),3,72):=by kernel_rfl
theorem yiu {ops:Array Oper} {rest:List Oper} {o:Oper} {a:Act} {Q:Exit→Act→World→Prop} (B:Nat) (wr:World)
 (hgd:o.guard=none) (s x:Operand) (ho:o.op=.call { callee:=.builtin .append,args:=#[s,x],argTypes:=#[46,46] })
 (A:Option Addr) (n c:Nat) (us:List Value) (u1 u2 u3:Value) (hM:Own3 wr B A n c us) (hB:B≤wr.heap.size) (hn:n≤65536) (g:Nat) (hk:Blk wr g 34 #[u1,u2,u3]) (hu1:u1.oneCell'=true) (hu2:u2.oneCell'=true) (hu3:u3.oneCell'=true)
 (hs:a.eval s=.slice A n c) (hx:a.eval x=.slice (some ⟨g,0,none⟩) 1 1)
 (h:∀ A' c' w',Own3 w' B A' (n+1) c' (us++[u1,u2,u3])→wr.grownBy w' (Value.slice A n c).ownBlock→wpList Tryz.prog ops Q rest (a.put o.dst (.slice A' (n+1) c')) w') :
 wpList Tryz.prog ops Q (o::rest) a wr:=by
 obtain⟨i,hi,h1,h2,h3⟩:=info_parts ybE
 refine wpList_append_own_at wr hgd s x 46 ho B 34 i (.agg #[.slice none 0 0,.slice none 0 0,.slice none 0 0]) 3 72 Tryz.underlying46 hi h1 h2 h3 rfl (by omega) (.slice A n c) n us hs hM ⟨g,0,none⟩ 1 1 [u1,u2,u3] hx rfl (fun j u hu=>by rw[Addr.add_lit,Nat.zero_add];have:=jh hk j u hu;rwa [Nat.zero_add]at this)
  (by intro v hv;simp at hv;rcases hv with rfl | rfl | rfl<;>assumption) (by simp only[maxLen];omega) (by omega) hB ?_
 intro v' w' hown hg _ _
 rcases hown.2 with ⟨_,h0⟩ | ⟨g',cap,cur,rfl,hr⟩
 ·omega
 ·exact h _ _ _ hown hg
theorem yix {o:Oper} {a:Act} {K:Act→World→Prop} {Q:Exit→Act→World→Prop} (B:Nat) (wr:World)
 (s x:Operand) (ho:o.op=.call { callee:=.builtin .append,args:=#[s,x],argTypes:=#[46,46] })
 (A:Option Addr) (n c:Nat) (us:List Value) (u1 u2 u3:Value) (hM:Own3 wr B A n c us) (hB:B≤wr.heap.size) (hn:n≤65536) (g:Nat) (hk:Blk wr g 34 #[u1,u2,u3]) (hu1:u1.oneCell'=true) (hu2:u2.oneCell'=true) (hu3:u3.oneCell'=true)
 (hs:a.eval s=.slice A n c) (hx:a.eval x=.slice (some ⟨g,0,none⟩) 1 1)
 (h:∀ A' c' w',Own3 w' B A' (n+1) c' (us++[u1,u2,u3])→wr.grownBy w' (Value.slice A n c).ownBlock→K (a.put o.dst (.slice A' (n+1) c')) w'):o.wp Tryz.prog a wr K Q:=by
 obtain⟨i,hi,h1,h2,h3⟩:=info_parts ybE
 exact wp_append_lies wr s x 46 ho B 34 i (.agg #[.slice none 0 0,.slice none 0 0,.slice none 0 0]) 3 72 Tryz.underlying46 hi h1 h2 h3 rfl (by omega) (.slice A n c) n us hs hM ⟨g,0,none⟩ 1 1 [u1,u2,u3] hx rfl (fun j u hu=>by rw[Addr.add_lit,Nat.zero_add];have:=jh hk j u hu;rwa [Nat.zero_add]at this)
  (by intro v hv;simp at hv;rcases hv with rfl | rfl | rfl<;>assumption) (by omega) (by simp only[maxLen];omega) (by omega) hB _ rfl (fun g' cap w' hown hg hat _=>h _ _ _ hown hg)
def mA (n:Nat) (x:List Int):List (List Int):=yj (x.take (n*n)) n n
def mB (n:Nat) (x:List Int):List (List Int):=yj ((x.drop (n*n)).take (n*n)) n n
def mC (n:Nat) (x:List Int):List (List Int):=yj (x.drop (2*(n*n))) n n
theorem yhb {n:Nat} {x:List Int} (a:Nat):(yj x n (a+n)).drop a=yj (x.drop (a*n)) n n:=by
 refine yU [] (by rw[List.length_drop,zj,zj];omega) fun i hi=>?_
 rw[List.length_drop,zj]at hi
 have e1:((yj x n (a+n)).drop a).getD i []=(yj x n (a+n)).getD (a+i) []:=by rw[List.getD_eq_getElem?_getD,List.getElem?_drop,← List.getD_eq_getElem?_getD]
 rw[e1]
 unfold yj
 rw[yC (by omega),yC (by omega),List.drop_drop,Nat.add_mul]
theorem ycP {n m:Nat} {x:List Int} (h:n≤m):(yj x n m).take n=yj x n n:=by
 refine yU [] (by rw[List.length_take,zj,zj];omega) fun i hi=>?_
 rw[List.length_take,zj]at hi
 have e1:((yj x n m).take n).getD i []=(yj x n m).getD i []:=by rw[List.getD_eq_getElem?_getD,List.getElem?_take,if_pos (by omega),← List.getD_eq_getElem?_getD]
 rw[e1]
 unfold yj
 rw[yC (by omega),yC (by omega)]
theorem ycO {n s:Nat} {x:List Int} (hs:n*n≤s):yj (x.take s) n n=yj x n n:=by
 unfold yj
 refine uQ fun i hi=>?_
 have h:=Nat.mul_le_mul_right n (show i+1≤n by omega)
 rw[Nat.add_mul,Nat.one_mul]at h
 rw[List.drop_take,List.take_take,Nat.min_eq_left (by omega)]
theorem ygz (n:Nat) (x:List Int):((yj x n (3*n)).drop 0).take n=mA n x∧((yj x n (3*n)).drop n).take n=mB n x∧((yj x n (3*n)).drop (2*n)).take n=mC n x:=by
 refine⟨?_,?_,?_⟩
 ·rw[List.drop_zero,ycP (by omega)]
  exact (ycO (Nat.le_refl _)).symm
 ·have e:(yj x n (3*n)).drop n=yj (x.drop (n*n)) n (2*n):=by
   refine yU [] (by rw[List.length_drop,zj,zj];omega) fun i hi=>?_
   rw[List.length_drop,zj]at hi
   have e1:((yj x n (3*n)).drop n).getD i []=(yj x n (3*n)).getD (n+i) []:=by rw[List.getD_eq_getElem?_getD,List.getElem?_drop,← List.getD_eq_getElem?_getD]
   rw[e1]
   unfold yj
   rw[yC (by omega),yC (by omega),List.drop_drop,Nat.add_mul]
  rw[e,ycP (by omega)]
  exact (ycO (Nat.le_refl _)).symm
 ·have e:=yhb (n:=n) (x:=x) (2*n)
  rw[show 2*n+n=3*n by omega,Nat.mul_assoc]at e
  rw[e,List.take_of_length_le (by rw[zj];exact Nat.le_refl _)]
  rfl
def CT (w:World) (B n:Nat) (x:List Int) (u1 u2 u3:Value):Prop:=
 (∃ g c,u1=.slice (some ⟨g,0,none⟩) n n∧u2=.slice (some ⟨g,n,none⟩) n n∧u3=.slice (some ⟨g,2*n,none⟩) n (c-2*n)∧OwnII w B (some ⟨g,0,none⟩) (3*n) c (yj x n (3*n))) ∨
 ∃ A1 c1 A2 c2 A3 c3,u1=.slice A1 n c1∧u2=.slice A2 n c2∧u3=.slice A3 n c3∧OwnII w B A1 n c1 (mA n x)∧OwnII w B A2 n c2 (mB n x)∧OwnII w B A3 n c3 (mC n x)
section
variable {w w':World} {B B' n:Nat} {x:List Int} {u1 u2 u3:Value}
theorem CT.below (h:CT w B n x u1 u2 u3) (hb:Below w.heap.size w w'):CT w' B n x u1 u2 u3:=by
 rcases h with ⟨g,c,e1,e2,e3,ho⟩ | ⟨A1,c1,A2,c2,A3,c3,e1,e2,e3,h1,h2,h3⟩
 ·exact .inl ⟨g,c,e1,e2,e3,ho.below hb⟩
 ·exact .inr ⟨A1,c1,A2,c2,A3,c3,e1,e2,e3,h1.below hb,h2.below hb,h3.below hb⟩
theorem CT.base (h:CT w B n x u1 u2 u3) (hB:B'≤B):CT w B' n x u1 u2 u3:=by
 rcases h with ⟨g,c,e1,e2,e3,ho⟩ | ⟨A1,c1,A2,c2,A3,c3,e1,e2,e3,h1,h2,h3⟩
 ·exact .inl ⟨g,c,e1,e2,e3,ho.base hB⟩
 ·exact .inr ⟨A1,c1,A2,c2,A3,c3,e1,e2,e3,h1.base hB,h2.base hB,h3.base hB⟩
theorem CT.grown3 {B2:Nat} {A:Option Addr} {m c:Nat} {us:List Value} (h:CT w B n x u1 u2 u3) (h3:Own3 w B2 A m c us) (hg:w.grownBy w' (Value.slice A m c).ownBlock):CT w' B n x u1 u2 u3:=by
 rcases h with ⟨g,c,e1,e2,e3,ho⟩ | ⟨A1,c1,A2,c2,A3,c3,e1,e2,e3,g1,g2,g3⟩
 ·exact .inl ⟨g,c,e1,e2,e3,ho.grown3 h3 hg⟩
 ·exact .inr ⟨A1,c1,A2,c2,A3,c3,e1,e2,e3,g1.grown3 h3 hg,g2.grown3 h3 hg,g3.grown3 h3 hg⟩
theorem CT.one (h:CT w B n x u1 u2 u3):u1.oneCell'=true∧u2.oneCell'=true∧u3.oneCell'=true:=by
 rcases h with ⟨g,c,rfl,rfl,rfl,ho⟩ | ⟨A1,c1,A2,c2,A3,c3,rfl,rfl,rfl,h1,h2,h3⟩<;>exact⟨rfl,rfl,rfl⟩
theorem CT.rd (h:CT w B n x u1 u2 u3):∃ A1 c1 A2 c2 A3 c3,u1=.slice A1 n c1∧u2=.slice A2 n c2∧u3=.slice A3 n c3∧RdII w A1 n (mA n x)∧RdII w A2 n (mB n x)∧RdII w A3 n (mC n x)∧n≤c1∧n≤c2∧n≤c3:=by
 rcases h with ⟨g,c,e1,e2,e3,ho⟩ | ⟨A1,c1,A2,c2,A3,c3,e1,e2,e3,h1,h2,h3⟩
 ·obtain⟨p1,p2,p3⟩:=ygz n x
  have hc:=ho.cap
  have q1:=ho.rd.part (i:=0) (m:=n) (by omega)
  have q2:=ho.rd.part (i:=n) (m:=n) (by omega)
  have q3:=ho.rd.part (i:=2*n) (m:=n) (by omega)
  rw[p1]at q1
  rw[p2,Nat.zero_add]at q2
  rw[p3,Nat.zero_add]at q3
  exact⟨_,_,_,_,_,_,e1,e2,e3,q1,q2,q3,Nat.le_refl _,Nat.le_refl _,by omega⟩
 ·exact⟨_,_,_,_,_,_,e1,e2,e3,h1.rd,h2.rd,h3.rd,h1.cap,h2.cap,h3.cap⟩
end
def LT (w:World) (B n:Nat) (us:List Value) (xs:List (List Int)):Prop:=us.length=3*xs.length ∧ ∀ i,i<xs.length → ∃ u1 u2 u3,us[3*i]? = some u1∧us[3*i+1]? = some u2∧us[3*i+2]? = some u3∧CT w B n (xs.getD i []) u1 u2 u3
theorem LT.nil (w:World) (B n:Nat):LT w B n [] []:=⟨rfl,fun i hi=>absurd hi (by simp)⟩
theorem LT.below {w w':World} {B n:Nat} {us:List Value} {xs:List (List Int)} (h:LT w B n us xs) (hb:Below w.heap.size w w'):LT w' B n us xs:=⟨h.1,fun i hi=>by obtain⟨u1,u2,u3,e1,e2,e3,hc⟩:=h.2 i hi;exact⟨u1,u2,u3,e1,e2,e3,hc.below hb⟩⟩
theorem LT.grown3 {w w':World} {B n:Nat} {us:List Value} {xs:List (List Int)} {B2:Nat} {A:Option Addr} {m c:Nat} {vs:List Value} (h:LT w B n us xs) (h3:Own3 w B2 A m c vs) (hg:w.grownBy w' (Value.slice A m c).ownBlock):LT w' B n us xs:=⟨h.1,fun i hi=>by obtain⟨u1,u2,u3,e1,e2,e3,hc⟩:=h.2 i hi;exact⟨u1,u2,u3,e1,e2,e3,hc.grown3 h3 hg⟩⟩
theorem LT.snoc {w:World} {B n:Nat} {us:List Value} {xs:List (List Int)} {x:List Int} {u1 u2 u3:Value} (h:LT w B n us xs) (hc:CT w B n x u1 u2 u3):LT w B n (us++[u1,u2,u3]) (xs++[x]):=by
 obtain⟨hl,h⟩:=h
 refine⟨by simp[hl];omega,fun i hi=>?_⟩
 rw[List.length_append]at hi
 by_cases hlt:i<xs.length
 ·obtain⟨v1,v2,v3,e1,e2,e3,hv⟩:=h i hlt
  exact⟨v1,v2,v3,by rw[List.getElem?_append_left (by omega)];exact e1,by rw[List.getElem?_append_left (by omega)];exact e2,by rw[List.getElem?_append_left (by omega)];exact e3,by rw[uF hlt];exact hv⟩
 ·obtain rfl:i=xs.length:=by simp at hi;omega
  refine⟨u1,u2,u3,?_,?_,?_,by rw[vS (Nat.le_refl _),Nat.sub_self];exact hc⟩
  ·rw[List.getElem?_append_right (by omega),hl,Nat.sub_self];rfl
  ·rw[List.getElem?_append_right (by omega),hl,show 3*xs.length+1-3*xs.length=1 by omega];rfl
  ·rw[List.getElem?_append_right (by omega),hl,show 3*xs.length+2-3*xs.length=2 by omega];rfl
set_option maxHeartbeats 1600000 in
set_option maxRecDepth 8000 in
theorem j6 (X:Option Addr) (m cx:Nat) (xs:List Int) (n cnt:Nat) (w:World) (h0:0<n) (hn:n≤64) (hcnt:cnt≤1000) (hm:m=cnt*n) (hcx:m≤cx) (hx:Rd w X m (ints xs)) :
 Calls Tryz.prog 141 #[.slice X m cx,.int .i64 n] w fun e w'=>∃ A' c',e=.returned (.slice A' cnt c')∧MkII w w' A' cnt c' (yj xs n cnt):=by
 have hM0:MkII w (w.alloc (.cells #[] 24)) (some ⟨w.heap.size,0,none⟩) 0 0 []:=MkII.empty zG
 have hmB:m≤64000:=by rw[hm];exact Nat.mul_le_mul hcnt hn
 have HM:=Lib.hid hm
 have HXL:=Lib.hid hx.lenI
 clear hm
 go_enter Tryz.func141,Tryz.ntmps141
 go_wp2
 go_loopw [5,6] (fun out i wr=>∃ (j t:Nat) (A':Option Addr) (c':Nat),j≤cnt∧i=.int .i64 t∧Hid (t=j*n)∧t≤64000∧out=.slice A' j c'∧Hid (MkII w wr A' j c' (yj xs n j))) (fun _ i _=>m-(intOf i).toNat)
 case atStart=>exact⟨0,0,_,_,by omega,rfl,Lib.hid (by simp),by omega,rfl,Lib.hid hM0⟩
 case round=>
  obtain⟨j,t,A',c',hj,rfl,HTT,ht,rfl,HMM⟩:=hrel
  clear hM0
  by_cases hlt:t<m
  ·have hjc:j<cnt:=by
    refine Nat.lt_of_le_of_ne hj fun e=>?_
    have h1:=HTT.out
    have h2:=HM.out
    rw[e]at h1
    omega
   have htn:t+n≤m:=by
    have h1:=HTT.out
    have h2:=HM.out
    have h3:=Nat.mul_le_mul_right n (show j+1≤cnt by omega)
    rw[Nat.add_mul,Nat.one_mul]at h3
    omega
   obtain⟨gx,ox,rfl,hx2⟩:=(hx.below HMM.out.b).behind hlt
   have hx3:=hx2.cut (show n≤m-t by omega)
   rw[vc,qs]at hx3
   have s1:=fun w=>yar (g:=gx) (o:=ox) (c:=cx) (m:=m) (lo:=t) (hi:=t+n) w (by omega) (by omega) (by omega)
   simp only[Nat.add_sub_cancel_left]at s1
   have e1:((t+n:Nat):Int)=(t:Int)+(n:Int):=by omega
   rw[e1]at s1
   have hcl:=ybS (some ⟨gx,ox+t,none⟩) n (cx-t) ((xs.drop t).take n) wr (by omega) hx3
   have HT2:Hid (t+n=(j+1)*n):=Lib.hid (by rw[HTT.out,Nat.add_mul,Nat.one_mul])
   have HRO:Hid (yj xs n (j+1)=yj xs n j++[(xs.drop t).take n]):=Lib.hid (by unfold yj;rw[yQ,← HTT.out])
   clear hx hx2 hx3 e1
   go_wp2_with fail
   refine hcl.mono ?_
   rintro e w1 ⟨A1,c1,rfl,hM1⟩
   clear hcl
   go_wp2_with (at_builtin;refine vw w wr _ rfl _ _ rfl A' j c' _ A1 n c1 _ HMM.out hM1 (by omega) rfl ?_ ?_;(go_simp);intro A4 c4 w4 hM4)
   go_roundw
   case rel=>exact⟨j+1,t+n,A4,c4,by omega,by go_num,HT2,by omega,rfl,Lib.hid (by rw[HRO.out];exact hM4)⟩
   case measure=>simp[intOf];omega
  ·obtain rfl:j=cnt:=by
    refine Nat.le_antisymm hj (Nat.le_of_not_lt fun h=>hlt ?_)
    have h1:=HTT.out
    have h2:=HM.out
    have h3:=Nat.mul_le_mul_right n (show j+1≤cnt by omega)
    rw[Nat.add_mul,Nat.one_mul]at h3
    omega
   go_wp2
   go_ret
   exact⟨_,_,rfl,HMM.out⟩
theorem ycU {g o c m k:Nat} (w:World) (hk:k≤m) (hc:m≤c) (h0:0<k):(Instr.slice 24 (.slice (some ⟨g,o,none⟩) m c) none (some (.int .i64 (k:Int))) none).run Tryz.prog w=.ok (.slice (some ⟨g,o,none⟩) k c) w:=by
 have h:=run_slice_h (P:=Tryz.prog) (w:=w) (t:=24) (a:=some ⟨g,o,none⟩) (len:=m) (cap:=c) (ht:=by kernel_rfl) (kh:=.i64) (h:=(k:Int)) (h0:=by omega) (h2:=by omega)
 have hne:c≠0:=by omega
 rw[h]
 simp[go_sem,sliced,hne,Addr.add]
set_option maxHeartbeats 6400000 in
set_option maxRecDepth 8000 in
theorem ybZ (p:Int) (A:Option Addr) (k c:Nat) (X:Option Addr) (t3 cx n s:Nat) (xs:List Int) (w:World) (hk:k≤3) (hn:n=pw k) (hs:s=n*n) (ht:t3=3*s) (hcx:t3≤cx) (hx:Rd w X t3 (ints xs)) :
 Calls Tryz.prog 94 #[.agg #[.int .i64 p,.slice A k c],.slice X t3 cx] w fun e w'=>∃ A1 c1 A2 c2 A3 c3,e=.returned (.agg #[.slice A1 n c1,.slice A2 n c2,.slice A3 n c3])∧TripW w w' n A1 c1 (yj (xs.take s) n n) A2 c2 (yj ((xs.drop s).take s) n n) A3 c3 (yj (xs.drop (2*s)) n n):=by
 have hB0:Below w.heap.size w ((w.alloc (.cells #[.int .i64 p,.slice A k c] 26)).alloc (.cells #[.slice none 0 0,.slice none 0 0,.slice none 0 0] 34)):=(zG.alloc (Nat.le_refl _) _).alloc (by simp) _
 have k0:Blk ((w.alloc (.cells #[.int .i64 p,.slice A k c] 26)).alloc (.cells #[.slice none 0 0,.slice none 0 0,.slice none 0 0] 34)) w.heap.size 26 #[.int .i64 p,.slice A k c]:=(Blk.new _ _ _).alloc _
 have kr0:Blk ((w.alloc (.cells #[.int .i64 p,.slice A k c] 26)).alloc (.cells #[.slice none 0 0,.slice none 0 0,.slice none 0 0] 34)) (w.heap.size+1) 34 #[.slice none 0 0,.slice none 0 0,.slice none 0 0]:=Blk.newAt3 (w:=w.alloc (.cells #[.int .i64 p,.slice A k c] 26)) (by simp)
 have hpk:pw k≤8:=yz hk
 have hpos:=yq k
 rw[← hn]at hpk hpos
 have h0:0<n:=hpos
 have hs64:s≤64:=by rw[hs];exact Nat.mul_le_mul hpk hpk
 have hs1:0<s:=by rw[hs];exact Nat.mul_pos h0 h0
 obtain⟨d,hd⟩:∃ d,d=2*n:=⟨_,rfl⟩
 obtain⟨s2,hs2⟩:∃ z,z=2*s:=⟨_,rfl⟩
 rw[← hs2]
 have hds:d*n=s2:=by rw[hd,hs2,hs,Nat.mul_assoc]
 have HW1:Hid (wrap64 ((n:Int)*(n:Int))=(s:Int)):=Lib.hid (by rw[show (n:Int)*(n:Int)=(s:Int) by rw[hs];simp];unfold wrap64;omega)
 have HW2:Hid (wrap64 (2*(n:Int))=(d:Int)):=Lib.hid (by unfold wrap64;omega)
 have HW3:Hid (wrap64 ((d:Int)*(n:Int))=(s2:Int)):=Lib.hid (by rw[show (d:Int)*(n:Int)=(s2:Int) by rw[← hds];simp];unfold wrap64;omega)
 have hxl:=hx.lenI
 obtain⟨gx,ox,rfl,hb1⟩:=hx.behind (show s<t3 by omega)
 obtain⟨g',o',e',hb2⟩:=hx.behind (show s2<t3 by omega)
 injection e' with e';injection e' with e1 e2 _;subst e1;subst e2
 have HX1:Hid (Rd w (some ⟨gx,ox,none⟩) s (ints (xs.take s))):=Lib.hid (by have:=hx.cutT (show s≤t3 by omega);rwa [show (ints xs).take s=ints (xs.take s) by unfold ints;rw[List.map_take]]at this)
 have HX2:Hid (Rd w (some ⟨gx,ox+s,none⟩) s (ints ((xs.drop s).take s))):=Lib.hid (by have:=hb1.cutT (show s≤t3-s by omega);rwa [vc,show (ints (xs.drop s)).take s=ints ((xs.drop s).take s) by unfold ints;rw[List.map_take]]at this)
 have HX3:Hid (Rd w (some ⟨gx,ox+s2,none⟩) s (ints (xs.drop s2))):=Lib.hid (by rw[vc,show t3-s2=s by omega]at hb2;exact hb2)
 have hsl1:=fun w'=>ycU (g:=gx) (o:=ox) (c:=cx) (m:=t3) (k:=s) w' (by omega) hcx hs1
 have hsl2:=fun w'=>yar (g:=gx) (o:=ox) (c:=cx) (m:=t3) (lo:=s) (hi:=s2) w' (by omega) (by omega) (by omega)
 have hsl3:=fun w'=>uh (g:=gx) (o:=ox) (c:=cx) (m:=t3) (k:=s2) w' (by omega) (by omega)
 rw[show s2-s=s by omega]at hsl2
 rw[show t3-s2=s by omega]at hsl3
 have hsz:=xb p A k c ((w.alloc (.cells #[.int .i64 p,.slice A k c] 26)).alloc (.cells #[.slice none 0 0,.slice none 0 0,.slice none 0 0] 34)) (by omega)
 rw[← hn]at hsz
 have HSS:=Lib.hid hs
 have HSL1:=Lib.hid hsl1
 have HSL2:=Lib.hid hsl2
 have HSL3:=Lib.hid hsl3
 have b1:s≤cx:=by omega
 have b2:s≤cx-s:=by omega
 have b3:s≤cx-s2:=by omega
 clear hn hs hd hs2 hds hxl hb1 hb2 hx hsl1 hsl2 hsl3 ht hcx
 obtain⟨q0,q1⟩:=k0.two
 go_enter Tryz.func94,Tryz.ntmps94
 go_wp2_with fail
 refine hsz.mono ?_
 rintro e w2 ⟨rfl,hb2⟩
 have kr2:=kr0.below hb2 kr0.lt
 have hB2:=hB0.trans (hb2.mono hB0.size)
 have hs12:=HSL1.out
 have hs19:=HSL2.out
 have hs23:=HSL3.out
 have W1:=HW1.out
 have W2:=HW2.out
 have W3:=HW3.out
 clear hsz k0 kr0 q0 q1 hb2 hB0
 go_wp2
 refine xy 28 (RelT (w.heap.size+1)) [[],[],[],[1,2],[0,1,2,3],[],[0,1,2,3,4,5],[],[],[],[8,9],[],[11],[],[11,12,13],[7,8,9,10,11,12,13,14],[],[7,8,9,10,11,12,13,14,15,16],[],[],[19],[],[19,20,21],[18,19,20,21,22],[],[18,19,20,21,22,23,24],[0,1,2,3,4,5,6,7,8,9,10,11,12,13,14,15,16,17,18,19,20,21,22,23,24,25],[0,1,2,3,4,5,6,7,8,9,10,11,12,13,14,15,16,17,18,19,20,21,22,23,24,25,26]] [[],[],[],[],[],[],[],[],[],[],[],[],[],[],[],[],[],[],[],[],[],[],[],[],[],[],[],[6,17,25,26]] (fun x=>[VIs (.slice (some ⟨gx,ox,none⟩) t3 cx),VIs (.int .i64 (n:Nat)),VIs (.int .i64 (n:Nat)),VIs (.int .i64 (s:Nat)),VIs (.slice (some ⟨gx,ox,none⟩) s cx),VIs (.int .i64 (n:Nat)),VMat w n (yj (xs.take s) n n),VIs (.slice (some ⟨gx,ox,none⟩) t3 cx),VIs (.int .i64 (n:Nat)),VIs (.int .i64 (n:Nat)),VIs (.int .i64 (s:Nat)),VIs (.int .i64 (n:Nat)),VIs (.int .i64 (d:Nat)),VIs (.int .i64 (n:Nat)),VIs (.int .i64 (s2:Nat)),VIs (.slice (some ⟨gx,ox+s,none⟩) s (cx-s)),VIs (.int .i64 (n:Nat)),VMat w n (yj ((xs.drop s).take s) n n),VIs (.slice (some ⟨gx,ox,none⟩) t3 cx),VIs (.int .i64 (n:Nat)),VIs (.int .i64 (d:Nat)),VIs (.int .i64 (n:Nat)),VIs (.int .i64 (s2:Nat)),VIs (.slice (some ⟨gx,ox+s2,none⟩) s (cx-s2)),VIs (.int .i64 (n:Nat)),VMat w n (yj (xs.drop s2) n n),VTv w n (yj (xs.take s) n n) (yj ((xs.drop s).take s) n n) (yj (xs.drop s2) n n),VTs w (w.heap.size+1) n (yj (xs.take s) n n) (yj ((xs.drop s).take s) n n) (yj (xs.drop s2) n n) (x 26)]) (fun w'=>SBt (w.heap.size+1) w'∧Below w.heap.size w w') (by kernel_rfl) (by kernel_rfl) (fun x x' j hx=>by
  rcases j with _ | _ | _ | _ | _ | _ | _ | _ | _ | _ | _ | _ | _ | _ | _ | _ | _ | _ | _ | _ | _ | _ | _ | _ | _ | _ | _ | _ | j
  ·rfl
  ·rfl
  ·rfl
  ·rfl
  ·rfl
  ·rfl
  ·rfl
  ·rfl
  ·rfl
  ·rfl
  ·rfl
  ·rfl
  ·rfl
  ·rfl
  ·rfl
  ·rfl
  ·rfl
  ·rfl
  ·rfl
  ·rfl
  ·rfl
  ·rfl
  ·rfl
  ·rfl
  ·rfl
  ·rfl
  ·rfl
  ·rw[hx 26 (by decide)]
  ·rfl)
  (z6 [0,1,2,3,4,5,7,8,9,10,11,12,13,14,15,16,18,19,20,21,22,23,24] (by decide) (fun k hk x v w w' hp hr=>by
   simp only[List.mem_cons,zJ,or_false]at hk
   rcases hk with rfl | rfl | rfl | rfl | rfl | rfl | rfl | rfl | rfl | rfl | rfl | rfl | rfl | rfl | rfl | rfl | rfl | rfl | rfl | rfl | rfl | rfl | rfl
   ·exact hp
   ·exact hp
   ·exact hp
   ·exact hp
   ·exact hp
   ·exact hp
   ·exact hp
   ·exact hp
   ·exact hp
   ·exact hp
   ·exact hp
   ·exact hp
   ·exact hp
   ·exact hp
   ·exact hp
   ·exact hp
   ·exact hp
   ·exact hp
   ·exact hp
   ·exact hp
   ·exact hp
   ·exact hp
   ·exact hp)) (fun j _ _ h hb=>hb.either (fun hb=>⟨h.1.below hb,h.2.trans (hb.mono h.2.size)⟩) (fun hr=>⟨h.1.relT hr,ur h.2 (by omega) hr⟩)) (⟨⟨_,_,_,kr2.drew⟩,hB2.trans zG.drew⟩) (fun x=>?_)
 refine yd (Eq.trans (by simp only[zA,zC];exact rfl) rfl) rfl (fun w' hS hV K hK=>?_) ?_
 ·skip;go_simp;exact hK.out _ _ _ rfl rfl rfl zG
 simp only[zD,zE,zF]
 refine yd (Eq.trans (by simp only[zA,zB,zC];exact rfl) rfl) rfl (fun w' hS hV K hK=>?_) ?_
 ·skip;go_simp;exact hK.out _ _ _ rfl rfl rfl zG
 simp only[zD,zE,zF]
 refine yd (Eq.trans (by simp only[zA,zB,zC];exact rfl) rfl) rfl (fun w' hS hV K hK=>?_) ?_
 ·skip;go_simp;exact hK.out _ _ _ rfl rfl rfl zG
 simp only[zD,zE,zF]
 refine yd (Eq.trans (by simp only[zA,zB,zC];exact rfl) rfl) rfl (fun w' hS hV K hK=>?_) ?_
 ·have e1:=zQ hV 1;have e2:=zQ hV 2;skip;go_simp;exact hK.out _ _ _ rfl rfl (by first | rfl | exact congrArg (Value.int .i64) (by rw[IntWalk.i64_left];exact W1:IntKind.i64.wrap ((n:Int)*(n:Int))=(s:Int))) zG
 simp only[zD,zE,zF]
 refine yd (Eq.trans (by simp only[zA,zB,zC];exact rfl) rfl) rfl (fun w' hS hV K hK=>?_) ?_
 ·have e0:=zQ hV 0;have e3:=zQ hV 3;skip;go_simp;exact hK.out _ _ _ rfl rfl rfl zG
 simp only[zD,zE,zF]
 refine yd (Eq.trans (by simp only[zA,zB,zC];exact rfl) rfl) rfl (fun w' hS hV K hK=>?_) ?_
 ·skip;go_simp;exact hK.out _ _ _ rfl rfl rfl zG
 simp only[zD,zE,zF]
 refine yd (Eq.trans (by simp only[zA,zB,zC];exact rfl) rfl) rfl (fun w' hS hV K hK=>?_) ?_
 ·have e4:=zQ hV 4;have e5:=zQ hV 5;skip;go_simp;refine (j6 (some ⟨gx,ox,none⟩) s cx (xs.take s) n n w' h0 (by omega) (by omega) HSS.out (by omega) (HX1.out.below hS.2)).mono ?_;rintro e v1 ⟨A9,c9,rfl,hM⟩;exact hK.out _ _ _ rfl rfl ⟨_,_,rfl,hM.after hS.2⟩ hM.b
 simp only[zD,zE,zF]
 refine yd (Eq.trans (by simp only[zA,zB,zC];exact rfl) rfl) rfl (fun w' hS hV K hK=>?_) ?_
 ·skip;go_simp;exact hK.out _ _ _ rfl rfl rfl zG
 simp only[zD,zE,zF]
 refine yd (Eq.trans (by simp only[zA,zB,zC];exact rfl) rfl) rfl (fun w' hS hV K hK=>?_) ?_
 ·skip;go_simp;exact hK.out _ _ _ rfl rfl rfl zG
 simp only[zD,zE,zF]
 refine yd (Eq.trans (by simp only[zA,zB,zC];exact rfl) rfl) rfl (fun w' hS hV K hK=>?_) ?_
 ·skip;go_simp;exact hK.out _ _ _ rfl rfl rfl zG
 simp only[zD,zE,zF]
 refine yd (Eq.trans (by simp only[zA,zB,zC];exact rfl) rfl) rfl (fun w' hS hV K hK=>?_) ?_
 ·have e8:=zQ hV 8;have e9:=zQ hV 9;skip;go_simp;exact hK.out _ _ _ rfl rfl (by first | rfl | exact congrArg (Value.int .i64) (by rw[IntWalk.i64_left];exact W1:IntKind.i64.wrap ((n:Int)*(n:Int))=(s:Int))) zG
 simp only[zD,zE,zF]
 refine yd (Eq.trans (by simp only[zA,zB,zC];exact rfl) rfl) rfl (fun w' hS hV K hK=>?_) ?_
 ·skip;go_simp;exact hK.out _ _ _ rfl rfl rfl zG
 simp only[zD,zE,zF]
 refine yd (Eq.trans (by simp only[zA,zB,zC];exact rfl) rfl) rfl (fun w' hS hV K hK=>?_) ?_
 ·have e11:=zQ hV 11;skip;go_simp;exact hK.out _ _ _ rfl rfl (by first | rfl | exact congrArg (Value.int .i64) (by rw[IntWalk.i64_left];exact W2:IntKind.i64.wrap (2*(n:Int))=(d:Int))) zG
 simp only[zD,zE,zF]
 refine yd (Eq.trans (by simp only[zA,zB,zC];exact rfl) rfl) rfl (fun w' hS hV K hK=>?_) ?_
 ·skip;go_simp;exact hK.out _ _ _ rfl rfl rfl zG
 simp only[zD,zE,zF]
 refine yd (Eq.trans (by simp only[zA,zB,zC];exact rfl) rfl) rfl (fun w' hS hV K hK=>?_) ?_
 ·have e12:=zQ hV 12;have e13:=zQ hV 13;skip;go_simp;exact hK.out _ _ _ rfl rfl (by first | rfl | exact congrArg (Value.int .i64) (by rw[IntWalk.i64_left];exact W3:IntKind.i64.wrap ((d:Int)*(n:Int))=(s2:Int))) zG
 simp only[zD,zE,zF]
 refine yd (Eq.trans (by simp only[zA,zB,zC];exact rfl) rfl) rfl (fun w' hS hV K hK=>?_) ?_
 ·have e7:=zQ hV 7;have e10:=zQ hV 10;have e14:=zQ hV 14;skip;go_simp;exact hK.out _ _ _ rfl rfl rfl zG
 simp only[zD,zE,zF]
 refine yd (Eq.trans (by simp only[zA,zB,zC];exact rfl) rfl) rfl (fun w' hS hV K hK=>?_) ?_
 ·skip;go_simp;exact hK.out _ _ _ rfl rfl rfl zG
 simp only[zD,zE,zF]
 refine yd (Eq.trans (by simp only[zA,zB,zC];exact rfl) rfl) rfl (fun w' hS hV K hK=>?_) ?_
 ·have e15:=zQ hV 15;have e16:=zQ hV 16;skip;go_simp;refine (j6 (some ⟨gx,ox+s,none⟩) s (cx-s) ((xs.drop s).take s) n n w' h0 (by omega) (by omega) HSS.out (by omega) (HX2.out.below hS.2)).mono ?_;rintro e v1 ⟨A9,c9,rfl,hM⟩;exact hK.out _ _ _ rfl rfl ⟨_,_,rfl,hM.after hS.2⟩ hM.b
 simp only[zD,zE,zF]
 refine yd (Eq.trans (by simp only[zA,zB,zC];exact rfl) rfl) rfl (fun w' hS hV K hK=>?_) ?_
 ·skip;go_simp;exact hK.out _ _ _ rfl rfl rfl zG
 simp only[zD,zE,zF]
 refine yd (Eq.trans (by simp only[zA,zB,zC];exact rfl) rfl) rfl (fun w' hS hV K hK=>?_) ?_
 ·skip;go_simp;exact hK.out _ _ _ rfl rfl rfl zG
 simp only[zD,zE,zF]
 refine yd (Eq.trans (by simp only[zA,zB,zC];exact rfl) rfl) rfl (fun w' hS hV K hK=>?_) ?_
 ·have e19:=zQ hV 19;skip;go_simp;exact hK.out _ _ _ rfl rfl (by first | rfl | exact congrArg (Value.int .i64) (by rw[IntWalk.i64_left];exact W2:IntKind.i64.wrap (2*(n:Int))=(d:Int))) zG
 simp only[zD,zE,zF]
 refine yd (Eq.trans (by simp only[zA,zB,zC];exact rfl) rfl) rfl (fun w' hS hV K hK=>?_) ?_
 ·skip;go_simp;exact hK.out _ _ _ rfl rfl rfl zG
 simp only[zD,zE,zF]
 refine yd (Eq.trans (by simp only[zA,zB,zC];exact rfl) rfl) rfl (fun w' hS hV K hK=>?_) ?_
 ·have e20:=zQ hV 20;have e21:=zQ hV 21;skip;go_simp;exact hK.out _ _ _ rfl rfl (by first | rfl | exact congrArg (Value.int .i64) (by rw[IntWalk.i64_left];exact W3:IntKind.i64.wrap ((d:Int)*(n:Int))=(s2:Int))) zG
 simp only[zD,zE,zF]
 refine yd (Eq.trans (by simp only[zA,zB,zC];exact rfl) rfl) rfl (fun w' hS hV K hK=>?_) ?_
 ·have e18:=zQ hV 18;have e22:=zQ hV 22;skip;go_simp;exact hK.out _ _ _ rfl rfl rfl zG
 simp only[zD,zE,zF]
 refine yd (Eq.trans (by simp only[zA,zB,zC];exact rfl) rfl) rfl (fun w' hS hV K hK=>?_) ?_
 ·skip;go_simp;exact hK.out _ _ _ rfl rfl rfl zG
 simp only[zD,zE,zF]
 refine yd (Eq.trans (by simp only[zA,zB,zC];exact rfl) rfl) rfl (fun w' hS hV K hK=>?_) ?_
 ·have e23:=zQ hV 23;have e24:=zQ hV 24;skip;go_simp;refine (j6 (some ⟨gx,ox+s2,none⟩) s (cx-s2) (xs.drop s2) n n w' h0 (by omega) (by omega) HSS.out (by omega) (HX3.out.below hS.2)).mono ?_;rintro e v1 ⟨A9,c9,rfl,hM⟩;exact hK.out _ _ _ rfl rfl ⟨_,_,rfl,hM.after hS.2⟩ hM.b
 simp only[zD,zE,zF]
 refine yd (Eq.trans (by simp only[zA,zB,zC];exact rfl) rfl) rfl (fun w' hS hV K hK=>?_) ?_
 ·obtain⟨A6,c6,e6,h6⟩:=hV 6 (by decide);obtain⟨A17,c17,e17,h17⟩:=hV 17 (by decide);obtain⟨A25,c25,e25,h25⟩:=hV 25 (by decide);skip;go_simp;exact hK.out _ _ _ rfl rfl ⟨_,_,_,_,_,_,rfl,h6,h17,h25⟩ zG
 simp only[zD,zE,zF]
 refine xp (Eq.trans (by simp only[zA,zB,zC];exact rfl) rfl) rfl (fun w' hS hV K hK=>?_) ?_
 ·obtain⟨A6,c6,e6,h6⟩:=hV 6 (by decide);obtain⟨A17,c17,e17,h17⟩:=hV 17 (by decide);obtain⟨A25,c25,e25,h25⟩:=hV 25 (by decide);obtain⟨A1,c1,A2,c2,A3,c3,e26,hB1,hB2_,hB3⟩:=hV 26 (by decide);skip;obtain⟨a9,b9,d9,k9⟩:=hS.1;have r0:=k9.cell 0;have r1:=k9.cell 1;have r2:=k9.cell 2;have z0:=k9.frozen 0;have z1:=k9.frozen 1;have z2:=k9.frozen 2;simp at r0 r1 r2;go_simp;exact hK.out _ _ rfl ⟨_,_,_,_,_,_,e26,k9.storedT,TripW.stored hB1 hB2_ hB3 k9 hS.2 (by omega)⟩ (StepR.rel rfl ⟨_,_,_,_,_,_,k9,rfl⟩)
 refine fun w' hS hV=>?_
 have e0:=zQ hV 0
 have e1:=zQ hV 1
 have e2:=zQ hV 2
 have e3:=zQ hV 3
 have e4:=zQ hV 4
 have e5:=zQ hV 5
 have e7:=zQ hV 7
 have e8:=zQ hV 8
 have e9:=zQ hV 9
 have e10:=zQ hV 10
 have e11:=zQ hV 11
 have e12:=zQ hV 12
 have e13:=zQ hV 13
 have e14:=zQ hV 14
 have e15:=zQ hV 15
 have e16:=zQ hV 16
 have e18:=zQ hV 18
 have e19:=zQ hV 19
 have e20:=zQ hV 20
 have e21:=zQ hV 21
 have e22:=zQ hV 22
 have e23:=zQ hV 23
 have e24:=zQ hV 24
 have b27:=hV 27 (by decide)
 simp only[e0,e1,e2,e3,e4,e5,e7,e8,e9,e10,e11,e12,e13,e14,e15,e16,e18,e19,e20,e21,e22,e23,e24]
 clear e0 e1 e2 e3 e4 e5 e7 e8 e9 e10 e11 e12 e13 e14 e15 e16 e18 e19 e20 e21 e22 e23 e24
 refine wpAny_done (by kernel_rfl) ?_ _
 obtain⟨A1,c1,A2,c2,A3,c3, -,p9,tw⟩:(VTs w (w.heap.size+1) n (yj (xs.take s) n n) (yj ((xs.drop s).take s) n n) (yj (xs.drop s2) n n) (x 26)).p undef w':=b27
 have p0:=p9.cell 0
 have p1:=p9.cell 1
 have p2:=p9.cell 2
 simp at p0 p1 p2
 go_wp2
 exact bodyPost_ret (v:=.agg #[.slice A1 n c1,.slice A2 n c2,.slice A3 n c3]) (by simp[results,Tryz.results94,go_sem,p0,p1,p2]) rfl ⟨A1,c1,A2,c2,A3,c3,rfl,tw⟩
def dgT (p:Int) (st:List Int):Nat→List Int
 | 0=>[1]
 | k+1=>dgT p st k++yl p (dgT p st k) (p-st.getD k 0)
theorem uy (p:Int) (st:List Int):∀ k,(dgT p st k).length=pw k
 | 0=>rfl
 | k+1=>by unfold dgT;rw[List.length_append,uy p st k,zR,uy p st k,vd];omega
theorem jy {p:Int} (hp:2≤p) (st:List Int):∀ k,NumsL p (dgT p st k)
 | 0=>by intro x hx;simp[dgT]at hx;omega
 | k+1=>by
  intro x hx
  unfold dgT at hx
  rcases List.mem_append.1 hx with h | h
  ·exact jy hp st k x h
  ·exact zU (show 0<p by omega) _ _ x h
theorem jx {p:Int} (hp:2≤p) (st:List Int):∀ k i,i<pw k→(dgT p st k).getD i 0%p=(cjS i*cD st k i i)%p
 | 0,i,hi=>by
  have:i=0:=by have:pw 0=1:=rfl;omega
  subst this;rfl
 | k+1,i,hi=>by
  rw[vd]at hi
  have hl:=uy p st k
  unfold dgT
  by_cases h:i<pw k
  ·rw[List.getD_eq_getElem?_getD,List.getElem?_append_left (by omega),← List.getD_eq_getElem?_getD,jx hp st k i h,ut h h]
  ·have e:=jx hp st k (i-pw k) (by omega)
   have hj:i-pw k<(dgT p st k).length:=by omega
   rw[List.getD_eq_getElem?_getD,List.getElem?_append_right (by omega),hl,← List.getD_eq_getElem?_getD,qd h h]
   have hs:(yl p (dgT p st k) (p-st.getD k 0)).getD (i-pw k) 0=((dgT p st k).getD (i-pw k) 0*(p-st.getD k 0))%p:=by first | exact z4 _ hj | (rw[z4 _ hj,Int.mul_comm])
   have hp0:=yq k
   rw[hs,yM,z3 _ e]
   have hc:cjS i = -1:=if_neg (by omega)
   rw[hc]
   have:cjS (i-pw k)*cD st k (i-pw k) (i-pw k)*(p-st.getD k 0) = -1*(st.getD k 0*(cjS (i-pw k)*cD st k (i-pw k) (i-pw k)))+p*(cjS (i-pw k)*cD st k (i-pw k) (i-pw k)):=by
    rw[Int.mul_sub,Int.mul_comm _ p,Int.mul_comm _ (st.getD k 0)];omega
   rw[this,Int.add_mul_emod_self_left]
theorem yer {p:Int} (hp:2≤p) (st:List Int) (k:Nat):dgT p st k=dgL p k st:=by
 have hN1:=jy hp st k
 have hN2:=vn (show 0<p by omega) k st
 refine List.ext_getElem (by rw[uy,yeq]) fun i h1 h2=>?_
 have hi:i<pw k:=by rw[uy]at h1;exact h1
 have a:=jx hp st k i hi
 have b:=ya8 (p:=p) st hi
 rw[yc 0 h1]at a
 rw[yc 0 h2]at b
 exact uu (hN1 _ (List.getElem_mem h1)) (hN2 _ (List.getElem_mem h2)) (a.trans b.symm)
set_option maxHeartbeats 3200000 in
set_option maxRecDepth 8000 in
theorem jZ (p:Int) (hp:2≤p) (hp2:p≤13) (k:Nat) (hk:k≤4) (A:Option Addr) (c:Nat) (st:List Int) (w:World) (hc:k≤c) (ha:Rd w A k (ints st)) (hst:NumsL p st) :
 Calls Tryz.prog 102 #[.agg #[.int .i64 p,.slice A k c]] w fun e w'=>∃ A' c',e=.returned (.slice A' (pw k) c')∧MkI w w' A' (pw k) c' (dgL p k st):=by
 rw[← yer hp st k]
 have hB0:Below w.heap.size w (w.alloc (.cells #[.int .i64 p,.slice A k c] 26)):=zG.alloc (Nat.le_refl _) _
 have k0:Blk (w.alloc (.cells #[.int .i64 p,.slice A k c] 26)) w.heap.size 26 #[.int .i64 p,.slice A k c]:=Blk.new _ _ _
 have k1:=k0.alloc (.cells #[.int .i64 1] 2)
 have hM1:MkI w ((w.alloc (.cells #[.int .i64 p,.slice A k c] 26)).alloc (.cells #[.int .i64 1] 2)) (some ⟨w.heap.size+1,0,none⟩) 1 1 [1]:=by
  have:=Mk.lit (E:=2) hB0 #[.int .i64 1] (by simp[maxLen])
  simpa [MkI,ints] using this
 have hsl:st.length=k:=ha.lenI
 obtain⟨q0,q1⟩:=k1.two
 have HTN':Hid (∀ i,NumsL p (dgT p st i)):=Lib.hid fun i=>jy hp st i
 have HAA:=Lib.hid ha
 have HST:=Lib.hid hst
 have HSL:=Lib.hid hsl
 clear k0 hB0 hst hsl ha
 go_enter Tryz.func102,Tryz.ntmps102
 go_wp2
 go_loopw [3,4] (fun out i wr=>∃ (j t:Nat) (A':Option Addr) (c':Nat),j≤k∧t≤16∧i=.int .i64 j∧out=.slice A' t c'∧Hid (t=pw j)∧Hid (MkI w wr A' t c' (dgT p st j))∧Blk wr w.heap.size 26 #[.int .i64 p,.slice A k c]) (fun _ i _=>k-(intOf i).toNat)
 case atStart=>exact⟨0,1,_,_,by omega,by omega,rfl,rfl,Lib.hid rfl,Lib.hid hM1,k1⟩
 case round=>
  obtain⟨i,t,A',c',hi,ht,rfl,rfl,HT,HM,kr⟩:=hrel
  clear hM1 k1 q0 q1
  by_cases hlt:i<k
  ·have hsi:=(HAA.out.below HM.out.b)
   obtain⟨gA,oA,rfl,hx,cs⟩:=hsi.int hlt
   obtain⟨s,hs⟩:∃ z,z=st.getD i 0:=⟨_,rfl⟩
   obtain⟨bs1,bs2⟩:=HST.out.getD (show 0<p by omega) i
   have hse:st[i]=s:=by rw[hs,yc 0 hx]
   rw[hse]at cs
   rw[← hs]at bs1 bs2
   have HSU:Hid (dgT p st (i+1)=dgT p st i++(yl p (dgT p st i) (p-s))):=Lib.hid (by rw[hs];rfl)
   have HTN:Hid (NumsL p (dgT p st i)):=Lib.hid (HTN'.out i)
   have HT2:Hid (t+t=pw (i+1)∧t+t≤16∧0<t):=Lib.hid (by
    have h1:pw (i+1)≤16:=yz (show i+1≤4 by omega)
    have h2:=yq i
    rw[HT.out]
    rw[vd]at h1 ⊢
    refine⟨by omega,by omega,h2⟩)
   clear hs hse hx hsi
   obtain⟨q0,q1⟩:=kr.two
   go_wp2
   clear q0 q1
   refine yh 13 [[],[],[1],[],[3],[],[5],[],[5,6,7],[5,6,7,8],[3,4,5,6,7,8,9],[],[1,2,3,4,5,6,7,8,9,10,11],[0,1,2,3,4,5,6,7,8,9,10,11,12],[0,1,2,3,4,5,6,7,8,9,10,11,12,13]] [VIs (.slice A' t c'),VIs (.pointer (some ⟨w.heap.size,0,none⟩)),VIs (.int .i64 (p)),VIs (.pointer (some ⟨w.heap.size,0,none⟩)),VIs (.int .i64 (p)),VIs (.pointer (some ⟨w.heap.size,1,none⟩)),VIs (.slice (some ⟨gA,oA,none⟩) k c),VIs (.int .i64 (i)),VIs (.pointer (some ⟨gA,oA+i,none⟩)),VIs (.int .i64 (s)),VIs (.int .i64 (p-s)),VIs (.slice A' t c'),VSl wr t (yl p (dgT p st i) (p-s))] (fun w'=>Blk w' w.heap.size 26 #[.int .i64 p,.slice (some ⟨gA,oA,none⟩) k c]∧w'.cell? ⟨gA,oA+i,none⟩=some (.int .i64 s)∧Below wr.heap.size wr w') (by kernel_rfl) (by kernel_rfl) (fun _ _ h hb=>⟨h.1.below hb h.1.lt,(hb.cell (World.block_lt_of_cell? _ _ h.2.1)).trans h.2.1,h.2.2.trans (hb.mono h.2.2.size)⟩) (⟨kr.drew,cs,zG.drew⟩) (fun x=>?_)
   refine zS (fun w' hS hV K hK=>?_) ?_
   ·obtain⟨q0,q1⟩:=hS.1.two;have q2:=hS.2.1;go_simp;exact zO hK
   refine zS (fun w' hS hV K hK=>?_) ?_
   ·obtain⟨q0,q1⟩:=hS.1.two;have q2:=hS.2.1;go_simp;exact zO hK
   refine zS (fun w' hS hV K hK=>?_) ?_
   ·have e1:=zQ hV 1;obtain⟨q0,q1⟩:=hS.1.two;have q2:=hS.2.1;go_simp;exact zO hK
   refine zS (fun w' hS hV K hK=>?_) ?_
   ·obtain⟨q0,q1⟩:=hS.1.two;have q2:=hS.2.1;go_simp;exact zO hK
   refine zS (fun w' hS hV K hK=>?_) ?_
   ·have e3:=zQ hV 3;obtain⟨q0,q1⟩:=hS.1.two;have q2:=hS.2.1;go_simp;exact zO hK
   refine zS (fun w' hS hV K hK=>?_) ?_
   ·obtain⟨q0,q1⟩:=hS.1.two;have q2:=hS.2.1;go_simp;exact zO hK
   refine zS (fun w' hS hV K hK=>?_) ?_
   ·have e5:=zQ hV 5;obtain⟨q0,q1⟩:=hS.1.two;have q2:=hS.2.1;go_simp;exact zO hK
   refine zS (fun w' hS hV K hK=>?_) ?_
   ·obtain⟨q0,q1⟩:=hS.1.two;have q2:=hS.2.1;go_simp;exact zO hK
   refine zS (fun w' hS hV K hK=>?_) ?_
   ·have e6:=zQ hV 6;have e7:=zQ hV 7;obtain⟨q0,q1⟩:=hS.1.two;have q2:=hS.2.1;go_simp;exact zO hK
   refine zS (fun w' hS hV K hK=>?_) ?_
   ·have e8:=zQ hV 8;obtain⟨q0,q1⟩:=hS.1.two;have q2:=hS.2.1;go_simp;exact zO hK
   refine zS (fun w' hS hV K hK=>?_) ?_
   ·have e4:=zQ hV 4;have e9:=zQ hV 9;obtain⟨q0,q1⟩:=hS.1.two;have q2:=hS.2.1;go_simp;exact hK.out _ _ _ rfl rfl (by first | rfl | exact congrArg (Value.int .i64) (by omega) | exact congrArg (Value.int .i64) ((yi _ (by omega) (by omega)).trans (by omega))) zG
   refine zS (fun w' hS hV K hK=>?_) ?_
   ·obtain⟨q0,q1⟩:=hS.1.two;have q2:=hS.2.1;go_simp;exact zO hK
   refine zS (fun w' hS hV K hK=>?_) ?_
   ·have e2:=zQ hV 2;have e10:=zQ hV 10;have e11:=zQ hV 11;obtain⟨q0,q1⟩:=hS.1.two;have q2:=hS.2.1;go_simp;refine (xm p (p-s) A' t c' (dgT p st i) w' hp hp2 (by omega) (HM.out.below hS.2.2).rd HTN.out (by omega) (by omega)).mono ?_;rintro e v1 ⟨A9,c9,rfl,hM⟩;exact hK.out _ _ _ rfl rfl ⟨_,_,rfl,hM.after hS.2.2⟩ hM.b
   refine fun w' hS hV=>?_
   have e0:=zT hV 0
   have e1:=zT hV 1
   have e2:=zT hV 2
   have e3:=zT hV 3
   have e4:=zT hV 4
   have e5:=zT hV 5
   have e6:=zT hV 6
   have e7:=zT hV 7
   have e8:=zT hV 8
   have e9:=zT hV 9
   have e10:=zT hV 10
   have e11:=zT hV 11
   obtain⟨A12,c12,e12,h12⟩:=hV 12 (by decide)
   simp only[e0,e1,e2,e3,e4,e5,e6,e7,e8,e9,e10,e11,e12]
   clear e0 e1 e2 e3 e4 e5 e6 e7 e8 e9 e10 e11 e12
   obtain⟨k7, -,s2⟩:=hS
   have HT3:Hid (t+t=pw (i+1)):=Lib.hid HT2.out.1
   obtain⟨-,b2,b3⟩:=HT2.out
   refine xg (j:=13) (by kernel_rfl) (Eq.trans (by simp only[zA,zB,zC];exact rfl) rfl) rfl (fun K hK=>?_)
   refine ydi w w' _ _ rfl A' t c' (dgT p st i) _ t _ (yl p (dgT p st i) (p-s)) (HM.out.below s2) h12.rd b3 (by omega) (by omega) rfl rfl ?_
   intro A20 c20 w20 hM20 hg20
   refine hK.out _ _ ?_
   simp only[Act.put,zD,zE,zF]
   refine yK (j:=14) (by kernel_rfl) (Eq.trans (by simp only[zA,zB,zC];exact rfl) rfl) (fun K hK=>?_)
   go_simp
   refine hK.out _ _ (wpAny_done (by kernel_rfl) ?_ _)
   have k8:=k7.grown hg20 ((HM.out.below s2).2.ne_blk k7 (by decide))
   have HR2:Hid (MkI w w20 A20 (t+t) c20 (dgT p st (i+1))):=Lib.hid (by rw[HSU.out];exact hM20)
   clear k7 hg20 hM20 hV cs
   go_wp2
   go_roundw
   case rel=>exact⟨i+1,t+t,A20,c20,by omega,b2,by go_num,rfl,HT3,HR2,k8⟩
   case measure=>simp[intOf];omega
  ·obtain rfl:i=k:=by omega
   obtain⟨q0,q1⟩:=kr.two
   go_wp2
   go_ret
   exact⟨A',c',by rw[← HT.out];rfl,by rw[← HT.out];exact HM.out⟩
end Go.Proofs.YtaiegpggccdgoaaGreat

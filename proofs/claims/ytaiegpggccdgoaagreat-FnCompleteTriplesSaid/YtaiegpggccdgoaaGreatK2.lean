/-
  LawFnCompleteTriples: part 2 of the texts that the proof needs. No condition.
-/
import Derived.Test.YtaiegpggccdgoaaGreatK1
namespace Go.Proofs.YtaiegpggccdgoaaGreat
open Go.RowKit
set_option maxHeartbeats 400000 in
set_option maxRecDepth 8000 in
theorem ydv (A:Option Addr) (n c:Nat) (xs:List Int) (v:Int) (w:World) (hn:n≤1099511627776) (ha:Rd w A n (ints xs)) :
 Calls Tryz.prog 153 #[.slice A n c,.int .i64 v] w fun e w'=>∃ r:Int,e=.returned (.int .i64 r)∧decide (0≤r)=xs.contains v∧w=w':=by
 have hxl:xs.length=n:=by have:=ha.1;rwa [yD]at this
 have Hx:=Lib.hid hxl;clear hxl
 go_enter Tryz.func153,Tryz.ntmps153
 go_wp2
 go_loop [8] (fun i=>∃ k:Nat,k≤n∧i=.int .i64 k∧(xs.take k).contains v=false) (fun i=>n-(intOf i).toNat)
 case atStart=>exact⟨0,by omega,rfl,by simp⟩
 case round=>
  obtain⟨k,hk,rfl,ht⟩:=hrel
  have H:=Lib.hid ht;clear ht
  by_cases hlt:k<n
  ·obtain⟨g,o,rfl,hx,hcx⟩:=ha.int hlt
   clear ha
   cases hi:(v == xs[k])
   all_goals
    have HI:=Lib.hid hi
    go_wp2
   ·go_round
    case rel=>
     refine⟨k+1,by omega,by go_num,?_⟩
     rw[List.take_succ_eq_append_getElem hx,List.contains_eq_any_beq,List.any_append,← List.contains_eq_any_beq,H.out]
     simpa using HI.out
    case measure=>simp[intOf];omega
   ·go_ret
    refine⟨_,rfl,?_,rfl⟩
    have hv:v=xs[k]:=by simpa using HI.out
    have:xs.contains v=true:=by rw[List.contains_iff_mem,hv];exact List.getElem_mem hx
    simpa using this
  ·go_wp2
   go_ret
   refine⟨_,rfl,?_,rfl⟩
   have:=H.out
   rw[List.take_of_length_le (by rw[Hx.out];omega)]at this
   simpa using this
set_option maxHeartbeats 400000 in
set_option maxRecDepth 8000 in
theorem ydn (A:Option Addr) (n c:Nat) (xs:List Int) (v:Int) (w:World) (hn:n≤1099511627776) (ha:Rd w A n (ints xs)) :
 Calls Tryz.prog 133 #[.slice A n c,.int .i64 v] w fun e w'=>e=.returned (.bool (xs.contains v))∧w=w':=by
 go_enter Tryz.func133,Tryz.ntmps133
 go_wp2_with fail
 refine (ydv _ _ _ _ _ _ hn ha).mono ?_
 rintro e w1 ⟨r,rfl,hr,rfl⟩
 have HR:=Lib.hid hr;clear hr
 go_wp2
 go_ret
 exact⟨yJ HR.out,rfl⟩
theorem yaD {b:Bool} (A:Option Addr) (n c:Nat) (xs:List Int) (v:Int) (w:World) (hn:n≤1099511627776) (ha:Rd w A n (ints xs)) (h:xs.contains v=b) :
 Calls Tryz.prog 133 #[.slice A n c,.int .i64 v] w fun e w'=>e=.returned (.bool b)∧w=w':=h▸ydn A n c xs v w hn ha
def uo (f:FuncId) (cap:Array Value) (w:World) (p:List Int→Bool) (ok:List Int→Prop):Prop:=
 ∀ (w':World) (A:Option Addr) (m c:Nat) (xs:List Int),Below w.heap.size w w'→Rd w' A m (ints xs)→ok xs →
  Calls Tryz.prog f (#[.slice A m c]++cap) w' fun e w''=>e=.returned (.bool (p xs))∧Below w'.heap.size w' w''
set_option maxHeartbeats 800000 in
set_option maxRecDepth 8000 in
theorem ydu (f:FuncId) (q:Addr) (p:List Int→Bool) (ok:List Int→Prop) (A:Option Addr) (n c:Nat) (xss:List (List Int)) (w:World) (hn:n≤1099511627776) (ha:RdII w A n xss) (hok:∀ xs∈xss,ok xs)
 (hf:uo f #[.pointer (some q)] w p ok) (hcf:∀ (args:Array Value) (w:World),(callFunc f args).run Tryz.prog w=.ok (.enter f args) w) :
 Calls Tryz.prog 117 #[.slice A n c,.func (.func f) #[] #[.pointer (some q)]] w fun e w'=>∃ r:Int,e=.returned (.int .i64 r)∧decide (0≤r)=xss.any p∧Below w.heap.size w w':=by
 have hxl:=ha.len
 have Hx:=Lib.hid hxl;clear hxl
 go_enter Tryz.func117,Tryz.ntmps117
 go_wp2
 go_loopw [8] (fun i wr=>∃ k:Nat,k≤n∧i=.int .i64 k∧(xss.take k).any p=false∧Below w.heap.size w wr) (fun i _=>n-(intOf i).toNat)
 case atStart=>exact⟨0,by omega,rfl,by simp,Below.refl _ _⟩
 case round=>
  obtain⟨k,hk,rfl,ht,hB⟩:=hrel
  have H:=Lib.hid ht;clear ht
  by_cases hlt:k<n
  ·obtain⟨g,o,rfl,hx,A',c',hcx,hr, -⟩:=(ha.below hB).at_ hlt
   have hoki:=hok xss[k] (List.getElem_mem hx)
   clear ha
   cases hi:p xss[k]
   all_goals
    have HI:=Lib.hid hi;clear hi
    go_wp2_with fail
    refine (hf _ _ _ _ _ hB hr hoki).mono ?_
    rintro e w1 ⟨rfl,hb1⟩
    rw[HI.out]
    go_wp2
   ·go_roundw
    case rel=>
     refine⟨k+1,by omega,by go_num,?_,hB.trans (hb1.mono hB.size)⟩
     rw[List.take_succ_eq_append_getElem hx,List.any_append,H.out]
     simpa using HI.out
    case measure=>simp[intOf];omega
   ·go_ret
    refine⟨_,rfl,?_,hB.trans (hb1.mono hB.size)⟩
    have:xss.any p=true:=List.any_eq_true.2 ⟨xss[k],List.getElem_mem hx,HI.out⟩
    rw[this];simp
  ·go_wp2
   go_ret
   refine⟨_,rfl,?_,hB⟩
   have:=H.out
   rw[List.take_of_length_le (by rw[Hx.out];omega)]at this
   rw[this];simp
set_option maxHeartbeats 400000 in
set_option maxRecDepth 8000 in
theorem ydm (f:FuncId) (q:Addr) (p:List Int→Bool) (ok:List Int→Prop) (A:Option Addr) (n c:Nat) (xss:List (List Int)) (w:World) (hn:n≤1099511627776) (ha:RdII w A n xss) (hok:∀ xs∈xss,ok xs)
 (hf:uo f #[.pointer (some q)] w p ok) (hcf:∀ (args:Array Value) (w:World),(callFunc f args).run Tryz.prog w=.ok (.enter f args) w) :
 Calls Tryz.prog 65 #[.slice A n c,.func (.func f) #[] #[.pointer (some q)]] w fun e w'=>e=.returned (.bool (xss.any p))∧Below w.heap.size w w':=by
 go_enter Tryz.func65,Tryz.ntmps65
 go_wp2_with fail
 refine (ydu _ _ _ _ _ _ _ _ _ hn ha hok hf hcf).mono ?_
 rintro e w1 ⟨r,rfl,hr,hb⟩
 have HR:=Lib.hid hr;clear hr
 go_wp2
 go_ret
 exact⟨yJ HR.out,hb⟩
set_option maxHeartbeats 400000 in
set_option maxRecDepth 8000 in
theorem yfz (p:Int) (w:World) :
 Calls Tryz.prog 134 #[.int .i64 p] w fun e w'=>e=.returned (.bool (isP p))∧w=w':=by
 by_cases h3:p=3
 ·subst h3
  go_enter Tryz.func134,Tryz.ntmps134
  go_wp2
  go_ret
  exact⟨rfl,rfl⟩
 have b3:(p == 3)=false:=by simpa using h3
 by_cases h5:p=5
 ·subst h5
  go_enter Tryz.func134,Tryz.ntmps134
  go_wp2
  go_ret
  exact⟨rfl,rfl⟩
 have b5:(p == 5)=false:=by simpa using h5
 by_cases h7:p=7
 ·subst h7
  go_enter Tryz.func134,Tryz.ntmps134
  go_wp2
  go_ret
  exact⟨rfl,rfl⟩
 have b7:(p == 7)=false:=by simpa using h7
 by_cases h11:p=11
 ·subst h11
  go_enter Tryz.func134,Tryz.ntmps134
  go_wp2
  go_ret
  exact⟨rfl,rfl⟩
 have b11:(p == 11)=false:=by simpa using h11
 go_enter Tryz.func134,Tryz.ntmps134
 go_wp2
 go_ret
 exact⟨yJ (by simp[isP,b3,b5,b7,b11]),rfl⟩
theorem jY {b:Bool} (p:Int) (w:World) (h:isP p=b) :
 Calls Tryz.prog 134 #[.int .i64 p] w fun e w'=>e=.returned (.bool b)∧w=w':=h▸yfz p w
set_option maxHeartbeats 400000 in
set_option maxRecDepth 8000 in
theorem yfw (n lo hi:Int) (w:World) :
 Calls Tryz.prog 135 #[.int .i64 n,.int .i64 lo,.int .i64 hi] w fun e w'=>e=.returned (.bool (inR n lo hi))∧w=w':=by
 by_cases h:lo≤n
 ·go_enter Tryz.func135,Tryz.ntmps135
  go_wp2
  go_ret
  exact⟨yJ (by simp[inR,h]),rfl⟩
 ·go_enter Tryz.func135,Tryz.ntmps135
  go_wp2
  go_ret
  exact⟨yJ (by simp[inR];omega),rfl⟩
theorem ybR {b:Bool} (n lo hi:Int) (w:World) (h:inR n lo hi=b) :
 Calls Tryz.prog 135 #[.int .i64 n,.int .i64 lo,.int .i64 hi] w fun e w'=>e=.returned (.bool b)∧w=w':=h▸yfw n lo hi w
theorem is_b {b:Bool} (p:Int) (A:Option Addr) (n c:Nat) (xs:List Int) (w:World) (hp:0<p) (hp2:p≤100) (hn:n≤1099511627776) (ha:Rd w A n (ints xs)) (h:nums p xs=b) :
 Calls Tryz.prog 132 #[.int .i64 p,.slice A n c] w fun e w'=>e=.returned (.bool b)∧w=w':=h▸yfp p A n c xs w hp hp2 hn ha
theorem ycn {P:Int} {xs:List Int} (h:nums P xs=true):NumsL P xs:=fun x hx=>by
 have:=List.all_eq_true.1 h x hx
 simp[inR]at this
 omega
theorem yhQ (xs ys:List Int) (k:Nat) (hx:k<xs.length) (hy:k<ys.length) (h:xs.take k=ys.take k) (he:xs[k]=ys[k]) :
 xs.take (k+1)=ys.take (k+1):=by
 rw[List.take_succ_eq_append_getElem hx,List.take_succ_eq_append_getElem hy,h,he]
theorem ygs (xs ys:List Int) (k:Nat) (hx:k<xs.length) (hy:k<ys.length) (he:(xs[k] != ys[k])=true):decide (xs=ys)=false:=by
 rw[decide_eq_false_iff_not]
 rintro rfl
 simp at he
theorem yb7 {v:List Int} {k:Nat} (h:k≤yn v) (hk:k<v.length) (h0:v[k]=0):k+1≤yn v:=by
 rcases Nat.lt_or_ge k (yn v) with h1 | h1
 ·exact h1
 ·have e:yn v=k:=by omega
  have:=qz v (by omega)
  rw[e,yc 0 hk]at this
  exact absurd h0 this
theorem yb8 {v:List Int} {k:Nat} (h:k≤yn v) (hk:k<v.length) (h0:v[k]≠0):yn v=k:=by
 rcases Nat.lt_or_ge k (yn v) with h1 | h1
 ·have:=uL v k h1
  rw[yc 0 hk]at this
  exact absurd this h0
 ·omega
theorem yb6 {v:List Int} {k:Nat} (h:k≤yn v) (hk:k=v.length):yn v=v.length:=by
 have:=qA v;omega
set_option maxHeartbeats 400000 in
set_option maxRecDepth 8000 in
theorem yb9 (A:Option Addr) (n c:Nat) (xs:List Int) (w:World) (hn:n≤1099511627776) (ha:Rd w A n (ints xs)) :
 Calls Tryz.prog 139 #[.slice A n c] w fun e w'=>e=.returned (.int .i64 (yn xs))∧w=w':=by
 have hxl:xs.length=n:=by have:=ha.1;rwa [yD]at this
 have Hx:=Lib.hid hxl;clear hxl
 go_enter Tryz.func139,Tryz.ntmps139
 go_wp2
 go_loop [3] (fun i=>∃ k:Nat,k≤n∧i=.int .i64 k∧k≤yn xs) (fun i=>n-(intOf i).toNat)
 case atStart=>exact⟨0,by omega,rfl,by omega⟩
 case round=>
  obtain⟨k,hk,rfl,ht⟩:=hrel
  have H:=Lib.hid ht;clear ht
  by_cases hlt:k<n
  ·obtain⟨g,o,rfl,hx,hcx⟩:=ha.int hlt
   clear ha
   cases hi:(xs[k] == 0)
   all_goals
    have HI:=Lib.hid hi
    go_wp2
   ·go_ret
    exact⟨xu (by rw[yb8 H.out hx (by simpa using HI.out)]),rfl⟩
   ·go_round
    case rel=>exact⟨k+1,by omega,by go_num,yb7 H.out hx (by simpa using HI.out)⟩
    case measure=>simp[intOf];omega
  ·go_wp2
   go_ret
   have:=H.out
   exact⟨xu (by rw[yb6 this (by rw[Hx.out];omega),Hx.out];congr 1;omega),rfl⟩
theorem yhF {n:Nat} {f:Nat→Int} (h:∀ i,i<n→0≤f i∧f i≤169):0≤ya n f∧ya n f≤169*(n:Int):=by
 induction n with
 | zero=>simp[ya]
 | succ n ih=>
  obtain⟨a,b⟩:=ih fun i hi=>h i (by omega)
  obtain⟨c,d⟩:=h n (by omega)
  rw[y8]
  omega
set_option maxHeartbeats 800000 in
set_option maxRecDepth 8000 in
theorem ybb (p:Int) (A:Option Addr) (n c:Nat) (B:Option Addr) (m d:Nat) (xs ys:List Int) (w:World) (hp:2≤p) (hp2:p≤13) (hn:n≤65536) (hnm:n≤m) (ha:Rd w A n (ints xs)) (hx:NumsL p xs) (hb:Rd w B m (ints ys)) (hy:NumsL p ys) :
 Calls Tryz.prog 68 #[.int .i64 p,.slice A n c,.slice B m d] w fun e w'=>e=.returned (.int .i64 (dotL p xs ys))∧w=w':=by
 have hxl:=ha.lenI
 have hyl:=hb.lenI
 have hsb:Hid (∀ j,j≤n→0≤(ya j fun i=>xs.getD i 0*ys.getD i 0)∧(ya j fun i=>xs.getD i 0*ys.getD i 0)≤169*(j:Int)):=Lib.hid (fun j hj=>yhF (n:=j) (f:=fun i=>xs.getD i 0*ys.getD i 0) fun i hi=>by
  show 0≤xs.getD i 0*ys.getD i 0∧xs.getD i 0*ys.getD i 0≤169
  have h1:i<xs.length:=by omega
  have h2:i<ys.length:=by omega
  rw[yc 0 h1,yc 0 h2]
  obtain⟨a1,a2⟩:=hx _ (List.getElem_mem h1)
  obtain⟨b1,b2⟩:=hy _ (List.getElem_mem h2)
  exact uM a1 (show xs[i]≤13 by omega) b1 (show ys[i]≤13 by omega))
 have Hx:=Lib.hid hxl
 clear hxl hyl
 go_enter Tryz.func68,Tryz.ntmps68
 go_wp2
 go_loopw [7,8,9,12] (fun s _ _ i wr=>∃ j:Nat,j≤n∧i=.int .i64 j∧s=.int .i64 (ya j fun i=>xs.getD i 0*ys.getD i 0)∧wr=w) (fun _ _ _ i _=>n-(intOf i).toNat)
 case atStart=>exact⟨0,by omega,rfl,rfl,rfl⟩
 case round=>
  obtain⟨j,hj,rfl,rfl,rfl⟩:=hrel
  obtain⟨b1,b2⟩:=hsb.out j hj
  have hsucc:Hid ((ya (j+1) fun i=>xs.getD i 0*ys.getD i 0)=(ya j fun i=>xs.getD i 0*ys.getD i 0)+xs.getD j 0*ys.getD j 0):=Lib.hid (y8 _ _)
  have hdot:Hid (j=n→dotL p xs ys=(ya j fun i=>xs.getD i 0*ys.getD i 0)%p):=Lib.hid (fun h=>by unfold dotL;rw[Hx.out,h])
  obtain⟨s,hs⟩:∃ s,s=ya j fun i=>xs.getD i 0*ys.getD i 0:=⟨_,rfl⟩
  rw[← hs]at b1 b2 hsucc hdot ⊢
  clear hs
  by_cases hlt:j<n
  ·obtain⟨g,o,rfl,hxj,hcx⟩:=ha.int hlt
   obtain⟨g2,o2,rfl,hyj,hcy⟩:=hb.int (show j<m by omega)
   obtain⟨x1,x2⟩:=hx _ (List.getElem_mem hxj)
   obtain⟨y1,y2⟩:=hy _ (List.getElem_mem hyj)
   obtain⟨m1,m2⟩:=uM x1 (show xs[j]≤13 by omega) y1 (show ys[j]≤13 by omega)
   have HV:Hid ((ya (j+1) fun i=>xs.getD i 0*ys.getD i 0)=s+xs[j]*ys[j]):=Lib.hid (by rw[hsucc.out,yc 0 hxj,yc 0 hyj])
   clear ha hb
   go_wp2
   go_roundw
   case rel=>exact⟨j+1,by omega,by go_num,by rw[HV.out],trivial⟩
   case measure=>simp[intOf];omega
  ·go_wp2_with fail
   refine (zN p s _ (by omega) hp2 (by omega) (by omega)).mono ?_
   rintro e w' ⟨rfl,rfl⟩
   go_wp2
   go_ret
   exact⟨xu (hdot.out (by omega)).symm,rfl⟩
end Go.Proofs.YtaiegpggccdgoaaGreat
namespace Go.Proofs.YtaiegpggccdgoaaGreat
def sg (k:Nat):Int:=if k%2=1 then -1 else 1
def comZ (sq:List Int) (a b:Nat):Nat→Int
 | 0=>1
 | i+1=>comZ sq a b i*(if bit b i=1∧bit a i=1 then sq.getD i 0 else 1)
def facZ (sq:List Int) (a b:Nat):Int:=sg (yc4 a b sq.length)*comZ sq a b sq.length
theorem uX (a b:Nat):(b ^^^ a) ^^^ a=b:=by rw[Nat.xor_assoc,Nat.xor_self,Nat.xor_zero]
theorem qS {n:Nat} (f:Nat→Int) {c:Nat} (hc:c<pw n):ya (pw n) f=ya (pw n) fun a=>f (a ^^^ c):=by
 have h:∀ b,b<pw n→f b=ya (pw n) fun a=>if a ^^^ c=b then f b else 0:=fun b hb=>by
  rw[yF (b ^^^ c) (zV hb hc) fun i _ hne=>if_neg fun e=>hne (by rw[← e,uX]),if_pos (uX c b)]
 rw[yw h,vt]
 refine yw fun a ha=>?_
 rw[yF (a ^^^ c) (zV ha hc) fun i _ hne=>if_neg fun e=>hne e.symm,if_pos rfl]
theorem yhJ (n:Nat) (f:Nat→Int) (c:Int):ya n (fun i=>f i*c)=ya n f*c:=by
 rw[Int.mul_comm,← y7]
 exact yw fun i _=>Int.mul_comm _ _
def mulZ (sq:List Int) (x y:Nat→Int) (m:Nat):Int:=ya (pw sq.length) fun a=>x a*y (a ^^^ m)*facZ sq a (a ^^^ m)
structure Cl (p:Int) (sq:List Int) where
 l:List Int
 len:l.length=pw sq.length
 nums:NumsL p l
 pos:0<p
section
variable {p:Int} {sq:List Int}
def Cl.co (x:Cl p sq) (m:Nat):Int:=x.l.getD m 0
theorem Cl.ext {x y:Cl p sq} (h:x.l=y.l):x=y:=by
 cases x;cases y;cases h;rfl
theorem Cl.co_small (x:Cl p sq) (m:Nat):0≤x.co m∧x.co m<p:=x.nums.getD x.pos m
theorem Cl.co_mod (x:Cl p sq) (m:Nat):x.co m%p=x.co m:=Int.emod_eq_of_lt (x.co_small m).1 (x.co_small m).2
theorem Cl.same {x y:Cl p sq} (h:∀ m,m<pw sq.length→x.co m%p=y.co m%p):x=y:=by
 refine Cl.ext (yU 0 (by rw[x.len,y.len]) fun m hm=>?_)
 have:=h m (by rw[← x.len];exact hm)
 rwa [x.co_mod,y.co_mod]at this
def Cl.of (hp:0<p) (f:Nat→Int):Cl p sq:=⟨tab (pw sq.length) fun m=>f m%p,yG _ _,NumsL.tab fun _ _=>⟨Int.emod_nonneg _ (by omega),Int.emod_lt_of_pos _ hp⟩,hp⟩
theorem Cl.of_co (hp:0<p) (f:Nat→Int) {m:Nat} (hm:m<pw sq.length):(Cl.of hp f:Cl p sq).co m=f m%p:=yC hm 0
theorem Cl.of_cg (hp:0<p) (f:Nat→Int) {m:Nat} (hm:m<pw sq.length):(Cl.of hp f:Cl p sq).co m%p=f m%p:=by rw[Cl.of_co hp f hm,Int.emod_emod_of_dvd _ (Int.dvd_refl p)]
instance:Mul (Cl p sq):=⟨fun x y=>Cl.of x.pos (mulZ sq x.co y.co)⟩
instance:Add (Cl p sq):=⟨fun x y=>Cl.of x.pos fun m=>x.co m+y.co m⟩
instance:Neg (Cl p sq):=⟨fun x=>Cl.of x.pos fun m=>-(x.co m)⟩
instance:HMul Int (Cl p sq) (Cl p sq):=⟨fun k x=>Cl.of x.pos fun m=>k*x.co m⟩
theorem Cl.add_co (x y:Cl p sq) {m:Nat} (hm:m<pw sq.length):(x+y).co m%p=(x.co m+y.co m)%p:=Cl.of_cg _ _ hm
theorem Cl.add_comm (x y:Cl p sq):x+y=y+x:=Cl.same fun m hm=>by rw[Cl.add_co _ _ hm,Cl.add_co _ _ hm,Int.add_comm]
theorem Cl.add_assoc (x y z:Cl p sq):x+y+z=x+(y+z):=Cl.same fun m hm=>by
 rw[Cl.add_co _ _ hm,Cl.add_co _ _ hm,Int.add_emod,Cl.add_co _ _ hm,← Int.add_emod,Int.add_emod (x.co m),Cl.add_co _ _ hm,← Int.add_emod,Int.add_assoc]
def Cl.zero (hp:0<p):Cl p sq:=Cl.of hp fun _=>0
def Cl.one (hp:0<p):Cl p sq:=Cl.of hp fun m=>if m=0 then 1 else 0
end
end Go.Proofs.YtaiegpggccdgoaaGreat
namespace Go.Proofs.YtaiegpggccdgoaaGreat
open Go.RowKit
set_option maxRecDepth 8000 in
set_option maxHeartbeats 400000 in
set_option maxRecDepth 8000 in
theorem jl (A:Option Addr) (n c:Nat) (xs:List Int) (w:World) (hn:n≤65536) (ha:Rd w A n (ints xs)) :
 Calls Tryz.prog 114 #[.slice A n c] w fun e w'=>∃ A' c',e=.returned (.slice A' n c')∧MkI w w' A' n c' xs:=by
 have hxl:xs.length=n:=by have:=ha.1;rwa [yD]at this
 cases A with
 | none=>
  have h0:n=0:=by
   rcases Nat.eq_zero_or_pos n with h | h
   ·exact h
   ·obtain⟨g,o,e,_⟩:=ha.2 h;cases e
  subst h0
  have hxs:xs=[]:=List.eq_nil_of_length_eq_zero hxl
  subst hxs
  clear ha hxl hn
  have hq:=fun w:World=>Lib.run_eql_slice_nil (P:=Tryz.prog) w 24 2 none 0 c 0 0 Tryz.underlying24
  simp only[Option.isNone_none]at hq
  go_enter Tryz.func114,Tryz.ntmps114
  go_wp2
  go_ret
  exact⟨none,0,rfl,Mk.nil zG⟩
 | some p=>
  have hM0:=Mk.lit (E:=2) (Below.refl w.heap.size w) #[] (by simp)
  obtain⟨i,hi,h1,h2,h3⟩:=info_parts yo
  obtain⟨b1,b2⟩:=xh (Nat.le_trans hn (by decide))
  clear b1
  have HB:=Lib.hid b2
  clear b2
  have hnews:∀ (j:Nat) (u:Value),(ints xs)[j]? = some u→(w.alloc (.cells #[] 2)).cell? (p.add j)=some u:=fun j u hu=>by
   have hj:j<n:=by have:=(List.getElem?_eq_some_iff.1 hu).1;rw[yD]at this;omega
   obtain⟨g,o,e,hc⟩:=(ha.below ((Below.refl _ w).alloc (Nat.le_refl _) (.cells #[] 2))).2 (by omega)
   injection e with e;subst e
   rw[Addr.add_lit]
   exact hc j u hu
  have Hx:=Lib.hid hxl
  have HN:=Lib.hid hnews
  have HI:=Lib.hid hi
  have H1:=Lib.hid h1
  have H2:=Lib.hid h2
  have H3:=Lib.hid h3
  clear hnews hi h1 h2 h3 hxl
  have hq:=fun w:World=>Lib.run_eql_slice_nil (P:=Tryz.prog) w 24 2 (some p) n c 0 0 Tryz.underlying24
  simp only[Option.isNone_some]at hq
  go_enter Tryz.func114,Tryz.ntmps114
  go_wp2_with (at_builtin;refine wpList_append_own_at (w.alloc (.cells #[] 2)) rfl _ _ 24 rfl w.heap.size 2 i _ 1 8 Tryz.underlying24 HI.out H1.out H2.out H3.out rfl (by omega) (.slice (some ⟨w.heap.size,0,none⟩) 0 0) 0 [] rfl hM0.2 p n c (ints xs) rfl (by rw[yD,Hx.out,Nat.mul_one]) HN.out (by intro u hu;obtain⟨y,_,rfl⟩:=List.mem_map.1 hu;rfl) (by simp only[maxLen];omega) (by have:=HB.out 8 (by omega);omega) (by simp) ?_;intro v' w' hown hg _ _)
  have hb':Below w.heap.size w w':=hM0.1.grown hg (by simp) (fun k hk=>(hM0.2.lt k hk).1)
  rw[Nat.zero_add,List.nil_append]at hown
  rcases hown.2 with ⟨rfl,h0⟩ | ⟨g,cap,cur,rfl,hr⟩
  ·subst h0
   go_ret
   exact⟨none,0,rfl,hb',hown⟩
  ·go_ret
   exact⟨_,_,rfl,hb',hown⟩
theorem Nest.setNew {w1 w2:World} {B:Nat} {rows:List Value} {xss:List (List Int)} {A:Option Addr} {n c:Nat} {xs:List Int} (h:Nest w1 B rows xss) (hr:Mk w1 w2 2 A n c (ints xs)) (hB:B≤w1.heap.size) (k:Nat) :
 Nest w2 B (rows.set k (.slice A n c)) (xss.set k xs):=by
 have hn:xs.length=n:=by have:=hr.2.len;rwa [yD]at this
 subst hn
 have hnew:∀ g,(Value.slice A xs.length c).ownBlock=some g→w1.heap.size≤g:=fun g hg=>(World.ownsRow.lt hr.2 g hg).1
 refine⟨by simp[h.len],fun j hj=>?_,fun i j g hij hi=>?_⟩
 ·have hj':j<xss.length:=by simpa using hj
  by_cases hk:k=j
  ·subst hk
   rw[List.getElem_set_self]
   exact⟨A,c,by rw[List.getElem?_set_self (by rw[h.len];exact hj')],hr.2.base hB⟩
  ·obtain⟨A',c',e,ho⟩:=h.row j hj'
   rw[List.getElem_set_ne hk]
   exact⟨A',c',by rw[List.getElem?_set_ne hk];exact e,ho.below hr.1⟩
 ·rw[List.getElem?_set]at hi ⊢
  by_cases hki:k=i
  ·subst hki
   rw[if_pos rfl]at hi
   rw[if_neg (by omega)]
   split at hi
   ·intro hj
    have h1:=(h.block j g hj).2
    have h2:=hnew g (by simpa using hi)
    omega
   ·simp at hi
  ·rw[if_neg hki]at hi
   have hgi:=(h.block i g hi).2
   by_cases hkj:k=j
   ·rw[if_pos hkj]
    split
    ·intro hj
     have h2:=hnew g (by simpa using hj)
     omega
    ·simp
   ·rw[if_neg hkj]
    exact h.apart i j g hij hi
theorem Nest.apart_ne {w:World} {B:Nat} {rows:List Value} {xss:List (List Int)} (h:Nest w B rows xss) (i j g:Nat) (hij:i≠j) (hi:(rows[i]?).bind Value.ownBlock=some g):(rows[j]?).bind Value.ownBlock≠some g:=by
 rcases Nat.lt_or_gt_of_ne hij with hlt | hgt
 ·exact h.apart i j g hlt hi
 ·intro hj
  exact h.apart j i g hgt hj hi
theorem Nest.moved {w:World} {B:Nat} {rows rows':List Value} {xss xss':List (List Int)} (h:Nest w B rows xss) (s:Nat→Nat) (hs:∀ i j,i≠j→s i≠s j) (hl:rows'.length=xss'.length) (hr:∀ k,rows'[k]? = rows[s k]?) (hx:∀ k,xss'[k]? = xss[s k]?):Nest w B rows' xss':=by
 refine⟨hl,fun k hk=>?_,fun i j g hij hi=>?_⟩
 ·have e:=hx k
  rw[List.getElem?_eq_getElem hk]at e
  obtain⟨hk',e'⟩:=List.getElem?_eq_some_iff.1 e.symm
  obtain⟨A,c,er,ho⟩:=h.row (s k) hk'
  rw[e']at er ho
  exact⟨A,c,by rw[hr k,er],ho⟩
 ·rw[hr]at hi ⊢
  exact h.apart_ne _ _ _ (hs i j (by omega)) hi
theorem swapL_get? (m:List (List Int)) {i j:Nat} (hi:i<m.length) (hj:j<m.length) (k:Nat):(zr m i j)[k]? = m[if k=j then i else if k=i then j else k]?:=by
 unfold zr
 rw[List.getElem?_set,List.getElem?_set]
 by_cases h1:j=k
 ·subst h1
  rw[if_pos rfl,if_pos rfl,List.length_set,if_pos hj,yc [] hi,List.getElem?_eq_getElem hi]
 ·have h1':¬ k=j:=fun e=>h1 e.symm
  rw[if_neg h1,if_neg h1']
  by_cases h2:i=k
  ·subst h2
   rw[if_pos rfl,if_pos rfl,if_pos hi,yc [] hj,List.getElem?_eq_getElem hj]
  ·have h2':¬ k=i:=fun e=>h2 e.symm
   rw[if_neg h2,if_neg h2']
theorem swapV_get? (m:List Value) {i j:Nat} {ri rj:Value} (hi:m[i]? = some ri) (hj:m[j]? = some rj) (k:Nat):((m.set i rj).set j ri)[k]? = m[if k=j then i else if k=i then j else k]?:=by
 have hil:=(List.getElem?_eq_some_iff.1 hi).1
 have hjl:=(List.getElem?_eq_some_iff.1 hj).1
 rw[List.getElem?_set,List.getElem?_set]
 by_cases h1:j=k
 ·subst h1
  rw[if_pos rfl,if_pos rfl,List.length_set,if_pos hjl,hi]
 ·have h1':¬ k=j:=fun e=>h1 e.symm
  rw[if_neg h1,if_neg h1']
  by_cases h2:i=k
  ·subst h2
   rw[if_pos rfl,if_pos rfl,if_pos hil,hj]
  ·have h2':¬ k=i:=fun e=>h2 e.symm
   rw[if_neg h2,if_neg h2']
theorem Nest.swap {w:World} {B:Nat} {rows:List Value} {xss:List (List Int)} (h:Nest w B rows xss) {i j:Nat} {ri rj:Value} (hi:rows[i]? = some ri) (hj:rows[j]? = some rj):Nest w B ((rows.set i rj).set j ri) (zr xss i j):=by
 have hil:=(List.getElem?_eq_some_iff.1 hi).1
 have hjl:=(List.getElem?_eq_some_iff.1 hj).1
 rw[h.len]at hil hjl
 refine h.moved (fun k=>if k=j then i else if k=i then j else k) (fun a b hab=>?_) (by simp[zr,h.len]) (swapV_get? rows hi hj) (swapL_get? xss hil hjl)
 show (if a=j then i else if a=i then j else a)≠(if b=j then i else if b=i then j else b)
 split<;>split<;>(try split)<;>(try split)<;>omega
section
variable {w0 w w1 w2:World} {g n c:Nat} {xss:List (List Int)}
theorem MkII.swap (h:MkII w0 w (some ⟨g,0,none⟩) n c xss) {i j:Nat} (hi:i<n) (hj:j<n) {ri rj:Value} (ci:w.cell? ⟨g,i,none⟩=some ri) (cj:w.cell? ⟨g,j,none⟩=some rj) :
 MkII w0 ((w.setCell ⟨g,i,none⟩ rj).setCell ⟨g,j,none⟩ ri) (some ⟨g,0,none⟩) n c (zr xss i j):=by
 obtain⟨rows,hm,hn⟩:=h
 have ei:rows[i]? = some ri:=by
  obtain⟨u,hu,hc⟩:=hm.2.cell_ hi
  rw[hu,← ci,hc]
 have ej:rows[j]? = some rj:=by
  obtain⟨u,hu,hc⟩:=hm.2.cell_ hj
  rw[hu,← cj,hc]
 obtain⟨m1,g1⟩:=hm.set i rj
 obtain⟨m2,g2⟩:=m1.set j ri
 exact⟨_,m2,((hn.grown hm.2 (by decide) g1).grown m1.2 (by decide) g2).swap ei ej⟩
theorem MkII.setRow (h:MkII w0 w1 (some ⟨g,0,none⟩) n c xss) {A1:Option Addr} {m c1:Nat} {xs:List Int} (hr:Mk w1 w2 2 A1 m c1 (ints xs)) (k:Nat) :
 MkII w0 (w2.setCell ⟨g,k,none⟩ (.slice A1 m c1)) (some ⟨g,0,none⟩) n c (xss.set k xs):=by
 obtain⟨rows,hm,hn⟩:=h
 have hm2:=hm.below hr.1
 obtain⟨m1,g1⟩:=hm2.set k (.slice A1 m c1)
 exact⟨_,m1,(hn.setNew hr hm.1.size k).grown hm2.2 (by decide) g1⟩
theorem MkII.frozen_ (h:MkII w0 w (some ⟨g,0,none⟩) n c xss) (k:Nat):w.frozen? ⟨g,k,none⟩=false:=by
 obtain⟨rows,hm,_⟩:=h
 exact hm.2.frozen_ k
theorem MkII.cellSet (h:MkII w0 w (some ⟨g,0,none⟩) n c xss) (k:Nat) {A1:Option Addr} {m c1:Nat} {j:Nat} (hj:j<n):∃ v,(w.setCell ⟨g,k,none⟩ (.slice A1 m c1)).cell? ⟨g,j,none⟩=some v:=by
 obtain⟨rows,hm,_⟩:=h
 obtain⟨m1,_⟩:=hm.set k (.slice A1 m c1)
 obtain⟨v,_,hv⟩:=m1.2.cell_ hj
 exact⟨v,hv⟩
theorem MkII.outer {A:Option Addr} (h:MkII w0 w A n c xss):∃ us,Mk w0 w 24 A n c us:=by
 obtain⟨rows,hm,_⟩:=h
 exact⟨_,hm⟩
theorem MkII.cut {A:Option Addr} {k:Nat} (h:MkII w0 w A n c xss) (hk:k≤n):MkII w0 w A k c (xss.take k):=by
 obtain⟨rows,hm,hn⟩:=h
 refine⟨rows.take k,⟨hm.1,hm.2.cut hk⟩,by rw[List.length_take,List.length_take,hn.len],fun j hj=>?_,fun i j b hij hi=>?_⟩
 ·have hj2:j<k∧j<xss.length:=by rw[List.length_take]at hj;omega
  obtain⟨A',c',e,ho⟩:=hn.row j hj2.2
  rw[List.getElem_take]
  exact⟨A',c',by rw[List.getElem?_take,if_pos hj2.1];exact e,ho⟩
 ·rw[List.getElem?_take]at hi ⊢
  split at hi
  ·split
   ·exact hn.apart i j b hij hi
   ·simp
  ·simp at hi
end
theorem ql {M:List (List Int)} {i k:Nat} (hi:i<M.length) (hk:k<M[i].length):ent M i k=M[i][k]:=by
 unfold ent
 rw[yc [] hi,yc 0 hk]
theorem Own.keep {w w':World} {B:Nat} {E:TypeId} {A:Option Addr} {n c:Nat} {us:List Value} (h:Own w B E A n c us) (hk:∀ b,B≤b→b<w.heap.size→w'.heap[b]? = w.heap[b]?):Rd w' A n us:=by
 refine⟨h.len,fun hn=>?_⟩
 rcases h.form with ⟨_,h0⟩ | ⟨g,rfl,hg,hg2⟩
 ·omega
 ·obtain⟨g',o,e,hc⟩:=h.rd.2 hn
  refine⟨g',o,e,fun k u hu=>?_⟩
  injection e with e
  injection e with e1 _ _
  subst e1
  exact (World.cell?_of_block (hk g hg hg2)).trans (hc k u hu)
theorem MkII.keep {w0 w w':World} {A:Option Addr} {n c:Nat} {xss:List (List Int)} (h:MkII w0 w A n c xss) (hk:∀ b,w0.heap.size≤b→b<w.heap.size→w'.heap[b]? = w.heap[b]?):RdII w' A n xss:=by
 obtain⟨rows,hm,hn⟩:=h
 exact⟨rows,hm.2.keep hk,hn.len,fun k hk'=>by obtain⟨A',c',e,ho⟩:=hn.row k hk';exact⟨A',c',e,ho.keep hk,ho.cap⟩⟩
theorem vi {ops:Array Oper} {rest:List Oper} {o:Oper} {a:Act} {Q:Exit→Act→World→Prop} (w0 wr w1:World)
 (hgd:o.guard=none) (s x:Operand) (ho:o.op=.call { callee:=.builtin .append,args:=#[s,x],argTypes:=#[32,32] })
 (A:Option Addr) (n c:Nat) (xss:List (List Int)) (A1:Option Addr) (m c1:Nat) (xs:List Int) (hM:MkII w0 wr A n c xss) (hr:Mk wr w1 2 A1 m c1 (ints xs)) (hn:n≤1099511627776)
 (hs:a.eval s=.slice A n c) (hx:a.eval x=.slice (some ⟨w1.heap.size,0,none⟩) 1 1)
 (h:∀ A' c' w',MkII w0 w' A' (n+1) c' (xss++[xs])→w1.grownBy w' (Value.slice A n c).ownBlock→(∃ g,A'=some ⟨g,0,none⟩∧((Value.slice A n c).ownBlock=some g∨w1.heap.size≤g))→wpList Tryz.prog ops Q rest (a.put o.dst (.slice A' (n+1) c')) w') :
 wpList Tryz.prog ops Q (o::rest) a (w1.alloc (.cells #[.slice A1 m c1] 24)):=by
 obtain⟨rows,hm,hnest⟩:=hM
 have hm1:=hm.below hr.1
 have hn1:=hnest.snoc hr hm.1.size
 refine yt w0 w1 32 24 (.slice none 0 0) 24 Tryz.underlying32 zy rfl (by omega) hgd s x ho A n c rows (.slice A1 m c1) hm1 hn rfl hs hx ?_
 intro A' c' w' hM' hg hat
 exact h A' c' w' ⟨_,hM',hn1.grown hm1.2 (by decide) hg⟩ hg hat
def Keeps (w2 w3 wr:World) (v:Value):Prop:=w3.heap.size≤wr.heap.size∧(∀ b,w2.heap.size≤b→b<w3.heap.size→wr.heap[b]? = w3.heap[b]?) ∧ ∀ gb,v.ownBlock=some gb→gb<w2.heap.size∨w3.heap.size≤gb
theorem vI {g gb k n c:Nat} (e:(Value.slice (some ⟨g,0,none⟩) n c).ownBlock=some gb) (h:g<k):gb<k:=by
 have:g=gb:=by simpa [Value.ownBlock] using e
 omega
theorem Keeps.step {w2 w3 wr w5 w6:World} {A A':Option Addr} {n c c' n':Nat} (h:Keeps w2 w3 wr (.slice A n c)) (hb:Below wr.heap.size wr w5) (hg:w5.grownBy w6 (Value.slice A n c).ownBlock)
 (hat:∃ g,A'=some ⟨g,0,none⟩∧((Value.slice A n c).ownBlock=some g∨w5.heap.size≤g)):Keeps w2 w3 w6 (.slice A' n' c'):=by
 obtain⟨h1,h2,h3⟩:=h
 have s1:=hb.size
 have s2:=hg.size
 refine⟨by omega,fun b hb1 hb2=>?_,fun gb hgb=>?_⟩
 ·rw[hg.block b (by omega) (fun e=>?_),hb.block b (by omega),h2 b hb1 hb2]
  rcases h3 b e.symm with h | h<;>omega
 ·obtain⟨g,rfl,hor⟩:=hat
  have:g=gb:=by simpa [Value.ownBlock] using hgb
  subst this
  rcases hor with he | he
  ·exact h3 g he
  ·right;omega
theorem MkII.ne_blk {w0 w:World} {A:Option Addr} {n c g:Nat} {xss:List (List Int)} {t:TypeId} {cs:Array Value} (h:MkII w0 w A n c xss) (hb:Blk w g t cs) (hE:24≠t):some g≠(Value.slice A n c).ownBlock:=by
 obtain⟨rows,hm,_⟩:=h
 exact hm.2.ne_blk hb hE
theorem ybf {M:List (List Int)} {i k:Nat} (hi:i<M.length) (hk:k<M[i].length):ent M i k=M[i][k]:=by
 unfold ent
 rw[yc [] hi,yc 0 hk]
theorem jT {x:Int} (h1:-1000000≤x) (h2:x≤1000000):IntKind.i64.wrap x=x:=yi x (by omega) (by omega)
theorem yd7 {p:Int} {m:List (List Int)} {d k j:Nat} (hj:j<m.length) (h0:ent m j k=0) (hN:NumsL p (m.getD j [])):yS p m d k (j+1)=yS p m d k j:=by
 refine uQ fun r _=>?_
 by_cases hr:r=j
 ·subst hr
  by_cases hd:r=d
  ·rw[if_neg (fun h=>h.2 hd),if_neg (fun h=>h.2 hd)]
  ·rw[if_pos ⟨by omega,hd⟩,if_neg (by omega),h0]
   exact ygF _ _ hN
 ·by_cases hd:r=d
  ·rw[if_neg (fun h=>h.2 hd),if_neg (fun h=>h.2 hd)]
  ·by_cases hl:r<j
   ·rw[if_pos ⟨by omega,hd⟩,if_pos ⟨hl,hd⟩]
   ·rw[if_neg (by omega),if_neg (by omega)]
theorem ybP {B:Nat} {W0 w1 w2:World} {p q r:Addr} {u v x:Value} (h:w1.cell? p=some u∧w1.cell? q=some v∧w1.cell? r=some x∧Below B W0 w1) (hb:Below w1.heap.size w1 w2) (hB:B≤W0.heap.size) :
 w2.cell? p=some u∧w2.cell? q=some v∧w2.cell? r=some x∧Below B W0 w2:=
 ⟨(hb.cell (World.block_lt_of_cell? _ _ h.1)).trans h.1,(hb.cell (World.block_lt_of_cell? _ _ h.2.1)).trans h.2.1,(hb.cell (World.block_lt_of_cell? _ _ h.2.2.1)).trans h.2.2.1,h.2.2.2.trans (hb.mono (Nat.le_trans hB h.2.2.2.size))⟩
set_option maxRecDepth 8000 in
set_option maxHeartbeats 400000 in
set_option maxRecDepth 8000 in
theorem ybS (A:Option Addr) (n c:Nat) (xs:List Int) (w:World) (hn:n≤65536) (ha:Rd w A n (ints xs)) :
 Calls Tryz.prog 154 #[.slice A n c] w fun e w'=>∃ A' c',e=.returned (.slice A' n c')∧MkI w w' A' n c' xs:=by
 have hxl:xs.length=n:=by have:=ha.1;rwa [yD]at this
 have hM0:=Mk.lit (E:=2) (Below.refl w.heap.size w) #[] (by simp)
 obtain⟨i,hi,h1,h2,h3⟩:=info_parts yo
 obtain⟨b1,b2⟩:=xh (Nat.le_trans hn (by decide))
 clear b1
 have HB:=Lib.hid b2
 clear b2
 obtain⟨p,hnews⟩:∃ p:Addr,(∀ (j:Nat) (u:Value),(ints xs)[j]? = some u→(w.alloc (.cells #[] 2)).cell? (p.add j)=some u)∧(A=some p∨(A=none∧n=0)):=by
  cases A with
  | none=>
   have h0:n=0:=by
    rcases Nat.eq_zero_or_pos n with h | h
    ·exact h
    ·obtain⟨g,o,e,_⟩:=ha.2 h;cases e
   exact⟨⟨0,0,none⟩,fun j u hu=>by have:=(List.getElem?_eq_some_iff.1 hu).1;rw[yD]at this;omega,.inr ⟨rfl,h0⟩⟩
  | some p=>
   refine⟨p,fun j u hu=>?_,.inl rfl⟩
   have hj:j<n:=by have:=(List.getElem?_eq_some_iff.1 hu).1;rw[yD]at this;omega
   obtain⟨g,o,e,hc⟩:=(ha.below ((Below.refl _ w).alloc (Nat.le_refl _) (.cells #[] 2))).2 (by omega)
   injection e with e;subst e
   rw[Addr.add_lit]
   exact hc j u hu
 have Hx:=Lib.hid hxl
 have HI:=Lib.hid hi
 have H1:=Lib.hid h1
 have H2:=Lib.hid h2
 have H3:=Lib.hid h3
 have HN:=Lib.hid hnews.1
 have hA:=hnews.2
 clear hnews hi h1 h2 h3 hxl
 rcases hA with rfl | ⟨rfl,rfl⟩
 ·go_enter Tryz.func154,Tryz.ntmps154
  go_wp2_with (at_builtin;refine wpList_append_own_at (w.alloc (.cells #[] 2)) rfl _ _ 24 rfl w.heap.size 2 i _ 1 8 Tryz.underlying24 HI.out H1.out H2.out H3.out rfl (by omega) (.slice (some ⟨w.heap.size,0,none⟩) 0 0) 0 [] rfl hM0.2 p n c (ints xs) rfl (by rw[yD,Hx.out,Nat.mul_one]) HN.out (by intro u hu;obtain⟨y,_,rfl⟩:=List.mem_map.1 hu;rfl) (by simp only[maxLen];omega) (by have:=HB.out 8 (by omega);omega) (by simp) ?_;intro v' w' hown hg _ _)
  have hb':Below w.heap.size w w':=hM0.1.grown hg (by simp) (fun k hk=>(hM0.2.lt k hk).1)
  rw[Nat.zero_add,List.nil_append]at hown
  rcases hown.2 with ⟨rfl,h0⟩ | ⟨g,cap,cur,rfl,hr⟩
  ·subst h0
   go_ret
   exact⟨none,0,rfl,hb',hown⟩
  ·go_ret
   exact⟨_,_,rfl,hb',hown⟩
 ·have hxs:xs=[]:=List.eq_nil_of_length_eq_zero Hx.out
  subst hxs
  go_enter Tryz.func154,Tryz.ntmps154
  go_wp2
  go_ret
  exact⟨_,_,rfl,hM0⟩
set_option maxHeartbeats 1600000 in
set_option maxRecDepth 8000 in
theorem yeb (p:Int) (A:Option Addr) (n c:Nat) (M:List (List Int)) (m:Nat) (w:World) (hn:n≤65536) (hm:m≤65536) (ha:RdII w A n M) (hT:Tab p m M) :
 Calls Tryz.prog 62 #[.slice A n c] w fun e w'=>∃ A' c',e=.returned (.slice A' n c')∧MkII w w' A' n c' M:=by
 have hML:=ha.len
 have HT:=Lib.hid hT
 have HML:=Lib.hid hML
 have hM0:MkII w (w.alloc (.cells #[] 24)) (some ⟨w.heap.size,0,none⟩) 0 0 []:=MkII.empty zG
 clear hT hML
 go_enter Tryz.func62,Tryz.ntmps62
 go_wp2
 obtain⟨w1,hw1⟩:∃ W,W=w.alloc (.cells #[] 24):=⟨_,rfl⟩
 rw[← hw1]at hM0 ⊢
 clear hw1
 go_loopw [3,5,9] (fun out _ i wr=>∃ (k:Nat) (A':Option Addr) (c':Nat),k≤n∧i=.int .i64 k∧out=.slice A' k c'∧MkII w wr A' k c' (M.take k)) (fun _ _ i _=>n-(intOf i).toNat)
 case atStart=>exact⟨0,_,_,by omega,rfl,rfl,by simpa using hM0⟩
 case round=>
  obtain⟨k,A',c',hk,rfl,rfl,hM⟩:=hrel
  clear hM0
  by_cases hlt:k<n
  ·obtain⟨g,o,rfl,hxk,A1,c1,hcx,hr1,_⟩:=(ha.below hM.b).at_ hlt
   have hl1:M[k].length=m:=(HT.out M[k] (List.getElem_mem hxk)).1
   rw[hl1]at hcx hr1
   have hcall:=jl A1 m c1 M[k] wr hm hr1
   have HV:Hid (M.take (k+1)=M.take k++[M[k]]):=Lib.hid (List.take_succ_eq_append_getElem hxk)
   have HM:=Lib.hid hM
   clear hM hr1 hl1 ha
   go_wp2_with fail
   refine hcall.mono ?_
   rintro e w5 ⟨A5,c5,rfl,hM5⟩
   clear hcall
   go_wp2_with (at_builtin;refine vw w wr _ rfl _ _ rfl A' k c' _ A5 m c5 _ HM.out hM5 (by omega) rfl ?_ ?_;(go_simp);intro A6 c6 w6 hM6)
   go_roundw
   case rel=>exact⟨k+1,A6,c6,by omega,by go_num,rfl,by rw[HV.out];exact hM6⟩
   case measure=>simp[intOf];omega
  ·obtain rfl:k=n:=by omega
   go_wp2
   go_ret
   rw[List.take_of_length_le (by rw[HML.out];exact Nat.le_refl _)]at hM
   exact⟨_,_,rfl,hM⟩
set_option maxHeartbeats 6400000 in
set_option maxRecDepth 8000 in
theorem jg (p:Int) (A:Option Addr) (n c:Nat) (M:List (List Int)) (m:Nat) (w:World) (HP:isP p=true) (hn:n≤65536) (hm:m≤65536) (ha:RdII w A n M) (hT:Tab p m M) :
 Calls Tryz.prog 127 #[.int .i64 p,.slice A n c] w fun e w'=>∃ A' c',e=.returned (.slice A' (yf p M).length c')∧MkII w w' A' (yf p M).length c' (yf p M):=by
 have hML:=ha.len
 obtain⟨hp3,hp2⟩:=yk HP
 have hp:2≤p:=by omega
 have hclone:=yeb p A n c M m w hn hm ha hT
 have HT:=Lib.hid hT
 have HP':=Lib.hid HP
 by_cases h0:0<n
 ·have HBL:Hid (yf p M=(yu p M m).1.take (yu p M m).2):=Lib.hid (by unfold yf;rw[qP hT (by omega)])
  have HINV:Hid (∀ k,Tab p m (yu p M k).1∧(yu p M k).1.length=n∧(yu p M k).2≤n):=Lib.hid (fun k=>by
   have:=vy (p:=p) (by omega) M hT k
   rw[hML]at this
   exact this)
  clear hT HP hML ha
  go_enter Tryz.func127,Tryz.ntmps127
  go_wp2_with fail
  refine hclone.mono ?_
  rintro e w1 ⟨A1,c1,rfl,hM1⟩
  clear hclone
  obtain⟨g,rfl, -⟩:=hM1.at_ h0
  go_wp2
  go_loopw [6,7] (fun d q wr=>∃ dn kn:Nat,d=.int .i64 dn∧q=.int .i64 kn∧kn≤m∧dn=(yu p M kn).2∧MkII w wr (some ⟨g,0,none⟩) n c1 (yu p M kn).1) (fun _ q _=>m-(intOf q).toNat)
  case atStart=>exact⟨0,0,rfl,rfl,by omega,rfl,hM1⟩
  case round=>
   obtain⟨dn,kn,rfl,rfl,hkm,hdn,hM⟩:=hrel
   clear hM1
   obtain⟨hT1,hl1,hd1⟩:=HINV.out kn
   rw[← hdn]at hd1
   have HSUC:Hid (yu p M (kn+1)=zk p kn ((yu p M kn).1,dn)):=Lib.hid (by rw[hdn];rfl)
   have HFULL:Hid (dn=n→yf p M=(yu p M kn).1.take dn):=Lib.hid (fun h=>by
    rw[HBL.out,ydF p M kn m hkm (by rw[← hdn,hl1];exact h),← hdn])
   have HEND:Hid (kn=m→yf p M=(yu p M kn).1.take dn):=Lib.hid (fun h=>by rw[HBL.out,← h,← hdn])
   obtain⟨L,hL⟩:∃ L,L=(yu p M kn).1:=⟨_,rfl⟩
   rw[← hL]at hM hT1 hl1 HSUC HFULL HEND
   clear hL hdn
   have HT1:=Lib.hid hT1
   have HL1:=Lib.hid hl1
   have HM:=Lib.hid hM
   have hcap:n≤c1:=by obtain⟨rows,hm',_⟩:=hM;exact hm'.2.cap
   obtain⟨g0,e0,hx0,A0,c0,hc0, -⟩:=hM.at_ h0
   injection e0 with e0;injection e0 with e0 _ _;subst e0
   have hl0:L[0].length=m:=(HT1.out L[0] (List.getElem_mem hx0)).1
   rw[hl0]at hc0
   clear hl0 hT1 hl1 hM
   by_cases hgo:kn<m∧dn<n
   ·obtain⟨hlk,hld⟩:=hgo
    go_wp2
    go_loop [8] (fun i=>∃ j:Nat,dn≤j∧j≤n∧i=.int .i64 j∧Hid (piv L kn (n-j) j=yR L kn dn)) (fun i=>n-(intOf i).toNat)
    case atStart=>exact⟨dn,by omega,by omega,rfl,Lib.hid (by unfold yR;rw[HL1.out])⟩
    case round=>
     obtain⟨j,hj1,hj2,rfl,hj3⟩:=hrel
     by_cases hlj:j<n
     ·have hld:dn<n:=by omega
      obtain⟨g0,e0,hxj,Aj,cj,hcj,hrj⟩:=HM.out.at_ hlj
      injection e0 with e0;injection e0 with e0 _ _;subst e0
      have HRJ:=Lib.hid (HT1.out L[j] (List.getElem_mem hxj))
      have hlj2:L[j].length=m:=HRJ.out.1
      rw[hlj2]at hcj hrj
      obtain⟨gj,oj,rfl,hxe,hce⟩:=hrj.rd.int hlk
      have HE:Hid (ent L j kn=L[j][kn]):=Lib.hid (ybf hxj hxe)
      have HPV:Hid (piv L kn (n-j) j=if ent L j kn=0 then piv L kn (n-(j+1)) (j+1) else j):=Lib.hid (by
       rw[show n-j=(n-(j+1))+1 by omega];rfl)
      have HROW:Hid ((zr L dn j)[dn]? = some L[j]):=Lib.hid (by
       rw[swapL_get? L (by rw[HL1.out];exact hld) hxj]
       by_cases hdj:dn=j
       ·subst hdj;rw[if_pos rfl];exact List.getElem?_eq_getElem hxj
       ·rw[if_neg hdj,if_pos rfl];exact List.getElem?_eq_getElem hxj)
      have HGD:Hid (L.getD j []=L[j]):=Lib.hid (yc [] hxj)
      obtain⟨R,hR⟩:∃ R,R=L[j]:=⟨_,rfl⟩
      have HXE:Hid (∀ h:kn<R.length,R[kn]=L[j][kn]):=Lib.hid (fun h=>by simp only[hR])
      rw[← hR]at hrj HRJ HROW HGD
      clear hlj2
      obtain⟨xe,hxe'⟩:∃ x,x=L[j][kn]:=⟨_,rfl⟩
      rw[← hxe']at hce HE HXE
      have HX:Hid (0≤xe∧xe<p):=Lib.hid (hxe'▸((HT1.out L[j] (List.getElem_mem hxj)).2 _ (List.getElem_mem hxe)))
      clear hxe' hxe hR hxj
      cases hz:(xe == 0)
      ·have hne:xe≠0:=by simpa using hz
       have HVP:Hid (yR L kn dn=j):=Lib.hid (by rw[← hj3.out,HPV.out,if_neg (by rw[HE.out];exact hne)])
       obtain⟨g0,e0,hxd,Ad,cd,hcd,hrd⟩:=HM.out.at_ hld
       injection e0 with e0;injection e0 with e0 _ _;subst e0
       have hld2:L[dn].length=m:=(HT1.out L[dn] (List.getElem_mem hxd)).1
       rw[hld2]at hcd hrd
       have fd:=HM.out.frozen_ dn
       have fj:=HM.out.frozen_ j
       have HSC:Hid (yV p L kn dn=(zr L dn j).set dn (yl p R (invF p xe))):=Lib.hid (by unfold yV;rw[HVP.out,HGD.out,HE.out])
       have HTS:Hid (Tab p m (yV p L kn dn)∧(yV p L kn dn).length=n):=Lib.hid ⟨qR (by omega) HT1.out (by rw[HL1.out];exact hld) (by rw[HVP.out,HL1.out];exact hlj),by rw[ue,HL1.out]⟩
       have HNEXT:Hid (yu p M (kn+1)=(yS p (yV p L kn dn) dn kn n,dn+1)):=Lib.hid (by
        rw[HSUC.out];unfold zk;rw[if_neg (by simp only;rw[HVP.out,HL1.out];omega)];simp only[HL1.out])
       have HSCD:Hid ((yV p L kn dn).getD dn []=yl p R (invF p xe)):=Lib.hid (by
        rw[HSC.out,zv,if_pos ⟨rfl,by rw[yc3,HL1.out];exact hld⟩])
       have HSW:=Lib.hid (HM.out.swap hld hlj hcd hcj)
       obtain⟨uj,hcs⟩:=HM.out.cellSet dn (A1:=some ⟨gj,oj,none⟩) (m:=m) (c1:=cj) hlj
       clear hrj hrd hld2 hxd
       go_wp2
       go_region
       obtain⟨w2,hw2⟩:∃ W,W=((wr.setCell ⟨g,dn,none⟩ (.slice (some ⟨gj,oj,none⟩) m cj)).setCell ⟨g,j,none⟩ (.slice Ad m cd)).drew:=⟨_,rfl⟩
       have hM2:MkII w w2 (some ⟨g,0,none⟩) n c1 (zr L dn j):=by rw[hw2];exact HSW.out.below (zG.drew)
       rw[← hw2]
       clear hw2 HSW hcs fd fj hcd hcj hce hc0
       obtain⟨g0,e0,hxs,As,cs,hcs2,hrs⟩:=hM2.at_ hld
       injection e0 with e0;injection e0 with e0 _ _;subst e0
       have hrow:(zr L dn j)[dn]=R:=by have:=HROW.out;rw[List.getElem?_eq_getElem hxs]at this;exact Option.some.inj this
       rw[hrow]at hcs2 hrs
       have hRl:=HRJ.out.1
       rw[hRl]at hcs2 hrs
       obtain⟨gs,os,rfl,hxe2,hce2⟩:=hrs.rd.int hlk
       rw[HXE.out hxe2]at hce2
       have HM2:=Lib.hid hM2
       have HRS:=Lib.hid hrs
       clear hM2 hrs hrow hxe2 hxs hRl
       have hiv:=yfc hp xe
       have hx1:=HX.out
       have fd:=HM2.out.frozen_ dn
       go_wp2
       refine yh 18 [[],[],[],[],[],[3,4],[3,4,5],[],[],[],[8,9],[8,9,10],[],[8,9,10,11,12],[8,9,10,11,12,13],[7,8,9,10,11,12,13,14],[2,3,4,5,6,7,8,9,10,11,12,13,14,15],[0,1],[0,1,2,3,4,5,6,7,8,9,10,11,12,13,14,15,16,17]] [VIs (.slice (some ⟨g,0,none⟩) n c1),VIs (.int .i64 (dn)),VIs (.int .i64 (p)),VIs (.slice (some ⟨g,0,none⟩) n c1),VIs (.int .i64 (dn)),VIs (.pointer (some ⟨g,dn,none⟩)),VIs (.slice (some ⟨gs,os,none⟩) m cs),VIs (.int .i64 (p)),VIs (.slice (some ⟨g,0,none⟩) n c1),VIs (.int .i64 (dn)),VIs (.pointer (some ⟨g,dn,none⟩)),VIs (.slice (some ⟨gs,os,none⟩) m cs),VIs (.int .i64 (kn)),VIs (.pointer (some ⟨gs,os+kn,none⟩)),VIs (.int .i64 (xe)),VIs (.int .i64 (invF p xe)),VSl w2 m (yl p R (invF p xe)),VIs (.pointer (some ⟨g,dn,none⟩))] (fun w'=>w'.cell? ⟨g,dn,none⟩=some (.slice (some ⟨gs,os,none⟩) m cs)∧w'.cell? ⟨gs,os+kn,none⟩=some (.int .i64 xe)∧Below w2.heap.size w2 w') (by kernel_rfl) (by kernel_rfl) (fun _ _ h hb=>yfs h hb (Nat.le_refl _)) (⟨hcs2,hce2,zG.drew⟩) (fun x=>?_)
       refine zS (fun w' hS hV K hK=>?_) ?_
       ·have q0:=hS.1;have q1:=hS.2.1;have q2:=hS.2.2;go_simp;exact zO hK
       refine zS (fun w' hS hV K hK=>?_) ?_
       ·have q0:=hS.1;have q1:=hS.2.1;have q2:=hS.2.2;go_simp;exact zO hK
       refine zS (fun w' hS hV K hK=>?_) ?_
       ·have q0:=hS.1;have q1:=hS.2.1;have q2:=hS.2.2;go_simp;exact zO hK
       refine zS (fun w' hS hV K hK=>?_) ?_
       ·have q0:=hS.1;have q1:=hS.2.1;have q2:=hS.2.2;go_simp;exact zO hK
       refine zS (fun w' hS hV K hK=>?_) ?_
       ·have q0:=hS.1;have q1:=hS.2.1;have q2:=hS.2.2;go_simp;exact zO hK
       refine zS (fun w' hS hV K hK=>?_) ?_
       ·have e3:=zQ hV 3;have e4:=zQ hV 4;have q0:=hS.1;have q1:=hS.2.1;have q2:=hS.2.2;go_simp;exact zO hK
       refine zS (fun w' hS hV K hK=>?_) ?_
       ·have e5:=zQ hV 5;have q0:=hS.1;have q1:=hS.2.1;have q2:=hS.2.2;go_simp;exact zO hK
       refine zS (fun w' hS hV K hK=>?_) ?_
       ·have q0:=hS.1;have q1:=hS.2.1;have q2:=hS.2.2;go_simp;exact zO hK
       refine zS (fun w' hS hV K hK=>?_) ?_
       ·have q0:=hS.1;have q1:=hS.2.1;have q2:=hS.2.2;go_simp;exact zO hK
       refine zS (fun w' hS hV K hK=>?_) ?_
       ·have q0:=hS.1;have q1:=hS.2.1;have q2:=hS.2.2;go_simp;exact zO hK
       refine zS (fun w' hS hV K hK=>?_) ?_
       ·have e8:=zQ hV 8;have e9:=zQ hV 9;have q0:=hS.1;have q1:=hS.2.1;have q2:=hS.2.2;go_simp;exact zO hK
       refine zS (fun w' hS hV K hK=>?_) ?_
       ·have e10:=zQ hV 10;have q0:=hS.1;have q1:=hS.2.1;have q2:=hS.2.2;go_simp;exact zO hK
       refine zS (fun w' hS hV K hK=>?_) ?_
       ·have q0:=hS.1;have q1:=hS.2.1;have q2:=hS.2.2;go_simp;exact zO hK
       refine zS (fun w' hS hV K hK=>?_) ?_
       ·have e11:=zQ hV 11;have e12:=zQ hV 12;have q0:=hS.1;have q1:=hS.2.1;have q2:=hS.2.2;go_simp;exact zO hK
       refine zS (fun w' hS hV K hK=>?_) ?_
       ·have e13:=zQ hV 13;have q0:=hS.1;have q1:=hS.2.1;have q2:=hS.2.2;go_simp;exact zO hK
       refine zS (fun w' hS hV K hK=>?_) ?_
       ·have e7:=zQ hV 7;have e14:=zQ hV 14;have q0:=hS.1;have q1:=hS.2.1;have q2:=hS.2.2;go_simp;refine (yff p xe _ hp hp2 hx1.1 hx1.2).mono ?_;rintro e v1 ⟨rfl,rfl⟩;exact zO hK
       refine zS (fun w' hS hV K hK=>?_) ?_
       ·have e2:=zQ hV 2;have e6:=zQ hV 6;have e15:=zQ hV 15;have q0:=hS.1;have q1:=hS.2.1;have q2:=hS.2.2;go_simp;refine (yap p _ m _ (invF p xe) R _ hp hp2 hm (HRS.out.rd.below hS.2.2) HRJ.out.2 (by omega) (by omega)).mono ?_;rintro e v1 ⟨A2,c2,rfl,hM⟩;exact hK.out _ _ _ rfl rfl ⟨_,_,rfl,hM.after hS.2.2⟩ hM.b
       refine zS (fun w' hS hV K hK=>?_) ?_
       ·have e0:=zQ hV 0;have e1:=zQ hV 1;have q0:=hS.1;have q1:=hS.2.1;have q2:=hS.2.2;go_simp;exact zO hK
       refine fun w' hS hV=>?_
       have e0:=zT hV 0
       have e1:=zT hV 1
       have e2:=zT hV 2
       have e3:=zT hV 3
       have e4:=zT hV 4
       have e5:=zT hV 5
       have e6:=zT hV 6
       have e7:=zT hV 7
       have e8:=zT hV 8
       have e9:=zT hV 9
       have e10:=zT hV 10
       have e11:=zT hV 11
       have e12:=zT hV 12
       have e13:=zT hV 13
       have e14:=zT hV 14
       have e15:=zT hV 15
       obtain⟨A16,c16,e16,h16⟩:=hV 16 (by decide)
       have e17:=zT hV 17
       simp only[e0,e1,e2,e3,e4,e5,e6,e7,e8,e9,e10,e11,e12,e13,e14,e15,e16,e17]
       clear e0 e1 e2 e3 e4 e5 e6 e7 e8 e9 e10 e11 e12 e13 e14 e15 e16 e17
       obtain⟨q0,q1,q2⟩:=hS
       have ff:=(HM2.out.below q2).frozen_ dn
       refine yK (j:=18) (by kernel_rfl) (Eq.trans (by simp only[zA,zB,zC];exact rfl) rfl) (fun K hK=>?_)
       go_simp
       refine hK.out _ _ (wpAny_done (by kernel_rfl) ?_ _)
       have hM3:=HM2.out.setRow h16 dn
       rw[← HSC.out]at hM3
       clear q0 q1 q2 ff hV hcs2 hce2 fd h16
       obtain⟨w3,hw3⟩:∃ W,W=w'.setCell ⟨g,dn,none⟩ (.slice A16 m c16):=⟨_,rfl⟩
       rw[← hw3]at hM3 ⊢
       clear hw3 HM2 HRS
       have hM0:MkII w w3 (some ⟨g,0,none⟩) n c1 (yS p (yV p L kn dn) dn kn 0):=by rw[yea];exact hM3
       obtain⟨N,hN⟩:∃ N,N=yV p L kn dn:=⟨_,rfl⟩
       rw[← hN]at hM0 HTS HNEXT HSCD
       clear hM3 hN HSC
       go_wp2
       go_loopw [86] (fun i w4=>∃ r:Nat,r≤n∧i=.int .i64 r∧MkII w w4 (some ⟨g,0,none⟩) n c1 (yS p N dn kn r)) (fun i _=>n-(intOf i).toNat)
       case atStart=>exact⟨0,by omega,rfl,hM0⟩
       case round=>
        obtain⟨r,hr,rfl,hM4⟩:=hrel
        clear hM0
        by_cases hlr:r<n
        ·by_cases hrd:r=dn
         ·subst hrd
          have HM4:=Lib.hid hM4
          clear hM4
          go_wp2
          go_roundw
          case rel=>exact⟨r+1,by omega,by go_num,by rw[yd8];exact HM4.out⟩
          case measure=>simp[intOf];omega
         ·have hT4:Tab p m (yS p N dn kn r):=yaV (by omega) HTS.out.1 dn kn r
          have hr4:(yS p N dn kn r).getD r []=N.getD r []:=by rw[uv (by rw[HTS.out.2];exact hlr),if_neg (by omega)]
          have hd4:(yS p N dn kn r).getD dn []=N.getD dn []:=by rw[uv (by rw[HTS.out.2];exact hld),if_neg (fun h=>h.2 rfl)]
          obtain⟨g0,e0,hxr,Ar,cr,hcr,hrr⟩:=hM4.at_ hlr
          injection e0 with e0;injection e0 with e0 _ _;subst e0
          obtain⟨g0,e0,hxd,Ad2,cd2,hcd2,hrd2⟩:=hM4.at_ hld
          injection e0 with e0;injection e0 with e0 _ _;subst e0
          have HR1:=Lib.hid (hT4 _ (List.getElem_mem hxr))
          have HD1:=Lib.hid (hT4 _ (List.getElem_mem hxd))
          have hl1:=HR1.out.1
          have hl2:=HD1.out.1
          rw[yc [] hxr]at hr4
          rw[yc [] hxd]at hd4
          rw[hl1]at hcr hrr
          rw[hl2]at hcd2 hrd2
          rw[hr4]at hrr HR1
          rw[hd4]at hrd2 HD1
          obtain⟨gr,or',rfl,hxy,hcy⟩:=hrr.rd.int hlk
          have hey:ent N r kn=(N.getD r [])[kn]:=by unfold ent;rw[yc 0 hxy]
          obtain⟨y,hy⟩:∃ y,y=(N.getD r [])[kn]:=⟨_,rfl⟩
          have hyb:0≤y∧y<p:=hy▸HR1.out.2 _ (List.getElem_mem hxy)
          rw[← hy]at hcy hey
          have HEY:=Lib.hid hey
          have HM4:=Lib.hid hM4
          have HRR:=Lib.hid hrr
          have HRD:=Lib.hid hrd2
          clear hy hT4 hr4 hd4 hl1 hl2 hxr hxd hxy hey hM4 hrr hrd2
          cases hyz:(y != 0)
          ·have hy0:y=0:=by simpa using hyz
           go_wp2
           go_roundw
           case rel=>exact⟨r+1,by omega,by go_num,by rw[yd7 (by rw[HTS.out.2];exact hlr) (by rw[HEY.out];exact hy0) HR1.out.2];exact HM4.out⟩
           case measure=>simp[intOf];omega
          ·have hwy:=jT (x:=-y) (by omega) (by omega)
           go_wp2
           refine yh 21 [[],[],[],[],[],[3,4],[3,4,5],[],[],[7,8],[7,8,9],[],[],[11,12],[11,12,13],[],[11,12,13,14,15],[11,12,13,14,15,16],[11,12,13,14,15,16,17],[2,3,4,5,6,7,8,9,10,11,12,13,14,15,16,17,18],[0,1],[0,1,2,3,4,5,6,7,8,9,10,11,12,13,14,15,16,17,18,19,20]] [VIs (.slice (some ⟨g,0,none⟩) n c1),VIs (.int .i64 (r)),VIs (.int .i64 (p)),VIs (.slice (some ⟨g,0,none⟩) n c1),VIs (.int .i64 (r)),VIs (.pointer (some ⟨g,r,none⟩)),VIs (.slice (some ⟨gr,or',none⟩) m cr),VIs (.slice (some ⟨g,0,none⟩) n c1),VIs (.int .i64 (dn)),VIs (.pointer (some ⟨g,dn,none⟩)),VIs (.slice Ad2 m cd2),VIs (.slice (some ⟨g,0,none⟩) n c1),VIs (.int .i64 (r)),VIs (.pointer (some ⟨g,r,none⟩)),VIs (.slice (some ⟨gr,or',none⟩) m cr),VIs (.int .i64 (kn)),VIs (.pointer (some ⟨gr,or'+kn,none⟩)),VIs (.int .i64 (y)),VIs (.int .i64 (-y)),VSl wr m (yp p (N.getD r []) (N.getD dn []) (-y)),VIs (.pointer (some ⟨g,r,none⟩))] (fun w'=>w'.cell? ⟨g,r,none⟩=some (.slice (some ⟨gr,or',none⟩) m cr)∧w'.cell? ⟨g,dn,none⟩=some (.slice Ad2 m cd2)∧w'.cell? ⟨gr,or'+kn,none⟩=some (.int .i64 y)∧Below wr.heap.size wr w') (by kernel_rfl) (by kernel_rfl) (fun _ _ h hb=>ybP h hb (Nat.le_refl _)) (⟨hcr,hcd2,hcy,zG.drew⟩) (fun x=>?_)
           refine zS (fun w' hS hV K hK=>?_) ?_
           ·have q0:=hS.1;have q1:=hS.2.1;have q2:=hS.2.2.1;have q3:=hS.2.2.2;go_simp;exact zO hK
           refine zS (fun w' hS hV K hK=>?_) ?_
           ·have q0:=hS.1;have q1:=hS.2.1;have q2:=hS.2.2.1;have q3:=hS.2.2.2;go_simp;exact zO hK
           refine zS (fun w' hS hV K hK=>?_) ?_
           ·have q0:=hS.1;have q1:=hS.2.1;have q2:=hS.2.2.1;have q3:=hS.2.2.2;go_simp;exact zO hK
           refine zS (fun w' hS hV K hK=>?_) ?_
           ·have q0:=hS.1;have q1:=hS.2.1;have q2:=hS.2.2.1;have q3:=hS.2.2.2;go_simp;exact zO hK
           refine zS (fun w' hS hV K hK=>?_) ?_
           ·have q0:=hS.1;have q1:=hS.2.1;have q2:=hS.2.2.1;have q3:=hS.2.2.2;go_simp;exact zO hK
           refine zS (fun w' hS hV K hK=>?_) ?_
           ·have e3:=zQ hV 3;have e4:=zQ hV 4;have q0:=hS.1;have q1:=hS.2.1;have q2:=hS.2.2.1;have q3:=hS.2.2.2;go_simp;exact zO hK
           refine zS (fun w' hS hV K hK=>?_) ?_
           ·have e5:=zQ hV 5;have q0:=hS.1;have q1:=hS.2.1;have q2:=hS.2.2.1;have q3:=hS.2.2.2;go_simp;exact zO hK
           refine zS (fun w' hS hV K hK=>?_) ?_
           ·have q0:=hS.1;have q1:=hS.2.1;have q2:=hS.2.2.1;have q3:=hS.2.2.2;go_simp;exact zO hK
           refine zS (fun w' hS hV K hK=>?_) ?_
           ·have q0:=hS.1;have q1:=hS.2.1;have q2:=hS.2.2.1;have q3:=hS.2.2.2;go_simp;exact zO hK
           refine zS (fun w' hS hV K hK=>?_) ?_
           ·have e7:=zQ hV 7;have e8:=zQ hV 8;have q0:=hS.1;have q1:=hS.2.1;have q2:=hS.2.2.1;have q3:=hS.2.2.2;go_simp;exact zO hK
           refine zS (fun w' hS hV K hK=>?_) ?_
           ·have e9:=zQ hV 9;have q0:=hS.1;have q1:=hS.2.1;have q2:=hS.2.2.1;have q3:=hS.2.2.2;go_simp;exact zO hK
           refine zS (fun w' hS hV K hK=>?_) ?_
           ·have q0:=hS.1;have q1:=hS.2.1;have q2:=hS.2.2.1;have q3:=hS.2.2.2;go_simp;exact zO hK
           refine zS (fun w' hS hV K hK=>?_) ?_
           ·have q0:=hS.1;have q1:=hS.2.1;have q2:=hS.2.2.1;have q3:=hS.2.2.2;go_simp;exact zO hK
           refine zS (fun w' hS hV K hK=>?_) ?_
           ·have e11:=zQ hV 11;have e12:=zQ hV 12;have q0:=hS.1;have q1:=hS.2.1;have q2:=hS.2.2.1;have q3:=hS.2.2.2;go_simp;exact zO hK
           refine zS (fun w' hS hV K hK=>?_) ?_
           ·have e13:=zQ hV 13;have q0:=hS.1;have q1:=hS.2.1;have q2:=hS.2.2.1;have q3:=hS.2.2.2;go_simp;exact zO hK
           refine zS (fun w' hS hV K hK=>?_) ?_
           ·have q0:=hS.1;have q1:=hS.2.1;have q2:=hS.2.2.1;have q3:=hS.2.2.2;go_simp;exact zO hK
           refine zS (fun w' hS hV K hK=>?_) ?_
           ·have e14:=zQ hV 14;have e15:=zQ hV 15;have q0:=hS.1;have q1:=hS.2.1;have q2:=hS.2.2.1;have q3:=hS.2.2.2;go_simp;exact zO hK
           refine zS (fun w' hS hV K hK=>?_) ?_
           ·have e16:=zQ hV 16;have q0:=hS.1;have q1:=hS.2.1;have q2:=hS.2.2.1;have q3:=hS.2.2.2;go_simp;exact zO hK
           refine zS (fun w' hS hV K hK=>?_) ?_
           ·have e17:=zQ hV 17;have q0:=hS.1;have q1:=hS.2.1;have q2:=hS.2.2.1;have q3:=hS.2.2.2;go_simp;exact zO hK
           refine zS (fun w' hS hV K hK=>?_) ?_
           ·have e2:=zQ hV 2;have e6:=zQ hV 6;have e10:=zQ hV 10;have e18:=zQ hV 18;have q0:=hS.1;have q1:=hS.2.1;have q2:=hS.2.2.1;have q3:=hS.2.2.2;go_simp;refine (qL p _ m _ _ m _ (-y) _ _ _ hp hp2 hm (Nat.le_refl _) (HRR.out.rd.below hS.2.2.2) HR1.out.2 (HRD.out.rd.below hS.2.2.2) HD1.out.2 (by omega) (by omega)).mono ?_;rintro e v1 ⟨A2,c2,rfl,hM⟩;exact hK.out _ _ _ rfl rfl ⟨_,_,rfl,hM.after hS.2.2.2⟩ hM.b
           refine zS (fun w' hS hV K hK=>?_) ?_
           ·have e0:=zQ hV 0;have e1:=zQ hV 1;have q0:=hS.1;have q1:=hS.2.1;have q2:=hS.2.2.1;have q3:=hS.2.2.2;go_simp;exact zO hK
           refine fun w' hS hV=>?_
           have e0:=zT hV 0
           have e1:=zT hV 1
           have e2:=zT hV 2
           have e3:=zT hV 3
           have e4:=zT hV 4
           have e5:=zT hV 5
           have e6:=zT hV 6
           have e7:=zT hV 7
           have e8:=zT hV 8
           have e9:=zT hV 9
           have e10:=zT hV 10
           have e11:=zT hV 11
           have e12:=zT hV 12
           have e13:=zT hV 13
           have e14:=zT hV 14
           have e15:=zT hV 15
           have e16:=zT hV 16
           have e17:=zT hV 17
           have e18:=zT hV 18
           obtain⟨A19,c19,e19,h19⟩:=hV 19 (by decide)
           have e20:=zT hV 20
           simp only[e0,e1,e2,e3,e4,e5,e6,e7,e8,e9,e10,e11,e12,e13,e14,e15,e16,e17,e18,e19,e20]
           clear e0 e1 e2 e3 e4 e5 e6 e7 e8 e9 e10 e11 e12 e13 e14 e15 e16 e17 e18 e19 e20
           obtain⟨q0,q1,q2,q3⟩:=hS
           have ff:=(HM4.out.below q3).frozen_ r
           refine yK (j:=21) (by kernel_rfl) (Eq.trans (by simp only[zA,zB,zC];exact rfl) rfl) (fun K hK=>?_)
           go_simp
           refine hK.out _ _ (wpAny_done (by kernel_rfl) ?_ _)
           have hM5:=HM4.out.setRow h19 r
           have hM6:MkII w (w'.setCell ⟨g,r,none⟩ (.slice A19 m c19)) (some ⟨g,0,none⟩) n c1 (yS p N dn kn (r+1)):=by
                rw[yd9 p N dn kn r (by rw[HTS.out.2];exact hlr) hrd,HEY.out];exact hM5
           clear q0 q1 q2 q3 ff hM5 h19
           go_wp2
           go_roundw
           case rel=>exact⟨r+1,by omega,by go_num,hM6⟩
           case measure=>simp[intOf];omega
        ·obtain rfl:r=n:=by omega
         have HM4:=Lib.hid hM4
         clear hM4
         go_wp2
         go_roundw
         case rel=>exact⟨dn+1,kn+1,by go_num,by go_num,by omega,by rw[HNEXT.out],by rw[HNEXT.out];exact HM4.out⟩
         case measure=>simp[intOf];omega
      ·have hx0':xe=0:=by simpa using hz
       go_wp2
       go_round
       case rel=>exact⟨j+1,by omega,by omega,by go_num,Lib.hid (by rw[← hj3.out,HPV.out,if_pos (by rw[HE.out];exact hx0')])⟩
       case measure=>simp[intOf];omega
     ·obtain rfl:j=n:=by omega
      have HVP:Hid (yR L kn dn=j):=Lib.hid (by rw[← hj3.out,Nat.sub_self];rfl)
      have HNEXT:Hid (yu p M (kn+1)=(L,dn)):=Lib.hid (by
       rw[HSUC.out];unfold zk;rw[if_pos (by simp only;rw[HVP.out,HL1.out])])
      go_wp2
      go_roundw
      case rel=>exact⟨dn,kn+1,rfl,by go_num,by omega,by rw[HNEXT.out],by rw[HNEXT.out];exact HM.out⟩
      case measure=>simp[intOf];omega
   ·have HBE:Hid (yf p M=L.take dn∧(L.take dn).length=dn):=Lib.hid ⟨by
     by_cases hk2:kn=m
     ·exact HEND.out hk2
     ·exact HFULL.out (by omega),by rw[List.length_take,HL1.out];omega⟩
    by_cases hk3:kn<m
    all_goals go_wp2
    all_goals
     go_ret
     rw[HBE.out.1,HBE.out.2]
     exact⟨_,_,rfl,HM.out.cut hd1⟩
 ·obtain rfl:n=0:=by omega
  obtain rfl:M=[]:=List.eq_nil_of_length_eq_zero hML
  clear hT HT
  have HBN:=Lib.hid (jf p)
  go_enter Tryz.func127,Tryz.ntmps127
  go_wp2_with fail
  refine hclone.mono ?_
  rintro e w1 ⟨A1,c1,rfl,hM1⟩
  clear hclone
  go_wp2
  go_loopw [6,7] (fun d q wr=>d=.int .i64 0∧q=.int .i64 0∧wr=w1) (fun _ _ _=>0)
  case atStart=>exact⟨rfl,rfl,rfl⟩
  case round=>
   obtain⟨rfl,rfl,rfl⟩:=hrel
   rcases hM1 with ⟨rows,hm1,hn1⟩
   have hcap:=hm1.2.cap
   rcases hm1.2.form with ⟨rfl,_⟩ | ⟨g,rfl,_,_⟩
   all_goals
    go_wp2
    go_ret
    rw[HBN.out]
    exact⟨_,_,rfl,rows,hm1,hn1⟩
end Go.Proofs.YtaiegpggccdgoaaGreat
namespace Go.Proofs.YtaiegpggccdgoaaGreat
open Go.RowKit Go.Maps
structure Places {H:Type} (B:List (List Int)) (j:Nat) (D:DataW H):Prop where
 map:IsMap D
 has:∀ k:Nat,Maps.has D (.int .i64 k)=true ↔ ∃ i,i<j∧ld B i=k
 only:∀ z:Lit,Maps.has D z=true → ∃ k:Nat,z=.int .i64 k
 val:∀ i,i<j → ∀ zd,D.atKey (.int .i64 (ld B i)) zd=.lit (.int .i64 i)
theorem Places.start {H:Type} (B:List (List Int)):Places B 0 (.map []:DataW H):=
 ⟨isMap_empty,fun k=>⟨fun h=>by simp[has_eq]at h,fun ⟨i,hi,_⟩=>absurd hi (by omega)⟩,fun z h=>by simp[has_eq]at h,fun i hi=>absurd hi (by omega)⟩
theorem yce {a b:Int} (h:a≠b):Lit.int .i64 a≠Lit.int .i64 b:=fun e=>h (by injection e)
theorem Places.step {H:Type} {n:Nat} {B:List (List Int)} (hR:Red n B) {j:Nat} {D:DataW H} (h:Places B j D) (hj:j<B.length):Places B (j+1) (D.put (.int .i64 (ld B j)) (.lit (.int .i64 j))):=by
 refine⟨h.map.put _ _,fun k=>?_,fun z hz=>?_,fun i hi zd=>?_⟩
 ·by_cases hk:k=ld B j
  ·subst hk
   exact⟨fun _=>⟨j,by omega,rfl⟩,fun _=>has_put_same h.map (show WideAt.IsKeyLit (.int .i64 (ld B j)) from trivial) _⟩
  ·rw[has_put_other (yce (by omega)),h.has k]
   constructor
   ·rintro ⟨i,hi,e⟩;exact⟨i,by omega,e⟩
   ·rintro ⟨i,hi,e⟩
    refine⟨i,?_,e⟩
    by_cases hij:i=j
    ·subst hij;exact absurd e.symm hk
    ·omega
 ·by_cases hk:z=.int .i64 (ld B j)
  ·exact⟨_,hk⟩
  ·rw[has_put_other hk]at hz
   exact h.only z hz
 ·by_cases hij:i=j
  ·subst hij
   exact atKey_put_same h.map (show WideAt.IsKeyLit (.int .i64 (ld B i)) from trivial) _ _
  ·rw[atKey_put_other (yce (fun e=>hij (hR.inj (by omega) hj (by omega))))]
   exact h.val i (by omega) zd
theorem Places.isLd {H:Type} {B:List (List Int)} {D:DataW H} (h:Places B B.length D) (k:Nat):Maps.has D (.int .i64 k)=isLd B k:=by
 cases hh:Maps.has D (.int .i64 k) with
 | true=>exact (z9.2 ((h.has k).1 hh)).symm
 | false=>
  cases hi:Proofs.YtaiegpggccdgoaaGreat.isLd B k with
  | false=>rfl
  | true=>rw[(h.has k).2 (z9.1 hi)]at hh;cases hh
theorem ycy {H:Type} {P:Program} {k:TypeId} {R:Value→Option (DataW H × List MemPlace)} {w w':World} {b n X:Nat} {D:DataW H} (h:w.ownsMap P k R b n D) (hb:Below X w w') (hX:b<X):w'.ownsMap P k R b n D:=by
 obtain⟨es,clock,e,r⟩:=h
 exact⟨es,clock,(hb.block b hX).trans e,r⟩
theorem ydI {w w':World} {row:Option Nat} {X:Nat} {a:World} (h:Below X a w) (hg:w.grownBy w' row) (hX:X≤w.heap.size) (hr:∀ k,row=some k→X≤k):Below X a w':=h.grown hg hX (fun k hk=>hr k hk)
theorem uK:Keyed Tryz.prog 3:=int_keyed Tryz.underlying3
theorem yhc (a b:Int):(Lit.int .i64 a).sameKey (.int .i64 b)=(a == b):=by
 rw[Bool.eq_iff_iff]
 simp[Lit.sameKey]
theorem ydj (w:World):(zeroValue 3).run Tryz.prog w=.ok (.int .i64 0) w:=by kernel_rfl
set_option maxHeartbeats 6400000 in
set_option maxRecDepth 8000 in
theorem yfu (p:Int) (A:Option Addr) (r0 c:Nat) (M:List (List Int)) (n:Nat) (w:World) (HP:isP p=true) (hr0:r0≤65536) (hn:n≤65536) (ha:RdII w A r0 M) (hT:Tab p n M) :
 Calls Tryz.prog 95 #[.int .i64 p,.slice A r0 c,.int .i64 n] w fun e w'=>∃ A' c',e=.returned (.slice A' (yI p M n).length c')∧MkII w w' A' (yI p M n).length c' (yI p M n):=by
 obtain⟨hp3,hp2⟩:=yk HP
 have hp:2≤p:=by omega
 have hbas:=jg p A r0 c M n w HP hr0 hn ha hT
 have hred:=xz HP M hT
 have htab:=vO (p:=p) (by omega) M hT
 have HKL:Hid (yI p M n=yf p (y5 p (yf p M) n n)):=Lib.hid rfl
 have hdl:=hred.len
 obtain⟨B,hB⟩:∃ B,B=yf p M:=⟨_,rfl⟩
 rw[← hB]at hbas hred htab hdl HKL
 have HRED:=Lib.hid hred
 have HTAB:=Lib.hid htab
 have HP':=Lib.hid HP
 obtain⟨d,hd⟩:∃ d,d=B.length:=⟨_,rfl⟩
 rw[← hd]at hbas hdl
 have HD:=Lib.hid hd
 clear hB hT ha hred htab HP hd
 have hmm:=@run_makeMap Tryz.prog
 go_enter Tryz.func95,Tryz.ntmps95
 go_wp2_with fail
 refine hbas.mono ?_
 rintro e w1 ⟨A1,c1,rfl,hM1⟩
 clear hbas
 go_wp2
 obtain⟨b,hb⟩:∃ b,b=w1.heap.size:=⟨_,rfl⟩
 obtain⟨w2,hw2⟩:∃ W,W=w1.alloc (.map #[] 0):=⟨_,rfl⟩
 have hown0:w2.ownsMap (H:=Unit) Tryz.prog 3 (plainElem Tryz.prog 3) b 0 (.map []):=by rw[hw2,hb];exact World.ownsMap_made _ _ _ _
 have hB0:Below b w1 w2:=by rw[hw2,hb];exact zG.alloc (Nat.le_refl _) _
 have hsz2:w2.heap.size=b+1:=by rw[hw2,hb];simp
 have hbsz:b≤w2.heap.size:=by omega
 rw[← hw2]
 try rw[← hb]
 clear hw2 hmm
 have HM1:=Lib.hid hM1
 have HBB:=Lib.hid hb
 clear hM1 hb
 go_loopw [9,10,24] (fun _ _ i wr=>∃ (j:Nat) (D:DataW Unit),j≤d∧i=.int .i64 j∧wr.ownsMap Tryz.prog 3 (plainElem Tryz.prog 3) b j D∧Hid (Places B j D)∧Below b w1 wr∧b<wr.heap.size) (fun _ _ i _=>d-(intOf i).toNat)
 case atStart=>exact⟨0,_,by omega,rfl,hown0,Lib.hid (Places.start B),hB0,by omega⟩
 case round=>
  obtain⟨j,D,hj,rfl,hown,hpl,hBl,hbl⟩:=hrel
  clear hown0 hB0 hsz2 hbsz
  by_cases hlj:j<d
  ·obtain⟨g,o,rfl,hxj,Aj,cj,hcj,hrj, -⟩:=(HM1.out.rd.below (by rw[← HBB.out];exact hBl)).at_ hlj
   have HRJ:=Lib.hid (HTAB.out B[j] (List.getElem_mem hxj))
   have hl:=HRJ.out.1
   rw[hl]at hcj hrj
   have HLD:Hid (yn B[j]=ld B j):=Lib.hid (by unfold ld;rw[yc [] hxj])
   have hld:=HRED.out.lt j hxj
   have hlead:=fun w' (h:Rd w' Aj n (ints B[j]))=>yb9 Aj n cj B[j] w' (by omega) h
   rw[HLD.out]at hlead
   have HPL:Hid (Places B (j+1) (D.put (.int .i64 (ld B j)) (.lit (.int .i64 j)))):=Lib.hid (hpl.out.step HRED.out hxj)
   obtain⟨l,hl'⟩:∃ l,l=ld B j:=⟨_,rfl⟩
   rw[← hl']at hlead HPL hld
   clear hl hl' HLD
   go_wp2_with (first
    | (go_at_call 139;refine (hlead _ hrj).mono ?_;rintro e w' ⟨rfl,rfl⟩)
    | (at_mapUpdate;refine wpList_mapUpdate_own _ rfl _ _ _ 145 rfl 3 3 uK Tryz.underlying145 _ b j _ rfl hown (by unfold maxLen;omega) _ _ _ rfl rfl (keyOf_int_mk Tryz.underlying3 (WalkArith.wf_i64 (by omega))) _ [] (plainElem_int Tryz.underlying3 (WalkArith.wf_i64 (by omega))) ?_;intro w3 hown3 hgrow3))
   go_roundw
   case rel=>exact⟨j+1,_,by omega,by go_num,hown3,HPL,ydI hBl hgrow3 (by omega) (fun k hk=>by injection hk with hk;omega),by have:=hgrow3.size;omega⟩
   case measure=>simp[intOf];omega
  ·obtain rfl:j=d:=by omega
   have HPL:Hid (Places B B.length D):=Lib.hid (by rw[← HD.out];exact hpl.out)
   have hM0:MkII wr (wr.alloc (.cells #[] 24)) (some ⟨wr.heap.size,0,none⟩) 0 0 (y5 p B n 0):=MkII.empty zG
   obtain⟨wb,hwb⟩:∃ W,W=wr:=⟨_,rfl⟩
   rw[← hwb]at hM0 hown hBl hbl ⊢
   clear hwb hpl
   have hmk:=xE (P:=Tryz.prog) 24 2 Tryz.underlying24 yo n (by omega)
   go_wp2
   obtain⟨w4,hw4⟩:∃ W,W=wb.alloc (.cells #[] 24):=⟨_,rfl⟩
   rw[← hw4]at hM0 ⊢
   clear hw4
   go_loopw [11,36] (fun out i wr=>∃ (f q:Nat) (A':Option Addr) (c':Nat),f≤n∧q≤f∧i=.int .i64 f∧out=.slice A' q c'∧MkII wb wr A' q c' (y5 p B n f)) (fun _ i _=>n-(intOf i).toNat)
   case atStart=>exact⟨0,0,_,_,by omega,by omega,rfl,rfl,hM0⟩
   case round=>
    obtain⟨f,q,A',c',hf,hq,rfl,rfl,hM⟩:=hrel
    clear hM0
    obtain⟨wo,rfl⟩:∃ W,W=wr:=⟨_,rfl⟩
    have hsz:=hM.b.size
    have hownO:=ycy hown hM.b hbl
    have hisl:=HPL.out.isLd f
    have HM:=Lib.hid hM
    clear hM
    by_cases hlf:f<n
    ·cases hlb:isLd B f
     ·rw[hlb]at hisl
      have HIS:=Lib.hid hisl
      have hm1:=Mk.made (E:=2) (n:=n) (z:=.int .i64 0) (Below.refl wo.heap.size wo) (by simp only[maxLen];omega)
      rw[xj]at hm1
      obtain⟨u1,hc1⟩:=hm1.2.cellI hlf
      have hf1:=hm1.2.frozen_ f
      have hm2:=(hm1.set f (.int .i64 1)).1
      rw[yN,World.setCell_alloc_at _ _ _ _ _ rfl]at hm2
      have HM2:=Lib.hid hm2
      have HOWN:=Lib.hid (ycy hown (HM.out.b.trans (hm2.b.mono HM.out.b.size)) hbl)
      clear hm1 hm2 hisl
      go_wp2_with (first
       | (at_lookup;refine wpList_lookup_own_ok_int _ rfl _ _ 145 rfl 3 3 .i64 uK Tryz.underlying145 Tryz.underlying3 (ydj _) b j D rfl hownO _ _ rfl (keyOf_int_mk Tryz.underlying3 (WalkArith.wf_i64 (by omega))) ?_;intro cv hat hwc;rw[HIS.out];clear hat hwc)
       | (at_range;refine wpList_range_own _ rfl _ 145 rfl 3 3 uK Tryz.underlying145 _ b j D rfl HOWN.out ?_;intro w0 hrg0 hg0 hs0))
      go_frame
      have e1:w0.heap.size=wo.heap.size+1+1:=by rw[hs0];simp
      rw[show ∀ o:Obj,(wo.alloc o).heap.size=wo.heap.size+1 from fun o=>by simp]at hrg0 ⊢
      have hm3:MkI wo w0 (some ⟨wo.heap.size,0,none⟩) n n (ye n f):=⟨HM2.out.1.grown hg0 HM2.out.1.size (fun k hk=>by cases hk),HM2.out.2.grown hg0 (.inr (by simp[Value.ownBlock]))⟩
      clear hg0 hs0 HM2 HOWN hc1 hf1 hownO
      go_loopw [16] (fun _ wr=>∃ (left:Lit→Bool) (cnt:Nat),wr.ranges Tryz.prog 3 (plainElem Tryz.prog 3) b (wo.heap.size+1) j D left cnt∧MkI wo wr (some ⟨wo.heap.size,0,none⟩) n n (y4 p B n f (fun k=>left (.int .i64 k)))∧Hid (∀ z,left z=true→Maps.has D z=true)) (fun _ wr=>wr.rangeLeft b (wo.heap.size+1))
      case atStart=>exact⟨_,_,hrg0,by rw[ybu p B n f hlf _ (fun k _ hk=>by rw[HPL.out.isLd];exact hk)];exact hm3,Lib.hid (fun _ h=>h)⟩
      case round=>
       obtain⟨left,cnt,hrg,hmv,hsub⟩:=hrel
       clear hrg0 hm3 e1
       go_wp2_with (at_next;refine wpList_next_ranges_ii _ rfl _ rfl 3 3 .i64 .i64 uK Tryz.underlying3 Tryz.underlying3 b (wo.heap.size+1) j _ _ _ rfl hrg ?_ ?_)
       ·intro hc0 hl0
        have hfin:y4 p B n f (fun k=>left (.int .i64 k))=za p B n f:=qp p B n f (fun k _=>hl0 _)
        rw[hfin]at hmv
        have HMV:=Lib.hid hmv
        clear hmv hfin hl0
        go_wp2_with (at_builtin;refine vw wb wo _ rfl _ _ rfl A' q c' _ _ n n _ HM.out HMV.out (by omega) rfl ?_ ?_;(go_simp);intro A6 c6 w6 hM6)
        go_roundw
        case rel=>exact⟨f+1,q+1,A6,c6,by omega,by omega,by go_num,rfl,by rw[ybC hlb];exact hM6⟩
        case measure=>simp[intOf];omega
       ·intro x cv w7 cnt1 hwx hwc hlx hat hrg1 hlt hg1 hs1 hen
        obtain⟨kx,hkx⟩:=HPL.out.only _ (hsub.out _ hlx)
        obtain⟨i,hi,hik⟩:=(HPL.out.has kx).1 (by rw[← hkx];exact hsub.out _ hlx)
        have hxi:x=((ld B i:Nat):Int):=by injection hkx with _ hkx;rw[hkx,hik]
        have hcv:cv=(i:Int):=by
         have h1:=HPL.out.val i hi (.lit (.int .i64 0))
         have h2:=hat (.lit (.int .i64 0))
         rw[hxi,h1]at h2
         injection h2 with h2
         injection h2 with _ h2
         exact h2.symm
        have hb7:Below w1.heap.size w1 w7:=by
         have h1:Below b wb wo:=HM.out.b.mono (by omega)
         have h2:Below b wo wr:=hmv.b.mono (by omega)
         have h3:=((hBl.trans h1).trans h2).grown hg1 (by have:=hmv.b.size;omega) (fun k hk=>by injection hk with hk;omega)
         rw[← HBB.out];exact h3
        have hmv7:MkI wo w7 (some ⟨wo.heap.size,0,none⟩) n n (y4 p B n f (fun k=>left (.int .i64 k))):=⟨hmv.1.grown hg1 hmv.1.size (fun k hk=>by injection hk with hk;omega),hmv.2.grown hg1 (.inr (by simp[Value.ownBlock]))⟩
        obtain⟨g,o,rfl,hxl,Ai,ci,hci,hri, -⟩:=(HM1.out.rd.below hb7).at_ (show i<j by rw[HD.out];exact hi)
        have HRI:=Lib.hid (HTAB.out B[i] (List.getElem_mem hxl))
        have hl:=HRI.out.1
        rw[hl]at hci hri
        obtain⟨gi,oi,rfl,hxe,hce⟩:=hri.int hlf
        have HE:Hid (ent B i f=B[i][f]):=Lib.hid (ybf hxl hxe)
        obtain⟨y,hy⟩:∃ y,y=B[i][f]:=⟨_,rfl⟩
        have hyb:0≤y∧y<p:=hy▸HRI.out.2 _ (List.getElem_mem hxe)
        rw[← hy]at hce HE
        have hld:=HRED.out.lt i hi
        have hij:i<j:=by rw[HD.out];exact hi
        obtain⟨hoc,hof⟩:=zp hmv7 hld
        have HSET:=Lib.hid (hmv7.set (ld B i) (.int .i64 ((-y)%p)))
        have HST:Hid ((y4 p B n f (fun k=>left (.int .i64 k))).set (ld B i) ((-y)%p)=y4 p B n f (fun k=>left (.int .i64 k) && !(k == ld B i))):=Lib.hid (by rw[← HE.out];exact ybv HRED.out hi hlb _)
        have hmb:=ybe (-y) p (by omega)
        have HRG:=Lib.hid hrg
        have HRG1:=Lib.hid hrg1
        have HSUB:=Lib.hid hsub
        subst hxi
        subst hcv
        have hwy:=jT (x:=-y) (by omega) (by omega)
        obtain⟨l,hl'⟩:∃ l,l=ld B i:=⟨_,rfl⟩
        rw[← hl']at hoc hof HSET HST HRG1 hen hld ⊢
        clear hl hl' hy hri HRI hxl hxe hat hkx hik hlx hwx hwc hmv7 hb7 hmv hsub hrg hrg1 hg1 hs1
        go_wp2_with (go_at_call 86;refine (zN p (-y) _ (by omega) hp2 (by omega) (by omega)).mono ?_;rintro e w' ⟨rfl,rfl⟩)
        go_roundw
        case rel=>
         have hs:=HSET.out.1
         rw[yN,HST.out]at hs
         refine⟨_,cnt1,HRG1.out.kept HSET.out.2 (fun e=>by have:=Option.some.inj e;omega) (fun e=>by have:=Option.some.inj e;omega),?_,Lib.hid (fun z hz=>HSUB.out.out z (by simp only[Bool.and_eq_true]at hz;exact hz.1))⟩
         refine (qp p B n f (fun k _=>?_))▸hs
         show (left (.int .i64 k) && !(k == l))=(left (.int .i64 k) && !(Lit.int .i64 (k:Int)).sameKey (.int .i64 (l:Int)))
         have e:(k == l)=((k:Int) == (l:Int)):=by
          rw[Bool.eq_iff_iff,beq_iff_eq,beq_iff_eq]
          constructor<;>intro h<;>omega
         rw[yhc,e]
        case measure=>rw[(HRG1.out.kept HSET.out.2 (fun e=>by have:=Option.some.inj e;omega) (fun e=>by have:=Option.some.inj e;omega)).left_eq,HRG.out.left_eq];exact hlt
     ·rw[hlb]at hisl
      have HIS:=Lib.hid hisl
      clear hisl
      go_wp2_with (at_lookup;refine wpList_lookup_own_ok_int _ rfl _ _ 145 rfl 3 3 .i64 uK Tryz.underlying145 Tryz.underlying3 (ydj _) b j D rfl hownO _ _ rfl (keyOf_int_mk Tryz.underlying3 (WalkArith.wf_i64 (by omega))) ?_;intro cv hat hwc;rw[HIS.out];clear hat hwc)
      go_roundw
      case rel=>exact⟨f+1,q,A',c',by omega,by omega,by go_num,rfl,by rw[ybA hlb];exact HM.out⟩
      case measure=>simp[intOf];omega
    ·obtain rfl:f=n:=by omega
     have hlast:=jg p A' q c' (y5 p B f f) f wo HP'.out (by omega) hn HM.out.rd (uE hp B f f)
     have hbw:Below w.heap.size w wo:=by
      have h1:Below w1.heap.size w1 wb:=HBB.out▸hBl
      exact (HM1.out.b.trans (h1.mono HM1.out.b.size)).trans (HM.out.b.mono (by have:=HM1.out.b.size;have:=h1.size;omega))
     go_wp2_with fail
     refine hlast.mono ?_
     rintro e w5 ⟨A5,c5,rfl,hM5⟩
     go_wp2
     go_ret
     rw[HKL.out]
     exact⟨_,_,rfl,hM5.after hbw⟩
end Go.Proofs.YtaiegpggccdgoaaGreat
namespace Go.Proofs.YtaiegpggccdgoaaGreat
open Go.RowKit
theorem yb5 {B:List (List Int)} {k i:Nat} (h:xn B k=some i):i<B.length∧ld B i=k:=by
 unfold xn at h
 exact⟨by simpa using List.mem_of_find?_eq_some h,by simpa using List.find?_some h⟩
def zY (B:List (List Int)) (j k:Nat):Bool:=match xn B k with | some i=>decide (j≤i) | none=>false
theorem yf2 {n:Nat} {B:List (List Int)} (hR:Red n B) {k:Nat} (h:isLd B k=true):zY B 0 k=true:=by
 obtain⟨i,hi,rfl⟩:=z9.1 h
 unfold zY
 rw[j7 hR hi]
 simp
theorem yf1 {n:Nat} {B:List (List Int)} (hR:Red n B) {j:Nat} (hj:j<B.length) (k:Nat):(zY B j k && !(k == ld B j))=zY B (j+1) k:=by
 unfold zY
 cases h:xn B k with
 | none=>rfl
 | some i=>
  obtain⟨hi,hk⟩:=yb5 h
  by_cases hij:i=j
  ·subst hij
   simp[hk]
  ·have hne:¬ k=ld B j:=fun e=>hij (hR.inj hi hj (hk.trans e))
   have:(k == ld B j)=false:=by simpa using hne
   simp only[this,Bool.not_false,Bool.and_true]
   rw[Bool.eq_iff_iff,decide_eq_true_eq,decide_eq_true_eq]
   omega
theorem yf0 {B:List (List Int)} (k:Nat):zY B B.length k=false:=by
 unfold zY
 cases h:xn B k with
 | none=>rfl
 | some i=>
  have:=(yb5 h).1
  simp only[decide_eq_false_iff_not]
  omega
theorem yfZ (B:List (List Int)) (k:Nat):(tab B.length fun i=>((ld B i:Nat):Int)).contains (k:Int)=isLd B k:=by
 rw[Bool.eq_iff_iff,List.contains_iff_mem,z9]
 constructor
 ·intro h
  obtain⟨i,hi,e⟩:=ui h
  exact⟨i,hi,by omega⟩
 ·rintro ⟨i,hi,rfl⟩
  unfold tab
  exact List.mem_map.2 ⟨i,by simpa using hi,rfl⟩
set_option maxHeartbeats 400000 in
set_option maxRecDepth 8000 in
theorem yfx (A:Option Addr) (n c:Nat) (xs:List Int) (v:Int) (w:World) (hn:n≤1099511627776) (ha:Rd w A n (ints xs)) :
 Calls Tryz.prog 158 #[.slice A n c,.int .i64 v] w fun e w'=>∃ r:Int,e=.returned (.int .i64 r)∧decide (0≤r)=xs.contains v∧w=w':=by
 have hxl:xs.length=n:=by have:=ha.1;rwa [yD]at this
 have Hx:=Lib.hid hxl;clear hxl
 go_enter Tryz.func158,Tryz.ntmps158
 go_wp2
 go_loop [5] (fun i=>∃ k:Nat,k≤n∧i=.int .i64 k∧(xs.take k).contains v=false) (fun i=>n-(intOf i).toNat)
 case atStart=>exact⟨0,by omega,rfl,by simp⟩
 case round=>
  obtain⟨k,hk,rfl,ht⟩:=hrel
  have H:=Lib.hid ht;clear ht
  by_cases hlt:k<n
  ·obtain⟨g,o,rfl,hx,hcx⟩:=ha.int hlt
   clear ha
   cases hi:(xs[k] == v)
   all_goals
    have HI:=Lib.hid hi
    go_wp2
   ·go_round
    case rel=>
     refine⟨k+1,by omega,by go_num,?_⟩
     rw[List.take_succ_eq_append_getElem hx,List.contains_eq_any_beq,List.any_append,← List.contains_eq_any_beq,H.out]
     have:=HI.out
     simp only[beq_eq_false_iff_ne,ne_eq]at this
     simp only[List.any_cons,List.any_nil,Bool.or_false,Bool.false_or,beq_eq_false_iff_ne,ne_eq]
     exact fun e=>this e.symm
    case measure=>simp[intOf];omega
   ·go_ret
    refine⟨_,rfl,?_,rfl⟩
    have hv:xs[k]=v:=by simpa using HI.out
    have:xs.contains v=true:=by rw[List.contains_iff_mem,← hv];exact List.getElem_mem hx
    simpa using this
  ·go_wp2
   go_ret
   refine⟨_,rfl,?_,rfl⟩
   have:=H.out
   rw[List.take_of_length_le (by rw[Hx.out];omega)]at this
   simpa using this
set_option maxHeartbeats 400000 in
set_option maxRecDepth 8000 in
theorem yfv (A:Option Addr) (n c:Nat) (xs:List Int) (v:Int) (w:World) (hn:n≤1099511627776) (ha:Rd w A n (ints xs)) :
 Calls Tryz.prog 147 #[.slice A n c,.int .i64 v] w fun e w'=>e=.returned (.bool (xs.contains v))∧w=w':=by
 go_enter Tryz.func147,Tryz.ntmps147
 go_wp2_with fail
 refine (yfx _ _ _ _ _ _ hn ha).mono ?_
 rintro e w1 ⟨r,rfl,hr,rfl⟩
 have HR:=Lib.hid hr;clear hr
 go_wp2
 go_ret
 exact⟨yJ HR.out,rfl⟩
theorem ybQ {b:Bool} (A:Option Addr) (n c:Nat) (xs:List Int) (v:Int) (w:World) (hn:n≤1099511627776) (ha:Rd w A n (ints xs)) (h:xs.contains v=b) :
 Calls Tryz.prog 147 #[.slice A n c,.int .i64 v] w fun e w'=>e=.returned (.bool b)∧w=w':=h▸yfv A n c xs v w hn ha
set_option maxHeartbeats 1600000 in
set_option maxRecDepth 8000 in
theorem yda (p:Int) (A:Option Addr) (n c:Nat) (M:List (List Int)) (m:Nat) (w:World) (h0:0<n) (hn:n≤65536) (hm:m≤65536) (ha:RdII w A n M) (hT:Tab p m M) :
 Calls Tryz.prog 109 #[.slice A n c] w fun e w'=>∃ A' c',e=.returned (.slice A' m c')∧MkII w w' A' m c' (zt M):=by
 have hML:=ha.len
 have HTL:Hid (zt M=tab m fun k=>tab n fun i=>ent M i k):=Lib.hid (by unfold zt;rw[(hT.row (show 0<M.length by omega)).1,hML])
 have HT:=Lib.hid hT
 have HML:=Lib.hid hML
 have hM0:MkII w (w.alloc (.cells #[] 24)) (some ⟨w.heap.size,0,none⟩) 0 0 []:=MkII.empty zG
 obtain⟨g,o,rfl,hx0,A0,c0,hcx0,_,_⟩:=(ha.below hM0.b).at_ h0
 have hl0:M[0].length=m:=(HT.out M[0] (List.getElem_mem hx0)).1
 rw[hl0,Nat.add_zero]at hcx0
 clear hT hML hl0
 go_enter Tryz.func109,Tryz.ntmps109
 go_wp2
 clear hcx0
 obtain⟨w1,hw1⟩:∃ W,W=w.alloc (.cells #[] 24):=⟨_,rfl⟩
 rw[← hw1]at hM0 ⊢
 clear hw1
 go_loopw [3,12] (fun out i wr=>∃ (k:Nat) (A':Option Addr) (c':Nat),k≤m∧i=.int .i64 k∧out=.slice A' k c'∧MkII w wr A' k c' (tab k fun k=>tab n fun i=>ent M i k)) (fun _ i _=>m-(intOf i).toNat)
 case atStart=>exact⟨0,_,_,by omega,rfl,rfl,by simpa [tab] using hM0⟩
 case round=>
  obtain⟨k,A',c',hk,rfl,rfl,hM⟩:=hrel
  clear hM0
  obtain⟨wo,rfl⟩:∃ W,W=wr:=⟨_,rfl⟩
  by_cases hlt:k<m
  ·have hr0:=Mk.lit (E:=2) (Below.refl wo.heap.size wo) #[] (by simp)
   have hR0:MkI wo (wo.alloc (.cells #[] 2)) (some ⟨wo.heap.size,0,none⟩) 0 0 []:=by simpa [MkI,ints] using hr0
   have HM:=Lib.hid hM
   clear hr0 hM
   go_wp2
   go_loopw [5,18] (fun row i w2=>∃ (j:Nat) (A2:Option Addr) (c2:Nat),j≤n∧i=.int .i64 j∧row=.slice A2 j c2∧MkI wo w2 A2 j c2 (tab j fun i=>ent M i k)) (fun _ i _=>n-(intOf i).toNat)
   case atStart=>exact⟨0,_,_,by omega,rfl,rfl,by simpa [tab] using hR0⟩
   case round=>
    obtain⟨j,A2,c2,hj,rfl,rfl,hR⟩:=hrel
    clear hR0
    have HR:=Lib.hid hR
    by_cases hlj:j<n
    ·have hbb:=HM.out.b.trans (hR.b.mono HM.out.b.size)
     obtain⟨g',o',e',hxj,A3,c3,hcx,hr3,_⟩:=(ha.below hbb).at_ hlj
     injection e' with e';injection e' with e1 e2 _
     subst e1;subst e2
     have hl3:M[j].length=m:=(HT.out M[j] (List.getElem_mem hxj)).1
     rw[hl3]at hcx hr3
     obtain⟨g3,o3,rfl,hx3,hc3⟩:=hr3.int hlt
     have HV:Hid ((tab (j+1) fun i=>ent M i k)=(tab j fun i=>ent M i k)++[M[j][k]]):=Lib.hid (by rw[yQ,ql hxj hx3])
     clear hR hr3 hl3 hbb ha
     go_wp2_with (at_builtin;refine yt wo _ 24 2 _ _ Tryz.underlying24 yo rfl (by omega) rfl _ _ rfl A2 j c2 _ _ HR.out (by omega) rfl rfl rfl ?_;intro A4 c4 w4 hM4 _ _)
     go_roundw
     case rel=>exact⟨j+1,A4,c4,by omega,by go_num,rfl,by rw[HV.out];simpa [MkI,ints] using hM4⟩
     case measure=>simp[intOf];omega
    ·obtain rfl:j=n:=by omega
     clear hR ha
     go_wp2_with (at_builtin;refine vw w wo _ rfl _ _ rfl A' k c' _ A2 j c2 _ HM.out HR.out (by omega) rfl ?_ ?_;(go_simp);intro A4 c4 w4 hM4)
     go_roundw
     case rel=>exact⟨k+1,A4,c4,by omega,by go_num,rfl,by rw[yQ];exact hM4⟩
     case measure=>simp[intOf];omega
  ·go_wp2
   go_ret
   obtain rfl:k=m:=by omega
   exact⟨_,_,rfl,by rw[HTL.out];exact hM⟩
def VNew (w0:World) (n:Nat) (L:List Int):VP:=⟨fun v w=>∃ g A c,v=.slice (some ⟨g,0,none⟩) 1 1∧Blk w g 24 #[.slice A n c]∧MkI w0 w A n c L,fun _ _ _ ⟨g,A,c,e,b,h⟩ hb=>⟨g,A,c,e,b.below hb b.lt,h.below hb⟩⟩
theorem q9 {o:Oper} {a:Act} {K:Act→World→Prop} {Q:Exit→Act→World→Prop} (w0 wr w1:World)
 (s x:Operand) (ho:o.op=.call { callee:=.builtin .append,args:=#[s,x],argTypes:=#[32,32] })
 (A:Option Addr) (n c:Nat) (xss:List (List Int)) (A1:Option Addr) (m c1:Nat) (xs:List Int) (hM:MkII w0 wr A n c xss) (hr:Mk wr w1 2 A1 m c1 (ints xs)) (hn:n≤1099511627776) (g:Nat) (hB:Blk w1 g 24 #[.slice A1 m c1])
 (hs:a.eval s=.slice A n c) (hx:a.eval x=.slice (some ⟨g,0,none⟩) 1 1)
 (h:∀ A' c' w',MkII w0 w' A' (n+1) c' (xss++[xs])→w1.grownBy w' (Value.slice A n c).ownBlock→(∃ g,A'=some ⟨g,0,none⟩∧((Value.slice A n c).ownBlock=some g∨w1.heap.size≤g))→K (a.put o.dst (.slice A' (n+1) c')) w'):o.wp Tryz.prog a w1 K Q:=by
 obtain⟨rows,hm,hnest⟩:=hM
 have hm1:=hm.below hr.1
 have hn1:=hnest.snoc hr hm.1.size
 obtain⟨i,hi,h1,h2,h3⟩:=info_parts zy
 obtain⟨b1,b2⟩:=xh hn
 refine wp_append_lies w1 s x 32 ho w0.heap.size 24 i (.slice none 0 0) 1 24 Tryz.underlying32 hi h1 h2 h3 rfl (by omega) (.slice A n c) n rows hs hm1.2 ⟨g,0,none⟩ 1 1 [.slice A1 m c1] hx rfl (fun j v hv=>?_)
  (by intro v hv;simp at hv;rw[hv];rfl) (by omega) b1 (b2 _ (by omega)) hm1.1.size _ rfl (fun g' cap w' hown hg hat _=>h _ _ _ ⟨_,⟨hm1.1.grown hg hm1.1.size (fun k hk=>(hm1.2.lt k hk).1),hown⟩,hn1.grown hm1.2 (by decide) hg⟩ hg ⟨g',rfl,hat.imp id (fun e=>by omega)⟩)
 match j,hv with
 | 0,hv=>simp at hv;subst hv;rw[Addr.add_lit];exact hB.cell 0
end Go.Proofs.YtaiegpggccdgoaaGreat
namespace Go.Proofs.YtaiegpggccdgoaaGreat
theorem ybL {p a:Int} (hP:isP p=true) (h:a%p≠0):a*invF p (a%p)%p=1:=by
 have h3:=(yk hP).1
 have h1:=Int.emod_nonneg a (show p≠0 by omega)
 have h2:=Int.emod_lt_of_pos a (show 0<p by omega)
 have hs:=vU hP (show 0<a%p by omega) h2
 have:=(hs.2.2 (invF p (a%p)) (by omega) hs.2.1).2 rfl
 rw[Int.mul_emod,Int.emod_emod_of_dvd _ (Int.dvd_refl p)]at this
 rw[Int.mul_emod]
 exact this
section
variable {p:Int} {sq:List Int}
end
theorem ygA {α:Type} [BEq α] [LawfulBEq α] (all:List α) (hn:all.Nodup) (L:α→α) (hin:∀ x∈all,L x∈all) (hinj:∀ x∈all,∀ y∈all,L x=L y→x=y) {y:α} (hy:y∈all):∃ x∈all,L x=y:=by
 by_cases h:∃ x∈all,L x=y
 ·exact h
 ·exfalso
  have hsub:all.map L ⊆ all.erase y:=fun z hz=>by
   obtain⟨x,hx,rfl⟩:=List.mem_map.1 hz
   exact (List.mem_erase_of_ne fun e=>h ⟨x,hx,e⟩).2 (hin x hx)
  have hnd:(all.map L).Nodup:=List.pairwise_map.2 (List.Pairwise.imp_of_mem (fun ha hb hne e=>hne (hinj _ ha _ hb e)) hn)
  have h1:=hnd.length_le_of_subset hsub
  rw[List.length_map,List.length_erase_of_mem hy]at h1
  have:=List.length_pos_of_mem hy
  omega
section
variable {p:Int} {sq:List Int}
def Cl.sum (hp:0<p):Nat→(Nat→Cl p sq)→Cl p sq
 | 0,_=>Cl.zero hp
 | n+1,f=>Cl.sum hp n f+f n
end
end Go.Proofs.YtaiegpggccdgoaaGreat
namespace Go.Proofs.YtaiegpggccdgoaaGreat
open Go.RowKit
def OwnII (w:World) (B:Nat) (A:Option Addr) (n c:Nat) (xss:List (List Int)):Prop:=∃ rows,Own w B 24 A n c rows∧Nest w B rows xss
theorem MkII.own {w0 w:World} {A:Option Addr} {n c:Nat} {xss:List (List Int)} (h:MkII w0 w A n c xss):OwnII w w0.heap.size A n c xss:=by
 obtain⟨rows,h1,h2⟩:=h
 exact⟨rows,h1.2,h2⟩
section
variable {w w':World} {B B':Nat} {A:Option Addr} {n c:Nat} {xss:List (List Int)}
theorem OwnII.len (h:OwnII w B A n c xss):xss.length=n:=by
 obtain⟨rows,h1,h2⟩:=h
 rw[← h2.len]
 exact h1.len
theorem OwnII.rd (h:OwnII w B A n c xss):RdII w A n xss:=by
 obtain⟨rows,hm,hn⟩:=h
 exact⟨rows,hm.rd,hn.len,fun k hk=>by obtain⟨A',c',e,ho⟩:=hn.row k hk;exact⟨A',c',e,ho.rd,ho.cap⟩⟩
theorem OwnII.below (h:OwnII w B A n c xss) (hb:Below w.heap.size w w'):OwnII w' B A n c xss:=by
 obtain⟨rows,hm,hn⟩:=h
 exact⟨rows,hm.below hb,hn.below hb⟩
end
theorem Blk.newAt3 {w:World} {t:TypeId} {cs:Array Value} {g:Nat} (hg:g=w.heap.size):Blk (w.alloc (.cells cs t)) g t cs:=hg▸Blk.new w t cs
theorem RdII.nil (w:World) (A:Option Addr):RdII w A 0 []:=⟨[],Rd.nil w A,rfl,fun k h=>absurd h (by simp)⟩
end Go.Proofs.YtaiegpggccdgoaaGreat
namespace Go.Proofs.YtaiegpggccdgoaaGreat
def Ind (p:Int) (n:Nat) (L:List (List Int)):Prop:=∀ c:Nat→Int,(∀ q,q<n→(ya L.length fun i=>c i*ent L i q)%p=0) → ∀ i,i<L.length→c i%p=0
section
variable {p:Int} {n:Nat}
theorem Red.ind {B:List (List Int)} (hR:Red n B):Ind p n B:=fun c hc i hi=>by
 have h:=hc _ (hR.lt i hi)
 rwa [yF (f:=fun j=>c j*ent B j (ld B i)) i hi (fun j hj hne=>by rw[hR.zero i j hi hj hne,Int.mul_zero]),hR.one i hi,Int.mul_one]at h
theorem Red.fills {B:List (List Int)} (hR:Red n B) {N:Nat} (h:∀ f,f<N→isLd B f=true):N≤B.length:=by
 have key:∀ f,f<N → ∃ i,i<B.length∧ld B i=f∧f≤i:=by
  intro f
  induction f with
  | zero=>intro h0;obtain⟨i,hi,e⟩:=z9.1 (h 0 h0);exact⟨i,hi,e,Nat.zero_le _⟩
  | succ f ih=>
   intro hf
   obtain⟨i,hi,e,hle⟩:=ih (by omega)
   obtain⟨j,hj,e2⟩:=z9.1 (h (f+1) hf)
   refine⟨j,hj,e2,?_⟩
   rcases Nat.lt_trichotomy i j with hl | hl | hl
   ·omega
   ·subst hl;omega
   ·have:=hR.mono j i hl hi;omega
 rcases Nat.eq_zero_or_pos N with rfl | hN
 ·exact Nat.zero_le _
 ·obtain⟨i,hi, -,hle⟩:=key (N-1) (by omega)
  omega
theorem Ind.le (hP:isP p=true) {L M:List (List Int)} (hI:Ind p n L) (hS:InSp p n L M):L.length≤M.length:=by
 have hp:2≤p:=by have:=yk hP;omega
 refine Classical.byContradiction fun hlt=>?_
 have hch:∀ i,∃ a:Nat→Int,i<L.length → ∀ q,q<n→ent L i q%p=(ya M.length fun j=>a j*ent M j q)%p:=fun i=>by
  by_cases hi:i<L.length
  ·obtain⟨a,ha⟩:=hS i hi;exact⟨a,fun _=>ha⟩
  ·exact⟨fun _=>0,fun h=>absurd h hi⟩
 obtain⟨a,ha⟩:=Classical.axiomOfChoice hch
 obtain⟨A,hA⟩:∃ A:List (List Int),A=tab M.length fun j=>tab L.length fun i=>a i j%p:=⟨_,rfl⟩
 have hAl:A.length=M.length:=by rw[hA,yG]
 have hAT:Tab p L.length A:=by
  rw[hA]
  exact Tab.tab fun j _=>⟨yG _ _,NumsL.tab fun i _=>⟨Int.emod_nonneg _ (by omega),Int.emod_lt_of_pos _ (by omega)⟩⟩
 have hAe:∀ j i,j<M.length→i<L.length→ent A j i=a i j%p:=fun j i hj hi=>by
  unfold ent;rw[hA,yC hj,yC hi]
 have hR:=xz hP A hAT
 have hRl:=(yaO (p:=p) (by omega) A hAT).2
 have hf:∃ f,f<L.length∧isLd (yf p A) f=false:=Classical.byContradiction fun hno=>by
  have:=hR.fills (N:=L.length) fun f hf=>by
   cases e:isLd (yf p A) f
   ·exact absurd ⟨f,hf,e⟩ hno
   ·rfl
  omega
 obtain⟨f,hf,hfl⟩:=hf
 have ho:=(yby (p:=p) hR hf hfl).of_in (vN hP A hAT).2
 obtain⟨c,hc⟩:∃ c:Nat→Int,c=fun q=>(za p (yf p A) L.length f).getD q 0:=⟨_,rfl⟩
 have h0:=hI c (fun q hq=>by
  have e1:(ya L.length fun i=>c i*ent L i q)%p=(ya L.length fun i=>c i*ya M.length fun j=>a i j*ent M j q)%p:=yW p fun i hi=>z7 rfl (ha i hi q hq)
  rw[e1,yw (g:=fun i=>ya M.length fun j=>c i*(a i j*ent M j q)) fun i _=>(y7 _ _ _).symm,vt]
  refine (yW p (g:=fun _=>0) fun j hj=>?_).trans (by rw[zl fun _ _=>rfl];rfl)
  have h1:=ho j (by omega)
  have e2:(ya L.length fun i=>c i*(a i j*ent M j q))=ent M j q*ya L.length fun i=>a i j*c i:=by
   rw[← y7];exact yw fun i _=>by rw[← Int.mul_assoc,Int.mul_comm (ent M j q),Int.mul_comm (c i)]
  rw[e2]
  have e3:(ya L.length fun i=>a i j*c i)%p=(ya L.length fun q=>ent A j q*(za p (yf p A) L.length f).getD q 0)%p:=yW p fun i hi=>by
   rw[hAe j i hj hi,hc];exact z7 (yM _ _).symm rfl
  exact (z7 rfl (e3.trans h1)).trans (by rw[Int.mul_zero])) f hf
 rw[hc]at h0
 simp only[jN (p:=p) (B:=yf p A) hf]at h0
 rw[Int.emod_eq_of_lt (by omega) (by omega)]at h0
 exact absurd h0 (by decide)
theorem Ind.same (hP:isP p=true) {L M:List (List Int)} (hL:Ind p n L) (hM:Ind p n M) (h1:InSp p n L M) (h2:InSp p n M L):L.length=M.length:=
 Nat.le_antisymm (hL.le hP h1) (hM.le hP h2)
end
def fEv:List (Nat × Int)→(Nat→Int)→Int
 | [],_=>0
 | e::l,μ=>e.2*μ e.1+fEv l μ
def fCo (y:Nat):List (Nat × Int)→Int
 | []=>0
 | e::l=>(if e.1=y then e.2 else 0)+fCo y l
theorem yhK {M y:Nat} (hy:y<M) (c:Int) (μ:Nat→Int):(ya M fun q=>(if y=q then c else 0)*μ q)=c*μ y:=by
 rw[yF y hy fun q _ hne=>by rw[if_neg (fun e=>hne e.symm),Int.zero_mul],if_pos rfl]
theorem ybp {M:Nat} (μ:Nat→Int):∀ l:List (Nat × Int),(∀ e,e∈l→e.1<M)→fEv l μ=ya M fun y=>fCo y l*μ y
 | [],_=>by
  show 0=_
  rw[zl fun y _=>by show (0:Int)*μ y=0;exact Int.zero_mul _]
 | e::l,h=>by
  show e.2*μ e.1+fEv l μ=_
  rw[ybp μ l fun x hx=>h x (List.mem_cons_of_mem e hx),← yhK (h e (List.mem_cons_self ..)) e.2 μ,← z5]
  refine yw fun y _=>?_
  show _=((if e.1=y then e.2 else 0)+fCo y l)*μ y
  rw[Int.add_mul]
theorem ybo (μ:Nat→Int):∀ a b:List (Nat × Int),fEv (a++b) μ=fEv a μ+fEv b μ
 | [],b=>by show fEv b μ=0+_;rw[Int.zero_add]
 | e::a,b=>by
  show e.2*μ e.1+fEv (a++b) μ=_
  rw[ybo μ a b,← Int.add_assoc];rfl
theorem ybr (μ:Nat→Int) (c:Int):∀ a:List (Nat × Int),fEv (a.map fun e=>(e.1,c*e.2)) μ=c*fEv a μ
 | []=>by show (0:Int)=c*0;rw[Int.mul_zero]
 | e::a=>by
  show c*e.2*μ e.1+fEv (a.map fun e=>(e.1,c*e.2)) μ=c*(e.2*μ e.1+fEv a μ)
  rw[ybr μ c a,Int.mul_add,Int.mul_assoc]
def cmbE (E:List (List (Nat × Int))):List (Int × Nat)→List (Nat × Int)
 | []=>[]
 | (c,i)::r=>(E.getD i []).map (fun e=>(e.1,c*e.2))++cmbE E r
theorem yaX {M:Nat} {E:List (List (Nat × Int))} (h:∀ l,l∈E → ∀ e,e∈l→e.1<M):∀ r,∀ e,e∈cmbE E r→e.1<M
 | [],e,he=>absurd he (by simp[cmbE])
 | (c,i)::r,e,he=>by
  unfold cmbE at he
  rcases List.mem_append.1 he with he | he
  ·obtain⟨x,hx,rfl⟩:=List.mem_map.1 he
   by_cases hi:i<E.length
   ·have e1:E.getD i []=E[i]:=by rw[List.getD_eq_getElem?_getD,List.getElem?_eq_getElem hi];rfl
    rw[e1]at hx
    exact h _ (List.getElem_mem hi) x hx
   ·have e1:E.getD i []=[]:=by rw[List.getD_eq_getElem?_getD,List.getElem?_eq_none (by omega)];rfl
    rw[e1]at hx
    exact absurd hx (by simp)
  ·exact yaX h r e he
theorem yaW {p:Int} {E:List (List (Nat × Int))} {μ:Nat→Int} (h:∀ l,l∈E→p∣fEv l μ):∀ r,p∣fEv (cmbE E r) μ
 | []=>Int.dvd_zero p
 | (c,i)::r=>by
  unfold cmbE
  rw[ybo,ybr]
  refine Int.dvd_add (Int.dvd_mul_of_dvd_right ?_) (yaW h r)
  by_cases hi:i<E.length
  ·have e1:E.getD i []=E[i]:=by rw[List.getD_eq_getElem?_getD,List.getElem?_eq_getElem hi];rfl
   rw[e1];exact h _ (List.getElem_mem hi)
  ·have e1:E.getD i []=[]:=by rw[List.getD_eq_getElem?_getD,List.getElem?_eq_none (by omega)];rfl
   rw[e1];exact Int.dvd_zero p
def vV (c:Int):Bool:=c == 1 || c == 2 || c == 4 || c == 8
def inB (E:List (List (Nat × Int))) (M:Nat):Bool:=E.all fun l=>l.all fun e=>decide (e.1<M)
def chkE (E:List (List (Nat × Int))) (M:Nat) (free:List Nat) (certs:List (List (Int × Nat))):Bool:=
 inB E M && (List.range M).all fun x=>free.contains x || (vV (fCo x (cmbE E (certs.getD x []))) && (List.range M).all fun y=>y == x || free.contains y || fCo y (cmbE E (certs.getD x [])) == 0)
theorem uT {p:Int} (hP:isP p=true) {c u:Int} (hu:u%p≠0) (h:c*u%p=0):c%p=0:=by
 have h1:=ybL hP hu
 have hp:=yk hP
 have e:c*(u*invF p (u%p))%p=c%p:=by rw[Int.mul_emod,h1,Int.mul_one,Int.emod_emod_of_dvd _ (Int.dvd_refl p)]
 rw[← Int.mul_assoc,Int.mul_emod,h,Int.zero_mul,Int.zero_emod]at e
 exact e.symm
theorem yhI (p:Int) (D:Nat) (f:Nat→Int) (h:∀ j,j<D→f j%p=0):ya D f%p=0:=by
 have e:=yW p (n:=D) (f:=f) (g:=fun _=>0) fun j hj=>by rw[h j hj,Int.zero_emod]
 rw[e,zl fun _ _=>rfl,Int.zero_emod]
theorem yhH (n:Nat) (e v:Nat→Int) (D:Nat) (c:Nat→Int) (b:Nat→Nat→Int):(ya n fun q=>e q*(v q + -1*(ya D fun j=>c j*b j q)))=(ya n fun q=>e q*v q) + -1*(ya D fun j=>c j*(ya n fun q=>e q*b j q)):=by
 have e1:(ya n fun q=>e q*(v q + -1*(ya D fun j=>c j*b j q)))=ya n fun q=>e q*v q + -1*(ya D fun j=>c j*(e q*b j q)):=yw fun q _=>by
  rw[Int.mul_add]
  congr 1
  rw[show e q*(-1*(ya D fun j=>c j*b j q)) = -1*(e q*(ya D fun j=>c j*b j q)) by rw[← Int.mul_assoc,Int.mul_comm (e q) (-1),Int.mul_assoc],← y7]
  congr 1
  exact yw fun j _=>by rw[← Int.mul_assoc,Int.mul_comm (e q),Int.mul_assoc]
 rw[e1,z5,y7,vt]
 congr 2
 exact yw fun j _=>by rw[y7]
theorem ydd {p:Int} (hP:isP p=true) {c a:Int} (hc:vV c=true) (h:p∣c*a):p∣a:=by
 have h2:∀ b:Int,p∣2*b→p∣b:=fun b hb=>by
  have hp:=yk hP
  refine Int.dvd_of_emod_eq_zero (uT hP (u:=2) (by rw[Int.emod_eq_of_lt (by omega) (by omega)];decide) ?_)
  rw[Int.mul_comm];exact Int.emod_eq_zero_of_dvd hb
 unfold vV at hc
 simp only[Bool.or_eq_true,beq_iff_eq]at hc
 rcases hc with ((rfl | rfl) | rfl) | rfl
 ·rwa [Int.one_mul]at h
 ·exact h2 _ h
 ·exact h2 _ (h2 _ (by rw[← Int.mul_assoc];exact h))
 ·exact h2 _ (h2 _ (h2 _ (by rw[← Int.mul_assoc,← Int.mul_assoc];exact h)))
theorem ybd {p:Int} (hP:isP p=true) {E:List (List (Nat × Int))} {M:Nat} {free:List Nat} {certs:List (List (Int × Nat))} (h:chkE E M free certs=true) {μ:Nat→Int} (hE:∀ l,l∈E→p∣fEv l μ) (hF:∀ f,f∈free→p∣μ f) {x:Nat} (hx:x<M):p∣μ x:=by
 unfold chkE at h
 rw[Bool.and_eq_true,List.all_eq_true]at h
 obtain⟨hB,hC⟩:=h
 have hB':∀ l,l∈E → ∀ e,e∈l→e.1<M:=fun l hl e he=>by
  unfold inB at hB
  rw[List.all_eq_true]at hB
  have:=hB l hl
  rw[List.all_eq_true]at this
  exact of_decide_eq_true (this e he)
 have hx2:=hC x (List.mem_range.2 hx)
 rw[Bool.or_eq_true,Bool.and_eq_true,List.all_eq_true]at hx2
 rcases hx2 with h1 | ⟨h1,h2⟩
 ·exact hF x (by simpa using h1)
 ·have hd:=yaW hE (certs.getD x [])
  rw[ybp μ _ (yaX hB' _)]at hd
  refine ydd hP h1 ?_
  have e:(ya M fun y=>fCo y (cmbE E (certs.getD x []))*μ y)%p=fCo x (cmbE E (certs.getD x []))*μ x%p:=by
   have e2:(ya M fun y=>if y=x then fCo x (cmbE E (certs.getD x []))*μ x else 0)=fCo x (cmbE E (certs.getD x []))*μ x:=by
    rw[yF x hx fun q _ hne=>if_neg hne,if_pos rfl]
   rw[← e2]
   refine yW p fun y hy=>?_
   by_cases hyx:y=x
   ·rw[if_pos hyx,hyx]
   ·rw[if_neg hyx]
    have h3:=h2 y (List.mem_range.2 hy)
    rw[Bool.or_eq_true,Bool.or_eq_true]at h3
    rcases h3 with (h3 | h3) | h3
    ·exact absurd (by simpa using h3) hyx
    ·rw[Int.zero_emod]
     exact Int.emod_eq_zero_of_dvd (Int.dvd_mul_of_dvd_right (hF y (by simpa using h3)))
    ·rw[show fCo y (cmbE E (certs.getD x []))=0 by simpa using h3,Int.zero_mul]
  exact Int.dvd_of_emod_eq_zero (e.symm.trans (Int.emod_eq_zero_of_dvd hd))
theorem yet {p:Int} (hP:isP p=true) {n D:Nat} {m:List (List Int)} (hT:Tab p n m) (fp:Nat→Nat) (u:Nat→Int) (b:Nat→Nat→Int) (hf:∀ j,j<D→fp j<n) (hb:∀ j,j<D→Orth p n m (b j))
 (hd:∀ i j,i<D→j<D→b j (fp i)%p=if i=j then u i%p else 0) (hu:∀ j,j<D→u j%p≠0)
 (hz:∀ v:Nat→Int,Orth p n m v→(∀ j,j<D→v (fp j)%p=0) → ∀ q,q<n→v q%p=0):(yI p m n).length=D:=by
 have hp:=yk hP
 let M:List (List Int):=(List.range D).map fun j=>tab n fun q=>b j q%p
 have hML:M.length=D:=by simp[M]
 have hent:∀ j q,j<D→q<n→ent M j q=b j q%p:=fun j q hj hq=>by
  unfold ent
  have:M.getD j []=tab n fun q=>b j q%p:=by simp[M,List.getD_eq_getElem?_getD,hj]
  rw[this,yC hq]
 have hI:Ind p n M:=fun c hc i hi=>by
  rw[hML]at hi
  have h1:=hc (fp i) (hf i hi)
  rw[hML]at h1
  have h2:(ya D fun j=>c j*ent M j (fp i))%p=c i*u i%p:=by
   have e2:(ya D fun j=>if j=i then c i*u i else 0)=c i*u i:=by rw[yF i hi fun q _ hne=>if_neg hne,if_pos rfl]
   rw[← e2]
   refine yW p fun j hj=>?_
   rw[hent j (fp i) hj (hf i hi),Int.mul_emod,Int.emod_emod_of_dvd _ (Int.dvd_refl p),hd i j hi hj]
   by_cases hij:j=i
   ·subst hij;rw[if_pos rfl,if_pos rfl,Int.mul_emod (c j) (u j)]
   ·rw[if_neg (fun e=>hij e.symm),if_neg hij,Int.mul_zero]
  rw[h2]at h1
  exact uT hP (hu i hi) h1
 have hS1:InSp p n M (yI p m n):=fun j hj=>by
  rw[hML]at hj
  exact (vq hP hT).2 ((hb j hj).congr fun q hq=>by rw[hent j q hj hq,Int.emod_emod_of_dvd _ (Int.dvd_refl p)])
 have hS2:InSp p n (yI p m n) M:=fun r hr=>by
  have hv:Orth p n m fun q=>ent (yI p m n) r q:=(vq hP hT).1 (Sp.row hr)
  let v:Nat→Int:=fun q=>ent (yI p m n) r q
  let c:Nat→Int:=fun j=>v (fp j)*invF p (u j%p)
  have hw:Orth p n m fun q=>v q + -1*(ya D fun j=>c j*b j q):=fun i hi=>by
   have e1:(ya n fun q=>ent m i q*(v q + -1*(ya D fun j=>c j*b j q)))=(ya n fun q=>ent m i q*v q) + -1*(ya D fun j=>c j*(ya n fun q=>ent m i q*b j q)):=by
    rw[yhH n (fun q=>ent m i q) v D c b]
   rw[e1,Int.add_emod,hv i hi,Int.mul_emod,yhI p D (fun j=>c j*(ya n fun q=>ent m i q*b j q)) fun j hj=>by rw[Int.mul_emod,hb j hj i hi,Int.mul_zero,Int.zero_emod]]
   rw[Int.mul_zero,Int.zero_emod,Int.add_zero,Int.zero_emod]
  have hw0:=hz _ hw fun i hi=>by
   have e1:(ya D fun j=>c j*b j (fp i))%p=v (fp i)%p:=by
    have e2:(ya D fun j=>if j=i then c i*u i else 0)=c i*u i:=by rw[yF i hi fun q _ hne=>if_neg hne,if_pos rfl]
    have e3:(ya D fun j=>c j*b j (fp i))%p=c i*u i%p:=by
     rw[← e2]
     refine yW p fun j hj=>?_
     rw[Int.mul_emod,hd i j hi hj]
     by_cases hij:j=i
     ·subst hij;rw[if_pos rfl,if_pos rfl,← Int.mul_emod]
     ·rw[if_neg (fun e=>hij e.symm),if_neg hij,Int.mul_zero]
    rw[e3,show c i*u i=v (fp i)*(u i*invF p (u i%p)) by show v (fp i)*invF p (u i%p)*u i=_;rw[Int.mul_assoc,Int.mul_comm (invF p (u i%p))],Int.mul_emod,ybL hP (hu i hi),Int.mul_one,Int.emod_emod_of_dvd _ (Int.dvd_refl p)]
   rw[Int.add_emod,Int.mul_emod,e1,← Int.mul_emod,← Int.add_emod,show v (fp i) + -1*v (fp i)=0 by omega,Int.zero_emod]
  refine⟨c,fun q hq=>?_⟩
  rw[hML]
  have e1:(ya D fun j=>c j*ent M j q)%p=(ya D fun j=>c j*b j q)%p:=yW p fun j hj=>by
   rw[hent j q hj hq,Int.mul_emod,Int.emod_emod_of_dvd _ (Int.dvd_refl p),← Int.mul_emod]
  rw[e1]
  have:=hw0 q hq
  have h2:(v q-ya D fun j=>c j*b j q)%p=0:=by rw[show v q-(ya D fun j=>c j*b j q)=v q + -1*(ya D fun j=>c j*b j q) by omega];exact this
  exact Int.emod_eq_emod_iff_emod_sub_eq_zero.2 h2
 rw[← hML]
 exact Ind.same hP (uI hP m n).ind hI hS2 hS1
theorem jF {μ ν:Nat→Int}:∀ {l:List (Nat × Int)},(∀ e,e∈l→μ e.1=ν e.1)→fEv l μ=fEv l ν
 | [],_=>rfl
 | e::l,h=>by
  show e.2*μ e.1+fEv l μ=e.2*ν e.1+fEv l ν
  rw[h e (List.mem_cons_self ..),jF fun x hx=>h x (List.mem_cons_of_mem e hx)]
theorem ybq (c:Int) (μ:Nat→Int):∀ l:List (Nat × Int),fEv l (fun y=>c*μ y)=c*fEv l μ
 | []=>by show (0:Int)=c*0;rw[Int.mul_zero]
 | e::l=>by
  show e.2*(c*μ e.1)+fEv l (fun y=>c*μ y)=c*(e.2*μ e.1+fEv l μ)
  rw[ybq c μ l,Int.mul_add,← Int.mul_assoc,← Int.mul_assoc,Int.mul_comm e.2 c]
theorem ybs:∀ l:List (Nat × Int),fEv l (fun _=>0)=0
 | []=>rfl
 | e::l=>by
  show e.2*0+fEv l (fun _=>0)=0
  rw[ybs l,Int.mul_zero];rfl
def tH (T:List (Nat × Nat × List Int)) (j:Nat):Nat:=(T.getD j (0,0,[])).1
def tF (T:List (Nat × Nat × List Int)) (j:Nat):Nat:=(T.getD j (0,0,[])).2.1
def tS (T:List (Nat × Nat × List Int)) (j:Nat):Nat→Int:=fun y=>(T.getD j (0,0,[])).2.2.getD y 0
def jL (T:List (Nat × Nat × List Int)) (h:Nat):List Nat:=(T.filter fun t=>t.1 == h).map fun t=>t.2.1
def chkG (E:Nat→List (List (Nat × Int))) (N M:Nat) (T:List (Nat × Nat × List Int)) (certs:List (List (List (Int × Nat)))):Bool:=
 ((List.range N).all fun h=>chkE (E h) M (jL T h) (certs.getD h [])) && (List.range T.length).all fun j=>decide (tH T j<N) && decide (tF T j<M) && vV (tS T j (tF T j)) && ((E (tH T j)).all fun l=>fEv l (tS T j) == 0) && (List.range T.length).all fun i=>i == j || tH T i != tH T j || tS T j (tF T i) == 0
theorem ygI {p:Int} (hP:isP p=true) {c:Int} (h:vV c=true):c%p≠0:=fun e=>by
 have hp:=yk hP
 have h1:p∣c*1:=by rw[Int.mul_one];exact Int.dvd_of_emod_eq_zero e
 have:=Int.le_of_dvd (by omega) (ydd hP h h1)
 omega
theorem yav {p:Int} (hP:isP p=true) {a b:Int} (ha:a%p≠0) (hb:b%p≠0):a*b%p≠0:=fun e=>ha (uT hP hb e)
theorem ye2 {p:Int} (hP:isP p=true) {n N M:Nat} {m:List (List Int)} (hT:Tab p n m) (pos:Nat→Nat→Nat) (hh yy:Nat→Nat) (sc sc':Nat→Nat→Int) (S:Int) (hS:S%p≠0) (E:Nat→List (List (Nat × Int))) (T:List (Nat × Nat × List Int)) (certs:List (List (List (Int × Nat))))
 (h1:∀ q,q<n→hh q<N∧yy q<M∧pos (hh q) (yy q)=q) (h2:∀ h y,h<N→y<M→pos h y<n∧hh (pos h y)=h∧yy (pos h y)=y)
 (h3:∀ h y,h<N→y<M→sc h y*sc' h y=S)
 (h4:∀ v:Nat→Int,Orth p n m v ↔ ∀ h,h<N → ∀ l,l∈E h→p∣fEv l fun y=>v (pos h y)*sc' h y)
 (hc:chkG E N M T certs=true):(yI p m n).length=T.length:=by
 have hp:=yk hP
 unfold chkG at hc
 rw[Bool.and_eq_true,List.all_eq_true,List.all_eq_true]at hc
 obtain⟨hc1,hc2⟩:=hc
 have hc1:∀ h,h<N→chkE (E h) M (jL T h) (certs.getD h [])=true:=fun h hh=>hc1 h (List.mem_range.2 hh)
 have hc2:∀ j,j<T.length→tH T j<N∧tF T j<M∧vV (tS T j (tF T j))=true∧(∀ l,l∈E (tH T j)→fEv l (tS T j)=0) ∧ ∀ i,i<T.length→i≠j→tH T i=tH T j→tS T j (tF T i)=0:=fun j hj=>by
  have h:=hc2 j (List.mem_range.2 hj)
  simp only[Bool.and_eq_true,decide_eq_true_eq,List.all_eq_true,beq_iff_eq,List.mem_range,Bool.or_eq_true,bne_iff_ne]at h
  obtain⟨⟨⟨⟨a,b⟩,c⟩,d⟩,e⟩:=h
  exact⟨a,b,c,d,fun i hi hne hij=>by rcases e i hi with (e1 | e1) | e1;exact absurd e1 hne;exact absurd hij e1;exact e1⟩
 have hsc:∀ h y,h<N→y<M→sc h y%p≠0∧sc' h y%p≠0:=fun h y hh hy=>⟨fun e=>hS (by rw[← h3 h y hh hy,Int.mul_emod,e,Int.zero_mul,Int.zero_emod]),fun e=>hS (by rw[← h3 h y hh hy,Int.mul_emod,e,Int.mul_zero,Int.zero_emod])⟩
 have hB:∀ l,l∈[0]→True:=fun _ _=>trivial
 have hlt:∀ h,h<N → ∀ l,l∈E h → ∀ e,e∈l→e.1<M:=fun h hh l hl e he=>by
  have h0:=hc1 h hh
  unfold chkE at h0
  rw[Bool.and_eq_true]at h0
  have h5:=h0.1
  unfold inB at h5
  rw[List.all_eq_true]at h5
  have h6:=h5 l hl
  rw[List.all_eq_true]at h6
  exact of_decide_eq_true (h6 e he)
 refine yet hP hT (fun j=>pos (tH T j) (tF T j)) (fun j=>sc (tH T j) (tF T j)*tS T j (tF T j)) (fun j q=>if hh q=tH T j then sc (tH T j) (yy q)*tS T j (yy q) else 0) ?_ ?_ ?_ ?_ ?_
 ·intro j hj
  exact (h2 _ _ (hc2 j hj).1 (hc2 j hj).2.1).1
 ·intro j hj
  obtain⟨a,b,c,d,e⟩:=hc2 j hj
  refine (h4 _).2 fun h hh1 l hl=>?_
  by_cases hj2:h=tH T j
  ·subst hj2
   have e1:(fEv l fun y=>(if hh (pos (tH T j) y)=tH T j then sc (tH T j) (yy (pos (tH T j) y))*tS T j (yy (pos (tH T j) y)) else 0)*sc' (tH T j) y)=fEv l fun y=>S*tS T j y:=jF fun x hx=>by
    have hxm:=hlt _ hh1 l hl x hx
    obtain⟨-,e2,e3⟩:=h2 _ _ hh1 hxm
    rw[e2,e3,if_pos rfl,← h3 _ _ hh1 hxm,Int.mul_assoc,Int.mul_assoc,Int.mul_comm (tS T j x.1)]
   rw[e1,ybq,d l hl,Int.mul_zero]
   exact Int.dvd_zero p
  ·have e1:(fEv l fun y=>(if hh (pos h y)=tH T j then sc (tH T j) (yy (pos h y))*tS T j (yy (pos h y)) else 0)*sc' h y)=fEv l fun _=>0:=jF fun x hx=>by
    have hxm:=hlt _ hh1 l hl x hx
    obtain⟨-,e2,e3⟩:=h2 _ _ hh1 hxm
    rw[e2,if_neg hj2,Int.zero_mul]
   rw[e1,ybs]
   exact Int.dvd_zero p
 ·intro i j hi hj
  obtain⟨a,b,c,d,e⟩:=hc2 j hj
  obtain⟨a',b',c',d',e'⟩:=hc2 i hi
  obtain⟨-,e2,e3⟩:=h2 _ _ a' b'
  rw[e2,e3]
  by_cases hij:i=j
  ·subst hij;rw[if_pos rfl,if_pos rfl]
  ·rw[if_neg hij]
   by_cases hh1:tH T i=tH T j
   ·rw[if_pos hh1,e i hi hij hh1,Int.mul_zero,Int.zero_emod]
   ·rw[if_neg hh1,Int.zero_emod]
 ·intro j hj
  obtain⟨a,b,c,d,e⟩:=hc2 j hj
  exact yav hP (hsc _ _ a b).1 (ygI hP c)
 ·intro v hv hz q hq
  obtain⟨a,b,c⟩:=h1 q hq
  have hE:=(h4 v).1 hv (hh q) a
  have h5:=ybd hP (hc1 _ a) hE (fun f hf=>by
   unfold jL at hf
   obtain⟨t,ht,rfl⟩:=List.mem_map.1 hf
   rw[List.mem_filter]at ht
   obtain⟨ht1,ht2⟩:=ht
   obtain⟨j,hj,rfl⟩:=List.getElem_of_mem ht1
   have hz1:=hz j hj
   have e1:T.getD j (0,0,[])=T[j]:=by rw[List.getD_eq_getElem?_getD,List.getElem?_eq_getElem hj];rfl
   unfold tH tF at hz1
   rw[e1]at hz1
   rw[beq_iff_eq]at ht2
   rw[ht2]at hz1
   refine Int.dvd_of_emod_eq_zero ?_
   rw[Int.mul_emod,hz1,Int.zero_mul,Int.zero_emod]) b
  rw[c]at h5
  exact uT hP (hsc _ _ a b).2 (Int.emod_eq_zero_of_dvd h5)
section
variable {p:Int} {sq:List Int}
instance:Std.Associative (α:=Cl p sq) (· + ·):=⟨Cl.add_assoc⟩
instance:Std.Commutative (α:=Cl p sq) (· + ·):=⟨Cl.add_comm⟩
end
section
variable {p:Int} {sq:List Int}
def Cl.at_ (hp:0<p) (m:Nat):Cl p sq:=Cl.of hp fun q=>if q=m then 1 else 0
end
abbrev zs (n:Nat):List Int:=List.replicate n 0
section
variable {p:Int} {n:Nat}
end
section
variable {p:Int} {n:Nat}
theorem ygj {a b:List (List Int)} (ha:Tab p n a) (hb:Tab p n b) (h:a.length=b.length) (he:∀ i q,i<a.length→q<n→ent a i q=ent b i q):a=b:=by
 refine yU [] h fun i hi=>?_
 have h1:=ha.row hi
 have h2:=hb.row (show i<b.length by omega)
 refine yU 0 (by rw[h1.1,h2.1]) fun q hq=>?_
 rw[h1.1]at hq
 exact he i q hi hq
end
structure Mt (p:Int) (n:Nat) where
 l:List (List Int)
 len:l.length=n
 tab:Tab p n l
 pos:0<p
section
variable {p:Int} {n:Nat}
def Mt.at (x:Mt p n) (i j:Nat):Int:=ent x.l i j
theorem Mt.ext {x y:Mt p n} (h:x.l=y.l):x=y:=by
 cases x;cases y;simp only at h;subst h;rfl
theorem Mt.small (x:Mt p n) (i j:Nat):0≤x.at i j∧x.at i j<p:=x.tab.ent x.pos i j
theorem Mt.same {x y:Mt p n} (h:∀ i j,i<n→j<n→x.at i j%p=y.at i j%p):x=y:=Mt.ext (ygj x.tab y.tab (x.len.trans y.len.symm) fun i q hi hq=>by
 rw[x.len]at hi
 exact uu (x.small i q) (y.small i q) (h i q hi hq))
def Mt.of (hp:0<p) (f:Nat→Nat→Int):Mt p n:=⟨Go.Proofs.YtaiegpggccdgoaaGreat.tab n fun i=>Go.Proofs.YtaiegpggccdgoaaGreat.tab n fun j=>f i j%p,yG _ _,Tab.tab fun i _=>⟨yG _ _,NumsL.tab fun j _=>⟨Int.emod_nonneg _ (by omega),Int.emod_lt_of_pos _ hp⟩⟩,hp⟩
theorem Mt.of_at (hp:0<p) (f:Nat→Nat→Int) {i j:Nat} (hi:i<n) (hj:j<n):(Mt.of hp f:Mt p n).at i j=f i j%p:=by
 show ((Go.Proofs.YtaiegpggccdgoaaGreat.tab n fun i=>Go.Proofs.YtaiegpggccdgoaaGreat.tab n fun j=>f i j%p).getD i []).getD j 0=_
 rw[yC hi,yC hj]
theorem Mt.of_cg (hp:0<p) (f:Nat→Nat→Int) {i j:Nat} (hi:i<n) (hj:j<n):(Mt.of hp f:Mt p n).at i j%p=f i j%p:=by rw[Mt.of_at hp f hi hj,yM]
instance:Mul (Mt p n):=⟨fun x y=>Mt.of x.pos fun i j=>ya n fun k=>x.at i k*y.at k j⟩
instance:Add (Mt p n):=⟨fun x y=>Mt.of x.pos fun i j=>x.at i j+y.at i j⟩
instance:HMul Int (Mt p n) (Mt p n):=⟨fun k x=>Mt.of x.pos fun i j=>k*x.at i j⟩
def Mt.one (hp:0<p):Mt p n:=Mt.of hp fun i j=>if i=j then 1 else 0
theorem Mt.add_at (x y:Mt p n) {i j:Nat} (hi:i<n) (hj:j<n):(x+y).at i j%p=(x.at i j+y.at i j)%p:=Mt.of_cg x.pos _ hi hj
theorem Mt.add_comm (x y:Mt p n):x+y=y+x:=Mt.same fun i j hi hj=>by rw[Mt.add_at _ _ hi hj,Mt.add_at _ _ hi hj,Int.add_comm]
theorem Mt.add_assoc (x y z:Mt p n):x+y+z=x+(y+z):=Mt.same fun i j hi hj=>by
 rw[Mt.add_at _ _ hi hj,Mt.add_at _ _ hi hj,zo (Mt.add_at x y hi hj) rfl,zo (rfl:x.at i j%p=x.at i j%p) (Mt.add_at y z hi hj),Int.add_assoc]
end
section
variable {p:Int} {n:Nat}
instance:Std.Associative (α:=Mt p n) (· + ·):=⟨Mt.add_assoc⟩
instance:Std.Commutative (α:=Mt p n) (· + ·):=⟨Mt.add_comm⟩
end
end Go.Proofs.YtaiegpggccdgoaaGreat
namespace Go.Proofs.YtaiegpggccdgoaaGreat
open Go.RowKit
section
variable {P:Program}
theorem yaz {ops:Array Oper} {rest:List Oper} {o:Oper} {a:Act} {Q:Exit→Act→World→Prop} (w0 wr:World)
 (hgd:o.guard=none) (s x:Operand) (ho:o.op=.call { callee:=.builtin .append,args:=#[s,x],argTypes:=#[24,24] })
 (A:Option Addr) (n c:Nat) (xs:List Int) (B:Option Addr) (m d:Nat) (ys:List Int) (hM:MkI w0 wr A n c xs) (hY:Rd wr B m (ints ys)) (h0:0<m) (hn:n≤65536) (hm:m≤65536)
 (hs:a.eval s=.slice A n c) (hx:a.eval x=.slice B m d)
 (h:∀ A' c' w',MkI w0 w' A' (n+m) c' (xs++ys)→wr.grownBy w' (Value.slice A n c).ownBlock→wpList Tryz.prog ops Q rest (a.put o.dst (.slice A' (n+m) c')) w') :
 wpList Tryz.prog ops Q (o::rest) a wr:=by
 obtain⟨i,hi,h1,h2,h3⟩:=info_parts yo
 obtain⟨b1,b2⟩:=xh (show n+m≤1099511627776 by omega)
 have hyl:ys.length=m:=by have:=hY.1;rwa [yD]at this
 obtain⟨g,o',rfl,hc⟩:=hY.2 h0
 refine wpList_append_own_at wr hgd s x 24 ho w0.heap.size 2 i _ 1 8 Tryz.underlying24 hi h1 h2 h3 rfl (by omega) (.slice A n c) n (ints xs) hs hM.2 ⟨g,o',none⟩ m d (ints ys) hx (by rw[yD,hyl,Nat.mul_one]) (fun j u hu=>by rw[Addr.add_lit];exact hc j u hu) (by intro u hu;obtain⟨y,_,rfl⟩:=List.mem_map.1 hu;rfl) (by simp only[maxLen];omega) (by have:=b2 8 (by omega);omega) hM.1.size ?_
 intro v' w' hown hg _ _
 have hb':Below w0.heap.size w0 w':=hM.1.grown hg hM.1.size (fun k hk=>(hM.2.lt k hk).1)
 have e:ints xs++ints ys=ints (xs++ys):=by unfold ints;rw[List.map_append]
 rw[e]at hown
 rcases hown.2 with ⟨_,h0⟩ | ⟨g,cap,cur,rfl,hr⟩
 ·omega
 ·exact h _ _ _ ⟨hb',hown⟩ hg
end
set_option maxHeartbeats 800000 in
set_option maxRecDepth 8000 in
theorem ye4 (n:Nat) (w:World) (h0:0<n) (hn:n≤65536) :
 Calls Tryz.prog 138 #[.slice none 0 0,.int .i64 n] w fun e w'=>∃ A c,e=.returned (.slice A 0 c)∧MkI w w' A 0 c []:=by
 obtain⟨i,hi,h1,h2,h3⟩:=info_parts yo
 have hrz:=fun ty=>Lib.run_append_nil_zeros (P:=Tryz.prog) w 24 3 ty 2 i (.int .i64 0) .i64 .i64 Tryz.underlying24 Tryz.underlying3 hi h1 n h0 (by omega) (by omega) (by rw[h3];omega)
 have hge:=grownCap_ge w n 0 2
 have hle:=grownCap_le_maxLen w n 0 2 (by simp only[maxLen];omega)
 obtain⟨G,hG⟩:∃ G,G=grownCap w n 0 2:=⟨_,rfl⟩
 rw[← hG]at hrz hge hle
 obtain⟨Z,hZ⟩:∃ Z,Z=Builtin.zeroCells (Value.int .i64 0).cells n++Builtin.zeroCells (Value.int .i64 0).cells (G-n):=⟨_,rfl⟩
 rw[← hZ]at hrz
 have hZs:Z.size=G:=by rw[hZ];simp[size_zeroCells,Value.cells];omega
 have hO:=World.ownsRow_made (base:=w.heap.size) (e:=2) (size:=1) w.drew Z G (Nat.le_refl _) hle (by omega)
 have hM:MkI w (w.drew.alloc (.cells Z 2)) (some ⟨w.heap.size,0,none⟩) 0 G []:=⟨(⟨rfl,rfl,rfl,Nat.le_refl _,fun _ _=>rfl⟩:Below w.heap.size w w.drew).alloc (Nat.le_refl _) _,hO⟩
 have hG2:G≤9223372036854775807:=by unfold maxLen at hle;omega
 have t1:¬ ((n:Int)<0):=by omega
 clear hZ hG hZs hO hle
 go_enter Tryz.func138,Tryz.ntmps138
 go_wp2_with (at_builtin;refine Lib.wpList_append_run _ rfl _ _ _ _ rfl _ _ rfl rfl _ _ (hrz _) ?_)
 go_ret
 exact⟨_,_,rfl,hM⟩
theorem jH {M:List (List Int)} {k:Nat} (h:k<M.length):(M.take (k+1)).flatten=(M.take k).flatten++M[k]:=by
 rw[List.take_succ_eq_append_getElem h,List.flatten_append,List.flatten_cons,List.flatten_nil,List.append_nil]
theorem yeS {M:List (List Int)} {b:Nat} (h:∀ r∈M,r.length≤b):∀ k,(M.take k).flatten.length≤k*b:=by
 intro k
 induction k with
 | zero=>simp
 | succ k ih=>
  by_cases hk:k<M.length
  ·rw[jH hk,List.length_append]
   have:=h M[k] (List.getElem_mem hk)
   rw[Nat.add_mul];omega
  ·rw[List.take_of_length_le (by omega)]at ih ⊢
   rw[Nat.add_mul];omega
set_option maxHeartbeats 6400000 in
set_option maxRecDepth 8000 in
theorem ya5 (A:Option Addr) (n c:Nat) (M:List (List Int)) (w:World) (h0:0<n) (hn:n≤64) (ha:RdII w A n M) (hr:∀ r∈M,0<r.length∧r.length≤1000) :
 Calls Tryz.prog 85 #[.slice A n c] w fun e w'=>∃ A' c',e=.returned (.slice A' M.flatten.length c')∧MkI w w' A' M.flatten.length c' M.flatten:=by
 have HR:=Lib.hid hr
 have HL:=Lib.hid ha.len
 have HF:=Lib.hid (yeS (M:=M) (b:=1000) fun r h=>(hr r h).2)
 have hpos:0<M.flatten.length:=by
  cases M with
  | nil=>have:=ha.len;simp at this;omega
  | cons r M=>rw[List.flatten_cons,List.length_append];have:=(hr r (by simp)).1;omega
 have hle:M.flatten.length≤64000:=by
  have:=HF.out n
  rw[List.take_of_length_le (by rw[HL.out];omega)]at this
  omega
 obtain⟨T,hT⟩:∃ T,T=M.flatten.length:=⟨_,rfl⟩
 have HT:=Lib.hid hT
 rw[← hT]at hpos hle ⊢
 have hgr:=fun w'=>ye4 T w' hpos (by omega)
 clear hr hT
 go_enter Tryz.func85,Tryz.ntmps85
 go_wp2
 go_loopw [3,11] (fun s i wr=>∃ (k z:Nat),k≤n∧i=.int .i64 k∧s=.int .i64 z∧z=(M.take k).flatten.length∧w=wr) (fun _ i _=>n-(intOf i).toNat)
 case atStart=>exact⟨0,0,by omega,rfl,rfl,rfl,rfl⟩
 case round=>
  obtain⟨k,z,hk,rfl,rfl,hz,rfl⟩:=hrel
  have HZ:=Lib.hid hz
  have hz2:=HF.out k
  rw[← hz]at hz2
  have hz3:z≤64000:=by omega
  clear hz hz2
  by_cases hlt:k<n
  ·obtain⟨g,o,rfl,hx,A1,c1,hc1,hr1,hcap⟩:=ha.at_ hlt
   have hl:=(HR.out M[k] (List.getElem_mem hx)).2
   have HS:Hid ((M.take (k+1)).flatten.length=z+M[k].length):=Lib.hid (by rw[jH hx,List.length_append,← HZ.out])
   obtain⟨q,hq⟩:∃ q,q=M[k].length:=⟨_,rfl⟩
   rw[← hq]at hc1 hl HS
   clear hr1 hcap hq
   have e1:IntKind.i64.wrap ((z:Int)+(q:Int))=((z+q:Nat):Int):=by rw[yi _ (by omega) (by omega)];omega
   have t1:¬ (((z+q:Nat):Int)<0):=by omega
   go_wp2
   go_roundw
   case rel=>exact⟨k+1,z+q,by omega,by go_num,rfl,HS.out.symm,by first | rfl | trivial⟩
   case measure=>simp[intOf];omega
  ·obtain rfl:k=n:=by omega
   obtain rfl:z=T:=by rw[HZ.out,HT.out,List.take_of_length_le (by rw[HL.out];omega)]
   go_wp2_with fail
   refine (hgr _).mono ?_
   rintro e w1 ⟨A0,c0,rfl,hM0⟩
   go_wp2
   clear hgr
   go_loopw [6,27] (fun s i wr=>∃ (j z:Nat) (B:Option Addr) (d:Nat),j≤k∧i=.int .i64 j∧s=.slice B z d∧z=(M.take j).flatten.length∧MkI w wr B z d (M.take j).flatten) (fun _ i _=>k-(intOf i).toNat)
   case atStart=>exact⟨0,0,_,_,by omega,rfl,rfl,rfl,by simpa using hM0⟩
   case round=>
    obtain⟨j,y,B,d,hj,rfl,rfl,hy,hM⟩:=hrel
    have HY:=Lib.hid hy
    have hy2:=HF.out j
    rw[← hy]at hy2
    have hy3:y≤64000:=by omega
    clear hy hy2
    by_cases hjt:j<k
    ·have hb1:Below w.heap.size w wr:=hM.b
     obtain⟨g,o,rfl,hx,A1,c1,hc1,hr1,hcap⟩:=(ha.below hb1).at_ hjt
     obtain⟨hl0,hl⟩:=HR.out M[j] (List.getElem_mem hx)
     have HS:Hid ((M.take (j+1)).flatten=(M.take j).flatten++M[j]):=Lib.hid (jH hx)
     obtain⟨q,hq⟩:∃ q,q=M[j].length:=⟨_,rfl⟩
     rw[← hq]at hc1 hl hl0 hr1
     have HM:=Lib.hid hM
     have HQ:=Lib.hid hq
     have HR1:=Lib.hid hr1
     clear hM hq hr1 hcap hM0
     go_wp2_with (at_builtin;refine yaz w wr rfl _ _ rfl B y d _ A1 q c1 _ HM.out HR1.out hl0 (by omega) (by omega) rfl rfl ?_;intro A' c' w' hM' _)
     go_roundw
     case rel=>exact⟨j+1,y+q,A',c',by omega,by go_num,rfl,by rw[HS.out,List.length_append,← HY.out,← HQ.out],by rw[HS.out];exact hM'⟩
     case measure=>simp[intOf];omega
    ·obtain rfl:j=k:=by omega
     have e9:M.take j=M:=List.take_of_length_le (by rw[HL.out];omega)
     rw[e9]at hM
     obtain rfl:y=z:=by rw[HY.out,HT.out,e9]
     go_wp2
     go_ret
     exact⟨_,_,rfl,hM⟩
end Go.Proofs.YtaiegpggccdgoaaGreat

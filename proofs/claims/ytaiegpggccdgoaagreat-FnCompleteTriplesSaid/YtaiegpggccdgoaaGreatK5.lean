/-
  LawFnCompleteTriples: part 5 of the texts that the proof needs. No condition.
-/
import Derived.Test.YtaiegpggccdgoaaGreatK4
namespace Go.Proofs.YtaiegpggccdgoaaGreat
open Go.RowKit
def isDb (p:Int) (st:List Int):Bool:=isP p && decide (st.length≤4) && nums p st && !st.contains 0
set_option maxHeartbeats 1600000 in
set_option maxRecDepth 8000 in
theorem yaG (p:Int) (A:Option Addr) (k c:Nat) (st:List Int) (w:World) (hk6:k≤65536) (ha:Rd w A k (ints st)) :
 Calls Tryz.prog 78 #[.agg #[.int .i64 p,.slice A k c]] w fun e w'=>e=.returned (.bool (isDb p st))∧Below w.heap.size w w':=by
 have hB0:Below w.heap.size w (w.alloc (.cells #[.int .i64 p,.slice A k c] 26)):=zG.alloc (Nat.le_refl _) _
 have k0:Blk (w.alloc (.cells #[.int .i64 p,.slice A k c] 26)) w.heap.size 26 #[.int .i64 p,.slice A k c]:=Blk.new _ _ _
 have hxl:st.length=k:=ha.lenI
 have Hx:=Lib.hid hxl
 clear hxl
 cases h1:isP p
 ·have H1:=Lib.hid h1
  clear h1
  go_enter Tryz.func78,Tryz.ntmps78
  go_wp2
  refine yh 23 [[],[0],[0,1],[0,1,2],[0,1,2,3],[0,1,2,3,4],[0,1,2,3,4,5],[0,1,2,3,4,5,6],[0,1,2,3,4,5,6,7],[0,1,2,3,4,5,6,7,8],[0,1,2,3,4,5,6,7,8,9],[0,1,2,3,4,5,6,7,8,9,10],[0,1,2,3,4,5,6,7,8,9],[0,1,2,3,4,5,6,7,8,9,12],[0,1,2,3,4,5,6,7,8,9,10,11,12,13],[0,1,2,3,4,5,6,7,8,9,10,11,12,13,14],[0,1,2,3,4,5,6,7,8,9,10,11,12,13,14,15],[0,1,2,3,4,5,6,7,8,9,10,11,12,13,14,15,16],[0,1,2,3,4,5,6,7,8,9,10,11,12,13,14,15,16,17],[0,1,2,3,4,5,6,7,8,9,10,11,12,13,14,15,16,17,18],[0,1,2,3,4,5,6,7,8,9,10,11,12,13,14,15,16,17,18,19],[0,1,2,3,4,5,6,7,8,9,10,11,12,13,14,15,16,17,18,19,20],[0,1,2,3,4,5,6,7,8,9,10,11,12,13,14,15,16,17,18,19,20,21]] [VIs (.pointer (some ⟨w.heap.size,0,none⟩)),VIs (.int .i64 (p)),VIs (.bool false),VIs (.bool false),VIs undef,VIs undef,VIs undef,VIs undef,VIs (.bool false),VIs (.bool false),VIs undef,VIs undef,VIs undef,VIs undef,VIs undef,VIs (.bool false),VIs (.bool false),VIs undef,VIs undef,VIs undef,VIs undef,VIs (.bool false),VIs (.bool false)] (fun w'=>Blk w' w.heap.size 26 #[.int .i64 p,.slice A k c]∧Below w.heap.size w w') (by kernel_rfl) (by kernel_rfl) (fun _ _ h hb=>⟨h.1.below hb h.1.lt,h.2.trans (hb.mono h.2.size)⟩) (⟨k0.drew,hB0.drew⟩) (fun x=>?_)
  refine zS (fun w' hS hV K hK=>?_) ?_
  ·obtain⟨q0,q1⟩:=hS.1.two;go_simp;exact zO hK
  refine zS (fun w' hS hV K hK=>?_) ?_
  ·have e0:=zQ hV 0;obtain⟨q0,q1⟩:=hS.1.two;go_simp;exact zO hK
  refine zS (fun w' hS hV K hK=>?_) ?_
  ·have e1:=zQ hV 1;obtain⟨q0,q1⟩:=hS.1.two;go_simp;refine (um _ _ H1.out).mono ?_;rintro e v1 ⟨rfl,rfl⟩;exact zO hK
  refine zS (fun w' hS hV K hK=>?_) ?_
  ·have e2:=zQ hV 2;obtain⟨q0,q1⟩:=hS.1.two;go_simp;exact zO hK
  refine zS (fun w' hS hV K hK=>?_) ?_
  ·have e3:=zQ hV 3;obtain⟨q0,q1⟩:=hS.1.two;go_simp;exact zO hK
  refine zS (fun w' hS hV K hK=>?_) ?_
  ·have e3:=zQ hV 3;have e4:=zQ hV 4;obtain⟨q0,q1⟩:=hS.1.two;go_simp;exact zO hK
  refine zS (fun w' hS hV K hK=>?_) ?_
  ·have e3:=zQ hV 3;have e5:=zQ hV 5;obtain⟨q0,q1⟩:=hS.1.two;go_simp;exact zO hK
  refine zS (fun w' hS hV K hK=>?_) ?_
  ·have e3:=zQ hV 3;have e6:=zQ hV 6;obtain⟨q0,q1⟩:=hS.1.two;go_simp;exact zO hK
  refine zS (fun w' hS hV K hK=>?_) ?_
  ·have e3:=zQ hV 3;have e7:=zQ hV 7;obtain⟨q0,q1⟩:=hS.1.two;go_simp;exact zO hK
  refine zS (fun w' hS hV K hK=>?_) ?_
  ·have e8:=zQ hV 8;obtain⟨q0,q1⟩:=hS.1.two;go_simp;exact zO hK
  refine zS (fun w' hS hV K hK=>?_) ?_
  ·have e9:=zQ hV 9;obtain⟨q0,q1⟩:=hS.1.two;go_simp;exact zO hK
  refine zS (fun w' hS hV K hK=>?_) ?_
  ·have e9:=zQ hV 9;have e10:=zQ hV 10;obtain⟨q0,q1⟩:=hS.1.two;go_simp;exact zO hK
  refine zS (fun w' hS hV K hK=>?_) ?_
  ·have e9:=zQ hV 9;obtain⟨q0,q1⟩:=hS.1.two;go_simp;exact zO hK
  refine zS (fun w' hS hV K hK=>?_) ?_
  ·have e9:=zQ hV 9;have e12:=zQ hV 12;obtain⟨q0,q1⟩:=hS.1.two;go_simp;exact zO hK
  refine zS (fun w' hS hV K hK=>?_) ?_
  ·have e9:=zQ hV 9;have e11:=zQ hV 11;have e13:=zQ hV 13;obtain⟨q0,q1⟩:=hS.1.two;go_simp;exact zO hK
  refine zS (fun w' hS hV K hK=>?_) ?_
  ·have e9:=zQ hV 9;have e14:=zQ hV 14;obtain⟨q0,q1⟩:=hS.1.two;go_simp;exact zO hK
  refine zS (fun w' hS hV K hK=>?_) ?_
  ·have e15:=zQ hV 15;obtain⟨q0,q1⟩:=hS.1.two;go_simp;exact zO hK
  refine zS (fun w' hS hV K hK=>?_) ?_
  ·have e16:=zQ hV 16;obtain⟨q0,q1⟩:=hS.1.two;go_simp;exact zO hK
  refine zS (fun w' hS hV K hK=>?_) ?_
  ·have e16:=zQ hV 16;have e17:=zQ hV 17;obtain⟨q0,q1⟩:=hS.1.two;go_simp;exact zO hK
  refine zS (fun w' hS hV K hK=>?_) ?_
  ·have e16:=zQ hV 16;have e18:=zQ hV 18;obtain⟨q0,q1⟩:=hS.1.two;go_simp;exact zO hK
  refine zS (fun w' hS hV K hK=>?_) ?_
  ·have e16:=zQ hV 16;have e19:=zQ hV 19;obtain⟨q0,q1⟩:=hS.1.two;go_simp;exact zO hK
  refine zS (fun w' hS hV K hK=>?_) ?_
  ·have e16:=zQ hV 16;have e20:=zQ hV 20;obtain⟨q0,q1⟩:=hS.1.two;go_simp;exact zO hK
  refine zS (fun w' hS hV K hK=>?_) ?_
  ·have e21:=zQ hV 21;obtain⟨q0,q1⟩:=hS.1.two;go_simp;exact zO hK
  refine fun w' hS hV=>?_
  have e0:=zT hV 0
  have e1:=zT hV 1
  have e2:=zT hV 2
  have e3:=zT hV 3
  have e4:=zT hV 4
  have e5:=zT hV 5
  have e6:=zT hV 6
  have e7:=zT hV 7
  have e8:=zT hV 8
  have e9:=zT hV 9
  have e10:=zT hV 10
  have e11:=zT hV 11
  have e12:=zT hV 12
  have e13:=zT hV 13
  have e14:=zT hV 14
  have e15:=zT hV 15
  have e16:=zT hV 16
  have e17:=zT hV 17
  have e18:=zT hV 18
  have e19:=zT hV 19
  have e20:=zT hV 20
  have e21:=zT hV 21
  have e22:=zT hV 22
  simp only[e0,e1,e2,e3,e4,e5,e6,e7,e8,e9,e10,e11,e12,e13,e14,e15,e16,e17,e18,e19,e20,e21,e22]
  clear e0 e1 e2 e3 e4 e5 e6 e7 e8 e9 e10 e11 e12 e13 e14 e15 e16 e17 e18 e19 e20 e21 e22
  refine wpAny_done (by kernel_rfl) ?_ _
  go_wp2
  go_ret
  exact⟨yJ (by unfold isDb;rw[Hx.out];simp[H1.out]),hS.2⟩
 ·obtain⟨hp0,hp1⟩:=jV h1
  have H1:=Lib.hid h1
  clear h1
  by_cases h2:k≤4
  ·have h2':(k:Int)≤4:=by omega
   cases h3:nums p st
   ·have H3:=Lib.hid h3
    clear h3
    go_enter Tryz.func78,Tryz.ntmps78
    go_wp2
    refine yh 23 [[],[0],[0,1],[0,1,2],[0,1,2,3],[0,1,2,3,4],[0,1,2,3,4,5],[0,1,2,3,4,5,6],[0,1,2,3,4,5,6,7],[0,1,2,3,4,5,6,7,8],[0,1,2,3,4,5,6,7,8,9],[0,1,2,3,4,5,6,7,8,9,10],[0,1,2,3,4,5,6,7,8,9],[0,1,2,3,4,5,6,7,8,9,12],[0,1,2,3,4,5,6,7,8,9,10,11,12,13],[0,1,2,3,4,5,6,7,8,9,10,11,12,13,14],[0,1,2,3,4,5,6,7,8,9,10,11,12,13,14,15],[0,1,2,3,4,5,6,7,8,9,10,11,12,13,14,15,16],[0,1,2,3,4,5,6,7,8,9,10,11,12,13,14,15,16,17],[0,1,2,3,4,5,6,7,8,9,10,11,12,13,14,15,16,17,18],[0,1,2,3,4,5,6,7,8,9,10,11,12,13,14,15,16,17,18,19],[0,1,2,3,4,5,6,7,8,9,10,11,12,13,14,15,16,17,18,19,20],[0,1,2,3,4,5,6,7,8,9,10,11,12,13,14,15,16,17,18,19,20,21]] [VIs (.pointer (some ⟨w.heap.size,0,none⟩)),VIs (.int .i64 (p)),VIs (.bool true),VIs (.bool true),VIs (.pointer (some ⟨w.heap.size,1,none⟩)),VIs (.slice A k c),VIs (.int .i64 (k)),VIs (.bool true),VIs (.bool true),VIs (.bool true),VIs (.agg #[.int .i64 p,.slice A k c]),VIs (.int .i64 (p)),VIs (.pointer (some ⟨w.heap.size,1,none⟩)),VIs (.slice A k c),VIs (.bool false),VIs (.bool false),VIs (.bool false),VIs undef,VIs undef,VIs undef,VIs undef,VIs (.bool false),VIs (.bool false)] (fun w'=>Blk w' w.heap.size 26 #[.int .i64 p,.slice A k c]∧Below w.heap.size w w') (by kernel_rfl) (by kernel_rfl) (fun _ _ h hb=>⟨h.1.below hb h.1.lt,h.2.trans (hb.mono h.2.size)⟩) (⟨k0.drew,hB0.drew⟩) (fun x=>?_)
    refine zS (fun w' hS hV K hK=>?_) ?_
    ·obtain⟨q0,q1⟩:=hS.1.two;go_simp;exact zO hK
    refine zS (fun w' hS hV K hK=>?_) ?_
    ·have e0:=zQ hV 0;obtain⟨q0,q1⟩:=hS.1.two;go_simp;exact zO hK
    refine zS (fun w' hS hV K hK=>?_) ?_
    ·have e1:=zQ hV 1;obtain⟨q0,q1⟩:=hS.1.two;go_simp;refine (um _ _ H1.out).mono ?_;rintro e v1 ⟨rfl,rfl⟩;exact zO hK
    refine zS (fun w' hS hV K hK=>?_) ?_
    ·have e2:=zQ hV 2;obtain⟨q0,q1⟩:=hS.1.two;go_simp;exact zO hK
    refine zS (fun w' hS hV K hK=>?_) ?_
    ·have e3:=zQ hV 3;obtain⟨q0,q1⟩:=hS.1.two;go_simp;exact zO hK
    refine zS (fun w' hS hV K hK=>?_) ?_
    ·have e3:=zQ hV 3;have e4:=zQ hV 4;obtain⟨q0,q1⟩:=hS.1.two;go_simp;exact zO hK
    refine zS (fun w' hS hV K hK=>?_) ?_
    ·have e3:=zQ hV 3;have e5:=zQ hV 5;obtain⟨q0,q1⟩:=hS.1.two;go_simp;exact zO hK
    refine zS (fun w' hS hV K hK=>?_) ?_
    ·have e3:=zQ hV 3;have e6:=zQ hV 6;obtain⟨q0,q1⟩:=hS.1.two;go_simp;exact zO hK
    refine zS (fun w' hS hV K hK=>?_) ?_
    ·have e3:=zQ hV 3;have e7:=zQ hV 7;obtain⟨q0,q1⟩:=hS.1.two;go_simp;exact zO hK
    refine zS (fun w' hS hV K hK=>?_) ?_
    ·have e8:=zQ hV 8;obtain⟨q0,q1⟩:=hS.1.two;go_simp;exact zO hK
    refine zS (fun w' hS hV K hK=>?_) ?_
    ·have e9:=zQ hV 9;obtain⟨q0,q1⟩:=hS.1.two;go_simp;exact zO hK
    refine zS (fun w' hS hV K hK=>?_) ?_
    ·have e9:=zQ hV 9;have e10:=zQ hV 10;obtain⟨q0,q1⟩:=hS.1.two;go_simp;refine (zb p A k c w').mono ?_;rintro e v1 ⟨rfl,hb⟩;exact hK.out _ _ _ rfl rfl rfl hb
    refine zS (fun w' hS hV K hK=>?_) ?_
    ·have e9:=zQ hV 9;obtain⟨q0,q1⟩:=hS.1.two;go_simp;exact zO hK
    refine zS (fun w' hS hV K hK=>?_) ?_
    ·have e9:=zQ hV 9;have e12:=zQ hV 12;obtain⟨q0,q1⟩:=hS.1.two;go_simp;exact zO hK
    refine zS (fun w' hS hV K hK=>?_) ?_
    ·have e9:=zQ hV 9;have e11:=zQ hV 11;have e13:=zQ hV 13;obtain⟨q0,q1⟩:=hS.1.two;go_simp;refine (is_b p A k c st w' hp0 (by omega) (by omega) (ha.below hS.2) H3.out).mono ?_;rintro e v1 ⟨rfl,rfl⟩;exact zO hK
    refine zS (fun w' hS hV K hK=>?_) ?_
    ·have e9:=zQ hV 9;have e14:=zQ hV 14;obtain⟨q0,q1⟩:=hS.1.two;go_simp;exact zO hK
    refine zS (fun w' hS hV K hK=>?_) ?_
    ·have e15:=zQ hV 15;obtain⟨q0,q1⟩:=hS.1.two;go_simp;exact zO hK
    refine zS (fun w' hS hV K hK=>?_) ?_
    ·have e16:=zQ hV 16;obtain⟨q0,q1⟩:=hS.1.two;go_simp;exact zO hK
    refine zS (fun w' hS hV K hK=>?_) ?_
    ·have e16:=zQ hV 16;have e17:=zQ hV 17;obtain⟨q0,q1⟩:=hS.1.two;go_simp;exact zO hK
    refine zS (fun w' hS hV K hK=>?_) ?_
    ·have e16:=zQ hV 16;have e18:=zQ hV 18;obtain⟨q0,q1⟩:=hS.1.two;go_simp;exact zO hK
    refine zS (fun w' hS hV K hK=>?_) ?_
    ·have e16:=zQ hV 16;have e19:=zQ hV 19;obtain⟨q0,q1⟩:=hS.1.two;go_simp;exact zO hK
    refine zS (fun w' hS hV K hK=>?_) ?_
    ·have e16:=zQ hV 16;have e20:=zQ hV 20;obtain⟨q0,q1⟩:=hS.1.two;go_simp;exact zO hK
    refine zS (fun w' hS hV K hK=>?_) ?_
    ·have e21:=zQ hV 21;obtain⟨q0,q1⟩:=hS.1.two;go_simp;exact zO hK
    refine fun w' hS hV=>?_
    have e0:=zT hV 0
    have e1:=zT hV 1
    have e2:=zT hV 2
    have e3:=zT hV 3
    have e4:=zT hV 4
    have e5:=zT hV 5
    have e6:=zT hV 6
    have e7:=zT hV 7
    have e8:=zT hV 8
    have e9:=zT hV 9
    have e10:=zT hV 10
    have e11:=zT hV 11
    have e12:=zT hV 12
    have e13:=zT hV 13
    have e14:=zT hV 14
    have e15:=zT hV 15
    have e16:=zT hV 16
    have e17:=zT hV 17
    have e18:=zT hV 18
    have e19:=zT hV 19
    have e20:=zT hV 20
    have e21:=zT hV 21
    have e22:=zT hV 22
    simp only[e0,e1,e2,e3,e4,e5,e6,e7,e8,e9,e10,e11,e12,e13,e14,e15,e16,e17,e18,e19,e20,e21,e22]
    clear e0 e1 e2 e3 e4 e5 e6 e7 e8 e9 e10 e11 e12 e13 e14 e15 e16 e17 e18 e19 e20 e21 e22
    refine wpAny_done (by kernel_rfl) ?_ _
    go_wp2
    go_ret
    exact⟨yJ (by unfold isDb;rw[Hx.out];simp[H1.out,H3.out]),hS.2⟩
   ·have H3:=Lib.hid h3
    clear h3
    cases h4:st.contains 0
    ·have H4:=Lib.hid h4
     clear h4
     go_enter Tryz.func78,Tryz.ntmps78
     go_wp2
     refine yh 23 [[],[0],[0,1],[0,1,2],[0,1,2,3],[0,1,2,3,4],[0,1,2,3,4,5],[0,1,2,3,4,5,6],[0,1,2,3,4,5,6,7],[0,1,2,3,4,5,6,7,8],[0,1,2,3,4,5,6,7,8,9],[0,1,2,3,4,5,6,7,8,9,10],[0,1,2,3,4,5,6,7,8,9],[0,1,2,3,4,5,6,7,8,9,12],[0,1,2,3,4,5,6,7,8,9,10,11,12,13],[0,1,2,3,4,5,6,7,8,9,10,11,12,13,14],[0,1,2,3,4,5,6,7,8,9,10,11,12,13,14,15],[0,1,2,3,4,5,6,7,8,9,10,11,12,13,14,15,16],[0,1,2,3,4,5,6,7,8,9,10,11,12,13,14,15,16,17],[0,1,2,3,4,5,6,7,8,9,10,11,12,13,14,15,16,17,18],[0,1,2,3,4,5,6,7,8,9,10,11,12,13,14,15,16,17,18,19],[0,1,2,3,4,5,6,7,8,9,10,11,12,13,14,15,16,17,18,19,20],[0,1,2,3,4,5,6,7,8,9,10,11,12,13,14,15,16,17,18,19,20,21]] [VIs (.pointer (some ⟨w.heap.size,0,none⟩)),VIs (.int .i64 (p)),VIs (.bool true),VIs (.bool true),VIs (.pointer (some ⟨w.heap.size,1,none⟩)),VIs (.slice A k c),VIs (.int .i64 (k)),VIs (.bool true),VIs (.bool true),VIs (.bool true),VIs (.agg #[.int .i64 p,.slice A k c]),VIs (.int .i64 (p)),VIs (.pointer (some ⟨w.heap.size,1,none⟩)),VIs (.slice A k c),VIs (.bool true),VIs (.bool true),VIs (.bool true),VIs (.pointer (some ⟨w.heap.size,1,none⟩)),VIs (.slice A k c),VIs (.bool false),VIs (.bool true),VIs (.bool true),VIs (.bool true)] (fun w'=>Blk w' w.heap.size 26 #[.int .i64 p,.slice A k c]∧Below w.heap.size w w') (by kernel_rfl) (by kernel_rfl) (fun _ _ h hb=>⟨h.1.below hb h.1.lt,h.2.trans (hb.mono h.2.size)⟩) (⟨k0.drew,hB0.drew⟩) (fun x=>?_)
     refine zS (fun w' hS hV K hK=>?_) ?_
     ·obtain⟨q0,q1⟩:=hS.1.two;go_simp;exact zO hK
     refine zS (fun w' hS hV K hK=>?_) ?_
     ·have e0:=zQ hV 0;obtain⟨q0,q1⟩:=hS.1.two;go_simp;exact zO hK
     refine zS (fun w' hS hV K hK=>?_) ?_
     ·have e1:=zQ hV 1;obtain⟨q0,q1⟩:=hS.1.two;go_simp;refine (um _ _ H1.out).mono ?_;rintro e v1 ⟨rfl,rfl⟩;exact zO hK
     refine zS (fun w' hS hV K hK=>?_) ?_
     ·have e2:=zQ hV 2;obtain⟨q0,q1⟩:=hS.1.two;go_simp;exact zO hK
     refine zS (fun w' hS hV K hK=>?_) ?_
     ·have e3:=zQ hV 3;obtain⟨q0,q1⟩:=hS.1.two;go_simp;exact zO hK
     refine zS (fun w' hS hV K hK=>?_) ?_
     ·have e3:=zQ hV 3;have e4:=zQ hV 4;obtain⟨q0,q1⟩:=hS.1.two;go_simp;exact zO hK
     refine zS (fun w' hS hV K hK=>?_) ?_
     ·have e3:=zQ hV 3;have e5:=zQ hV 5;obtain⟨q0,q1⟩:=hS.1.two;go_simp;exact zO hK
     refine zS (fun w' hS hV K hK=>?_) ?_
     ·have e3:=zQ hV 3;have e6:=zQ hV 6;obtain⟨q0,q1⟩:=hS.1.two;go_simp;exact zO hK
     refine zS (fun w' hS hV K hK=>?_) ?_
     ·have e3:=zQ hV 3;have e7:=zQ hV 7;obtain⟨q0,q1⟩:=hS.1.two;go_simp;exact zO hK
     refine zS (fun w' hS hV K hK=>?_) ?_
     ·have e8:=zQ hV 8;obtain⟨q0,q1⟩:=hS.1.two;go_simp;exact zO hK
     refine zS (fun w' hS hV K hK=>?_) ?_
     ·have e9:=zQ hV 9;obtain⟨q0,q1⟩:=hS.1.two;go_simp;exact zO hK
     refine zS (fun w' hS hV K hK=>?_) ?_
     ·have e9:=zQ hV 9;have e10:=zQ hV 10;obtain⟨q0,q1⟩:=hS.1.two;go_simp;refine (zb p A k c w').mono ?_;rintro e v1 ⟨rfl,hb⟩;exact hK.out _ _ _ rfl rfl rfl hb
     refine zS (fun w' hS hV K hK=>?_) ?_
     ·have e9:=zQ hV 9;obtain⟨q0,q1⟩:=hS.1.two;go_simp;exact zO hK
     refine zS (fun w' hS hV K hK=>?_) ?_
     ·have e9:=zQ hV 9;have e12:=zQ hV 12;obtain⟨q0,q1⟩:=hS.1.two;go_simp;exact zO hK
     refine zS (fun w' hS hV K hK=>?_) ?_
     ·have e9:=zQ hV 9;have e11:=zQ hV 11;have e13:=zQ hV 13;obtain⟨q0,q1⟩:=hS.1.two;go_simp;refine (is_b p A k c st w' hp0 (by omega) (by omega) (ha.below hS.2) H3.out).mono ?_;rintro e v1 ⟨rfl,rfl⟩;exact zO hK
     refine zS (fun w' hS hV K hK=>?_) ?_
     ·have e9:=zQ hV 9;have e14:=zQ hV 14;obtain⟨q0,q1⟩:=hS.1.two;go_simp;exact zO hK
     refine zS (fun w' hS hV K hK=>?_) ?_
     ·have e15:=zQ hV 15;obtain⟨q0,q1⟩:=hS.1.two;go_simp;exact zO hK
     refine zS (fun w' hS hV K hK=>?_) ?_
     ·have e16:=zQ hV 16;obtain⟨q0,q1⟩:=hS.1.two;go_simp;exact zO hK
     refine zS (fun w' hS hV K hK=>?_) ?_
     ·have e16:=zQ hV 16;have e17:=zQ hV 17;obtain⟨q0,q1⟩:=hS.1.two;go_simp;exact zO hK
     refine zS (fun w' hS hV K hK=>?_) ?_
     ·have e16:=zQ hV 16;have e18:=zQ hV 18;obtain⟨q0,q1⟩:=hS.1.two;go_simp;refine (yaD A k c st 0 w' (by omega) (ha.below hS.2) H4.out).mono ?_;rintro e v1 ⟨rfl,rfl⟩;exact zO hK
     refine zS (fun w' hS hV K hK=>?_) ?_
     ·have e16:=zQ hV 16;have e19:=zQ hV 19;obtain⟨q0,q1⟩:=hS.1.two;go_simp;exact zO hK
     refine zS (fun w' hS hV K hK=>?_) ?_
     ·have e16:=zQ hV 16;have e20:=zQ hV 20;obtain⟨q0,q1⟩:=hS.1.two;go_simp;exact zO hK
     refine zS (fun w' hS hV K hK=>?_) ?_
     ·have e21:=zQ hV 21;obtain⟨q0,q1⟩:=hS.1.two;go_simp;exact zO hK
     refine fun w' hS hV=>?_
     have e0:=zT hV 0
     have e1:=zT hV 1
     have e2:=zT hV 2
     have e3:=zT hV 3
     have e4:=zT hV 4
     have e5:=zT hV 5
     have e6:=zT hV 6
     have e7:=zT hV 7
     have e8:=zT hV 8
     have e9:=zT hV 9
     have e10:=zT hV 10
     have e11:=zT hV 11
     have e12:=zT hV 12
     have e13:=zT hV 13
     have e14:=zT hV 14
     have e15:=zT hV 15
     have e16:=zT hV 16
     have e17:=zT hV 17
     have e18:=zT hV 18
     have e19:=zT hV 19
     have e20:=zT hV 20
     have e21:=zT hV 21
     have e22:=zT hV 22
     simp only[e0,e1,e2,e3,e4,e5,e6,e7,e8,e9,e10,e11,e12,e13,e14,e15,e16,e17,e18,e19,e20,e21,e22]
     clear e0 e1 e2 e3 e4 e5 e6 e7 e8 e9 e10 e11 e12 e13 e14 e15 e16 e17 e18 e19 e20 e21 e22
     refine wpAny_done (by kernel_rfl) ?_ _
     go_wp2
     go_ret
     exact⟨yJ (by unfold isDb;rw[Hx.out];rw[H1.out,H3.out,H4.out];simp[h2]),hS.2⟩
    ·have H4:=Lib.hid h4
     clear h4
     go_enter Tryz.func78,Tryz.ntmps78
     go_wp2
     refine yh 23 [[],[0],[0,1],[0,1,2],[0,1,2,3],[0,1,2,3,4],[0,1,2,3,4,5],[0,1,2,3,4,5,6],[0,1,2,3,4,5,6,7],[0,1,2,3,4,5,6,7,8],[0,1,2,3,4,5,6,7,8,9],[0,1,2,3,4,5,6,7,8,9,10],[0,1,2,3,4,5,6,7,8,9],[0,1,2,3,4,5,6,7,8,9,12],[0,1,2,3,4,5,6,7,8,9,10,11,12,13],[0,1,2,3,4,5,6,7,8,9,10,11,12,13,14],[0,1,2,3,4,5,6,7,8,9,10,11,12,13,14,15],[0,1,2,3,4,5,6,7,8,9,10,11,12,13,14,15,16],[0,1,2,3,4,5,6,7,8,9,10,11,12,13,14,15,16,17],[0,1,2,3,4,5,6,7,8,9,10,11,12,13,14,15,16,17,18],[0,1,2,3,4,5,6,7,8,9,10,11,12,13,14,15,16,17,18,19],[0,1,2,3,4,5,6,7,8,9,10,11,12,13,14,15,16,17,18,19,20],[0,1,2,3,4,5,6,7,8,9,10,11,12,13,14,15,16,17,18,19,20,21]] [VIs (.pointer (some ⟨w.heap.size,0,none⟩)),VIs (.int .i64 (p)),VIs (.bool true),VIs (.bool true),VIs (.pointer (some ⟨w.heap.size,1,none⟩)),VIs (.slice A k c),VIs (.int .i64 (k)),VIs (.bool true),VIs (.bool true),VIs (.bool true),VIs (.agg #[.int .i64 p,.slice A k c]),VIs (.int .i64 (p)),VIs (.pointer (some ⟨w.heap.size,1,none⟩)),VIs (.slice A k c),VIs (.bool true),VIs (.bool true),VIs (.bool true),VIs (.pointer (some ⟨w.heap.size,1,none⟩)),VIs (.slice A k c),VIs (.bool true),VIs (.bool false),VIs (.bool false),VIs (.bool false)] (fun w'=>Blk w' w.heap.size 26 #[.int .i64 p,.slice A k c]∧Below w.heap.size w w') (by kernel_rfl) (by kernel_rfl) (fun _ _ h hb=>⟨h.1.below hb h.1.lt,h.2.trans (hb.mono h.2.size)⟩) (⟨k0.drew,hB0.drew⟩) (fun x=>?_)
     refine zS (fun w' hS hV K hK=>?_) ?_
     ·obtain⟨q0,q1⟩:=hS.1.two;go_simp;exact zO hK
     refine zS (fun w' hS hV K hK=>?_) ?_
     ·have e0:=zQ hV 0;obtain⟨q0,q1⟩:=hS.1.two;go_simp;exact zO hK
     refine zS (fun w' hS hV K hK=>?_) ?_
     ·have e1:=zQ hV 1;obtain⟨q0,q1⟩:=hS.1.two;go_simp;refine (um _ _ H1.out).mono ?_;rintro e v1 ⟨rfl,rfl⟩;exact zO hK
     refine zS (fun w' hS hV K hK=>?_) ?_
     ·have e2:=zQ hV 2;obtain⟨q0,q1⟩:=hS.1.two;go_simp;exact zO hK
     refine zS (fun w' hS hV K hK=>?_) ?_
     ·have e3:=zQ hV 3;obtain⟨q0,q1⟩:=hS.1.two;go_simp;exact zO hK
     refine zS (fun w' hS hV K hK=>?_) ?_
     ·have e3:=zQ hV 3;have e4:=zQ hV 4;obtain⟨q0,q1⟩:=hS.1.two;go_simp;exact zO hK
     refine zS (fun w' hS hV K hK=>?_) ?_
     ·have e3:=zQ hV 3;have e5:=zQ hV 5;obtain⟨q0,q1⟩:=hS.1.two;go_simp;exact zO hK
     refine zS (fun w' hS hV K hK=>?_) ?_
     ·have e3:=zQ hV 3;have e6:=zQ hV 6;obtain⟨q0,q1⟩:=hS.1.two;go_simp;exact zO hK
     refine zS (fun w' hS hV K hK=>?_) ?_
     ·have e3:=zQ hV 3;have e7:=zQ hV 7;obtain⟨q0,q1⟩:=hS.1.two;go_simp;exact zO hK
     refine zS (fun w' hS hV K hK=>?_) ?_
     ·have e8:=zQ hV 8;obtain⟨q0,q1⟩:=hS.1.two;go_simp;exact zO hK
     refine zS (fun w' hS hV K hK=>?_) ?_
     ·have e9:=zQ hV 9;obtain⟨q0,q1⟩:=hS.1.two;go_simp;exact zO hK
     refine zS (fun w' hS hV K hK=>?_) ?_
     ·have e9:=zQ hV 9;have e10:=zQ hV 10;obtain⟨q0,q1⟩:=hS.1.two;go_simp;refine (zb p A k c w').mono ?_;rintro e v1 ⟨rfl,hb⟩;exact hK.out _ _ _ rfl rfl rfl hb
     refine zS (fun w' hS hV K hK=>?_) ?_
     ·have e9:=zQ hV 9;obtain⟨q0,q1⟩:=hS.1.two;go_simp;exact zO hK
     refine zS (fun w' hS hV K hK=>?_) ?_
     ·have e9:=zQ hV 9;have e12:=zQ hV 12;obtain⟨q0,q1⟩:=hS.1.two;go_simp;exact zO hK
     refine zS (fun w' hS hV K hK=>?_) ?_
     ·have e9:=zQ hV 9;have e11:=zQ hV 11;have e13:=zQ hV 13;obtain⟨q0,q1⟩:=hS.1.two;go_simp;refine (is_b p A k c st w' hp0 (by omega) (by omega) (ha.below hS.2) H3.out).mono ?_;rintro e v1 ⟨rfl,rfl⟩;exact zO hK
     refine zS (fun w' hS hV K hK=>?_) ?_
     ·have e9:=zQ hV 9;have e14:=zQ hV 14;obtain⟨q0,q1⟩:=hS.1.two;go_simp;exact zO hK
     refine zS (fun w' hS hV K hK=>?_) ?_
     ·have e15:=zQ hV 15;obtain⟨q0,q1⟩:=hS.1.two;go_simp;exact zO hK
     refine zS (fun w' hS hV K hK=>?_) ?_
     ·have e16:=zQ hV 16;obtain⟨q0,q1⟩:=hS.1.two;go_simp;exact zO hK
     refine zS (fun w' hS hV K hK=>?_) ?_
     ·have e16:=zQ hV 16;have e17:=zQ hV 17;obtain⟨q0,q1⟩:=hS.1.two;go_simp;exact zO hK
     refine zS (fun w' hS hV K hK=>?_) ?_
     ·have e16:=zQ hV 16;have e18:=zQ hV 18;obtain⟨q0,q1⟩:=hS.1.two;go_simp;refine (yaD A k c st 0 w' (by omega) (ha.below hS.2) H4.out).mono ?_;rintro e v1 ⟨rfl,rfl⟩;exact zO hK
     refine zS (fun w' hS hV K hK=>?_) ?_
     ·have e16:=zQ hV 16;have e19:=zQ hV 19;obtain⟨q0,q1⟩:=hS.1.two;go_simp;exact zO hK
     refine zS (fun w' hS hV K hK=>?_) ?_
     ·have e16:=zQ hV 16;have e20:=zQ hV 20;obtain⟨q0,q1⟩:=hS.1.two;go_simp;exact zO hK
     refine zS (fun w' hS hV K hK=>?_) ?_
     ·have e21:=zQ hV 21;obtain⟨q0,q1⟩:=hS.1.two;go_simp;exact zO hK
     refine fun w' hS hV=>?_
     have e0:=zT hV 0
     have e1:=zT hV 1
     have e2:=zT hV 2
     have e3:=zT hV 3
     have e4:=zT hV 4
     have e5:=zT hV 5
     have e6:=zT hV 6
     have e7:=zT hV 7
     have e8:=zT hV 8
     have e9:=zT hV 9
     have e10:=zT hV 10
     have e11:=zT hV 11
     have e12:=zT hV 12
     have e13:=zT hV 13
     have e14:=zT hV 14
     have e15:=zT hV 15
     have e16:=zT hV 16
     have e17:=zT hV 17
     have e18:=zT hV 18
     have e19:=zT hV 19
     have e20:=zT hV 20
     have e21:=zT hV 21
     have e22:=zT hV 22
     simp only[e0,e1,e2,e3,e4,e5,e6,e7,e8,e9,e10,e11,e12,e13,e14,e15,e16,e17,e18,e19,e20,e21,e22]
     clear e0 e1 e2 e3 e4 e5 e6 e7 e8 e9 e10 e11 e12 e13 e14 e15 e16 e17 e18 e19 e20 e21 e22
     refine wpAny_done (by kernel_rfl) ?_ _
     go_wp2
     go_ret
     exact⟨yJ (by unfold isDb;rw[Hx.out];rw[H1.out,H3.out,H4.out];simp[h2]),hS.2⟩
  ·have h2':((k:Int)≤4)=False:=eq_false (by omega)
   have h2d:decide ((k:Int)≤4)=false:=by rw[decide_eq_false_iff_not];omega
   have h4k:(4:Int)<k:=by omega
   go_enter Tryz.func78,Tryz.ntmps78
   go_wp2
   refine yh 23 [[],[0],[0,1],[0,1,2],[0,1,2,3],[0,1,2,3,4],[0,1,2,3,4,5],[0,1,2,3,4,5,6],[0,1,2,3,4,5,6,7],[0,1,2,3,4,5,6,7,8],[0,1,2,3,4,5,6,7,8,9],[0,1,2,3,4,5,6,7,8,9,10],[0,1,2,3,4,5,6,7,8,9],[0,1,2,3,4,5,6,7,8,9,12],[0,1,2,3,4,5,6,7,8,9,10,11,12,13],[0,1,2,3,4,5,6,7,8,9,10,11,12,13,14],[0,1,2,3,4,5,6,7,8,9,10,11,12,13,14,15],[0,1,2,3,4,5,6,7,8,9,10,11,12,13,14,15,16],[0,1,2,3,4,5,6,7,8,9,10,11,12,13,14,15,16,17],[0,1,2,3,4,5,6,7,8,9,10,11,12,13,14,15,16,17,18],[0,1,2,3,4,5,6,7,8,9,10,11,12,13,14,15,16,17,18,19],[0,1,2,3,4,5,6,7,8,9,10,11,12,13,14,15,16,17,18,19,20],[0,1,2,3,4,5,6,7,8,9,10,11,12,13,14,15,16,17,18,19,20,21]] [VIs (.pointer (some ⟨w.heap.size,0,none⟩)),VIs (.int .i64 (p)),VIs (.bool true),VIs (.bool true),VIs (.pointer (some ⟨w.heap.size,1,none⟩)),VIs (.slice A k c),VIs (.int .i64 (k)),VIs (.bool false),VIs (.bool false),VIs (.bool false),VIs undef,VIs undef,VIs undef,VIs undef,VIs undef,VIs (.bool false),VIs (.bool false),VIs undef,VIs undef,VIs undef,VIs undef,VIs (.bool false),VIs (.bool false)] (fun w'=>Blk w' w.heap.size 26 #[.int .i64 p,.slice A k c]∧Below w.heap.size w w') (by kernel_rfl) (by kernel_rfl) (fun _ _ h hb=>⟨h.1.below hb h.1.lt,h.2.trans (hb.mono h.2.size)⟩) (⟨k0.drew,hB0.drew⟩) (fun x=>?_)
   refine zS (fun w' hS hV K hK=>?_) ?_
   ·obtain⟨q0,q1⟩:=hS.1.two;go_simp;exact zO hK
   refine zS (fun w' hS hV K hK=>?_) ?_
   ·have e0:=zQ hV 0;obtain⟨q0,q1⟩:=hS.1.two;go_simp;exact zO hK
   refine zS (fun w' hS hV K hK=>?_) ?_
   ·have e1:=zQ hV 1;obtain⟨q0,q1⟩:=hS.1.two;go_simp;refine (um _ _ H1.out).mono ?_;rintro e v1 ⟨rfl,rfl⟩;exact zO hK
   refine zS (fun w' hS hV K hK=>?_) ?_
   ·have e2:=zQ hV 2;obtain⟨q0,q1⟩:=hS.1.two;go_simp;exact zO hK
   refine zS (fun w' hS hV K hK=>?_) ?_
   ·have e3:=zQ hV 3;obtain⟨q0,q1⟩:=hS.1.two;go_simp;exact zO hK
   refine zS (fun w' hS hV K hK=>?_) ?_
   ·have e3:=zQ hV 3;have e4:=zQ hV 4;obtain⟨q0,q1⟩:=hS.1.two;go_simp;exact zO hK
   refine zS (fun w' hS hV K hK=>?_) ?_
   ·have e3:=zQ hV 3;have e5:=zQ hV 5;obtain⟨q0,q1⟩:=hS.1.two;go_simp;exact zO hK
   refine zS (fun w' hS hV K hK=>?_) ?_
   ·have e3:=zQ hV 3;have e6:=zQ hV 6;obtain⟨q0,q1⟩:=hS.1.two;go_simp;exact zO hK
   refine zS (fun w' hS hV K hK=>?_) ?_
   ·have e3:=zQ hV 3;have e7:=zQ hV 7;obtain⟨q0,q1⟩:=hS.1.two;go_simp;exact zO hK
   refine zS (fun w' hS hV K hK=>?_) ?_
   ·have e8:=zQ hV 8;obtain⟨q0,q1⟩:=hS.1.two;go_simp;exact zO hK
   refine zS (fun w' hS hV K hK=>?_) ?_
   ·have e9:=zQ hV 9;obtain⟨q0,q1⟩:=hS.1.two;go_simp;exact zO hK
   refine zS (fun w' hS hV K hK=>?_) ?_
   ·have e9:=zQ hV 9;have e10:=zQ hV 10;obtain⟨q0,q1⟩:=hS.1.two;go_simp;exact zO hK
   refine zS (fun w' hS hV K hK=>?_) ?_
   ·have e9:=zQ hV 9;obtain⟨q0,q1⟩:=hS.1.two;go_simp;exact zO hK
   refine zS (fun w' hS hV K hK=>?_) ?_
   ·have e9:=zQ hV 9;have e12:=zQ hV 12;obtain⟨q0,q1⟩:=hS.1.two;go_simp;exact zO hK
   refine zS (fun w' hS hV K hK=>?_) ?_
   ·have e9:=zQ hV 9;have e11:=zQ hV 11;have e13:=zQ hV 13;obtain⟨q0,q1⟩:=hS.1.two;go_simp;exact zO hK
   refine zS (fun w' hS hV K hK=>?_) ?_
   ·have e9:=zQ hV 9;have e14:=zQ hV 14;obtain⟨q0,q1⟩:=hS.1.two;go_simp;exact zO hK
   refine zS (fun w' hS hV K hK=>?_) ?_
   ·have e15:=zQ hV 15;obtain⟨q0,q1⟩:=hS.1.two;go_simp;exact zO hK
   refine zS (fun w' hS hV K hK=>?_) ?_
   ·have e16:=zQ hV 16;obtain⟨q0,q1⟩:=hS.1.two;go_simp;exact zO hK
   refine zS (fun w' hS hV K hK=>?_) ?_
   ·have e16:=zQ hV 16;have e17:=zQ hV 17;obtain⟨q0,q1⟩:=hS.1.two;go_simp;exact zO hK
   refine zS (fun w' hS hV K hK=>?_) ?_
   ·have e16:=zQ hV 16;have e18:=zQ hV 18;obtain⟨q0,q1⟩:=hS.1.two;go_simp;exact zO hK
   refine zS (fun w' hS hV K hK=>?_) ?_
   ·have e16:=zQ hV 16;have e19:=zQ hV 19;obtain⟨q0,q1⟩:=hS.1.two;go_simp;exact zO hK
   refine zS (fun w' hS hV K hK=>?_) ?_
   ·have e16:=zQ hV 16;have e20:=zQ hV 20;obtain⟨q0,q1⟩:=hS.1.two;go_simp;exact zO hK
   refine zS (fun w' hS hV K hK=>?_) ?_
   ·have e21:=zQ hV 21;obtain⟨q0,q1⟩:=hS.1.two;go_simp;exact zO hK
   refine fun w' hS hV=>?_
   have e0:=zT hV 0
   have e1:=zT hV 1
   have e2:=zT hV 2
   have e3:=zT hV 3
   have e4:=zT hV 4
   have e5:=zT hV 5
   have e6:=zT hV 6
   have e7:=zT hV 7
   have e8:=zT hV 8
   have e9:=zT hV 9
   have e10:=zT hV 10
   have e11:=zT hV 11
   have e12:=zT hV 12
   have e13:=zT hV 13
   have e14:=zT hV 14
   have e15:=zT hV 15
   have e16:=zT hV 16
   have e17:=zT hV 17
   have e18:=zT hV 18
   have e19:=zT hV 19
   have e20:=zT hV 20
   have e21:=zT hV 21
   have e22:=zT hV 22
   simp only[e0,e1,e2,e3,e4,e5,e6,e7,e8,e9,e10,e11,e12,e13,e14,e15,e16,e17,e18,e19,e20,e21,e22]
   clear e0 e1 e2 e3 e4 e5 e6 e7 e8 e9 e10 e11 e12 e13 e14 e15 e16 e17 e18 e19 e20 e21 e22
   refine wpAny_done (by kernel_rfl) ?_ _
   go_wp2
   go_ret
   exact⟨yJ (by unfold isDb;rw[Hx.out];simp[H1.out,h2]),hS.2⟩
def isEl (p:Int) (k:Nat) (ys:List Int):Bool:=((ys.length:Nat):Int) == ((pw k:Nat):Int) && nums p ys
def xi (p:Int) (st:List Int) (yss:List (List Int)):Int:=if isDb p st then (if yss.any fun ys=>!(isEl p st.length ys) then 2 else 0) else 1
set_option maxHeartbeats 800000 in
set_option maxRecDepth 8000 in
theorem ygt (p:Int) (k:Nat) (g:Nat) (A:Option Addr) (c:Nat) (w:World) (hk4:k≤4) (hp0:0<p) (hp1:p≤13) (hk:Blk w g 26 #[.int .i64 p,.slice A k c]) :
 uo 142 #[.pointer (some ⟨g,0,none⟩)] w (fun ys=>!(isEl p k ys)) (fun ys=>ys.length≤1048576):=by
 intro w' D m d ys hb hr hm
 have hyl:ys.length=m:=by have:=hr.1;rwa [yD]at this
 rw[hyl]at hm
 have k0:=hk.below hb hk.lt
 obtain⟨q0,q1⟩:=k0.two
 have hmu:isEl p k ys=((((m:Nat):Int) == ((pw k:Nat):Int)) && nums p ys):=by unfold isEl;rw[hyl]
 have Hmu:=Lib.hid hmu
 clear hyl hmu
 simp only[List.append_toArray,List.cons_append,List.nil_append]
 cases h2:(((m:Nat):Int) == ((pw k:Nat):Int))
 all_goals
  have H2:=Lib.hid h2
  have h3:(((m:Nat):Int) != ((pw k:Nat):Int)) = !(((m:Nat):Int) == ((pw k:Nat):Int)):=rfl
  rw[h2]at h3
  go_enter Tryz.func142,Tryz.ntmps142
  go_wp2_with fail
  refine (z8 p A k c _ hk4).mono ?_
  rintro e w1 ⟨rfl,hb1⟩
  have k1:=k0.below hb1 k0.lt
  obtain⟨q0,q1⟩:=k1.two
  clear k0
  go_wp2_with fail
 ·go_ret
  exact⟨yJ (by rw[Hmu.out,H2.out];rfl),hb1⟩
 ·refine (zb p A k c _).mono ?_
  rintro e w2 ⟨rfl,hb2⟩
  have hB2:=hb1.trans (hb2.mono hb1.size)
  obtain⟨b,hb'⟩:∃ b,b=nums p ys:=⟨_,rfl⟩
  have HB:=Lib.hid hb'
  clear hb'
  go_wp2_with fail
  refine (is_b _ _ _ _ _ _ hp0 (by omega) (by omega) (hr.below hB2) HB.out.symm).mono ?_
  rintro e w3 ⟨rfl,rfl⟩
  go_wp2
  go_ret
  exact⟨yJ (by rw[Hmu.out,H2.out,HB.out];rfl),hB2⟩
set_option maxHeartbeats 1000000 in
set_option maxRecDepth 8000 in
theorem ydO (p:Int) (A B:Option Addr) (k c m d:Nat) (st:List Int) (yss:List (List Int)) (w:World) (hk6:k≤65536) (hm:m≤1048576) (ha:Rd w A k (ints st)) (hb:RdII w B m yss) (hys:∀ ys∈yss,ys.length≤1048576) :
 Calls Tryz.prog 96 #[.agg #[.int .i64 p,.slice A k c],.slice B m d] w fun e w'=>e=.returned (.int .i64 (xi p st yss))∧Below w.heap.size w w':=by
 have hxl:st.length=k:=ha.lenI
 have hB:Below w.heap.size w (w.alloc (.cells #[.int .i64 p,.slice A k c] 26)):=zG.alloc (Nat.le_refl _) _
 have k0:Blk (w.alloc (.cells #[.int .i64 p,.slice A k c] 26)) w.heap.size 26 #[.int .i64 p,.slice A k c]:=Blk.new _ _ _
 have hmf:∀ (fn:Fn) (first cap:Array Value) (w:World),(Instr.makeFunc fn first cap).run Tryz.prog w=.ok (.func fn first cap) w:=fun _ _ _ _=>rfl
 have hD:=yaG p A k c st (w.alloc (.cells #[.int .i64 p,.slice A k c] 26)) hk6 (ha.below hB)
 cases h1:isDb p st
 ·rw[h1]at hD
  have HD:=Lib.hid hD
  have H1:=Lib.hid h1
  clear h1 hxl hD
  go_enter Tryz.func96,Tryz.ntmps96
  go_wp2_with fail
  refine HD.out.mono ?_
  rintro e w1 ⟨rfl,hb1⟩
  go_wp2
  go_ret
  exact⟨xu (by unfold xi;rw[H1.out];rfl),hB.trans (hb1.mono (by simp))⟩
 rw[h1]at hD
 have HD:=Lib.hid hD
 have hP:isP p=true∧k≤4:=by
  unfold isDb at h1
  simp only[Bool.and_eq_true,decide_eq_true_eq]at h1
  exact⟨h1.1.1.1,by have:=h1.1.1.2;omega⟩
 obtain⟨hp,hk4⟩:=hP
 obtain⟨hp0,hp1⟩:=jV hp
 have H1:=Lib.hid h1;have Hx:=Lib.hid hxl;clear h1 hp hxl hD
 cases h2:(yss.any fun ys=>!(isEl p k ys))
 all_goals
  have H2:=Lib.hid h2;clear h2
  go_enter Tryz.func96,Tryz.ntmps96
  go_wp2_with fail
  refine HD.out.mono ?_
  rintro e w1 ⟨rfl,hb1⟩
  have hB1:=hB.trans (hb1.mono (by simp))
  have hT:=ygt p k w.heap.size A c w1 hk4 hp0 hp1 (k0.below hb1 k0.lt)
  go_wp2_with fail
  refine (ydm _ _ _ _ _ _ _ _ _ (by omega) (hb.below hB1) hys hT (fun _ _=>rfl)).mono ?_
  rintro e w2 ⟨rfl,hb2⟩
  rw[H2.out]
  go_wp2
  go_ret
  exact⟨xu (by unfold xi;rw[H1.out,Hx.out,H2.out];rfl),hB1.trans (hb2.mono hB1.size)⟩
theorem yfi {p:Int} {k:Nat} {ys:List Int} (h:ys.length=pw k) (hn:NumsL p ys):isEl p k ys=true:=by
 unfold isEl nums
 rw[h,Bool.and_eq_true]
 exact⟨by simp,List.all_eq_true.2 fun x hx=>by have:=hn x hx;simp[inR];omega⟩
theorem yek {p:Int} {st:List Int} {yss:List (List Int)} (h:isDb p st=true) (hy:∀ ys∈yss,ys.length=pw st.length∧NumsL p ys):xi p st yss=0:=by
 unfold xi
 rw[h,if_pos rfl,if_neg]
 intro hh
 obtain⟨ys,h1,e⟩:=List.any_eq_true.1 hh
 rw[yfi (hy ys h1).1 (hy ys h1).2]at e
 cases e
theorem ze {p:Int} {st:List Int} (h:isDb p st=true):isP p=true∧st.length≤4∧NumsL p st:=by
 unfold isDb at h
 simp only[Bool.and_eq_true,decide_eq_true_eq]at h
 exact⟨h.1.1.1,h.1.1.2,ycn h.1.2⟩
def cmtL (p:Int) (k:Nat) (st x y:List Int):List Int:=yp p (dblL p k st x y) (dblL p k st y x) (-1)
def assL (p:Int) (k:Nat) (st x y z:List Int):List Int:=yp p (dblL p k st (dblL p k st x y) z) (dblL p k st x (dblL p k st y z)) (-1)
def innL (p:Int) (k:Nat) (st x y z:List Int):List Int:=yp p (cmtL p k st (cmtL p k st x y) z) (assL p k st x y z) (-3)
theorem ya1 (p:Int) (k:Nat) (st x y:List Int):(cmtL p k st x y).length=pw k:=(yP _ _ _ _).trans (zu p k st x y)
theorem ydB (p:Int) (k:Nat) (st x y z:List Int):(assL p k st x y z).length=pw k:=(yP _ _ _ _).trans (zu p k st _ z)
theorem ybF (p:Int) (k:Nat) (st x y z:List Int):(innL p k st x y z).length=pw k:=(yP _ _ _ _).trans (ya1 p k st _ z)
theorem ya2 {p:Int} (hp:0<p) (k:Nat) (st x y:List Int):NumsL p (cmtL p k st x y):=xK hp _ _ _
theorem ydC {p:Int} (hp:0<p) (k:Nat) (st x y z:List Int):NumsL p (assL p k st x y z):=xK hp _ _ _
theorem ybG {p:Int} (hp:0<p) (k:Nat) (st x y z:List Int):NumsL p (innL p k st x y z):=xK hp _ _ _
end Go.Proofs.YtaiegpggccdgoaaGreat
namespace Go.Proofs.YtaiegpggccdgoaaGreat
open Go Go.RowKit
set_option maxHeartbeats 800000 in
set_option maxRecDepth 8000 in
theorem xl (p n:Int) (w:World) (hp:0<p) (hp2:p≤13) (_h1:-1000000000000≤n) (_h2:n≤1000000000000) :
 Calls Tryz.prog 136 #[.int .i64 p,.int .i64 n] w fun e w'=>e=.returned (.int .i64 (n%p))∧w=w':=by
 go_enter Tryz.func136,Tryz.ntmps136
 go_wp2
 go_ret
 exact⟨xu (ycl p n hp hp2),rfl⟩
set_option maxHeartbeats 1600000 in
set_option maxRecDepth 8000 in
theorem xm (p:Int) (f:Int) (A:Option Addr) (n c:Nat) (xs:List Int) (w:World) (hp:2≤p) (hp2:p≤13) (hn:n≤65536) (ha:Rd w A n (ints xs)) (hx:NumsL p xs) (hf1:0≤f) (hf2:f≤1000) :
 Calls Tryz.prog 93 #[.int .i64 p,.int .i64 f,.slice A n c] w fun e w'=>∃ A' c',e=.returned (.slice A' n c')∧MkI w w' A' n c' (yl p xs f):=by
 have hxl:xs.length=n:=by have:=ha.1;rwa [yD]at this
 have Hx:=Lib.hid hxl;clear hxl
 have hM0:=Mk.lit (E:=2) (Below.refl w.heap.size w) #[] (by simp)
 go_enter Tryz.func93,Tryz.ntmps93
 go_wp2
 go_loopw [7,8] (fun out i wr=>∃ (k:Nat) (A':Option Addr) (c':Nat),k≤n∧i=.int .i64 k∧out=.slice A' k c'∧MkI w wr A' k c' ((yl p xs f).take k)) (fun _ i _=>n-(intOf i).toNat)
 case atStart=>exact⟨0,_,_,by omega,rfl,rfl,by simpa [MkI,ints] using hM0⟩
 case round=>
  obtain⟨k,A',c',hk,rfl,rfl,hM⟩:=hrel
  clear hM0
  by_cases hlt:k<n
  ·obtain⟨g,o,rfl,hxk,hcx⟩:=ha.int hlt
   have hc0:wr.cell? ⟨g,o+k,none⟩=some (.int .i64 xs[k]):=(hM.1.cell (World.block_lt_of_cell? _ _ hcx)).trans hcx
   obtain⟨x1,x2⟩:=hx _ (List.getElem_mem hxk)
   have HM:=Lib.hid hM
   obtain⟨m1,m2⟩:=uM hf1 hf2 x1 (show xs[k]≤13 by omega)
   have hmod:=xl p (f*xs[k]) wr (by omega) hp2 (by omega) (by omega)
   rw[Int.mul_comm f]at m1 m2 hmod
   have ecomm:f*xs[k]=xs[k]*f:=Int.mul_comm _ _
   clear ha hM hcx
   go_wp2_with fail
   refine hmod.mono ?_
   rintro e w3 ⟨rfl,rfl⟩
   clear ecomm
   go_wp2_with (at_builtin;refine yt w _ 24 2 _ _ Tryz.underlying24 yo rfl (by omega) rfl _ _ rfl A' k c' _ _ HM.out (by omega) rfl rfl rfl ?_;intro A2 c2 w2 hM2 _ _)
   go_roundw
   case rel=>exact⟨k+1,A2,c2,by omega,by go_num,rfl,by rw[ycS p xs f k hxk];simpa [MkI,ints] using hM2⟩
   case measure=>simp[intOf];omega
  ·go_wp2
   go_ret
   obtain rfl:k=n:=by omega
   rw[List.take_of_length_le (by rw[zR,Hx.out];omega)]at hM
   exact⟨_,_,rfl,hM⟩
theorem ygE {p:Int} {a b:List Int} {k:Nat} (ha:k<a.length) (hb:k<b.length):(yp p a b 1).take (k+1)=(yp p a b 1).take k++[(a[k]+b[k])%p]:=by
 have hl:k<(yp p a b 1).length:=by rw[yP];exact ha
 rw[List.take_succ_eq_append_getElem hl]
 congr 2
 have:=zw (p:=p) b 1 ha
 rw[yc 0 hl,yc 0 ha,yc 0 hb,Int.one_mul]at this
 exact this
set_option maxHeartbeats 1600000 in
set_option maxRecDepth 8000 in
theorem qx (p:Int) (A:Option Addr) (n c:Nat) (xs:List Int) (B:Option Addr) (m d:Nat) (ys:List Int) (w:World) (hp:2≤p) (hp2:p≤13) (hn:n≤65536) (hnm:n≤m) (ha:Rd w A n (ints xs)) (hx:NumsL p xs) (hb:Rd w B m (ints ys)) (hy:NumsL p ys) :
 Calls Tryz.prog 92 #[.int .i64 p,.slice A n c,.slice B m d] w fun e w'=>∃ A' c',e=.returned (.slice A' n c')∧MkI w w' A' n c' (yp p xs ys 1):=by
 have hxl:xs.length=n:=ha.lenI
 have Hx:=Lib.hid hxl;clear hxl
 have hM0:=Mk.lit (E:=2) (Below.refl w.heap.size w) #[] (by simp)
 go_enter Tryz.func92,Tryz.ntmps92
 go_wp2
 go_loopw [7,8] (fun out i wr=>∃ (j:Nat) (A':Option Addr) (c':Nat),j≤n∧i=.int .i64 j∧out=.slice A' j c'∧MkI w wr A' j c' ((yp p xs ys 1).take j)) (fun _ i _=>n-(intOf i).toNat)
 case atStart=>exact⟨0,_,_,by omega,rfl,rfl,by simpa [MkI,ints] using hM0⟩
 case round=>
  obtain⟨j,A',c',hj,rfl,rfl,hM⟩:=hrel
  clear hM0
  by_cases hlt:j<n
  ·obtain⟨g,o,rfl,hxj,hcx⟩:=(ha.below hM.b).int hlt
   obtain⟨g2,o2,rfl,hyj,hcy⟩:=(hb.below hM.b).int (show j<m by omega)
   obtain⟨x1,x2⟩:=hx _ (List.getElem_mem hxj)
   obtain⟨y1,y2⟩:=hy _ (List.getElem_mem hyj)
   have HV:Hid ((yp p xs ys 1).take (j+1)=(yp p xs ys 1).take j++[(xs[j]+ys[j])%p]):=Lib.hid (ygE hxj hyj)
   have W2:=yi (xs[j]+ys[j]) (by omega) (by omega)
   have i1:(0:Int)≤(j:Int):=by omega
   have i2:(j:Int)<(n:Int):=by omega
   have i3:(j:Int)<(m:Int):=by omega
   go_wp2
   refine yh 13 [[],[],[],[],[2,3],[2,3,4],[],[],[6,7],[6,7,8],[2,3,4,5,6,7,8,9],[1,2,3,4,5,6,7,8,9,10],[1,2,3,4,5,6,7,8,9,10,11],[0,1,2,3,4,5,6,7,8,9,10,11,12],[0,1,2,3,4,5,6,7,8,9,10,11,12,13]] [VIs (.slice A' j c'),VIs (.int .i64 (p)),VIs (.slice (some ⟨g,o,none⟩) n c),VIs (.int .i64 (j)),VIs (.pointer (some ⟨g,o+j,none⟩)),VIs (.int .i64 (xs[j])),VIs (.slice (some ⟨g2,o2,none⟩) m d),VIs (.int .i64 (j)),VIs (.pointer (some ⟨g2,o2+j,none⟩)),VIs (.int .i64 (ys[j])),VIs (.int .i64 (xs[j]+ys[j])),VIs (.int .i64 ((xs[j]+ys[j])%p)),VBs 2 #[.int .i64 ((xs[j]+ys[j])%p)]] (fun w'=>MkI w w' A' j c' ((yp p xs ys 1).take j)∧w'.cell? ⟨g,o+j,none⟩=some (.int .i64 xs[j])∧w'.cell? ⟨g2,o2+j,none⟩=some (.int .i64 ys[j])) (by kernel_rfl) (by kernel_rfl) (fun _ _ h hb=>⟨h.1.below hb,(hb.cell (World.block_lt_of_cell? _ _ h.2.1)).trans h.2.1,(hb.cell (World.block_lt_of_cell? _ _ h.2.2)).trans h.2.2⟩) (⟨hM.below zG.drew,hcx,hcy⟩) (fun x=>?_)
   refine zS (fun w' hS hV K hK=>?_) ?_
   ·obtain⟨_,q1,q2⟩:=hS;go_simp;exact zO hK
   refine zS (fun w' hS hV K hK=>?_) ?_
   ·obtain⟨_,q1,q2⟩:=hS;go_simp;exact zO hK
   refine zS (fun w' hS hV K hK=>?_) ?_
   ·obtain⟨_,q1,q2⟩:=hS;go_simp;exact zO hK
   refine zS (fun w' hS hV K hK=>?_) ?_
   ·obtain⟨_,q1,q2⟩:=hS;go_simp;exact zO hK
   refine zS (fun w' hS hV K hK=>?_) ?_
   ·have e2:=zQ hV 2;have e3:=zQ hV 3;obtain⟨_,q1,q2⟩:=hS;go_simp;exact zO hK
   refine zS (fun w' hS hV K hK=>?_) ?_
   ·have e4:=zQ hV 4;obtain⟨_,q1,q2⟩:=hS;go_simp;exact zO hK
   refine zS (fun w' hS hV K hK=>?_) ?_
   ·obtain⟨_,q1,q2⟩:=hS;go_simp;exact zO hK
   refine zS (fun w' hS hV K hK=>?_) ?_
   ·obtain⟨_,q1,q2⟩:=hS;go_simp;exact zO hK
   refine zS (fun w' hS hV K hK=>?_) ?_
   ·have e6:=zQ hV 6;have e7:=zQ hV 7;obtain⟨_,q1,q2⟩:=hS;go_simp;exact zO hK
   refine zS (fun w' hS hV K hK=>?_) ?_
   ·have e8:=zQ hV 8;obtain⟨_,q1,q2⟩:=hS;go_simp;exact zO hK
   refine zS (fun w' hS hV K hK=>?_) ?_
   ·have e5:=zQ hV 5;have e9:=zQ hV 9;obtain⟨_,q1,q2⟩:=hS;go_simp;exact zO hK
   refine zS (fun w' hS hV K hK=>?_) ?_
   ·have e1:=zQ hV 1;have e10:=zQ hV 10;obtain⟨_,q1,q2⟩:=hS;go_simp;refine (xl p (xs[j]+ys[j]) w' (by omega) hp2 (by omega) (by omega)).mono ?_;rintro e v1 ⟨rfl,rfl⟩;exact zO hK
   refine zS (fun w' hS hV K hK=>?_) ?_
   ·have e11:=zQ hV 11;obtain⟨_,q1,q2⟩:=hS;go_simp;exact hK.out _ _ _ rfl rfl ⟨_,rfl,Blk.new _ _ _⟩ (zG.alloc (Nat.le_refl _) _)
   refine fun w' hS hV=>?_
   have e0:=zT hV 0
   have e1:=zT hV 1
   have e2:=zT hV 2
   have e3:=zT hV 3
   have e4:=zT hV 4
   have e5:=zT hV 5
   have e6:=zT hV 6
   have e7:=zT hV 7
   have e8:=zT hV 8
   have e9:=zT hV 9
   have e10:=zT hV 10
   have e11:=zT hV 11
   obtain⟨b12,e12,h12⟩:=hV 12 (by decide)
   simp only[e0,e1,e2,e3,e4,e5,e6,e7,e8,e9,e10,e11,e12]
   clear e0 e1 e2 e3 e4 e5 e6 e7 e8 e9 e10 e11 e12
   obtain⟨s1,s2,s3⟩:=hS
   refine xg (j:=13) (by kernel_rfl) (Eq.trans (by simp only[zA,zB,zC];exact rfl) rfl) rfl (fun K hK=>?_)
   refine q8 w w' 24 2 _ _ Tryz.underlying24 yo rfl (by omega) _ _ rfl A' j c' _ _ s1 (by omega) rfl _ h12 (by rfl) (by rfl) ?_
   intro A2 c2 w2 hM2 hgr
   refine hK.out _ _ ?_
   simp only[Act.put,zD,zE,zF]
   refine yK (j:=14) (by kernel_rfl) (Eq.trans (by simp only[zA,zB,zC];exact rfl) rfl) (fun K hK=>?_)
   go_simp
   refine hK.out _ _ (wpAny_done (by kernel_rfl) ?_ _)
   clear W2 s2 s3 hM
   go_wp2
   go_roundw
   case rel=>exact⟨j+1,A2,c2,by omega,by go_num,rfl,by rw[HV.out];simpa [MkI,ints] using hM2⟩
   case measure=>simp[intOf];omega
  ·go_wp2
   go_ret
   obtain rfl:j=n:=by omega
   rw[List.take_of_length_le (by rw[yP,Hx.out];omega)]at hM
   exact⟨_,_,rfl,hM⟩
theorem ygn {p:Int} {x y:List Int} (hl:x.length≤y.length):yp p x (yl p y (p-1)) 1=yp p x y (-1):=by
 refine yU 0 (by rw[yP,yP]) fun i hi=>?_
 rw[yP]at hi
 rw[zw _ _ hi,zw _ _ hi,z4 _ (by omega),Int.one_mul,Int.add_emod,Int.emod_emod_of_dvd _ (Int.dvd_refl p),← Int.add_emod,show x.getD i 0+y.getD i 0*(p-1)=x.getD i 0 + -1*y.getD i 0+p*y.getD i 0 by rw[Int.mul_sub,Int.mul_one,Int.mul_comm (y.getD i 0) p];omega,Int.add_mul_emod_self_left]
set_option maxHeartbeats 1600000 in
set_option maxRecDepth 8000 in
theorem vG (p:Int) (A:Option Addr) (n c:Nat) (xs:List Int) (B:Option Addr) (m d:Nat) (ys:List Int) (w:World) (hp:2≤p) (hp2:p≤13) (hm:m≤65536) (hnm:n≤m) (ha:Rd w A n (ints xs)) (hx:NumsL p xs) (hb:Rd w B m (ints ys)) (hy:NumsL p ys) :
 Calls Tryz.prog 123 #[.int .i64 p,.slice A n c,.slice B m d] w fun e w'=>∃ A' c',e=.returned (.slice A' n c')∧MkI w w' A' n c' (yp p xs ys (-1)):=by
 have hsc:=xm p (p-1) B m d ys w hp hp2 hm hb hy (by omega) (by omega)
 have hadd:=fun wx (Y:Option Addr) (cy:Nat) (h:MkI w wx Y m cy (yl p ys (p-1)))=>qx p A n c xs Y m cy (yl p ys (p-1)) wx hp hp2 (by omega) hnm (ha.below h.b) hx h.rd (zU (by omega) _ _)
 rw[ygn (by rw[ha.lenI,hb.lenI];exact hnm)]at hadd
 obtain⟨Z,hZ⟩:∃ Z,Z=yp p xs ys (-1):=⟨_,rfl⟩
 rw[← hZ]at hadd ⊢
 have HADD:=Lib.hid hadd
 clear hZ hadd
 go_enter Tryz.func123,Tryz.ntmps123
 go_wp2_with fail
 refine hsc.mono ?_
 rintro e w2 ⟨Y,cy,rfl,hM⟩
 have h2:=HADD.out w2 Y cy hM
 go_wp2_with fail
 refine h2.mono ?_
 rintro e w3 ⟨Z3,c3,rfl,hM3⟩
 go_wp2
 go_ret
 exact⟨_,_,rfl,hM3.after hM.b⟩
theorem yhd (p:Int) (x:List Int):yl p x (p-1)=yl p x (-1):=by
 refine yU 0 (by rw[zR,zR]) fun i hi=>?_
 rw[zR]at hi
 rw[z4 _ hi,z4 _ hi,show x.getD i 0*(p-1)=x.getD i 0 * -1+p*x.getD i 0 by rw[Int.mul_sub,Int.mul_one,Int.mul_comm (x.getD i 0) p];omega,Int.add_mul_emod_self_left]
set_option maxHeartbeats 400000 in
set_option maxRecDepth 8000 in
theorem ybU (p:Int) (X:Option Addr) (n c:Nat) (xs:List Int) (w:World) (hp:2≤p) (hp2:p≤13) (hn:n≤65536) (h0:0<n) (hx:Rd w X n (ints xs)) (hxs:NumsL p xs) :
 Calls Tryz.prog 161 #[.int .i64 p,.slice X n c] w fun e w'=>∃ A' c',e=.returned (.slice A' n c')∧MkI w w' A' n c' (yE p xs):=by
 obtain⟨gx,ox,rfl,hxk,hcx⟩:=hx.int h0
 rw[Nat.add_zero]at hcx
 have hs1:=xm p (p-1) (some ⟨gx,ox,none⟩) n c xs w hp hp2 hn hx hxs (by omega) (by omega)
 rw[yhd]at hs1
 have HS1:=Lib.hid hs1
 clear hs1
 have HE:Hid (xs[0]=xs.getD 0 0):=Lib.hid (by rw[List.getD_eq_getElem?_getD,List.getElem?_eq_getElem hxk];rfl)
 have hlt:=World.block_lt_of_cell? _ _ hcx
 go_enter Tryz.func161,Tryz.ntmps161
 go_wp2_with fail
 refine HS1.out.mono ?_
 rintro e w1 ⟨G,c1,rfl,hM⟩
 have hcx1:=(hM.b.cell hlt).trans hcx
 rcases hM.2.form with ⟨_,hz⟩ | ⟨g,rfl,hg,_⟩
 ·omega
 ·obtain⟨u1,hc1⟩:=hM.2.cellI h0
  have hf1:=hM.2.frozen_ 0
  have hset:=(hM.set 0 (.int .i64 xs[0])).1
  rw[yN,HE.out]at hset
  have HS:=Lib.hid hset
  clear hM hset
  go_wp2
  go_ret
  exact⟨_,_,rfl,by rw[HE.out];exact HS.out⟩
end Go.Proofs.YtaiegpggccdgoaaGreat
namespace Go.Proofs.YtaiegpggccdgoaaGreat
open Go.RowKit
set_option maxHeartbeats 1600000 in
set_option maxRecDepth 8000 in
theorem yfN (p:Int) (hp:2≤p) (hp2:p≤13) (A:Option Addr) (c:Nat) (X:Option Addr) (cx:Nat) (xs:List Int) (Y:Option Addr) (cy:Nat) (ys:List Int) (w:World) (hx:Rd w X 1 (ints xs)) (hxs:NumsL p xs) (hy:Rd w Y 1 (ints ys)) (hys:NumsL p ys) :
 Calls Tryz.prog 156 #[.int .i64 p,.slice A 0 c,.slice X 1 cx,.slice Y 1 cy] w fun e w'=>∃ A' c',e=.returned (.slice A' 1 c')∧MkI w w' A' 1 c' [(xs.getD 0 0*ys.getD 0 0)%p]:=by
 obtain⟨gx,ox,rfl,hxk,hcx⟩:=hx.int (show 0<1 by omega)
 obtain⟨gy,oy,rfl,hyk,hcy⟩:=hy.int (show 0<1 by omega)
 rw[Nat.add_zero]at hcx hcy
 have b1:=hxs _ (List.getElem_mem hxk)
 have b2:=hys _ (List.getElem_mem hyk)
 have e1:xs.getD 0 0=xs[0]:=by rw[List.getD_eq_getElem?_getD,List.getElem?_eq_getElem hxk];rfl
 have e2:ys.getD 0 0=ys[0]:=by rw[List.getD_eq_getElem?_getD,List.getElem?_eq_getElem hyk];rfl
 rw[e1,e2]
 obtain⟨x0,hx0⟩:∃ z,z=xs[0]:=⟨_,rfl⟩
 obtain⟨y0,hy0⟩:∃ z,z=ys[0]:=⟨_,rfl⟩
 rw[← hx0]at hcx b1 ⊢
 rw[← hy0]at hcy b2 ⊢
 have hm1:0≤x0*y0:=Int.mul_nonneg b1.1 b2.1
 have hm2:x0*y0≤13*13:=Int.mul_le_mul (by omega) (by omega) b2.1 (by omega)
 have HB:-1000000000000≤x0*y0∧x0*y0≤1000000000000:=by omega
 have hwr:IntKind.i64.wrap (x0*y0)=x0*y0:=yi _ HB.1 HB.2
 clear e1 e2 hx0 hy0 hx hy hm1 hm2 b1 b2
 go_enter Tryz.func156,Tryz.ntmps156
 go_wp2
 refine yh 11 [[],[],[1],[1,2],[],[4],[4,5],[1,2,3,4,5,6],[0,1,2,3,4,5,6,7],[0,1,2,3,4,5,6,7,8],[0,1,2,3,4,5,6,7,8,9]] [VIs (.int .i64 (p)),VIs (.slice (some ⟨gx,ox,none⟩) 1 cx),VIs (.pointer (some ⟨gx,ox,none⟩)),VIs (.int .i64 (x0)),VIs (.slice (some ⟨gy,oy,none⟩) 1 cy),VIs (.pointer (some ⟨gy,oy,none⟩)),VIs (.int .i64 (y0)),VIs (.int .i64 (x0*y0)),VIs (.int .i64 ((x0*y0)%p)),VSl w 1 [(x0*y0)%p],VSl w 1 [(x0*y0)%p]] (fun w'=>w'.cell? ⟨gx,ox,none⟩=some (.int .i64 x0)∧w'.cell? ⟨gy,oy,none⟩=some (.int .i64 y0)∧Below w.heap.size w w') (by kernel_rfl) (by kernel_rfl) (fun _ _ h hb=>⟨(hb.cell (World.block_lt_of_cell? _ _ h.1)).trans h.1,(hb.cell (World.block_lt_of_cell? _ _ h.2.1)).trans h.2.1,h.2.2.trans (hb.mono h.2.2.size)⟩) (⟨hcx,hcy,zG.drew⟩) (fun x=>?_)
 refine zS (fun w' hS hV K hK=>?_) ?_
 ·have q0:=hS.1;have q1:=hS.2.1;go_simp;exact zO hK
 refine zS (fun w' hS hV K hK=>?_) ?_
 ·have q0:=hS.1;have q1:=hS.2.1;go_simp;exact zO hK
 refine zS (fun w' hS hV K hK=>?_) ?_
 ·have e1:=zQ hV 1;have q0:=hS.1;have q1:=hS.2.1;go_simp;exact zO hK
 refine zS (fun w' hS hV K hK=>?_) ?_
 ·have e2:=zQ hV 2;have q0:=hS.1;have q1:=hS.2.1;go_simp;exact zO hK
 refine zS (fun w' hS hV K hK=>?_) ?_
 ·have q0:=hS.1;have q1:=hS.2.1;go_simp;exact zO hK
 refine zS (fun w' hS hV K hK=>?_) ?_
 ·have e4:=zQ hV 4;have q0:=hS.1;have q1:=hS.2.1;go_simp;exact zO hK
 refine zS (fun w' hS hV K hK=>?_) ?_
 ·have e5:=zQ hV 5;have q0:=hS.1;have q1:=hS.2.1;go_simp;exact zO hK
 refine zS (fun w' hS hV K hK=>?_) ?_
 ·have e3:=zQ hV 3;have e6:=zQ hV 6;have q0:=hS.1;have q1:=hS.2.1;go_simp;exact zO hK
 refine zS (fun w' hS hV K hK=>?_) ?_
 ·have e0:=zQ hV 0;have e7:=zQ hV 7;have q0:=hS.1;have q1:=hS.2.1;go_simp;refine (xl p (x0*y0) w' (by omega) hp2 HB.1 HB.2).mono ?_;rintro e w1 ⟨rfl,rfl⟩;exact zO hK
 refine zS (fun w' hS hV K hK=>?_) ?_
 ·have e8:=zQ hV 8;have q0:=hS.1;have q1:=hS.2.1;go_simp;exact hK.out _ _ _ rfl rfl ⟨_,_,rfl,by have:=Mk.lit (E:=2) hS.2.2 #[.int .i64 ((x0*y0)%p)] (by simp[maxLen]);simpa [MkI,ints] using this⟩ (zG.alloc (Nat.le_refl _) _)
 refine zS (fun w' hS hV K hK=>?_) ?_
 ·obtain⟨A9,c9,e9,h9⟩:=hV 9 (by decide);have q0:=hS.1;have q1:=hS.2.1;go_simp;exact hK.out _ _ _ rfl rfl ⟨_,_,rfl,h9⟩ zG
 refine fun w' hS hV=>?_
 have e0:=zT hV 0
 have e1:=zT hV 1
 have e2:=zT hV 2
 have e3:=zT hV 3
 have e4:=zT hV 4
 have e5:=zT hV 5
 have e6:=zT hV 6
 have e7:=zT hV 7
 have e8:=zT hV 8
 obtain⟨A9,c9,e9,h9⟩:=hV 9 (by decide)
 obtain⟨A10,c10,e10,h10⟩:=hV 10 (by decide)
 simp only[e0,e1,e2,e3,e4,e5,e6,e7,e8,e9,e10]
 clear e0 e1 e2 e3 e4 e5 e6 e7 e8 e9 e10
 refine wpAny_done (by kernel_rfl) ?_ _
 go_wp2
 go_ret
 exact⟨_,_,rfl,h10⟩
def u5 (p:Int) (k:Nat):Prop:=∀ (A:Option Addr) (c:Nat) (st:List Int) (X:Option Addr) (cx:Nat) (xs:List Int) (Y:Option Addr) (cy:Nat) (ys:List Int) (w:World),k≤c→pw k≤cx→pw k≤cy →
 Rd w A k (ints st)→NumsL p st→Rd w X (pw k) (ints xs)→NumsL p xs→Rd w Y (pw k) (ints ys)→NumsL p ys →
 Calls Tryz.prog 156 #[.int .i64 p,.slice A k c,.slice X (pw k) cx,.slice Y (pw k) cy] w fun e w'=>∃ A' c',e=.returned (.slice A' (pw k) c')∧MkI w w' A' (pw k) c' (dblL p k st xs ys)
theorem ycB {p:Int} {x y:List Int} (g:Int) (hl:x.length≤y.length):yp p x (yl p y g) 1=yp p x y g:=by
 refine yU 0 (by rw[yP,yP]) fun i hi=>?_
 rw[yP]at hi
 rw[zw _ _ hi,zw _ _ hi,z4 _ (by omega),Int.one_mul,Int.add_emod,Int.emod_emod_of_dvd _ (Int.dvd_refl p),← Int.add_emod,Int.mul_comm (y.getD i 0)]
set_option maxHeartbeats 1600000 in
set_option maxRecDepth 8000 in
theorem yfM (p:Int) (hp:2≤p) (hp2:p≤13) (k:Nat) (hk:k+1≤4) (ih:u5 p k):u5 p (k+1):=by
 intro A c st X cx xs Y cy ys w hc hcx hcy ha hst hx hxs hy hys
 obtain⟨ga,oa,rfl,hsk,hca⟩:=ha.int (show k<k+1 by omega)
 obtain⟨h,hh⟩:∃ h,h=pw k:=⟨_,rfl⟩
 have hpw:pw (k+1)=2*h:=by rw[vd,hh]
 have h1:1≤h:=hh▸yq k
 have h64:h≤8:=by have:=yz (show k≤3 by omega);rw[← hh]at this;exact this
 rw[hpw]at hcx hcy hx hy
 obtain⟨gx,ox,rfl,hx2⟩:=hx.behind (show h<2*h by omega)
 obtain⟨gy,oy,rfl,hy2⟩:=hy.behind (show h<2*h by omega)
 have hx1:=hx.cut (show h≤2*h by omega)
 have hy1:=hy.cut (show h≤2*h by omega)
 have ha1:=ha.cut (show k≤k+1 by omega)
 have s1:=fun w=>ug (g:=gx) (o:=ox) (c:=cx) (m:=2*h) (k:=h) w (by omega) (by omega)
 have s2:=fun w=>uh (g:=gx) (o:=ox) (c:=cx) (m:=2*h) (k:=h) w (by omega) (by omega)
 have s3:=fun w=>ug (g:=gy) (o:=oy) (c:=cy) (m:=2*h) (k:=h) w (by omega) (by omega)
 have s4:=fun w=>uh (g:=gy) (o:=oy) (c:=cy) (m:=2*h) (k:=h) w (by omega) (by omega)
 have s5:=fun w=>ug (g:=ga) (o:=oa) (c:=c) (m:=k+1) (k:=k) w (by omega) (by omega)
 have e9:2*h-h=h:=by omega
 simp only[e9]at s2 s4 hx2 hy2
 rw[vc]at hx2 hy2
 rw[qs]at hx1 hy1 ha1
 have hst1:NumsL p (st.take k):=fun v hv=>hst v (List.mem_of_mem_take hv)
 have hxs1:NumsL p (xs.take h):=fun v hv=>hxs v (List.mem_of_mem_take hv)
 have hxs2:NumsL p (xs.drop h):=fun v hv=>hxs v (List.mem_of_mem_drop hv)
 have hys1:NumsL p (ys.take h):=fun v hv=>hys v (List.mem_of_mem_take hv)
 have hys2:NumsL p (ys.drop h):=fun v hv=>hys v (List.mem_of_mem_drop hv)
 obtain⟨sk,hsk2⟩:∃ z,z=st[k]:=⟨_,rfl⟩
 obtain⟨hs1,hs2⟩:=hst _ (List.getElem_mem hsk)
 rw[← hsk2]at hca hs1 hs2
 have IH:=ih
 unfold u5 at IH
 rw[← hh]at IH
 have hcs:=hca
 rw[hpw]
 have hw1:IntKind.i64.wrap (2*(h:Int))=2*(h:Int):=yi _ (by omega) (by omega)
 have hq2:IntKind.i64.wrap (h:Int)=(h:Int):=yi _ (by omega) (by omega)
 have hkk:k<k+1:=by omega
 have hkk2:(k:Int)<(k:Int)+1:=by omega
 have HH:=Lib.hid hh
 have HPW:=Lib.hid hpw
 have HSK:=Lib.hid hsk2
 clear hh hpw hsk2 e9 ih
 go_enter Tryz.func156,Tryz.ntmps156
 go_wp2
 refine yh 13 [[],[0],[0,1],[],[],[3,4],[],[],[6,7],[6,7,8],[0,1,2],[3,4,5],[6,7,8,9]] [VIs (.slice (some ⟨gx,ox,none⟩) (2*h) cx),VIs (.int .i64 (2*(h:Int))),VIs (.int .i64 (h)),VIs (.slice (some ⟨ga,oa,none⟩) (k+1) c),VIs (.int .i64 (k)),VIs (.slice (some ⟨ga,oa,none⟩) k c),VIs (.slice (some ⟨ga,oa,none⟩) (k+1) c),VIs (.int .i64 (k)),VIs (.pointer (some ⟨ga,oa+k,none⟩)),VIs (.int .i64 (sk)),VIs (.int .i64 (h)),VIs (.slice (some ⟨ga,oa,none⟩) k c),VIs (.int .i64 (sk))] (fun w'=>w'.cell? ⟨ga,oa+k,none⟩=some (.int .i64 sk)∧Below w.heap.size w w') (by kernel_rfl) (by kernel_rfl) (fun _ _ h hb=>⟨(hb.cell (World.block_lt_of_cell? _ _ h.1)).trans h.1,h.2.trans (hb.mono h.2.size)⟩) (⟨hcs,zG.drew⟩) (fun x=>?_)
 refine zS (fun w' hS hV K hK=>?_) ?_
 ·have q0:=hS.1;go_simp;exact zO hK
 refine zS (fun w' hS hV K hK=>?_) ?_
 ·have e0:=zQ hV 0;have q0:=hS.1;go_simp;exact zO hK
 refine zS (fun w' hS hV K hK=>?_) ?_
 ·have e1:=zQ hV 1;have q0:=hS.1;go_simp;exact zO hK
 refine zS (fun w' hS hV K hK=>?_) ?_
 ·have q0:=hS.1;go_simp;exact zO hK
 refine zS (fun w' hS hV K hK=>?_) ?_
 ·have q0:=hS.1;go_simp;exact zO hK
 refine zS (fun w' hS hV K hK=>?_) ?_
 ·have e3:=zQ hV 3;have e4:=zQ hV 4;have q0:=hS.1;go_simp;exact zO hK
 refine zS (fun w' hS hV K hK=>?_) ?_
 ·have q0:=hS.1;go_simp;exact zO hK
 refine zS (fun w' hS hV K hK=>?_) ?_
 ·have q0:=hS.1;go_simp;exact zO hK
 refine zS (fun w' hS hV K hK=>?_) ?_
 ·have e6:=zQ hV 6;have e7:=zQ hV 7;have q0:=hS.1;go_simp;exact zO hK
 refine zS (fun w' hS hV K hK=>?_) ?_
 ·have e8:=zQ hV 8;have q0:=hS.1;go_simp;exact zO hK
 refine zS (fun w' hS hV K hK=>?_) ?_
 ·have e2:=zQ hV 2;have q0:=hS.1;go_simp;exact zO hK
 refine zS (fun w' hS hV K hK=>?_) ?_
 ·have e5:=zQ hV 5;have q0:=hS.1;go_simp;exact zO hK
 refine zS (fun w' hS hV K hK=>?_) ?_
 ·have e9:=zQ hV 9;have q0:=hS.1;go_simp;exact zO hK
 refine fun w' hS hV=>?_
 have e0:=zT hV 0
 have e1:=zT hV 1
 have e2:=zT hV 2
 have e3:=zT hV 3
 have e4:=zT hV 4
 have e5:=zT hV 5
 have e6:=zT hV 6
 have e7:=zT hV 7
 have e8:=zT hV 8
 have e9:=zT hV 9
 have e10:=zT hV 10
 have e11:=zT hV 11
 have e12:=zT hV 12
 simp only[e0,e1,e2,e3,e4,e5,e6,e7,e8,e9,e10,e11,e12]
 clear e0 e1 e2 e3 e4 e5 e6 e7 e8 e9 e10 e11 e12
 refine wpAny_done (by kernel_rfl) ?_ _
 go_wp2
 refine yh 16 [[],[],[0,1],[],[],[3,4],[],[],[6,7],[],[],[9,10],[0,1,2],[3,4,5],[6,7,8],[9,10,11]] [VIs (.slice (some ⟨gx,ox,none⟩) (2*h) cx),VIs (.int .i64 (h)),VIs (.slice (some ⟨gx,ox,none⟩) h cx),VIs (.slice (some ⟨gx,ox,none⟩) (2*h) cx),VIs (.int .i64 (h)),VIs (.slice (some ⟨gx,ox+h,none⟩) h (cx-h)),VIs (.slice (some ⟨gy,oy,none⟩) (2*h) cy),VIs (.int .i64 (h)),VIs (.slice (some ⟨gy,oy,none⟩) h cy),VIs (.slice (some ⟨gy,oy,none⟩) (2*h) cy),VIs (.int .i64 (h)),VIs (.slice (some ⟨gy,oy+h,none⟩) h (cy-h)),VIs (.slice (some ⟨gx,ox,none⟩) h cx),VIs (.slice (some ⟨gx,ox+h,none⟩) h (cx-h)),VIs (.slice (some ⟨gy,oy,none⟩) h cy),VIs (.slice (some ⟨gy,oy+h,none⟩) h (cy-h))] (fun w'=>Below w.heap.size w w') (by kernel_rfl) (by kernel_rfl) (fun _ _ h hb=>h.trans (hb.mono h.size)) (hS.2.drew) (fun x=>?_)
 refine zS (fun w' hS hV K hK=>?_) ?_
 ·go_simp;exact zO hK
 refine zS (fun w' hS hV K hK=>?_) ?_
 ·go_simp;exact zO hK
 refine zS (fun w' hS hV K hK=>?_) ?_
 ·have e0:=zQ hV 0;have e1:=zQ hV 1;go_simp;exact zO hK
 refine zS (fun w' hS hV K hK=>?_) ?_
 ·go_simp;exact zO hK
 refine zS (fun w' hS hV K hK=>?_) ?_
 ·go_simp;exact zO hK
 refine zS (fun w' hS hV K hK=>?_) ?_
 ·have e3:=zQ hV 3;have e4:=zQ hV 4;go_simp;exact zO hK
 refine zS (fun w' hS hV K hK=>?_) ?_
 ·go_simp;exact zO hK
 refine zS (fun w' hS hV K hK=>?_) ?_
 ·go_simp;exact zO hK
 refine zS (fun w' hS hV K hK=>?_) ?_
 ·have e6:=zQ hV 6;have e7:=zQ hV 7;go_simp;exact zO hK
 refine zS (fun w' hS hV K hK=>?_) ?_
 ·go_simp;exact zO hK
 refine zS (fun w' hS hV K hK=>?_) ?_
 ·go_simp;exact zO hK
 refine zS (fun w' hS hV K hK=>?_) ?_
 ·have e9:=zQ hV 9;have e10:=zQ hV 10;go_simp;exact zO hK
 refine zS (fun w' hS hV K hK=>?_) ?_
 ·have e2:=zQ hV 2;go_simp;exact zO hK
 refine zS (fun w' hS hV K hK=>?_) ?_
 ·have e5:=zQ hV 5;go_simp;exact zO hK
 refine zS (fun w' hS hV K hK=>?_) ?_
 ·have e8:=zQ hV 8;go_simp;exact zO hK
 refine zS (fun w' hS hV K hK=>?_) ?_
 ·have e11:=zQ hV 11;go_simp;exact zO hK
 refine fun w' hS hV=>?_
 have e0:=zT hV 0
 have e1:=zT hV 1
 have e2:=zT hV 2
 have e3:=zT hV 3
 have e4:=zT hV 4
 have e5:=zT hV 5
 have e6:=zT hV 6
 have e7:=zT hV 7
 have e8:=zT hV 8
 have e9:=zT hV 9
 have e10:=zT hV 10
 have e11:=zT hV 11
 have e12:=zT hV 12
 have e13:=zT hV 13
 have e14:=zT hV 14
 have e15:=zT hV 15
 simp only[e0,e1,e2,e3,e4,e5,e6,e7,e8,e9,e10,e11,e12,e13,e14,e15]
 clear e0 e1 e2 e3 e4 e5 e6 e7 e8 e9 e10 e11 e12 e13 e14 e15
 refine wpAny_done (by kernel_rfl) ?_ _
 have B0:=hS
 clear hV hS
 go_wp2_with fail
 refine (IH _ c (st.take k) _ cx (xs.take h) _ cy (ys.take h) _ (by omega) (by omega) (by omega) (ha1.below B0) hst1 (hx1.below B0) hxs1 (hy1.below B0) hys1).mono ?_
 rintro e v1 ⟨R1,d1,rfl,m1⟩
 have B1:=B0.trans (m1.b.mono B0.size)
 have r1:=m1.rd
 have cp1:=m1.2.cap
 go_wp2_with fail
 refine (ybU p _ h _ (ys.drop h) _ hp hp2 (by omega) (by omega) (hy2.below B1) hys2).mono ?_
 rintro e v2 ⟨R2,d2,rfl,m2⟩
 have B2:=B1.trans (m2.b.mono B1.size)
 have r2:=m2.rd
 have cp2:=m2.2.cap
 have r1:=r1.below m2.b
 go_wp2_with fail
 refine (IH _ c (st.take k) _ d2 (yE p (ys.drop h)) _ (cx-h) (xs.drop h) _ (by omega) cp2 (by omega) (ha1.below B2) hst1 r2 (uw (by omega) hys2) (hx2.below B2) hxs2).mono ?_
 rintro e v3 ⟨R3,d3,rfl,m3⟩
 have B3:=B2.trans (m3.b.mono B2.size)
 have r3:=m3.rd
 have cp3:=m3.2.cap
 have r1:=r1.below m3.b
 clear r2 m2
 go_wp2_with fail
 refine (xm p sk _ h _ (dblL p k (st.take k) (yE p (ys.drop h)) (xs.drop h)) _ hp hp2 (by omega) r3 (yT (by omega) _ _ _ _) (by omega) (by omega)).mono ?_
 rintro e v4 ⟨R4,d4,rfl,m4⟩
 have B4:=B3.trans (m4.b.mono B3.size)
 have r4:=m4.rd
 have cp4:=m4.2.cap
 have r1:=r1.below m4.b
 clear r3 m3
 go_wp2_with fail
 refine (qx p _ h _ (dblL p k (st.take k) (xs.take h) (ys.take h)) _ h _ (yl p (dblL p k (st.take k) (yE p (ys.drop h)) (xs.drop h)) sk) _ hp hp2 (by omega) (Nat.le_refl _) r1 (yT (by omega) _ _ _ _) r4 (zU (by omega) _ _)).mono ?_
 rintro e v5 ⟨R5,d5,rfl,m5⟩
 have B5:=B4.trans (m5.b.mono B4.size)
 have r5:=m5.rd
 have cp5:=m5.2.cap
 clear r1 r4 m4 m1
 have HM5:Hid (MkI w v5 R5 h d5 (yp p (dblL p k (st.take k) (xs.take h) (ys.take h)) (dblL p k (st.take k) (yE p (ys.drop h)) (xs.drop h)) sk)):=Lib.hid (by have:=m5.after B4;rw[ycB _ (by rw[zu,zu];exact Nat.le_refl _)]at this;exact this)
 obtain⟨P1,hP1⟩:∃ L,L=yp p (dblL p k (st.take k) (xs.take h) (ys.take h)) (dblL p k (st.take k) (yE p (ys.drop h)) (xs.drop h)) sk:=⟨_,rfl⟩
 rw[← hP1]at HM5
 clear m5 r5 B1 B2 B3 B4
 go_wp2_with fail
 refine (IH _ c (st.take k) _ (cy-h) (ys.drop h) _ cx (xs.take h) _ (by omega) (by omega) (by omega) (ha1.below B5) hst1 (hy2.below B5) hys2 (hx1.below B5) hxs1).mono ?_
 rintro e v6 ⟨R6,d6,rfl,m6⟩
 have B6:=B5.trans (m6.b.mono B5.size)
 have r6:=m6.rd
 have cp6:=m6.2.cap
 go_wp2_with fail
 refine (ybU p _ h _ (ys.take h) _ hp hp2 (by omega) (by omega) (hy1.below B6) hys1).mono ?_
 rintro e v7 ⟨R7,d7,rfl,m7⟩
 have B7:=B6.trans (m7.b.mono B6.size)
 have r7:=m7.rd
 have cp7:=m7.2.cap
 have r6:=r6.below m7.b
 go_wp2_with fail
 refine (IH _ c (st.take k) _ (cx-h) (xs.drop h) _ d7 (yE p (ys.take h)) _ (by omega) (by omega) cp7 (ha1.below B7) hst1 (hx2.below B7) hxs2 r7 (uw (by omega) hys1)).mono ?_
 rintro e v8 ⟨R8,d8,rfl,m8⟩
 have B8:=B7.trans (m8.b.mono B7.size)
 have r8:=m8.rd
 have cp8:=m8.2.cap
 have r6:=r6.below m8.b
 clear r7
 go_wp2_with fail
 refine (qx p _ h _ (dblL p k (st.take k) (ys.drop h) (xs.take h)) _ h _ (dblL p k (st.take k) (xs.drop h) (yE p (ys.take h))) _ hp hp2 (by omega) (Nat.le_refl _) r6 (yT (by omega) _ _ _ _) r8 (yT (by omega) _ _ _ _)).mono ?_
 rintro e v9 ⟨R9,d9,rfl,m9⟩
 have B9:=B8.trans (m9.b.mono B8.size)
 have r9:=m9.rd
 have cp9:=m9.2.cap
 have HMA:Hid (MkI w v9 R5 h d5 P1):=Lib.hid ((((HM5.out.below m6.b).below m7.b).below m8.b).below m9.b)
 have HRA:=Lib.hid m9.rd
 clear r9 m9 m8 m7 m6 HM5
 go_wp2_with (at_builtin;refine yaz w _ rfl _ _ rfl R5 h d5 _ R9 h d9 _ HMA.out HRA.out (by omega) (by omega) (by omega) rfl rfl ?_;intro A' c' w' hM' _)
 go_ret
 refine⟨A',c',by rw[show 2*h=h+h by omega];rfl,?_⟩
 rw[show 2*h=h+h by omega]
 rw[hP1]at hM'
 have e:dblL p (k+1) st xs ys=yp p (dblL p k (st.take k) (xs.take h) (ys.take h)) (dblL p k (st.take k) (yE p (ys.drop h)) (xs.drop h)) sk++yp p (dblL p k (st.take k) (ys.drop h) (xs.take h)) (dblL p k (st.take k) (xs.drop h) (yE p (ys.take h))) 1:=by
  show yp p _ _ (st.getD k 0)++_=_
  rw[← HH.out,HSK.out,List.getD_eq_getElem?_getD,List.getElem?_eq_getElem hsk]
  rfl
 rw[e]
 exact hM'
theorem yfL (p:Int) (hp:2≤p) (hp2:p≤13) (k:Nat) (hk:k≤4):u5 p k:=by
 induction k with
 | zero=>exact fun A c st X cx xs Y cy ys w _ _ _ _ _ hx hxs hy hys=>yfN p hp hp2 A c X cx xs Y cy ys w hx hxs hy hys
 | succ k ih=>exact yfM p hp hp2 k hk (ih (by omega))
end Go.Proofs.YtaiegpggccdgoaaGreat
namespace Go.Proofs.YtaiegpggccdgoaaGreat
open Go Go.RowKit
set_option maxHeartbeats 400000 in
set_option maxRecDepth 8000 in
theorem xb (P:Int) (A:Option Addr) (n c:Nat) (w:World) (hn:n≤30) :
 Calls Tryz.prog 101 #[.agg #[.int .i64 P,.slice A n c]] w fun e w'=>e=.returned (.int .i64 (pw n))∧Below w.heap.size w w':=by
 go_enter Tryz.func101,Tryz.ntmps101
 go_wp2
 go_ret
 exact⟨xu (uV n hn),zG.alloc (Nat.le_refl _) _⟩
def uG (P:Int) (xs:List Int):Bool:=isP P && decide (((xs.length:Nat):Int)≤4) && xs.all fun x=>inR x 1 (P-1)
theorem ydA (f:Int→Bool) (xs:List Int) (k:Nat) (h:k<xs.length) (ht:(xs.take k).all f=true) (hi:f xs[k]=true):(xs.take (k+1)).all f=true:=by
 rw[List.take_succ_eq_append_getElem h,List.all_append,ht];simp[hi]
theorem ydz (f:Int→Bool) (xs:List Int) (k:Nat) (h:k<xs.length) (hi:f xs[k]=false):xs.all f=false:=by
 rw[List.all_eq_false];exact⟨xs[k],List.getElem_mem h,by simp[hi]⟩
set_option maxHeartbeats 1000000 in
set_option maxRecDepth 8000 in
theorem yfK (P:Int) (A:Option Addr) (n c:Nat) (xs:List Int) (w:World) (hn:n≤1048576) (ha:Rd w A n (ints xs)) :
 Calls Tryz.prog 82 #[.agg #[.int .i64 P,.slice A n c]] w fun e w'=>e=.returned (.bool (uG P xs))∧Below w.heap.size w w':=by
 have hxl:xs.length=n:=by have:=ha.1;rwa [yD]at this
 have hB:Below w.heap.size w (w.alloc (.cells #[.int .i64 P,.slice A n c] 26)):=zG.alloc (Nat.le_refl _) _
 have k0:Blk (w.alloc (.cells #[.int .i64 P,.slice A n c] 26)) w.heap.size 26 #[.int .i64 P,.slice A n c]:=Blk.new _ _ _
 have hdb:uG P xs=(isP P && decide (((n:Nat):Int)≤4) && xs.all fun x=>inR x 1 (P-1)):=by unfold uG;rw[hxl]
 have Hdb:=Lib.hid hdb;clear hdb
 have Hx:=Lib.hid hxl;clear hxl
 cases h1:isP P
 ·have H1:=Lib.hid h1;clear h1
  go_enter Tryz.func82,Tryz.ntmps82
  go_wp2_with (go_at_call 134;refine (jY _ _ H1.out).mono ?_;rintro e w' ⟨rfl,rfl⟩)
  go_ret
  exact⟨yJ (by rw[Hdb.out,H1.out];rfl),hB⟩
 obtain⟨hp0,hp1⟩:=jV h1
 have H1:=Lib.hid h1;clear h1
 by_cases h4:n≤4
 ·have h4':decide ((4:Int)<(n:Int))=false:=by simp;omega
  go_enter Tryz.func82,Tryz.ntmps82
  go_wp2_with (go_at_call 134;refine (jY _ _ H1.out).mono ?_;rintro e w' ⟨rfl,rfl⟩)
  have ha':=ha.below hB
  obtain⟨W,hW⟩:∃ W,W=w.alloc (.cells #[.int .i64 P,.slice A n c] 26):=⟨_,rfl⟩
  obtain⟨b,hbz⟩:∃ b,b=w.heap.size:=⟨_,rfl⟩
  rw[← hbz]
  rw[← hbz,← hW]at k0
  rw[← hW]at ha' hB ⊢
  have HW:=Lib.hid hW
  have HB:=Lib.hid hbz
  clear hW hbz ha
  go_loopw [3] (fun i wr=>∃ k j:Nat,k≤n∧i=.int .i64 k∧(xs.take k).all (fun x=>inR x 1 (P-1))=true∧wr=W.drewN j) (fun i _=>n-(intOf i).toNat)
  case atStart=>exact⟨0,0,by omega,rfl,by simp,rfl⟩
  case round=>
   obtain⟨k,j,hk,rfl,ht,rfl⟩:=hrel
   have H:=Lib.hid ht;clear ht
   obtain⟨q0,q1⟩:=k0.two
   by_cases hlt:k<n
   ·obtain⟨g,o,rfl,hx,hcx⟩:=ha'.int hlt
    cases hi:inR xs[k] 1 (P-1)
    all_goals
     have HI:=Lib.hid hi;clear hi
     go_wp2_with fail
     go_quiet ((go_at_call 135;exact ycF (ybR _ _ _ _ HI.out)))
     go_wp2
    ·go_ret
     exact⟨yJ (by rw[Hdb.out,H1.out,ydz (fun x=>inR x 1 (P-1)) xs k hx HI.out,Bool.and_false]),vz (vz hB _) _⟩
    ·go_roundw
     case rel=>exact⟨k+1,_,by omega,by go_num,ydA (fun x=>inR x 1 (P-1)) xs k hx H.out HI.out,rfl⟩
     case measure=>simp[intOf];omega
   ·go_wp2
    go_ret
    have:=H.out
    rw[List.take_of_length_le (by rw[Hx.out];omega)]at this
    exact⟨yJ (by rw[Hdb.out,H1.out,this];simp;omega),vz hB _⟩
 ·have h4':decide ((4:Int)<(n:Int))=true:=by simp;omega
  go_enter Tryz.func82,Tryz.ntmps82
  go_wp2_with (go_at_call 134;refine (jY _ _ H1.out).mono ?_;rintro e w' ⟨rfl,rfl⟩)
  go_ret
  exact⟨yJ (by rw[Hdb.out,H1.out];simp;omega),hB⟩
def uH (P:Int) (n:Nat) (ys:List Int):Bool:=nums P ys && (((ys.length:Nat):Int) == ((pw n:Nat):Int))
set_option maxHeartbeats 1000000 in
set_option maxRecDepth 8000 in
theorem yfJ (P:Int) (A B:Option Addr) (n c m d:Nat) (ys:List Int) (w:World) (hn:n≤4) (hm:m≤1048576) (hp0:0<P) (hp1:P≤13) (hb:Rd w B m (ints ys)) :
 Calls Tryz.prog 137 #[.agg #[.int .i64 P,.slice A n c],.slice B m d] w fun e w'=>e=.returned (.bool (uH P n ys))∧Below w.heap.size w w':=by
 have hyl:ys.length=m:=by have:=hb.1;rwa [yD]at this
 have hB:Below w.heap.size w (w.alloc (.cells #[.int .i64 P,.slice A n c] 26)):=zG.alloc (Nat.le_refl _) _
 have k0:Blk (w.alloc (.cells #[.int .i64 P,.slice A n c] 26)) w.heap.size 26 #[.int .i64 P,.slice A n c]:=Blk.new _ _ _
 have hel:uH P n ys=(nums P ys && (((m:Nat):Int) == ((pw n:Nat):Int))):=by unfold uH;rw[hyl]
 have Hel:=Lib.hid hel;clear hel
 have Hy:=Lib.hid hyl;clear hyl
 go_enter Tryz.func137,Tryz.ntmps137
 go_wp2
 have hb':=hb.below hB
 obtain⟨W,hW⟩:∃ W,W=w.alloc (.cells #[.int .i64 P,.slice A n c] 26):=⟨_,rfl⟩
 obtain⟨b,hbz⟩:∃ b,b=w.heap.size:=⟨_,rfl⟩
 rw[← hbz]
 rw[← hbz,← hW]at k0
 rw[← hW]at hb' hB ⊢
 have HW:=Lib.hid hW
 have HB:=Lib.hid hbz
 clear hW hbz hb
 go_loopw [5] (fun i wr=>∃ k j:Nat,k≤m∧i=.int .i64 k∧nums P (ys.take k)=true∧wr=W.drewN j) (fun i _=>m-(intOf i).toNat)
 case atStart=>exact⟨0,0,by omega,rfl,by simp[nums],rfl⟩
 case round=>
  obtain⟨k,j,hk,rfl,ht,rfl⟩:=hrel
  have H:=Lib.hid ht;clear ht
  obtain⟨q0,q1⟩:=k0.two
  by_cases hlt:k<m
  ·obtain⟨g,o,rfl,hx,hcx⟩:=hb'.int hlt
   cases hi:inR ys[k] 0 (P-1)
   all_goals
    have HI:=Lib.hid hi;clear hi
    go_wp2_with fail
    go_quiet ((go_at_call 135;exact ycF (ybR _ _ _ _ HI.out)))
    go_wp2
   ·go_ret
    exact⟨yJ (by rw[Hel.out,ycm P ys k hx HI.out];rfl),vz (vz hB _) _⟩
   ·go_roundw
    case rel=>exact⟨k+1,_,by omega,by go_num,yco P ys k hx H.out HI.out,rfl⟩
    case measure=>simp[intOf];omega
  ·go_wp2_with fail
   refine (xb _ _ _ _ _ (by omega)).mono ?_
   rintro e w1 ⟨rfl,hb1⟩
   go_wp2
   go_ret
   have:=H.out
   rw[List.take_of_length_le (by rw[Hy.out];omega)]at this
   exact⟨yJ (by rw[Hel.out,this];rfl),(vz hB _).trans (hb1.mono hB.size)⟩
theorem yfg (P:Int) (xs:List Int):uG P xs=isDb P xs:=by
 unfold uG isDb
 have e1:decide (((xs.length:Nat):Int)≤4)=decide (xs.length≤4):=by rw[decide_eq_decide];omega
 rw[e1,Bool.and_assoc (isP P && decide (xs.length≤4))]
 congr 1
 rw[Bool.eq_iff_iff,Bool.and_eq_true,List.all_eq_true]
 unfold nums
 rw[List.all_eq_true]
 constructor
 ·intro h
  refine⟨fun x hx=>?_,?_⟩
  ·have:=h x hx;unfold inR at this ⊢;simp only[Bool.and_eq_true,decide_eq_true_eq]at this ⊢;omega
  ·rw[Bool.not_eq_true']
   rw[Bool.eq_false_iff]
   intro hc
   have h0:=h 0 (by simpa using hc)
   unfold inR at h0
   simp at h0
 ·rintro ⟨h1,h2⟩ x hx
  have h3:=h1 x hx
  have h4:x≠0:=fun e=>by
   subst e
   rw[Bool.not_eq_true',Bool.eq_false_iff]at h2
   exact h2 (by simpa using hx)
  unfold inR at h3 ⊢;simp only[Bool.and_eq_true,decide_eq_true_eq]at h3 ⊢;omega
theorem yfh (P:Int) (k:Nat) (ys:List Int):uH P k ys=isEl P k ys:=by unfold uH isEl;rw[Bool.and_comm]
theorem qy (P:Int) (A:Option Addr) (n c:Nat) (xs:List Int) (w:World) (hn:n≤1048576) (ha:Rd w A n (ints xs)) :
 Calls Tryz.prog 82 #[.agg #[.int .i64 P,.slice A n c]] w fun e w'=>e=.returned (.bool (isDb P xs))∧Below w.heap.size w w':=by
 have h:=yfK P A n c xs w hn ha
 rw[yfg]at h
 exact h
theorem j4 (P:Int) (A B:Option Addr) (n c m d:Nat) (ys:List Int) (w:World) (hn:n≤4) (hm:m≤1048576) (hp0:0<P) (hp1:P≤13) (hb:Rd w B m (ints ys)) :
 Calls Tryz.prog 137 #[.agg #[.int .i64 P,.slice A n c],.slice B m d] w fun e w'=>e=.returned (.bool (isEl P n ys))∧Below w.heap.size w w':=by
 have h:=yfJ P A B n c m d ys w hn hm hp0 hp1 hb
 rw[yfh]at h
 exact h
set_option maxHeartbeats 1600000 in
set_option maxRecDepth 8000 in
theorem vH (p:Int) (hp:2≤p) (hp2:p≤13) (k:Nat) (hk:k≤4) (A:Option Addr) (c:Nat) (st:List Int) (X:Option Addr) (cx:Nat) (xs:List Int) (Y:Option Addr) (cy:Nat) (ys:List Int) (w:World) (hc:k≤c) (hcx:pw k≤cx) (hcy:pw k≤cy) (ha:Rd w A k (ints st)) (hst:NumsL p st) (hx:Rd w X (pw k) (ints xs)) (hxs:NumsL p xs) (hy:Rd w Y (pw k) (ints ys)) (hys:NumsL p ys) :
 Calls Tryz.prog 145 #[.agg #[.int .i64 p,.slice A k c],.slice X (pw k) cx,.slice Y (pw k) cy] w fun e w'=>∃ A' c',e=.returned (.slice A' (pw k) c')∧MkI w w' A' (pw k) c' (dblL p k st xs ys):=by
 have hB0:Below w.heap.size w (w.alloc (.cells #[.int .i64 p,.slice A k c] 26)):=zG.alloc (Nat.le_refl _) _
 have k0:Blk (w.alloc (.cells #[.int .i64 p,.slice A k c] 26)) w.heap.size 26 #[.int .i64 p,.slice A k c]:=Blk.new _ _ _
 have HOK:=Lib.hid (yfL p hp hp2 k hk)
 obtain⟨q0,q1⟩:=k0.two
 go_enter Tryz.func145,Tryz.ntmps145
 go_wp2_with fail
 refine (HOK.out A c st X cx xs Y cy ys _ hc hcx hcy (ha.below hB0) hst (hx.below hB0) hxs (hy.below hB0) hys).mono ?_
 rintro e w1 ⟨A1,c1,rfl,hM⟩
 go_wp2
 go_ret
 exact⟨_,_,rfl,hM.after hB0⟩
set_option maxHeartbeats 1600000 in
set_option maxRecDepth 8000 in
theorem j5 (p:Int) (A:Option Addr) (k c:Nat) (i:Nat) (w:World) (hk:k≤4) (hi:i<pw k) :
 Calls Tryz.prog 122 #[.agg #[.int .i64 p,.slice A k c],.int .i64 i] w fun e w'=>∃ A' c',e=.returned (.slice A' (pw k) c')∧MkI w w' A' (pw k) c' (ye (pw k) i):=by
 have hB0:Below w.heap.size w (w.alloc (.cells #[.int .i64 p,.slice A k c] 26)):=zG.alloc (Nat.le_refl _) _
 have k0:Blk (w.alloc (.cells #[.int .i64 p,.slice A k c] 26)) w.heap.size 26 #[.int .i64 p,.slice A k c]:=Blk.new _ _ _
 have hpk:pw k≤16:=yz hk
 have hpos:=yq k
 have hsz:=fun w=>xb p A k c w (by omega)
 obtain⟨n,hn⟩:∃ n,n=pw k:=⟨_,rfl⟩
 rw[← hn]at hpk hpos hi hsz ⊢
 clear hn
 go_enter Tryz.func122,Tryz.ntmps122
 go_wp2_with fail
 refine (hsz _).mono ?_
 rintro e w5 ⟨rfl,hb⟩
 have hB5:=hB0.trans (hb.mono hB0.size)
 have hmk:=xE (P:=Tryz.prog) 24 2 Tryz.underlying24 yo n (by omega)
 have hm1:=Mk.made (E:=2) (n:=n) (z:=.int .i64 0) (Below.refl w5.heap.size w5) (by simp only[maxLen];omega)
 rw[xj]at hm1
 obtain⟨u1,hc1⟩:=hm1.2.cellI hi
 have hf1:=hm1.2.frozen_ i
 have hm2:=(hm1.set i (.int .i64 1)).1
 rw[yN,World.setCell_alloc_at _ _ _ _ _ rfl]at hm2
 have HRU0:MkI w5 _ (some ⟨w5.heap.size,0,none⟩) n n (ye n i):=hm2
 have HRU:=Lib.hid (HRU0.after hB5)
 clear hm1 hm2 HRU0 hsz
 go_wp2
 go_ret
 exact⟨_,_,rfl,HRU.out⟩
set_option maxHeartbeats 1600000 in
set_option maxRecDepth 8000 in
theorem yfB (p:Int) (A:Option Addr) (n c:Nat) (M:List (List Int)) (w:World) (h0:0<n) (hn:n≤65536) (ha:RdII w A n M) (hT:Tab p n M) :
 Calls Tryz.prog 125 #[.slice A n c] w fun e w'=>∃ A' c',e=.returned (.slice A' n c')∧MkII w w' A' n c' (zt M):=by
 have hML:=ha.len
 have HTL:Hid (zt M=tab n fun k=>tab n fun i=>ent M i k):=Lib.hid (by unfold zt;rw[(hT.row (show 0<M.length by omega)).1,hML])
 have HT:=Lib.hid hT
 have HML:=Lib.hid hML
 have hM0:MkII w (w.alloc (.cells #[] 24)) (some ⟨w.heap.size,0,none⟩) 0 0 []:=MkII.empty zG
 obtain⟨g,o,rfl,hx0,A0,c0,hcx0,_,_⟩:=(ha.below hM0.b).at_ h0
 clear hcx0 hT hML
 go_enter Tryz.func125,Tryz.ntmps125
 go_wp2
 obtain⟨w1,hw1⟩:∃ W,W=w.alloc (.cells #[] 24):=⟨_,rfl⟩
 rw[← hw1]at hM0 ⊢
 clear hw1
 go_loopw [3,4] (fun out i wr=>∃ (k:Nat) (A':Option Addr) (c':Nat),k≤n∧i=.int .i64 k∧out=.slice A' k c'∧MkII w wr A' k c' (tab k fun k=>tab n fun i=>ent M i k)) (fun _ i _=>n-(intOf i).toNat)
 case atStart=>exact⟨0,_,_,by omega,rfl,rfl,by simpa [tab] using hM0⟩
 case round=>
  obtain⟨k,A',c',hk,rfl,rfl,hM⟩:=hrel
  clear hM0
  obtain⟨wo,rfl⟩:∃ W,W=wr:=⟨_,rfl⟩
  by_cases hlt:k<n
  ·have hr0:=Mk.lit (E:=2) (Below.refl wo.heap.size wo) #[] (by simp)
   have hR0:MkI wo (wo.alloc (.cells #[] 2)) (some ⟨wo.heap.size,0,none⟩) 0 0 []:=by simpa [MkI,ints] using hr0
   have HM:=Lib.hid hM
   clear hr0 hM
   go_wp2
   go_loopw [5,6] (fun row i w2=>∃ (j:Nat) (A2:Option Addr) (c2:Nat),j≤n∧i=.int .i64 j∧row=.slice A2 j c2∧MkI wo w2 A2 j c2 (tab j fun i=>ent M i k)) (fun _ i _=>n-(intOf i).toNat)
   case atStart=>exact⟨0,_,_,by omega,rfl,rfl,by simpa [tab] using hR0⟩
   case round=>
    obtain⟨j,A2,c2,hj,rfl,rfl,hR⟩:=hrel
    clear hR0
    have HR:=Lib.hid hR
    by_cases hlj:j<n
    ·have hbb:=HM.out.b.trans (hR.b.mono HM.out.b.size)
     obtain⟨g',o',e',hxj,A3,c3,hcx,hr3,_⟩:=(ha.below hbb).at_ hlj
     injection e' with e';injection e' with e1 e2 _
     subst e1;subst e2
     have hl3:M[j].length=n:=(HT.out M[j] (List.getElem_mem hxj)).1
     rw[hl3]at hcx hr3
     obtain⟨g3,o3,rfl,hx3,hc3⟩:=hr3.int hlt
     have HV:Hid ((tab (j+1) fun i=>ent M i k)=(tab j fun i=>ent M i k)++[M[j][k]]):=Lib.hid (by rw[yQ,ql hxj hx3])
     clear hR hr3 hl3 hbb ha
     go_wp2_with (at_builtin;refine yt wo _ 24 2 _ _ Tryz.underlying24 yo rfl (by omega) rfl _ _ rfl A2 j c2 _ _ HR.out (by omega) rfl rfl rfl ?_;intro A4 c4 w4 hM4 _ _)
     go_roundw
     case rel=>exact⟨j+1,A4,c4,by omega,by go_num,rfl,by rw[HV.out];simpa [MkI,ints] using hM4⟩
     case measure=>simp[intOf];omega
    ·obtain rfl:j=n:=by omega
     clear hR ha
     go_wp2_with (at_builtin;refine vw w wo _ rfl _ _ rfl A' k c' _ A2 j c2 _ HM.out HR.out (by omega) rfl ?_ ?_;(go_simp);intro A4 c4 w4 hM4)
     go_roundw
     case rel=>exact⟨k+1,A4,c4,by omega,by go_num,rfl,by rw[yQ];exact hM4⟩
     case measure=>simp[intOf];omega
  ·obtain rfl:k=n:=by omega
   go_wp2
   go_ret
   exact⟨_,_,rfl,by rw[HTL.out];exact hM⟩
set_option maxHeartbeats 1600000 in
set_option maxRecDepth 8000 in
theorem ybV (p:Int) (hp:2≤p) (hp2:p≤13) (k:Nat) (hk:k≤4) (A:Option Addr) (c:Nat) (st:List Int) (X:Option Addr) (cx:Nat) (xs:List Int) (Y:Option Addr) (cy:Nat) (ys:List Int) (w:World) (hc:k≤c) (ha:Rd w A k (ints st)) (hst:NumsL p st) (hx:Rd w X (pw k) (ints xs)) (hxn:NumsL p xs) (hcx:pw k≤cx) (hy:Rd w Y (pw k) (ints ys)) (hyn:NumsL p ys) (hcy:pw k≤cy) :
 Calls Tryz.prog 121 #[.agg #[.int .i64 p,.slice A k c],.slice X (pw k) cx,.slice Y (pw k) cy] w fun e w'=>∃ A' c',e=.returned (.slice A' (pw k) c')∧MkI w w' A' (pw k) c' (cmtL p k st xs ys):=by
 have hB0:Below w.heap.size w (w.alloc (.cells #[.int .i64 p,.slice A k c] 26)):=zG.alloc (Nat.le_refl _) _
 have k0:Blk (w.alloc (.cells #[.int .i64 p,.slice A k c] 26)) w.heap.size 26 #[.int .i64 p,.slice A k c]:=Blk.new _ _ _
 have hpk:pw k≤16:=yz hk
 go_enter Tryz.func121,Tryz.ntmps121
 go_wp2
 refine yh 12 [[],[0],[],[],[],[2,3,4],[],[],[],[6,7,8],[0,1,2,3,4,5,6,7,8,9],[0,1,2,3,4,5,6,7,8,9,10]] [VIs (.pointer (some ⟨w.heap.size,0,none⟩)),VIs (.int .i64 (p)),VIs (.agg #[.int .i64 p,.slice A k c]),VIs (.slice X (pw k) cx),VIs (.slice Y (pw k) cy),VSl w (pw k) (dblL p k st xs ys),VIs (.agg #[.int .i64 p,.slice A k c]),VIs (.slice Y (pw k) cy),VIs (.slice X (pw k) cx),VSl w (pw k) (dblL p k st ys xs),VSl w (pw k) (cmtL p k st xs ys),VSl w (pw k) (cmtL p k st xs ys)] (fun w'=>Blk w' w.heap.size 26 #[.int .i64 p,.slice A k c]∧Below w.heap.size w w') (by kernel_rfl) (by kernel_rfl) (fun _ _ h hb=>⟨h.1.below hb h.1.lt,h.2.trans (hb.mono h.2.size)⟩) (⟨k0.drew,hB0.drew⟩) (fun x=>?_)
 refine zS (fun w' hS hV K hK=>?_) ?_
 ·obtain⟨q0,q1⟩:=hS.1.two;go_simp;exact zO hK
 refine zS (fun w' hS hV K hK=>?_) ?_
 ·have e0:=zQ hV 0;obtain⟨q0,q1⟩:=hS.1.two;go_simp;exact zO hK
 refine zS (fun w' hS hV K hK=>?_) ?_
 ·obtain⟨q0,q1⟩:=hS.1.two;go_simp;exact zO hK
 refine zS (fun w' hS hV K hK=>?_) ?_
 ·obtain⟨q0,q1⟩:=hS.1.two;go_simp;exact zO hK
 refine zS (fun w' hS hV K hK=>?_) ?_
 ·obtain⟨q0,q1⟩:=hS.1.two;go_simp;exact zO hK
 refine zS (fun w' hS hV K hK=>?_) ?_
 ·have e2:=zQ hV 2;have e3:=zQ hV 3;have e4:=zQ hV 4;obtain⟨q0,q1⟩:=hS.1.two;go_simp;refine (vH p hp hp2 k hk A c st X cx xs Y cy ys w' hc hcx hcy (ha.below hS.2) hst (hx.below hS.2) hxn (hy.below hS.2) hyn).mono ?_;rintro e v1 ⟨A9,c9,rfl,hM⟩;exact hK.out _ _ _ rfl rfl ⟨_,_,rfl,hM.after hS.2⟩ hM.b
 refine zS (fun w' hS hV K hK=>?_) ?_
 ·obtain⟨q0,q1⟩:=hS.1.two;go_simp;exact zO hK
 refine zS (fun w' hS hV K hK=>?_) ?_
 ·obtain⟨q0,q1⟩:=hS.1.two;go_simp;exact zO hK
 refine zS (fun w' hS hV K hK=>?_) ?_
 ·obtain⟨q0,q1⟩:=hS.1.two;go_simp;exact zO hK
 refine zS (fun w' hS hV K hK=>?_) ?_
 ·have e6:=zQ hV 6;have e7:=zQ hV 7;have e8:=zQ hV 8;obtain⟨q0,q1⟩:=hS.1.two;go_simp;refine (vH p hp hp2 k hk A c st Y cy ys X cx xs w' hc hcy hcx (ha.below hS.2) hst (hy.below hS.2) hyn (hx.below hS.2) hxn).mono ?_;rintro e v1 ⟨A9,c9,rfl,hM⟩;exact hK.out _ _ _ rfl rfl ⟨_,_,rfl,hM.after hS.2⟩ hM.b
 refine zS (fun w' hS hV K hK=>?_) ?_
 ·have e1:=zQ hV 1;obtain⟨A5,c5,e5,h5⟩:=hV 5 (by decide);obtain⟨A9,c9,e9,h9⟩:=hV 9 (by decide);obtain⟨q0,q1⟩:=hS.1.two;go_simp;refine (vG p A5 (pw k) c5 (dblL p k st xs ys) A9 (pw k) c9 (dblL p k st ys xs) w' hp hp2 (by omega) (Nat.le_refl _) h5.rd (yT (by omega) _ _ _ _) h9.rd (yT (by omega) _ _ _ _)).mono ?_;rintro e v1 ⟨A9,c9,rfl,hM⟩;exact hK.out _ _ _ rfl rfl ⟨_,_,rfl,hM.after hS.2⟩ hM.b
 refine zS (fun w' hS hV K hK=>?_) ?_
 ·obtain⟨A5,c5,e5,h5⟩:=hV 5 (by decide);obtain⟨A9,c9,e9,h9⟩:=hV 9 (by decide);obtain⟨A10,c10,e10,h10⟩:=hV 10 (by decide);obtain⟨q0,q1⟩:=hS.1.two;go_simp;exact hK.out _ _ _ rfl rfl ⟨_,_,rfl,h10⟩ zG
 refine fun w' hS hV=>?_
 have e0:=zT hV 0
 have e1:=zT hV 1
 have e2:=zT hV 2
 have e3:=zT hV 3
 have e4:=zT hV 4
 obtain⟨A5,c5,e5,h5⟩:=hV 5 (by decide)
 have e6:=zT hV 6
 have e7:=zT hV 7
 have e8:=zT hV 8
 obtain⟨A9,c9,e9,h9⟩:=hV 9 (by decide)
 obtain⟨A10,c10,e10,h10⟩:=hV 10 (by decide)
 obtain⟨A11,c11,e11,h11⟩:=hV 11 (by decide)
 simp only[e0,e1,e2,e3,e4,e5,e6,e7,e8,e9,e10,e11]
 clear e0 e1 e2 e3 e4 e5 e6 e7 e8 e9 e10 e11
 refine wpAny_done (by kernel_rfl) ?_ _
 go_wp2
 go_ret
 exact⟨_,_,rfl,h11⟩
set_option maxHeartbeats 1600000 in
set_option maxRecDepth 8000 in
theorem yfO (p:Int) (hp:2≤p) (hp2:p≤13) (k:Nat) (hk:k≤4) (A:Option Addr) (c:Nat) (st:List Int) (X:Option Addr) (cx:Nat) (xs:List Int) (Y:Option Addr) (cy:Nat) (ys:List Int) (Z:Option Addr) (cz:Nat) (zs:List Int) (w:World) (hc:k≤c) (ha:Rd w A k (ints st)) (hst:NumsL p st) (hx:Rd w X (pw k) (ints xs)) (hxn:NumsL p xs) (hcx:pw k≤cx) (hy:Rd w Y (pw k) (ints ys)) (hyn:NumsL p ys) (hcy:pw k≤cy) (hz:Rd w Z (pw k) (ints zs)) (hzn:NumsL p zs) (hcz:pw k≤cz) :
 Calls Tryz.prog 124 #[.agg #[.int .i64 p,.slice A k c],.slice X (pw k) cx,.slice Y (pw k) cy,.slice Z (pw k) cz] w fun e w'=>∃ A' c',e=.returned (.slice A' (pw k) c')∧MkI w w' A' (pw k) c' (assL p k st xs ys zs):=by
 have hB0:Below w.heap.size w (w.alloc (.cells #[.int .i64 p,.slice A k c] 26)):=zG.alloc (Nat.le_refl _) _
 have k0:Blk (w.alloc (.cells #[.int .i64 p,.slice A k c] 26)) w.heap.size 26 #[.int .i64 p,.slice A k c]:=Blk.new _ _ _
 have hpk:pw k≤16:=yz hk
 go_enter Tryz.func124,Tryz.ntmps124
 go_wp2
 refine yh 18 [[],[0],[],[],[],[],[3,4,5],[],[2,3,4,5,6,7],[],[],[],[],[],[11,12,13],[9,10,11,12,13,14],[0,1,2,3,4,5,6,7,8,9,10,11,12,13,14,15],[0,1,2,3,4,5,6,7,8,9,10,11,12,13,14,15,16]] [VIs (.pointer (some ⟨w.heap.size,0,none⟩)),VIs (.int .i64 (p)),VIs (.agg #[.int .i64 p,.slice A k c]),VIs (.agg #[.int .i64 p,.slice A k c]),VIs (.slice X (pw k) cx),VIs (.slice Y (pw k) cy),VSl w (pw k) (dblL p k st xs ys),VIs (.slice Z (pw k) cz),VSl w (pw k) (dblL p k st (dblL p k st xs ys) zs),VIs (.agg #[.int .i64 p,.slice A k c]),VIs (.slice X (pw k) cx),VIs (.agg #[.int .i64 p,.slice A k c]),VIs (.slice Y (pw k) cy),VIs (.slice Z (pw k) cz),VSl w (pw k) (dblL p k st ys zs),VSl w (pw k) (dblL p k st xs (dblL p k st ys zs)),VSl w (pw k) (assL p k st xs ys zs),VSl w (pw k) (assL p k st xs ys zs)] (fun w'=>Blk w' w.heap.size 26 #[.int .i64 p,.slice A k c]∧Below w.heap.size w w') (by kernel_rfl) (by kernel_rfl) (fun _ _ h hb=>⟨h.1.below hb h.1.lt,h.2.trans (hb.mono h.2.size)⟩) (⟨k0.drew,hB0.drew⟩) (fun x=>?_)
 refine zS (fun w' hS hV K hK=>?_) ?_
 ·obtain⟨q0,q1⟩:=hS.1.two;go_simp;exact zO hK
 refine zS (fun w' hS hV K hK=>?_) ?_
 ·have e0:=zQ hV 0;obtain⟨q0,q1⟩:=hS.1.two;go_simp;exact zO hK
 refine zS (fun w' hS hV K hK=>?_) ?_
 ·obtain⟨q0,q1⟩:=hS.1.two;go_simp;exact zO hK
 refine zS (fun w' hS hV K hK=>?_) ?_
 ·obtain⟨q0,q1⟩:=hS.1.two;go_simp;exact zO hK
 refine zS (fun w' hS hV K hK=>?_) ?_
 ·obtain⟨q0,q1⟩:=hS.1.two;go_simp;exact zO hK
 refine zS (fun w' hS hV K hK=>?_) ?_
 ·obtain⟨q0,q1⟩:=hS.1.two;go_simp;exact zO hK
 refine zS (fun w' hS hV K hK=>?_) ?_
 ·have e3:=zQ hV 3;have e4:=zQ hV 4;have e5:=zQ hV 5;obtain⟨q0,q1⟩:=hS.1.two;go_simp;refine (vH p hp hp2 k hk A c st X cx xs Y cy ys w' hc hcx hcy (ha.below hS.2) hst (hx.below hS.2) hxn (hy.below hS.2) hyn).mono ?_;rintro e v1 ⟨A9,c9,rfl,hM⟩;exact hK.out _ _ _ rfl rfl ⟨_,_,rfl,hM.after hS.2⟩ hM.b
 refine zS (fun w' hS hV K hK=>?_) ?_
 ·obtain⟨q0,q1⟩:=hS.1.two;go_simp;exact zO hK
 refine zS (fun w' hS hV K hK=>?_) ?_
 ·have e2:=zQ hV 2;obtain⟨A6,c6,e6,h6⟩:=hV 6 (by decide);have e7:=zQ hV 7;obtain⟨q0,q1⟩:=hS.1.two;go_simp;refine (vH p hp hp2 k hk A c st _ c6 (dblL p k st xs ys) Z cz zs w' hc h6.2.cap hcz (ha.below hS.2) hst h6.rd (yT (by omega) _ _ _ _) (hz.below hS.2) hzn).mono ?_;rintro e v1 ⟨A9,c9,rfl,hM⟩;exact hK.out _ _ _ rfl rfl ⟨_,_,rfl,hM.after hS.2⟩ hM.b
 refine zS (fun w' hS hV K hK=>?_) ?_
 ·obtain⟨q0,q1⟩:=hS.1.two;go_simp;exact zO hK
 refine zS (fun w' hS hV K hK=>?_) ?_
 ·obtain⟨q0,q1⟩:=hS.1.two;go_simp;exact zO hK
 refine zS (fun w' hS hV K hK=>?_) ?_
 ·obtain⟨q0,q1⟩:=hS.1.two;go_simp;exact zO hK
 refine zS (fun w' hS hV K hK=>?_) ?_
 ·obtain⟨q0,q1⟩:=hS.1.two;go_simp;exact zO hK
 refine zS (fun w' hS hV K hK=>?_) ?_
 ·obtain⟨q0,q1⟩:=hS.1.two;go_simp;exact zO hK
 refine zS (fun w' hS hV K hK=>?_) ?_
 ·have e11:=zQ hV 11;have e12:=zQ hV 12;have e13:=zQ hV 13;obtain⟨q0,q1⟩:=hS.1.two;go_simp;refine (vH p hp hp2 k hk A c st Y cy ys Z cz zs w' hc hcy hcz (ha.below hS.2) hst (hy.below hS.2) hyn (hz.below hS.2) hzn).mono ?_;rintro e v1 ⟨A9,c9,rfl,hM⟩;exact hK.out _ _ _ rfl rfl ⟨_,_,rfl,hM.after hS.2⟩ hM.b
 refine zS (fun w' hS hV K hK=>?_) ?_
 ·have e9:=zQ hV 9;have e10:=zQ hV 10;obtain⟨A14,c14,e14,h14⟩:=hV 14 (by decide);obtain⟨q0,q1⟩:=hS.1.two;go_simp;refine (vH p hp hp2 k hk A c st X cx xs _ c14 (dblL p k st ys zs) w' hc hcx h14.2.cap (ha.below hS.2) hst (hx.below hS.2) hxn h14.rd (yT (by omega) _ _ _ _)).mono ?_;rintro e v1 ⟨A9,c9,rfl,hM⟩;exact hK.out _ _ _ rfl rfl ⟨_,_,rfl,hM.after hS.2⟩ hM.b
 refine zS (fun w' hS hV K hK=>?_) ?_
 ·have e1:=zQ hV 1;obtain⟨A6,c6,e6,h6⟩:=hV 6 (by decide);obtain⟨A8,c8,e8,h8⟩:=hV 8 (by decide);obtain⟨A14,c14,e14,h14⟩:=hV 14 (by decide);obtain⟨A15,c15,e15,h15⟩:=hV 15 (by decide);obtain⟨q0,q1⟩:=hS.1.two;go_simp;refine (vG p A8 (pw k) c8 (dblL p k st (dblL p k st xs ys) zs) A15 (pw k) c15 (dblL p k st xs (dblL p k st ys zs)) w' hp hp2 (by omega) (Nat.le_refl _) h8.rd (yT (by omega) _ _ _ _) h15.rd (yT (by omega) _ _ _ _)).mono ?_;rintro e v1 ⟨A9,c9,rfl,hM⟩;exact hK.out _ _ _ rfl rfl ⟨_,_,rfl,hM.after hS.2⟩ hM.b
 refine zS (fun w' hS hV K hK=>?_) ?_
 ·obtain⟨A6,c6,e6,h6⟩:=hV 6 (by decide);obtain⟨A8,c8,e8,h8⟩:=hV 8 (by decide);obtain⟨A14,c14,e14,h14⟩:=hV 14 (by decide);obtain⟨A15,c15,e15,h15⟩:=hV 15 (by decide);obtain⟨A16,c16,e16,h16⟩:=hV 16 (by decide);obtain⟨q0,q1⟩:=hS.1.two;go_simp;exact hK.out _ _ _ rfl rfl ⟨_,_,rfl,h16⟩ zG
 refine fun w' hS hV=>?_
 have e0:=zT hV 0
 have e1:=zT hV 1
 have e2:=zT hV 2
 have e3:=zT hV 3
 have e4:=zT hV 4
 have e5:=zT hV 5
 obtain⟨A6,c6,e6,h6⟩:=hV 6 (by decide)
 have e7:=zT hV 7
 obtain⟨A8,c8,e8,h8⟩:=hV 8 (by decide)
 have e9:=zT hV 9
 have e10:=zT hV 10
 have e11:=zT hV 11
 have e12:=zT hV 12
 have e13:=zT hV 13
 obtain⟨A14,c14,e14,h14⟩:=hV 14 (by decide)
 obtain⟨A15,c15,e15,h15⟩:=hV 15 (by decide)
 obtain⟨A16,c16,e16,h16⟩:=hV 16 (by decide)
 obtain⟨A17,c17,e17,h17⟩:=hV 17 (by decide)
 simp only[e0,e1,e2,e3,e4,e5,e6,e7,e8,e9,e10,e11,e12,e13,e14,e15,e16,e17]
 clear e0 e1 e2 e3 e4 e5 e6 e7 e8 e9 e10 e11 e12 e13 e14 e15 e16 e17
 refine wpAny_done (by kernel_rfl) ?_ _
 go_wp2
 go_ret
 exact⟨_,_,rfl,h17⟩
theorem ye9 {p:Int} {k:Nat} {st x y z:List Int}:yp p (cmtL p k st (cmtL p k st x y) z) (yl p (assL p k st x y z) 3) (-1)=innL p k st x y z:=by
 unfold innL
 refine yU 0 (by rw[yP,yP]) fun i hi=>?_
 rw[yP]at hi
 rw[zw _ _ hi,zw _ _ hi,z4 _ (by rw[ydB];rw[ya1]at hi;exact hi),Int.add_emod,Int.mul_emod,Int.emod_emod_of_dvd _ (Int.dvd_refl p),← Int.mul_emod,← Int.add_emod]
 congr 1;omega
def innM (p:Int) (k:Nat) (st x y:List Int):List (List Int):=zt (tab (pw k) fun i=>innL p k st x y (ye (pw k) i))
set_option maxHeartbeats 3200000 in
set_option maxRecDepth 8000 in
theorem yfS (p:Int) (hp:2≤p) (hp2:p≤13) (k:Nat) (hk:k≤4) (A:Option Addr) (c:Nat) (st:List Int) (X:Option Addr) (cx:Nat) (xs:List Int) (Y:Option Addr) (cy:Nat) (ys:List Int) (w:World) (hc:k≤c) (ha:Rd w A k (ints st)) (hst:NumsL p st) (hx:Rd w X (pw k) (ints xs)) (hxn:NumsL p xs) (hcx:pw k≤cx) (hy:Rd w Y (pw k) (ints ys)) (hyn:NumsL p ys) (hcy:pw k≤cy) :
 Calls Tryz.prog 70 #[.agg #[.int .i64 p,.slice A k c],.slice X (pw k) cx,.slice Y (pw k) cy] w fun e w'=>∃ A' c',e=.returned (.slice A' (pw k) c')∧MkII w w' A' (pw k) c' (innM p k st xs ys):=by
 have hpk:pw k≤16:=yz hk
 have hpos:=yq k
 have hB0:Below w.heap.size w (w.alloc (.cells #[.int .i64 p,.slice A k c] 26)):=zG.alloc (Nat.le_refl _) _
 have k0:Blk (w.alloc (.cells #[.int .i64 p,.slice A k c] 26)) w.heap.size 26 #[.int .i64 p,.slice A k c]:=Blk.new _ _ _
 have hB1:=hB0.alloc (by simp) (.cells #[] 24)
 have k1:=k0.alloc (.cells #[] 24)
 have hM1:MkII w ((w.alloc (.cells #[.int .i64 p,.slice A k c] 26)).alloc (.cells #[] 24)) (some ⟨w.heap.size+1,0,none⟩) 0 0 []:=by
  have:=MkII.empty hB0
  simpa using this
 obtain⟨w1,hw1⟩:∃ W,W=(w.alloc (.cells #[.int .i64 p,.slice A k c] 26)).alloc (.cells #[] 24):=⟨_,rfl⟩
 have hs1:w1.heap.size=w.heap.size+2:=by rw[hw1];simp
 rw[← hw1]at hB1 k1 hM1
 clear k0 hB0
 obtain⟨q0,q1⟩:=k1.two
 go_enter Tryz.func70,Tryz.ntmps70
 go_wp2_with fail
 rw[← hw1]
 refine (ybV p hp hp2 k hk A c st X cx xs Y cy ys w1 hc (ha.below hB1) hst (hx.below hB1) hxn hcx (hy.below hB1) hyn hcy).mono ?_
 rintro e w2 ⟨C,cc,rfl,hC⟩
 have hM2:=hM1.below hC.b
 have k2:=k1.below hC.b k1.lt
 have hcc:=hC.2.cap
 have HCO:=Lib.hid hC.2
 have hKp:Keeps w1 w2 w2 (.slice (some ⟨w.heap.size+1,0,none⟩) 0 0):=⟨Nat.le_refl _,fun _ _ _=>rfl,fun gb e=>.inl (vI e (by omega))⟩
 clear hM1 k1 hB1 q0 q1 hw1 hC
 go_wp2
 go_loopw [7,9] (fun out i wr=>∃ (j:Nat) (A':Option Addr) (c':Nat),j≤pw k∧i=.int .i64 j∧out=.slice A' j c'∧MkII w wr A' j c' (tab j fun i=>innL p k st xs ys (ye (pw k) i))∧Keeps w1 w2 wr (.slice A' j c')∧Blk wr w.heap.size 26 #[.int .i64 p,.slice A k c]) (fun _ i _=>pw k-(intOf i).toNat)
 case atStart=>exact⟨0,_,_,by omega,rfl,rfl,by simpa [tab] using hM2,hKp,k2⟩
 case round=>
  obtain⟨j,A',c',hj,rfl,rfl,hM,hKs,k4⟩:=hrel
  clear hM2 hKp k2
  have HC0:=Lib.hid (Own.keep HCO.out hKs.2.1)
  have HA0:=Lib.hid (ha.below hM.b)
  have HX0:=Lib.hid (hx.below hM.b)
  have HY0:=Lib.hid (hy.below hM.b)
  have HKS:=Lib.hid hKs
  have HM0:=Lib.hid hM
  obtain⟨q0,q1⟩:=k4.two
  clear hM hKs
  by_cases hlt:j<pw k
  ·go_wp2_with fail
   refine (xb p A k c wr (by omega)).mono ?_
   rintro e w5 ⟨rfl,hb5⟩
   have k5:=k4.below hb5 k4.lt
   clear q0 q1
   obtain⟨q0,q1⟩:=k5.two
   go_wp2_with fail
   refine (j5 p A k c j w5 hk hlt).mono ?_
   rintro e w6 ⟨Z,cz,rfl,hZ⟩
   have hb6:=hb5.trans (hZ.b.mono hb5.size)
   have k6:=k5.below hZ.b k5.lt
   have hcz:=hZ.2.cap
   obtain⟨zs,hzs⟩:∃ z,z=ye (pw k) j:=⟨_,rfl⟩
   have HZN:Hid (NumsL p zs):=Lib.hid (by rw[hzs];exact vh hp _ _)
   have HZ:Hid (Rd w6 Z (pw k) (ints zs)):=Lib.hid (by rw[hzs];exact hZ.rd)
   have HC:=Lib.hid (HC0.out.below hb6)
   have HA:=Lib.hid (HA0.out.below hb6)
   have HX:=Lib.hid (HX0.out.below hb6)
   have HY:=Lib.hid (HY0.out.below hb6)
   have HM:=Lib.hid (HM0.out.below hb6)
   have HB6:=Lib.hid hb6
   have HZS:=Lib.hid hzs
   have HIN:=Lib.hid (ye9 (p:=p) (k:=k) (st:=st) (x:=xs) (y:=ys) (z:=zs))
   clear q0 q1 hZ hb5 hb6 k4 k5 hzs HC0 HA0 HX0 HY0 HM0 ha hx hy
   go_wp2
   refine yh 17 [[],[],[1],[],[],[],[3,4,5],[],[7],[],[],[],[],[9,10,11,12],[7,8,9,10,11,12,13],[1,2,3,4,5,6,7,8,9,10,11,12,13,14],[1,2,3,4,5,6,7,8,9,10,11,12,13,14,15],[0,1,2,3,4,5,6,7,8,9,10,11,12,13,14,15,16],[0,1,2,3,4,5,6,7,8,9,10,11,12,13,14,15,16,17]] [VIs (.slice A' j c'),VIs (.pointer (some ⟨w.heap.size,0,none⟩)),VIs (.int .i64 (p)),VIs (.agg #[.int .i64 p,.slice A k c]),VIs (.slice C (pw k) cc),VIs (.slice Z (pw k) cz),VSl w6 (pw k) (cmtL p k st (cmtL p k st xs ys) zs),VIs (.pointer (some ⟨w.heap.size,0,none⟩)),VIs (.int .i64 (p)),VIs (.agg #[.int .i64 p,.slice A k c]),VIs (.slice X (pw k) cx),VIs (.slice Y (pw k) cy),VIs (.slice Z (pw k) cz),VSl w6 (pw k) (assL p k st xs ys zs),VSl w6 (pw k) (yl p (assL p k st xs ys zs) 3),VSl w6 (pw k) (innL p k st xs ys zs),VNew w6 (pw k) (innL p k st xs ys zs)] (fun w'=>Blk w' w.heap.size 26 #[.int .i64 p,.slice A k c]∧Below w6.heap.size w6 w') (by kernel_rfl) (by kernel_rfl) (fun _ _ h hb=>⟨h.1.below hb h.1.lt,h.2.trans (hb.mono h.2.size)⟩) (⟨k6.drew,zG.drew⟩) (fun x=>?_)
   refine zS (fun w' hS hV K hK=>?_) ?_
   ·obtain⟨q0,q1⟩:=hS.1.two;go_simp;exact zO hK
   refine zS (fun w' hS hV K hK=>?_) ?_
   ·obtain⟨q0,q1⟩:=hS.1.two;go_simp;exact zO hK
   refine zS (fun w' hS hV K hK=>?_) ?_
   ·have e1:=zQ hV 1;obtain⟨q0,q1⟩:=hS.1.two;go_simp;exact zO hK
   refine zS (fun w' hS hV K hK=>?_) ?_
   ·obtain⟨q0,q1⟩:=hS.1.two;go_simp;exact zO hK
   refine zS (fun w' hS hV K hK=>?_) ?_
   ·obtain⟨q0,q1⟩:=hS.1.two;go_simp;exact zO hK
   refine zS (fun w' hS hV K hK=>?_) ?_
   ·obtain⟨q0,q1⟩:=hS.1.two;go_simp;exact zO hK
   refine zS (fun w' hS hV K hK=>?_) ?_
   ·have e3:=zQ hV 3;have e4:=zQ hV 4;have e5:=zQ hV 5;obtain⟨q0,q1⟩:=hS.1.two;go_simp;refine (ybV p hp hp2 k hk A c st C cc (cmtL p k st xs ys) Z cz zs w' hc (HA.out.below hS.2) hst (HC.out.below hS.2) (ya2 (by omega) _ _ _ _) hcc (HZ.out.below hS.2) HZN.out hcz).mono ?_;rintro e v1 ⟨A9,c9,rfl,hM⟩;exact hK.out _ _ _ rfl rfl ⟨_,_,rfl,hM.after hS.2⟩ hM.b
   refine zS (fun w' hS hV K hK=>?_) ?_
   ·obtain⟨q0,q1⟩:=hS.1.two;go_simp;exact zO hK
   refine zS (fun w' hS hV K hK=>?_) ?_
   ·have e7:=zQ hV 7;obtain⟨q0,q1⟩:=hS.1.two;go_simp;exact zO hK
   refine zS (fun w' hS hV K hK=>?_) ?_
   ·obtain⟨q0,q1⟩:=hS.1.two;go_simp;exact zO hK
   refine zS (fun w' hS hV K hK=>?_) ?_
   ·obtain⟨q0,q1⟩:=hS.1.two;go_simp;exact zO hK
   refine zS (fun w' hS hV K hK=>?_) ?_
   ·obtain⟨q0,q1⟩:=hS.1.two;go_simp;exact zO hK
   refine zS (fun w' hS hV K hK=>?_) ?_
   ·obtain⟨q0,q1⟩:=hS.1.two;go_simp;exact zO hK
   refine zS (fun w' hS hV K hK=>?_) ?_
   ·have e9:=zQ hV 9;have e10:=zQ hV 10;have e11:=zQ hV 11;have e12:=zQ hV 12;obtain⟨q0,q1⟩:=hS.1.two;go_simp;refine (yfO p hp hp2 k hk A c st X cx xs Y cy ys Z cz zs w' hc (HA.out.below hS.2) hst (HX.out.below hS.2) hxn hcx (HY.out.below hS.2) hyn hcy (HZ.out.below hS.2) HZN.out hcz).mono ?_;rintro e v1 ⟨A9,c9,rfl,hM⟩;exact hK.out _ _ _ rfl rfl ⟨_,_,rfl,hM.after hS.2⟩ hM.b
   refine zS (fun w' hS hV K hK=>?_) ?_
   ·have e8:=zQ hV 8;obtain⟨A13,c13,e13,h13⟩:=hV 13 (by decide);obtain⟨q0,q1⟩:=hS.1.two;go_simp;refine (xm p 3 A13 (pw k) c13 (assL p k st xs ys zs) w' hp hp2 (by omega) h13.rd (ydC (by omega) _ _ _ _ _) (by omega) (by omega)).mono ?_;rintro e v1 ⟨A9,c9,rfl,hM⟩;exact hK.out _ _ _ rfl rfl ⟨_,_,rfl,hM.after hS.2⟩ hM.b
   refine zS (fun w' hS hV K hK=>?_) ?_
   ·have e2:=zQ hV 2;obtain⟨A6,c6,e6,h6⟩:=hV 6 (by decide);obtain⟨A13,c13,e13,h13⟩:=hV 13 (by decide);obtain⟨A14,c14,e14,h14⟩:=hV 14 (by decide);obtain⟨q0,q1⟩:=hS.1.two;go_simp;refine (vG p A6 (pw k) c6 (cmtL p k st (cmtL p k st xs ys) zs) A14 (pw k) c14 (yl p (assL p k st xs ys zs) 3) w' hp hp2 (by omega) (Nat.le_refl _) h6.rd (ya2 (by omega) _ _ _ _) h14.rd (zU (by omega) _ _)).mono ?_;rw[HIN.out];rintro e v1 ⟨A9,c9,rfl,hM⟩;exact hK.out _ _ _ rfl rfl ⟨_,_,rfl,hM.after hS.2⟩ hM.b
   refine zS (fun w' hS hV K hK=>?_) ?_
   ·obtain⟨A6,c6,e6,h6⟩:=hV 6 (by decide);obtain⟨A13,c13,e13,h13⟩:=hV 13 (by decide);obtain⟨A14,c14,e14,h14⟩:=hV 14 (by decide);obtain⟨A15,c15,e15,h15⟩:=hV 15 (by decide);obtain⟨q0,q1⟩:=hS.1.two;go_simp;exact hK.out _ _ _ rfl rfl ⟨_,_,_,rfl,Blk.new _ _ _,h15.below (zG.alloc (Nat.le_refl _) _)⟩ (zG.alloc (Nat.le_refl _) _)
   refine fun w' hS hV=>?_
   have e0:=zT hV 0
   have e1:=zT hV 1
   have e2:=zT hV 2
   have e3:=zT hV 3
   have e4:=zT hV 4
   have e5:=zT hV 5
   obtain⟨A6,c6,e6,h6⟩:=hV 6 (by decide)
   have e7:=zT hV 7
   have e8:=zT hV 8
   have e9:=zT hV 9
   have e10:=zT hV 10
   have e11:=zT hV 11
   have e12:=zT hV 12
   obtain⟨A13,c13,e13,h13⟩:=hV 13 (by decide)
   obtain⟨A14,c14,e14,h14⟩:=hV 14 (by decide)
   obtain⟨A15,c15,e15,h15⟩:=hV 15 (by decide)
   obtain⟨g16,A16,c16,e16,b16,h16⟩:=hV 16 (by decide)
   simp only[e0,e1,e2,e3,e4,e5,e6,e7,e8,e9,e10,e11,e12,e13,e14,e15,e16]
   clear e0 e1 e2 e3 e4 e5 e6 e7 e8 e9 e10 e11 e12 e13 e14 e15 e16
   obtain⟨k7,s2⟩:=hS
   refine xg (j:=17) (by kernel_rfl) (Eq.trans (by simp only[zA,zB,zC];exact rfl) rfl) rfl (fun K hK=>?_)
   refine q9 w w6 w' _ _ rfl A' j c' _ A16 (pw k) c16 _ HM.out h16 (by omega) g16 b16 (by rfl) (by rfl) ?_
   intro A20 c20 w20 hM20 hg20 hat20
   refine hK.out _ _ ?_
   simp only[Act.put,zD,zE,zF]
   refine yK (j:=18) (by kernel_rfl) (Eq.trans (by simp only[zA,zB,zC];exact rfl) rfl) (fun K hK=>?_)
   go_simp
   refine hK.out _ _ (wpAny_done (by kernel_rfl) ?_ _)
   have hk8:=k7.grown hg20 ((HM.out.below s2).ne_blk k7 (by decide))
   have hks:=HKS.out.step (HB6.out.trans (s2.mono HB6.out.size)) hg20 hat20 (n':=j+1) (c':=c20)
   clear k7 hat20 hg20
   go_wp2
   go_roundw
   case rel=>exact⟨j+1,A20,c20,by omega,by go_num,rfl,by rw[yQ,← HZS.out];exact hM20,hks,hk8⟩
   case measure=>simp[intOf];omega
  ·obtain rfl:j=pw k:=by omega
   go_wp2_with fail
   refine (xb p A k c wr (by omega)).mono ?_
   rintro e w5 ⟨rfl,hb5⟩
   have HM:=Lib.hid (HM0.out.below hb5)
   clear q0 q1 k4
   go_wp2_with fail
   refine (yfB p A' (pw k) c' (tab (pw k) fun i=>innL p k st xs ys (ye (pw k) i)) w5 hpos (by omega) HM.out.rd (Tab.tab fun i _=>⟨ybF _ _ _ _ _ _,ybG (by omega) _ _ _ _ _⟩)).mono ?_
   rintro e w7 ⟨A7,c7,rfl,hM7⟩
   go_wp2
   go_ret
   exact⟨_,_,rfl,hM7.after HM.out.b⟩
theorem ycx {A A':Option Addr} {n c n' c' b B:Nat} (h:∀ gb,(Value.slice A n c).ownBlock=some gb→gb≠b) (hat:∃ g',A'=some ⟨g',0,none⟩∧((Value.slice A n c).ownBlock=some g'∨B≤g')) (hb:b<B):∀ gb,(Value.slice A' n' c').ownBlock=some gb→gb≠b:=by
 obtain⟨g',rfl,hg⟩:=hat
 intro gb e
 have e1:g'=gb:=by simpa [Value.ownBlock] using e
 subst e1
 rcases hg with hg | hg
 ·exact h _ hg
 ·omega
def yO (p:Int) (k0:Nat) (st xs:List Int):List (List Int):=zt (tab (pw k0) fun i=>dblL p k0 st xs (ye (pw k0) i))
set_option maxHeartbeats 3200000 in
set_option maxRecDepth 8000 in
theorem yew (p:Int) (A:Option Addr) (k0 c:Nat) (st:List Int) (X:Option Addr) (cx:Nat) (xs:List Int) (w:World) (hp:2≤p) (hp2:p≤13) (hk:k0≤4) (hc:k0≤c) (hcx:pw k0≤cx) (ha:Rd w A k0 (ints st)) (hst:NumsL p st) (hx:Rd w X (pw k0) (ints xs)) (hxs:NumsL p xs) :
 Calls Tryz.prog 49 #[.agg #[.int .i64 p,.slice A k0 c],.slice X (pw k0) cx] w fun e w'=>∃ A' c',e=.returned (.slice A' (pw k0) c')∧MkII w w' A' (pw k0) c' (yO p k0 st xs):=by
 obtain⟨G,hGd⟩:∃ G:Nat→List Int,G=fun i=>dblL p k0 st xs (ye (pw k0) i):=⟨_,rfl⟩
 have hG:∀ i,i<pw k0→(G i).length=pw k0∧NumsL p (G i):=fun i _=>by rw[hGd];exact⟨zu _ _ _ _ _,yT (by omega) _ _ _ _⟩
 have hof:∀ (i:Nat) (w':World) (Y:Option Addr) (cy:Nat),i<pw k0→Below w.heap.size w w'→Rd w' Y (pw k0) (ints (ye (pw k0) i))→pw k0≤cy→Calls Tryz.prog 108 #[.agg #[.int .i64 p,.slice A k0 c],.slice X (pw k0) cx,.slice Y (pw k0) cy] w' fun e w5=>∃ A5 c5,e=.returned (.slice A5 (pw k0) c5)∧MkI w' w5 A5 (pw k0) c5 (G i):=by
  intro i w' Y cy hi hb hy hcy
  rw[hGd]
  exact qj p hp hp2 k0 hk A c st X cx xs Y cy _ w' hc hcx hcy (ha.below hb) hst (hx.below hb) hxs hy (vh hp _ _)
 have e0:yO p k0 st xs=zt (tab (pw k0) G):=by rw[hGd];rfl
 rw[e0]
 clear hGd e0
 have hpk:pw k0≤16:=yz hk
 have hpos:=yq k0
 have hB0:Below w.heap.size w (w.alloc (.cells #[.int .i64 p,.slice A k0 c] 26)):=zG.alloc (Nat.le_refl _) _
 have kk0:Blk (w.alloc (.cells #[.int .i64 p,.slice A k0 c] 26)) w.heap.size 26 #[.int .i64 p,.slice A k0 c]:=Blk.new _ _ _
 have hB1:=hB0.alloc (by simp) (.cells #[] 24)
 have k1:=kk0.alloc (.cells #[] 24)
 have hM1:MkII w ((w.alloc (.cells #[.int .i64 p,.slice A k0 c] 26)).alloc (.cells #[] 24)) (some ⟨w.heap.size+1,0,none⟩) 0 0 []:=by
  have:=MkII.empty hB0
  simpa using this
 clear kk0
 obtain⟨q0,q1⟩:=k1.two
 have HG:=Lib.hid hG
 have HOF:=Lib.hid hof
 clear hG hof
 go_enter Tryz.func49,Tryz.ntmps49
 go_wp2_with fail
 refine (z8 p A k0 c _ hk).mono ?_
 rintro e w2 ⟨rfl,hb2⟩
 have hM2:=hM1.below hb2
 have hB2:=hB1.trans (hb2.mono hB1.size)
 have k2:=k1.below hb2 k1.lt
 clear hM1 q0 q1 k1 hB0 hB1
 obtain⟨n,hn⟩:∃ n,n=pw k0:=⟨_,rfl⟩
 have HN:=Lib.hid hn
 rw[← hn]at hpk hpos HG HOF ⊢
 clear hn
 go_wp2_with fail
 refine (ul n _ (by omega)).mono ?_
 rintro e w3 ⟨U,cU,rfl,hU⟩
 have hM3:=hM2.below hU.b
 have hB3:=hB2.trans (hU.b.mono hB2.size)
 have k3:=k2.below hU.b k2.lt
 have hsz2:w.heap.size+1<w2.heap.size:=by have:=hb2.size;simp at this;omega
 have hKp:Keeps w2 w3 w3 (.slice (some ⟨w.heap.size+1,0,none⟩) 0 0):=⟨Nat.le_refl _,fun _ _ _=>rfl,fun gb e=>.inl (vI e hsz2)⟩
 have hgb:∀ gb,(Value.slice (some ⟨w.heap.size+1,0,none⟩) 0 0).ownBlock=some gb→gb≠w.heap.size:=fun gb e=>by
  have:w.heap.size+1=gb:=by simpa [Value.ownBlock] using e
  omega
 clear hM2 hB2 hb2 hsz2 k2
 go_wp2
 go_loopw [5,13] (fun out i wr=>∃ (j:Nat) (A':Option Addr) (c':Nat),j≤n∧i=.int .i64 j∧out=.slice A' j c'∧MkII w wr A' j c' (tab j G)∧Keeps w2 w3 wr (.slice A' j c')∧Blk wr w.heap.size 26 #[.int .i64 p,.slice A k0 c]∧w3.heap.size≤wr.heap.size∧Hid (∀ gb,(Value.slice A' j c').ownBlock=some gb→gb≠w.heap.size)) (fun _ i _=>n-(intOf i).toNat)
 case atStart=>exact⟨0,_,_,by omega,rfl,rfl,by simpa [tab] using hM3,hKp,k3,Nat.le_refl _,Lib.hid hgb⟩
 case round=>
  clear hgb k3
  obtain⟨j,A',c',hj,rfl,rfl,hM,hB4,kb,hsz,HGB⟩:=hrel
  clear hM3 hKp
  obtain⟨q0,q1⟩:=kb.two
  by_cases hlt:j<n
  ·obtain⟨gu,ou,rfl,hxk,A1,c1,hcu,hru,hcc⟩:=(hU.keep hB4.2.1).at_ hlt
   have hrow:=vM n j hxk
   rw[hrow,zm]at hru hcu hcc
   have hcall:=HOF.out j wr A1 c1 hlt hM.b hru hcc
   have HM:=Lib.hid hM
   have HB4:=Lib.hid hB4
   clear hM hru hrow hB4
   go_wp2_with fail
   refine hcall.mono ?_
   rintro e w5 ⟨A5,c5,rfl,hM5⟩
   have kb5:=kb.below hM5.b kb.lt
   clear hcall q0 q1
   go_wp2_with (at_builtin;refine vi w wr _ rfl _ _ rfl A' j c' _ A5 n c5 _ HM.out hM5 (by omega) rfl ?_ ?_;(go_simp);intro A6 c6 w6 hM6 hg6 hat6)
   go_roundw
   case rel=>exact⟨j+1,A6,c6,by omega,by go_num,rfl,by rw[yQ];exact hM6,HB4.out.step hM5.b hg6 hat6,(kb5.grown hg6 (fun e=>HGB.out _ e.symm rfl)),by have:=hg6.size;have:=hM5.b.size;omega,Lib.hid (ycx HGB.out hat6 (Nat.lt_of_lt_of_le kb5.lt (Nat.le_refl _)))⟩
   case measure=>simp[intOf];omega
  ·obtain rfl:j=n:=by omega
   go_wp2_with fail
   refine (yda p A' j c' (tab j G) j _ hpos (by omega) (by omega) hM.rd (Tab.tab HG.out)).mono ?_
   rintro e w5 ⟨A5,c5,rfl,hM5⟩
   go_wp2
   go_ret
   rw[← HN.out]
   exact⟨_,_,rfl,hM5.after hM.b⟩
def yY (p:Int) (k0:Nat) (st xs:List Int):List (List Int):=zt (tab (pw k0) fun i=>dblL p k0 st (ye (pw k0) i) xs)
set_option maxHeartbeats 3200000 in
set_option maxRecDepth 8000 in
theorem yeI (p:Int) (A:Option Addr) (k0 c:Nat) (st:List Int) (X:Option Addr) (cx:Nat) (xs:List Int) (w:World) (hp:2≤p) (hp2:p≤13) (hk:k0≤4) (hc:k0≤c) (hcx:pw k0≤cx) (ha:Rd w A k0 (ints st)) (hst:NumsL p st) (hx:Rd w X (pw k0) (ints xs)) (hxs:NumsL p xs) :
 Calls Tryz.prog 50 #[.agg #[.int .i64 p,.slice A k0 c],.slice X (pw k0) cx] w fun e w'=>∃ A' c',e=.returned (.slice A' (pw k0) c')∧MkII w w' A' (pw k0) c' (yY p k0 st xs):=by
 obtain⟨G,hGd⟩:∃ G:Nat→List Int,G=fun i=>dblL p k0 st (ye (pw k0) i) xs:=⟨_,rfl⟩
 have hG:∀ i,i<pw k0→(G i).length=pw k0∧NumsL p (G i):=fun i _=>by rw[hGd];exact⟨zu _ _ _ _ _,yT (by omega) _ _ _ _⟩
 have hof:∀ (i:Nat) (w':World) (Y:Option Addr) (cy:Nat),i<pw k0→Below w.heap.size w w'→Rd w' Y (pw k0) (ints (ye (pw k0) i))→pw k0≤cy→Calls Tryz.prog 108 #[.agg #[.int .i64 p,.slice A k0 c],.slice Y (pw k0) cy,.slice X (pw k0) cx] w' fun e w5=>∃ A5 c5,e=.returned (.slice A5 (pw k0) c5)∧MkI w' w5 A5 (pw k0) c5 (G i):=by
  intro i w' Y cy hi hb hy hcy
  rw[hGd]
  exact qj p hp hp2 k0 hk A c st Y cy _ X cx xs w' hc hcy hcx (ha.below hb) hst hy (vh hp _ _) (hx.below hb) hxs
 have e0:yY p k0 st xs=zt (tab (pw k0) G):=by rw[hGd];rfl
 rw[e0]
 clear hGd e0
 have hpk:pw k0≤16:=yz hk
 have hpos:=yq k0
 have hB0:Below w.heap.size w (w.alloc (.cells #[.int .i64 p,.slice A k0 c] 26)):=zG.alloc (Nat.le_refl _) _
 have kk0:Blk (w.alloc (.cells #[.int .i64 p,.slice A k0 c] 26)) w.heap.size 26 #[.int .i64 p,.slice A k0 c]:=Blk.new _ _ _
 have hB1:=hB0.alloc (by simp) (.cells #[] 24)
 have k1:=kk0.alloc (.cells #[] 24)
 have hM1:MkII w ((w.alloc (.cells #[.int .i64 p,.slice A k0 c] 26)).alloc (.cells #[] 24)) (some ⟨w.heap.size+1,0,none⟩) 0 0 []:=by
  have:=MkII.empty hB0
  simpa using this
 clear kk0
 obtain⟨q0,q1⟩:=k1.two
 have HG:=Lib.hid hG
 have HOF:=Lib.hid hof
 clear hG hof
 go_enter Tryz.func50,Tryz.ntmps50
 go_wp2_with fail
 refine (z8 p A k0 c _ hk).mono ?_
 rintro e w2 ⟨rfl,hb2⟩
 have hM2:=hM1.below hb2
 have hB2:=hB1.trans (hb2.mono hB1.size)
 have k2:=k1.below hb2 k1.lt
 clear hM1 q0 q1 k1 hB0 hB1
 obtain⟨n,hn⟩:∃ n,n=pw k0:=⟨_,rfl⟩
 have HN:=Lib.hid hn
 rw[← hn]at hpk hpos HG HOF ⊢
 clear hn
 go_wp2_with fail
 refine (ul n _ (by omega)).mono ?_
 rintro e w3 ⟨U,cU,rfl,hU⟩
 have hM3:=hM2.below hU.b
 have hB3:=hB2.trans (hU.b.mono hB2.size)
 have k3:=k2.below hU.b k2.lt
 have hsz2:w.heap.size+1<w2.heap.size:=by have:=hb2.size;simp at this;omega
 have hKp:Keeps w2 w3 w3 (.slice (some ⟨w.heap.size+1,0,none⟩) 0 0):=⟨Nat.le_refl _,fun _ _ _=>rfl,fun gb e=>.inl (vI e hsz2)⟩
 have hgb:∀ gb,(Value.slice (some ⟨w.heap.size+1,0,none⟩) 0 0).ownBlock=some gb→gb≠w.heap.size:=fun gb e=>by
  have:w.heap.size+1=gb:=by simpa [Value.ownBlock] using e
  omega
 clear hM2 hB2 hb2 hsz2 k2
 go_wp2
 go_loopw [5,13] (fun out i wr=>∃ (j:Nat) (A':Option Addr) (c':Nat),j≤n∧i=.int .i64 j∧out=.slice A' j c'∧MkII w wr A' j c' (tab j G)∧Keeps w2 w3 wr (.slice A' j c')∧Blk wr w.heap.size 26 #[.int .i64 p,.slice A k0 c]∧w3.heap.size≤wr.heap.size∧Hid (∀ gb,(Value.slice A' j c').ownBlock=some gb→gb≠w.heap.size)) (fun _ i _=>n-(intOf i).toNat)
 case atStart=>exact⟨0,_,_,by omega,rfl,rfl,by simpa [tab] using hM3,hKp,k3,Nat.le_refl _,Lib.hid hgb⟩
 case round=>
  clear hgb k3
  obtain⟨j,A',c',hj,rfl,rfl,hM,hB4,kb,hsz,HGB⟩:=hrel
  clear hM3 hKp
  obtain⟨q0,q1⟩:=kb.two
  by_cases hlt:j<n
  ·obtain⟨gu,ou,rfl,hxk,A1,c1,hcu,hru,hcc⟩:=(hU.keep hB4.2.1).at_ hlt
   have hrow:=vM n j hxk
   rw[hrow,zm]at hru hcu hcc
   have hcall:=HOF.out j wr A1 c1 hlt hM.b hru hcc
   have HM:=Lib.hid hM
   have HB4:=Lib.hid hB4
   clear hM hru hrow hB4
   go_wp2_with fail
   refine hcall.mono ?_
   rintro e w5 ⟨A5,c5,rfl,hM5⟩
   have kb5:=kb.below hM5.b kb.lt
   clear hcall q0 q1
   go_wp2_with (at_builtin;refine vi w wr _ rfl _ _ rfl A' j c' _ A5 n c5 _ HM.out hM5 (by omega) rfl ?_ ?_;(go_simp);intro A6 c6 w6 hM6 hg6 hat6)
   go_roundw
   case rel=>exact⟨j+1,A6,c6,by omega,by go_num,rfl,by rw[yQ];exact hM6,HB4.out.step hM5.b hg6 hat6,(kb5.grown hg6 (fun e=>HGB.out _ e.symm rfl)),by have:=hg6.size;have:=hM5.b.size;omega,Lib.hid (ycx HGB.out hat6 (Nat.lt_of_lt_of_le kb5.lt (Nat.le_refl _)))⟩
   case measure=>simp[intOf];omega
  ·obtain rfl:j=n:=by omega
   go_wp2_with fail
   refine (yda p A' j c' (tab j G) j _ hpos (by omega) (by omega) hM.rd (Tab.tab HG.out)).mono ?_
   rintro e w5 ⟨A5,c5,rfl,hM5⟩
   go_wp2
   go_ret
   rw[← HN.out]
   exact⟨_,_,rfl,hM5.after hM.b⟩
set_option maxHeartbeats 6400000 in
set_option maxRecDepth 8000 in
theorem yfA (p:Int) (hp:2≤p) (hp2:p≤13) (k:Nat) (hk:k≤4) (A:Option Addr) (c:Nat) (st:List Int) (w:World) (hc:k≤c) (ha:Rd w A k (ints st)) (hst:NumsL p st) :
 Calls Tryz.prog 100 #[.agg #[.int .i64 p,.slice A k c]] w fun e w'=>∃ A' c',e=.returned (.slice A' (pw k) c')∧MkII w w' A' (pw k) c' (xN p k st):=by
 have hpk:pw k≤16:=yz hk
 have hpos:=yq k
 have hB0:Below w.heap.size w (w.alloc (.cells #[.int .i64 p,.slice A k c] 26)):=zG.alloc (Nat.le_refl _) _
 have k0:Blk (w.alloc (.cells #[.int .i64 p,.slice A k c] 26)) w.heap.size 26 #[.int .i64 p,.slice A k c]:=Blk.new _ _ _
 have k1:=k0.alloc (.cells #[] 24)
 have hM1:MkII w ((w.alloc (.cells #[.int .i64 p,.slice A k c] 26)).alloc (.cells #[] 24)) (some ⟨w.heap.size+1,0,none⟩) 0 0 []:=by
  have:=MkII.empty hB0
  simpa using this
 clear k0 hB0
 go_enter Tryz.func100,Tryz.ntmps100
 go_wp2
 go_loopw [3,4] (fun out i wr=>∃ (j:Nat) (A':Option Addr) (c':Nat),j≤pw k∧i=.int .i64 j∧out=.slice A' j c'∧Hid (MkII w wr A' j c' (tab j fun j=>tab (pw k) (fun q=>(dblL p k st (ye (pw k) j) (ye (pw k) q)).getD (j ^^^ q) 0)))∧Blk wr w.heap.size 26 #[.int .i64 p,.slice A k c]) (fun _ i _=>pw k-(intOf i).toNat)
 case atStart=>exact⟨0,_,_,by omega,rfl,rfl,Lib.hid (by simpa [tab] using hM1),k1⟩
 case round=>
  obtain⟨j,A',c',hj,rfl,rfl,HM0,kr⟩:=hrel
  clear hM1 k1
  obtain⟨q0,q1⟩:=kr.two
  by_cases hlt:j<pw k
  ·go_wp2_with fail
   refine (xb p A k c wr (by omega)).mono ?_
   rintro e wo ⟨rfl,hb5⟩
   have HM:=Lib.hid (HM0.out.below hb5)
   have ko:=kr.below hb5 kr.lt
   have hR0:MkI wo (wo.alloc (.cells #[] 2)) (some ⟨wo.heap.size,0,none⟩) 0 0 []:=by simpa [MkI,ints] using Mk.lit (E:=2) (Below.refl wo.heap.size wo) #[] (by simp)
   have ko1:=ko.alloc (.cells #[] 2)
   clear q0 q1 hb5 kr HM0 ko
   go_wp2
   go_loopw [5,6] (fun row i w2=>∃ (q:Nat) (A2:Option Addr) (c2:Nat),q≤pw k∧i=.int .i64 q∧row=.slice A2 q c2∧Hid (MkI wo w2 A2 q c2 (tab q (fun q=>(dblL p k st (ye (pw k) j) (ye (pw k) q)).getD (j ^^^ q) 0)))∧Blk w2 w.heap.size 26 #[.int .i64 p,.slice A k c]) (fun _ i _=>pw k-(intOf i).toNat)
   case atStart=>exact⟨0,_,_,by omega,rfl,rfl,Lib.hid (by simpa [tab] using hR0),ko1⟩
   case round=>
    obtain⟨q,A2,c2,hq,rfl,rfl,HR0,kr⟩:=hrel
    clear hR0 ko1
    obtain⟨q0,q1⟩:=kr.two
    by_cases hlq:q<pw k
    ·go_wp2_with fail
     rename_i w2
     refine (xb p A k c _ (by omega)).mono ?_
     rintro e w3 ⟨rfl,hb5⟩
     have HR:=Lib.hid (HR0.out.below hb5)
     have k3:=kr.below hb5 kr.lt
     have HA:=Lib.hid (ha.below (HM.out.b.trans (HR.out.b.mono HM.out.b.size)))
     have hjq:=zV hlt hlq
     obtain⟨v,hv⟩:∃ v,v=(dblL p k st (ye (pw k) j) (ye (pw k) q)).getD (j ^^^ q) 0:=⟨_,rfl⟩
     have HVV:=Lib.hid hv
     have hxo:=uW j (by omega) q (by omega)
     clear q0 q1 hb5 kr HR0 ha hv
     go_wp2
     refine yh 15 [[],[],[],[],[2,3],[],[],[5,6],[1,2,3,4,5,6,7],[],[],[9,10],[1,2,3,4,5,6,7,8,9,10,11],[1,2,3,4,5,6,7,8,9,10,11,12],[1,2,3,4,5,6,7,8,9,10,11,12,13],[0,1,2,3,4,5,6,7,8,9,10,11,12,13,14],[0,1,2,3,4,5,6,7,8,9,10,11,12,13,14,15]] [VIs (.slice A2 q c2),VIs (.agg #[.int .i64 p,.slice A k c]),VIs (.agg #[.int .i64 p,.slice A k c]),VIs (.int .i64 (j)),VSl w3 (pw k) (ye (pw k) j),VIs (.agg #[.int .i64 p,.slice A k c]),VIs (.int .i64 (q)),VSl w3 (pw k) (ye (pw k) q),VSl w3 (pw k) (dblL p k st (ye (pw k) j) (ye (pw k) q)),VIs (.int .i64 (j)),VIs (.int .i64 (q)),VIs (.int .i64 (((j ^^^ q:Nat):Int))),yaK (.int .i64 v),VIs (.int .i64 (v)),VBs 2 #[.int .i64 v]] (fun w'=>Blk w' w.heap.size 26 #[.int .i64 p,.slice A k c]∧Below w3.heap.size w3 w') (by kernel_rfl) (by kernel_rfl) (fun _ _ h hb=>⟨h.1.below hb h.1.lt,h.2.trans (hb.mono h.2.size)⟩) (⟨k3.drew,zG.drew⟩) (fun x=>?_)
     refine zS (fun w' hS hV K hK=>?_) ?_
     ·obtain⟨q0,q1⟩:=hS.1.two;go_simp;exact zO hK
     refine zS (fun w' hS hV K hK=>?_) ?_
     ·obtain⟨q0,q1⟩:=hS.1.two;go_simp;exact zO hK
     refine zS (fun w' hS hV K hK=>?_) ?_
     ·obtain⟨q0,q1⟩:=hS.1.two;go_simp;exact zO hK
     refine zS (fun w' hS hV K hK=>?_) ?_
     ·obtain⟨q0,q1⟩:=hS.1.two;go_simp;exact zO hK
     refine zS (fun w' hS hV K hK=>?_) ?_
     ·have e2:=zQ hV 2;have e3:=zQ hV 3;obtain⟨q0,q1⟩:=hS.1.two;go_simp;refine (j5 p A k c j w' hk hlt).mono ?_;rintro e v1 ⟨A9,c9,rfl,hM⟩;exact hK.out _ _ _ rfl rfl ⟨_,_,rfl,hM.after hS.2⟩ hM.b
     refine zS (fun w' hS hV K hK=>?_) ?_
     ·obtain⟨q0,q1⟩:=hS.1.two;go_simp;exact zO hK
     refine zS (fun w' hS hV K hK=>?_) ?_
     ·obtain⟨q0,q1⟩:=hS.1.two;go_simp;exact zO hK
     refine zS (fun w' hS hV K hK=>?_) ?_
     ·have e5:=zQ hV 5;have e6:=zQ hV 6;obtain⟨q0,q1⟩:=hS.1.two;go_simp;refine (j5 p A k c q w' hk hlq).mono ?_;rintro e v1 ⟨A9,c9,rfl,hM⟩;exact hK.out _ _ _ rfl rfl ⟨_,_,rfl,hM.after hS.2⟩ hM.b
     refine zS (fun w' hS hV K hK=>?_) ?_
     ·have e1:=zQ hV 1;obtain⟨A4,c4,e4,h4⟩:=hV 4 (by decide);obtain⟨A7,c7,e7,h7⟩:=hV 7 (by decide);obtain⟨q0,q1⟩:=hS.1.two;go_simp;refine (vH p hp hp2 k hk A c st A4 c4 (ye (pw k) j) A7 c7 (ye (pw k) q) w' hc h4.2.cap h7.2.cap (HA.out.below hS.2) hst h4.rd (vh hp _ _) h7.rd (vh hp _ _)).mono ?_;rintro e v1 ⟨A9,c9,rfl,hM⟩;exact hK.out _ _ _ rfl rfl ⟨_,_,rfl,hM.after hS.2⟩ hM.b
     refine zS (fun w' hS hV K hK=>?_) ?_
     ·obtain⟨q0,q1⟩:=hS.1.two;go_simp;exact zO hK
     refine zS (fun w' hS hV K hK=>?_) ?_
     ·obtain⟨q0,q1⟩:=hS.1.two;go_simp;exact zO hK
     refine zS (fun w' hS hV K hK=>?_) ?_
     ·have e9:=zQ hV 9;have e10:=zQ hV 10;obtain⟨q0,q1⟩:=hS.1.two;go_simp;exact zO hK
     refine zS (fun w' hS hV K hK=>?_) ?_
     ·obtain⟨A4,c4,e4,h4⟩:=hV 4 (by decide);obtain⟨A7,c7,e7,h7⟩:=hV 7 (by decide);obtain⟨A8,c8,e8,h8⟩:=hV 8 (by decide);have e11:=zQ hV 11;obtain⟨q0,q1⟩:=hS.1.two;obtain⟨g,o1,rfl,hgk,hgc⟩:=h8.rd.int hjq;go_simp;exact hK.out _ _ _ rfl rfl ⟨_,rfl,by rw[hgc,HVV.out,List.getD_eq_getElem?_getD,List.getElem?_eq_getElem hgk];rfl⟩ zG
     refine zS (fun w' hS hV K hK=>?_) ?_
     ·obtain⟨A4,c4,e4,h4⟩:=hV 4 (by decide);obtain⟨A7,c7,e7,h7⟩:=hV 7 (by decide);obtain⟨A8,c8,e8,h8⟩:=hV 8 (by decide);obtain⟨p12,e12,h12⟩:=hV 12 (by decide);obtain⟨q0,q1⟩:=hS.1.two;skip;go_simp;exact zO hK
     refine zS (fun w' hS hV K hK=>?_) ?_
     ·obtain⟨A4,c4,e4,h4⟩:=hV 4 (by decide);obtain⟨A7,c7,e7,h7⟩:=hV 7 (by decide);obtain⟨A8,c8,e8,h8⟩:=hV 8 (by decide);obtain⟨p12,e12,h12⟩:=hV 12 (by decide);have e13:=zQ hV 13;obtain⟨q0,q1⟩:=hS.1.two;go_simp;exact hK.out _ _ _ rfl rfl ⟨_,rfl,Blk.new _ _ _⟩ (zG.alloc (Nat.le_refl _) _)
     refine fun w' hS hV=>?_
     have e0:=zT hV 0
     have e1:=zT hV 1
     have e2:=zT hV 2
     have e3:=zT hV 3
     obtain⟨A4,c4,e4,h4⟩:=hV 4 (by decide)
     have e5:=zT hV 5
     have e6:=zT hV 6
     obtain⟨A7,c7,e7,h7⟩:=hV 7 (by decide)
     obtain⟨A8,c8,e8,h8⟩:=hV 8 (by decide)
     have e9:=zT hV 9
     have e10:=zT hV 10
     have e11:=zT hV 11
     obtain⟨p12,e12,h12⟩:=hV 12 (by decide)
     have e13:=zT hV 13
     obtain⟨b14,e14,h14⟩:=hV 14 (by decide)
     simp only[e0,e1,e2,e3,e4,e5,e6,e7,e8,e9,e10,e11,e12,e13,e14]
     clear e0 e1 e2 e3 e4 e5 e6 e7 e8 e9 e10 e11 e12 e13 e14
     obtain⟨k7,s2⟩:=hS
     refine xg (j:=15) (by kernel_rfl) (Eq.trans (by simp only[zA,zB,zC];exact rfl) rfl) rfl (fun K hK=>?_)
     refine q8 wo w' 24 2 _ _ Tryz.underlying24 yo rfl (by omega) _ _ rfl A2 q c2 _ _ (HR.out.below s2) (by omega) rfl _ h14 (by rfl) (by rfl) ?_
     intro A20 c20 w20 hM20 hg20
     refine hK.out _ _ ?_
     simp only[Act.put,zD,zE,zF]
     refine yK (j:=16) (by kernel_rfl) (Eq.trans (by simp only[zA,zB,zC];exact rfl) rfl) (fun K hK=>?_)
     go_simp
     refine hK.out _ _ (wpAny_done (by kernel_rfl) ?_ _)
     have k8:=k7.grown hg20 ((HR.out.below s2).2.ne_blk k7 (by decide))
     have HR2:Hid (MkI wo w20 A20 (q+1) c20 (tab (q+1) (fun q=>(dblL p k st (ye (pw k) j) (ye (pw k) q)).getD (j ^^^ q) 0))):=Lib.hid (by rw[yQ,← HVV.out];simpa [MkI,ints] using hM20)
     clear k7 hg20 hM20 k3 hxo
     go_wp2
     go_roundw
     case rel=>exact⟨q+1,A20,c20,by omega,by go_num,rfl,HR2,k8⟩
     case measure=>simp[intOf];omega
    ·obtain rfl:q=pw k:=by omega
     go_wp2_with (first
      | (go_at_call 101;refine (xb p A k c _ (by omega)).mono ?_;rintro e w3 ⟨rfl,hb5⟩;have HR:=Lib.hid (HR0.out.below hb5);have k3:=kr.below hb5 kr.lt;clear q0 q1 hb5 kr HR0)
      | (at_builtin;refine vi w wo _ rfl _ _ rfl A' j c' _ A2 (pw k) c2 _ HM.out HR.out (by omega) rfl ?_ ?_;(go_simp);intro A4 c4 w4 hM4 hg4 _))
     have k8:=k3.grown hg4 ((HM.out.below HR.out.b).ne_blk k3 (by decide))
     go_roundw
     case rel=>exact⟨j+1,A4,c4,by omega,by go_num,rfl,Lib.hid (by rw[yQ];exact hM4),k8⟩
     case measure=>simp[intOf];omega
  ·obtain rfl:j=pw k:=by omega
   go_wp2_with fail
   refine (xb p A k c wr (by omega)).mono ?_
   rintro e w5 ⟨rfl,hb5⟩
   go_wp2
   go_ret
   exact⟨_,_,rfl,HM0.out.below hb5⟩
theorem RdII.grid {w:World} {g o n m:Nat} {p:Int} {M:List (List Int)} (h:RdII w (some ⟨g,o,none⟩) n M) (hT:Tab p m M) {i j:Nat} (hi:i<n) (hj:j<m) :
 ∃ gi oi ci,w.cell? ⟨g,o+i,none⟩=some (.slice (some ⟨gi,oi,none⟩) m ci)∧w.cell? ⟨gi,oi+j,none⟩=some (.int .i64 (ent M i j)):=by
 obtain⟨g',o',e,hx,A',c',hc,hr, -⟩:=h.at_ hi
 injection e with e;injection e with e1 e2 _
 subst e1;subst e2
 have hl:M[i].length=m:=(hT M[i] (List.getElem_mem hx)).1
 rw[hl]at hc hr
 obtain⟨gi,oi,rfl,hxj,hcj⟩:=hr.int hj
 exact⟨gi,oi,c',hc,by rw[hcj,ql hx hxj]⟩
end Go.Proofs.YtaiegpggccdgoaaGreat

/-
  LawFnTop: part 10 of the texts that the proof needs. No condition.
-/
import Derived.Test.YtmkjdpnoloofjaaGreatT9
namespace Go.Proofs.YtmkjdpnoloofjaaGreat
open Go.RowKit
/-- Is it a doubling? -/
def isDb (p : Int) (st : List Int) : Bool := isP p && decide (st.length ≤ 4) && nums p st && !st.contains 0
set_option maxHeartbeats 1600000 in
set_option maxRecDepth 8000 in
theorem IsDoubling_any (p : Int) (A : Option Addr) (k c : Nat) (st : List Int) (w : World) (hk6 : k ≤ 65536) (ha : Rd w A k (ints st)) :
    Calls Tryz.prog 211 #[.agg #[.int .i64 p, .slice A k c]] w fun e w' => e = .returned (.bool (isDb p st)) ∧ Below w.heap.size w w' := by
 have hB0 : Below w.heap.size w (w.alloc (.cells #[.int .i64 p, .slice A k c] 51)) := zG.alloc (Nat.le_refl _) _
 have k0 : Blk (w.alloc (.cells #[.int .i64 p, .slice A k c] 51)) w.heap.size 51 #[.int .i64 p, .slice A k c] := Blk.new _ _ _
 have hxl : st.length = k := ha.lenI
 have Hx := Lib.hid hxl
 clear hxl
 cases h1 : isP p
 · have H1 := Lib.hid h1
   clear h1
   go_enter Tryz.func211, Tryz.ntmps211
   go_wp2
   refine wp_obs 23 [[],[0],[0,1],[0,1,2],[0,1,2,3],[0,1,2,3,4],[0,1,2,3,4,5],[0,1,2,3,4,5,6],[0,1,2,3,4,5,6,7],[0,1,2,3,4,5,6,7,8],[0,1,2,3,4,5,6,7,8,9],[0,1,2,3,4,5,6,7,8,9,10],[0,1,2,3,4,5,6,7,8,9],[0,1,2,3,4,5,6,7,8,9,12],[0,1,2,3,4,5,6,7,8,9,10,11,12,13],[0,1,2,3,4,5,6,7,8,9,10,11,12,13,14],[0,1,2,3,4,5,6,7,8,9,10,11,12,13,14,15],[0,1,2,3,4,5,6,7,8,9,10,11,12,13,14,15,16],[0,1,2,3,4,5,6,7,8,9,10,11,12,13,14,15,16,17],[0,1,2,3,4,5,6,7,8,9,10,11,12,13,14,15,16,17,18],[0,1,2,3,4,5,6,7,8,9,10,11,12,13,14,15,16,17,18,19],[0,1,2,3,4,5,6,7,8,9,10,11,12,13,14,15,16,17,18,19,20],[0,1,2,3,4,5,6,7,8,9,10,11,12,13,14,15,16,17,18,19,20,21]] [VIs (.pointer (some ⟨w.heap.size, 0, none⟩)), VIs (.int .i64 (p)), VIs (.bool false), VIs (.bool false), VIs undef, VIs undef, VIs undef, VIs undef, VIs (.bool false), VIs (.bool false), VIs undef, VIs undef, VIs undef, VIs undef, VIs undef, VIs (.bool false), VIs (.bool false), VIs undef, VIs undef, VIs undef, VIs undef, VIs (.bool false), VIs (.bool false)] (fun w' => Blk w' w.heap.size 51 #[.int .i64 p, .slice A k c] ∧ Below w.heap.size w w') (by kernel_rfl) (by kernel_rfl) (fun _ _ h hb => ⟨h.1.below hb h.1.lt, h.2.trans (hb.mono h.2.size)⟩) (⟨k0.drew, hB0.drew⟩) (fun x => ?_)
   refine zS (fun w' hS hV K hK => ?_) ?_
   · obtain ⟨q0, q1⟩ := hS.1.two; go_simp; exact zO hK
   refine zS (fun w' hS hV K hK => ?_) ?_
   · have e0 := zQ hV 0; obtain ⟨q0, q1⟩ := hS.1.two; go_simp; exact zO hK
   refine zS (fun w' hS hV K hK => ?_) ?_
   · have e1 := zQ hV 1; obtain ⟨q0, q1⟩ := hS.1.two; go_simp; refine (IsPrime_b _ _ H1.out).mono ?_; rintro e v1 ⟨rfl, rfl⟩; exact zO hK
   refine zS (fun w' hS hV K hK => ?_) ?_
   · have e2 := zQ hV 2; obtain ⟨q0, q1⟩ := hS.1.two; go_simp; exact zO hK
   refine zS (fun w' hS hV K hK => ?_) ?_
   · have e3 := zQ hV 3; obtain ⟨q0, q1⟩ := hS.1.two; go_simp; exact zO hK
   refine zS (fun w' hS hV K hK => ?_) ?_
   · have e3 := zQ hV 3; have e4 := zQ hV 4; obtain ⟨q0, q1⟩ := hS.1.two; go_simp; exact zO hK
   refine zS (fun w' hS hV K hK => ?_) ?_
   · have e3 := zQ hV 3; have e5 := zQ hV 5; obtain ⟨q0, q1⟩ := hS.1.two; go_simp; exact zO hK
   refine zS (fun w' hS hV K hK => ?_) ?_
   · have e3 := zQ hV 3; have e6 := zQ hV 6; obtain ⟨q0, q1⟩ := hS.1.two; go_simp; exact zO hK
   refine zS (fun w' hS hV K hK => ?_) ?_
   · have e3 := zQ hV 3; have e7 := zQ hV 7; obtain ⟨q0, q1⟩ := hS.1.two; go_simp; exact zO hK
   refine zS (fun w' hS hV K hK => ?_) ?_
   · have e8 := zQ hV 8; obtain ⟨q0, q1⟩ := hS.1.two; go_simp; exact zO hK
   refine zS (fun w' hS hV K hK => ?_) ?_
   · have e9 := zQ hV 9; obtain ⟨q0, q1⟩ := hS.1.two; go_simp; exact zO hK
   refine zS (fun w' hS hV K hK => ?_) ?_
   · have e9 := zQ hV 9; have e10 := zQ hV 10; obtain ⟨q0, q1⟩ := hS.1.two; go_simp; exact zO hK
   refine zS (fun w' hS hV K hK => ?_) ?_
   · have e9 := zQ hV 9; obtain ⟨q0, q1⟩ := hS.1.two; go_simp; exact zO hK
   refine zS (fun w' hS hV K hK => ?_) ?_
   · have e9 := zQ hV 9; have e12 := zQ hV 12; obtain ⟨q0, q1⟩ := hS.1.two; go_simp; exact zO hK
   refine zS (fun w' hS hV K hK => ?_) ?_
   · have e9 := zQ hV 9; have e11 := zQ hV 11; have e13 := zQ hV 13; obtain ⟨q0, q1⟩ := hS.1.two; go_simp; exact zO hK
   refine zS (fun w' hS hV K hK => ?_) ?_
   · have e9 := zQ hV 9; have e14 := zQ hV 14; obtain ⟨q0, q1⟩ := hS.1.two; go_simp; exact zO hK
   refine zS (fun w' hS hV K hK => ?_) ?_
   · have e15 := zQ hV 15; obtain ⟨q0, q1⟩ := hS.1.two; go_simp; exact zO hK
   refine zS (fun w' hS hV K hK => ?_) ?_
   · have e16 := zQ hV 16; obtain ⟨q0, q1⟩ := hS.1.two; go_simp; exact zO hK
   refine zS (fun w' hS hV K hK => ?_) ?_
   · have e16 := zQ hV 16; have e17 := zQ hV 17; obtain ⟨q0, q1⟩ := hS.1.two; go_simp; exact zO hK
   refine zS (fun w' hS hV K hK => ?_) ?_
   · have e16 := zQ hV 16; have e18 := zQ hV 18; obtain ⟨q0, q1⟩ := hS.1.two; go_simp; exact zO hK
   refine zS (fun w' hS hV K hK => ?_) ?_
   · have e16 := zQ hV 16; have e19 := zQ hV 19; obtain ⟨q0, q1⟩ := hS.1.two; go_simp; exact zO hK
   refine zS (fun w' hS hV K hK => ?_) ?_
   · have e16 := zQ hV 16; have e20 := zQ hV 20; obtain ⟨q0, q1⟩ := hS.1.two; go_simp; exact zO hK
   refine zS (fun w' hS hV K hK => ?_) ?_
   · have e21 := zQ hV 21; obtain ⟨q0, q1⟩ := hS.1.two; go_simp; exact zO hK
   refine fun w' hS hV => ?_
   have e0 := zT hV 0
   have e1 := zT hV 1
   have e2 := zT hV 2
   have e3 := zT hV 3
   have e4 := zT hV 4
   have e5 := zT hV 5
   have e6 := zT hV 6
   have e7 := zT hV 7
   have e8 := zT hV 8
   have e9 := zT hV 9
   have e10 := zT hV 10
   have e11 := zT hV 11
   have e12 := zT hV 12
   have e13 := zT hV 13
   have e14 := zT hV 14
   have e15 := zT hV 15
   have e16 := zT hV 16
   have e17 := zT hV 17
   have e18 := zT hV 18
   have e19 := zT hV 19
   have e20 := zT hV 20
   have e21 := zT hV 21
   have e22 := zT hV 22
   simp only [e0, e1, e2, e3, e4, e5, e6, e7, e8, e9, e10, e11, e12, e13, e14, e15, e16, e17, e18, e19, e20, e21, e22]
   clear e0 e1 e2 e3 e4 e5 e6 e7 e8 e9 e10 e11 e12 e13 e14 e15 e16 e17 e18 e19 e20 e21 e22
   refine wpAny_done (by kernel_rfl) ?_ _
   go_wp2
   go_ret
   exact ⟨ret_bool (by unfold isDb; rw [Hx.out]; simp [H1.out]), hS.2⟩
 · obtain ⟨hp0, hp1⟩ := isP_pos h1
   have H1 := Lib.hid h1
   clear h1
   by_cases h2 : k ≤ 4
   · have h2' : (k : Int) ≤ 4 := by omega
     cases h3 : nums p st
     · have H3 := Lib.hid h3
       clear h3
       go_enter Tryz.func211, Tryz.ntmps211
       go_wp2
       refine wp_obs 23 [[],[0],[0,1],[0,1,2],[0,1,2,3],[0,1,2,3,4],[0,1,2,3,4,5],[0,1,2,3,4,5,6],[0,1,2,3,4,5,6,7],[0,1,2,3,4,5,6,7,8],[0,1,2,3,4,5,6,7,8,9],[0,1,2,3,4,5,6,7,8,9,10],[0,1,2,3,4,5,6,7,8,9],[0,1,2,3,4,5,6,7,8,9,12],[0,1,2,3,4,5,6,7,8,9,10,11,12,13],[0,1,2,3,4,5,6,7,8,9,10,11,12,13,14],[0,1,2,3,4,5,6,7,8,9,10,11,12,13,14,15],[0,1,2,3,4,5,6,7,8,9,10,11,12,13,14,15,16],[0,1,2,3,4,5,6,7,8,9,10,11,12,13,14,15,16,17],[0,1,2,3,4,5,6,7,8,9,10,11,12,13,14,15,16,17,18],[0,1,2,3,4,5,6,7,8,9,10,11,12,13,14,15,16,17,18,19],[0,1,2,3,4,5,6,7,8,9,10,11,12,13,14,15,16,17,18,19,20],[0,1,2,3,4,5,6,7,8,9,10,11,12,13,14,15,16,17,18,19,20,21]] [VIs (.pointer (some ⟨w.heap.size, 0, none⟩)), VIs (.int .i64 (p)), VIs (.bool true), VIs (.bool true), VIs (.pointer (some ⟨w.heap.size, 1, none⟩)), VIs (.slice A k c), VIs (.int .i64 (k)), VIs (.bool true), VIs (.bool true), VIs (.bool true), VIs (.agg #[.int .i64 p, .slice A k c]), VIs (.int .i64 (p)), VIs (.pointer (some ⟨w.heap.size, 1, none⟩)), VIs (.slice A k c), VIs (.bool false), VIs (.bool false), VIs (.bool false), VIs undef, VIs undef, VIs undef, VIs undef, VIs (.bool false), VIs (.bool false)] (fun w' => Blk w' w.heap.size 51 #[.int .i64 p, .slice A k c] ∧ Below w.heap.size w w') (by kernel_rfl) (by kernel_rfl) (fun _ _ h hb => ⟨h.1.below hb h.1.lt, h.2.trans (hb.mono h.2.size)⟩) (⟨k0.drew, hB0.drew⟩) (fun x => ?_)
       refine zS (fun w' hS hV K hK => ?_) ?_
       · obtain ⟨q0, q1⟩ := hS.1.two; go_simp; exact zO hK
       refine zS (fun w' hS hV K hK => ?_) ?_
       · have e0 := zQ hV 0; obtain ⟨q0, q1⟩ := hS.1.two; go_simp; exact zO hK
       refine zS (fun w' hS hV K hK => ?_) ?_
       · have e1 := zQ hV 1; obtain ⟨q0, q1⟩ := hS.1.two; go_simp; refine (IsPrime_b _ _ H1.out).mono ?_; rintro e v1 ⟨rfl, rfl⟩; exact zO hK
       refine zS (fun w' hS hV K hK => ?_) ?_
       · have e2 := zQ hV 2; obtain ⟨q0, q1⟩ := hS.1.two; go_simp; exact zO hK
       refine zS (fun w' hS hV K hK => ?_) ?_
       · have e3 := zQ hV 3; obtain ⟨q0, q1⟩ := hS.1.two; go_simp; exact zO hK
       refine zS (fun w' hS hV K hK => ?_) ?_
       · have e3 := zQ hV 3; have e4 := zQ hV 4; obtain ⟨q0, q1⟩ := hS.1.two; go_simp; exact zO hK
       refine zS (fun w' hS hV K hK => ?_) ?_
       · have e3 := zQ hV 3; have e5 := zQ hV 5; obtain ⟨q0, q1⟩ := hS.1.two; go_simp; exact zO hK
       refine zS (fun w' hS hV K hK => ?_) ?_
       · have e3 := zQ hV 3; have e6 := zQ hV 6; obtain ⟨q0, q1⟩ := hS.1.two; go_simp; exact zO hK
       refine zS (fun w' hS hV K hK => ?_) ?_
       · have e3 := zQ hV 3; have e7 := zQ hV 7; obtain ⟨q0, q1⟩ := hS.1.two; go_simp; exact zO hK
       refine zS (fun w' hS hV K hK => ?_) ?_
       · have e8 := zQ hV 8; obtain ⟨q0, q1⟩ := hS.1.two; go_simp; exact zO hK
       refine zS (fun w' hS hV K hK => ?_) ?_
       · have e9 := zQ hV 9; obtain ⟨q0, q1⟩ := hS.1.two; go_simp; exact zO hK
       refine zS (fun w' hS hV K hK => ?_) ?_
       · have e9 := zQ hV 9; have e10 := zQ hV 10; obtain ⟨q0, q1⟩ := hS.1.two; go_simp; refine (dfield_any p A k c w').mono ?_; rintro e v1 ⟨rfl, hb⟩; exact hK.out _ _ _ rfl rfl rfl hb
       refine zS (fun w' hS hV K hK => ?_) ?_
       · have e9 := zQ hV 9; obtain ⟨q0, q1⟩ := hS.1.two; go_simp; exact zO hK
       refine zS (fun w' hS hV K hK => ?_) ?_
       · have e9 := zQ hV 9; have e12 := zQ hV 12; obtain ⟨q0, q1⟩ := hS.1.two; go_simp; exact zO hK
       refine zS (fun w' hS hV K hK => ?_) ?_
       · have e9 := zQ hV 9; have e11 := zQ hV 11; have e13 := zQ hV 13; obtain ⟨q0, q1⟩ := hS.1.two; go_simp; refine (is_b p A k c st w' hp0 (by omega) (by omega) (ha.below hS.2) H3.out).mono ?_; rintro e v1 ⟨rfl, rfl⟩; exact zO hK
       refine zS (fun w' hS hV K hK => ?_) ?_
       · have e9 := zQ hV 9; have e14 := zQ hV 14; obtain ⟨q0, q1⟩ := hS.1.two; go_simp; exact zO hK
       refine zS (fun w' hS hV K hK => ?_) ?_
       · have e15 := zQ hV 15; obtain ⟨q0, q1⟩ := hS.1.two; go_simp; exact zO hK
       refine zS (fun w' hS hV K hK => ?_) ?_
       · have e16 := zQ hV 16; obtain ⟨q0, q1⟩ := hS.1.two; go_simp; exact zO hK
       refine zS (fun w' hS hV K hK => ?_) ?_
       · have e16 := zQ hV 16; have e17 := zQ hV 17; obtain ⟨q0, q1⟩ := hS.1.two; go_simp; exact zO hK
       refine zS (fun w' hS hV K hK => ?_) ?_
       · have e16 := zQ hV 16; have e18 := zQ hV 18; obtain ⟨q0, q1⟩ := hS.1.two; go_simp; exact zO hK
       refine zS (fun w' hS hV K hK => ?_) ?_
       · have e16 := zQ hV 16; have e19 := zQ hV 19; obtain ⟨q0, q1⟩ := hS.1.two; go_simp; exact zO hK
       refine zS (fun w' hS hV K hK => ?_) ?_
       · have e16 := zQ hV 16; have e20 := zQ hV 20; obtain ⟨q0, q1⟩ := hS.1.two; go_simp; exact zO hK
       refine zS (fun w' hS hV K hK => ?_) ?_
       · have e21 := zQ hV 21; obtain ⟨q0, q1⟩ := hS.1.two; go_simp; exact zO hK
       refine fun w' hS hV => ?_
       have e0 := zT hV 0
       have e1 := zT hV 1
       have e2 := zT hV 2
       have e3 := zT hV 3
       have e4 := zT hV 4
       have e5 := zT hV 5
       have e6 := zT hV 6
       have e7 := zT hV 7
       have e8 := zT hV 8
       have e9 := zT hV 9
       have e10 := zT hV 10
       have e11 := zT hV 11
       have e12 := zT hV 12
       have e13 := zT hV 13
       have e14 := zT hV 14
       have e15 := zT hV 15
       have e16 := zT hV 16
       have e17 := zT hV 17
       have e18 := zT hV 18
       have e19 := zT hV 19
       have e20 := zT hV 20
       have e21 := zT hV 21
       have e22 := zT hV 22
       simp only [e0, e1, e2, e3, e4, e5, e6, e7, e8, e9, e10, e11, e12, e13, e14, e15, e16, e17, e18, e19, e20, e21, e22]
       clear e0 e1 e2 e3 e4 e5 e6 e7 e8 e9 e10 e11 e12 e13 e14 e15 e16 e17 e18 e19 e20 e21 e22
       refine wpAny_done (by kernel_rfl) ?_ _
       go_wp2
       go_ret
       exact ⟨ret_bool (by unfold isDb; rw [Hx.out]; simp [H1.out, H3.out]), hS.2⟩
     · have H3 := Lib.hid h3
       clear h3
       cases h4 : st.contains 0
       · have H4 := Lib.hid h4
         clear h4
         go_enter Tryz.func211, Tryz.ntmps211
         go_wp2
         refine wp_obs 23 [[],[0],[0,1],[0,1,2],[0,1,2,3],[0,1,2,3,4],[0,1,2,3,4,5],[0,1,2,3,4,5,6],[0,1,2,3,4,5,6,7],[0,1,2,3,4,5,6,7,8],[0,1,2,3,4,5,6,7,8,9],[0,1,2,3,4,5,6,7,8,9,10],[0,1,2,3,4,5,6,7,8,9],[0,1,2,3,4,5,6,7,8,9,12],[0,1,2,3,4,5,6,7,8,9,10,11,12,13],[0,1,2,3,4,5,6,7,8,9,10,11,12,13,14],[0,1,2,3,4,5,6,7,8,9,10,11,12,13,14,15],[0,1,2,3,4,5,6,7,8,9,10,11,12,13,14,15,16],[0,1,2,3,4,5,6,7,8,9,10,11,12,13,14,15,16,17],[0,1,2,3,4,5,6,7,8,9,10,11,12,13,14,15,16,17,18],[0,1,2,3,4,5,6,7,8,9,10,11,12,13,14,15,16,17,18,19],[0,1,2,3,4,5,6,7,8,9,10,11,12,13,14,15,16,17,18,19,20],[0,1,2,3,4,5,6,7,8,9,10,11,12,13,14,15,16,17,18,19,20,21]] [VIs (.pointer (some ⟨w.heap.size, 0, none⟩)), VIs (.int .i64 (p)), VIs (.bool true), VIs (.bool true), VIs (.pointer (some ⟨w.heap.size, 1, none⟩)), VIs (.slice A k c), VIs (.int .i64 (k)), VIs (.bool true), VIs (.bool true), VIs (.bool true), VIs (.agg #[.int .i64 p, .slice A k c]), VIs (.int .i64 (p)), VIs (.pointer (some ⟨w.heap.size, 1, none⟩)), VIs (.slice A k c), VIs (.bool true), VIs (.bool true), VIs (.bool true), VIs (.pointer (some ⟨w.heap.size, 1, none⟩)), VIs (.slice A k c), VIs (.bool false), VIs (.bool true), VIs (.bool true), VIs (.bool true)] (fun w' => Blk w' w.heap.size 51 #[.int .i64 p, .slice A k c] ∧ Below w.heap.size w w') (by kernel_rfl) (by kernel_rfl) (fun _ _ h hb => ⟨h.1.below hb h.1.lt, h.2.trans (hb.mono h.2.size)⟩) (⟨k0.drew, hB0.drew⟩) (fun x => ?_)
         refine zS (fun w' hS hV K hK => ?_) ?_
         · obtain ⟨q0, q1⟩ := hS.1.two; go_simp; exact zO hK
         refine zS (fun w' hS hV K hK => ?_) ?_
         · have e0 := zQ hV 0; obtain ⟨q0, q1⟩ := hS.1.two; go_simp; exact zO hK
         refine zS (fun w' hS hV K hK => ?_) ?_
         · have e1 := zQ hV 1; obtain ⟨q0, q1⟩ := hS.1.two; go_simp; refine (IsPrime_b _ _ H1.out).mono ?_; rintro e v1 ⟨rfl, rfl⟩; exact zO hK
         refine zS (fun w' hS hV K hK => ?_) ?_
         · have e2 := zQ hV 2; obtain ⟨q0, q1⟩ := hS.1.two; go_simp; exact zO hK
         refine zS (fun w' hS hV K hK => ?_) ?_
         · have e3 := zQ hV 3; obtain ⟨q0, q1⟩ := hS.1.two; go_simp; exact zO hK
         refine zS (fun w' hS hV K hK => ?_) ?_
         · have e3 := zQ hV 3; have e4 := zQ hV 4; obtain ⟨q0, q1⟩ := hS.1.two; go_simp; exact zO hK
         refine zS (fun w' hS hV K hK => ?_) ?_
         · have e3 := zQ hV 3; have e5 := zQ hV 5; obtain ⟨q0, q1⟩ := hS.1.two; go_simp; exact zO hK
         refine zS (fun w' hS hV K hK => ?_) ?_
         · have e3 := zQ hV 3; have e6 := zQ hV 6; obtain ⟨q0, q1⟩ := hS.1.two; go_simp; exact zO hK
         refine zS (fun w' hS hV K hK => ?_) ?_
         · have e3 := zQ hV 3; have e7 := zQ hV 7; obtain ⟨q0, q1⟩ := hS.1.two; go_simp; exact zO hK
         refine zS (fun w' hS hV K hK => ?_) ?_
         · have e8 := zQ hV 8; obtain ⟨q0, q1⟩ := hS.1.two; go_simp; exact zO hK
         refine zS (fun w' hS hV K hK => ?_) ?_
         · have e9 := zQ hV 9; obtain ⟨q0, q1⟩ := hS.1.two; go_simp; exact zO hK
         refine zS (fun w' hS hV K hK => ?_) ?_
         · have e9 := zQ hV 9; have e10 := zQ hV 10; obtain ⟨q0, q1⟩ := hS.1.two; go_simp; refine (dfield_any p A k c w').mono ?_; rintro e v1 ⟨rfl, hb⟩; exact hK.out _ _ _ rfl rfl rfl hb
         refine zS (fun w' hS hV K hK => ?_) ?_
         · have e9 := zQ hV 9; obtain ⟨q0, q1⟩ := hS.1.two; go_simp; exact zO hK
         refine zS (fun w' hS hV K hK => ?_) ?_
         · have e9 := zQ hV 9; have e12 := zQ hV 12; obtain ⟨q0, q1⟩ := hS.1.two; go_simp; exact zO hK
         refine zS (fun w' hS hV K hK => ?_) ?_
         · have e9 := zQ hV 9; have e11 := zQ hV 11; have e13 := zQ hV 13; obtain ⟨q0, q1⟩ := hS.1.two; go_simp; refine (is_b p A k c st w' hp0 (by omega) (by omega) (ha.below hS.2) H3.out).mono ?_; rintro e v1 ⟨rfl, rfl⟩; exact zO hK
         refine zS (fun w' hS hV K hK => ?_) ?_
         · have e9 := zQ hV 9; have e14 := zQ hV 14; obtain ⟨q0, q1⟩ := hS.1.two; go_simp; exact zO hK
         refine zS (fun w' hS hV K hK => ?_) ?_
         · have e15 := zQ hV 15; obtain ⟨q0, q1⟩ := hS.1.two; go_simp; exact zO hK
         refine zS (fun w' hS hV K hK => ?_) ?_
         · have e16 := zQ hV 16; obtain ⟨q0, q1⟩ := hS.1.two; go_simp; exact zO hK
         refine zS (fun w' hS hV K hK => ?_) ?_
         · have e16 := zQ hV 16; have e17 := zQ hV 17; obtain ⟨q0, q1⟩ := hS.1.two; go_simp; exact zO hK
         refine zS (fun w' hS hV K hK => ?_) ?_
         · have e16 := zQ hV 16; have e18 := zQ hV 18; obtain ⟨q0, q1⟩ := hS.1.two; go_simp; refine (Contains_b A k c st 0 w' (by omega) (ha.below hS.2) H4.out).mono ?_; rintro e v1 ⟨rfl, rfl⟩; exact zO hK
         refine zS (fun w' hS hV K hK => ?_) ?_
         · have e16 := zQ hV 16; have e19 := zQ hV 19; obtain ⟨q0, q1⟩ := hS.1.two; go_simp; exact zO hK
         refine zS (fun w' hS hV K hK => ?_) ?_
         · have e16 := zQ hV 16; have e20 := zQ hV 20; obtain ⟨q0, q1⟩ := hS.1.two; go_simp; exact zO hK
         refine zS (fun w' hS hV K hK => ?_) ?_
         · have e21 := zQ hV 21; obtain ⟨q0, q1⟩ := hS.1.two; go_simp; exact zO hK
         refine fun w' hS hV => ?_
         have e0 := zT hV 0
         have e1 := zT hV 1
         have e2 := zT hV 2
         have e3 := zT hV 3
         have e4 := zT hV 4
         have e5 := zT hV 5
         have e6 := zT hV 6
         have e7 := zT hV 7
         have e8 := zT hV 8
         have e9 := zT hV 9
         have e10 := zT hV 10
         have e11 := zT hV 11
         have e12 := zT hV 12
         have e13 := zT hV 13
         have e14 := zT hV 14
         have e15 := zT hV 15
         have e16 := zT hV 16
         have e17 := zT hV 17
         have e18 := zT hV 18
         have e19 := zT hV 19
         have e20 := zT hV 20
         have e21 := zT hV 21
         have e22 := zT hV 22
         simp only [e0, e1, e2, e3, e4, e5, e6, e7, e8, e9, e10, e11, e12, e13, e14, e15, e16, e17, e18, e19, e20, e21, e22]
         clear e0 e1 e2 e3 e4 e5 e6 e7 e8 e9 e10 e11 e12 e13 e14 e15 e16 e17 e18 e19 e20 e21 e22
         refine wpAny_done (by kernel_rfl) ?_ _
         go_wp2
         go_ret
         exact ⟨ret_bool (by unfold isDb; rw [Hx.out]; rw [H1.out, H3.out, H4.out]; simp [h2]), hS.2⟩
       · have H4 := Lib.hid h4
         clear h4
         go_enter Tryz.func211, Tryz.ntmps211
         go_wp2
         refine wp_obs 23 [[],[0],[0,1],[0,1,2],[0,1,2,3],[0,1,2,3,4],[0,1,2,3,4,5],[0,1,2,3,4,5,6],[0,1,2,3,4,5,6,7],[0,1,2,3,4,5,6,7,8],[0,1,2,3,4,5,6,7,8,9],[0,1,2,3,4,5,6,7,8,9,10],[0,1,2,3,4,5,6,7,8,9],[0,1,2,3,4,5,6,7,8,9,12],[0,1,2,3,4,5,6,7,8,9,10,11,12,13],[0,1,2,3,4,5,6,7,8,9,10,11,12,13,14],[0,1,2,3,4,5,6,7,8,9,10,11,12,13,14,15],[0,1,2,3,4,5,6,7,8,9,10,11,12,13,14,15,16],[0,1,2,3,4,5,6,7,8,9,10,11,12,13,14,15,16,17],[0,1,2,3,4,5,6,7,8,9,10,11,12,13,14,15,16,17,18],[0,1,2,3,4,5,6,7,8,9,10,11,12,13,14,15,16,17,18,19],[0,1,2,3,4,5,6,7,8,9,10,11,12,13,14,15,16,17,18,19,20],[0,1,2,3,4,5,6,7,8,9,10,11,12,13,14,15,16,17,18,19,20,21]] [VIs (.pointer (some ⟨w.heap.size, 0, none⟩)), VIs (.int .i64 (p)), VIs (.bool true), VIs (.bool true), VIs (.pointer (some ⟨w.heap.size, 1, none⟩)), VIs (.slice A k c), VIs (.int .i64 (k)), VIs (.bool true), VIs (.bool true), VIs (.bool true), VIs (.agg #[.int .i64 p, .slice A k c]), VIs (.int .i64 (p)), VIs (.pointer (some ⟨w.heap.size, 1, none⟩)), VIs (.slice A k c), VIs (.bool true), VIs (.bool true), VIs (.bool true), VIs (.pointer (some ⟨w.heap.size, 1, none⟩)), VIs (.slice A k c), VIs (.bool true), VIs (.bool false), VIs (.bool false), VIs (.bool false)] (fun w' => Blk w' w.heap.size 51 #[.int .i64 p, .slice A k c] ∧ Below w.heap.size w w') (by kernel_rfl) (by kernel_rfl) (fun _ _ h hb => ⟨h.1.below hb h.1.lt, h.2.trans (hb.mono h.2.size)⟩) (⟨k0.drew, hB0.drew⟩) (fun x => ?_)
         refine zS (fun w' hS hV K hK => ?_) ?_
         · obtain ⟨q0, q1⟩ := hS.1.two; go_simp; exact zO hK
         refine zS (fun w' hS hV K hK => ?_) ?_
         · have e0 := zQ hV 0; obtain ⟨q0, q1⟩ := hS.1.two; go_simp; exact zO hK
         refine zS (fun w' hS hV K hK => ?_) ?_
         · have e1 := zQ hV 1; obtain ⟨q0, q1⟩ := hS.1.two; go_simp; refine (IsPrime_b _ _ H1.out).mono ?_; rintro e v1 ⟨rfl, rfl⟩; exact zO hK
         refine zS (fun w' hS hV K hK => ?_) ?_
         · have e2 := zQ hV 2; obtain ⟨q0, q1⟩ := hS.1.two; go_simp; exact zO hK
         refine zS (fun w' hS hV K hK => ?_) ?_
         · have e3 := zQ hV 3; obtain ⟨q0, q1⟩ := hS.1.two; go_simp; exact zO hK
         refine zS (fun w' hS hV K hK => ?_) ?_
         · have e3 := zQ hV 3; have e4 := zQ hV 4; obtain ⟨q0, q1⟩ := hS.1.two; go_simp; exact zO hK
         refine zS (fun w' hS hV K hK => ?_) ?_
         · have e3 := zQ hV 3; have e5 := zQ hV 5; obtain ⟨q0, q1⟩ := hS.1.two; go_simp; exact zO hK
         refine zS (fun w' hS hV K hK => ?_) ?_
         · have e3 := zQ hV 3; have e6 := zQ hV 6; obtain ⟨q0, q1⟩ := hS.1.two; go_simp; exact zO hK
         refine zS (fun w' hS hV K hK => ?_) ?_
         · have e3 := zQ hV 3; have e7 := zQ hV 7; obtain ⟨q0, q1⟩ := hS.1.two; go_simp; exact zO hK
         refine zS (fun w' hS hV K hK => ?_) ?_
         · have e8 := zQ hV 8; obtain ⟨q0, q1⟩ := hS.1.two; go_simp; exact zO hK
         refine zS (fun w' hS hV K hK => ?_) ?_
         · have e9 := zQ hV 9; obtain ⟨q0, q1⟩ := hS.1.two; go_simp; exact zO hK
         refine zS (fun w' hS hV K hK => ?_) ?_
         · have e9 := zQ hV 9; have e10 := zQ hV 10; obtain ⟨q0, q1⟩ := hS.1.two; go_simp; refine (dfield_any p A k c w').mono ?_; rintro e v1 ⟨rfl, hb⟩; exact hK.out _ _ _ rfl rfl rfl hb
         refine zS (fun w' hS hV K hK => ?_) ?_
         · have e9 := zQ hV 9; obtain ⟨q0, q1⟩ := hS.1.two; go_simp; exact zO hK
         refine zS (fun w' hS hV K hK => ?_) ?_
         · have e9 := zQ hV 9; have e12 := zQ hV 12; obtain ⟨q0, q1⟩ := hS.1.two; go_simp; exact zO hK
         refine zS (fun w' hS hV K hK => ?_) ?_
         · have e9 := zQ hV 9; have e11 := zQ hV 11; have e13 := zQ hV 13; obtain ⟨q0, q1⟩ := hS.1.two; go_simp; refine (is_b p A k c st w' hp0 (by omega) (by omega) (ha.below hS.2) H3.out).mono ?_; rintro e v1 ⟨rfl, rfl⟩; exact zO hK
         refine zS (fun w' hS hV K hK => ?_) ?_
         · have e9 := zQ hV 9; have e14 := zQ hV 14; obtain ⟨q0, q1⟩ := hS.1.two; go_simp; exact zO hK
         refine zS (fun w' hS hV K hK => ?_) ?_
         · have e15 := zQ hV 15; obtain ⟨q0, q1⟩ := hS.1.two; go_simp; exact zO hK
         refine zS (fun w' hS hV K hK => ?_) ?_
         · have e16 := zQ hV 16; obtain ⟨q0, q1⟩ := hS.1.two; go_simp; exact zO hK
         refine zS (fun w' hS hV K hK => ?_) ?_
         · have e16 := zQ hV 16; have e17 := zQ hV 17; obtain ⟨q0, q1⟩ := hS.1.two; go_simp; exact zO hK
         refine zS (fun w' hS hV K hK => ?_) ?_
         · have e16 := zQ hV 16; have e18 := zQ hV 18; obtain ⟨q0, q1⟩ := hS.1.two; go_simp; refine (Contains_b A k c st 0 w' (by omega) (ha.below hS.2) H4.out).mono ?_; rintro e v1 ⟨rfl, rfl⟩; exact zO hK
         refine zS (fun w' hS hV K hK => ?_) ?_
         · have e16 := zQ hV 16; have e19 := zQ hV 19; obtain ⟨q0, q1⟩ := hS.1.two; go_simp; exact zO hK
         refine zS (fun w' hS hV K hK => ?_) ?_
         · have e16 := zQ hV 16; have e20 := zQ hV 20; obtain ⟨q0, q1⟩ := hS.1.two; go_simp; exact zO hK
         refine zS (fun w' hS hV K hK => ?_) ?_
         · have e21 := zQ hV 21; obtain ⟨q0, q1⟩ := hS.1.two; go_simp; exact zO hK
         refine fun w' hS hV => ?_
         have e0 := zT hV 0
         have e1 := zT hV 1
         have e2 := zT hV 2
         have e3 := zT hV 3
         have e4 := zT hV 4
         have e5 := zT hV 5
         have e6 := zT hV 6
         have e7 := zT hV 7
         have e8 := zT hV 8
         have e9 := zT hV 9
         have e10 := zT hV 10
         have e11 := zT hV 11
         have e12 := zT hV 12
         have e13 := zT hV 13
         have e14 := zT hV 14
         have e15 := zT hV 15
         have e16 := zT hV 16
         have e17 := zT hV 17
         have e18 := zT hV 18
         have e19 := zT hV 19
         have e20 := zT hV 20
         have e21 := zT hV 21
         have e22 := zT hV 22
         simp only [e0, e1, e2, e3, e4, e5, e6, e7, e8, e9, e10, e11, e12, e13, e14, e15, e16, e17, e18, e19, e20, e21, e22]
         clear e0 e1 e2 e3 e4 e5 e6 e7 e8 e9 e10 e11 e12 e13 e14 e15 e16 e17 e18 e19 e20 e21 e22
         refine wpAny_done (by kernel_rfl) ?_ _
         go_wp2
         go_ret
         exact ⟨ret_bool (by unfold isDb; rw [Hx.out]; rw [H1.out, H3.out, H4.out]; simp [h2]), hS.2⟩
   · have h2' : ((k : Int) ≤ 4) = False := eq_false (by omega)
     have h2d : decide ((k : Int) ≤ 4) = false := by rw [decide_eq_false_iff_not]; omega
     have h4k : (4 : Int) < k := by omega
     go_enter Tryz.func211, Tryz.ntmps211
     go_wp2
     refine wp_obs 23 [[],[0],[0,1],[0,1,2],[0,1,2,3],[0,1,2,3,4],[0,1,2,3,4,5],[0,1,2,3,4,5,6],[0,1,2,3,4,5,6,7],[0,1,2,3,4,5,6,7,8],[0,1,2,3,4,5,6,7,8,9],[0,1,2,3,4,5,6,7,8,9,10],[0,1,2,3,4,5,6,7,8,9],[0,1,2,3,4,5,6,7,8,9,12],[0,1,2,3,4,5,6,7,8,9,10,11,12,13],[0,1,2,3,4,5,6,7,8,9,10,11,12,13,14],[0,1,2,3,4,5,6,7,8,9,10,11,12,13,14,15],[0,1,2,3,4,5,6,7,8,9,10,11,12,13,14,15,16],[0,1,2,3,4,5,6,7,8,9,10,11,12,13,14,15,16,17],[0,1,2,3,4,5,6,7,8,9,10,11,12,13,14,15,16,17,18],[0,1,2,3,4,5,6,7,8,9,10,11,12,13,14,15,16,17,18,19],[0,1,2,3,4,5,6,7,8,9,10,11,12,13,14,15,16,17,18,19,20],[0,1,2,3,4,5,6,7,8,9,10,11,12,13,14,15,16,17,18,19,20,21]] [VIs (.pointer (some ⟨w.heap.size, 0, none⟩)), VIs (.int .i64 (p)), VIs (.bool true), VIs (.bool true), VIs (.pointer (some ⟨w.heap.size, 1, none⟩)), VIs (.slice A k c), VIs (.int .i64 (k)), VIs (.bool false), VIs (.bool false), VIs (.bool false), VIs undef, VIs undef, VIs undef, VIs undef, VIs undef, VIs (.bool false), VIs (.bool false), VIs undef, VIs undef, VIs undef, VIs undef, VIs (.bool false), VIs (.bool false)] (fun w' => Blk w' w.heap.size 51 #[.int .i64 p, .slice A k c] ∧ Below w.heap.size w w') (by kernel_rfl) (by kernel_rfl) (fun _ _ h hb => ⟨h.1.below hb h.1.lt, h.2.trans (hb.mono h.2.size)⟩) (⟨k0.drew, hB0.drew⟩) (fun x => ?_)
     refine zS (fun w' hS hV K hK => ?_) ?_
     · obtain ⟨q0, q1⟩ := hS.1.two; go_simp; exact zO hK
     refine zS (fun w' hS hV K hK => ?_) ?_
     · have e0 := zQ hV 0; obtain ⟨q0, q1⟩ := hS.1.two; go_simp; exact zO hK
     refine zS (fun w' hS hV K hK => ?_) ?_
     · have e1 := zQ hV 1; obtain ⟨q0, q1⟩ := hS.1.two; go_simp; refine (IsPrime_b _ _ H1.out).mono ?_; rintro e v1 ⟨rfl, rfl⟩; exact zO hK
     refine zS (fun w' hS hV K hK => ?_) ?_
     · have e2 := zQ hV 2; obtain ⟨q0, q1⟩ := hS.1.two; go_simp; exact zO hK
     refine zS (fun w' hS hV K hK => ?_) ?_
     · have e3 := zQ hV 3; obtain ⟨q0, q1⟩ := hS.1.two; go_simp; exact zO hK
     refine zS (fun w' hS hV K hK => ?_) ?_
     · have e3 := zQ hV 3; have e4 := zQ hV 4; obtain ⟨q0, q1⟩ := hS.1.two; go_simp; exact zO hK
     refine zS (fun w' hS hV K hK => ?_) ?_
     · have e3 := zQ hV 3; have e5 := zQ hV 5; obtain ⟨q0, q1⟩ := hS.1.two; go_simp; exact zO hK
     refine zS (fun w' hS hV K hK => ?_) ?_
     · have e3 := zQ hV 3; have e6 := zQ hV 6; obtain ⟨q0, q1⟩ := hS.1.two; go_simp; exact zO hK
     refine zS (fun w' hS hV K hK => ?_) ?_
     · have e3 := zQ hV 3; have e7 := zQ hV 7; obtain ⟨q0, q1⟩ := hS.1.two; go_simp; exact zO hK
     refine zS (fun w' hS hV K hK => ?_) ?_
     · have e8 := zQ hV 8; obtain ⟨q0, q1⟩ := hS.1.two; go_simp; exact zO hK
     refine zS (fun w' hS hV K hK => ?_) ?_
     · have e9 := zQ hV 9; obtain ⟨q0, q1⟩ := hS.1.two; go_simp; exact zO hK
     refine zS (fun w' hS hV K hK => ?_) ?_
     · have e9 := zQ hV 9; have e10 := zQ hV 10; obtain ⟨q0, q1⟩ := hS.1.two; go_simp; exact zO hK
     refine zS (fun w' hS hV K hK => ?_) ?_
     · have e9 := zQ hV 9; obtain ⟨q0, q1⟩ := hS.1.two; go_simp; exact zO hK
     refine zS (fun w' hS hV K hK => ?_) ?_
     · have e9 := zQ hV 9; have e12 := zQ hV 12; obtain ⟨q0, q1⟩ := hS.1.two; go_simp; exact zO hK
     refine zS (fun w' hS hV K hK => ?_) ?_
     · have e9 := zQ hV 9; have e11 := zQ hV 11; have e13 := zQ hV 13; obtain ⟨q0, q1⟩ := hS.1.two; go_simp; exact zO hK
     refine zS (fun w' hS hV K hK => ?_) ?_
     · have e9 := zQ hV 9; have e14 := zQ hV 14; obtain ⟨q0, q1⟩ := hS.1.two; go_simp; exact zO hK
     refine zS (fun w' hS hV K hK => ?_) ?_
     · have e15 := zQ hV 15; obtain ⟨q0, q1⟩ := hS.1.two; go_simp; exact zO hK
     refine zS (fun w' hS hV K hK => ?_) ?_
     · have e16 := zQ hV 16; obtain ⟨q0, q1⟩ := hS.1.two; go_simp; exact zO hK
     refine zS (fun w' hS hV K hK => ?_) ?_
     · have e16 := zQ hV 16; have e17 := zQ hV 17; obtain ⟨q0, q1⟩ := hS.1.two; go_simp; exact zO hK
     refine zS (fun w' hS hV K hK => ?_) ?_
     · have e16 := zQ hV 16; have e18 := zQ hV 18; obtain ⟨q0, q1⟩ := hS.1.two; go_simp; exact zO hK
     refine zS (fun w' hS hV K hK => ?_) ?_
     · have e16 := zQ hV 16; have e19 := zQ hV 19; obtain ⟨q0, q1⟩ := hS.1.two; go_simp; exact zO hK
     refine zS (fun w' hS hV K hK => ?_) ?_
     · have e16 := zQ hV 16; have e20 := zQ hV 20; obtain ⟨q0, q1⟩ := hS.1.two; go_simp; exact zO hK
     refine zS (fun w' hS hV K hK => ?_) ?_
     · have e21 := zQ hV 21; obtain ⟨q0, q1⟩ := hS.1.two; go_simp; exact zO hK
     refine fun w' hS hV => ?_
     have e0 := zT hV 0
     have e1 := zT hV 1
     have e2 := zT hV 2
     have e3 := zT hV 3
     have e4 := zT hV 4
     have e5 := zT hV 5
     have e6 := zT hV 6
     have e7 := zT hV 7
     have e8 := zT hV 8
     have e9 := zT hV 9
     have e10 := zT hV 10
     have e11 := zT hV 11
     have e12 := zT hV 12
     have e13 := zT hV 13
     have e14 := zT hV 14
     have e15 := zT hV 15
     have e16 := zT hV 16
     have e17 := zT hV 17
     have e18 := zT hV 18
     have e19 := zT hV 19
     have e20 := zT hV 20
     have e21 := zT hV 21
     have e22 := zT hV 22
     simp only [e0, e1, e2, e3, e4, e5, e6, e7, e8, e9, e10, e11, e12, e13, e14, e15, e16, e17, e18, e19, e20, e21, e22]
     clear e0 e1 e2 e3 e4 e5 e6 e7 e8 e9 e10 e11 e12 e13 e14 e15 e16 e17 e18 e19 e20 e21 e22
     refine wpAny_done (by kernel_rfl) ?_ _
     go_wp2
     go_ret
     exact ⟨ret_bool (by unfold isDb; rw [Hx.out]; simp [H1.out, h2]), hS.2⟩
/-- Is it an element of a doubling? -/
def isEl (p : Int) (k : Nat) (ys : List Int) : Bool := ((ys.length : Nat) : Int) == ((pw k : Nat) : Int) && nums p ys
/-- The code for a doubling and elements. -/
def codeD (p : Int) (st : List Int) (yss : List (List Int)) : Int := if isDb p st then (if yss.any fun ys => !(isEl p st.length ys) then 2 else 0) else 1
set_option maxHeartbeats 800000 in
set_option maxRecDepth 8000 in
theorem notEl (p : Int) (k : Nat) (g : Nat) (A : Option Addr) (c : Nat) (w : World) (hk4 : k ≤ 4) (hp0 : 0 < p) (hp1 : p ≤ 13) (hk : Blk w g 51 #[.int .i64 p, .slice A k c]) :
    Tells 212 #[.pointer (some ⟨g, 0, none⟩)] w (fun ys => !(isEl p k ys)) (fun ys => ys.length ≤ 1048576) := by
 intro w' D m d ys hb hr hm
 have hyl : ys.length = m := by have := hr.1; rwa [ints_length] at this
 rw [hyl] at hm
 have k0 := hk.below hb hk.lt
 obtain ⟨q0, q1⟩ := k0.two
 have hmu : isEl p k ys = ((((m : Nat) : Int) == ((pw k : Nat) : Int)) && nums p ys) := by unfold isEl; rw [hyl]
 have Hmu := Lib.hid hmu
 clear hyl hmu
 simp only [List.append_toArray, List.cons_append, List.nil_append]
 cases h2 : (((m : Nat) : Int) == ((pw k : Nat) : Int))
 all_goals
  have H2 := Lib.hid h2
  have h3 : (((m : Nat) : Int) != ((pw k : Nat) : Int)) = !(((m : Nat) : Int) == ((pw k : Nat) : Int)) := rfl
  rw [h2] at h3
  go_enter Tryz.func212, Tryz.ntmps212
  go_wp2_with fail
  refine (dsize_any p A k c _ hk4).mono ?_
  rintro e w1 ⟨rfl, hb1⟩
  have k1 := k0.below hb1 k0.lt
  obtain ⟨q0, q1⟩ := k1.two
  clear k0
  go_wp2_with fail
 · go_ret
   exact ⟨ret_bool (by rw [Hmu.out, H2.out]; rfl), hb1⟩
 · refine (dfield_any p A k c _).mono ?_
   rintro e w2 ⟨rfl, hb2⟩
   have hB2 := hb1.trans (hb2.mono hb1.size)
   obtain ⟨b, hb'⟩ : ∃ b, b = nums p ys := ⟨_, rfl⟩
   have HB := Lib.hid hb'
   clear hb'
   go_wp2_with fail
   refine (is_b _ _ _ _ _ _ hp0 (by omega) (by omega) (hr.below hB2) HB.out.symm).mono ?_
   rintro e w3 ⟨rfl, rfl⟩
   go_wp2
   go_ret
   exact ⟨ret_bool (by rw [Hmu.out, H2.out, HB.out]; rfl), hB2⟩
set_option maxHeartbeats 1000000 in
set_option maxRecDepth 8000 in
theorem checkElements_any (p : Int) (A B : Option Addr) (k c m d : Nat) (st : List Int) (yss : List (List Int)) (w : World) (hk6 : k ≤ 65536) (hm : m ≤ 1048576) (ha : Rd w A k (ints st)) (hb : RdII w B m yss) (hys : ∀ ys ∈ yss, ys.length ≤ 1048576) :
    Calls Tryz.prog 108 #[.agg #[.int .i64 p, .slice A k c], .slice B m d] w fun e w' => e = .returned (.int .i64 (codeD p st yss)) ∧ Below w.heap.size w w' := by
 have hxl : st.length = k := ha.lenI
 have hB : Below w.heap.size w (w.alloc (.cells #[.int .i64 p, .slice A k c] 51)) := zG.alloc (Nat.le_refl _) _
 have k0 : Blk (w.alloc (.cells #[.int .i64 p, .slice A k c] 51)) w.heap.size 51 #[.int .i64 p, .slice A k c] := Blk.new _ _ _
 have hmf : ∀ (fn : Fn) (first cap : Array Value) (w : World), (Instr.makeFunc fn first cap).run Tryz.prog w = .ok (.func fn first cap) w := fun _ _ _ _ => rfl
 have hD := IsDoubling_any p A k c st (w.alloc (.cells #[.int .i64 p, .slice A k c] 51)) hk6 (ha.below hB)
 cases h1 : isDb p st
 · rw [h1] at hD
   have HD := Lib.hid hD
   have H1 := Lib.hid h1
   clear h1 hxl hD
   go_enter Tryz.func108, Tryz.ntmps108
   go_wp2_with fail
   refine HD.out.mono ?_
   rintro e w1 ⟨rfl, hb1⟩
   go_wp2
   go_ret
   exact ⟨ret_int (by unfold codeD; rw [H1.out]; rfl), hB.trans (hb1.mono (by simp))⟩
 rw [h1] at hD
 have HD := Lib.hid hD
 have hP : isP p = true ∧ k ≤ 4 := by
  unfold isDb at h1
  simp only [Bool.and_eq_true, decide_eq_true_eq] at h1
  exact ⟨h1.1.1.1, by have := h1.1.1.2; omega⟩
 obtain ⟨hp, hk4⟩ := hP
 obtain ⟨hp0, hp1⟩ := isP_pos hp
 have H1 := Lib.hid h1; have Hx := Lib.hid hxl; clear h1 hp hxl hD
 cases h2 : (yss.any fun ys => !(isEl p k ys))
 all_goals
  have H2 := Lib.hid h2; clear h2
  go_enter Tryz.func108, Tryz.ntmps108
  go_wp2_with fail
  refine HD.out.mono ?_
  rintro e w1 ⟨rfl, hb1⟩
  have hB1 := hB.trans (hb1.mono (by simp))
  have hT := notEl p k w.heap.size A c w1 hk4 hp0 hp1 (k0.below hb1 k0.lt)
  go_wp2_with fail
  refine (ContainsFunc_any _ _ _ _ _ _ _ _ _ (by omega) (hb.below hB1) hys hT (fun _ _ => rfl)).mono ?_
  rintro e w2 ⟨rfl, hb2⟩
  rw [H2.out]
  go_wp2
  go_ret
  exact ⟨ret_int (by unfold codeD; rw [H1.out, Hx.out, H2.out]; rfl), hB1.trans (hb2.mono hB1.size)⟩
set_option maxHeartbeats 800000 in
set_option maxRecDepth 8000 in
theorem checkNumbers_ok (p : Int) (A : Option Addr) (n c : Nat) (xs : List Int) (w : World) (HP : isP p = true) (hn : n ≤ 1048576) (ha : Rd w A n (ints xs)) (h : nums p xs = true) :
    Calls Tryz.prog 121 #[.int .i64 p, .slice A n c] w fun e w' => e = .returned (.int .i64 0) ∧ w = w' := by
 obtain ⟨hp3, hp2⟩ := isP_ge HP
 have hip := IsPrime_b p w HP
 have his := is_b p A n c xs w (by omega) (by omega) (by omega) ha h
 clear h HP
 go_enter Tryz.func121, Tryz.ntmps121
 go_wp2_with fail
 refine hip.mono ?_
 rintro e w1 ⟨rfl, rfl⟩
 go_wp2_with fail
 refine his.mono ?_
 rintro e w1 ⟨rfl, rfl⟩
 go_wp2
 go_ret
 exact ⟨rfl, rfl⟩
set_option maxHeartbeats 3200000 in
set_option maxRecDepth 8000 in
theorem GeometricProduct_ok (P : Int) (A : Option Addr) (n c : Nat) (sq : List Int) (X : Option Addr) (m cx : Nat) (xs : List Int) (Y : Option Addr) (l cy : Nat) (ys : List Int) (w : World) (hn : n ≤ 1048576) (hm : m ≤ 1048576) (hl : l ≤ 1048576) (ha : Rd w A n (ints sq)) (hx : Rd w X m (ints xs)) (hcx : m ≤ cx) (hy : Rd w Y l (ints ys)) (hcy : l ≤ cy) (h0 : codeM P sq [xs, ys] = 0) :
    Calls Tryz.prog 28 #[.agg #[.int .i64 P, .slice A n c], .slice X m cx, .slice Y l cy] w fun e w' => ∃ (A' : Option Addr) (c' : Nat), e = .returned (.tuple #[.slice A' (pw n) c', .int .i64 0]) ∧ MkI w w' A' (pw n) c' (mulL P sq xs ys) := by
 have hB0 : Below w.heap.size w (w.alloc (.cells #[.int .i64 P, .slice A n c] 26)) := zG.alloc (Nat.le_refl _) _
 have k0 : Blk (w.alloc (.cells #[.int .i64 P, .slice A n c] 26)) w.heap.size 26 #[.int .i64 P, .slice A n c] := Blk.new _ _ _
 have hB1 : Below w.heap.size w ((w.alloc (.cells #[.int .i64 P, .slice A n c] 26)).alloc (.cells #[.slice X m cx, .slice Y l cy] 24)) := hB0.alloc (by simp) _
 have k1 : Blk ((w.alloc (.cells #[.int .i64 P, .slice A n c] 26)).alloc (.cells #[.slice X m cx, .slice Y l cy] 24)) w.heap.size 26 #[.int .i64 P, .slice A n c] := k0.alloc _
 have hreg := checkMultis_any P A (some ⟨w.heap.size + 1, 0, none⟩) n c 2 2 sq [xs, ys] ((w.alloc (.cells #[.int .i64 P, .slice A n c] 26)).alloc (.cells #[.slice X m cx, .slice Y l cy] 24)) hn (by omega) (ha.below hB1) (rdII_two (Blk.newAt (by simp)) (hx.below hB1) (hy.below hB1) hcx hcy) (all_two (by rw [hx.lenI]; exact hm) (by rw [hy.lenI]; exact hl))
 rw [h0] at hreg
 obtain ⟨HP, hp, hp2, hd1, hd2, hs0, hms⟩ := codeM_spec2 h0
 obtain ⟨hx1, hxs0⟩ := hms xs (by simp)
 obtain ⟨hy1, hys0⟩ := hms ys (by simp)
 have hsl := ha.lenI
 have hmx : m = pw n := by rw [← hx.lenI, hx1, hsl]
 have hly : l = pw n := by rw [← hy.lenI, hy1, hsl]
 subst hmx
 subst hly
 rw [hsl] at hd2
 have HXS := Lib.hid hxs0
 have HYS := Lib.hid hys0
 have HS := Lib.hid hs0
 have HX1 := Lib.hid hx.lenI
 have HY1 := Lib.hid hy.lenI
 have htm := timesL_two P sq n xs ys HX1.out HXS.out
 clear hms hx1 hs0 hxs0 hy1 hys0 h0 hsl
 go_enter Tryz.func28, Tryz.ntmps28
 go_wp2_with fail
 refine hreg.mono ?_
 rintro e w2 ⟨rfl, hb2⟩
 have hB2 := hB1.trans (hb2.mono hB1.size)
 have k2 := k1.below hb2 k1.lt
 obtain ⟨q0, q1⟩ := k2.two
 clear k0 hB0 k1 hB1 hb2 hreg
 have hB3 : Below w.heap.size w (w2.alloc (.cells #[.slice X (pw n) cx, .slice Y (pw n) cy] 24)) := hB2.alloc hB2.size _
 have hcall := times_any P A n c sq (some ⟨w2.heap.size, 0, none⟩) 2 2 [xs, ys] (w2.alloc (.cells #[.slice X (pw n) cx, .slice Y (pw n) cy] 24)) (by omega) hp2 hd2 (by omega) (ha.below hB3) HS.out (rdII_two (Blk.new w2 24 _) (hx.below hB3) (hy.below hB3) hcx hcy) (all_two ⟨HXS.out, HX1.out⟩ ⟨HYS.out, HY1.out⟩)
 rw [htm] at hcall
 go_wp2_with fail
 refine hcall.mono ?_
 rintro e w3 ⟨A', c', rfl, hM⟩
 have hM3 := hM.after hB3
 go_wp2
 go_ret2
 exact ⟨A', c', rfl, hM3⟩
set_option maxHeartbeats 3200000 in
set_option maxRecDepth 8000 in
theorem times5_ok (P : Int) (A : Option Addr) (n c : Nat) (sq : List Int) (X : Option Addr) (m cx : Nat) (xs : List Int) (Y : Option Addr) (l cy : Nat) (ys : List Int) (w : World) (hn : n ≤ 1048576) (hm : m ≤ 1048576) (hl : l ≤ 1048576) (ha : Rd w A n (ints sq)) (hx : Rd w X m (ints xs)) (hcx : m ≤ cx) (hy : Rd w Y l (ints ys)) (hcy : l ≤ cy) (h0 : codeM P sq [xs, ys] = 0) :
    Calls Tryz.prog 23 #[.agg #[.int .i64 P, .slice A n c], .slice X m cx, .slice Y l cy] w fun e w' => ∃ (A' : Option Addr) (c' : Nat), e = .returned (.slice A' (pw n) c') ∧ MkI w w' A' (pw n) c' (mulL P sq xs ys) := by
 have hB0 : Below w.heap.size w (w.alloc (.cells #[.int .i64 P, .slice A n c] 26)) := zG.alloc (Nat.le_refl _) _
 have k0 : Blk (w.alloc (.cells #[.int .i64 P, .slice A n c] 26)) w.heap.size 26 #[.int .i64 P, .slice A n c] := Blk.new _ _ _
 have hgp := GeometricProduct_ok P A n c sq X m cx xs Y l cy ys (w.alloc (.cells #[.int .i64 P, .slice A n c] 26)) hn hm hl (ha.below hB0) (hx.below hB0) hcx (hy.below hB0) hcy h0
 clear h0
 go_enter Tryz.func23, Tryz.ntmps23
 go_wp2_with fail
 refine hgp.mono ?_
 rintro e w2 ⟨A', c', rfl, hM⟩
 have hM3 := hM.after hB0
 go_wp2
 go_ret
 exact ⟨A', c', rfl, hM3⟩
theorem isEl_mk {p : Int} {k : Nat} {ys : List Int} (h : ys.length = pw k) (hn : NumsL p ys) : isEl p k ys = true := by
 unfold isEl nums
 rw [h, Bool.and_eq_true]
 exact ⟨by simp, List.all_eq_true.2 fun x hx => by have := hn x hx; simp [inR]; omega⟩
theorem codeD_mk {p : Int} {st : List Int} {yss : List (List Int)} (h : isDb p st = true) (hy : ∀ ys ∈ yss, ys.length = pw st.length ∧ NumsL p ys) : codeD p st yss = 0 := by
 unfold codeD
 rw [h, if_pos rfl, if_neg]
 intro hh
 obtain ⟨ys, h1, e⟩ := List.any_eq_true.1 hh
 rw [isEl_mk (hy ys h1).1 (hy ys h1).2] at e
 cases e
theorem isDb_facts {p : Int} {st : List Int} (h : isDb p st = true) : isP p = true ∧ st.length ≤ 4 ∧ NumsL p st := by
 unfold isDb at h
 simp only [Bool.and_eq_true, decide_eq_true_eq] at h
 exact ⟨h.1.1.1, h.1.1.2, nums_numsL h.1.2⟩
theorem isDb_mk {p : Int} {st : List Int} (h : isP p = true) (h4 : st.length ≤ 4) (hn : NumsL p st) (h0 : ∀ x ∈ st, x ≠ 0) : isDb p st = true := by
 unfold isDb nums
 rw [h, decide_eq_true h4]
 simp only [Bool.true_and, Bool.and_eq_true]
 refine ⟨List.all_eq_true.2 fun x hx => by have := hn x hx; simp [inR]; omega, ?_⟩
 cases hc : st.contains 0
 · rfl
 · exact absurd rfl (h0 0 (by simpa using hc))
set_option maxHeartbeats 3200000 in
set_option maxRecDepth 8000 in
theorem DoubleTimes_ok (p : Int) (A : Option Addr) (k c : Nat) (st : List Int) (X : Option Addr) (cx : Nat) (xs : List Int) (Y : Option Addr) (cy : Nat) (ys : List Int) (w : World) (hdb : isDb p st = true) (hc : k ≤ c) (ha : Rd w A k (ints st)) (hx : Rd w X (pw k) (ints xs)) (hcx : pw k ≤ cx) (hxs : NumsL p xs) (hy : Rd w Y (pw k) (ints ys)) (hcy : pw k ≤ cy) (hys : NumsL p ys) :
    Calls Tryz.prog 30 #[.agg #[.int .i64 p, .slice A k c], .slice X (pw k) cx, .slice Y (pw k) cy] w fun e w' => ∃ (A' : Option Addr) (c' : Nat), e = .returned (.tuple #[.slice A' (pw k) c', .int .i64 0]) ∧ MkI w w' A' (pw k) c' (dblL p k st xs ys) := by
 have hB0 : Below w.heap.size w (w.alloc (.cells #[.int .i64 p, .slice A k c] 51)) := zG.alloc (Nat.le_refl _) _
 have k0 : Blk (w.alloc (.cells #[.int .i64 p, .slice A k c] 51)) w.heap.size 51 #[.int .i64 p, .slice A k c] := Blk.new _ _ _
 obtain ⟨HP, hk4, hst⟩ := isDb_facts hdb
 obtain ⟨hp3, hp2⟩ := isP_ge HP
 rw [ha.lenI] at hk4
 have hpw : pw k ≤ 16 := pw_le hk4
 have hB1 : Below w.heap.size w ((w.alloc (.cells #[.int .i64 p, .slice A k c] 51)).alloc (.cells #[.slice X (pw k) cx, .slice Y (pw k) cy] 24)) := hB0.alloc (by simp) _
 have k1 : Blk ((w.alloc (.cells #[.int .i64 p, .slice A k c] 51)).alloc (.cells #[.slice X (pw k) cx, .slice Y (pw k) cy] 24)) w.heap.size 51 #[.int .i64 p, .slice A k c] := k0.alloc _
 have hck := checkElements_any p A (some ⟨w.heap.size + 1, 0, none⟩) k c 2 2 st [xs, ys] ((w.alloc (.cells #[.int .i64 p, .slice A k c] 51)).alloc (.cells #[.slice X (pw k) cx, .slice Y (pw k) cy] 24)) (by omega) (by omega) (ha.below hB1) (rdII_two (Blk.newAt3 (by simp)) (hx.below hB1) (hy.below hB1) hcx hcy) (all_two (by rw [hx.lenI]; omega) (by rw [hy.lenI]; omega))
 rw [codeD_mk hdb (all_two ⟨by rw [hx.lenI, ha.lenI], hxs⟩ ⟨by rw [hy.lenI, ha.lenI], hys⟩)] at hck
 have HST := Lib.hid hst
 have HXS := Lib.hid hxs
 have HYS := Lib.hid hys
 obtain ⟨q0, q1⟩ := k1.two
 clear hst hxs hys hdb HP k0 hB0
 go_enter Tryz.func30, Tryz.ntmps30
 go_wp2_with fail
 refine hck.mono ?_
 rintro e w2 ⟨rfl, hb2⟩
 have hB2 := hB1.trans (hb2.mono hB1.size)
 have k2 := k1.below hb2 k1.lt
 clear q0 q1 hck
 obtain ⟨q0, q1⟩ := k2.two
 go_wp2_with fail
 refine (dtimes_any p (by omega) hp2 k hk4 A c st X cx xs Y cy ys w2 hc hcx hcy (ha.below hB2) HST.out (hx.below hB2) HXS.out (hy.below hB2) HYS.out).mono ?_
 rintro e w3 ⟨A', c', rfl, hM⟩
 have hM3 := hM.after hB2
 go_wp2
 go_ret2
 exact ⟨A', c', rfl, hM3⟩
set_option maxHeartbeats 3200000 in
set_option maxRecDepth 8000 in
theorem DoubleNorm_ok (p : Int) (A : Option Addr) (k c : Nat) (st : List Int) (X : Option Addr) (cx : Nat) (xs : List Int) (w : World) (hdb : isDb p st = true) (hc : k ≤ c) (ha : Rd w A k (ints st)) (hx : Rd w X (pw k) (ints xs)) (hcx : pw k ≤ cx) (hxs : NumsL p xs) :
    Calls Tryz.prog 31 #[.agg #[.int .i64 p, .slice A k c], .slice X (pw k) cx] w fun e w' => e = .returned (.tuple #[.int .i64 (dnormL p k st xs), .int .i64 0]) ∧ Below w.heap.size w w' := by
 have hB0 : Below w.heap.size w (w.alloc (.cells #[.int .i64 p, .slice A k c] 51)) := zG.alloc (Nat.le_refl _) _
 have k0 : Blk (w.alloc (.cells #[.int .i64 p, .slice A k c] 51)) w.heap.size 51 #[.int .i64 p, .slice A k c] := Blk.new _ _ _
 obtain ⟨HP, hk4, hst⟩ := isDb_facts hdb
 obtain ⟨hp3, hp2⟩ := isP_ge HP
 rw [ha.lenI] at hk4
 have hpw : pw k ≤ 16 := pw_le hk4
 have hB1 : Below w.heap.size w ((w.alloc (.cells #[.int .i64 p, .slice A k c] 51)).alloc (.cells #[.slice X (pw k) cx] 24)) := hB0.alloc (by simp) _
 have k1 : Blk ((w.alloc (.cells #[.int .i64 p, .slice A k c] 51)).alloc (.cells #[.slice X (pw k) cx] 24)) w.heap.size 51 #[.int .i64 p, .slice A k c] := k0.alloc _
 have hck := checkElements_any p A (some ⟨w.heap.size + 1, 0, none⟩) k c 1 1 st [xs] ((w.alloc (.cells #[.int .i64 p, .slice A k c] 51)).alloc (.cells #[.slice X (pw k) cx] 24)) (by omega) (by omega) (ha.below hB1) (rdII_one' (Blk.newAt3 (by simp)) (hx.below hB1) hcx) (all_one (by rw [hx.lenI]; omega))
 rw [codeD_mk hdb (all_one ⟨by rw [hx.lenI, ha.lenI], hxs⟩)] at hck
 have HST := Lib.hid hst
 have HXS := Lib.hid hxs
 obtain ⟨q0, q1⟩ := k1.two
 clear hst hxs  hdb HP k0 hB0
 go_enter Tryz.func31, Tryz.ntmps31
 go_wp2_with fail
 refine hck.mono ?_
 rintro e w2 ⟨rfl, hb2⟩
 have hB2 := hB1.trans (hb2.mono hB1.size)
 have k2 := k1.below hb2 k1.lt
 clear q0 q1 hck
 obtain ⟨q0, q1⟩ := k2.two
 go_wp2_with fail
 refine (dnorm_any p (by omega) hp2 k hk4 A c st X cx xs w2 hc hcx (ha.below hB2) HST.out (hx.below hB2) HXS.out).mono ?_
 rintro e w3 ⟨rfl, hb3⟩
 have hB3 := hB2.trans (hb3.mono hB2.size)
 go_wp2
 go_ret2
 exact ⟨rfl, hB3⟩
set_option maxHeartbeats 3200000 in
set_option maxRecDepth 8000 in
theorem DivideNumbers_ok (p a b : Int) (w : World) (HP : isP p = true) (ha : 0 ≤ a) (ha2 : a < p) (hb : 0 ≤ b) (hb2 : b < p) (hb0 : b ≠ 0) :
    Calls Tryz.prog 37 #[.int .i64 p, .int .i64 a, .int .i64 b] w fun e w' => e = .returned (.tuple #[.int .i64 (a * invF p b % p), .int .i64 0]) ∧ Below w.heap.size w w' := by
 obtain ⟨hp3, hp2⟩ := isP_ge HP
 have hB0 : Below w.heap.size w (w.alloc (.cells #[.int .i64 a, .int .i64 b] 2)) := zG.alloc (Nat.le_refl _) _
 have k0 : Blk (w.alloc (.cells #[.int .i64 a, .int .i64 b] 2)) w.heap.size 2 #[.int .i64 a, .int .i64 b] := Blk.new _ _ _
 have hM := Mk.lit (E := 2) (Below.refl w.heap.size w) #[.int .i64 a, .int .i64 b] (by simp [maxLen])
 have hrd : Rd (w.alloc (.cells #[.int .i64 a, .int .i64 b] 2)) (some ⟨w.heap.size, 0, none⟩) 2 (ints [a, b]) := by
  have := hM.2.rd
  simpa [ints] using this
 have hck := checkNumbers_ok p (some ⟨w.heap.size, 0, none⟩) 2 2 [a, b] _ HP (by omega) hrd (by simp [nums, inR]; omega)
 have hinv := inv_any p b (w.alloc (.cells #[.int .i64 a, .int .i64 b] 2)) (by omega) hp2 hb hb2
 have hi : 0 ≤ invF p b ∧ invF p b < p := by
  obtain ⟨i1, i2, _⟩ := inv_spec HP (by omega : 0 < b) hb2
  exact ⟨by omega, i2⟩
 have hm : 0 ≤ a * invF p b := Int.mul_nonneg ha hi.1
 have hm2 : a * invF p b ≤ 13 * 13 := Int.mul_le_mul (by omega) (by omega) hi.1 (by omega)
 have hnum := num_w p (a * invF p b) (w.alloc (.cells #[.int .i64 a, .int .i64 b] 2)) (by omega) hp2 (by omega) (by omega)
 have hbf : (b == 0) = false := by simp [hb0]
 have HI := Lib.hid hi
 clear hm hm2 hi hrd hM HP
 obtain ⟨q0, q1⟩ := k0.two
 go_enter Tryz.func37, Tryz.ntmps37
 go_wp2_with fail
 refine hck.mono ?_
 rintro e w2 ⟨rfl, rfl⟩
 go_wp2_with fail
 refine hinv.mono ?_
 rintro e w2 ⟨rfl, rfl⟩
 go_wp2_with fail
 refine hnum.mono ?_
 rintro e w2 ⟨rfl, rfl⟩
 go_wp2
 go_ret2
 exact ⟨rfl, hB0⟩
set_option maxHeartbeats 3200000 in
set_option maxRecDepth 8000 in
theorem sGeometricProduct_ok (P : Int) (A : Option Addr) (n c : Nat) (sq : List Int) (X : Option Addr) (m cx : Nat) (xs : List Int) (Y : Option Addr) (l cy : Nat) (ys : List Int) (w : World) (hn : n ≤ 1048576) (hm : m ≤ 1048576) (hl : l ≤ 1048576) (ha : Rd w A n (ints sq)) (hx : Rd w X m (ints xs)) (hcx : m ≤ cx) (hy : Rd w Y l (ints ys)) (hcy : l ≤ cy) (h0 : codeM P sq [xs, ys] = 0) :
    Calls Tryz.prog 29 #[.agg #[.int .i64 P, .slice A n c], .slice X m cx, .slice Y l cy] w fun e w' => ∃ (A' : Option Addr) (c' : Nat), e = .returned (.tuple #[.slice A' (pw n) c', .int .i64 0]) ∧ MkI w w' A' (pw n) c' (mulL P sq xs ys) := by
 have hB0 : Below w.heap.size w (w.alloc (.cells #[.int .i64 P, .slice A n c] 26)) := zG.alloc (Nat.le_refl _) _
 have k0 : Blk (w.alloc (.cells #[.int .i64 P, .slice A n c] 26)) w.heap.size 26 #[.int .i64 P, .slice A n c] := Blk.new _ _ _
 have hB1 : Below w.heap.size w ((w.alloc (.cells #[.int .i64 P, .slice A n c] 26)).alloc (.cells #[.slice X m cx, .slice Y l cy] 24)) := hB0.alloc (by simp) _
 have k1 : Blk ((w.alloc (.cells #[.int .i64 P, .slice A n c] 26)).alloc (.cells #[.slice X m cx, .slice Y l cy] 24)) w.heap.size 26 #[.int .i64 P, .slice A n c] := k0.alloc _
 have hreg := l04Code_any P A (some ⟨w.heap.size + 1, 0, none⟩) n c 2 2 sq [xs, ys] ((w.alloc (.cells #[.int .i64 P, .slice A n c] 26)).alloc (.cells #[.slice X m cx, .slice Y l cy] 24)) hn (by omega) (ha.below hB1) (rdII_two (Blk.newAt (by simp)) (hx.below hB1) (hy.below hB1) hcx hcy) (all_two (by rw [hx.lenI]; exact hm) (by rw [hy.lenI]; exact hl))
 rw [h0] at hreg
 obtain ⟨HP, hp, hp2, hd1, hd2, hs0, hms⟩ := codeM_spec2 h0
 obtain ⟨hx1, hxs0⟩ := hms xs (by simp)
 obtain ⟨hy1, hys0⟩ := hms ys (by simp)
 have hsl := ha.lenI
 have hmx : m = pw n := by rw [← hx.lenI, hx1, hsl]
 have hly : l = pw n := by rw [← hy.lenI, hy1, hsl]
 subst hmx
 subst hly
 rw [hsl] at hd2
 have HXS := Lib.hid hxs0
 have HYS := Lib.hid hys0
 have HS := Lib.hid hs0
 have HX1 := Lib.hid hx.lenI
 have HY1 := Lib.hid hy.lenI
 have HL := Lib.hid hsl
 have hcall := fun w' (hb : Below w.heap.size w w') => l04Times_any P A n c sq X cx xs Y cy ys w' (by omega) hp2 hd2 (ha.below hb) HS.out (hx.below hb) HXS.out (hy.below hb) HYS.out
 clear hms hx1 hs0 hxs0 hy1 hys0 h0 hsl
 go_enter Tryz.func29, Tryz.ntmps29
 go_wp2_with fail
 refine hreg.mono ?_
 rintro e w2 ⟨rfl, hb2⟩
 have hB2 := hB1.trans (hb2.mono hB1.size)
 have k2 := k1.below hb2 k1.lt
 obtain ⟨q0, q1⟩ := k2.two
 clear k0 hB0 k1 hB1 hb2 hreg
 go_wp2_with fail
 refine (hcall _ hB2).mono ?_
 rintro e w3 ⟨A', c', rfl, hM⟩
 have hM3 := hM.after hB2
 go_wp2
 go_ret2
 exact ⟨A', c', rfl, hM3⟩
set_option maxHeartbeats 3200000 in
set_option maxRecDepth 8000 in
theorem ConjugateOf_ok (P : Int) (A : Option Addr) (n c : Nat) (sq : List Int) (X : Option Addr) (m cx : Nat) (xs : List Int) (w : World) (hn : n ≤ 1048576) (hm : m ≤ 1048576) (ha : Rd w A n (ints sq)) (hx : Rd w X m (ints xs)) (hcx : m ≤ cx) (h0 : codeM P sq [xs] = 0) :
    Calls Tryz.prog 32 #[.agg #[.int .i64 P, .slice A n c], .slice X m cx] w fun e w' => ∃ (A' : Option Addr) (c' : Nat), e = .returned (.tuple #[.slice A' m c', .int .i64 0]) ∧ MkI w w' A' m c' (revL P (invoL P xs)) := by
 have hB0 : Below w.heap.size w (w.alloc (.cells #[.int .i64 P, .slice A n c] 26)) := zG.alloc (Nat.le_refl _) _
 have k0 : Blk (w.alloc (.cells #[.int .i64 P, .slice A n c] 26)) w.heap.size 26 #[.int .i64 P, .slice A n c] := Blk.new _ _ _
 have hB1 : Below w.heap.size w ((w.alloc (.cells #[.int .i64 P, .slice A n c] 26)).alloc (.cells #[.slice X m cx] 24)) := hB0.alloc (by simp) _
 have k1 : Blk ((w.alloc (.cells #[.int .i64 P, .slice A n c] 26)).alloc (.cells #[.slice X m cx] 24)) w.heap.size 26 #[.int .i64 P, .slice A n c] := k0.alloc _
 have hreg := checkMultis_any P A (some ⟨w.heap.size + 1, 0, none⟩) n c 1 1 sq [xs] ((w.alloc (.cells #[.int .i64 P, .slice A n c] 26)).alloc (.cells #[.slice X m cx] 24)) hn (by omega) (ha.below hB1) (rdII_one' (Blk.newAt (by simp)) (hx.below hB1) hcx) (all_one (by rw [hx.lenI]; exact hm))
 rw [h0] at hreg
 obtain ⟨HP, hp, hp2, hd1, hd2, hs0, hms⟩ := codeM_spec2 h0
 obtain ⟨hx1, hxs0⟩ := hms xs (by simp)
 have hm64 : m ≤ 64 := by rw [← hx.lenI, hx1]; exact pw_le hd2
 have HXS := Lib.hid hxs0
 have HIS : Hid (NumsL P (invoL P xs)) := Lib.hid (sgnL_nums (by omega) _ hxs0)
 clear hms hx1 hs0 hxs0 h0
 go_enter Tryz.func32, Tryz.ntmps32
 go_wp2_with fail
 refine hreg.mono ?_
 rintro e w2 ⟨rfl, hb2⟩
 have hB2 := hB1.trans (hb2.mono hB1.size)
 have k2 := k1.below hb2 k1.lt
 obtain ⟨q0, q1⟩ := k2.two
 clear k0 hB0 k1 hB1 hb2 hreg
 go_wp2
 refine wp_obs 7 [[],[],[],[1,2],[0,1,2,3],[0,1,2,3,4],[]] [VIs (.agg #[.int .i64 P, .slice A n c]), VIs (.agg #[.int .i64 P, .slice A n c]), VIs (.slice X m cx), VSl w m (invoL P xs), VSl w m (revL P (invoL P xs)), VSl w m (revL P (invoL P xs)), VIs (.int .i64 0)] (fun w' => Blk w' w.heap.size 26 #[.int .i64 P, .slice A n c] ∧ Below w.heap.size w w') (by kernel_rfl) (by kernel_rfl) (fun _ _ h hb => ⟨h.1.below hb h.1.lt, h.2.trans (hb.mono h.2.size)⟩) (⟨k2.drew, hB2.drew⟩) (fun x => ?_)
 refine zS (fun w' hS hV K hK => ?_) ?_
 · obtain ⟨q0, q1⟩ := hS.1.two; go_simp; exact zO hK
 refine zS (fun w' hS hV K hK => ?_) ?_
 · obtain ⟨q0, q1⟩ := hS.1.two; go_simp; exact zO hK
 refine zS (fun w' hS hV K hK => ?_) ?_
 · obtain ⟨q0, q1⟩ := hS.1.two; go_simp; exact zO hK
 refine zS (fun w' hS hV K hK => ?_) ?_
 · have e1 := zQ hV 1; have e2 := zQ hV 2; obtain ⟨q0, q1⟩ := hS.1.two; go_simp; refine (involute_any P A n c X m cx xs w' (by omega) hp2 hm64 (hx.below hS.2) HXS.out).mono ?_; rintro e w1 ⟨A2, c2, rfl, hM⟩; exact hK.out _ _ _ rfl rfl ⟨_, _, rfl, hM.after hS.2⟩ hM.b
 refine zS (fun w' hS hV K hK => ?_) ?_
 · have e0 := zQ hV 0; obtain ⟨A3, c3, e3, h3⟩ := hV 3 (by decide); obtain ⟨q0, q1⟩ := hS.1.two; go_simp; refine (reverse_any P A n c A3 m c3 _ w' (by omega) hp2 hm64 h3.rd HIS.out).mono ?_; rintro e w1 ⟨A9, c9, rfl, hM⟩; exact hK.out _ _ _ rfl rfl ⟨_, _, rfl, hM.after hS.2⟩ hM.b
 refine zS (fun w' hS hV K hK => ?_) ?_
 · obtain ⟨A3, c3, e3, h3⟩ := hV 3 (by decide); obtain ⟨A4, c4, e4, h4⟩ := hV 4 (by decide); obtain ⟨q0, q1⟩ := hS.1.two; go_simp; exact hK.out _ _ _ rfl rfl ⟨_, _, rfl, h4⟩ zG
 refine zS (fun w' hS hV K hK => ?_) ?_
 · obtain ⟨q0, q1⟩ := hS.1.two; go_simp; exact zO hK
 refine fun w' hS hV => ?_
 have e0 := zT hV 0
 have e1 := zT hV 1
 have e2 := zT hV 2
 obtain ⟨A3, c3, e3, h3⟩ := hV 3 (by decide)
 obtain ⟨A4, c4, e4, h4⟩ := hV 4 (by decide)
 obtain ⟨A5, c5, e5, h5⟩ := hV 5 (by decide)
 have e6 := zT hV 6
 simp only [e0, e1, e2, e3, e4, e5, e6]
 clear e0 e1 e2 e3 e4 e5 e6
 refine wpAny_done (by kernel_rfl) ?_ _
 go_wp2
 go_ret2
 exact ⟨_, _, rfl, h5⟩
theorem onePl_take {p : Int} {M : List (List Int)} {k : Nat} {j : Int} (h : k < M.length) : (onePl p M j).take (k + 1) = (onePl p M j).take k ++ [plusL p (unitRow M.length k) (M.getD k []) j] := by
 have hl : k < (onePl p M j).length := by rw [onePl_len]; exact h
 rw [List.take_succ_eq_append_getElem hl]
 congr 2
 rw [← getD_of_lt [] hl]
 unfold onePl
 rw [tab_getD h]
section
variable {w0 w w' : World} {A B : Option Addr} {n c m d : Nat} {xss yss : List (List Int)}
theorem MkII.blk_lt (h : MkII w0 w A n c xss) {g : Nat} (e : (Value.slice A n c).ownBlock = some g) : g < w.heap.size := by
 obtain ⟨rows, hm, _⟩ := h
 exact (World.ownsRow.lt hm.2 g e).2
end
set_option maxHeartbeats 3200000 in
set_option maxRecDepth 8000 in
theorem sum_any (p : Int) (U : Option Addr) (n cu : Nat) (A : Option Addr) (c : Nat) (M : List (List Int)) (kk : Int) (w : World) (hp : 2 ≤ p) (hp2 : p ≤ 13) (hn : n ≤ 65536) (hu : RdII w U n (unitM n)) (ha : RdII w A n M) (hT : Tab p n M) (hk1 : -1000 ≤ kk) (hk2 : kk ≤ 1000) :
    Calls Tryz.prog 77 #[.int .i64 p, .slice U n cu, .slice A n c, .int .i64 kk] w fun e w' => ∃ (A' : Option Addr) (c' : Nat), e = .returned (.slice A' n c') ∧ MkII w w' A' n c' (onePl p M kk) := by
 have HM := Lib.hid hT
 have HL := Lib.hid ha.len
 have HOL : Hid ((onePl p M kk).length = n) := Lib.hid ((onePl_len p M kk).trans ha.len)
 obtain ⟨w3, hw3⟩ : ∃ W, W = w.alloc (.cells #[] 24) := ⟨_, rfl⟩
 have hA0 : Below w.heap.size w w3 := by rw [hw3]; exact zG.alloc (Nat.le_refl _) _
 have hO3 : MkII w w3 (some ⟨w.heap.size, 0, none⟩) 0 0 [] := by rw [hw3]; exact MkII.empty zG
 have hE3 : Blk w3 w.heap.size 24 #[] := by rw [hw3]; exact Blk.new _ _ _
 have a3 := ha.below hA0
 have u3 := hu.below hA0
 have hgr0 : Grows w3 w3 w.heap.size (.slice (some ⟨w.heap.size, 0, none⟩) 0 0) := ⟨CK.refl _, Nat.le_refl _, fun gb h => .inl (by simpa [Value.ownBlock] using h.symm)⟩
 clear hT ha hu
 go_enter Tryz.func77, Tryz.ntmps77
 go_wp2
 rw [← hw3]
 obtain ⟨g3, hg3⟩ : ∃ g, g = w.heap.size := ⟨_, rfl⟩
 rw [← hg3] at hO3 hE3 hgr0 ⊢
 clear hw3 hg3
 go_loopw [9, 14] (fun out i wr => ∃ (k : Nat) (A' : Option Addr) (c' : Nat), k ≤ n ∧ i = .int .i64 k ∧ out = .slice A' k c' ∧ MkII w wr A' k c' ((onePl p M kk).take k) ∧ Grows w3 wr g3 (.slice A' k c')) (fun _ i _ => n - (intOf i).toNat)
 case atStart => exact ⟨0, _, _, by omega, rfl, rfl, by simpa using hO3, hgr0⟩
 case round =>
  obtain ⟨k, A', c', hk, rfl, rfl, hM, hgr⟩ := hrel
  clear hO3 hgr0
  by_cases hlt : k < n
  · obtain ⟨ga, oa, rfl, hxk, Ak, ck, hck, hrk, hcc⟩ := (a3.ck hgr.1).at_ hlt
    obtain ⟨gu, ou, rfl, hxu, Uk, cu2, hcu, hru, hcuc⟩ := (u3.ck hgr.1).at_ hlt
    have hlk : M[k].length = n := (HM.out M[k] (List.getElem_mem hxk)).1
    have hnk : NumsL p M[k] := (HM.out M[k] (List.getElem_mem hxk)).2
    have hlu : (unitM n)[k] = unitRow n k := unitM_get n k hxu
    rw [hlk] at hck hrk hcc
    rw [hlu, unitRow_len] at hcu hcuc
    have hru2 : Rd wr Uk n (ints (unitRow n k)) := by have h := hru; simp only [hlu, unitRow_len] at h; exact h
    have HGD : Hid (M.getD k [] = M[k]) := Lib.hid (getD_of_lt [] hxk)
    obtain ⟨X, hX⟩ : ∃ X, X = M[k] := ⟨_, rfl⟩
    rw [← hX] at hrk hlk hnk HGD
    have HXL : Hid (k < M.length) := Lib.hid hxk
    clear hX hxk hru hlu hxu hcc hcuc
    have HPL := Lib.hid fun (w' : World) (h : Below wr.heap.size wr w') => plus_any p Uk n cu2 Ak n ck kk (unitRow n k) X w' hp hp2 hn (Nat.le_refl _) (hru2.below h) (unitRow_nums hp n k) (hrk.below h) hnk hk1 hk2
    obtain ⟨Y, hY⟩ : ∃ Y, Y = plusL p (unitRow n k) X kk := ⟨_, rfl⟩
    have HAP : Hid ((onePl p M kk).take (k + 1) = (onePl p M kk).take k ++ [Y]) := Lib.hid (by rw [onePl_take HXL.out, HL.out, HGD.out, hY])
    rw [← hY] at HPL
    have HMM := Lib.hid hM
    have HGR := Lib.hid hgr
    clear hrk hru2 hlk hY hM hgr hnk
    go_wp2
    refine wp_obs 13 [[],[],[],[],[2,3],[2,3,4],[],[],[6,7],[6,7,8],[],[1,2,3,4,5,6,7,8,9,10],[1,2,3,4,5,6,7,8,9,10,11],[0,1,2,3,4,5,6,7,8,9,10,11,12],[0,1,2,3,4,5,6,7,8,9,10,11,12,13]] [VIs (.slice A' k c'), VIs (.int .i64 (p)), VIs (.slice (some ⟨gu, ou, none⟩) n cu), VIs (.int .i64 (k)), VIs (.pointer (some ⟨gu, ou + k, none⟩)), VIs (.slice Uk n cu2), VIs (.slice (some ⟨ga, oa, none⟩) n c), VIs (.int .i64 (k)), VIs (.pointer (some ⟨ga, oa + k, none⟩)), VIs (.slice Ak n ck), VIs (.int .i64 (kk)), VSl wr n Y, VNew wr n Y] (fun w' => w'.cell? ⟨gu, ou + k, none⟩ = some (.slice Uk n cu2) ∧ w'.cell? ⟨ga, oa + k, none⟩ = some (.slice Ak n ck) ∧ Below wr.heap.size wr w') (by kernel_rfl) (by kernel_rfl) (fun _ _ h hb => ⟨(hb.cell (World.block_lt_of_cell? _ _ h.1)).trans h.1, (hb.cell (World.block_lt_of_cell? _ _ h.2.1)).trans h.2.1, h.2.2.trans (hb.mono h.2.2.size)⟩) (⟨hcu, hck, zG.drew⟩) (fun x => ?_)
    refine zS (fun w' hS hV K hK => ?_) ?_
    · have q0 := hS.1; have q1 := hS.2.1; go_simp; exact zO hK
    refine zS (fun w' hS hV K hK => ?_) ?_
    · have q0 := hS.1; have q1 := hS.2.1; go_simp; exact zO hK
    refine zS (fun w' hS hV K hK => ?_) ?_
    · have q0 := hS.1; have q1 := hS.2.1; go_simp; exact zO hK
    refine zS (fun w' hS hV K hK => ?_) ?_
    · have q0 := hS.1; have q1 := hS.2.1; go_simp; exact zO hK
    refine zS (fun w' hS hV K hK => ?_) ?_
    · have e2 := zQ hV 2; have e3 := zQ hV 3; have q0 := hS.1; have q1 := hS.2.1; go_simp; exact zO hK
    refine zS (fun w' hS hV K hK => ?_) ?_
    · have e4 := zQ hV 4; have q0 := hS.1; have q1 := hS.2.1; go_simp; exact zO hK
    refine zS (fun w' hS hV K hK => ?_) ?_
    · have q0 := hS.1; have q1 := hS.2.1; go_simp; exact zO hK
    refine zS (fun w' hS hV K hK => ?_) ?_
    · have q0 := hS.1; have q1 := hS.2.1; go_simp; exact zO hK
    refine zS (fun w' hS hV K hK => ?_) ?_
    · have e6 := zQ hV 6; have e7 := zQ hV 7; have q0 := hS.1; have q1 := hS.2.1; go_simp; exact zO hK
    refine zS (fun w' hS hV K hK => ?_) ?_
    · have e8 := zQ hV 8; have q0 := hS.1; have q1 := hS.2.1; go_simp; exact zO hK
    refine zS (fun w' hS hV K hK => ?_) ?_
    · have q0 := hS.1; have q1 := hS.2.1; go_simp; exact zO hK
    refine zS (fun w' hS hV K hK => ?_) ?_
    · have e1 := zQ hV 1; have e5 := zQ hV 5; have e9 := zQ hV 9; have e10 := zQ hV 10; have q0 := hS.1; have q1 := hS.2.1; go_simp; refine (HPL.out _ hS.2.2).mono ?_; rintro e v1 ⟨A9, c9, rfl, hM⟩; exact hK.out _ _ _ rfl rfl ⟨_, _, rfl, hM.after hS.2.2⟩ hM.b
    refine zS (fun w' hS hV K hK => ?_) ?_
    · obtain ⟨A11, c11, e11, h11⟩ := hV 11 (by decide); have q0 := hS.1; have q1 := hS.2.1; go_simp; exact hK.out _ _ _ rfl rfl ⟨_, _, _, rfl, Blk.new _ _ _, h11.below (zG.alloc (Nat.le_refl _) _)⟩ (zG.alloc (Nat.le_refl _) _)
    refine fun w' hS hV => ?_
    have e0 := zT hV 0
    have e1 := zT hV 1
    have e2 := zT hV 2
    have e3 := zT hV 3
    have e4 := zT hV 4
    have e5 := zT hV 5
    have e6 := zT hV 6
    have e7 := zT hV 7
    have e8 := zT hV 8
    have e9 := zT hV 9
    have e10 := zT hV 10
    obtain ⟨A11, c11, e11, h11⟩ := hV 11 (by decide)
    obtain ⟨g12, A12, c12, e12, b12, h12⟩ := hV 12 (by decide)
    simp only [e0, e1, e2, e3, e4, e5, e6, e7, e8, e9, e10, e11, e12]
    clear e0 e1 e2 e3 e4 e5 e6 e7 e8 e9 e10 e11 e12
    obtain ⟨-, -, s2⟩ := hS
    refine any_plain (j := 13) (by kernel_rfl) (Eq.trans (by simp only [zA, zB, zC]; exact rfl) rfl) rfl (fun K hK => ?_)
    refine wp_appRow w wr w' _ _ rfl A' k c' _ A12 n c12 _ HMM.out h12 (by omega) g12 b12 (by rfl) (by rfl) ?_
    intro A20 c20 w20 hM20 hg20 hat20
    refine hK.out _ _ ?_
    simp only [Act.put, zD, zE, zF]
    refine any_one (j := 14) (by kernel_rfl) (Eq.trans (by simp only [zA, zB, zC]; exact rfl) rfl) (fun K hK => ?_)
    go_simp
    refine hK.out _ _ (wpAny_done (by kernel_rfl) ?_ _)
    have hgr7 := HGR.out.step (n' := k + 1) (c' := c20) hE3 s2 hg20 hat20
    clear hg20 hat20 s2
    go_wp2
    go_roundw
    case rel => exact ⟨k + 1, A20, c20, by omega, by go_num, rfl, by rw [HAP.out]; exact hM20, hgr7⟩
    case measure => simp [intOf]; omega
  · obtain rfl : k = n := by omega
    rw [List.take_of_length_le (by rw [HOL.out]; omega)] at hM
    go_wp2
    go_ret
    exact ⟨_, _, rfl, hM⟩
set_option maxHeartbeats 3200000 in
set_option maxRecDepth 8000 in
theorem cayley_any (P : Int) (A : Option Addr) (n c : Nat) (sq : List Int) (D : Option Addr) (d : Nat) (M : List (List Int)) (w : World) (HP : isP P = true) (hn0 : 0 < n) (hn : n ≤ 6) (hd : RdII w D n M) (hT : Tab P n M) :
    Calls Tryz.prog 129 #[.agg #[.int .i64 P, .slice A n c], .slice D n d] w fun e w' => ∃ (A' : Option Addr) (k c' : Nat), e = .returned (.tuple #[.slice A' k c', .bool (decide (detL P (onePl P M 1) ≠ 0))]) ∧ MkII w w' A' k c' (if detL P (onePl P M 1) ≠ 0 then cayL P M else []) := by
 have hB0 : Below w.heap.size w (w.alloc (.cells #[.int .i64 P, .slice A n c] 26)) := zG.alloc (Nat.le_refl _) _
 have k0 : Blk (w.alloc (.cells #[.int .i64 P, .slice A n c] 26)) w.heap.size 26 #[.int .i64 P, .slice A n c] := Blk.new _ _ _
 obtain ⟨hp3, hp2⟩ := isP_ge HP
 obtain ⟨Q, hQ⟩ : ∃ b, b = decide (detL P (onePl P M 1) ≠ 0) := ⟨_, rfl⟩
 obtain ⟨RR, hRR⟩ : ∃ R, R = if detL P (onePl P M 1) ≠ 0 then cayL P M else [] := ⟨_, rfl⟩
 rw [← hQ, ← hRR]
 have HQ := Lib.hid hQ
 have HRR := Lib.hid hRR
 have hl := hd.len
 have HT1 := Lib.hid (onePl_tab (show 0 < P by omega) hT hl 1)
 have HT2 := Lib.hid (onePl_tab (show 0 < P by omega) hT hl (-1))
 have HIT := Lib.hid (inv_tab HP HT1.out ((onePl_len P M 1).trans hl))
 have HS := Lib.hid fun (w' : World) (U : Option Addr) (cu : Nat) (k : Int) (h : Below w.heap.size w w') (hu : RdII w' U n (unitM n)) (h1 : -1000 ≤ k) (h2 : k ≤ 1000) => sum_any P U n cu D d M k w' (by omega) hp2 (by omega) hu (hd.below h) hT h1 h2
 have HI := Lib.hid fun (w' : World) (B : Option Addr) (b : Nat) (hb : RdII w' B n (onePl P M 1)) => inverse_any P B n b (onePl P M 1) w' HP hn0 (by omega) hb HT1.out
 have HX := Lib.hid fun (w' : World) (B : Option Addr) (b : Nat) (E : Option Addr) (f : Nat) (hb : RdII w' B n (invL P (onePl P M 1))) (he : RdII w' E n (onePl P M (-1))) => timesM_any P B n b (invL P (onePl P M 1)) E f (onePl P M (-1)) w' (by omega) hp2 hn0 (by omega) hb HIT.out he HT2.out
 have HILN := Lib.hid (inv_len HP HT1.out ((onePl_len P M 1).trans hl))
 obtain ⟨ZZ, hZZ⟩ : ∃ Z, Z = detL P (onePl P M 1) := ⟨_, rfl⟩
 rw [← hZZ] at hQ hRR HQ HRR
 have HII : Hid (∀ (w' : World) (B : Option Addr) (b : Nat), RdII w' B n (onePl P M 1) → Calls Tryz.prog 233 #[.int .i64 P, .slice B n b] w' fun e w'' => ∃ (A' : Option Addr) (k c' : Nat), e = .returned (.tuple #[.slice A' k c', .bool Q]) ∧ MkII w' w'' A' k c' (if ZZ ≠ 0 then invL P (onePl P M 1) else [])) := Lib.hid (by rw [hQ, hZZ]; exact HI.out)
 clear hd hT hl HP hQ hRR HI hZZ
 obtain ⟨q0, q1⟩ := k0.two
 go_enter Tryz.func129, Tryz.ntmps129
 go_wp2
 refine wp_obs 7 [[],[0],[0,1],[],[3],[0,1,2],[3,4]] [VIs (.agg #[.int .i64 P, .slice A n c]), VIs (.int .i64 (n)), VMat w n (unitM n), VIs (.agg #[.int .i64 P, .slice A n c]), VIs (.int .i64 (P)), VMat w n (unitM n), VIs (.int .i64 (P))] (fun w' => Blk w' w.heap.size 26 #[.int .i64 P, .slice A n c] ∧ Below w.heap.size w w') (by kernel_rfl) (by kernel_rfl) (fun _ _ h hb => ⟨h.1.below hb h.1.lt, h.2.trans (hb.mono h.2.size)⟩) (⟨k0.drew, hB0.drew⟩) (fun x => ?_)
 refine zS (fun w' hS hV K hK => ?_) ?_
 · obtain ⟨q0, q1⟩ := hS.1.two; go_simp; exact zO hK
 refine zS (fun w' hS hV K hK => ?_) ?_
 · have e0 := zQ hV 0; obtain ⟨q0, q1⟩ := hS.1.two; go_simp; refine (dim_any _ _ _ _ _).mono ?_; rintro e v1 ⟨rfl, hb⟩; exact hK.out _ _ _ rfl rfl rfl hb
 refine zS (fun w' hS hV K hK => ?_) ?_
 · have e1 := zQ hV 1; obtain ⟨q0, q1⟩ := hS.1.two; go_simp; refine (unit_any n _ (by omega)).mono ?_; rintro e v1 ⟨A9, c9, rfl, hM⟩; exact hK.out _ _ _ rfl rfl ⟨_, _, rfl, hM.after hS.2⟩ hM.b
 refine zS (fun w' hS hV K hK => ?_) ?_
 · obtain ⟨q0, q1⟩ := hS.1.two; go_simp; exact zO hK
 refine zS (fun w' hS hV K hK => ?_) ?_
 · have e3 := zQ hV 3; obtain ⟨q0, q1⟩ := hS.1.two; go_simp; refine (field_any _ _ _ _ _).mono ?_; rintro e v1 ⟨rfl, hb⟩; exact hK.out _ _ _ rfl rfl rfl hb
 refine zS (fun w' hS hV K hK => ?_) ?_
 · obtain ⟨A2, c2, e2, h2⟩ := hV 2 (by decide); obtain ⟨q0, q1⟩ := hS.1.two; go_simp; exact hK.out _ _ _ rfl rfl ⟨_, _, rfl, h2⟩ zG
 refine zS (fun w' hS hV K hK => ?_) ?_
 · have e4 := zQ hV 4; obtain ⟨q0, q1⟩ := hS.1.two; go_simp; exact zO hK
 refine fun w' hS hV => ?_
 have e0 := zT hV 0
 have e1 := zT hV 1
 obtain ⟨A2, c2, e2, h2⟩ := hV 2 (by decide)
 have e3 := zT hV 3
 have e4 := zT hV 4
 obtain ⟨A5, c5, e5, h5⟩ := hV 5 (by decide)
 have e6 := zT hV 6
 simp only [e0, e1, e2, e3, e4, e5, e6]
 clear e0 e1 e2 e3 e4 e5 e6
 refine wpAny_done (by kernel_rfl) ?_ _
 have k2 := hS.1
 have hB2 := hS.2
 have u2 := h5.rd
 clear hS q0 q1 k0 hB0 h2 h5
 go_wp2_with fail
 refine (HS.out _ _ _ 1 hB2 u2 (by omega) (by omega)).mono ?_
 rintro e w3 ⟨A3, c3, rfl, hM3⟩
 have hB3 := hB2.trans (hM3.b.mono hB2.size)
 have u3 := u2.below hM3.b
 have r3 := hM3.rd
 clear hM3 u2
 go_wp2_with fail
 refine (HII.out _ _ _ r3).mono ?_
 rintro e w4 ⟨A4, k4, c4, rfl, hM4⟩
 have hB4 := hB3.trans (hM4.b.mono hB3.size)
 have u4 := u3.below hM4.b
 clear u3 r3
 by_cases hz : ZZ ≠ 0
 · obtain rfl : Q = true := by rw [HQ.out, decide_eq_true hz]
   rw [if_pos hz] at hM4
   obtain rfl : RR = cayL P M := by rw [HRR.out, if_pos hz]
   have r4 := hM4.rd
   obtain rfl : n = k4 := by rw [← r4.len]; exact HILN.out.symm
   clear hM4 hz
   go_wp2_with fail
   refine (HS.out _ _ _ (-1) hB4 u4 (by omega) (by omega)).mono ?_
   rintro e w5 ⟨A5, c5, rfl, hM5⟩
   have hB5 := hB4.trans (hM5.b.mono hB4.size)
   have r5 := r4.below hM5.b
   have s5 := hM5.rd
   clear hM5 r4 u4
   go_wp2_with fail
   refine (HX.out _ _ _ _ _ r5 s5).mono ?_
   rintro e w6 ⟨A6, c6, rfl, hM6⟩
   go_wp2
   go_ret2
   exact ⟨_, _, _, rfl, hM6.after hB5⟩
 · obtain rfl : Q = false := by rw [HQ.out, decide_eq_false hz]
   obtain rfl : RR = [] := by rw [HRR.out, if_neg hz]
   clear hz hM4 u4
   go_wp2
   go_ret2
   exact ⟨_, _, _, rfl, MkII.nil hB4⟩
/-- A matrix of the world ahead, or one made since then that lies apart from the list that grows. -/
def KM (w0 w : World) (L : Value) (A : Option Addr) (n c : Nat) (M : List (List Int)) : Prop := RdII w0 A n M ∨ (MkII w0 w A n c M ∧ ∀ g, L.ownBlock = some g → (Value.slice A n c).ownBlock ≠ some g)
section
variable {w0 w w' : World} {L : Value} {A B : Option Addr} {n c m d : Nat} {M : List (List Int)}
theorem KM.rd (h : KM w0 w L A n c M) (hb : Below w0.heap.size w0 w) : RdII w A n M := by
 rcases h with h | ⟨h, -⟩
 · exact h.below hb
 · exact h.rd
theorem KM.below (h : KM w0 w L A n c M) (hb : Below w.heap.size w w') : KM w0 w' L A n c M := by
 rcases h with h | ⟨h, hn⟩
 · exact .inl h
 · exact .inr ⟨h.below hb, hn⟩
theorem MkO.own_lt {xss : List (List Int)} (h : MkO w0 w B m d xss) {g : Nat} (e : (Value.slice B m d).ownBlock = some g) : w0.heap.size ≤ g ∧ g < w.heap.size := by
 obtain ⟨rows, hm, _⟩ := h
 exact World.ownsRow.lt hm.2 g e
/-- A matrix made since then that lies apart from the list that grows. -/
def KU (w0 w : World) (L : Value) (A : Option Addr) (n c : Nat) (M : List (List Int)) : Prop := MkII w0 w A n c M ∧ ∀ g, L.ownBlock = some g → (Value.slice A n c).ownBlock ≠ some g
theorem KU.below (h : KU w0 w L A n c M) (hb : Below w.heap.size w w') : KU w0 w' L A n c M := ⟨h.1.below hb, h.2⟩
theorem KU.app {xss : List (List Int)} {B' : Option Addr} {m' d' s : Nat} (h : KU w0 w (.slice B m d) A n c M) (hL : MkO w0 w B m d xss) (hg : w.grownBy w' (Value.slice B m d).ownBlock) (hb : Below w0.heap.size w0 w') (hs : w.heap.size ≤ s) (hat : ∃ g, B' = some ⟨g, 0, none⟩ ∧ ((Value.slice B m d).ownBlock = some g ∨ s ≤ g)) : KU w0 w' (.slice B' m' d') A n c M := by
 obtain ⟨h, hn⟩ := h
 have hlt : ∀ g, (Value.slice A n c).ownBlock = some g → g < w.heap.size := fun g e => h.blk_lt e
 obtain ⟨rows, hm, hne⟩ := h
 obtain ⟨rl, hl, _⟩ := hL
 refine ⟨⟨rows, ⟨hb, hm.2.grown hg ?_⟩, hne.grown hl.2 (by decide) hg⟩, fun g e => ?_⟩
 · cases hA : (Value.slice A n c).ownBlock with
   | none => exact .inl rfl
   | some g => exact .inr fun e => hn g e.symm hA
 · obtain ⟨g', rfl, hor⟩ := hat
   have e' : g' = g := by simpa [Value.ownBlock] using e
   subst e'
   rcases hor with h1 | h1
   · exact hn _ h1
   · intro e2
     have := hlt _ e2
     omega
/-- The list grows. -/
theorem KM.app {xss : List (List Int)} {B' : Option Addr} {m' d' s : Nat} (h : KM w0 w (.slice B m d) A n c M) (hL : MkO w0 w B m d xss) (hg : w.grownBy w' (Value.slice B m d).ownBlock) (hb : Below w0.heap.size w0 w') (hs : w.heap.size ≤ s) (hat : ∃ g, B' = some ⟨g, 0, none⟩ ∧ ((Value.slice B m d).ownBlock = some g ∨ s ≤ g)) : KM w0 w' (.slice B' m' d') A n c M := by
 rcases h with h | h
 · exact .inl h
 · exact .inr (KU.app h hL hg hb hs hat)
/-- A list of numbers that lies there stays. -/
theorem MkO.keepO {xss : List (List Int)} {B' : Nat} {A1 : Option Addr} {n1 c1 : Nat} {us : List Value} (hL : MkO w0 w B m d xss) (h : Own w B' 2 A1 n1 c1 us) (hg : w.grownBy w' (Value.slice B m d).ownBlock) : Own w' B' 2 A1 n1 c1 us := by
 obtain ⟨rows, hm, _⟩ := hL
 exact h.grown hg (h.ne hm.2 (by decide))
/-- A new matrix. -/
theorem KM.new {xss : List (List Int)} {w1 : World} (h : MkII w1 w A n c M) (hL : MkO w0 w1 B m d xss) (hb : Below w0.heap.size w0 w1) : KM w0 w (.slice B m d) A n c M := by
 right
 refine ⟨h.after hb, fun g e e2 => ?_⟩
 have h1 := (hL.own_lt e).2
 obtain ⟨rows, hm, _⟩ := h
 have h2 := (World.ownsRow.lt hm.2 g e2).1
 omega
end
/-- Two values appended at once. -/
theorem wpList_app2 {P : Program} {ops : Array Oper} {rest : List Oper} {o : Oper} {a : Act} {Q : Exit → Act → World → Prop} (w0 wr : World) (T E : TypeId) (z : Value) (bytes : Nat)
    (ht : P.underlying T = some (.slice E)) (hinfo : (P.info? E).map (fun i => (i.zero, i.size, i.bytes)) = some (some z, 1, bytes)) (hz : z.cells.size = 1) (hby : bytes ≤ 24)
    (hgd : o.guard = none) (s x : Operand) (ho : o.op = .call { callee := .builtin .append, args := #[s, x], argTypes := #[T, T] })
    (A : Option Addr) (n c : Nat) (us : List Value) (u v : Value) (hM : Mk w0 wr E A n c us) (hn : n ≤ 1099511627700) (hu : u.oneCell' = true) (hv : v.oneCell' = true)
    (hs : a.eval s = .slice A n c) (hx : a.eval x = .slice (some ⟨wr.heap.size, 0, none⟩) 2 2)
    (h : ∀ A' c' w', Mk w0 w' E A' (n + 2) c' (us ++ [u, v]) → wr.grownBy w' (Value.slice A n c).ownBlock → (∃ g, A' = some ⟨g, 0, none⟩ ∧ ((Value.slice A n c).ownBlock = some g ∨ wr.heap.size ≤ g)) →
     wpList P ops Q rest (a.put o.dst (.slice A' (n + 2) c')) w') :
    wpList P ops Q (o :: rest) a (wr.alloc (.cells #[u, v] E)) := by
 obtain ⟨i, hi, h1, h2, h3⟩ := info_parts hinfo
 obtain ⟨b1, b2⟩ := bound_of (show n + 2 ≤ 1099511627776 by omega)
 have hk : Blk (wr.alloc (.cells #[u, v] E)) wr.heap.size E #[u, v] := Blk.new _ _ _
 refine wpList_append_own_at (wr.alloc (.cells #[u, v] E)) hgd s x T ho w0.heap.size E i z 1 bytes ht hi h1 h2 h3 hz (by omega) (.slice A n c) n us hs (hM.alloc _).2 ⟨wr.heap.size, 0, none⟩ 2 2 [u, v] hx rfl
  (fun j y hy => by
   have hj : j < 2 := by
    rcases Nat.lt_or_ge j 2 with h | h
    · exact h
    · rw [List.getElem?_eq_none (by simpa using h)] at hy; simp at hy
   have := hk.cell j
   rw [Addr.add_lit, Nat.zero_add, this]
   simpa using hy)
  (by intro y hy; simp at hy; rcases hy with rfl | rfl <;> assumption) (by simp only [maxLen]; omega) (Nat.le_trans (Nat.mul_le_mul_right _ (by omega)) (b2 bytes hby)) (by have := hM.1.size; simp; omega) ?_
 intro v' w' hown hg _ hat
 have hg' : wr.grownBy w' (Value.slice A n c).ownBlock := World.grownBy.trans (World.grownBy_alloc wr _ _) hg
 rcases hown.2 with ⟨_, h0⟩ | ⟨g, cap, cur, rfl, hr⟩
 · omega
 · refine h _ _ _ ⟨hM.1.grown hg' hM.1.size (fun k hk => (hM.2.lt k hk).1), hown⟩ hg' ⟨g, rfl, ?_⟩
   rcases hat with he | he
   · exact .inl he.symm
   · right
     have : g = (wr.alloc (.cells #[u, v] E)).heap.size := by simpa [Value.ownBlock] using he
     simp at this; omega
/-- Two rows that lie there are appended. -/
theorem wpList_appTwoO {ops : Array Oper} {rest : List Oper} {o : Oper} {a : Act} {Q : Exit → Act → World → Prop} (w0 w1 : World)
    (hgd : o.guard = none) (s x : Operand) (ho : o.op = .call { callee := .builtin .append, args := #[s, x], argTypes := #[27, 27] })
    (A : Option Addr) (n c : Nat) (xss : List (List Int)) (A1 : Option Addr) (m c1 : Nat) (xs : List Int) (A2 : Option Addr) (l c2 : Nat) (ys : List Int) (hM : MkO w0 w1 A n c xss) (hr : Own w1 0 2 A1 m c1 (ints xs)) (hr2 : Own w1 0 2 A2 l c2 (ints ys)) (hn : n ≤ 1099511627700)
    (hs : a.eval s = .slice A n c) (hx : a.eval x = .slice (some ⟨w1.heap.size, 0, none⟩) 2 2)
    (h : ∀ A' c' w', MkO w0 w' A' (n + 2) c' (xss ++ [xs, ys]) → w1.grownBy w' (Value.slice A n c).ownBlock → (∃ g, A' = some ⟨g, 0, none⟩ ∧ ((Value.slice A n c).ownBlock = some g ∨ w1.heap.size ≤ g)) → wpList Tryz.prog ops Q rest (a.put o.dst (.slice A' (n + 2) c')) w') :
    wpList Tryz.prog ops Q (o :: rest) a (w1.alloc (.cells #[.slice A1 m c1, .slice A2 l c2] 24)) := by
 obtain ⟨rows, hm, hl, hrow⟩ := hM
 have hml : xs.length = m := by have := hr.len; rwa [ints_length] at this
 have hll : ys.length = l := by have := hr2.len; rwa [ints_length] at this
 subst hml
 subst hll
 refine wpList_app2 w0 w1 27 24 (.slice none 0 0) 24 Tryz.underlying27 info_s rfl (by omega) hgd s x ho A n c rows (.slice A1 xs.length c1) (.slice A2 ys.length c2) hm hn rfl rfl hs hx ?_
 intro A' c' w' hM' hg hat
 refine h A' c' w' ⟨_, hM', by simp [hl], fun k hk => ?_⟩ hg hat
 by_cases hlt : k < xss.length
 · obtain ⟨A3, c3, e, ho3⟩ := hrow k hlt
   simp only [List.getElem_append_left hlt]
   exact ⟨A3, c3, by rw [List.getElem?_append_left (by omega)]; exact e, ho3.grown hg (ho3.ne hm.2 (by decide))⟩
 · have hk2 : k = xss.length ∨ k = xss.length + 1 := by simp at hk; omega
   rcases hk2 with rfl | rfl
   · simp only [List.getElem_append_right (Nat.le_refl _), Nat.sub_self, List.getElem_cons_zero]
     exact ⟨A1, c1, by rw [List.getElem?_append_right (by omega), hl, Nat.sub_self]; rfl, hr.grown hg (hr.ne hm.2 (by decide))⟩
   · have e9 : xss.length + 1 - xss.length = 1 := by omega
     simp only [List.getElem_append_right (show xss.length ≤ xss.length + 1 by omega), e9, List.getElem_cons_succ, List.getElem_cons_zero]
     exact ⟨A2, c2, by rw [List.getElem?_append_right (by omega), hl, e9]; rfl, hr2.grown hg (hr2.ne hm.2 (by decide))⟩
theorem zeroL_at (xs : List Int) : zeroL xs = true ↔ ∀ i, i < xs.length → xs.getD i 0 = 0 := by
 rw [zeroL_iff]
 refine ⟨fun h i hi => h _ (getD_mem 0 hi), fun h y hy => ?_⟩
 obtain ⟨i, hi, rfl⟩ := List.getElem_of_mem hy
 rw [← getD_of_lt 0 hi]; exact h i hi
theorem dec_zero {p : Int} {W E : List Int} (hw : W.length = E.length) (hW : NumsL p W) (hE : NumsL p E) (hp : 0 < p) : zeroL (plusL p W E (-1)) = decide (W = E) := by
 by_cases h : W = E
 · subst h
   rw [decide_eq_true rfl]
   refine (zeroL_at _).2 fun i hi => ?_
   rw [plusL_len] at hi
   rw [plusL_getD _ _ hi, show W.getD i 0 + -1 * W.getD i 0 = 0 by omega, Int.zero_emod]
 · rw [decide_eq_false h]
   cases hz : zeroL (plusL p W E (-1))
   · rfl
   · refine absurd (list_ext_getD 0 hw fun i hi => ?_) h
     have h1 := (zeroL_at _).1 hz i (by rw [plusL_len]; exact hi)
     rw [plusL_getD _ _ hi] at h1
     refine cg_eq (hW.getD hp i) (hE.getD hp i) ?_
     obtain ⟨t, ht⟩ := cg_wit.1 (h1.trans (Int.zero_emod p).symm)
     exact cg_wit.2 ⟨t, by omega⟩
set_option maxHeartbeats 12800000 in
set_option maxRecDepth 8000 in
theorem decomposition_any (P : Int) (A : Option Addr) (n c : Nat) (sq : List Int) (D : Option Addr) (d : Nat) (M : List (List Int)) (w : World) (hsp : isSp P sq = true) (hreg : regB sq = true) (ha : Rd w A n (ints sq)) (hd : RdII w D n M) (hiso : isoB P sq M = true) :
    Calls Tryz.prog 95 #[.agg #[.int .i64 P, .slice A n c], .slice D n d] w fun e w' => ∃ (A' : Option Addr) (c' : Nat), e = .returned (.slice A' (decL P sq M).length c') ∧ MkO w w' A' (decL P sq M).length c' (decL P sq M) := by
 have hsl := ha.lenI
 obtain ⟨HP, hd1, hd2, hnum⟩ := isSp_dim hsp
 obtain ⟨hp3, hp2⟩ := isP_ge HP
 have hs := nums_numsL hnum
 obtain ⟨hl, hT⟩ := isoB_frame hiso
 have HDEC := Lib.hid (isoB_dec HP (show 2 ≤ P by omega) hd1 hs hreg hT hl hiso)
 obtain ⟨t, ht⟩ : ∃ t : Nat → List (List Int) × List (List Int), t = decTo P sq sq.length M := ⟨_, rfl⟩
 have HSTEP : Hid (∀ k, t (k + 1) = decS P sq n (t k) k) := Lib.hid fun k => by rw [ht, ← hsl]; rfl
 have HT0 : Hid (t 0 = ([], M)) := Lib.hid (by rw [ht]; rfl)
 have HTN : Hid ((t n).1 = decL P sq M) := Lib.hid (by rw [ht, ← hsl]; rfl)
 have HALL : Hid (∀ k, k ≤ n → (t k).1.length ≤ 2 * k ∧ (∀ v ∈ (t k).1, v.length = n ∧ NumsL P v ∧ ¬ pairL P sq v v = 0) ∧ Tab P n (t k).2 ∧ (t k).2.length = n) := Lib.hid fun k hk => by
  obtain ⟨h1, h2, x, hx, -⟩ := HDEC.out k (by omega)
  rw [ht]
  refine ⟨h1, fun v hv => ?_, ?_, ?_⟩
  · obtain ⟨g1, g2, g3⟩ := h2 v hv
    exact ⟨by omega, g2, fun e => g3 ((bil_same HP g1).1 e)⟩
  · rw [hx, ← hsl]; exact x.tab
  · rw [hx, x.len, hsl]
 rw [hsl] at hd1 hd2
 have HQ := Lib.hid hs
 have HPP := Lib.hid HP
 have HA := Lib.hid ha
 have HD := Lib.hid hd
 clear HDEC hsp hreg hiso hl hT hs hnum HP ha hd
 have k0 : Blk (w.alloc (.cells #[.int .i64 P, .slice A n c] 26)) w.heap.size 26 #[.int .i64 P, .slice A n c] := Blk.new _ _ _
 have k1 := k0.alloc (.cells #[] 24)
 have hO1 : MkO w ((w.alloc (.cells #[.int .i64 P, .slice A n c] 26)).alloc (.cells #[] 24)) (some ⟨w.heap.size + 1, 0, none⟩) 0 0 [] := by
  have := (MkII.empty (w0 := w) (w := (w.alloc (.cells #[.int .i64 P, .slice A n c] 26))) (zG.alloc (Nat.le_refl _) _)).o
  simpa using this
 clear k0
 obtain ⟨q0, q1⟩ := k1.two
 go_enter Tryz.func95, Tryz.ntmps95
 go_wp2_with fail
 obtain ⟨w1, hw1⟩ : ∃ W, W = (w.alloc (.cells #[.int .i64 P, .slice A n c] 26)).alloc (.cells #[] 24) := ⟨_, rfl⟩
 rw [← hw1] at hO1 k1 q0 q1 ⊢
 clear hw1
 refine (dim_any P A n c w1).mono ?_
 rintro e w2 ⟨rfl, hb2⟩
 have hO2 := hO1.below hb2
 have k2 := k1.below hb2 k1.lt
 go_wp2_with fail
 refine (unit_any n w2 (by omega)).mono ?_
 rintro e w3 ⟨U, cu, rfl, hU⟩
 have hO3 := hO2.below hU.b
 have k3 := k2.below hU.b k2.lt
 have hLU : ∀ g, (Value.slice (some ⟨w.heap.size + 1, 0, none⟩) 0 0).ownBlock = some g → (Value.slice U n cu).ownBlock ≠ some g := fun g e e2 => by
  have h1 := (hO2.own_lt e).2
  obtain ⟨rows, hm, _⟩ := hU
  have h2 := (World.ownsRow.lt hm.2 g e2).1
  omega
 have hU3 : KU w w3 (.slice (some ⟨w.heap.size + 1, 0, none⟩) 0 0) U n cu (unitM n) := ⟨hU.after hO2.b, hLU⟩
 clear hO1 hO2 k1 k2 hb2 q0 q1 hU hLU
 go_wp2
 go_loopw [1, 5, 16] (fun mv lv iv wr => ∃ (k : Nat) (Am : Option Addr) (cm : Nat) (Al : Option Addr) (cl : Nat), k ≤ n ∧ iv = .int .i64 k ∧ mv = .slice Am n cm ∧ lv = .slice Al (t k).1.length cl ∧ MkO w wr Al (t k).1.length cl (t k).1 ∧ KM w wr (.slice Al (t k).1.length cl) Am n cm (t k).2 ∧ Blk wr w.heap.size 26 #[.int .i64 P, .slice A n c] ∧ KU w wr (.slice Al (t k).1.length cl) U n cu (unitM n)) (fun _ _ iv _ => n - (intOf iv).toNat)
 case atStart => exact ⟨0, D, d, _, _, by omega, rfl, rfl, by rw [HT0.out]; rfl, by rw [HT0.out]; exact hO3, by rw [HT0.out]; exact .inl HD.out, k3, by rw [HT0.out]; exact hU3⟩
 case round =>
  obtain ⟨k, Am, cm, Al, cl, hk, rfl, rfl, rfl, hO, hKM, k4, hKU⟩ := hrel
  clear hO3 k3 hU3
  obtain ⟨q0, q1⟩ := k4.two
  by_cases hlt : k < n
  · skip
    obtain ⟨hlen, hgood, hTM, hML⟩ := HALL.out k hk
    obtain ⟨L, hLe⟩ : ∃ L, L = (t k).1 := ⟨_, rfl⟩
    obtain ⟨MM, hMe⟩ : ∃ X, X = (t k).2 := ⟨_, rfl⟩
    have HS1 := Lib.hid (HSTEP.out k)
    have HN1 := Lib.hid (HALL.out (k + 1) (by omega))
    rw [← hLe] at hlen hgood hO hKM hKU ⊢
    rw [← hMe] at hTM hML hKM
    have HTK : Hid (t k = (L, MM)) := Lib.hid (by rw [hLe, hMe])
    have HLN := Lib.hid hlen
    clear hLe hMe hgood
    have hrm := hKM.rd hO.b
    have HTM := Lib.hid hTM
    have HML := Lib.hid hML
    obtain ⟨W, hW⟩ : ∃ W, W = decW n MM k := ⟨_, rfl⟩
    have hWok : W.length = n ∧ NumsL P W := by
     rw [hW]
     obtain ⟨x1, x2⟩ := trans_ok (show 0 < P by omega) hTM hML hd1
     exact x1.row (by omega)
    obtain ⟨E, hE⟩ : ∃ E, E = unitRow n k := ⟨_, rfl⟩
    have hEok : E.length = n ∧ NumsL P E := by rw [hE]; exact ⟨unitRow_len _ _, unitRow_nums (by omega) _ _⟩
    have HWK := Lib.hid hWok
    have HEK := Lib.hid hEok
    have HWE := Lib.hid hW
    have HEE := Lib.hid hE
    have HSTP : Hid (t (k + 1) = if W = E then (L, MM) else if pairL P sq (plusL P W E (-1)) (plusL P W E (-1)) = 0 then (L ++ [plusL P W E 1, E], timesM P (rmatL P sq n E) (timesM P (rmatL P sq n (plusL P W E 1)) MM)) else (L ++ [plusL P W E (-1)], timesM P (rmatL P sq n (plusL P W E (-1))) MM)) := Lib.hid (by
     rw [HS1.out, HTK.out]
     unfold decS
     rw [← hW, ← hE])
    clear hTM hWok hEok hW hE HS1
    obtain ⟨gu, rfl, hxu, Ae, ce, hcu, -, hru⟩ := hKU.1.at_ hlt
    have eE : (unitM n)[k] = E := by rw [HEE.out]; exact unitM_get n k hxu
    rw [eE, HEK.out.1] at hcu hru
    have hcu2 : wr.cell? ⟨gu, 0 + k, none⟩ = some (.slice Ae n ce) := by rw [Nat.zero_add]; exact hcu
    have HRE0 := Lib.hid (hru.base (B' := 0) (Nat.zero_le _))
    have hcall := transpose_any P Am n cm MM n wr hd1 (by omega) (by omega) hrm HTM.out
    have HO := Lib.hid hO
    have HKM := Lib.hid hKM
    have HKU := Lib.hid hKU
    clear hO hKM hrm hKU eE hxu hru
    go_wp2_with fail
    refine hcall.mono ?_
    rintro e w5 ⟨A5, c5, rfl, hM5⟩
    have hb5 := hM5.b
    obtain ⟨g5, o5, rfl, hx5, Aw, cw, hcw, hrw, -⟩ := hM5.rd.at_ hlt
    have eW : (transL MM)[k] = W := by rw [HWE.out]; unfold decW; rw [getD_of_lt [] hx5]
    rw [eW, HWK.out.1] at hcw
    rw [eW, HWK.out.1] at hrw
    have k5 := k4.below hb5 k4.lt
    have he5 := HRE0.out.below hb5
    clear hcall hM5 eW hx5 q0 q1
    obtain ⟨q0, q1⟩ := k5.two
    go_wp2_with fail
    refine (field_any P A n c w5).mono ?_
    rintro e w6 ⟨rfl, hb6⟩
    have hcall := plus_any P Aw n cw Ae n ce (-1) W E w6 (by omega) hp2 (by omega) (Nat.le_refl _) (hrw.below hb6) HWK.out.2 (he5.below hb6).rd HEK.out.2 (by omega) (by omega)
    have hb7 := hb5.trans (hb6.mono hb5.size)
    have hw7 := hrw.below hb6
    have k6 := k5.below hb6 k5.lt
    obtain ⟨dl, hdl⟩ : ∃ x, x = plusL P W E (-1) := ⟨_, rfl⟩
    have hdok : dl.length = n ∧ NumsL P dl := by rw [hdl]; exact ⟨(plusL_len _ _ _ _).trans HWK.out.1, plusL_nums (by omega) _ _ _⟩
    have HZE := Lib.hid (show zeroL dl = decide (W = E) by rw [hdl]; exact dec_zero (HWK.out.1.trans HEK.out.1.symm) HWK.out.2 HEK.out.2 (by omega))
    have HDK := Lib.hid hdok
    have HSD : Hid (t (k + 1) = if W = E then (L, MM) else if pairL P sq dl dl = 0 then (L ++ [plusL P W E 1, E], timesM P (rmatL P sq n E) (timesM P (rmatL P sq n (plusL P W E 1)) MM)) else (L ++ [dl], timesM P (rmatL P sq n dl) MM)) := Lib.hid (by rw [HSTP.out, hdl])
    rw [← hdl] at hcall
    clear HSTP hdl hdok hcw q0 q1 k5 hrw
    go_wp2_with fail
    refine hcall.mono ?_
    rintro e w8 ⟨Ad, cd, rfl, hM8⟩
    have hB8 := hb7.trans (hM8.b.mono hb7.size)
    have HD8 := Lib.hid (show Own w8 0 2 Ad n cd (ints dl) from hM8.2.base (Nat.zero_le _))
    have HW8 := Lib.hid (hw7.below hM8.b)
    have k8 := k6.below hM8.b k6.lt
    clear hcall hM8 hw7 he5 k6 hb5 hb6 hb7
    have hcall := isZero_any Ad n cd dl w8 (by omega) HD8.out.rd
    by_cases h1 : W = E
    · rw [HZE.out, decide_eq_true h1] at hcall
      have HTT : Hid (t (k + 1) = (L, MM)) := Lib.hid (by rw [HSD.out, if_pos h1])
      clear HSD HN1 h1
      go_wp2_with fail
      refine hcall.mono ?_
      rintro e w9 ⟨rfl, rfl⟩
      have hO8 := HO.out.below hB8
      have hK8 := HKM.out.below hB8
      have hU8 := HKU.out.below hB8
      go_wp2
      go_roundw
      case rel => exact ⟨k + 1, Am, cm, Al, cl, by omega, by go_num, rfl, by rw [HTT.out], by rw [HTT.out]; exact hO8, by rw [HTT.out]; exact hK8, k8, by rw [HTT.out]; exact hU8⟩
      case measure => simp [intOf]; omega
    · rw [HZE.out, decide_eq_false h1] at hcall
      have HS2 : Hid (t (k + 1) = if pairL P sq dl dl = 0 then (L ++ [plusL P W E 1, E], timesM P (rmatL P sq n E) (timesM P (rmatL P sq n (plusL P W E 1)) MM)) else (L ++ [dl], timesM P (rmatL P sq n dl) MM)) := Lib.hid (by rw [HSD.out, if_neg h1])
      clear HSD h1
      go_wp2_with fail
      refine hcall.mono ?_
      rintro e w9 ⟨rfl, rfl⟩
      clear hcall
      have hO7 := HO.out.below hB8
      have hKM7 := HKM.out.below hB8
      have hKU7 := HKU.out.below hB8
      have he8 := HRE0.out.below hB8
      obtain ⟨q0, q1⟩ := k8.two
      have hcall := norm_any P A n c sq Ad cd dl w8 (by omega) hp2 hd2 (HA.out.below hO7.b) HQ.out HD8.out.rd HDK.out.2
      obtain ⟨z, hz⟩ : ∃ z, z = pairL P sq dl dl := ⟨_, rfl⟩
      rw [← hz] at hcall HS2
      by_cases hz0 : z = 0
      · have e8 : (z != 0) = false := by simp [hz0]
        rw [if_pos hz0] at HS2
        clear hz hz0
        go_wp2_with fail
        refine hcall.mono ?_
        rintro e w9 ⟨rfl, hb9⟩
        have hw9 := HW8.out.below hb9
        have he9 := he8.below hb9
        have k9 := k8.below hb9 k8.lt
        clear hcall q0 q1 HD8 HDK
        obtain ⟨q0, q1⟩ := k9.two
        go_wp2_with fail
        refine (field_any P A n c w9).mono ?_
        rintro e w10 ⟨rfl, hb10⟩
        have hb11 := hb9.trans (hb10.mono hb9.size)
        obtain ⟨dl2, hdl⟩ : ∃ x, x = plusL P W E 1 := ⟨_, rfl⟩
        have hcall := plus_any P Aw n cw Ae n ce 1 W E w10 (by omega) hp2 (by omega) (Nat.le_refl _) (hw9.below hb10) HWK.out.2 (he9.below hb10).rd HEK.out.2 (by omega) (by omega)
        have hdok : dl2.length = n ∧ NumsL P dl2 := by rw [hdl]; exact ⟨(plusL_len _ _ _ _).trans HWK.out.1, plusL_nums (by omega) _ _ _⟩
        rw [← hdl] at HS2 hcall
        have HDK := Lib.hid hdok
        have hNN := HN1.out
        rw [HS2.out] at hNN
        have HNE := Lib.hid (show (¬ pairL P sq dl2 dl2 = 0) ∧ ¬ pairL P sq E E = 0 from ⟨(hNN.2.1 dl2 (by simp)).2.2, (hNN.2.1 E (by simp)).2.2⟩)
        clear hdl hdok hNN HN1
        go_wp2_with fail
        refine hcall.mono ?_
        rintro e w11 ⟨Ad, cd, rfl, hM11⟩
        have hb12 := hb11.trans (hM11.b.mono hb11.size)
        have HD10 := Lib.hid (show Own w11 0 2 Ad n cd (ints dl2) from hM11.2.base (Nat.zero_le _))
        have HO7 := Lib.hid (hO7.below hb12)
        have HKM7 := Lib.hid (hKM7.below hb12)
        have HKU7 := Lib.hid (hKU7.below hb12)
        have k10 := k8.below hb12 k8.lt
        have HE10 := Lib.hid (he8.below hb12)
        have HLB := Lib.hid (show L.length ≤ 1099511627700 by have := HLN.out; omega)
        clear hcall q0 q1 k8 k9 hM11 hO7 hKM7 hKU7 he8 he9 hw9 hb9 hb10 hb11 hb12 HW8
        obtain ⟨q0, q1⟩ := k10.two
        go_wp2_with (at_builtin; (refine wpList_appTwoO w w11 rfl _ _ rfl Al L.length cl L Ad n cd dl2 Ae n ce E HO7.out HD10.out HE10.out HLB.out rfl ?_ ?_; (go_simp); intro A20 c20 wq hO20 hg20 hat20))
        have hB7 := hO20.b
        have hKM20 := HKM7.out.app (m' := L.length + 2) (d' := c20) HO7.out hg20 hB7 (Nat.le_refl _) hat20
        have hKU20 := KU.app (m' := L.length + 2) (d' := c20) HKU7.out HO7.out hg20 hB7 (Nat.le_refl _) hat20
        have hd20 := HO7.out.keepO HD10.out hg20
        have he20 := HO7.out.keepO HE10.out hg20
        have k9 := k10.grown hg20 (HO7.out.ne_blk k10 (by decide))
        have HRM := Lib.hid (hKM20.rd hB7)
        have HRF := Lib.hid fun (w' : World) (h : Below wq.heap.size wq w') => reflection_any P A n c sq Ad cd dl2 w' HPP.out hd2 hd1 ((HA.out.below hB7).below h) HQ.out (hd20.below h).rd HDK.out.2 HNE.out.1
        have HRE := Lib.hid fun (w' : World) (h : Below wq.heap.size wq w') => reflection_any P A n c sq Ae ce E w' HPP.out hd2 hd1 ((HA.out.below hB7).below h) HQ.out (he20.below h).rd HEK.out.2 HNE.out.2
        have HTI := Lib.hid fun (w' : World) (B : Option Addr) (d' : Nat) (h : Below wq.heap.size wq w') (hb : RdII w' B n (rmatL P sq n dl2)) => timesM_any P B n d' (rmatL P sq n dl2) Am cm MM w' (by omega) hp2 hd1 (by omega) hb (rmatL_tab (by omega) sq n dl2) (HRM.out.below h) HTM.out
        have HT2 := Lib.hid fun (w' : World) (B : Option Addr) (d' : Nat) (C : Option Addr) (f : Nat) (hb : RdII w' B n (rmatL P sq n E)) (hc : RdII w' C n (timesM P (rmatL P sq n dl2) MM)) => timesM_any P B n d' (rmatL P sq n E) C f (timesM P (rmatL P sq n dl2) MM) w' (by omega) hp2 hd1 (by omega) hb (rmatL_tab (by omega) sq n E) hc (timesM_tab (by omega) hd1 HTM.out HML.out)
        have HTT := HS2
        have hO7 := hO20
        have HKU9 := Lib.hid hKU20
        clear HS2 hO20 hg20 hat20 hKM20 hKU20 hd20 he20 HO7 HKM7 HKU7 HD10 HE10 k10 q0 q1
        obtain ⟨q0, q1⟩ := k9.two
        go_wp2
        refine wp_obs 13 [[],[0],[],[],[2,3],[],[5],[],[],[7,8],[],[5,6,7,8,9,10],[0,1,2,3,4,5,6,7,8,9,10,11],[0,1,2,3,4,5,6,7,8,9,10,11,12]] [VIs (.agg #[.int .i64 P, .slice A n c]), VIs (.int .i64 (P)), VIs (.agg #[.int .i64 P, .slice A n c]), VIs (.slice Ae n ce), VMat wq n (rmatL P sq n E), VIs (.agg #[.int .i64 P, .slice A n c]), VIs (.int .i64 (P)), VIs (.agg #[.int .i64 P, .slice A n c]), VIs (.slice Ad n cd), VMat wq n (rmatL P sq n dl2), VIs (.slice Am n cm), VMat wq n (timesM P (rmatL P sq n dl2) MM), VMat wq n (timesM P (rmatL P sq n E) (timesM P (rmatL P sq n dl2) MM))] (fun w' => Blk w' w.heap.size 26 #[.int .i64 P, .slice A n c] ∧ Below wq.heap.size wq w') (by kernel_rfl) (by kernel_rfl) (fun _ _ h hb => ⟨h.1.below hb h.1.lt, h.2.trans (hb.mono h.2.size)⟩) (⟨k9.drew, zG.drew⟩) (fun x => ?_)
        refine zS (fun w' hS hV K hK => ?_) ?_
        · obtain ⟨q0, q1⟩ := hS.1.two; go_simp; exact zO hK
        refine zS (fun w' hS hV K hK => ?_) ?_
        · have e0 := zQ hV 0; obtain ⟨q0, q1⟩ := hS.1.two; go_simp; refine (field_any P A n c w').mono ?_; rintro e v1 ⟨rfl, hb⟩; exact hK.out _ _ _ rfl rfl rfl hb
        refine zS (fun w' hS hV K hK => ?_) ?_
        · obtain ⟨q0, q1⟩ := hS.1.two; go_simp; exact zO hK
        refine zS (fun w' hS hV K hK => ?_) ?_
        · obtain ⟨q0, q1⟩ := hS.1.two; go_simp; exact zO hK
        refine zS (fun w' hS hV K hK => ?_) ?_
        · have e2 := zQ hV 2; have e3 := zQ hV 3; obtain ⟨q0, q1⟩ := hS.1.two; go_simp; refine (HRE.out w' hS.2).mono ?_; rintro e v1 ⟨A9, c9, rfl, hM⟩; exact hK.out _ _ _ rfl rfl ⟨_, _, rfl, hM.after hS.2⟩ hM.b
        refine zS (fun w' hS hV K hK => ?_) ?_
        · obtain ⟨q0, q1⟩ := hS.1.two; go_simp; exact zO hK
        refine zS (fun w' hS hV K hK => ?_) ?_
        · have e5 := zQ hV 5; obtain ⟨q0, q1⟩ := hS.1.two; go_simp; refine (field_any P A n c w').mono ?_; rintro e v1 ⟨rfl, hb⟩; exact hK.out _ _ _ rfl rfl rfl hb
        refine zS (fun w' hS hV K hK => ?_) ?_
        · obtain ⟨q0, q1⟩ := hS.1.two; go_simp; exact zO hK
        refine zS (fun w' hS hV K hK => ?_) ?_
        · obtain ⟨q0, q1⟩ := hS.1.two; go_simp; exact zO hK
        refine zS (fun w' hS hV K hK => ?_) ?_
        · have e7 := zQ hV 7; have e8 := zQ hV 8; obtain ⟨q0, q1⟩ := hS.1.two; go_simp; refine (HRF.out w' hS.2).mono ?_; rintro e v1 ⟨A9, c9, rfl, hM⟩; exact hK.out _ _ _ rfl rfl ⟨_, _, rfl, hM.after hS.2⟩ hM.b
        refine zS (fun w' hS hV K hK => ?_) ?_
        · obtain ⟨q0, q1⟩ := hS.1.two; go_simp; exact zO hK
        refine zS (fun w' hS hV K hK => ?_) ?_
        · have e6 := zQ hV 6; obtain ⟨A9, c9, e9, h9⟩ := hV 9 (by decide); have e10 := zQ hV 10; obtain ⟨q0, q1⟩ := hS.1.two; go_simp; refine (HTI.out w' _ _ hS.2 h9.rd).mono ?_; rintro e v1 ⟨A9, c9, rfl, hM⟩; exact hK.out _ _ _ rfl rfl ⟨_, _, rfl, hM.after hS.2⟩ hM.b
        refine zS (fun w' hS hV K hK => ?_) ?_
        · have e1 := zQ hV 1; obtain ⟨A4, c4, e4, h4⟩ := hV 4 (by decide); obtain ⟨A9, c9, e9, h9⟩ := hV 9 (by decide); obtain ⟨A11, c11, e11, h11⟩ := hV 11 (by decide); obtain ⟨q0, q1⟩ := hS.1.two; go_simp; refine (HT2.out w' _ _ _ _ h4.rd h11.rd).mono ?_; rintro e v1 ⟨A9, c9, rfl, hM⟩; exact hK.out _ _ _ rfl rfl ⟨_, _, rfl, hM.after hS.2⟩ hM.b
        refine fun w' hS hV => ?_
        have e0 := zT hV 0
        have e1 := zT hV 1
        have e2 := zT hV 2
        have e3 := zT hV 3
        obtain ⟨A4, c4, e4, h4⟩ := hV 4 (by decide)
        have e5 := zT hV 5
        have e6 := zT hV 6
        have e7 := zT hV 7
        have e8 := zT hV 8
        obtain ⟨A9, c9, e9, h9⟩ := hV 9 (by decide)
        have e10 := zT hV 10
        obtain ⟨A11, c11, e11, h11⟩ := hV 11 (by decide)
        obtain ⟨A12, c12, e12, h12⟩ := hV 12 (by decide)
        simp only [e0, e1, e2, e3, e4, e5, e6, e7, e8, e9, e10, e11, e12]
        clear e0 e1 e2 e3 e4 e5 e6 e7 e8 e9 e10 e11 e12
        refine any_one (j := 13) (by kernel_rfl) (Eq.trans (by simp only [zA, zB, zC]; exact rfl) rfl) (fun K hK => ?_)
        go_simp
        refine hK.out _ _ (wpAny_done (by kernel_rfl) ?_ _)
        have hbq := hS.2
        have k8 := hS.1
        obtain ⟨wn, rfl⟩ : ∃ W, W = w' := ⟨_, rfl⟩
        have hO8 := hO7.below hbq
        have hU8 := HKU9.out.below hbq
        have hK8 := KM.new h12 hO7 hB7
        clear hS HRF HRE HTI HT2 k9 q0 q1
        go_wp2
        go_roundw
        case rel => exact ⟨k + 1, A12, c12, A20, c20, by omega, by go_num, rfl, by rw [HTT.out]; simp, by rw [HTT.out]; simpa using hO8, by rw [HTT.out]; simpa using hK8, k8, by rw [HTT.out]; simpa using hU8⟩
        case measure => simp [intOf]; omega
      · have e8 : (z != 0) = true := by simp [hz0]
        rw [if_neg hz0] at HS2
        have HNE := Lib.hid (show ¬ pairL P sq dl dl = 0 by rw [← hz]; exact hz0)
        clear hz hz0 HN1
        go_wp2_with fail
        refine hcall.mono ?_
        rintro e w9 ⟨rfl, hb9⟩
        have HO7 := Lib.hid (hO7.below hb9)
        have HKM7 := Lib.hid (hKM7.below hb9)
        have HKU7 := Lib.hid (hKU7.below hb9)
        have HD10 := Lib.hid (HD8.out.below hb9)
        have k10 := k8.below hb9 k8.lt
        have HLB := Lib.hid (show L.length ≤ 1099511627776 by have := HLN.out; omega)
        clear hcall q0 q1 k8 hb9 hO7 hKM7 hKU7 HD8 he8 HW8
        obtain ⟨q0, q1⟩ := k10.two
        go_wp2_with (at_builtin; (refine wpList_appRowO w w9 rfl _ _ rfl Al L.length cl L Ad n cd dl HO7.out HD10.out HLB.out rfl ?_ ?_; (go_simp); intro A20 c20 wq hO20 hg20 hat20))
        have hB7 := hO20.b
        have hKM20 := HKM7.out.app (m' := L.length + 1) (d' := c20) HO7.out hg20 hB7 (Nat.le_refl _) hat20
        have hKU20 := KU.app (m' := L.length + 1) (d' := c20) HKU7.out HO7.out hg20 hB7 (Nat.le_refl _) hat20
        have hd20 := HO7.out.keepO HD10.out hg20
        have k9 := k10.grown hg20 (HO7.out.ne_blk k10 (by decide))
        have HRM := Lib.hid (hKM20.rd hB7)
        have HRF := Lib.hid fun (w' : World) (h : Below wq.heap.size wq w') => reflection_any P A n c sq Ad cd dl w' HPP.out hd2 hd1 ((HA.out.below hB7).below h) HQ.out (hd20.below h).rd HDK.out.2 HNE.out
        have HTI := Lib.hid fun (w' : World) (B : Option Addr) (d' : Nat) (h : Below wq.heap.size wq w') (hb : RdII w' B n (rmatL P sq n dl)) => timesM_any P B n d' (rmatL P sq n dl) Am cm MM w' (by omega) hp2 hd1 (by omega) hb (rmatL_tab (by omega) sq n dl) (HRM.out.below h) HTM.out
        have HTT := HS2
        have hO7 := hO20
        have HKU9 := Lib.hid hKU20
        clear HS2 hO20 hg20 hat20 hKM20 hKU20 hd20 HO7 HKM7 HKU7 HD10 k10 q0 q1
        obtain ⟨q0, q1⟩ := k9.two
        go_wp2
        refine wp_obs 7 [[],[0],[],[],[2,3],[],[0,1,2,3,4,5],[0,1,2,3,4,5,6]] [VIs (.agg #[.int .i64 P, .slice A n c]), VIs (.int .i64 (P)), VIs (.agg #[.int .i64 P, .slice A n c]), VIs (.slice Ad n cd), VMat wq n (rmatL P sq n dl), VIs (.slice Am n cm), VMat wq n (timesM P (rmatL P sq n dl) MM)] (fun w' => Blk w' w.heap.size 26 #[.int .i64 P, .slice A n c] ∧ Below wq.heap.size wq w') (by kernel_rfl) (by kernel_rfl) (fun _ _ h hb => ⟨h.1.below hb h.1.lt, h.2.trans (hb.mono h.2.size)⟩) (⟨k9.drew, zG.drew⟩) (fun x => ?_)
        refine zS (fun w' hS hV K hK => ?_) ?_
        · obtain ⟨q0, q1⟩ := hS.1.two; go_simp; exact zO hK
        refine zS (fun w' hS hV K hK => ?_) ?_
        · have e0 := zQ hV 0; obtain ⟨q0, q1⟩ := hS.1.two; go_simp; refine (field_any P A n c w').mono ?_; rintro e v1 ⟨rfl, hb⟩; exact hK.out _ _ _ rfl rfl rfl hb
        refine zS (fun w' hS hV K hK => ?_) ?_
        · obtain ⟨q0, q1⟩ := hS.1.two; go_simp; exact zO hK
        refine zS (fun w' hS hV K hK => ?_) ?_
        · obtain ⟨q0, q1⟩ := hS.1.two; go_simp; exact zO hK
        refine zS (fun w' hS hV K hK => ?_) ?_
        · have e2 := zQ hV 2; have e3 := zQ hV 3; obtain ⟨q0, q1⟩ := hS.1.two; go_simp; refine (HRF.out w' hS.2).mono ?_; rintro e v1 ⟨A9, c9, rfl, hM⟩; exact hK.out _ _ _ rfl rfl ⟨_, _, rfl, hM.after hS.2⟩ hM.b
        refine zS (fun w' hS hV K hK => ?_) ?_
        · obtain ⟨q0, q1⟩ := hS.1.two; go_simp; exact zO hK
        refine zS (fun w' hS hV K hK => ?_) ?_
        · have e1 := zQ hV 1; obtain ⟨A4, c4, e4, h4⟩ := hV 4 (by decide); have e5 := zQ hV 5; obtain ⟨q0, q1⟩ := hS.1.two; go_simp; refine (HTI.out w' _ _ hS.2 h4.rd).mono ?_; rintro e v1 ⟨A9, c9, rfl, hM⟩; exact hK.out _ _ _ rfl rfl ⟨_, _, rfl, hM.after hS.2⟩ hM.b
        refine fun w' hS hV => ?_
        have e0 := zT hV 0
        have e1 := zT hV 1
        have e2 := zT hV 2
        have e3 := zT hV 3
        obtain ⟨A4, c4, e4, h4⟩ := hV 4 (by decide)
        have e5 := zT hV 5
        obtain ⟨A6, c6, e6, h6⟩ := hV 6 (by decide)
        simp only [e0, e1, e2, e3, e4, e5, e6]
        clear e0 e1 e2 e3 e4 e5 e6
        refine any_one (j := 7) (by kernel_rfl) (Eq.trans (by simp only [zA, zB, zC]; exact rfl) rfl) (fun K hK => ?_)
        go_simp
        refine hK.out _ _ (wpAny_done (by kernel_rfl) ?_ _)
        have hbq := hS.2
        have k8 := hS.1
        obtain ⟨wn, rfl⟩ : ∃ W, W = w' := ⟨_, rfl⟩
        have hO8 := hO7.below hbq
        have hU8 := HKU9.out.below hbq
        have hK8 := KM.new h6 hO7 hB7
        clear hS HRF HTI k9 q0 q1
        go_wp2
        go_roundw
        case rel => exact ⟨k + 1, A6, c6, A20, c20, by omega, by go_num, rfl, by rw [HTT.out]; simp, by rw [HTT.out]; simpa using hO8, by rw [HTT.out]; simpa using hK8, k8, by rw [HTT.out]; simpa using hU8⟩
        case measure => simp [intOf]; omega
  · obtain rfl : k = n := by omega
    rw [HTN.out] at hO ⊢
    go_wp2
    go_ret
    exact ⟨_, _, rfl, hO⟩
/-- Has no vector the norm 0? -/
def noneZ (P : Int) (sq : List Int) (L : List (List Int)) : Bool := !(L.any fun v => decide (pairL P sq v v = 0))
/-- The code of VersorOf. -/
def codeVo (P : Int) (sq : List Int) (L : List (List Int)) : Int := if codeLs P sq L = 0 then (if regB sq && noneZ P sq L then 0 else 5) else codeLs P sq L
/-- VersorOf. -/
def voR (P : Int) (sq : List Int) (L : List (List Int)) : List Int × Int := if codeVo P sq L = 0 then (versL P sq sq.length L, 0) else ([], codeVo P sq L)
theorem voR_ok {P : Int} {sq : List Int} {L : List (List Int)} (h : codeVo P sq L = 0) : voR P sq L = (versL P sq sq.length L, 0) := by unfold voR; rw [if_pos h]
theorem voR_bad {P : Int} {sq : List Int} {L : List (List Int)} (h : ¬ codeVo P sq L = 0) : voR P sq L = ([], codeVo P sq L) := by unfold voR; rw [if_neg h]
theorem codeLs_zero {P : Int} {sq : List Int} {L : List (List Int)} (h : codeLs P sq L = 0) : codeV P sq L = 0 ∧ L.length ≤ 16 := by
 unfold codeLs at h
 by_cases h1 : codeV P sq L = 0
 · rw [if_pos h1] at h
   by_cases h2 : 16 < L.length
   · rw [if_pos h2] at h; exact absurd h (by decide)
   · exact ⟨h1, by omega⟩
 · rw [if_neg h1] at h; exact absurd h h1
set_option maxHeartbeats 800000 in
set_option maxRecDepth 8000 in
theorem zeroNorm (P : Int) (n : Nat) (g : Nat) (A : Option Addr) (c : Nat) (sq : List Int) (w : World) (hp : 2 ≤ P) (hp2 : P ≤ 13) (hn : n ≤ 6) (ha : Rd w A n (ints sq)) (hs : NumsL P sq) (hk : Blk w g 26 #[.int .i64 P, .slice A n c]) :
    Tells 118 #[.pointer (some ⟨g, 0, none⟩)] w (fun v => decide (pairL P sq v v = 0)) (fun v => v.length = n ∧ NumsL P v) := by
 intro w' D m d ys hb hr hm
 have hyl : ys.length = m := hr.lenI
 obtain ⟨hm1, hm2⟩ := hm
 obtain rfl : m = n := by omega
 have HN := Lib.hid hm2
 have k0 := hk.below hb hk.lt
 obtain ⟨q0, q1⟩ := k0.two
 clear hyl hm1 hm2
 have hno := norm_any P A m c sq D d ys w' hp hp2 hn (ha.below hb) hs hr HN.out
 obtain ⟨a, ha'⟩ : ∃ a, a = pairL P sq ys ys := ⟨_, rfl⟩
 rw [← ha'] at hno
 have HAV := Lib.hid ha'
 clear ha'
 simp only [List.append_toArray, List.cons_append, List.nil_append]
 go_enter Tryz.func118, Tryz.ntmps118
 go_wp2_with fail
 refine hno.mono ?_
 rintro e w1 ⟨rfl, hb1⟩
 go_wp2
 go_ret
 exact ⟨ret_bool (by rw [← HAV.out]; by_cases h : a = 0 <;> simp [h]), hb1⟩
set_option maxHeartbeats 3200000 in
set_option maxRecDepth 8000 in
theorem VersorOf_any (P : Int) (A : Option Addr) (n c : Nat) (sq : List Int) (B : Option Addr) (m d : Nat) (L : List (List Int)) (w : World) (hn : n ≤ 1048576) (hm : m ≤ 1048576) (ha : Rd w A n (ints sq)) (hb : RdII w B m L) (hL : ∀ ys ∈ L, ys.length ≤ 1048576) :
    Calls Tryz.prog 35 #[.agg #[.int .i64 P, .slice A n c], .slice B m d] w fun e w' => ∃ (A' : Option Addr) (k c' : Nat), e = .returned (.tuple #[.slice A' k c', .int .i64 (voR P sq L).2]) ∧ MkI w w' A' k c' (voR P sq L).1 := by
 have hreg := checkList_any P A n c sq B m d L (w.alloc (.cells #[.int .i64 P, .slice A n c] 26)) hn hm (ha.below (zG.alloc (Nat.le_refl _) _)) (hb.below (zG.alloc (Nat.le_refl _) _)) hL
 have hB0 : Below w.heap.size w (w.alloc (.cells #[.int .i64 P, .slice A n c] 26)) := zG.alloc (Nat.le_refl _) _
 have k0 : Blk (w.alloc (.cells #[.int .i64 P, .slice A n c] 26)) w.heap.size 26 #[.int .i64 P, .slice A n c] := Blk.new _ _ _
 have hsl := ha.lenI
 by_cases hr0 : codeLs P sq L = 0
 · rw [hr0] at hreg
   have HR0 := Lib.hid hr0
   obtain ⟨hcv, -⟩ := codeLs_zero hr0
   obtain ⟨HP, hp, hp2, hd1, hd2, hs0, hvs⟩ := codeV_spec hcv
   have HT : Hid (Tab P n L) := Lib.hid (fun v hv => by rw [← hsl]; exact hvs v hv)
   have HSQ := Lib.hid hs0
   have HSL := Lib.hid hsl
   have hn6 : n ≤ 6 := by omega
   have hn0 : 0 < n := by omega
   have HPP := Lib.hid HP
   have HM16 : Hid (m ≤ 16) := Lib.hid (by rw [← hb.len]; exact (codeLs_zero hr0).2)
   have hrg := fun (w' : World) (h : Below w.heap.size w w') => regular_any P A n c sq w' hn (ha.below h)
   clear hr0 hcv hd1 hd2 hs0 hvs hsl HP
   obtain ⟨rb, hrb⟩ : ∃ b, b = regB sq := ⟨_, rfl⟩
   rw [← hrb] at hrg
   have HRB := Lib.hid hrb
   clear hrb
   obtain ⟨q0, q1⟩ := k0.two
   cases rb
   · have HC : Hid (codeVo P sq L = 5) := Lib.hid (by unfold codeVo; rw [if_pos HR0.out, ← HRB.out]; rfl)
     go_enter Tryz.func35, Tryz.ntmps35
     go_wp2_with fail
     refine hreg.mono ?_
     rintro e w2 ⟨rfl, hb2⟩
     have hB2 := hB0.trans (hb2.mono hB0.size)
     have k2 := k0.below hb2 k0.lt
     clear q0 q1 hreg
     obtain ⟨q0, q1⟩ := k2.two
     go_wp2_with fail
     refine (hrg _ hB2).mono ?_
     rintro e w3 ⟨rfl, hb3⟩
     go_wp2
     go_ret2
     exact noRow3 (by rw [voR_bad (by rw [HC.out]; decide), HC.out]) (hB2.trans (hb3.mono hB2.size))
   · obtain ⟨zb, hzb⟩ : ∃ b, b = (L.any fun v => decide (pairL P sq v v = 0)) := ⟨_, rfl⟩
     have HC : Hid (codeVo P sq L = if zb then 5 else 0) := Lib.hid (by unfold codeVo noneZ; rw [if_pos HR0.out, ← HRB.out, ← hzb]; cases zb <;> rfl)
     have hLN : ∀ v ∈ L, v.length = n ∧ NumsL P v := HT.out
     go_enter Tryz.func35, Tryz.ntmps35
     go_wp2_with fail
     refine hreg.mono ?_
     rintro e w2 ⟨rfl, hb2⟩
     have hB2 := hB0.trans (hb2.mono hB0.size)
     have k2 := k0.below hb2 k0.lt
     clear q0 q1 hreg
     obtain ⟨q0, q1⟩ := k2.two
     go_wp2_with fail
     refine (hrg _ hB2).mono ?_
     rintro e w3 ⟨rfl, hb3⟩
     have hB3 := hB2.trans (hb3.mono hB2.size)
     have k3 := k2.below hb3 k2.lt
     have hT := zeroNorm P n w.heap.size A c sq w3 hp hp2 hn6 (ha.below hB3) HSQ.out k3
     have hcf := ContainsFunc_any 118 ⟨w.heap.size, 0, none⟩ _ _ B m d L w3 (by omega) (hb.below hB3) hLN hT (fun _ _ => rfl)
     rw [← hzb] at hcf
     clear q0 q1 hb3 hb2 k2 hB2 hrg hT hLN hzb
     obtain ⟨q0, q1⟩ := k3.two
     go_wp2_with fail
     refine hcf.mono ?_
     rintro e w4 ⟨rfl, hb4⟩
     have hB4 := hB3.trans (hb4.mono hB3.size)
     have k4 := k3.below hb4 k3.lt
     clear q0 q1 hcf
     cases zb
     · obtain ⟨q0, q1⟩ := k4.two
       have hve := versor_any P A n c sq B m d L w4 HPP.out hn6 hn0 (by have := HM16.out; omega) (ha.below hB4) HSQ.out (hb.below hB4) HT.out
       go_wp2_with fail
       refine hve.mono ?_
       rintro e w5 ⟨A5, c5, rfl, hM5⟩
       go_wp2
       go_ret2
       exact ⟨A5, pw n, c5, (by rw [voR_ok HC.out]; first | done | rfl), by rw [voR_ok HC.out, HSL.out]; exact hM5.after hB4⟩
     · go_wp2
       go_ret2
       exact noRow3 (by rw [voR_bad (by rw [HC.out]; decide), HC.out]; rfl) hB4
 · obtain ⟨r, hr⟩ : ∃ r, r = codeLs P sq L := ⟨_, rfl⟩
   have HC : Hid (codeVo P sq L = r) := Lib.hid (by unfold codeVo; rw [if_neg hr0, hr])
   have HRN : Hid (¬ r = 0) := Lib.hid (by rw [hr]; exact hr0)
   have b0 : (r != 0) = true := code_ne (by rw [hr]; exact hr0)
   rw [← hr] at hreg
   obtain ⟨q0, q1⟩ := k0.two
   clear hr hr0 hsl
   go_enter Tryz.func35, Tryz.ntmps35
   go_wp2_with fail
   refine hreg.mono ?_
   rintro e w2 ⟨rfl, hb2⟩
   go_wp2
   go_ret2
   exact noRow3 (by rw [voR_bad (by rw [HC.out]; exact HRN.out), HC.out]) (hB0.trans (hb2.mono hB0.size))
set_option maxHeartbeats 1600000 in
set_option maxRecDepth 8000 in
theorem VersorOfMatrix_ok (P : Int) (A : Option Addr) (n c : Nat) (sq : List Int) (D : Option Addr) (d : Nat) (M : List (List Int)) (w : World) (hsp : isSp P sq = true) (hreg : regB sq = true) (ha : Rd w A n (ints sq)) (hd : RdII w D n M) (hiso : isoB P sq M = true) :
    Calls Tryz.prog 19 #[.agg #[.int .i64 P, .slice A n c], .slice D n d] w fun e w' => ∃ (A' : Option Addr) (c' : Nat), e = .returned (.tuple #[.slice A' (pw n) c', .int .i64 0]) ∧ MkI w w' A' (pw n) c' (versL P sq n (decL P sq M)) := by
 have hB0 : Below w.heap.size w (w.alloc (.cells #[.int .i64 P, .slice A n c] 26)) := zG.alloc (Nat.le_refl _) _
 have k0 : Blk (w.alloc (.cells #[.int .i64 P, .slice A n c] 26)) w.heap.size 26 #[.int .i64 P, .slice A n c] := Blk.new _ _ _
 have hsl := ha.lenI
 obtain ⟨HP, hd1, hd2, hnum⟩ := isSp_dim hsp
 obtain ⟨hp3, hp2⟩ := isP_ge HP
 obtain ⟨hl, hT⟩ := isoB_frame hiso
 have hall := dec_all HP hd1 (nums_numsL hnum) hreg hT hl hiso
 rw [hsl] at hd1 hd2 hl hT
 have hck := checkOrthogonal_any P A n c sq D n d M n (w.alloc (.cells #[.int .i64 P, .slice A n c] 26)) (by omega) hd1 (by omega) hd1 (by omega) (ha.below hB0) (hd.below hB0) (Rect.of_tab hT)
 rw [codeO_mk hsp hreg hiso] at hck
 have hdc := Lib.hid fun w' (h : Below w.heap.size w w') => decomposition_any P A n c sq D d M w' hsp hreg (ha.below h) (hd.below h) hiso
 obtain ⟨L, hL⟩ : ∃ L, L = decL P sq M := ⟨_, rfl⟩
 rw [← hL] at hdc hall ⊢
 have HTL : Hid (Tab P n L) := Lib.hid fun v hv => by have := hall.2.1 v hv; exact ⟨by omega, this.2.1⟩
 have hlen : L.length ≤ 2 * n := by rw [← hsl]; exact hall.1
 have HQ := Lib.hid (nums_numsL hnum)
 have HPP := Lib.hid HP
 have HA := Lib.hid ha
 clear hall hsp hreg hiso hT hl hnum HP hL hd ha
 go_enter Tryz.func19, Tryz.ntmps19
 obtain ⟨q0, q1⟩ := k0.two
 go_wp2_with fail
 refine hck.mono ?_
 rintro e w2 ⟨rfl, hb2⟩
 have hB2 := hB0.trans (hb2.mono hB0.size)
 have k2 := k0.below hb2 k0.lt
 clear q0 q1
 have hdc2 := Lib.hid fun w' (h : Below w2.heap.size w2 w') => hdc.out w' (hB2.trans (h.mono hB2.size))
 have HVE := Lib.hid fun w' (A3 : Option Addr) (c3 : Nat) (h : Below w2.heap.size w2 w') (r3 : RdII w' A3 L.length L) => versor_any P A n c sq A3 L.length c3 L w' HPP.out hd2 hd1 (by omega) (HA.out.below (hB2.trans (h.mono hB2.size))) HQ.out r3 HTL.out
 clear hdc hck k0 hB0
 go_wp2
 refine wp_obs 7 [[],[],[],[1,2],[0,1,2,3],[0,1,2,3,4],[]] [VIs (.agg #[.int .i64 P, .slice A n c]), VIs (.agg #[.int .i64 P, .slice A n c]), VIs (.slice D n d), VRow L.length L, VSl w2 (pw n) (versL P sq n L), VSl w2 (pw n) (versL P sq n L), VIs (.int .i64 0)] (fun w' => Blk w' w.heap.size 26 #[.int .i64 P, .slice A n c] ∧ Below w2.heap.size w2 w') (by kernel_rfl) (by kernel_rfl) (fun _ _ h hb => ⟨h.1.below hb h.1.lt, h.2.trans (hb.mono h.2.size)⟩) (⟨k2.drew, zG.drew⟩) (fun x => ?_)
 refine zS (fun w' hS hV K hK => ?_) ?_
 · obtain ⟨q0, q1⟩ := hS.1.two; go_simp; exact zO hK
 refine zS (fun w' hS hV K hK => ?_) ?_
 · obtain ⟨q0, q1⟩ := hS.1.two; go_simp; exact zO hK
 refine zS (fun w' hS hV K hK => ?_) ?_
 · obtain ⟨q0, q1⟩ := hS.1.two; go_simp; exact zO hK
 refine zS (fun w' hS hV K hK => ?_) ?_
 · have e1 := zQ hV 1; have e2 := zQ hV 2; obtain ⟨q0, q1⟩ := hS.1.two; go_simp; refine (hdc2.out w' hS.2).mono ?_; rintro e v1 ⟨A9, c9, rfl, hM⟩; exact hK.out _ _ _ rfl rfl ⟨_, _, rfl, hM.rd⟩ hM.b
 refine zS (fun w' hS hV K hK => ?_) ?_
 · have e0 := zQ hV 0; obtain ⟨A3, c3, e3, h3⟩ := hV 3 (by decide); obtain ⟨q0, q1⟩ := hS.1.two; go_simp; refine (HVE.out w' _ _ hS.2 h3).mono ?_; rintro e v1 ⟨A9, c9, rfl, hM⟩; exact hK.out _ _ _ rfl rfl ⟨_, _, rfl, hM.after hS.2⟩ hM.b
 refine zS (fun w' hS hV K hK => ?_) ?_
 · obtain ⟨A3, c3, e3, h3⟩ := hV 3 (by decide); obtain ⟨A4, c4, e4, h4⟩ := hV 4 (by decide); obtain ⟨q0, q1⟩ := hS.1.two; go_simp; exact hK.out _ _ _ rfl rfl ⟨_, _, rfl, h4⟩ zG
 refine zS (fun w' hS hV K hK => ?_) ?_
 · obtain ⟨q0, q1⟩ := hS.1.two; go_simp; exact zO hK
 refine fun w' hS hV => ?_
 have e0 := zT hV 0
 have e1 := zT hV 1
 have e2 := zT hV 2
 obtain ⟨A3, c3, e3, h3⟩ := hV 3 (by decide)
 obtain ⟨A4, c4, e4, h4⟩ := hV 4 (by decide)
 obtain ⟨A5, c5, e5, h5⟩ := hV 5 (by decide)
 have e6 := zT hV 6
 simp only [e0, e1, e2, e3, e4, e5, e6]
 clear e0 e1 e2 e3 e4 e5 e6
 refine wpAny_done (by kernel_rfl) ?_ _
 have hM := h5.after hB2
 clear hS
 go_wp2
 go_ret2
 exact ⟨_, _, rfl, hM⟩
theorem cofR_eq {P : Int} {sq : List Int} {M : List (List Int)} (h : codeF P sq M = 0) : cofR P sq M = if skewB P sq M && decide (detL P (onePl P M 1) ≠ 0) then (cayL P M, 0) else ([], 5) := by unfold cofR; rw [if_pos h]
set_option maxHeartbeats 3200000 in
theorem CayleyOf_any (P : Int) (A : Option Addr) (n c : Nat) (sq : List Int) (D : Option Addr) (r d : Nat) (M : List (List Int)) (m : Nat) (w : World) (hn : n ≤ 1048576) (hr0 : 0 < r) (hr : r ≤ 16) (hm1 : 1 ≤ m) (hm : m ≤ 16) (ha : Rd w A n (ints sq)) (hd : RdII w D r M) (hM : Rect m M) :
    Calls Tryz.prog 42 #[.agg #[.int .i64 P, .slice A n c], .slice D r d] w fun e w' => ∃ (A' : Option Addr) (k c' : Nat), e = .returned (.tuple #[.slice A' k c', .int .i64 (cofR P sq M).2]) ∧ MkII w w' A' k c' (cofR P sq M).1 := by
 have hB0 : Below w.heap.size w (w.alloc (.cells #[.int .i64 P, .slice A n c] 26)) := zG.alloc (Nat.le_refl _) _
 have k0 : Blk (w.alloc (.cells #[.int .i64 P, .slice A n c] 26)) w.heap.size 26 #[.int .i64 P, .slice A n c] := Blk.new _ _ _
 have hck := checkFrame_any P A n c sq D r d M m (w.alloc (.cells #[.int .i64 P, .slice A n c] 26)) hr0 hr hm1 hm hn (ha.below hB0) (hd.below hB0) hM
 obtain ⟨RV, hRV⟩ : ∃ R, R = cofR P sq M := ⟨_, rfl⟩
 rw [← hRV]
 by_cases hc : codeF P sq M = 0
 · rw [hc] at hck
   have hRES := cofR_eq hc
   rw [← hRV] at hRES
   obtain ⟨h1, h2, h3, h4⟩ := codeF_zero hc
   have hsl := ha.lenI
   rw [hsl] at h3 h4
   obtain rfl : n = r := (hd.len.symm.trans h3).symm
   obtain ⟨HP, hd1, hd2, hnum⟩ := isSp_dim h1
   obtain ⟨hp3, hp2⟩ := isP_ge HP
   rw [hsl] at hd1 hd2
   have HNUM := Lib.hid (nums_numsL hnum)
   have HT := Lib.hid h4
   obtain ⟨sb, hsb⟩ : ∃ b, b = skewB P sq M := ⟨_, rfl⟩
   obtain ⟨b, hb⟩ : ∃ b, b = decide (detL P (onePl P M 1) ≠ 0) := ⟨_, rfl⟩
   obtain ⟨Z, hZ⟩ : ∃ Z, Z = if detL P (onePl P M 1) ≠ 0 then cayL P M else [] := ⟨_, rfl⟩
   have HTS := Lib.hid fun w' (h : Below w.heap.size w w') => isSkew_any P A n c sq D d M w' (by omega) hp2 hd2 (ha.below h) HNUM.out (hd.below h) HT.out
   have HCY := Lib.hid fun w' (h : Below w.heap.size w w') => cayley_any P A n c sq D d M w' HP hd1 hd2 (hd.below h) HT.out
   rw [← hsb] at HTS
   rw [← hb, ← hZ] at HCY
   have hZb : b = true → cayL P M = Z := fun e => by rw [hZ, if_pos (of_decide_eq_true (hb.symm.trans e))]
   rw [← hsb, ← hb] at hRES
   replace hRES : RV = if sb && b then (Z, 0) else ([], 5) := by
    cases b
    · simpa using hRES
    · rw [hRES, hZb rfl]
   clear hZb hZ hb hsb HNUM HT hnum HP hsl h1 h2 h3 h4 hc hRV hM hd ha
   cases sb
   · cases b
     · have HRES : Hid (RV = ([], 5)) := Lib.hid (by rw [hRES]; rfl)
       clear hRES
       go_enter Tryz.func42, Tryz.ntmps42
       obtain ⟨q0, q1⟩ := k0.two
       go_wp2_with fail
       refine hck.mono ?_
       rintro e w2 ⟨rfl, hb2⟩
       have hB2 := hB0.trans (hb2.mono hB0.size)
       have k2 := k0.below hb2 k0.lt
       clear q0 q1
       obtain ⟨q0, q1⟩ := k2.two
       go_wp2_with fail
       refine (HCY.out _ hB2).mono ?_
       rintro e w3 ⟨A9, k9, c9, rfl, hM9⟩
       have hB3 := hB2.trans (hM9.b.mono hB2.size)
       have k3 := k2.below hM9.b k2.lt
       have hM3 := hM9.after hB2
       clear q0 q1 hM9
       obtain ⟨q0, q1⟩ := k3.two
       go_wp2_with fail
       refine (HTS.out w3 hB3).mono ?_
       rintro e w4 ⟨rfl, hb4⟩
       have hB4 := hB3.trans (hb4.mono hB3.size)
       have k4 := k3.below hb4 k3.lt
       clear q0 q1
       go_wp2
       go_ret2
       obtain rfl : RV = ([], 5) := HRES.out
       exact ⟨none, 0, 0, rfl, MkII.nil hB4⟩
     · have HRES : Hid (RV = ([], 5)) := Lib.hid (by rw [hRES]; rfl)
       clear hRES
       go_enter Tryz.func42, Tryz.ntmps42
       obtain ⟨q0, q1⟩ := k0.two
       go_wp2_with fail
       refine hck.mono ?_
       rintro e w2 ⟨rfl, hb2⟩
       have hB2 := hB0.trans (hb2.mono hB0.size)
       have k2 := k0.below hb2 k0.lt
       clear q0 q1
       obtain ⟨q0, q1⟩ := k2.two
       go_wp2_with fail
       refine (HCY.out _ hB2).mono ?_
       rintro e w3 ⟨A9, k9, c9, rfl, hM9⟩
       have hB3 := hB2.trans (hM9.b.mono hB2.size)
       have k3 := k2.below hM9.b k2.lt
       have hM3 := hM9.after hB2
       clear q0 q1 hM9
       obtain ⟨q0, q1⟩ := k3.two
       go_wp2_with fail
       refine (HTS.out w3 hB3).mono ?_
       rintro e w4 ⟨rfl, hb4⟩
       have hB4 := hB3.trans (hb4.mono hB3.size)
       have k4 := k3.below hb4 k3.lt
       clear q0 q1
       go_wp2
       go_ret2
       obtain rfl : RV = ([], 5) := HRES.out
       exact ⟨none, 0, 0, rfl, MkII.nil hB4⟩
   · cases b
     · have HRES : Hid (RV = ([], 5)) := Lib.hid (by rw [hRES]; rfl)
       clear hRES
       go_enter Tryz.func42, Tryz.ntmps42
       obtain ⟨q0, q1⟩ := k0.two
       go_wp2_with fail
       refine hck.mono ?_
       rintro e w2 ⟨rfl, hb2⟩
       have hB2 := hB0.trans (hb2.mono hB0.size)
       have k2 := k0.below hb2 k0.lt
       clear q0 q1
       obtain ⟨q0, q1⟩ := k2.two
       go_wp2_with fail
       refine (HCY.out _ hB2).mono ?_
       rintro e w3 ⟨A9, k9, c9, rfl, hM9⟩
       have hB3 := hB2.trans (hM9.b.mono hB2.size)
       have k3 := k2.below hM9.b k2.lt
       have hM3 := hM9.after hB2
       clear q0 q1 hM9
       obtain ⟨q0, q1⟩ := k3.two
       go_wp2_with fail
       refine (HTS.out w3 hB3).mono ?_
       rintro e w4 ⟨rfl, hb4⟩
       have hB4 := hB3.trans (hb4.mono hB3.size)
       have k4 := k3.below hb4 k3.lt
       clear q0 q1
       go_wp2
       go_ret2
       obtain rfl : RV = ([], 5) := HRES.out
       exact ⟨none, 0, 0, rfl, MkII.nil hB4⟩
     · have HRES : Hid (RV = (Z, 0)) := Lib.hid (by rw [hRES]; rfl)
       clear hRES
       go_enter Tryz.func42, Tryz.ntmps42
       obtain ⟨q0, q1⟩ := k0.two
       go_wp2_with fail
       refine hck.mono ?_
       rintro e w2 ⟨rfl, hb2⟩
       have hB2 := hB0.trans (hb2.mono hB0.size)
       have k2 := k0.below hb2 k0.lt
       clear q0 q1
       obtain ⟨q0, q1⟩ := k2.two
       go_wp2_with fail
       refine (HCY.out _ hB2).mono ?_
       rintro e w3 ⟨A9, k9, c9, rfl, hM9⟩
       have hB3 := hB2.trans (hM9.b.mono hB2.size)
       have k3 := k2.below hM9.b k2.lt
       have hM3 := hM9.after hB2
       clear q0 q1 hM9
       obtain ⟨q0, q1⟩ := k3.two
       go_wp2_with fail
       refine (HTS.out w3 hB3).mono ?_
       rintro e w4 ⟨rfl, hb4⟩
       have hB4 := hB3.trans (hb4.mono hB3.size)
       have k4 := k3.below hb4 k3.lt
       clear q0 q1
       go_wp2
       go_ret2
       obtain rfl : RV = (Z, 0) := HRES.out
       exact ⟨_, _, _, rfl, hM3.below hb4⟩
 · obtain ⟨v, hv⟩ : ∃ v, v = codeF P sq M := ⟨_, rfl⟩
   rw [← hv] at hck
   have b0 : (v != 0) = true := code_ne (by rw [hv]; exact hc)
   have b1 : (v == 0) = false := by
    rw [beq_eq_false_iff_ne]; rw [hv]; exact hc
   have HRES : Hid (RV = ([], v)) := Lib.hid (by rw [hRV, cofR_bad hc, hv])
   clear hc hv hRV hM hd ha
   go_enter Tryz.func42, Tryz.ntmps42
   obtain ⟨q0, q1⟩ := k0.two
   go_wp2_with fail
   refine hck.mono ?_
   rintro e w2 ⟨rfl, hb2⟩
   have hB2 := hB0.trans (hb2.mono hB0.size)
   have k2 := k0.below hb2 k0.lt
   clear q0 q1
   go_wp2
   go_ret2
   obtain rfl : RV = ([], v) := HRES.out
   exact ⟨none, 0, 0, rfl, MkII.nil hB2⟩
set_option maxHeartbeats 3200000 in
set_option maxRecDepth 8000 in
theorem ScaleMultivector_ok (P : Int) (A : Option Addr) (n c : Nat) (sq : List Int) (X : Option Addr) (m cx : Nat) (xs : List Int) (k : Int) (w : World) (hn : n ≤ 1048576) (hm : m ≤ 1048576) (ha : Rd w A n (ints sq)) (hx : Rd w X m (ints xs)) (hcx : m ≤ cx) (hr0 : codeM P sq [xs] = 0) (hk0 : 0 ≤ k) (hk1 : k < P) :
    Calls Tryz.prog 38 #[.agg #[.int .i64 P, .slice A n c], .slice X m cx, .int .i64 k] w fun e w' => ∃ (A' : Option Addr) (c' : Nat), e = .returned (.tuple #[.slice A' m c', .int .i64 0]) ∧ MkI w w' A' m c' (scaleL P xs k) := by
 have hB0 : Below w.heap.size w (w.alloc (.cells #[.int .i64 P, .slice A n c] 26)) := zG.alloc (Nat.le_refl _) _
 have k0 : Blk (w.alloc (.cells #[.int .i64 P, .slice A n c] 26)) w.heap.size 26 #[.int .i64 P, .slice A n c] := Blk.new _ _ _
 have hB1 : Below w.heap.size w ((w.alloc (.cells #[.int .i64 P, .slice A n c] 26)).alloc (.cells #[.slice X m cx] 24)) := hB0.alloc (by simp) _
 have k1 : Blk ((w.alloc (.cells #[.int .i64 P, .slice A n c] 26)).alloc (.cells #[.slice X m cx] 24)) w.heap.size 26 #[.int .i64 P, .slice A n c] := k0.alloc _
 have hreg := checkMultis_any P A (some ⟨w.heap.size + 1, 0, none⟩) n c 1 1 sq [xs] ((w.alloc (.cells #[.int .i64 P, .slice A n c] 26)).alloc (.cells #[.slice X m cx] 24)) hn (by omega) (ha.below hB1) (rdII_one' (Blk.newAt3 (by simp)) (hx.below hB1) hcx) (all_one (by rw [hx.lenI]; exact hm))
 rw [hr0] at hreg
 obtain ⟨HP, hp, hp2, hd1, hd2, hs0, hms⟩ := codeM_spec3 hr0
 obtain ⟨hx1, hxs0⟩ := hms xs (by simp)
 have hmx : m = pw n := by rw [← hx.lenI, hx1, ha.lenI]
 have hsl9 := ha.lenI
 have hpw : pw n ≤ 64 := pw_le (k := 6) (by omega)
 have HXS := Lib.hid hxs0
 have hm64 : m ≤ 64 := by omega
 clear hr0 hd1 hd2 hs0 hms hx1 hxs0 HP hmx hpw
 obtain ⟨q0, q1⟩ := k1.two
 go_enter Tryz.func38, Tryz.ntmps38
 go_wp2_with fail
 refine hreg.mono ?_
 rintro e w2 ⟨rfl, hb2⟩
 have hB2 := hB1.trans (hb2.mono hB1.size)
 have k2 := k1.below hb2 k1.lt
 clear q0 q1 hreg hb2 k1 k0 hB0 hB1
 obtain ⟨q0, q1⟩ := k2.two
 go_wp2_with fail
 refine (field_any _ _ _ _ _).mono ?_
 rintro e w3 ⟨rfl, hb3⟩
 have hB3 := hB2.trans (hb3.mono hB2.size)
 have k3 := k2.below hb3 k2.lt
 have hM := Mk.lit (E := 2) (Below.refl w3.heap.size w3) #[.int .i64 k] (by simp [maxLen])
 have hB4 := hB3.trans (hM.1.mono hB3.size)
 have k4 := k3.below hM.1 k3.lt
 have hrd : Rd (w3.alloc (.cells #[.int .i64 k] 2)) (some ⟨w3.heap.size, 0, none⟩) 1 (ints [k]) := by
  have := hM.2.rd
  simpa [ints] using this
 have his := is_b P (some ⟨w3.heap.size, 0, none⟩) 1 1 [k] _ (by omega) (by omega) (by omega) hrd (show nums P [k] = true by simp [nums, inR]; omega)
 clear hM hrd q0 q1 k2 hB2 hb3 k3
 go_wp2_with fail
 refine his.mono ?_
 rintro e w5 ⟨rfl, rfl⟩
 obtain ⟨w4, hw4⟩ : ∃ W, W = (w3.alloc (.cells #[.int .i64 k] 2)) := ⟨_, rfl⟩
 rw [← hw4] at k4 hB4 ⊢
 obtain ⟨q0, q1⟩ := k4.two
 clear his hw4
 go_wp2_with fail
 refine (field_any _ _ _ _ _).mono ?_
 rintro e w6 ⟨rfl, hb6⟩
 have hB6 := hB4.trans (hb6.mono hB4.size)
 have hsc := scaled_any P X m cx k xs w6 hp hp2 (by omega) (hx.below hB6) HXS.out (by omega) (by omega)
 clear q0 q1 k4 hB4 hb6
 go_wp2_with fail
 refine hsc.mono ?_
 rintro e w7 ⟨A5, c5, rfl, hM5⟩
 go_wp2
 go_ret2
 exact ⟨A5, c5, rfl, hM5.after hB6⟩
set_option maxHeartbeats 400000 in
set_option maxRecDepth 8000 in
theorem likeInts_any (A B : Option Addr) (n m c d : Nat) (xs ys : List Int) (w : World) (hn : n ≤ 1099511627776) (hm : m ≤ 1099511627776)
    (ha : Rd w A n (ints xs)) (hb : Rd w B m (ints ys)) :
    Calls Tryz.prog 16 #[.slice A n c, .slice B m d] w fun e w' => e = .returned (.bool (decide (xs = ys))) ∧ ∃ j, w' = w.drewN j := by
 have hxl : xs.length = n := by have := ha.1; rwa [ints_length] at this
 have hyl : ys.length = m := by have := hb.1; rwa [ints_length] at this
 by_cases hnm : n = m
 · subst hnm
   have Hx := Lib.hid hxl; clear hxl
   have Hy := Lib.hid hyl; clear hyl
   go_enter Tryz.func16, Tryz.ntmps16
   go_wp2
   go_loopw [5] (fun i wr => ∃ k j : Nat, k ≤ n ∧ i = .int .i64 k ∧ xs.take k = ys.take k ∧ wr = w.drewN j) (fun i _ => n - (intOf i).toNat)
   case atStart => exact ⟨0, 0, by omega, rfl, by simp, rfl⟩
   case round =>
    obtain ⟨k, j, hk, rfl, hxy, rfl⟩ := hrel
    have H := Lib.hid hxy; clear hxy
    by_cases hlt : k < n
    · obtain ⟨g, o, rfl, hx, hcx⟩ := ha.int hlt
      obtain ⟨g', o', rfl, hy, hcy⟩ := hb.int hlt
      clear ha hb
      go_wp2
      go_quiet (fail)
      go_wp2
      · go_ret
        exact ⟨ret_bool (ne_of_get xs ys k hx hy (by assumption)).symm, _, World.drewN_drewN _ _ _⟩
      · go_roundw
        case rel => exact ⟨k + 1, _, by omega, by go_num, take_succ_eq xs ys k hx hy H.out (by simpa using (by assumption : (xs[k] != ys[k]) = false)), rfl⟩
        case measure => simp [intOf]; omega
    · go_wp2
      go_ret
      refine ⟨ret_bool ?_, _, rfl⟩
      have := H.out
      rw [List.take_of_length_le (by rw [Hx.out]; omega), List.take_of_length_le (by rw [Hy.out]; omega)] at this
      rw [this]; simp
 · have hne : decide (xs = ys) = false := by
    rw [decide_eq_false_iff_not]; rintro rfl; omega
   have Hne := Lib.hid hne; clear hne hxl hyl
   have hb0 : ((n : Int) != (m : Int)) = true := by rw [bne_iff_ne]; omega
   go_enter Tryz.func16, Tryz.ntmps16
   go_wp2
   go_ret
   exact ⟨ret_bool Hne.out.symm, 0, rfl⟩
theorem mod5_any (p n : Int) (w : World) (hp : 0 < p) (hp2 : p ≤ 13) :
    Calls Tryz.prog 33 #[.int .i64 p, .int .i64 n] w fun e w' => e = .returned (.int .i64 (n % p)) ∧ w = w' := by
 go_enter Tryz.func33, Tryz.ntmps33
 go_wp2
 go_ret
 exact ⟨ret_int (num_math p n hp hp2), rfl⟩
theorem big_any (A : Option Addr) (n c : Nat) (w : World) :
    Calls Tryz.prog 8 #[.slice A n c] w fun e w' => e = .returned (.bool (decide (4096 < n))) ∧ w = w' := by
 go_enter Tryz.func8, Tryz.ntmps8
 by_cases h : 4096 < n
 · have d1 : decide ((4096 : Int) < (n : Int)) = true := by rw [decide_eq_true_eq]; omega
   go_wp2
   go_ret
   exact ⟨ret_bool (by rw [eq_comm, decide_eq_true_eq]; exact h), rfl⟩
 · have d1 : decide ((4096 : Int) < (n : Int)) = false := by rw [decide_eq_false_iff_not]; omega
   go_wp2
   go_ret
   exact ⟨ret_bool (by rw [eq_comm, decide_eq_false_iff_not]; exact h), rfl⟩
theorem size5_any (P : Int) (A : Option Addr) (n c : Nat) (w : World) (hn : n ≤ 30) :
    Calls Tryz.prog 40 #[.agg #[.int .i64 P, .slice A n c]] w fun e w' => e = .returned (.int .i64 (pw n)) ∧ Below w.heap.size w w' := by
 go_enter Tryz.func40, Tryz.ntmps40
 go_wp2
 go_ret
 exact ⟨ret_int (wrap_pw n hn), zG.alloc (Nat.le_refl _) _⟩
set_option maxHeartbeats 800000 in
set_option maxRecDepth 8000 in
theorem gradePart_any (X : Option Addr) (m cx : Nat) (xs : List Int) (q : Nat) (w : World) (hm : m ≤ 64) (_hq : q ≤ 1000) (hx : Rd w X m (ints xs)) :
    Calls Tryz.prog 125 #[.slice X m cx, .int .i64 q] w fun e w' => ∃ A' c', e = .returned (.slice A' m c') ∧ MkI w w' A' m c' (partG xs q) := by
 have hxl : xs.length = m := by have := hx.1; rwa [ints_length] at this
 have hmk := make_i (P := Tryz.prog) 24 2 Tryz.underlying24 info_i m (by omega)
 have hM0 := Mk.made (E := 2) (n := m) (z := .int .i64 0) (Below.refl w.heap.size w) (by simp only [maxLen]; omega)
 rw [ints_replicate] at hM0
 have HP : Hid (partG xs q = tab m fun i => if pc i = q then xs.getD i 0 else 0) := Lib.hid (by unfold partG; rw [hxl])
 clear hxl
 go_enter Tryz.func125, Tryz.ntmps125
 go_wp2
 clear hmk
 go_loopw [6, 7, 13] (fun _ _ i wr => ∃ k : Nat, k ≤ m ∧ i = .int .i64 k ∧ MkI w wr (some ⟨w.heap.size, 0, none⟩) m m ((tab k fun i => if pc i = q then xs.getD i 0 else 0) ++ List.replicate (m - k) 0)) (fun _ _ i _ => m - (intOf i).toNat)
 case atStart => exact ⟨0, by omega, rfl, by simpa [tab] using hM0⟩
 case round =>
  obtain ⟨k, hk, rfl, hM⟩ := hrel
  clear hM0
  by_cases hlt : k < m
  · obtain ⟨gx, ox, rfl, hxk, hcx⟩ := (hx.below hM.b).int hlt
    by_cases hpc : pc k = q
    · have hb : (((pc k : Nat) : Int) == (q : Int)) = true := by simp [hpc]
      have hset := (hM.set k (.int .i64 xs[k])).1
      have hf : ((tab k fun i => if pc i = q then xs.getD i 0 else 0) ++ List.replicate (m - k) 0).set k xs[k] = (tab (k + 1) fun i => if pc i = q then xs.getD i 0 else 0) ++ List.replicate (m - (k + 1)) 0 := by
       rw [← tab_pad_set hlt]; simp only [hpc, if_true]; rw [getD_of_lt 0 hxk]
      obtain ⟨hoc, hof⟩ := mkI_at hM hlt
      rw [ints_set, hf] at hset
      have HS := Lib.hid hset
      clear hset hM hpc hf
      go_wp2_with (go_at_call 227; refine (gradeOf_any k _ (by omega)).mono ?_; rintro e w' ⟨rfl, rfl⟩)
      go_roundw
      case rel => exact ⟨k + 1, by omega, by go_num, HS.out⟩
      case measure => simp [intOf]; omega
    · have hb : (((pc k : Nat) : Int) == (q : Int)) = false := by simp; omega
      have HS := Lib.hid (tab_pad_zero (f := fun i => if pc i = q then xs.getD i 0 else 0) hlt (if_neg hpc) ▸ hM)
      clear hM hpc
      go_wp2_with (go_at_call 227; refine (gradeOf_any k _ (by omega)).mono ?_; rintro e w' ⟨rfl, rfl⟩)
      go_roundw
      case rel => exact ⟨k + 1, by omega, by go_num, HS.out⟩
      case measure => simp [intOf]; omega
  · obtain rfl : k = m := by omega
    go_wp2
    go_ret
    exact ⟨_, _, rfl, by rw [HP.out]; simpa using hM⟩
set_option maxHeartbeats 3200000 in
set_option maxRecDepth 8000 in
theorem GradePart_ok (P : Int) (A : Option Addr) (n c : Nat) (sq : List Int) (X : Option Addr) (m cx : Nat) (xs : List Int) (q : Nat) (w : World) (hn : n ≤ 1048576) (hm : m ≤ 1048576) (ha : Rd w A n (ints sq)) (hx : Rd w X m (ints xs)) (hcx : m ≤ cx) (h0 : codeM P sq [xs] = 0) (hq : q ≤ n) :
    Calls Tryz.prog 39 #[.agg #[.int .i64 P, .slice A n c], .slice X m cx, .int .i64 q] w fun e w' => ∃ (A' : Option Addr) (c' : Nat), e = .returned (.tuple #[.slice A' m c', .int .i64 0]) ∧ MkI w w' A' m c' (partG xs q) := by
 have hB0 : Below w.heap.size w (w.alloc (.cells #[.int .i64 P, .slice A n c] 26)) := zG.alloc (Nat.le_refl _) _
 have k0 : Blk (w.alloc (.cells #[.int .i64 P, .slice A n c] 26)) w.heap.size 26 #[.int .i64 P, .slice A n c] := Blk.new _ _ _
 have hB1 : Below w.heap.size w ((w.alloc (.cells #[.int .i64 P, .slice A n c] 26)).alloc (.cells #[.slice X m cx] 24)) := hB0.alloc (by simp) _
 have k1 : Blk ((w.alloc (.cells #[.int .i64 P, .slice A n c] 26)).alloc (.cells #[.slice X m cx] 24)) w.heap.size 26 #[.int .i64 P, .slice A n c] := k0.alloc _
 have hreg := checkMultis_any P A (some ⟨w.heap.size + 1, 0, none⟩) n c 1 1 sq [xs] ((w.alloc (.cells #[.int .i64 P, .slice A n c] 26)).alloc (.cells #[.slice X m cx] 24)) hn (by omega) (ha.below hB1) (rdII_one' (Blk.newAt (by simp)) (hx.below hB1) hcx) (all_one (by rw [hx.lenI]; exact hm))
 rw [h0] at hreg
 obtain ⟨HP, hp, hp2, hd1, hd2, hs0, hms⟩ := codeM_spec2 h0
 obtain ⟨hx1, hxs0⟩ := hms xs (by simp)
 have hm64 : m ≤ 64 := by rw [← hx.lenI, hx1]; exact pw_le hd2
 have hsl := ha.lenI
 rw [hsl] at hd2
 have hcall := fun w' (hb : Below w.heap.size w w') => gradePart_any X m cx xs q w' hm64 (by omega) (hx.below hb)
 have hin : inR (q : Int) 0 (n : Int) = true := by simp [inR]; omega
 have hir := fun w' => inRange_b (b := true) (q : Int) 0 (n : Int) w' hin
 clear hms hx1 hs0 hxs0 h0 hsl hin
 go_enter Tryz.func39, Tryz.ntmps39
 go_wp2_with fail
 refine hreg.mono ?_
 rintro e w2 ⟨rfl, hb2⟩
 have hB2 := hB1.trans (hb2.mono hB1.size)
 have k2 := k1.below hb2 k1.lt
 obtain ⟨q0, q1⟩ := k2.two
 clear k0 hB0 k1 hB1 hb2 hreg
 have hdm := dim_any P A n c w2
 go_wp2_with fail
 refine hdm.mono ?_
 rintro e w3 ⟨rfl, hb3⟩
 have hB3 := hB2.trans (hb3.mono hB2.size)
 have k3 := k2.below hb3 k2.lt
 clear q0 q1 k2 hB2 hb3 hdm
 obtain ⟨q0, q1⟩ := k3.two
 go_wp2_with fail
 refine (hir _).mono ?_
 rintro e w4 ⟨rfl, rfl⟩
 go_wp2_with fail
 refine (hcall _ hB3).mono ?_
 rintro e w5 ⟨A', c', rfl, hM⟩
 have hM3 := hM.after hB3
 go_wp2
 go_ret2
 exact ⟨A', c', rfl, hM3⟩
theorem codeR_mk {P : Int} {sq : List Int} {ms : List (List Int)} (h1 : isSp P sq = true) (hr : regB sq = true) (h : ∀ ys ∈ ms, ys.length = pw sq.length ∧ NumsL P ys) : codeR P sq ms = 0 := by
 unfold codeR
 rw [if_pos (codeM_mk h1 h), hr]; rfl
theorem codeB_mk {P : Int} {sq : List Int} {ms : List (List Int)} (h1 : isSp P sq = true) (hr : regB sq = true) (h : ∀ ys ∈ ms, ys.length = pw sq.length ∧ NumsL P ys) (h2 : ∀ xs ∈ ms, onlyL xs 2 = true) : codeB P sq ms = 0 := by
 unfold codeB
 rw [if_pos (codeR_mk h1 hr h), if_pos (List.all_eq_true.2 h2)]
end Go.Proofs.YtmkjdpnoloofjaaGreat

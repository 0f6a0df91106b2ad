/-
  LawFnDerivations: part 5 of the texts that the proof needs. No condition.
-/
import Derived.Test.YtaiegpggccdgoaaGreatD4
namespace Go.Proofs.YtaiegpggccdgoaaGreat
open Go.RowKit
/-- Is it a doubling? -/
def isDb (p : Int) (st : List Int) : Bool := isP p && decide (st.length ≤ 4) && nums p st && !st.contains 0
set_option maxHeartbeats 1600000 in
set_option maxRecDepth 8000 in
theorem IsDoubling_any (p : Int) (A : Option Addr) (k c : Nat) (st : List Int) (w : World) (hk6 : k ≤ 65536) (ha : Rd w A k (ints st)) :
    Calls Tryz.prog 78 #[.agg #[.int .i64 p, .slice A k c]] w fun e w' => e = .returned (.bool (isDb p st)) ∧ Below w.heap.size w w' := by
 have hB0 : Below w.heap.size w (w.alloc (.cells #[.int .i64 p, .slice A k c] 26)) := zG.alloc (Nat.le_refl _) _
 have k0 : Blk (w.alloc (.cells #[.int .i64 p, .slice A k c] 26)) w.heap.size 26 #[.int .i64 p, .slice A k c] := Blk.new _ _ _
 have hxl : st.length = k := ha.lenI
 have Hx := Lib.hid hxl
 clear hxl
 cases h1 : isP p
 · have H1 := Lib.hid h1
   clear h1
   go_enter Tryz.func78, Tryz.ntmps78
   go_wp2
   refine wp_obs 23 [[],[0],[0,1],[0,1,2],[0,1,2,3],[0,1,2,3,4],[0,1,2,3,4,5],[0,1,2,3,4,5,6],[0,1,2,3,4,5,6,7],[0,1,2,3,4,5,6,7,8],[0,1,2,3,4,5,6,7,8,9],[0,1,2,3,4,5,6,7,8,9,10],[0,1,2,3,4,5,6,7,8,9],[0,1,2,3,4,5,6,7,8,9,12],[0,1,2,3,4,5,6,7,8,9,10,11,12,13],[0,1,2,3,4,5,6,7,8,9,10,11,12,13,14],[0,1,2,3,4,5,6,7,8,9,10,11,12,13,14,15],[0,1,2,3,4,5,6,7,8,9,10,11,12,13,14,15,16],[0,1,2,3,4,5,6,7,8,9,10,11,12,13,14,15,16,17],[0,1,2,3,4,5,6,7,8,9,10,11,12,13,14,15,16,17,18],[0,1,2,3,4,5,6,7,8,9,10,11,12,13,14,15,16,17,18,19],[0,1,2,3,4,5,6,7,8,9,10,11,12,13,14,15,16,17,18,19,20],[0,1,2,3,4,5,6,7,8,9,10,11,12,13,14,15,16,17,18,19,20,21]] [VIs (.pointer (some ⟨w.heap.size, 0, none⟩)), VIs (.int .i64 (p)), VIs (.bool false), VIs (.bool false), VIs undef, VIs undef, VIs undef, VIs undef, VIs (.bool false), VIs (.bool false), VIs undef, VIs undef, VIs undef, VIs undef, VIs undef, VIs (.bool false), VIs (.bool false), VIs undef, VIs undef, VIs undef, VIs undef, VIs (.bool false), VIs (.bool false)] (fun w' => Blk w' w.heap.size 26 #[.int .i64 p, .slice A k c] ∧ Below w.heap.size w w') (by kernel_rfl) (by kernel_rfl) (fun _ _ h hb => ⟨h.1.below hb h.1.lt, h.2.trans (hb.mono h.2.size)⟩) (⟨k0.drew, hB0.drew⟩) (fun x => ?_)
   refine zS (fun w' hS hV K hK => ?_) ?_
   · obtain ⟨q0, q1⟩ := hS.1.two; go_simp; exact zO hK
   refine zS (fun w' hS hV K hK => ?_) ?_
   · have e0 := zQ hV 0; obtain ⟨q0, q1⟩ := hS.1.two; go_simp; exact zO hK
   refine zS (fun w' hS hV K hK => ?_) ?_
   · have e1 := zQ hV 1; obtain ⟨q0, q1⟩ := hS.1.two; go_simp; refine (IsPrime_b _ _ H1.out).mono ?_; rintro e v1 ⟨rfl, rfl⟩; exact zO hK
   refine zS (fun w' hS hV K hK => ?_) ?_
   · have e2 := zQ hV 2; obtain ⟨q0, q1⟩ := hS.1.two; go_simp; exact zO hK
   refine zS (fun w' hS hV K hK => ?_) ?_
   · have e3 := zQ hV 3; obtain ⟨q0, q1⟩ := hS.1.two; go_simp; exact zO hK
   refine zS (fun w' hS hV K hK => ?_) ?_
   · have e3 := zQ hV 3; have e4 := zQ hV 4; obtain ⟨q0, q1⟩ := hS.1.two; go_simp; exact zO hK
   refine zS (fun w' hS hV K hK => ?_) ?_
   · have e3 := zQ hV 3; have e5 := zQ hV 5; obtain ⟨q0, q1⟩ := hS.1.two; go_simp; exact zO hK
   refine zS (fun w' hS hV K hK => ?_) ?_
   · have e3 := zQ hV 3; have e6 := zQ hV 6; obtain ⟨q0, q1⟩ := hS.1.two; go_simp; exact zO hK
   refine zS (fun w' hS hV K hK => ?_) ?_
   · have e3 := zQ hV 3; have e7 := zQ hV 7; obtain ⟨q0, q1⟩ := hS.1.two; go_simp; exact zO hK
   refine zS (fun w' hS hV K hK => ?_) ?_
   · have e8 := zQ hV 8; obtain ⟨q0, q1⟩ := hS.1.two; go_simp; exact zO hK
   refine zS (fun w' hS hV K hK => ?_) ?_
   · have e9 := zQ hV 9; obtain ⟨q0, q1⟩ := hS.1.two; go_simp; exact zO hK
   refine zS (fun w' hS hV K hK => ?_) ?_
   · have e9 := zQ hV 9; have e10 := zQ hV 10; obtain ⟨q0, q1⟩ := hS.1.two; go_simp; exact zO hK
   refine zS (fun w' hS hV K hK => ?_) ?_
   · have e9 := zQ hV 9; obtain ⟨q0, q1⟩ := hS.1.two; go_simp; exact zO hK
   refine zS (fun w' hS hV K hK => ?_) ?_
   · have e9 := zQ hV 9; have e12 := zQ hV 12; obtain ⟨q0, q1⟩ := hS.1.two; go_simp; exact zO hK
   refine zS (fun w' hS hV K hK => ?_) ?_
   · have e9 := zQ hV 9; have e11 := zQ hV 11; have e13 := zQ hV 13; obtain ⟨q0, q1⟩ := hS.1.two; go_simp; exact zO hK
   refine zS (fun w' hS hV K hK => ?_) ?_
   · have e9 := zQ hV 9; have e14 := zQ hV 14; obtain ⟨q0, q1⟩ := hS.1.two; go_simp; exact zO hK
   refine zS (fun w' hS hV K hK => ?_) ?_
   · have e15 := zQ hV 15; obtain ⟨q0, q1⟩ := hS.1.two; go_simp; exact zO hK
   refine zS (fun w' hS hV K hK => ?_) ?_
   · have e16 := zQ hV 16; obtain ⟨q0, q1⟩ := hS.1.two; go_simp; exact zO hK
   refine zS (fun w' hS hV K hK => ?_) ?_
   · have e16 := zQ hV 16; have e17 := zQ hV 17; obtain ⟨q0, q1⟩ := hS.1.two; go_simp; exact zO hK
   refine zS (fun w' hS hV K hK => ?_) ?_
   · have e16 := zQ hV 16; have e18 := zQ hV 18; obtain ⟨q0, q1⟩ := hS.1.two; go_simp; exact zO hK
   refine zS (fun w' hS hV K hK => ?_) ?_
   · have e16 := zQ hV 16; have e19 := zQ hV 19; obtain ⟨q0, q1⟩ := hS.1.two; go_simp; exact zO hK
   refine zS (fun w' hS hV K hK => ?_) ?_
   · have e16 := zQ hV 16; have e20 := zQ hV 20; obtain ⟨q0, q1⟩ := hS.1.two; go_simp; exact zO hK
   refine zS (fun w' hS hV K hK => ?_) ?_
   · have e21 := zQ hV 21; obtain ⟨q0, q1⟩ := hS.1.two; go_simp; exact zO hK
   refine fun w' hS hV => ?_
   have e0 := zT hV 0
   have e1 := zT hV 1
   have e2 := zT hV 2
   have e3 := zT hV 3
   have e4 := zT hV 4
   have e5 := zT hV 5
   have e6 := zT hV 6
   have e7 := zT hV 7
   have e8 := zT hV 8
   have e9 := zT hV 9
   have e10 := zT hV 10
   have e11 := zT hV 11
   have e12 := zT hV 12
   have e13 := zT hV 13
   have e14 := zT hV 14
   have e15 := zT hV 15
   have e16 := zT hV 16
   have e17 := zT hV 17
   have e18 := zT hV 18
   have e19 := zT hV 19
   have e20 := zT hV 20
   have e21 := zT hV 21
   have e22 := zT hV 22
   simp only [e0, e1, e2, e3, e4, e5, e6, e7, e8, e9, e10, e11, e12, e13, e14, e15, e16, e17, e18, e19, e20, e21, e22]
   clear e0 e1 e2 e3 e4 e5 e6 e7 e8 e9 e10 e11 e12 e13 e14 e15 e16 e17 e18 e19 e20 e21 e22
   refine wpAny_done (by kernel_rfl) ?_ _
   go_wp2
   go_ret
   exact ⟨ret_bool (by unfold isDb; rw [Hx.out]; simp [H1.out]), hS.2⟩
 · obtain ⟨hp0, hp1⟩ := isP_pos h1
   have H1 := Lib.hid h1
   clear h1
   by_cases h2 : k ≤ 4
   · have h2' : (k : Int) ≤ 4 := by omega
     cases h3 : nums p st
     · have H3 := Lib.hid h3
       clear h3
       go_enter Tryz.func78, Tryz.ntmps78
       go_wp2
       refine wp_obs 23 [[],[0],[0,1],[0,1,2],[0,1,2,3],[0,1,2,3,4],[0,1,2,3,4,5],[0,1,2,3,4,5,6],[0,1,2,3,4,5,6,7],[0,1,2,3,4,5,6,7,8],[0,1,2,3,4,5,6,7,8,9],[0,1,2,3,4,5,6,7,8,9,10],[0,1,2,3,4,5,6,7,8,9],[0,1,2,3,4,5,6,7,8,9,12],[0,1,2,3,4,5,6,7,8,9,10,11,12,13],[0,1,2,3,4,5,6,7,8,9,10,11,12,13,14],[0,1,2,3,4,5,6,7,8,9,10,11,12,13,14,15],[0,1,2,3,4,5,6,7,8,9,10,11,12,13,14,15,16],[0,1,2,3,4,5,6,7,8,9,10,11,12,13,14,15,16,17],[0,1,2,3,4,5,6,7,8,9,10,11,12,13,14,15,16,17,18],[0,1,2,3,4,5,6,7,8,9,10,11,12,13,14,15,16,17,18,19],[0,1,2,3,4,5,6,7,8,9,10,11,12,13,14,15,16,17,18,19,20],[0,1,2,3,4,5,6,7,8,9,10,11,12,13,14,15,16,17,18,19,20,21]] [VIs (.pointer (some ⟨w.heap.size, 0, none⟩)), VIs (.int .i64 (p)), VIs (.bool true), VIs (.bool true), VIs (.pointer (some ⟨w.heap.size, 1, none⟩)), VIs (.slice A k c), VIs (.int .i64 (k)), VIs (.bool true), VIs (.bool true), VIs (.bool true), VIs (.agg #[.int .i64 p, .slice A k c]), VIs (.int .i64 (p)), VIs (.pointer (some ⟨w.heap.size, 1, none⟩)), VIs (.slice A k c), VIs (.bool false), VIs (.bool false), VIs (.bool false), VIs undef, VIs undef, VIs undef, VIs undef, VIs (.bool false), VIs (.bool false)] (fun w' => Blk w' w.heap.size 26 #[.int .i64 p, .slice A k c] ∧ Below w.heap.size w w') (by kernel_rfl) (by kernel_rfl) (fun _ _ h hb => ⟨h.1.below hb h.1.lt, h.2.trans (hb.mono h.2.size)⟩) (⟨k0.drew, hB0.drew⟩) (fun x => ?_)
       refine zS (fun w' hS hV K hK => ?_) ?_
       · obtain ⟨q0, q1⟩ := hS.1.two; go_simp; exact zO hK
       refine zS (fun w' hS hV K hK => ?_) ?_
       · have e0 := zQ hV 0; obtain ⟨q0, q1⟩ := hS.1.two; go_simp; exact zO hK
       refine zS (fun w' hS hV K hK => ?_) ?_
       · have e1 := zQ hV 1; obtain ⟨q0, q1⟩ := hS.1.two; go_simp; refine (IsPrime_b _ _ H1.out).mono ?_; rintro e v1 ⟨rfl, rfl⟩; exact zO hK
       refine zS (fun w' hS hV K hK => ?_) ?_
       · have e2 := zQ hV 2; obtain ⟨q0, q1⟩ := hS.1.two; go_simp; exact zO hK
       refine zS (fun w' hS hV K hK => ?_) ?_
       · have e3 := zQ hV 3; obtain ⟨q0, q1⟩ := hS.1.two; go_simp; exact zO hK
       refine zS (fun w' hS hV K hK => ?_) ?_
       · have e3 := zQ hV 3; have e4 := zQ hV 4; obtain ⟨q0, q1⟩ := hS.1.two; go_simp; exact zO hK
       refine zS (fun w' hS hV K hK => ?_) ?_
       · have e3 := zQ hV 3; have e5 := zQ hV 5; obtain ⟨q0, q1⟩ := hS.1.two; go_simp; exact zO hK
       refine zS (fun w' hS hV K hK => ?_) ?_
       · have e3 := zQ hV 3; have e6 := zQ hV 6; obtain ⟨q0, q1⟩ := hS.1.two; go_simp; exact zO hK
       refine zS (fun w' hS hV K hK => ?_) ?_
       · have e3 := zQ hV 3; have e7 := zQ hV 7; obtain ⟨q0, q1⟩ := hS.1.two; go_simp; exact zO hK
       refine zS (fun w' hS hV K hK => ?_) ?_
       · have e8 := zQ hV 8; obtain ⟨q0, q1⟩ := hS.1.two; go_simp; exact zO hK
       refine zS (fun w' hS hV K hK => ?_) ?_
       · have e9 := zQ hV 9; obtain ⟨q0, q1⟩ := hS.1.two; go_simp; exact zO hK
       refine zS (fun w' hS hV K hK => ?_) ?_
       · have e9 := zQ hV 9; have e10 := zQ hV 10; obtain ⟨q0, q1⟩ := hS.1.two; go_simp; refine (dfield_any p A k c w').mono ?_; rintro e v1 ⟨rfl, hb⟩; exact hK.out _ _ _ rfl rfl rfl hb
       refine zS (fun w' hS hV K hK => ?_) ?_
       · have e9 := zQ hV 9; obtain ⟨q0, q1⟩ := hS.1.two; go_simp; exact zO hK
       refine zS (fun w' hS hV K hK => ?_) ?_
       · have e9 := zQ hV 9; have e12 := zQ hV 12; obtain ⟨q0, q1⟩ := hS.1.two; go_simp; exact zO hK
       refine zS (fun w' hS hV K hK => ?_) ?_
       · have e9 := zQ hV 9; have e11 := zQ hV 11; have e13 := zQ hV 13; obtain ⟨q0, q1⟩ := hS.1.two; go_simp; refine (is_b p A k c st w' hp0 (by omega) (by omega) (ha.below hS.2) H3.out).mono ?_; rintro e v1 ⟨rfl, rfl⟩; exact zO hK
       refine zS (fun w' hS hV K hK => ?_) ?_
       · have e9 := zQ hV 9; have e14 := zQ hV 14; obtain ⟨q0, q1⟩ := hS.1.two; go_simp; exact zO hK
       refine zS (fun w' hS hV K hK => ?_) ?_
       · have e15 := zQ hV 15; obtain ⟨q0, q1⟩ := hS.1.two; go_simp; exact zO hK
       refine zS (fun w' hS hV K hK => ?_) ?_
       · have e16 := zQ hV 16; obtain ⟨q0, q1⟩ := hS.1.two; go_simp; exact zO hK
       refine zS (fun w' hS hV K hK => ?_) ?_
       · have e16 := zQ hV 16; have e17 := zQ hV 17; obtain ⟨q0, q1⟩ := hS.1.two; go_simp; exact zO hK
       refine zS (fun w' hS hV K hK => ?_) ?_
       · have e16 := zQ hV 16; have e18 := zQ hV 18; obtain ⟨q0, q1⟩ := hS.1.two; go_simp; exact zO hK
       refine zS (fun w' hS hV K hK => ?_) ?_
       · have e16 := zQ hV 16; have e19 := zQ hV 19; obtain ⟨q0, q1⟩ := hS.1.two; go_simp; exact zO hK
       refine zS (fun w' hS hV K hK => ?_) ?_
       · have e16 := zQ hV 16; have e20 := zQ hV 20; obtain ⟨q0, q1⟩ := hS.1.two; go_simp; exact zO hK
       refine zS (fun w' hS hV K hK => ?_) ?_
       · have e21 := zQ hV 21; obtain ⟨q0, q1⟩ := hS.1.two; go_simp; exact zO hK
       refine fun w' hS hV => ?_
       have e0 := zT hV 0
       have e1 := zT hV 1
       have e2 := zT hV 2
       have e3 := zT hV 3
       have e4 := zT hV 4
       have e5 := zT hV 5
       have e6 := zT hV 6
       have e7 := zT hV 7
       have e8 := zT hV 8
       have e9 := zT hV 9
       have e10 := zT hV 10
       have e11 := zT hV 11
       have e12 := zT hV 12
       have e13 := zT hV 13
       have e14 := zT hV 14
       have e15 := zT hV 15
       have e16 := zT hV 16
       have e17 := zT hV 17
       have e18 := zT hV 18
       have e19 := zT hV 19
       have e20 := zT hV 20
       have e21 := zT hV 21
       have e22 := zT hV 22
       simp only [e0, e1, e2, e3, e4, e5, e6, e7, e8, e9, e10, e11, e12, e13, e14, e15, e16, e17, e18, e19, e20, e21, e22]
       clear e0 e1 e2 e3 e4 e5 e6 e7 e8 e9 e10 e11 e12 e13 e14 e15 e16 e17 e18 e19 e20 e21 e22
       refine wpAny_done (by kernel_rfl) ?_ _
       go_wp2
       go_ret
       exact ⟨ret_bool (by unfold isDb; rw [Hx.out]; simp [H1.out, H3.out]), hS.2⟩
     · have H3 := Lib.hid h3
       clear h3
       cases h4 : st.contains 0
       · have H4 := Lib.hid h4
         clear h4
         go_enter Tryz.func78, Tryz.ntmps78
         go_wp2
         refine wp_obs 23 [[],[0],[0,1],[0,1,2],[0,1,2,3],[0,1,2,3,4],[0,1,2,3,4,5],[0,1,2,3,4,5,6],[0,1,2,3,4,5,6,7],[0,1,2,3,4,5,6,7,8],[0,1,2,3,4,5,6,7,8,9],[0,1,2,3,4,5,6,7,8,9,10],[0,1,2,3,4,5,6,7,8,9],[0,1,2,3,4,5,6,7,8,9,12],[0,1,2,3,4,5,6,7,8,9,10,11,12,13],[0,1,2,3,4,5,6,7,8,9,10,11,12,13,14],[0,1,2,3,4,5,6,7,8,9,10,11,12,13,14,15],[0,1,2,3,4,5,6,7,8,9,10,11,12,13,14,15,16],[0,1,2,3,4,5,6,7,8,9,10,11,12,13,14,15,16,17],[0,1,2,3,4,5,6,7,8,9,10,11,12,13,14,15,16,17,18],[0,1,2,3,4,5,6,7,8,9,10,11,12,13,14,15,16,17,18,19],[0,1,2,3,4,5,6,7,8,9,10,11,12,13,14,15,16,17,18,19,20],[0,1,2,3,4,5,6,7,8,9,10,11,12,13,14,15,16,17,18,19,20,21]] [VIs (.pointer (some ⟨w.heap.size, 0, none⟩)), VIs (.int .i64 (p)), VIs (.bool true), VIs (.bool true), VIs (.pointer (some ⟨w.heap.size, 1, none⟩)), VIs (.slice A k c), VIs (.int .i64 (k)), VIs (.bool true), VIs (.bool true), VIs (.bool true), VIs (.agg #[.int .i64 p, .slice A k c]), VIs (.int .i64 (p)), VIs (.pointer (some ⟨w.heap.size, 1, none⟩)), VIs (.slice A k c), VIs (.bool true), VIs (.bool true), VIs (.bool true), VIs (.pointer (some ⟨w.heap.size, 1, none⟩)), VIs (.slice A k c), VIs (.bool false), VIs (.bool true), VIs (.bool true), VIs (.bool true)] (fun w' => Blk w' w.heap.size 26 #[.int .i64 p, .slice A k c] ∧ Below w.heap.size w w') (by kernel_rfl) (by kernel_rfl) (fun _ _ h hb => ⟨h.1.below hb h.1.lt, h.2.trans (hb.mono h.2.size)⟩) (⟨k0.drew, hB0.drew⟩) (fun x => ?_)
         refine zS (fun w' hS hV K hK => ?_) ?_
         · obtain ⟨q0, q1⟩ := hS.1.two; go_simp; exact zO hK
         refine zS (fun w' hS hV K hK => ?_) ?_
         · have e0 := zQ hV 0; obtain ⟨q0, q1⟩ := hS.1.two; go_simp; exact zO hK
         refine zS (fun w' hS hV K hK => ?_) ?_
         · have e1 := zQ hV 1; obtain ⟨q0, q1⟩ := hS.1.two; go_simp; refine (IsPrime_b _ _ H1.out).mono ?_; rintro e v1 ⟨rfl, rfl⟩; exact zO hK
         refine zS (fun w' hS hV K hK => ?_) ?_
         · have e2 := zQ hV 2; obtain ⟨q0, q1⟩ := hS.1.two; go_simp; exact zO hK
         refine zS (fun w' hS hV K hK => ?_) ?_
         · have e3 := zQ hV 3; obtain ⟨q0, q1⟩ := hS.1.two; go_simp; exact zO hK
         refine zS (fun w' hS hV K hK => ?_) ?_
         · have e3 := zQ hV 3; have e4 := zQ hV 4; obtain ⟨q0, q1⟩ := hS.1.two; go_simp; exact zO hK
         refine zS (fun w' hS hV K hK => ?_) ?_
         · have e3 := zQ hV 3; have e5 := zQ hV 5; obtain ⟨q0, q1⟩ := hS.1.two; go_simp; exact zO hK
         refine zS (fun w' hS hV K hK => ?_) ?_
         · have e3 := zQ hV 3; have e6 := zQ hV 6; obtain ⟨q0, q1⟩ := hS.1.two; go_simp; exact zO hK
         refine zS (fun w' hS hV K hK => ?_) ?_
         · have e3 := zQ hV 3; have e7 := zQ hV 7; obtain ⟨q0, q1⟩ := hS.1.two; go_simp; exact zO hK
         refine zS (fun w' hS hV K hK => ?_) ?_
         · have e8 := zQ hV 8; obtain ⟨q0, q1⟩ := hS.1.two; go_simp; exact zO hK
         refine zS (fun w' hS hV K hK => ?_) ?_
         · have e9 := zQ hV 9; obtain ⟨q0, q1⟩ := hS.1.two; go_simp; exact zO hK
         refine zS (fun w' hS hV K hK => ?_) ?_
         · have e9 := zQ hV 9; have e10 := zQ hV 10; obtain ⟨q0, q1⟩ := hS.1.two; go_simp; refine (dfield_any p A k c w').mono ?_; rintro e v1 ⟨rfl, hb⟩; exact hK.out _ _ _ rfl rfl rfl hb
         refine zS (fun w' hS hV K hK => ?_) ?_
         · have e9 := zQ hV 9; obtain ⟨q0, q1⟩ := hS.1.two; go_simp; exact zO hK
         refine zS (fun w' hS hV K hK => ?_) ?_
         · have e9 := zQ hV 9; have e12 := zQ hV 12; obtain ⟨q0, q1⟩ := hS.1.two; go_simp; exact zO hK
         refine zS (fun w' hS hV K hK => ?_) ?_
         · have e9 := zQ hV 9; have e11 := zQ hV 11; have e13 := zQ hV 13; obtain ⟨q0, q1⟩ := hS.1.two; go_simp; refine (is_b p A k c st w' hp0 (by omega) (by omega) (ha.below hS.2) H3.out).mono ?_; rintro e v1 ⟨rfl, rfl⟩; exact zO hK
         refine zS (fun w' hS hV K hK => ?_) ?_
         · have e9 := zQ hV 9; have e14 := zQ hV 14; obtain ⟨q0, q1⟩ := hS.1.two; go_simp; exact zO hK
         refine zS (fun w' hS hV K hK => ?_) ?_
         · have e15 := zQ hV 15; obtain ⟨q0, q1⟩ := hS.1.two; go_simp; exact zO hK
         refine zS (fun w' hS hV K hK => ?_) ?_
         · have e16 := zQ hV 16; obtain ⟨q0, q1⟩ := hS.1.two; go_simp; exact zO hK
         refine zS (fun w' hS hV K hK => ?_) ?_
         · have e16 := zQ hV 16; have e17 := zQ hV 17; obtain ⟨q0, q1⟩ := hS.1.two; go_simp; exact zO hK
         refine zS (fun w' hS hV K hK => ?_) ?_
         · have e16 := zQ hV 16; have e18 := zQ hV 18; obtain ⟨q0, q1⟩ := hS.1.two; go_simp; refine (Contains_b A k c st 0 w' (by omega) (ha.below hS.2) H4.out).mono ?_; rintro e v1 ⟨rfl, rfl⟩; exact zO hK
         refine zS (fun w' hS hV K hK => ?_) ?_
         · have e16 := zQ hV 16; have e19 := zQ hV 19; obtain ⟨q0, q1⟩ := hS.1.two; go_simp; exact zO hK
         refine zS (fun w' hS hV K hK => ?_) ?_
         · have e16 := zQ hV 16; have e20 := zQ hV 20; obtain ⟨q0, q1⟩ := hS.1.two; go_simp; exact zO hK
         refine zS (fun w' hS hV K hK => ?_) ?_
         · have e21 := zQ hV 21; obtain ⟨q0, q1⟩ := hS.1.two; go_simp; exact zO hK
         refine fun w' hS hV => ?_
         have e0 := zT hV 0
         have e1 := zT hV 1
         have e2 := zT hV 2
         have e3 := zT hV 3
         have e4 := zT hV 4
         have e5 := zT hV 5
         have e6 := zT hV 6
         have e7 := zT hV 7
         have e8 := zT hV 8
         have e9 := zT hV 9
         have e10 := zT hV 10
         have e11 := zT hV 11
         have e12 := zT hV 12
         have e13 := zT hV 13
         have e14 := zT hV 14
         have e15 := zT hV 15
         have e16 := zT hV 16
         have e17 := zT hV 17
         have e18 := zT hV 18
         have e19 := zT hV 19
         have e20 := zT hV 20
         have e21 := zT hV 21
         have e22 := zT hV 22
         simp only [e0, e1, e2, e3, e4, e5, e6, e7, e8, e9, e10, e11, e12, e13, e14, e15, e16, e17, e18, e19, e20, e21, e22]
         clear e0 e1 e2 e3 e4 e5 e6 e7 e8 e9 e10 e11 e12 e13 e14 e15 e16 e17 e18 e19 e20 e21 e22
         refine wpAny_done (by kernel_rfl) ?_ _
         go_wp2
         go_ret
         exact ⟨ret_bool (by unfold isDb; rw [Hx.out]; rw [H1.out, H3.out, H4.out]; simp [h2]), hS.2⟩
       · have H4 := Lib.hid h4
         clear h4
         go_enter Tryz.func78, Tryz.ntmps78
         go_wp2
         refine wp_obs 23 [[],[0],[0,1],[0,1,2],[0,1,2,3],[0,1,2,3,4],[0,1,2,3,4,5],[0,1,2,3,4,5,6],[0,1,2,3,4,5,6,7],[0,1,2,3,4,5,6,7,8],[0,1,2,3,4,5,6,7,8,9],[0,1,2,3,4,5,6,7,8,9,10],[0,1,2,3,4,5,6,7,8,9],[0,1,2,3,4,5,6,7,8,9,12],[0,1,2,3,4,5,6,7,8,9,10,11,12,13],[0,1,2,3,4,5,6,7,8,9,10,11,12,13,14],[0,1,2,3,4,5,6,7,8,9,10,11,12,13,14,15],[0,1,2,3,4,5,6,7,8,9,10,11,12,13,14,15,16],[0,1,2,3,4,5,6,7,8,9,10,11,12,13,14,15,16,17],[0,1,2,3,4,5,6,7,8,9,10,11,12,13,14,15,16,17,18],[0,1,2,3,4,5,6,7,8,9,10,11,12,13,14,15,16,17,18,19],[0,1,2,3,4,5,6,7,8,9,10,11,12,13,14,15,16,17,18,19,20],[0,1,2,3,4,5,6,7,8,9,10,11,12,13,14,15,16,17,18,19,20,21]] [VIs (.pointer (some ⟨w.heap.size, 0, none⟩)), VIs (.int .i64 (p)), VIs (.bool true), VIs (.bool true), VIs (.pointer (some ⟨w.heap.size, 1, none⟩)), VIs (.slice A k c), VIs (.int .i64 (k)), VIs (.bool true), VIs (.bool true), VIs (.bool true), VIs (.agg #[.int .i64 p, .slice A k c]), VIs (.int .i64 (p)), VIs (.pointer (some ⟨w.heap.size, 1, none⟩)), VIs (.slice A k c), VIs (.bool true), VIs (.bool true), VIs (.bool true), VIs (.pointer (some ⟨w.heap.size, 1, none⟩)), VIs (.slice A k c), VIs (.bool true), VIs (.bool false), VIs (.bool false), VIs (.bool false)] (fun w' => Blk w' w.heap.size 26 #[.int .i64 p, .slice A k c] ∧ Below w.heap.size w w') (by kernel_rfl) (by kernel_rfl) (fun _ _ h hb => ⟨h.1.below hb h.1.lt, h.2.trans (hb.mono h.2.size)⟩) (⟨k0.drew, hB0.drew⟩) (fun x => ?_)
         refine zS (fun w' hS hV K hK => ?_) ?_
         · obtain ⟨q0, q1⟩ := hS.1.two; go_simp; exact zO hK
         refine zS (fun w' hS hV K hK => ?_) ?_
         · have e0 := zQ hV 0; obtain ⟨q0, q1⟩ := hS.1.two; go_simp; exact zO hK
         refine zS (fun w' hS hV K hK => ?_) ?_
         · have e1 := zQ hV 1; obtain ⟨q0, q1⟩ := hS.1.two; go_simp; refine (IsPrime_b _ _ H1.out).mono ?_; rintro e v1 ⟨rfl, rfl⟩; exact zO hK
         refine zS (fun w' hS hV K hK => ?_) ?_
         · have e2 := zQ hV 2; obtain ⟨q0, q1⟩ := hS.1.two; go_simp; exact zO hK
         refine zS (fun w' hS hV K hK => ?_) ?_
         · have e3 := zQ hV 3; obtain ⟨q0, q1⟩ := hS.1.two; go_simp; exact zO hK
         refine zS (fun w' hS hV K hK => ?_) ?_
         · have e3 := zQ hV 3; have e4 := zQ hV 4; obtain ⟨q0, q1⟩ := hS.1.two; go_simp; exact zO hK
         refine zS (fun w' hS hV K hK => ?_) ?_
         · have e3 := zQ hV 3; have e5 := zQ hV 5; obtain ⟨q0, q1⟩ := hS.1.two; go_simp; exact zO hK
         refine zS (fun w' hS hV K hK => ?_) ?_
         · have e3 := zQ hV 3; have e6 := zQ hV 6; obtain ⟨q0, q1⟩ := hS.1.two; go_simp; exact zO hK
         refine zS (fun w' hS hV K hK => ?_) ?_
         · have e3 := zQ hV 3; have e7 := zQ hV 7; obtain ⟨q0, q1⟩ := hS.1.two; go_simp; exact zO hK
         refine zS (fun w' hS hV K hK => ?_) ?_
         · have e8 := zQ hV 8; obtain ⟨q0, q1⟩ := hS.1.two; go_simp; exact zO hK
         refine zS (fun w' hS hV K hK => ?_) ?_
         · have e9 := zQ hV 9; obtain ⟨q0, q1⟩ := hS.1.two; go_simp; exact zO hK
         refine zS (fun w' hS hV K hK => ?_) ?_
         · have e9 := zQ hV 9; have e10 := zQ hV 10; obtain ⟨q0, q1⟩ := hS.1.two; go_simp; refine (dfield_any p A k c w').mono ?_; rintro e v1 ⟨rfl, hb⟩; exact hK.out _ _ _ rfl rfl rfl hb
         refine zS (fun w' hS hV K hK => ?_) ?_
         · have e9 := zQ hV 9; obtain ⟨q0, q1⟩ := hS.1.two; go_simp; exact zO hK
         refine zS (fun w' hS hV K hK => ?_) ?_
         · have e9 := zQ hV 9; have e12 := zQ hV 12; obtain ⟨q0, q1⟩ := hS.1.two; go_simp; exact zO hK
         refine zS (fun w' hS hV K hK => ?_) ?_
         · have e9 := zQ hV 9; have e11 := zQ hV 11; have e13 := zQ hV 13; obtain ⟨q0, q1⟩ := hS.1.two; go_simp; refine (is_b p A k c st w' hp0 (by omega) (by omega) (ha.below hS.2) H3.out).mono ?_; rintro e v1 ⟨rfl, rfl⟩; exact zO hK
         refine zS (fun w' hS hV K hK => ?_) ?_
         · have e9 := zQ hV 9; have e14 := zQ hV 14; obtain ⟨q0, q1⟩ := hS.1.two; go_simp; exact zO hK
         refine zS (fun w' hS hV K hK => ?_) ?_
         · have e15 := zQ hV 15; obtain ⟨q0, q1⟩ := hS.1.two; go_simp; exact zO hK
         refine zS (fun w' hS hV K hK => ?_) ?_
         · have e16 := zQ hV 16; obtain ⟨q0, q1⟩ := hS.1.two; go_simp; exact zO hK
         refine zS (fun w' hS hV K hK => ?_) ?_
         · have e16 := zQ hV 16; have e17 := zQ hV 17; obtain ⟨q0, q1⟩ := hS.1.two; go_simp; exact zO hK
         refine zS (fun w' hS hV K hK => ?_) ?_
         · have e16 := zQ hV 16; have e18 := zQ hV 18; obtain ⟨q0, q1⟩ := hS.1.two; go_simp; refine (Contains_b A k c st 0 w' (by omega) (ha.below hS.2) H4.out).mono ?_; rintro e v1 ⟨rfl, rfl⟩; exact zO hK
         refine zS (fun w' hS hV K hK => ?_) ?_
         · have e16 := zQ hV 16; have e19 := zQ hV 19; obtain ⟨q0, q1⟩ := hS.1.two; go_simp; exact zO hK
         refine zS (fun w' hS hV K hK => ?_) ?_
         · have e16 := zQ hV 16; have e20 := zQ hV 20; obtain ⟨q0, q1⟩ := hS.1.two; go_simp; exact zO hK
         refine zS (fun w' hS hV K hK => ?_) ?_
         · have e21 := zQ hV 21; obtain ⟨q0, q1⟩ := hS.1.two; go_simp; exact zO hK
         refine fun w' hS hV => ?_
         have e0 := zT hV 0
         have e1 := zT hV 1
         have e2 := zT hV 2
         have e3 := zT hV 3
         have e4 := zT hV 4
         have e5 := zT hV 5
         have e6 := zT hV 6
         have e7 := zT hV 7
         have e8 := zT hV 8
         have e9 := zT hV 9
         have e10 := zT hV 10
         have e11 := zT hV 11
         have e12 := zT hV 12
         have e13 := zT hV 13
         have e14 := zT hV 14
         have e15 := zT hV 15
         have e16 := zT hV 16
         have e17 := zT hV 17
         have e18 := zT hV 18
         have e19 := zT hV 19
         have e20 := zT hV 20
         have e21 := zT hV 21
         have e22 := zT hV 22
         simp only [e0, e1, e2, e3, e4, e5, e6, e7, e8, e9, e10, e11, e12, e13, e14, e15, e16, e17, e18, e19, e20, e21, e22]
         clear e0 e1 e2 e3 e4 e5 e6 e7 e8 e9 e10 e11 e12 e13 e14 e15 e16 e17 e18 e19 e20 e21 e22
         refine wpAny_done (by kernel_rfl) ?_ _
         go_wp2
         go_ret
         exact ⟨ret_bool (by unfold isDb; rw [Hx.out]; rw [H1.out, H3.out, H4.out]; simp [h2]), hS.2⟩
   · have h2' : ((k : Int) ≤ 4) = False := eq_false (by omega)
     have h2d : decide ((k : Int) ≤ 4) = false := by rw [decide_eq_false_iff_not]; omega
     have h4k : (4 : Int) < k := by omega
     go_enter Tryz.func78, Tryz.ntmps78
     go_wp2
     refine wp_obs 23 [[],[0],[0,1],[0,1,2],[0,1,2,3],[0,1,2,3,4],[0,1,2,3,4,5],[0,1,2,3,4,5,6],[0,1,2,3,4,5,6,7],[0,1,2,3,4,5,6,7,8],[0,1,2,3,4,5,6,7,8,9],[0,1,2,3,4,5,6,7,8,9,10],[0,1,2,3,4,5,6,7,8,9],[0,1,2,3,4,5,6,7,8,9,12],[0,1,2,3,4,5,6,7,8,9,10,11,12,13],[0,1,2,3,4,5,6,7,8,9,10,11,12,13,14],[0,1,2,3,4,5,6,7,8,9,10,11,12,13,14,15],[0,1,2,3,4,5,6,7,8,9,10,11,12,13,14,15,16],[0,1,2,3,4,5,6,7,8,9,10,11,12,13,14,15,16,17],[0,1,2,3,4,5,6,7,8,9,10,11,12,13,14,15,16,17,18],[0,1,2,3,4,5,6,7,8,9,10,11,12,13,14,15,16,17,18,19],[0,1,2,3,4,5,6,7,8,9,10,11,12,13,14,15,16,17,18,19,20],[0,1,2,3,4,5,6,7,8,9,10,11,12,13,14,15,16,17,18,19,20,21]] [VIs (.pointer (some ⟨w.heap.size, 0, none⟩)), VIs (.int .i64 (p)), VIs (.bool true), VIs (.bool true), VIs (.pointer (some ⟨w.heap.size, 1, none⟩)), VIs (.slice A k c), VIs (.int .i64 (k)), VIs (.bool false), VIs (.bool false), VIs (.bool false), VIs undef, VIs undef, VIs undef, VIs undef, VIs undef, VIs (.bool false), VIs (.bool false), VIs undef, VIs undef, VIs undef, VIs undef, VIs (.bool false), VIs (.bool false)] (fun w' => Blk w' w.heap.size 26 #[.int .i64 p, .slice A k c] ∧ Below w.heap.size w w') (by kernel_rfl) (by kernel_rfl) (fun _ _ h hb => ⟨h.1.below hb h.1.lt, h.2.trans (hb.mono h.2.size)⟩) (⟨k0.drew, hB0.drew⟩) (fun x => ?_)
     refine zS (fun w' hS hV K hK => ?_) ?_
     · obtain ⟨q0, q1⟩ := hS.1.two; go_simp; exact zO hK
     refine zS (fun w' hS hV K hK => ?_) ?_
     · have e0 := zQ hV 0; obtain ⟨q0, q1⟩ := hS.1.two; go_simp; exact zO hK
     refine zS (fun w' hS hV K hK => ?_) ?_
     · have e1 := zQ hV 1; obtain ⟨q0, q1⟩ := hS.1.two; go_simp; refine (IsPrime_b _ _ H1.out).mono ?_; rintro e v1 ⟨rfl, rfl⟩; exact zO hK
     refine zS (fun w' hS hV K hK => ?_) ?_
     · have e2 := zQ hV 2; obtain ⟨q0, q1⟩ := hS.1.two; go_simp; exact zO hK
     refine zS (fun w' hS hV K hK => ?_) ?_
     · have e3 := zQ hV 3; obtain ⟨q0, q1⟩ := hS.1.two; go_simp; exact zO hK
     refine zS (fun w' hS hV K hK => ?_) ?_
     · have e3 := zQ hV 3; have e4 := zQ hV 4; obtain ⟨q0, q1⟩ := hS.1.two; go_simp; exact zO hK
     refine zS (fun w' hS hV K hK => ?_) ?_
     · have e3 := zQ hV 3; have e5 := zQ hV 5; obtain ⟨q0, q1⟩ := hS.1.two; go_simp; exact zO hK
     refine zS (fun w' hS hV K hK => ?_) ?_
     · have e3 := zQ hV 3; have e6 := zQ hV 6; obtain ⟨q0, q1⟩ := hS.1.two; go_simp; exact zO hK
     refine zS (fun w' hS hV K hK => ?_) ?_
     · have e3 := zQ hV 3; have e7 := zQ hV 7; obtain ⟨q0, q1⟩ := hS.1.two; go_simp; exact zO hK
     refine zS (fun w' hS hV K hK => ?_) ?_
     · have e8 := zQ hV 8; obtain ⟨q0, q1⟩ := hS.1.two; go_simp; exact zO hK
     refine zS (fun w' hS hV K hK => ?_) ?_
     · have e9 := zQ hV 9; obtain ⟨q0, q1⟩ := hS.1.two; go_simp; exact zO hK
     refine zS (fun w' hS hV K hK => ?_) ?_
     · have e9 := zQ hV 9; have e10 := zQ hV 10; obtain ⟨q0, q1⟩ := hS.1.two; go_simp; exact zO hK
     refine zS (fun w' hS hV K hK => ?_) ?_
     · have e9 := zQ hV 9; obtain ⟨q0, q1⟩ := hS.1.two; go_simp; exact zO hK
     refine zS (fun w' hS hV K hK => ?_) ?_
     · have e9 := zQ hV 9; have e12 := zQ hV 12; obtain ⟨q0, q1⟩ := hS.1.two; go_simp; exact zO hK
     refine zS (fun w' hS hV K hK => ?_) ?_
     · have e9 := zQ hV 9; have e11 := zQ hV 11; have e13 := zQ hV 13; obtain ⟨q0, q1⟩ := hS.1.two; go_simp; exact zO hK
     refine zS (fun w' hS hV K hK => ?_) ?_
     · have e9 := zQ hV 9; have e14 := zQ hV 14; obtain ⟨q0, q1⟩ := hS.1.two; go_simp; exact zO hK
     refine zS (fun w' hS hV K hK => ?_) ?_
     · have e15 := zQ hV 15; obtain ⟨q0, q1⟩ := hS.1.two; go_simp; exact zO hK
     refine zS (fun w' hS hV K hK => ?_) ?_
     · have e16 := zQ hV 16; obtain ⟨q0, q1⟩ := hS.1.two; go_simp; exact zO hK
     refine zS (fun w' hS hV K hK => ?_) ?_
     · have e16 := zQ hV 16; have e17 := zQ hV 17; obtain ⟨q0, q1⟩ := hS.1.two; go_simp; exact zO hK
     refine zS (fun w' hS hV K hK => ?_) ?_
     · have e16 := zQ hV 16; have e18 := zQ hV 18; obtain ⟨q0, q1⟩ := hS.1.two; go_simp; exact zO hK
     refine zS (fun w' hS hV K hK => ?_) ?_
     · have e16 := zQ hV 16; have e19 := zQ hV 19; obtain ⟨q0, q1⟩ := hS.1.two; go_simp; exact zO hK
     refine zS (fun w' hS hV K hK => ?_) ?_
     · have e16 := zQ hV 16; have e20 := zQ hV 20; obtain ⟨q0, q1⟩ := hS.1.two; go_simp; exact zO hK
     refine zS (fun w' hS hV K hK => ?_) ?_
     · have e21 := zQ hV 21; obtain ⟨q0, q1⟩ := hS.1.two; go_simp; exact zO hK
     refine fun w' hS hV => ?_
     have e0 := zT hV 0
     have e1 := zT hV 1
     have e2 := zT hV 2
     have e3 := zT hV 3
     have e4 := zT hV 4
     have e5 := zT hV 5
     have e6 := zT hV 6
     have e7 := zT hV 7
     have e8 := zT hV 8
     have e9 := zT hV 9
     have e10 := zT hV 10
     have e11 := zT hV 11
     have e12 := zT hV 12
     have e13 := zT hV 13
     have e14 := zT hV 14
     have e15 := zT hV 15
     have e16 := zT hV 16
     have e17 := zT hV 17
     have e18 := zT hV 18
     have e19 := zT hV 19
     have e20 := zT hV 20
     have e21 := zT hV 21
     have e22 := zT hV 22
     simp only [e0, e1, e2, e3, e4, e5, e6, e7, e8, e9, e10, e11, e12, e13, e14, e15, e16, e17, e18, e19, e20, e21, e22]
     clear e0 e1 e2 e3 e4 e5 e6 e7 e8 e9 e10 e11 e12 e13 e14 e15 e16 e17 e18 e19 e20 e21 e22
     refine wpAny_done (by kernel_rfl) ?_ _
     go_wp2
     go_ret
     exact ⟨ret_bool (by unfold isDb; rw [Hx.out]; simp [H1.out, h2]), hS.2⟩
/-- Is it an element of a doubling? -/
def isEl (p : Int) (k : Nat) (ys : List Int) : Bool := ((ys.length : Nat) : Int) == ((pw k : Nat) : Int) && nums p ys
/-- The code for a doubling and elements. -/
def codeD (p : Int) (st : List Int) (yss : List (List Int)) : Int := if isDb p st then (if yss.any fun ys => !(isEl p st.length ys) then 2 else 0) else 1
set_option maxHeartbeats 800000 in
set_option maxRecDepth 8000 in
theorem notEl (p : Int) (k : Nat) (g : Nat) (A : Option Addr) (c : Nat) (w : World) (hk4 : k ≤ 4) (hp0 : 0 < p) (hp1 : p ≤ 13) (hk : Blk w g 26 #[.int .i64 p, .slice A k c]) :
    Tells 142 #[.pointer (some ⟨g, 0, none⟩)] w (fun ys => !(isEl p k ys)) (fun ys => ys.length ≤ 1048576) := by
 intro w' D m d ys hb hr hm
 have hyl : ys.length = m := by have := hr.1; rwa [ints_length] at this
 rw [hyl] at hm
 have k0 := hk.below hb hk.lt
 obtain ⟨q0, q1⟩ := k0.two
 have hmu : isEl p k ys = ((((m : Nat) : Int) == ((pw k : Nat) : Int)) && nums p ys) := by unfold isEl; rw [hyl]
 have Hmu := Lib.hid hmu
 clear hyl hmu
 simp only [List.append_toArray, List.cons_append, List.nil_append]
 cases h2 : (((m : Nat) : Int) == ((pw k : Nat) : Int))
 all_goals
  have H2 := Lib.hid h2
  have h3 : (((m : Nat) : Int) != ((pw k : Nat) : Int)) = !(((m : Nat) : Int) == ((pw k : Nat) : Int)) := rfl
  rw [h2] at h3
  go_enter Tryz.func142, Tryz.ntmps142
  go_wp2_with fail
  refine (dsize_any p A k c _ hk4).mono ?_
  rintro e w1 ⟨rfl, hb1⟩
  have k1 := k0.below hb1 k0.lt
  obtain ⟨q0, q1⟩ := k1.two
  clear k0
  go_wp2_with fail
 · go_ret
   exact ⟨ret_bool (by rw [Hmu.out, H2.out]; rfl), hb1⟩
 · refine (dfield_any p A k c _).mono ?_
   rintro e w2 ⟨rfl, hb2⟩
   have hB2 := hb1.trans (hb2.mono hb1.size)
   obtain ⟨b, hb'⟩ : ∃ b, b = nums p ys := ⟨_, rfl⟩
   have HB := Lib.hid hb'
   clear hb'
   go_wp2_with fail
   refine (is_b _ _ _ _ _ _ hp0 (by omega) (by omega) (hr.below hB2) HB.out.symm).mono ?_
   rintro e w3 ⟨rfl, rfl⟩
   go_wp2
   go_ret
   exact ⟨ret_bool (by rw [Hmu.out, H2.out, HB.out]; rfl), hB2⟩
set_option maxHeartbeats 1000000 in
set_option maxRecDepth 8000 in
theorem checkElements_any (p : Int) (A B : Option Addr) (k c m d : Nat) (st : List Int) (yss : List (List Int)) (w : World) (hk6 : k ≤ 65536) (hm : m ≤ 1048576) (ha : Rd w A k (ints st)) (hb : RdII w B m yss) (hys : ∀ ys ∈ yss, ys.length ≤ 1048576) :
    Calls Tryz.prog 96 #[.agg #[.int .i64 p, .slice A k c], .slice B m d] w fun e w' => e = .returned (.int .i64 (codeD p st yss)) ∧ Below w.heap.size w w' := by
 have hxl : st.length = k := ha.lenI
 have hB : Below w.heap.size w (w.alloc (.cells #[.int .i64 p, .slice A k c] 26)) := zG.alloc (Nat.le_refl _) _
 have k0 : Blk (w.alloc (.cells #[.int .i64 p, .slice A k c] 26)) w.heap.size 26 #[.int .i64 p, .slice A k c] := Blk.new _ _ _
 have hmf : ∀ (fn : Fn) (first cap : Array Value) (w : World), (Instr.makeFunc fn first cap).run Tryz.prog w = .ok (.func fn first cap) w := fun _ _ _ _ => rfl
 have hD := IsDoubling_any p A k c st (w.alloc (.cells #[.int .i64 p, .slice A k c] 26)) hk6 (ha.below hB)
 cases h1 : isDb p st
 · rw [h1] at hD
   have HD := Lib.hid hD
   have H1 := Lib.hid h1
   clear h1 hxl hD
   go_enter Tryz.func96, Tryz.ntmps96
   go_wp2_with fail
   refine HD.out.mono ?_
   rintro e w1 ⟨rfl, hb1⟩
   go_wp2
   go_ret
   exact ⟨ret_int (by unfold codeD; rw [H1.out]; rfl), hB.trans (hb1.mono (by simp))⟩
 rw [h1] at hD
 have HD := Lib.hid hD
 have hP : isP p = true ∧ k ≤ 4 := by
  unfold isDb at h1
  simp only [Bool.and_eq_true, decide_eq_true_eq] at h1
  exact ⟨h1.1.1.1, by have := h1.1.1.2; omega⟩
 obtain ⟨hp, hk4⟩ := hP
 obtain ⟨hp0, hp1⟩ := isP_pos hp
 have H1 := Lib.hid h1; have Hx := Lib.hid hxl; clear h1 hp hxl hD
 cases h2 : (yss.any fun ys => !(isEl p k ys))
 all_goals
  have H2 := Lib.hid h2; clear h2
  go_enter Tryz.func96, Tryz.ntmps96
  go_wp2_with fail
  refine HD.out.mono ?_
  rintro e w1 ⟨rfl, hb1⟩
  have hB1 := hB.trans (hb1.mono (by simp))
  have hT := notEl p k w.heap.size A c w1 hk4 hp0 hp1 (k0.below hb1 k0.lt)
  go_wp2_with fail
  refine (ContainsFunc_any _ _ _ _ _ _ _ _ _ (by omega) (hb.below hB1) hys hT (fun _ _ => rfl)).mono ?_
  rintro e w2 ⟨rfl, hb2⟩
  rw [H2.out]
  go_wp2
  go_ret
  exact ⟨ret_int (by unfold codeD; rw [H1.out, Hx.out, H2.out]; rfl), hB1.trans (hb2.mono hB1.size)⟩
theorem isEl_mk {p : Int} {k : Nat} {ys : List Int} (h : ys.length = pw k) (hn : NumsL p ys) : isEl p k ys = true := by
 unfold isEl nums
 rw [h, Bool.and_eq_true]
 exact ⟨by simp, List.all_eq_true.2 fun x hx => by have := hn x hx; simp [inR]; omega⟩
theorem codeD_mk {p : Int} {st : List Int} {yss : List (List Int)} (h : isDb p st = true) (hy : ∀ ys ∈ yss, ys.length = pw st.length ∧ NumsL p ys) : codeD p st yss = 0 := by
 unfold codeD
 rw [h, if_pos rfl, if_neg]
 intro hh
 obtain ⟨ys, h1, e⟩ := List.any_eq_true.1 hh
 rw [isEl_mk (hy ys h1).1 (hy ys h1).2] at e
 cases e
theorem isDb_facts {p : Int} {st : List Int} (h : isDb p st = true) : isP p = true ∧ st.length ≤ 4 ∧ NumsL p st := by
 unfold isDb at h
 simp only [Bool.and_eq_true, decide_eq_true_eq] at h
 exact ⟨h.1.1.1, h.1.1.2, nums_numsL h.1.2⟩
def cmtL (p : Int) (k : Nat) (st x y : List Int) : List Int := plusL p (dblL p k st x y) (dblL p k st y x) (-1)
def assL (p : Int) (k : Nat) (st x y z : List Int) : List Int := plusL p (dblL p k st (dblL p k st x y) z) (dblL p k st x (dblL p k st y z)) (-1)
def innL (p : Int) (k : Nat) (st x y z : List Int) : List Int := plusL p (cmtL p k st (cmtL p k st x y) z) (assL p k st x y z) (-3)
theorem cmtL_len (p : Int) (k : Nat) (st x y : List Int) : (cmtL p k st x y).length = pw k := (plusL_len _ _ _ _).trans (dblL_len p k st x y)
theorem assL_len (p : Int) (k : Nat) (st x y z : List Int) : (assL p k st x y z).length = pw k := (plusL_len _ _ _ _).trans (dblL_len p k st _ z)
theorem innL_len (p : Int) (k : Nat) (st x y z : List Int) : (innL p k st x y z).length = pw k := (plusL_len _ _ _ _).trans (cmtL_len p k st _ z)
theorem cmtL_nums {p : Int} (hp : 0 < p) (k : Nat) (st x y : List Int) : NumsL p (cmtL p k st x y) := plusL_nums hp _ _ _
theorem assL_nums {p : Int} (hp : 0 < p) (k : Nat) (st x y z : List Int) : NumsL p (assL p k st x y z) := plusL_nums hp _ _ _
theorem innL_nums {p : Int} (hp : 0 < p) (k : Nat) (st x y z : List Int) : NumsL p (innL p k st x y z) := plusL_nums hp _ _ _
set_option maxHeartbeats 1600000 in
set_option maxRecDepth 8000 in
theorem dcommutator_any (p : Int) (hp : 2 ≤ p) (hp2 : p ≤ 13) (k : Nat) (hk : k ≤ 4) (A : Option Addr) (c : Nat) (st : List Int) (X : Option Addr) (cx : Nat) (xs : List Int) (Y : Option Addr) (cy : Nat) (ys : List Int) (w : World) (hc : k ≤ c) (ha : Rd w A k (ints st)) (hst : NumsL p st) (hx : Rd w X (pw k) (ints xs)) (hxn : NumsL p xs) (hcx : pw k ≤ cx) (hy : Rd w Y (pw k) (ints ys)) (hyn : NumsL p ys) (hcy : pw k ≤ cy) :
    Calls Tryz.prog 59 #[.agg #[.int .i64 p, .slice A k c], .slice X (pw k) cx, .slice Y (pw k) cy] w fun e w' => ∃ A' c', e = .returned (.slice A' (pw k) c') ∧ MkI w w' A' (pw k) c' (cmtL p k st xs ys) := by
 have hB0 : Below w.heap.size w (w.alloc (.cells #[.int .i64 p, .slice A k c] 26)) := zG.alloc (Nat.le_refl _) _
 have k0 : Blk (w.alloc (.cells #[.int .i64 p, .slice A k c] 26)) w.heap.size 26 #[.int .i64 p, .slice A k c] := Blk.new _ _ _
 have hpk : pw k ≤ 16 := pw_le hk
 go_enter Tryz.func59, Tryz.ntmps59
 go_wp2
 refine wp_obs 12 [[],[0],[],[],[],[2,3,4],[],[],[],[6,7,8],[0,1,2,3,4,5,6,7,8,9],[0,1,2,3,4,5,6,7,8,9,10]] [VIs (.agg #[.int .i64 p, .slice A k c]), VIs (.int .i64 (p)), VIs (.agg #[.int .i64 p, .slice A k c]), VIs (.slice X (pw k) cx), VIs (.slice Y (pw k) cy), VSl w (pw k) (dblL p k st xs ys), VIs (.agg #[.int .i64 p, .slice A k c]), VIs (.slice Y (pw k) cy), VIs (.slice X (pw k) cx), VSl w (pw k) (dblL p k st ys xs), VSl w (pw k) (cmtL p k st xs ys), VSl w (pw k) (cmtL p k st xs ys)] (fun w' => Blk w' w.heap.size 26 #[.int .i64 p, .slice A k c] ∧ Below w.heap.size w w') (by kernel_rfl) (by kernel_rfl) (fun _ _ h hb => ⟨h.1.below hb h.1.lt, h.2.trans (hb.mono h.2.size)⟩) (⟨k0.drew, hB0.drew⟩) (fun x => ?_)
 refine zS (fun w' hS hV K hK => ?_) ?_
 · obtain ⟨q0, q1⟩ := hS.1.two; go_simp; exact zO hK
 refine zS (fun w' hS hV K hK => ?_) ?_
 · have e0 := zQ hV 0; obtain ⟨q0, q1⟩ := hS.1.two; go_simp; refine (dfield_any p A k c w').mono ?_; rintro e v1 ⟨rfl, hb⟩; exact hK.out _ _ _ rfl rfl rfl hb
 refine zS (fun w' hS hV K hK => ?_) ?_
 · obtain ⟨q0, q1⟩ := hS.1.two; go_simp; exact zO hK
 refine zS (fun w' hS hV K hK => ?_) ?_
 · obtain ⟨q0, q1⟩ := hS.1.two; go_simp; exact zO hK
 refine zS (fun w' hS hV K hK => ?_) ?_
 · obtain ⟨q0, q1⟩ := hS.1.two; go_simp; exact zO hK
 refine zS (fun w' hS hV K hK => ?_) ?_
 · have e2 := zQ hV 2; have e3 := zQ hV 3; have e4 := zQ hV 4; obtain ⟨q0, q1⟩ := hS.1.two; go_simp; refine (dtimes_any p hp hp2 k hk A c st X cx xs Y cy ys w' hc hcx hcy (ha.below hS.2) hst (hx.below hS.2) hxn (hy.below hS.2) hyn).mono ?_; rintro e v1 ⟨A9, c9, rfl, hM⟩; exact hK.out _ _ _ rfl rfl ⟨_, _, rfl, hM.after hS.2⟩ hM.b
 refine zS (fun w' hS hV K hK => ?_) ?_
 · obtain ⟨q0, q1⟩ := hS.1.two; go_simp; exact zO hK
 refine zS (fun w' hS hV K hK => ?_) ?_
 · obtain ⟨q0, q1⟩ := hS.1.two; go_simp; exact zO hK
 refine zS (fun w' hS hV K hK => ?_) ?_
 · obtain ⟨q0, q1⟩ := hS.1.two; go_simp; exact zO hK
 refine zS (fun w' hS hV K hK => ?_) ?_
 · have e6 := zQ hV 6; have e7 := zQ hV 7; have e8 := zQ hV 8; obtain ⟨q0, q1⟩ := hS.1.two; go_simp; refine (dtimes_any p hp hp2 k hk A c st Y cy ys X cx xs w' hc hcy hcx (ha.below hS.2) hst (hy.below hS.2) hyn (hx.below hS.2) hxn).mono ?_; rintro e v1 ⟨A9, c9, rfl, hM⟩; exact hK.out _ _ _ rfl rfl ⟨_, _, rfl, hM.after hS.2⟩ hM.b
 refine zS (fun w' hS hV K hK => ?_) ?_
 · have e1 := zQ hV 1; obtain ⟨A5, c5, e5, h5⟩ := hV 5 (by decide); obtain ⟨A9, c9, e9, h9⟩ := hV 9 (by decide); obtain ⟨q0, q1⟩ := hS.1.two; go_simp; refine (plus_any p A5 (pw k) c5 A9 (pw k) c9 (-1) (dblL p k st xs ys) (dblL p k st ys xs) w' hp hp2 (by omega) (Nat.le_refl _) h5.rd (dblL_nums (by omega) _ _ _ _) h9.rd (dblL_nums (by omega) _ _ _ _) (by omega) (by omega)).mono ?_; rintro e v1 ⟨A9, c9, rfl, hM⟩; exact hK.out _ _ _ rfl rfl ⟨_, _, rfl, hM.after hS.2⟩ hM.b
 refine zS (fun w' hS hV K hK => ?_) ?_
 · obtain ⟨A5, c5, e5, h5⟩ := hV 5 (by decide); obtain ⟨A9, c9, e9, h9⟩ := hV 9 (by decide); obtain ⟨A10, c10, e10, h10⟩ := hV 10 (by decide); obtain ⟨q0, q1⟩ := hS.1.two; go_simp; exact hK.out _ _ _ rfl rfl ⟨_, _, rfl, h10⟩ zG
 refine fun w' hS hV => ?_
 have e0 := zT hV 0
 have e1 := zT hV 1
 have e2 := zT hV 2
 have e3 := zT hV 3
 have e4 := zT hV 4
 obtain ⟨A5, c5, e5, h5⟩ := hV 5 (by decide)
 have e6 := zT hV 6
 have e7 := zT hV 7
 have e8 := zT hV 8
 obtain ⟨A9, c9, e9, h9⟩ := hV 9 (by decide)
 obtain ⟨A10, c10, e10, h10⟩ := hV 10 (by decide)
 obtain ⟨A11, c11, e11, h11⟩ := hV 11 (by decide)
 simp only [e0, e1, e2, e3, e4, e5, e6, e7, e8, e9, e10, e11]
 clear e0 e1 e2 e3 e4 e5 e6 e7 e8 e9 e10 e11
 refine wpAny_done (by kernel_rfl) ?_ _
 go_wp2
 go_ret
 exact ⟨_, _, rfl, h11⟩
set_option maxHeartbeats 1600000 in
set_option maxRecDepth 8000 in
theorem dassociator_any (p : Int) (hp : 2 ≤ p) (hp2 : p ≤ 13) (k : Nat) (hk : k ≤ 4) (A : Option Addr) (c : Nat) (st : List Int) (X : Option Addr) (cx : Nat) (xs : List Int) (Y : Option Addr) (cy : Nat) (ys : List Int) (Z : Option Addr) (cz : Nat) (zs : List Int) (w : World) (hc : k ≤ c) (ha : Rd w A k (ints st)) (hst : NumsL p st) (hx : Rd w X (pw k) (ints xs)) (hxn : NumsL p xs) (hcx : pw k ≤ cx) (hy : Rd w Y (pw k) (ints ys)) (hyn : NumsL p ys) (hcy : pw k ≤ cy) (hz : Rd w Z (pw k) (ints zs)) (hzn : NumsL p zs) (hcz : pw k ≤ cz) :
    Calls Tryz.prog 60 #[.agg #[.int .i64 p, .slice A k c], .slice X (pw k) cx, .slice Y (pw k) cy, .slice Z (pw k) cz] w fun e w' => ∃ A' c', e = .returned (.slice A' (pw k) c') ∧ MkI w w' A' (pw k) c' (assL p k st xs ys zs) := by
 have hB0 : Below w.heap.size w (w.alloc (.cells #[.int .i64 p, .slice A k c] 26)) := zG.alloc (Nat.le_refl _) _
 have k0 : Blk (w.alloc (.cells #[.int .i64 p, .slice A k c] 26)) w.heap.size 26 #[.int .i64 p, .slice A k c] := Blk.new _ _ _
 have hpk : pw k ≤ 16 := pw_le hk
 go_enter Tryz.func60, Tryz.ntmps60
 go_wp2
 refine wp_obs 18 [[],[0],[],[],[],[],[3,4,5],[],[2,3,4,5,6,7],[],[],[],[],[],[11,12,13],[9,10,11,12,13,14],[0,1,2,3,4,5,6,7,8,9,10,11,12,13,14,15],[0,1,2,3,4,5,6,7,8,9,10,11,12,13,14,15,16]] [VIs (.agg #[.int .i64 p, .slice A k c]), VIs (.int .i64 (p)), VIs (.agg #[.int .i64 p, .slice A k c]), VIs (.agg #[.int .i64 p, .slice A k c]), VIs (.slice X (pw k) cx), VIs (.slice Y (pw k) cy), VSl w (pw k) (dblL p k st xs ys), VIs (.slice Z (pw k) cz), VSl w (pw k) (dblL p k st (dblL p k st xs ys) zs), VIs (.agg #[.int .i64 p, .slice A k c]), VIs (.slice X (pw k) cx), VIs (.agg #[.int .i64 p, .slice A k c]), VIs (.slice Y (pw k) cy), VIs (.slice Z (pw k) cz), VSl w (pw k) (dblL p k st ys zs), VSl w (pw k) (dblL p k st xs (dblL p k st ys zs)), VSl w (pw k) (assL p k st xs ys zs), VSl w (pw k) (assL p k st xs ys zs)] (fun w' => Blk w' w.heap.size 26 #[.int .i64 p, .slice A k c] ∧ Below w.heap.size w w') (by kernel_rfl) (by kernel_rfl) (fun _ _ h hb => ⟨h.1.below hb h.1.lt, h.2.trans (hb.mono h.2.size)⟩) (⟨k0.drew, hB0.drew⟩) (fun x => ?_)
 refine zS (fun w' hS hV K hK => ?_) ?_
 · obtain ⟨q0, q1⟩ := hS.1.two; go_simp; exact zO hK
 refine zS (fun w' hS hV K hK => ?_) ?_
 · have e0 := zQ hV 0; obtain ⟨q0, q1⟩ := hS.1.two; go_simp; refine (dfield_any p A k c w').mono ?_; rintro e v1 ⟨rfl, hb⟩; exact hK.out _ _ _ rfl rfl rfl hb
 refine zS (fun w' hS hV K hK => ?_) ?_
 · obtain ⟨q0, q1⟩ := hS.1.two; go_simp; exact zO hK
 refine zS (fun w' hS hV K hK => ?_) ?_
 · obtain ⟨q0, q1⟩ := hS.1.two; go_simp; exact zO hK
 refine zS (fun w' hS hV K hK => ?_) ?_
 · obtain ⟨q0, q1⟩ := hS.1.two; go_simp; exact zO hK
 refine zS (fun w' hS hV K hK => ?_) ?_
 · obtain ⟨q0, q1⟩ := hS.1.two; go_simp; exact zO hK
 refine zS (fun w' hS hV K hK => ?_) ?_
 · have e3 := zQ hV 3; have e4 := zQ hV 4; have e5 := zQ hV 5; obtain ⟨q0, q1⟩ := hS.1.two; go_simp; refine (dtimes_any p hp hp2 k hk A c st X cx xs Y cy ys w' hc hcx hcy (ha.below hS.2) hst (hx.below hS.2) hxn (hy.below hS.2) hyn).mono ?_; rintro e v1 ⟨A9, c9, rfl, hM⟩; exact hK.out _ _ _ rfl rfl ⟨_, _, rfl, hM.after hS.2⟩ hM.b
 refine zS (fun w' hS hV K hK => ?_) ?_
 · obtain ⟨q0, q1⟩ := hS.1.two; go_simp; exact zO hK
 refine zS (fun w' hS hV K hK => ?_) ?_
 · have e2 := zQ hV 2; obtain ⟨A6, c6, e6, h6⟩ := hV 6 (by decide); have e7 := zQ hV 7; obtain ⟨q0, q1⟩ := hS.1.two; go_simp; refine (dtimes_any p hp hp2 k hk A c st _ c6 (dblL p k st xs ys) Z cz zs w' hc h6.2.cap hcz (ha.below hS.2) hst h6.rd (dblL_nums (by omega) _ _ _ _) (hz.below hS.2) hzn).mono ?_; rintro e v1 ⟨A9, c9, rfl, hM⟩; exact hK.out _ _ _ rfl rfl ⟨_, _, rfl, hM.after hS.2⟩ hM.b
 refine zS (fun w' hS hV K hK => ?_) ?_
 · obtain ⟨q0, q1⟩ := hS.1.two; go_simp; exact zO hK
 refine zS (fun w' hS hV K hK => ?_) ?_
 · obtain ⟨q0, q1⟩ := hS.1.two; go_simp; exact zO hK
 refine zS (fun w' hS hV K hK => ?_) ?_
 · obtain ⟨q0, q1⟩ := hS.1.two; go_simp; exact zO hK
 refine zS (fun w' hS hV K hK => ?_) ?_
 · obtain ⟨q0, q1⟩ := hS.1.two; go_simp; exact zO hK
 refine zS (fun w' hS hV K hK => ?_) ?_
 · obtain ⟨q0, q1⟩ := hS.1.two; go_simp; exact zO hK
 refine zS (fun w' hS hV K hK => ?_) ?_
 · have e11 := zQ hV 11; have e12 := zQ hV 12; have e13 := zQ hV 13; obtain ⟨q0, q1⟩ := hS.1.two; go_simp; refine (dtimes_any p hp hp2 k hk A c st Y cy ys Z cz zs w' hc hcy hcz (ha.below hS.2) hst (hy.below hS.2) hyn (hz.below hS.2) hzn).mono ?_; rintro e v1 ⟨A9, c9, rfl, hM⟩; exact hK.out _ _ _ rfl rfl ⟨_, _, rfl, hM.after hS.2⟩ hM.b
 refine zS (fun w' hS hV K hK => ?_) ?_
 · have e9 := zQ hV 9; have e10 := zQ hV 10; obtain ⟨A14, c14, e14, h14⟩ := hV 14 (by decide); obtain ⟨q0, q1⟩ := hS.1.two; go_simp; refine (dtimes_any p hp hp2 k hk A c st X cx xs _ c14 (dblL p k st ys zs) w' hc hcx h14.2.cap (ha.below hS.2) hst (hx.below hS.2) hxn h14.rd (dblL_nums (by omega) _ _ _ _)).mono ?_; rintro e v1 ⟨A9, c9, rfl, hM⟩; exact hK.out _ _ _ rfl rfl ⟨_, _, rfl, hM.after hS.2⟩ hM.b
 refine zS (fun w' hS hV K hK => ?_) ?_
 · have e1 := zQ hV 1; obtain ⟨A6, c6, e6, h6⟩ := hV 6 (by decide); obtain ⟨A8, c8, e8, h8⟩ := hV 8 (by decide); obtain ⟨A14, c14, e14, h14⟩ := hV 14 (by decide); obtain ⟨A15, c15, e15, h15⟩ := hV 15 (by decide); obtain ⟨q0, q1⟩ := hS.1.two; go_simp; refine (plus_any p A8 (pw k) c8 A15 (pw k) c15 (-1) (dblL p k st (dblL p k st xs ys) zs) (dblL p k st xs (dblL p k st ys zs)) w' hp hp2 (by omega) (Nat.le_refl _) h8.rd (dblL_nums (by omega) _ _ _ _) h15.rd (dblL_nums (by omega) _ _ _ _) (by omega) (by omega)).mono ?_; rintro e v1 ⟨A9, c9, rfl, hM⟩; exact hK.out _ _ _ rfl rfl ⟨_, _, rfl, hM.after hS.2⟩ hM.b
 refine zS (fun w' hS hV K hK => ?_) ?_
 · obtain ⟨A6, c6, e6, h6⟩ := hV 6 (by decide); obtain ⟨A8, c8, e8, h8⟩ := hV 8 (by decide); obtain ⟨A14, c14, e14, h14⟩ := hV 14 (by decide); obtain ⟨A15, c15, e15, h15⟩ := hV 15 (by decide); obtain ⟨A16, c16, e16, h16⟩ := hV 16 (by decide); obtain ⟨q0, q1⟩ := hS.1.two; go_simp; exact hK.out _ _ _ rfl rfl ⟨_, _, rfl, h16⟩ zG
 refine fun w' hS hV => ?_
 have e0 := zT hV 0
 have e1 := zT hV 1
 have e2 := zT hV 2
 have e3 := zT hV 3
 have e4 := zT hV 4
 have e5 := zT hV 5
 obtain ⟨A6, c6, e6, h6⟩ := hV 6 (by decide)
 have e7 := zT hV 7
 obtain ⟨A8, c8, e8, h8⟩ := hV 8 (by decide)
 have e9 := zT hV 9
 have e10 := zT hV 10
 have e11 := zT hV 11
 have e12 := zT hV 12
 have e13 := zT hV 13
 obtain ⟨A14, c14, e14, h14⟩ := hV 14 (by decide)
 obtain ⟨A15, c15, e15, h15⟩ := hV 15 (by decide)
 obtain ⟨A16, c16, e16, h16⟩ := hV 16 (by decide)
 obtain ⟨A17, c17, e17, h17⟩ := hV 17 (by decide)
 simp only [e0, e1, e2, e3, e4, e5, e6, e7, e8, e9, e10, e11, e12, e13, e14, e15, e16, e17]
 clear e0 e1 e2 e3 e4 e5 e6 e7 e8 e9 e10 e11 e12 e13 e14 e15 e16 e17
 refine wpAny_done (by kernel_rfl) ?_ _
 go_wp2
 go_ret
 exact ⟨_, _, rfl, h17⟩
set_option maxHeartbeats 1600000 in
set_option maxRecDepth 8000 in
theorem innerAt_any (p : Int) (hp : 2 ≤ p) (hp2 : p ≤ 13) (k : Nat) (hk : k ≤ 4) (A : Option Addr) (c : Nat) (st : List Int) (X : Option Addr) (cx : Nat) (xs : List Int) (Y : Option Addr) (cy : Nat) (ys : List Int) (Z : Option Addr) (cz : Nat) (zs : List Int) (g1 g2 g3 : Nat) (w : World) (hc : k ≤ c) (ha : Rd w A k (ints st)) (hst : NumsL p st) (hx : Rd w X (pw k) (ints xs)) (hxn : NumsL p xs) (hcx : pw k ≤ cx) (hy : Rd w Y (pw k) (ints ys)) (hyn : NumsL p ys) (hcy : pw k ≤ cy) (hz : Rd w Z (pw k) (ints zs)) (hzn : NumsL p zs) (hcz : pw k ≤ cz) (k1 : Blk w g1 26 #[.int .i64 p, .slice A k c]) (k2 : Blk w g2 24 #[.slice X (pw k) cx]) (k3 : Blk w g3 24 #[.slice Y (pw k) cy]) :
    Calls Tryz.prog 57 #[.slice Z (pw k) cz, .pointer (some ⟨g1, 0, none⟩), .pointer (some ⟨g2, 0, none⟩), .pointer (some ⟨g3, 0, none⟩)] w fun e w' => ∃ A' c', e = .returned (.slice A' (pw k) c') ∧ MkI w w' A' (pw k) c' (innL p k st xs ys zs) := by
 have hpk : pw k ≤ 16 := pw_le hk
 go_enter Tryz.func57, Tryz.ntmps57
 go_wp2
 refine wp_obs 16 [[],[0],[],[],[],[],[3,4,5],[],[2,3,4,5,6,7],[],[],[],[],[9,10,11,12],[0,1,2,3,4,5,6,7,8,9,10,11,12,13],[0,1,2,3,4,5,6,7,8,9,10,11,12,13,14]] [VIs (.agg #[.int .i64 p, .slice A k c]), VIs (.int .i64 (p)), VIs (.agg #[.int .i64 p, .slice A k c]), VIs (.agg #[.int .i64 p, .slice A k c]), VIs (.slice X (pw k) cx), VIs (.slice Y (pw k) cy), VSl w (pw k) (cmtL p k st xs ys), VIs (.slice Z (pw k) cz), VSl w (pw k) (cmtL p k st (cmtL p k st xs ys) zs), VIs (.agg #[.int .i64 p, .slice A k c]), VIs (.slice X (pw k) cx), VIs (.slice Y (pw k) cy), VIs (.slice Z (pw k) cz), VSl w (pw k) (assL p k st xs ys zs), VSl w (pw k) (innL p k st xs ys zs), VSl w (pw k) (innL p k st xs ys zs)] (fun w' => Blk w' g1 26 #[.int .i64 p, .slice A k c] ∧ Blk w' g2 24 #[.slice X (pw k) cx] ∧ Blk w' g3 24 #[.slice Y (pw k) cy] ∧ Below w.heap.size w w') (by kernel_rfl) (by kernel_rfl) (fun _ _ h hb => ⟨h.1.below hb h.1.lt, h.2.1.below hb h.2.1.lt, h.2.2.1.below hb h.2.2.1.lt, h.2.2.2.trans (hb.mono h.2.2.2.size)⟩) (⟨k1.drew, k2.drew, k3.drew, zG.drew⟩) (fun x => ?_)
 refine zS (fun w' hS hV K hK => ?_) ?_
 · obtain ⟨q0, q1⟩ := hS.1.two; have q2 := hS.2.1.cell 0; have q3 := hS.2.2.1.cell 0; go_simp; exact zO hK
 refine zS (fun w' hS hV K hK => ?_) ?_
 · have e0 := zQ hV 0; obtain ⟨q0, q1⟩ := hS.1.two; have q2 := hS.2.1.cell 0; have q3 := hS.2.2.1.cell 0; go_simp; refine (dfield_any p A k c w').mono ?_; rintro e v1 ⟨rfl, hb⟩; exact hK.out _ _ _ rfl rfl rfl hb
 refine zS (fun w' hS hV K hK => ?_) ?_
 · obtain ⟨q0, q1⟩ := hS.1.two; have q2 := hS.2.1.cell 0; have q3 := hS.2.2.1.cell 0; go_simp; exact zO hK
 refine zS (fun w' hS hV K hK => ?_) ?_
 · obtain ⟨q0, q1⟩ := hS.1.two; have q2 := hS.2.1.cell 0; have q3 := hS.2.2.1.cell 0; go_simp; exact zO hK
 refine zS (fun w' hS hV K hK => ?_) ?_
 · obtain ⟨q0, q1⟩ := hS.1.two; have q2 := hS.2.1.cell 0; have q3 := hS.2.2.1.cell 0; go_simp; exact zO hK
 refine zS (fun w' hS hV K hK => ?_) ?_
 · obtain ⟨q0, q1⟩ := hS.1.two; have q2 := hS.2.1.cell 0; have q3 := hS.2.2.1.cell 0; go_simp; exact zO hK
 refine zS (fun w' hS hV K hK => ?_) ?_
 · have e3 := zQ hV 3; have e4 := zQ hV 4; have e5 := zQ hV 5; obtain ⟨q0, q1⟩ := hS.1.two; have q2 := hS.2.1.cell 0; have q3 := hS.2.2.1.cell 0; go_simp; refine (dcommutator_any p hp hp2 k hk A c st X cx xs Y cy ys w' hc (ha.below hS.2.2.2) hst (hx.below hS.2.2.2) hxn hcx (hy.below hS.2.2.2) hyn hcy).mono ?_; rintro e v1 ⟨A9, c9, rfl, hM⟩; exact hK.out _ _ _ rfl rfl ⟨_, _, rfl, hM.after hS.2.2.2⟩ hM.b
 refine zS (fun w' hS hV K hK => ?_) ?_
 · obtain ⟨q0, q1⟩ := hS.1.two; have q2 := hS.2.1.cell 0; have q3 := hS.2.2.1.cell 0; go_simp; exact zO hK
 refine zS (fun w' hS hV K hK => ?_) ?_
 · have e2 := zQ hV 2; obtain ⟨A6, c6, e6, h6⟩ := hV 6 (by decide); have e7 := zQ hV 7; obtain ⟨q0, q1⟩ := hS.1.two; have q2 := hS.2.1.cell 0; have q3 := hS.2.2.1.cell 0; go_simp; refine (dcommutator_any p hp hp2 k hk A c st _ c6 (cmtL p k st xs ys) Z cz zs w' hc (ha.below hS.2.2.2) hst h6.rd (cmtL_nums (by omega) _ _ _ _) h6.2.cap (hz.below hS.2.2.2) hzn hcz).mono ?_; rintro e v1 ⟨A9, c9, rfl, hM⟩; exact hK.out _ _ _ rfl rfl ⟨_, _, rfl, hM.after hS.2.2.2⟩ hM.b
 refine zS (fun w' hS hV K hK => ?_) ?_
 · obtain ⟨q0, q1⟩ := hS.1.two; have q2 := hS.2.1.cell 0; have q3 := hS.2.2.1.cell 0; go_simp; exact zO hK
 refine zS (fun w' hS hV K hK => ?_) ?_
 · obtain ⟨q0, q1⟩ := hS.1.two; have q2 := hS.2.1.cell 0; have q3 := hS.2.2.1.cell 0; go_simp; exact zO hK
 refine zS (fun w' hS hV K hK => ?_) ?_
 · obtain ⟨q0, q1⟩ := hS.1.two; have q2 := hS.2.1.cell 0; have q3 := hS.2.2.1.cell 0; go_simp; exact zO hK
 refine zS (fun w' hS hV K hK => ?_) ?_
 · obtain ⟨q0, q1⟩ := hS.1.two; have q2 := hS.2.1.cell 0; have q3 := hS.2.2.1.cell 0; go_simp; exact zO hK
 refine zS (fun w' hS hV K hK => ?_) ?_
 · have e9 := zQ hV 9; have e10 := zQ hV 10; have e11 := zQ hV 11; have e12 := zQ hV 12; obtain ⟨q0, q1⟩ := hS.1.two; have q2 := hS.2.1.cell 0; have q3 := hS.2.2.1.cell 0; go_simp; refine (dassociator_any p hp hp2 k hk A c st X cx xs Y cy ys Z cz zs w' hc (ha.below hS.2.2.2) hst (hx.below hS.2.2.2) hxn hcx (hy.below hS.2.2.2) hyn hcy (hz.below hS.2.2.2) hzn hcz).mono ?_; rintro e v1 ⟨A9, c9, rfl, hM⟩; exact hK.out _ _ _ rfl rfl ⟨_, _, rfl, hM.after hS.2.2.2⟩ hM.b
 refine zS (fun w' hS hV K hK => ?_) ?_
 · have e1 := zQ hV 1; obtain ⟨A6, c6, e6, h6⟩ := hV 6 (by decide); obtain ⟨A8, c8, e8, h8⟩ := hV 8 (by decide); obtain ⟨A13, c13, e13, h13⟩ := hV 13 (by decide); obtain ⟨q0, q1⟩ := hS.1.two; have q2 := hS.2.1.cell 0; have q3 := hS.2.2.1.cell 0; go_simp; refine (plus_any p A8 (pw k) c8 A13 (pw k) c13 (-3) (cmtL p k st (cmtL p k st xs ys) zs) (assL p k st xs ys zs) w' hp hp2 (by omega) (Nat.le_refl _) h8.rd (cmtL_nums (by omega) _ _ _ _) h13.rd (assL_nums (by omega) _ _ _ _ _) (by omega) (by omega)).mono ?_; rintro e v1 ⟨A9, c9, rfl, hM⟩; exact hK.out _ _ _ rfl rfl ⟨_, _, rfl, hM.after hS.2.2.2⟩ hM.b
 refine zS (fun w' hS hV K hK => ?_) ?_
 · obtain ⟨A6, c6, e6, h6⟩ := hV 6 (by decide); obtain ⟨A8, c8, e8, h8⟩ := hV 8 (by decide); obtain ⟨A13, c13, e13, h13⟩ := hV 13 (by decide); obtain ⟨A14, c14, e14, h14⟩ := hV 14 (by decide); obtain ⟨q0, q1⟩ := hS.1.two; have q2 := hS.2.1.cell 0; have q3 := hS.2.2.1.cell 0; go_simp; exact hK.out _ _ _ rfl rfl ⟨_, _, rfl, h14⟩ zG
 refine fun w' hS hV => ?_
 have e0 := zT hV 0
 have e1 := zT hV 1
 have e2 := zT hV 2
 have e3 := zT hV 3
 have e4 := zT hV 4
 have e5 := zT hV 5
 obtain ⟨A6, c6, e6, h6⟩ := hV 6 (by decide)
 have e7 := zT hV 7
 obtain ⟨A8, c8, e8, h8⟩ := hV 8 (by decide)
 have e9 := zT hV 9
 have e10 := zT hV 10
 have e11 := zT hV 11
 have e12 := zT hV 12
 obtain ⟨A13, c13, e13, h13⟩ := hV 13 (by decide)
 obtain ⟨A14, c14, e14, h14⟩ := hV 14 (by decide)
 obtain ⟨A15, c15, e15, h15⟩ := hV 15 (by decide)
 simp only [e0, e1, e2, e3, e4, e5, e6, e7, e8, e9, e10, e11, e12, e13, e14, e15]
 clear e0 e1 e2 e3 e4 e5 e6 e7 e8 e9 e10 e11 e12 e13 e14 e15
 refine wpAny_done (by kernel_rfl) ?_ _
 go_wp2
 go_ret
 exact ⟨_, _, rfl, h15⟩
end Go.Proofs.YtaiegpggccdgoaaGreat
namespace Go.Proofs.YtaiegpggccdgoaaGreat
open Go Go.RowKit
set_option maxHeartbeats 800000 in
set_option maxRecDepth 8000 in
theorem l01Mod_any (p n : Int) (w : World) (hp : 0 < p) (hp2 : p ≤ 13) (_h1 : -1000000000000 ≤ n) (_h2 : n ≤ 1000000000000) :
    Calls Tryz.prog 136 #[.int .i64 p, .int .i64 n] w fun e w' => e = .returned (.int .i64 (n % p)) ∧ w = w' := by
 go_enter Tryz.func136, Tryz.ntmps136
 go_wp2
 go_ret
 exact ⟨ret_int (num_math p n hp hp2), rfl⟩
set_option maxHeartbeats 1600000 in
set_option maxRecDepth 8000 in
theorem l11Scale_any (p : Int) (f : Int) (A : Option Addr) (n c : Nat) (xs : List Int) (w : World) (hp : 2 ≤ p) (hp2 : p ≤ 13) (hn : n ≤ 65536) (ha : Rd w A n (ints xs)) (hx : NumsL p xs) (hf1 : 0 ≤ f) (hf2 : f ≤ 1000) :
    Calls Tryz.prog 93 #[.int .i64 p, .int .i64 f, .slice A n c] w fun e w' => ∃ A' c', e = .returned (.slice A' n c') ∧ MkI w w' A' n c' (scaleL p xs f) := by
 have hxl : xs.length = n := by have := ha.1; rwa [ints_length] at this
 have Hx := Lib.hid hxl; clear hxl
 have hM0 := Mk.lit (E := 2) (Below.refl w.heap.size w) #[] (by simp)
 go_enter Tryz.func93, Tryz.ntmps93
 go_wp2
 go_loopw [7, 8] (fun out i wr => ∃ (k : Nat) (A' : Option Addr) (c' : Nat), k ≤ n ∧ i = .int .i64 k ∧ out = .slice A' k c' ∧ MkI w wr A' k c' ((scaleL p xs f).take k)) (fun _ i _ => n - (intOf i).toNat)
 case atStart => exact ⟨0, _, _, by omega, rfl, rfl, by simpa [MkI, ints] using hM0⟩
 case round =>
  obtain ⟨k, A', c', hk, rfl, rfl, hM⟩ := hrel
  clear hM0
  by_cases hlt : k < n
  · obtain ⟨g, o, rfl, hxk, hcx⟩ := ha.int hlt
    have hc0 : wr.cell? ⟨g, o + k, none⟩ = some (.int .i64 xs[k]) := (hM.1.cell (World.block_lt_of_cell? _ _ hcx)).trans hcx
    obtain ⟨x1, x2⟩ := hx _ (List.getElem_mem hxk)
    have HM := Lib.hid hM
    obtain ⟨m1, m2⟩ := mul_small hf1 hf2 x1 (show xs[k] ≤ 13 by omega)
    have hmod := l01Mod_any p (f * xs[k]) wr (by omega) hp2 (by omega) (by omega)
    rw [Int.mul_comm f] at m1 m2 hmod
    have ecomm : f * xs[k] = xs[k] * f := Int.mul_comm _ _
    clear ha hM hcx
    go_wp2_with fail
    refine hmod.mono ?_
    rintro e w3 ⟨rfl, rfl⟩
    clear ecomm
    go_wp2_with (at_builtin; refine wpList_app1 w _ 24 2 _ _ Tryz.underlying24 info_i rfl (by omega) rfl _ _ rfl A' k c' _ _ HM.out (by omega) rfl rfl rfl ?_; intro A2 c2 w2 hM2 _ _)
    go_roundw
    case rel => exact ⟨k + 1, A2, c2, by omega, by go_num, rfl, by rw [scaleL_take p xs f k hxk]; simpa [MkI, ints] using hM2⟩
    case measure => simp [intOf]; omega
  · go_wp2
    go_ret
    obtain rfl : k = n := by omega
    rw [List.take_of_length_le (by rw [scaleL_len, Hx.out]; omega)] at hM
    exact ⟨_, _, rfl, hM⟩
theorem plus1_take {p : Int} {a b : List Int} {k : Nat} (ha : k < a.length) (hb : k < b.length) : (plusL p a b 1).take (k + 1) = (plusL p a b 1).take k ++ [(a[k] + b[k]) % p] := by
 have hl : k < (plusL p a b 1).length := by rw [plusL_len]; exact ha
 rw [List.take_succ_eq_append_getElem hl]
 congr 2
 have := plusL_getD (p := p) b 1 ha
 rw [getD_of_lt 0 hl, getD_of_lt 0 ha, getD_of_lt 0 hb, Int.one_mul] at this
 exact this
set_option maxHeartbeats 1600000 in
set_option maxRecDepth 8000 in
theorem l11Add_any (p : Int) (A : Option Addr) (n c : Nat) (xs : List Int) (B : Option Addr) (m d : Nat) (ys : List Int) (w : World) (hp : 2 ≤ p) (hp2 : p ≤ 13) (hn : n ≤ 65536) (hnm : n ≤ m) (ha : Rd w A n (ints xs)) (hx : NumsL p xs) (hb : Rd w B m (ints ys)) (hy : NumsL p ys) :
    Calls Tryz.prog 92 #[.int .i64 p, .slice A n c, .slice B m d] w fun e w' => ∃ A' c', e = .returned (.slice A' n c') ∧ MkI w w' A' n c' (plusL p xs ys 1) := by
 have hxl : xs.length = n := ha.lenI
 have Hx := Lib.hid hxl; clear hxl
 have hM0 := Mk.lit (E := 2) (Below.refl w.heap.size w) #[] (by simp)
 go_enter Tryz.func92, Tryz.ntmps92
 go_wp2
 go_loopw [7, 8] (fun out i wr => ∃ (j : Nat) (A' : Option Addr) (c' : Nat), j ≤ n ∧ i = .int .i64 j ∧ out = .slice A' j c' ∧ MkI w wr A' j c' ((plusL p xs ys 1).take j)) (fun _ i _ => n - (intOf i).toNat)
 case atStart => exact ⟨0, _, _, by omega, rfl, rfl, by simpa [MkI, ints] using hM0⟩
 case round =>
  obtain ⟨j, A', c', hj, rfl, rfl, hM⟩ := hrel
  clear hM0
  by_cases hlt : j < n
  · obtain ⟨g, o, rfl, hxj, hcx⟩ := (ha.below hM.b).int hlt
    obtain ⟨g2, o2, rfl, hyj, hcy⟩ := (hb.below hM.b).int (show j < m by omega)
    obtain ⟨x1, x2⟩ := hx _ (List.getElem_mem hxj)
    obtain ⟨y1, y2⟩ := hy _ (List.getElem_mem hyj)
    have HV : Hid ((plusL p xs ys 1).take (j + 1) = (plusL p xs ys 1).take j ++ [(xs[j] + ys[j]) % p]) := Lib.hid (plus1_take hxj hyj)
    have W2 := i64_fit (xs[j] + ys[j]) (by omega) (by omega)
    have i1 : (0 : Int) ≤ (j : Int) := by omega
    have i2 : (j : Int) < (n : Int) := by omega
    have i3 : (j : Int) < (m : Int) := by omega
    go_wp2
    refine wp_obs 13 [[],[],[],[],[2,3],[2,3,4],[],[],[6,7],[6,7,8],[2,3,4,5,6,7,8,9],[1,2,3,4,5,6,7,8,9,10],[1,2,3,4,5,6,7,8,9,10,11],[0,1,2,3,4,5,6,7,8,9,10,11,12],[0,1,2,3,4,5,6,7,8,9,10,11,12,13]] [VIs (.slice A' j c'), VIs (.int .i64 (p)), VIs (.slice (some ⟨g, o, none⟩) n c), VIs (.int .i64 (j)), VIs (.pointer (some ⟨g, o + j, none⟩)), VIs (.int .i64 (xs[j])), VIs (.slice (some ⟨g2, o2, none⟩) m d), VIs (.int .i64 (j)), VIs (.pointer (some ⟨g2, o2 + j, none⟩)), VIs (.int .i64 (ys[j])), VIs (.int .i64 (xs[j] + ys[j])), VIs (.int .i64 ((xs[j] + ys[j]) % p)), VBs 2 #[.int .i64 ((xs[j] + ys[j]) % p)]] (fun w' => MkI w w' A' j c' ((plusL p xs ys 1).take j) ∧ w'.cell? ⟨g, o + j, none⟩ = some (.int .i64 xs[j]) ∧ w'.cell? ⟨g2, o2 + j, none⟩ = some (.int .i64 ys[j])) (by kernel_rfl) (by kernel_rfl) (fun _ _ h hb => ⟨h.1.below hb, (hb.cell (World.block_lt_of_cell? _ _ h.2.1)).trans h.2.1, (hb.cell (World.block_lt_of_cell? _ _ h.2.2)).trans h.2.2⟩) (⟨hM.below zG.drew, hcx, hcy⟩) (fun x => ?_)
    refine zS (fun w' hS hV K hK => ?_) ?_
    · obtain ⟨_, q1, q2⟩ := hS; go_simp; exact zO hK
    refine zS (fun w' hS hV K hK => ?_) ?_
    · obtain ⟨_, q1, q2⟩ := hS; go_simp; exact zO hK
    refine zS (fun w' hS hV K hK => ?_) ?_
    · obtain ⟨_, q1, q2⟩ := hS; go_simp; exact zO hK
    refine zS (fun w' hS hV K hK => ?_) ?_
    · obtain ⟨_, q1, q2⟩ := hS; go_simp; exact zO hK
    refine zS (fun w' hS hV K hK => ?_) ?_
    · have e2 := zQ hV 2; have e3 := zQ hV 3; obtain ⟨_, q1, q2⟩ := hS; go_simp; exact zO hK
    refine zS (fun w' hS hV K hK => ?_) ?_
    · have e4 := zQ hV 4; obtain ⟨_, q1, q2⟩ := hS; go_simp; exact zO hK
    refine zS (fun w' hS hV K hK => ?_) ?_
    · obtain ⟨_, q1, q2⟩ := hS; go_simp; exact zO hK
    refine zS (fun w' hS hV K hK => ?_) ?_
    · obtain ⟨_, q1, q2⟩ := hS; go_simp; exact zO hK
    refine zS (fun w' hS hV K hK => ?_) ?_
    · have e6 := zQ hV 6; have e7 := zQ hV 7; obtain ⟨_, q1, q2⟩ := hS; go_simp; exact zO hK
    refine zS (fun w' hS hV K hK => ?_) ?_
    · have e8 := zQ hV 8; obtain ⟨_, q1, q2⟩ := hS; go_simp; exact zO hK
    refine zS (fun w' hS hV K hK => ?_) ?_
    · have e5 := zQ hV 5; have e9 := zQ hV 9; obtain ⟨_, q1, q2⟩ := hS; go_simp; exact zO hK
    refine zS (fun w' hS hV K hK => ?_) ?_
    · have e1 := zQ hV 1; have e10 := zQ hV 10; obtain ⟨_, q1, q2⟩ := hS; go_simp; refine (l01Mod_any p (xs[j] + ys[j]) w' (by omega) hp2 (by omega) (by omega)).mono ?_; rintro e v1 ⟨rfl, rfl⟩; exact zO hK
    refine zS (fun w' hS hV K hK => ?_) ?_
    · have e11 := zQ hV 11; obtain ⟨_, q1, q2⟩ := hS; go_simp; exact hK.out _ _ _ rfl rfl ⟨_, rfl, Blk.new _ _ _⟩ (zG.alloc (Nat.le_refl _) _)
    refine fun w' hS hV => ?_
    have e0 := zT hV 0
    have e1 := zT hV 1
    have e2 := zT hV 2
    have e3 := zT hV 3
    have e4 := zT hV 4
    have e5 := zT hV 5
    have e6 := zT hV 6
    have e7 := zT hV 7
    have e8 := zT hV 8
    have e9 := zT hV 9
    have e10 := zT hV 10
    have e11 := zT hV 11
    obtain ⟨b12, e12, h12⟩ := hV 12 (by decide)
    simp only [e0, e1, e2, e3, e4, e5, e6, e7, e8, e9, e10, e11, e12]
    clear e0 e1 e2 e3 e4 e5 e6 e7 e8 e9 e10 e11 e12
    obtain ⟨s1, s2, s3⟩ := hS
    refine any_plain (j := 13) (by kernel_rfl) (Eq.trans (by simp only [zA, zB, zC]; exact rfl) rfl) rfl (fun K hK => ?_)
    refine wp_app1 w w' 24 2 _ _ Tryz.underlying24 info_i rfl (by omega) _ _ rfl A' j c' _ _ s1 (by omega) rfl _ h12 (by rfl) (by rfl) ?_
    intro A2 c2 w2 hM2 hgr
    refine hK.out _ _ ?_
    simp only [Act.put, zD, zE, zF]
    refine any_one (j := 14) (by kernel_rfl) (Eq.trans (by simp only [zA, zB, zC]; exact rfl) rfl) (fun K hK => ?_)
    go_simp
    refine hK.out _ _ (wpAny_done (by kernel_rfl) ?_ _)
    clear W2 s2 s3 hM
    go_wp2
    go_roundw
    case rel => exact ⟨j + 1, A2, c2, by omega, by go_num, rfl, by rw [HV.out]; simpa [MkI, ints] using hM2⟩
    case measure => simp [intOf]; omega
  · go_wp2
    go_ret
    obtain rfl : j = n := by omega
    rw [List.take_of_length_le (by rw [plusL_len, Hx.out]; omega)] at hM
    exact ⟨_, _, rfl, hM⟩
theorem minus_eq {p : Int} {x y : List Int} (hl : x.length ≤ y.length) : plusL p x (scaleL p y (p - 1)) 1 = plusL p x y (-1) := by
 refine list_ext_getD 0 (by rw [plusL_len, plusL_len]) fun i hi => ?_
 rw [plusL_len] at hi
 rw [plusL_getD _ _ hi, plusL_getD _ _ hi, scaleL_getD _ (by omega), Int.one_mul, Int.add_emod, Int.emod_emod_of_dvd _ (Int.dvd_refl p), ← Int.add_emod, show x.getD i 0 + y.getD i 0 * (p - 1) = x.getD i 0 + -1 * y.getD i 0 + p * y.getD i 0 by rw [Int.mul_sub, Int.mul_one, Int.mul_comm (y.getD i 0) p]; omega, Int.add_mul_emod_self_left]
set_option maxHeartbeats 1600000 in
set_option maxRecDepth 8000 in
theorem l11Minus_any (p : Int) (A : Option Addr) (n c : Nat) (xs : List Int) (B : Option Addr) (m d : Nat) (ys : List Int) (w : World) (hp : 2 ≤ p) (hp2 : p ≤ 13) (hm : m ≤ 65536) (hnm : n ≤ m) (ha : Rd w A n (ints xs)) (hx : NumsL p xs) (hb : Rd w B m (ints ys)) (hy : NumsL p ys) :
    Calls Tryz.prog 123 #[.int .i64 p, .slice A n c, .slice B m d] w fun e w' => ∃ A' c', e = .returned (.slice A' n c') ∧ MkI w w' A' n c' (plusL p xs ys (-1)) := by
 have hsc := l11Scale_any p (p - 1) B m d ys w hp hp2 hm hb hy (by omega) (by omega)
 have hadd := fun wx (Y : Option Addr) (cy : Nat) (h : MkI w wx Y m cy (scaleL p ys (p - 1))) => l11Add_any p A n c xs Y m cy (scaleL p ys (p - 1)) wx hp hp2 (by omega) hnm (ha.below h.b) hx h.rd (scaleL_nums (by omega) _ _)
 rw [minus_eq (by rw [ha.lenI, hb.lenI]; exact hnm)] at hadd
 obtain ⟨Z, hZ⟩ : ∃ Z, Z = plusL p xs ys (-1) := ⟨_, rfl⟩
 rw [← hZ] at hadd ⊢
 have HADD := Lib.hid hadd
 clear hZ hadd
 go_enter Tryz.func123, Tryz.ntmps123
 go_wp2_with fail
 refine hsc.mono ?_
 rintro e w2 ⟨Y, cy, rfl, hM⟩
 have h2 := HADD.out w2 Y cy hM
 go_wp2_with fail
 refine h2.mono ?_
 rintro e w3 ⟨Z3, c3, rfl, hM3⟩
 go_wp2
 go_ret
 exact ⟨_, _, rfl, hM3.after hM.b⟩
theorem scale_neg (p : Int) (x : List Int) : scaleL p x (p - 1) = scaleL p x (-1) := by
 refine list_ext_getD 0 (by rw [scaleL_len, scaleL_len]) fun i hi => ?_
 rw [scaleL_len] at hi
 rw [scaleL_getD _ hi, scaleL_getD _ hi, show x.getD i 0 * (p - 1) = x.getD i 0 * -1 + p * x.getD i 0 by rw [Int.mul_sub, Int.mul_one, Int.mul_comm (x.getD i 0) p]; omega, Int.add_mul_emod_self_left]
set_option maxHeartbeats 400000 in
set_option maxRecDepth 8000 in
theorem l11Star_any (p : Int) (X : Option Addr) (n c : Nat) (xs : List Int) (w : World) (hp : 2 ≤ p) (hp2 : p ≤ 13) (hn : n ≤ 65536) (h0 : 0 < n) (hx : Rd w X n (ints xs)) (hxs : NumsL p xs) :
    Calls Tryz.prog 161 #[.int .i64 p, .slice X n c] w fun e w' => ∃ A' c', e = .returned (.slice A' n c') ∧ MkI w w' A' n c' (conjL p xs) := by
 obtain ⟨gx, ox, rfl, hxk, hcx⟩ := hx.int h0
 rw [Nat.add_zero] at hcx
 have hs1 := l11Scale_any p (p - 1) (some ⟨gx, ox, none⟩) n c xs w hp hp2 hn hx hxs (by omega) (by omega)
 rw [scale_neg] at hs1
 have HS1 := Lib.hid hs1
 clear hs1
 have HE : Hid (xs[0] = xs.getD 0 0) := Lib.hid (by rw [List.getD_eq_getElem?_getD, List.getElem?_eq_getElem hxk]; rfl)
 have hlt := World.block_lt_of_cell? _ _ hcx
 go_enter Tryz.func161, Tryz.ntmps161
 go_wp2_with fail
 refine HS1.out.mono ?_
 rintro e w1 ⟨G, c1, rfl, hM⟩
 have hcx1 := (hM.b.cell hlt).trans hcx
 rcases hM.2.form with ⟨_, hz⟩ | ⟨g, rfl, hg, _⟩
 · omega
 · obtain ⟨u1, hc1⟩ := hM.2.cellI h0
   have hf1 := hM.2.frozen_ 0
   have hset := (hM.set 0 (.int .i64 xs[0])).1
   rw [ints_set, HE.out] at hset
   have HS := Lib.hid hset
   clear hM hset
   go_wp2
   go_ret
   exact ⟨_, _, rfl, by rw [HE.out]; exact HS.out⟩
end Go.Proofs.YtaiegpggccdgoaaGreat
namespace Go.Proofs.YtaiegpggccdgoaaGreat
open Go.RowKit
set_option maxHeartbeats 1600000 in
set_option maxRecDepth 8000 in
theorem l11Mul_zero (p : Int) (hp : 2 ≤ p) (hp2 : p ≤ 13) (A : Option Addr) (c : Nat) (X : Option Addr) (cx : Nat) (xs : List Int) (Y : Option Addr) (cy : Nat) (ys : List Int) (w : World) (hx : Rd w X 1 (ints xs)) (hxs : NumsL p xs) (hy : Rd w Y 1 (ints ys)) (hys : NumsL p ys) :
    Calls Tryz.prog 156 #[.int .i64 p, .slice A 0 c, .slice X 1 cx, .slice Y 1 cy] w fun e w' => ∃ A' c', e = .returned (.slice A' 1 c') ∧ MkI w w' A' 1 c' [(xs.getD 0 0 * ys.getD 0 0) % p] := by
 obtain ⟨gx, ox, rfl, hxk, hcx⟩ := hx.int (show 0 < 1 by omega)
 obtain ⟨gy, oy, rfl, hyk, hcy⟩ := hy.int (show 0 < 1 by omega)
 rw [Nat.add_zero] at hcx hcy
 have b1 := hxs _ (List.getElem_mem hxk)
 have b2 := hys _ (List.getElem_mem hyk)
 have e1 : xs.getD 0 0 = xs[0] := by rw [List.getD_eq_getElem?_getD, List.getElem?_eq_getElem hxk]; rfl
 have e2 : ys.getD 0 0 = ys[0] := by rw [List.getD_eq_getElem?_getD, List.getElem?_eq_getElem hyk]; rfl
 rw [e1, e2]
 obtain ⟨x0, hx0⟩ : ∃ z, z = xs[0] := ⟨_, rfl⟩
 obtain ⟨y0, hy0⟩ : ∃ z, z = ys[0] := ⟨_, rfl⟩
 rw [← hx0] at hcx b1 ⊢
 rw [← hy0] at hcy b2 ⊢
 have hm1 : 0 ≤ x0 * y0 := Int.mul_nonneg b1.1 b2.1
 have hm2 : x0 * y0 ≤ 13 * 13 := Int.mul_le_mul (by omega) (by omega) b2.1 (by omega)
 have HB : -1000000000000 ≤ x0 * y0 ∧ x0 * y0 ≤ 1000000000000 := by omega
 have hwr : IntKind.i64.wrap (x0 * y0) = x0 * y0 := i64_fit _ HB.1 HB.2
 clear e1 e2 hx0 hy0 hx hy hm1 hm2 b1 b2
 go_enter Tryz.func156, Tryz.ntmps156
 go_wp2
 refine wp_obs 11 [[],[],[1],[1,2],[],[4],[4,5],[1,2,3,4,5,6],[0,1,2,3,4,5,6,7],[0,1,2,3,4,5,6,7,8],[0,1,2,3,4,5,6,7,8,9]] [VIs (.int .i64 (p)), VIs (.slice (some ⟨gx, ox, none⟩) 1 cx), VIs (.pointer (some ⟨gx, ox, none⟩)), VIs (.int .i64 (x0)), VIs (.slice (some ⟨gy, oy, none⟩) 1 cy), VIs (.pointer (some ⟨gy, oy, none⟩)), VIs (.int .i64 (y0)), VIs (.int .i64 (x0 * y0)), VIs (.int .i64 ((x0 * y0) % p)), VSl w 1 [(x0 * y0) % p], VSl w 1 [(x0 * y0) % p]] (fun w' => w'.cell? ⟨gx, ox, none⟩ = some (.int .i64 x0) ∧ w'.cell? ⟨gy, oy, none⟩ = some (.int .i64 y0) ∧ Below w.heap.size w w') (by kernel_rfl) (by kernel_rfl) (fun _ _ h hb => ⟨(hb.cell (World.block_lt_of_cell? _ _ h.1)).trans h.1, (hb.cell (World.block_lt_of_cell? _ _ h.2.1)).trans h.2.1, h.2.2.trans (hb.mono h.2.2.size)⟩) (⟨hcx, hcy, zG.drew⟩) (fun x => ?_)
 refine zS (fun w' hS hV K hK => ?_) ?_
 · have q0 := hS.1; have q1 := hS.2.1; go_simp; exact zO hK
 refine zS (fun w' hS hV K hK => ?_) ?_
 · have q0 := hS.1; have q1 := hS.2.1; go_simp; exact zO hK
 refine zS (fun w' hS hV K hK => ?_) ?_
 · have e1 := zQ hV 1; have q0 := hS.1; have q1 := hS.2.1; go_simp; exact zO hK
 refine zS (fun w' hS hV K hK => ?_) ?_
 · have e2 := zQ hV 2; have q0 := hS.1; have q1 := hS.2.1; go_simp; exact zO hK
 refine zS (fun w' hS hV K hK => ?_) ?_
 · have q0 := hS.1; have q1 := hS.2.1; go_simp; exact zO hK
 refine zS (fun w' hS hV K hK => ?_) ?_
 · have e4 := zQ hV 4; have q0 := hS.1; have q1 := hS.2.1; go_simp; exact zO hK
 refine zS (fun w' hS hV K hK => ?_) ?_
 · have e5 := zQ hV 5; have q0 := hS.1; have q1 := hS.2.1; go_simp; exact zO hK
 refine zS (fun w' hS hV K hK => ?_) ?_
 · have e3 := zQ hV 3; have e6 := zQ hV 6; have q0 := hS.1; have q1 := hS.2.1; go_simp; exact zO hK
 refine zS (fun w' hS hV K hK => ?_) ?_
 · have e0 := zQ hV 0; have e7 := zQ hV 7; have q0 := hS.1; have q1 := hS.2.1; go_simp; refine (l01Mod_any p (x0 * y0) w' (by omega) hp2 HB.1 HB.2).mono ?_; rintro e w1 ⟨rfl, rfl⟩; exact zO hK
 refine zS (fun w' hS hV K hK => ?_) ?_
 · have e8 := zQ hV 8; have q0 := hS.1; have q1 := hS.2.1; go_simp; exact hK.out _ _ _ rfl rfl ⟨_, _, rfl, by have := Mk.lit (E := 2) hS.2.2 #[.int .i64 ((x0 * y0) % p)] (by simp [maxLen]); simpa [MkI, ints] using this⟩ (zG.alloc (Nat.le_refl _) _)
 refine zS (fun w' hS hV K hK => ?_) ?_
 · obtain ⟨A9, c9, e9, h9⟩ := hV 9 (by decide); have q0 := hS.1; have q1 := hS.2.1; go_simp; exact hK.out _ _ _ rfl rfl ⟨_, _, rfl, h9⟩ zG
 refine fun w' hS hV => ?_
 have e0 := zT hV 0
 have e1 := zT hV 1
 have e2 := zT hV 2
 have e3 := zT hV 3
 have e4 := zT hV 4
 have e5 := zT hV 5
 have e6 := zT hV 6
 have e7 := zT hV 7
 have e8 := zT hV 8
 obtain ⟨A9, c9, e9, h9⟩ := hV 9 (by decide)
 obtain ⟨A10, c10, e10, h10⟩ := hV 10 (by decide)
 simp only [e0, e1, e2, e3, e4, e5, e6, e7, e8, e9, e10]
 clear e0 e1 e2 e3 e4 e5 e6 e7 e8 e9 e10
 refine wpAny_done (by kernel_rfl) ?_ _
 go_wp2
 go_ret
 exact ⟨_, _, rfl, h10⟩
/-- The contract of the product for k steps. -/
def MulOk (p : Int) (k : Nat) : Prop := ∀ (A : Option Addr) (c : Nat) (st : List Int) (X : Option Addr) (cx : Nat) (xs : List Int) (Y : Option Addr) (cy : Nat) (ys : List Int) (w : World), k ≤ c → pw k ≤ cx → pw k ≤ cy →
 Rd w A k (ints st) → NumsL p st → Rd w X (pw k) (ints xs) → NumsL p xs → Rd w Y (pw k) (ints ys) → NumsL p ys →
 Calls Tryz.prog 156 #[.int .i64 p, .slice A k c, .slice X (pw k) cx, .slice Y (pw k) cy] w fun e w' => ∃ A' c', e = .returned (.slice A' (pw k) c') ∧ MkI w w' A' (pw k) c' (dblL p k st xs ys)
theorem plus_scale {p : Int} {x y : List Int} (g : Int) (hl : x.length ≤ y.length) : plusL p x (scaleL p y g) 1 = plusL p x y g := by
 refine list_ext_getD 0 (by rw [plusL_len, plusL_len]) fun i hi => ?_
 rw [plusL_len] at hi
 rw [plusL_getD _ _ hi, plusL_getD _ _ hi, scaleL_getD _ (by omega), Int.one_mul, Int.add_emod, Int.emod_emod_of_dvd _ (Int.dvd_refl p), ← Int.add_emod, Int.mul_comm (y.getD i 0)]
set_option maxHeartbeats 1600000 in
set_option maxRecDepth 8000 in
theorem l11Mul_succ (p : Int) (hp : 2 ≤ p) (hp2 : p ≤ 13) (k : Nat) (hk : k + 1 ≤ 4) (ih : MulOk p k) : MulOk p (k + 1) := by
 intro A c st X cx xs Y cy ys w hc hcx hcy ha hst hx hxs hy hys
 obtain ⟨ga, oa, rfl, hsk, hca⟩ := ha.int (show k < k + 1 by omega)
 obtain ⟨h, hh⟩ : ∃ h, h = pw k := ⟨_, rfl⟩
 have hpw : pw (k + 1) = 2 * h := by rw [pw_succ, hh]
 have h1 : 1 ≤ h := hh ▸ pw_pos k
 have h64 : h ≤ 8 := by have := pw_le (show k ≤ 3 by omega); rw [← hh] at this; exact this
 rw [hpw] at hcx hcy hx hy
 obtain ⟨gx, ox, rfl, hx2⟩ := hx.behind (show h < 2 * h by omega)
 obtain ⟨gy, oy, rfl, hy2⟩ := hy.behind (show h < 2 * h by omega)
 have hx1 := hx.cut (show h ≤ 2 * h by omega)
 have hy1 := hy.cut (show h ≤ 2 * h by omega)
 have ha1 := ha.cut (show k ≤ k + 1 by omega)
 have s1 := fun w => slice_head (g := gx) (o := ox) (c := cx) (m := 2 * h) (k := h) w (by omega) (by omega)
 have s2 := fun w => slice_rest (g := gx) (o := ox) (c := cx) (m := 2 * h) (k := h) w (by omega) (by omega)
 have s3 := fun w => slice_head (g := gy) (o := oy) (c := cy) (m := 2 * h) (k := h) w (by omega) (by omega)
 have s4 := fun w => slice_rest (g := gy) (o := oy) (c := cy) (m := 2 * h) (k := h) w (by omega) (by omega)
 have s5 := fun w => slice_head (g := ga) (o := oa) (c := c) (m := k + 1) (k := k) w (by omega) (by omega)
 have e9 : 2 * h - h = h := by omega
 simp only [e9] at s2 s4 hx2 hy2
 rw [ints_drop] at hx2 hy2
 rw [ints_take] at hx1 hy1 ha1
 have hst1 : NumsL p (st.take k) := fun v hv => hst v (List.mem_of_mem_take hv)
 have hxs1 : NumsL p (xs.take h) := fun v hv => hxs v (List.mem_of_mem_take hv)
 have hxs2 : NumsL p (xs.drop h) := fun v hv => hxs v (List.mem_of_mem_drop hv)
 have hys1 : NumsL p (ys.take h) := fun v hv => hys v (List.mem_of_mem_take hv)
 have hys2 : NumsL p (ys.drop h) := fun v hv => hys v (List.mem_of_mem_drop hv)
 obtain ⟨sk, hsk2⟩ : ∃ z, z = st[k] := ⟨_, rfl⟩
 obtain ⟨hs1, hs2⟩ := hst _ (List.getElem_mem hsk)
 rw [← hsk2] at hca hs1 hs2
 have IH := ih
 unfold MulOk at IH
 rw [← hh] at IH
 have hcs := hca
 rw [hpw]
 have hw1 : IntKind.i64.wrap (2 * (h : Int)) = 2 * (h : Int) := i64_fit _ (by omega) (by omega)
 have hq2 : IntKind.i64.wrap (h : Int) = (h : Int) := i64_fit _ (by omega) (by omega)
 have hkk : k < k + 1 := by omega
 have hkk2 : (k : Int) < (k : Int) + 1 := by omega
 have HH := Lib.hid hh
 have HPW := Lib.hid hpw
 have HSK := Lib.hid hsk2
 clear hh hpw hsk2 e9 ih
 go_enter Tryz.func156, Tryz.ntmps156
 go_wp2
 refine wp_obs 13 [[],[0],[0,1],[],[],[3,4],[],[],[6,7],[6,7,8],[0,1,2],[3,4,5],[6,7,8,9]] [VIs (.slice (some ⟨gx, ox, none⟩) (2 * h) cx), VIs (.int .i64 (2 * (h : Int))), VIs (.int .i64 (h)), VIs (.slice (some ⟨ga, oa, none⟩) (k + 1) c), VIs (.int .i64 (k)), VIs (.slice (some ⟨ga, oa, none⟩) k c), VIs (.slice (some ⟨ga, oa, none⟩) (k + 1) c), VIs (.int .i64 (k)), VIs (.pointer (some ⟨ga, oa + k, none⟩)), VIs (.int .i64 (sk)), VIs (.int .i64 (h)), VIs (.slice (some ⟨ga, oa, none⟩) k c), VIs (.int .i64 (sk))] (fun w' => w'.cell? ⟨ga, oa + k, none⟩ = some (.int .i64 sk) ∧ Below w.heap.size w w') (by kernel_rfl) (by kernel_rfl) (fun _ _ h hb => ⟨(hb.cell (World.block_lt_of_cell? _ _ h.1)).trans h.1, h.2.trans (hb.mono h.2.size)⟩) (⟨hcs, zG.drew⟩) (fun x => ?_)
 refine zS (fun w' hS hV K hK => ?_) ?_
 · have q0 := hS.1; go_simp; exact zO hK
 refine zS (fun w' hS hV K hK => ?_) ?_
 · have e0 := zQ hV 0; have q0 := hS.1; go_simp; exact zO hK
 refine zS (fun w' hS hV K hK => ?_) ?_
 · have e1 := zQ hV 1; have q0 := hS.1; go_simp; exact zO hK
 refine zS (fun w' hS hV K hK => ?_) ?_
 · have q0 := hS.1; go_simp; exact zO hK
 refine zS (fun w' hS hV K hK => ?_) ?_
 · have q0 := hS.1; go_simp; exact zO hK
 refine zS (fun w' hS hV K hK => ?_) ?_
 · have e3 := zQ hV 3; have e4 := zQ hV 4; have q0 := hS.1; go_simp; exact zO hK
 refine zS (fun w' hS hV K hK => ?_) ?_
 · have q0 := hS.1; go_simp; exact zO hK
 refine zS (fun w' hS hV K hK => ?_) ?_
 · have q0 := hS.1; go_simp; exact zO hK
 refine zS (fun w' hS hV K hK => ?_) ?_
 · have e6 := zQ hV 6; have e7 := zQ hV 7; have q0 := hS.1; go_simp; exact zO hK
 refine zS (fun w' hS hV K hK => ?_) ?_
 · have e8 := zQ hV 8; have q0 := hS.1; go_simp; exact zO hK
 refine zS (fun w' hS hV K hK => ?_) ?_
 · have e2 := zQ hV 2; have q0 := hS.1; go_simp; exact zO hK
 refine zS (fun w' hS hV K hK => ?_) ?_
 · have e5 := zQ hV 5; have q0 := hS.1; go_simp; exact zO hK
 refine zS (fun w' hS hV K hK => ?_) ?_
 · have e9 := zQ hV 9; have q0 := hS.1; go_simp; exact zO hK
 refine fun w' hS hV => ?_
 have e0 := zT hV 0
 have e1 := zT hV 1
 have e2 := zT hV 2
 have e3 := zT hV 3
 have e4 := zT hV 4
 have e5 := zT hV 5
 have e6 := zT hV 6
 have e7 := zT hV 7
 have e8 := zT hV 8
 have e9 := zT hV 9
 have e10 := zT hV 10
 have e11 := zT hV 11
 have e12 := zT hV 12
 simp only [e0, e1, e2, e3, e4, e5, e6, e7, e8, e9, e10, e11, e12]
 clear e0 e1 e2 e3 e4 e5 e6 e7 e8 e9 e10 e11 e12
 refine wpAny_done (by kernel_rfl) ?_ _
 go_wp2
 refine wp_obs 16 [[],[],[0,1],[],[],[3,4],[],[],[6,7],[],[],[9,10],[0,1,2],[3,4,5],[6,7,8],[9,10,11]] [VIs (.slice (some ⟨gx, ox, none⟩) (2 * h) cx), VIs (.int .i64 (h)), VIs (.slice (some ⟨gx, ox, none⟩) h cx), VIs (.slice (some ⟨gx, ox, none⟩) (2 * h) cx), VIs (.int .i64 (h)), VIs (.slice (some ⟨gx, ox + h, none⟩) h (cx - h)), VIs (.slice (some ⟨gy, oy, none⟩) (2 * h) cy), VIs (.int .i64 (h)), VIs (.slice (some ⟨gy, oy, none⟩) h cy), VIs (.slice (some ⟨gy, oy, none⟩) (2 * h) cy), VIs (.int .i64 (h)), VIs (.slice (some ⟨gy, oy + h, none⟩) h (cy - h)), VIs (.slice (some ⟨gx, ox, none⟩) h cx), VIs (.slice (some ⟨gx, ox + h, none⟩) h (cx - h)), VIs (.slice (some ⟨gy, oy, none⟩) h cy), VIs (.slice (some ⟨gy, oy + h, none⟩) h (cy - h))] (fun w' => Below w.heap.size w w') (by kernel_rfl) (by kernel_rfl) (fun _ _ h hb => h.trans (hb.mono h.size)) (hS.2.drew) (fun x => ?_)
 refine zS (fun w' hS hV K hK => ?_) ?_
 · go_simp; exact zO hK
 refine zS (fun w' hS hV K hK => ?_) ?_
 · go_simp; exact zO hK
 refine zS (fun w' hS hV K hK => ?_) ?_
 · have e0 := zQ hV 0; have e1 := zQ hV 1; go_simp; exact zO hK
 refine zS (fun w' hS hV K hK => ?_) ?_
 · go_simp; exact zO hK
 refine zS (fun w' hS hV K hK => ?_) ?_
 · go_simp; exact zO hK
 refine zS (fun w' hS hV K hK => ?_) ?_
 · have e3 := zQ hV 3; have e4 := zQ hV 4; go_simp; exact zO hK
 refine zS (fun w' hS hV K hK => ?_) ?_
 · go_simp; exact zO hK
 refine zS (fun w' hS hV K hK => ?_) ?_
 · go_simp; exact zO hK
 refine zS (fun w' hS hV K hK => ?_) ?_
 · have e6 := zQ hV 6; have e7 := zQ hV 7; go_simp; exact zO hK
 refine zS (fun w' hS hV K hK => ?_) ?_
 · go_simp; exact zO hK
 refine zS (fun w' hS hV K hK => ?_) ?_
 · go_simp; exact zO hK
 refine zS (fun w' hS hV K hK => ?_) ?_
 · have e9 := zQ hV 9; have e10 := zQ hV 10; go_simp; exact zO hK
 refine zS (fun w' hS hV K hK => ?_) ?_
 · have e2 := zQ hV 2; go_simp; exact zO hK
 refine zS (fun w' hS hV K hK => ?_) ?_
 · have e5 := zQ hV 5; go_simp; exact zO hK
 refine zS (fun w' hS hV K hK => ?_) ?_
 · have e8 := zQ hV 8; go_simp; exact zO hK
 refine zS (fun w' hS hV K hK => ?_) ?_
 · have e11 := zQ hV 11; go_simp; exact zO hK
 refine fun w' hS hV => ?_
 have e0 := zT hV 0
 have e1 := zT hV 1
 have e2 := zT hV 2
 have e3 := zT hV 3
 have e4 := zT hV 4
 have e5 := zT hV 5
 have e6 := zT hV 6
 have e7 := zT hV 7
 have e8 := zT hV 8
 have e9 := zT hV 9
 have e10 := zT hV 10
 have e11 := zT hV 11
 have e12 := zT hV 12
 have e13 := zT hV 13
 have e14 := zT hV 14
 have e15 := zT hV 15
 simp only [e0, e1, e2, e3, e4, e5, e6, e7, e8, e9, e10, e11, e12, e13, e14, e15]
 clear e0 e1 e2 e3 e4 e5 e6 e7 e8 e9 e10 e11 e12 e13 e14 e15
 refine wpAny_done (by kernel_rfl) ?_ _
 have B0 := hS
 clear hV hS
 go_wp2_with fail
 refine (IH _ c (st.take k) _ cx (xs.take h) _ cy (ys.take h) _ (by omega) (by omega) (by omega) (ha1.below B0) hst1 (hx1.below B0) hxs1 (hy1.below B0) hys1).mono ?_
 rintro e v1 ⟨R1, d1, rfl, m1⟩
 have B1 := B0.trans (m1.b.mono B0.size)
 have r1 := m1.rd
 have cp1 := m1.2.cap
 go_wp2_with fail
 refine (l11Star_any p _ h _ (ys.drop h) _ hp hp2 (by omega) (by omega) (hy2.below B1) hys2).mono ?_
 rintro e v2 ⟨R2, d2, rfl, m2⟩
 have B2 := B1.trans (m2.b.mono B1.size)
 have r2 := m2.rd
 have cp2 := m2.2.cap
 have r1 := r1.below m2.b
 go_wp2_with fail
 refine (IH _ c (st.take k) _ d2 (conjL p (ys.drop h)) _ (cx - h) (xs.drop h) _ (by omega) cp2 (by omega) (ha1.below B2) hst1 r2 (conjL_nums (by omega) hys2) (hx2.below B2) hxs2).mono ?_
 rintro e v3 ⟨R3, d3, rfl, m3⟩
 have B3 := B2.trans (m3.b.mono B2.size)
 have r3 := m3.rd
 have cp3 := m3.2.cap
 have r1 := r1.below m3.b
 clear r2 m2
 go_wp2_with fail
 refine (l11Scale_any p sk _ h _ (dblL p k (st.take k) (conjL p (ys.drop h)) (xs.drop h)) _ hp hp2 (by omega) r3 (dblL_nums (by omega) _ _ _ _) (by omega) (by omega)).mono ?_
 rintro e v4 ⟨R4, d4, rfl, m4⟩
 have B4 := B3.trans (m4.b.mono B3.size)
 have r4 := m4.rd
 have cp4 := m4.2.cap
 have r1 := r1.below m4.b
 clear r3 m3
 go_wp2_with fail
 refine (l11Add_any p _ h _ (dblL p k (st.take k) (xs.take h) (ys.take h)) _ h _ (scaleL p (dblL p k (st.take k) (conjL p (ys.drop h)) (xs.drop h)) sk) _ hp hp2 (by omega) (Nat.le_refl _) r1 (dblL_nums (by omega) _ _ _ _) r4 (scaleL_nums (by omega) _ _)).mono ?_
 rintro e v5 ⟨R5, d5, rfl, m5⟩
 have B5 := B4.trans (m5.b.mono B4.size)
 have r5 := m5.rd
 have cp5 := m5.2.cap
 clear r1 r4 m4 m1
 have HM5 : Hid (MkI w v5 R5 h d5 (plusL p (dblL p k (st.take k) (xs.take h) (ys.take h)) (dblL p k (st.take k) (conjL p (ys.drop h)) (xs.drop h)) sk)) := Lib.hid (by have := m5.after B4; rw [plus_scale _ (by rw [dblL_len, dblL_len]; exact Nat.le_refl _)] at this; exact this)
 obtain ⟨P1, hP1⟩ : ∃ L, L = plusL p (dblL p k (st.take k) (xs.take h) (ys.take h)) (dblL p k (st.take k) (conjL p (ys.drop h)) (xs.drop h)) sk := ⟨_, rfl⟩
 rw [← hP1] at HM5
 clear m5 r5 B1 B2 B3 B4
 go_wp2_with fail
 refine (IH _ c (st.take k) _ (cy - h) (ys.drop h) _ cx (xs.take h) _ (by omega) (by omega) (by omega) (ha1.below B5) hst1 (hy2.below B5) hys2 (hx1.below B5) hxs1).mono ?_
 rintro e v6 ⟨R6, d6, rfl, m6⟩
 have B6 := B5.trans (m6.b.mono B5.size)
 have r6 := m6.rd
 have cp6 := m6.2.cap
 go_wp2_with fail
 refine (l11Star_any p _ h _ (ys.take h) _ hp hp2 (by omega) (by omega) (hy1.below B6) hys1).mono ?_
 rintro e v7 ⟨R7, d7, rfl, m7⟩
 have B7 := B6.trans (m7.b.mono B6.size)
 have r7 := m7.rd
 have cp7 := m7.2.cap
 have r6 := r6.below m7.b
 go_wp2_with fail
 refine (IH _ c (st.take k) _ (cx - h) (xs.drop h) _ d7 (conjL p (ys.take h)) _ (by omega) (by omega) cp7 (ha1.below B7) hst1 (hx2.below B7) hxs2 r7 (conjL_nums (by omega) hys1)).mono ?_
 rintro e v8 ⟨R8, d8, rfl, m8⟩
 have B8 := B7.trans (m8.b.mono B7.size)
 have r8 := m8.rd
 have cp8 := m8.2.cap
 have r6 := r6.below m8.b
 clear r7
 go_wp2_with fail
 refine (l11Add_any p _ h _ (dblL p k (st.take k) (ys.drop h) (xs.take h)) _ h _ (dblL p k (st.take k) (xs.drop h) (conjL p (ys.take h))) _ hp hp2 (by omega) (Nat.le_refl _) r6 (dblL_nums (by omega) _ _ _ _) r8 (dblL_nums (by omega) _ _ _ _)).mono ?_
 rintro e v9 ⟨R9, d9, rfl, m9⟩
 have B9 := B8.trans (m9.b.mono B8.size)
 have r9 := m9.rd
 have cp9 := m9.2.cap
 have HMA : Hid (MkI w v9 R5 h d5 P1) := Lib.hid ((((HM5.out.below m6.b).below m7.b).below m8.b).below m9.b)
 have HRA := Lib.hid m9.rd
 clear r9 m9 m8 m7 m6 HM5
 go_wp2_with (at_builtin; refine wpList_appAll w _ rfl _ _ rfl R5 h d5 _ R9 h d9 _ HMA.out HRA.out (by omega) (by omega) (by omega) rfl rfl ?_; intro A' c' w' hM' _)
 go_ret
 refine ⟨A', c', by rw [show 2 * h = h + h by omega]; rfl, ?_⟩
 rw [show 2 * h = h + h by omega]
 rw [hP1] at hM'
 have e : dblL p (k + 1) st xs ys = plusL p (dblL p k (st.take k) (xs.take h) (ys.take h)) (dblL p k (st.take k) (conjL p (ys.drop h)) (xs.drop h)) sk ++ plusL p (dblL p k (st.take k) (ys.drop h) (xs.take h)) (dblL p k (st.take k) (xs.drop h) (conjL p (ys.take h))) 1 := by
  show plusL p _ _ (st.getD k 0) ++ _ = _
  rw [← HH.out, HSK.out, List.getD_eq_getElem?_getD, List.getElem?_eq_getElem hsk]
  rfl
 rw [e]
 exact hM'
/-- The product of elements of a doubling. -/
theorem l11Mul_any (p : Int) (hp : 2 ≤ p) (hp2 : p ≤ 13) (k : Nat) (hk : k ≤ 4) : MulOk p k := by
 induction k with
 | zero => exact fun A c st X cx xs Y cy ys w _ _ _ _ _ hx hxs hy hys => l11Mul_zero p hp hp2 A c X cx xs Y cy ys w hx hxs hy hys
 | succ k ih => exact l11Mul_succ p hp hp2 k hk (ih (by omega))
end Go.Proofs.YtaiegpggccdgoaaGreat
namespace Go.Proofs.YtaiegpggccdgoaaGreat
open Go Go.RowKit
set_option maxHeartbeats 400000 in
set_option maxRecDepth 8000 in
theorem l11Size_any (P : Int) (A : Option Addr) (n c : Nat) (w : World) (hn : n ≤ 30) :
    Calls Tryz.prog 101 #[.agg #[.int .i64 P, .slice A n c]] w fun e w' => e = .returned (.int .i64 (pw n)) ∧ Below w.heap.size w w' := by
 go_enter Tryz.func101, Tryz.ntmps101
 go_wp2
 go_ret
 exact ⟨ret_int (wrap_pw n hn), zG.alloc (Nat.le_refl _) _⟩
/-- Is it a doubling? -/
def isDbS (P : Int) (xs : List Int) : Bool := isP P && decide (((xs.length : Nat) : Int) ≤ 4) && xs.all fun x => inR x 1 (P - 1)
theorem all_takeS (f : Int → Bool) (xs : List Int) (k : Nat) (h : k < xs.length) (ht : (xs.take k).all f = true) (hi : f xs[k] = true) : (xs.take (k + 1)).all f = true := by
 rw [List.take_succ_eq_append_getElem h, List.all_append, ht]; simp [hi]
theorem all_badS (f : Int → Bool) (xs : List Int) (k : Nat) (h : k < xs.length) (hi : f xs[k] = false) : xs.all f = false := by
 rw [List.all_eq_false]; exact ⟨xs[k], List.getElem_mem h, by simp [hi]⟩
set_option maxHeartbeats 1000000 in
set_option maxRecDepth 8000 in
theorem l11IsS_any (P : Int) (A : Option Addr) (n c : Nat) (xs : List Int) (w : World) (hn : n ≤ 1048576) (ha : Rd w A n (ints xs)) :
    Calls Tryz.prog 82 #[.agg #[.int .i64 P, .slice A n c]] w fun e w' => e = .returned (.bool (isDbS P xs)) ∧ Below w.heap.size w w' := by
 have hxl : xs.length = n := by have := ha.1; rwa [ints_length] at this
 have hB : Below w.heap.size w (w.alloc (.cells #[.int .i64 P, .slice A n c] 26)) := zG.alloc (Nat.le_refl _) _
 have k0 : Blk (w.alloc (.cells #[.int .i64 P, .slice A n c] 26)) w.heap.size 26 #[.int .i64 P, .slice A n c] := Blk.new _ _ _
 have hdb : isDbS P xs = (isP P && decide (((n : Nat) : Int) ≤ 4) && xs.all fun x => inR x 1 (P - 1)) := by unfold isDbS; rw [hxl]
 have Hdb := Lib.hid hdb; clear hdb
 have Hx := Lib.hid hxl; clear hxl
 cases h1 : isP P
 · have H1 := Lib.hid h1; clear h1
   go_enter Tryz.func82, Tryz.ntmps82
   go_wp2_with (go_at_call 134; refine (l01Prime_b _ _ H1.out).mono ?_; rintro e w' ⟨rfl, rfl⟩)
   go_ret
   exact ⟨ret_bool (by rw [Hdb.out, H1.out]; rfl), hB⟩
 obtain ⟨hp0, hp1⟩ := isP_pos h1
 have H1 := Lib.hid h1; clear h1
 by_cases h4 : n ≤ 4
 · have h4' : decide ((4 : Int) < (n : Int)) = false := by simp; omega
   go_enter Tryz.func82, Tryz.ntmps82
   go_wp2_with (go_at_call 134; refine (l01Prime_b _ _ H1.out).mono ?_; rintro e w' ⟨rfl, rfl⟩)
   have ha' := ha.below hB
   obtain ⟨W, hW⟩ : ∃ W, W = w.alloc (.cells #[.int .i64 P, .slice A n c] 26) := ⟨_, rfl⟩
   obtain ⟨b, hbz⟩ : ∃ b, b = w.heap.size := ⟨_, rfl⟩
   rw [← hbz]
   rw [← hbz, ← hW] at k0
   rw [← hW] at ha' hB ⊢
   have HW := Lib.hid hW
   have HB := Lib.hid hbz
   clear hW hbz ha
   go_loopw [3] (fun i wr => ∃ k j : Nat, k ≤ n ∧ i = .int .i64 k ∧ (xs.take k).all (fun x => inR x 1 (P - 1)) = true ∧ wr = W.drewN j) (fun i _ => n - (intOf i).toNat)
   case atStart => exact ⟨0, 0, by omega, rfl, by simp, rfl⟩
   case round =>
    obtain ⟨k, j, hk, rfl, ht, rfl⟩ := hrel
    have H := Lib.hid ht; clear ht
    obtain ⟨q0, q1⟩ := k0.two
    by_cases hlt : k < n
    · obtain ⟨g, o, rfl, hx, hcx⟩ := ha'.int hlt
      cases hi : inR xs[k] 1 (P - 1)
      all_goals
       have HI := Lib.hid hi; clear hi
       go_wp2_with fail
       go_quiet ((go_at_call 135; exact quiet_add_left (l01In_b _ _ _ _ HI.out)))
       go_wp2
      · go_ret
        exact ⟨ret_bool (by rw [Hdb.out, H1.out, all_badS (fun x => inR x 1 (P - 1)) xs k hx HI.out, Bool.and_false]), below_drewN (below_drewN hB _) _⟩
      · go_roundw
        case rel => exact ⟨k + 1, _, by omega, by go_num, all_takeS (fun x => inR x 1 (P - 1)) xs k hx H.out HI.out, rfl⟩
        case measure => simp [intOf]; omega
    · go_wp2
      go_ret
      have := H.out
      rw [List.take_of_length_le (by rw [Hx.out]; omega)] at this
      exact ⟨ret_bool (by rw [Hdb.out, H1.out, this]; simp; omega), below_drewN hB _⟩
 · have h4' : decide ((4 : Int) < (n : Int)) = true := by simp; omega
   go_enter Tryz.func82, Tryz.ntmps82
   go_wp2_with (go_at_call 134; refine (l01Prime_b _ _ H1.out).mono ?_; rintro e w' ⟨rfl, rfl⟩)
   go_ret
   exact ⟨ret_bool (by rw [Hdb.out, H1.out]; simp; omega), hB⟩
/-- Is it an element of a doubling with n steps? -/
def isElS (P : Int) (n : Nat) (ys : List Int) : Bool := nums P ys && (((ys.length : Nat) : Int) == ((pw n : Nat) : Int))
set_option maxHeartbeats 1000000 in
set_option maxRecDepth 8000 in
theorem l11ElementS_any (P : Int) (A B : Option Addr) (n c m d : Nat) (ys : List Int) (w : World) (hn : n ≤ 4) (hm : m ≤ 1048576) (hp0 : 0 < P) (hp1 : P ≤ 13) (hb : Rd w B m (ints ys)) :
    Calls Tryz.prog 137 #[.agg #[.int .i64 P, .slice A n c], .slice B m d] w fun e w' => e = .returned (.bool (isElS P n ys)) ∧ Below w.heap.size w w' := by
 have hyl : ys.length = m := by have := hb.1; rwa [ints_length] at this
 have hB : Below w.heap.size w (w.alloc (.cells #[.int .i64 P, .slice A n c] 26)) := zG.alloc (Nat.le_refl _) _
 have k0 : Blk (w.alloc (.cells #[.int .i64 P, .slice A n c] 26)) w.heap.size 26 #[.int .i64 P, .slice A n c] := Blk.new _ _ _
 have hel : isElS P n ys = (nums P ys && (((m : Nat) : Int) == ((pw n : Nat) : Int))) := by unfold isElS; rw [hyl]
 have Hel := Lib.hid hel; clear hel
 have Hy := Lib.hid hyl; clear hyl
 go_enter Tryz.func137, Tryz.ntmps137
 go_wp2
 have hb' := hb.below hB
 obtain ⟨W, hW⟩ : ∃ W, W = w.alloc (.cells #[.int .i64 P, .slice A n c] 26) := ⟨_, rfl⟩
 obtain ⟨b, hbz⟩ : ∃ b, b = w.heap.size := ⟨_, rfl⟩
 rw [← hbz]
 rw [← hbz, ← hW] at k0
 rw [← hW] at hb' hB ⊢
 have HW := Lib.hid hW
 have HB := Lib.hid hbz
 clear hW hbz hb
 go_loopw [5] (fun i wr => ∃ k j : Nat, k ≤ m ∧ i = .int .i64 k ∧ nums P (ys.take k) = true ∧ wr = W.drewN j) (fun i _ => m - (intOf i).toNat)
 case atStart => exact ⟨0, 0, by omega, rfl, by simp [nums], rfl⟩
 case round =>
  obtain ⟨k, j, hk, rfl, ht, rfl⟩ := hrel
  have H := Lib.hid ht; clear ht
  obtain ⟨q0, q1⟩ := k0.two
  by_cases hlt : k < m
  · obtain ⟨g, o, rfl, hx, hcx⟩ := hb'.int hlt
    cases hi : inR ys[k] 0 (P - 1)
    all_goals
     have HI := Lib.hid hi; clear hi
     go_wp2_with fail
     go_quiet ((go_at_call 135; exact quiet_add_left (l01In_b _ _ _ _ HI.out)))
     go_wp2
    · go_ret
      exact ⟨ret_bool (by rw [Hel.out, nums_bad P ys k hx HI.out]; rfl), below_drewN (below_drewN hB _) _⟩
    · go_roundw
      case rel => exact ⟨k + 1, _, by omega, by go_num, nums_take P ys k hx H.out HI.out, rfl⟩
      case measure => simp [intOf]; omega
  · go_wp2_with fail
    refine (l11Size_any _ _ _ _ _ (by omega)).mono ?_
    rintro e w1 ⟨rfl, hb1⟩
    go_wp2
    go_ret
    have := H.out
    rw [List.take_of_length_le (by rw [Hy.out]; omega)] at this
    exact ⟨ret_bool (by rw [Hel.out, this]; rfl), (below_drewN hB _).trans (hb1.mono hB.size)⟩
theorem isDbS_eq (P : Int) (xs : List Int) : isDbS P xs = isDb P xs := by
 unfold isDbS isDb
 have e1 : decide (((xs.length : Nat) : Int) ≤ 4) = decide (xs.length ≤ 4) := by rw [decide_eq_decide]; omega
 rw [e1, Bool.and_assoc (isP P && decide (xs.length ≤ 4))]
 congr 1
 rw [Bool.eq_iff_iff, Bool.and_eq_true, List.all_eq_true]
 unfold nums
 rw [List.all_eq_true]
 constructor
 · intro h
   refine ⟨fun x hx => ?_, ?_⟩
   · have := h x hx; unfold inR at this ⊢; simp only [Bool.and_eq_true, decide_eq_true_eq] at this ⊢; omega
   · rw [Bool.not_eq_true']
     rw [Bool.eq_false_iff]
     intro hc
     have h0 := h 0 (by simpa using hc)
     unfold inR at h0
     simp at h0
 · rintro ⟨h1, h2⟩ x hx
   have h3 := h1 x hx
   have h4 : x ≠ 0 := fun e => by
    subst e
    rw [Bool.not_eq_true', Bool.eq_false_iff] at h2
    exact h2 (by simpa using hx)
   unfold inR at h3 ⊢; simp only [Bool.and_eq_true, decide_eq_true_eq] at h3 ⊢; omega
theorem isElS_eq (P : Int) (k : Nat) (ys : List Int) : isElS P k ys = isEl P k ys := by unfold isElS isEl; rw [Bool.and_comm]
theorem l11Is_any (P : Int) (A : Option Addr) (n c : Nat) (xs : List Int) (w : World) (hn : n ≤ 1048576) (ha : Rd w A n (ints xs)) :
    Calls Tryz.prog 82 #[.agg #[.int .i64 P, .slice A n c]] w fun e w' => e = .returned (.bool (isDb P xs)) ∧ Below w.heap.size w w' := by
 have h := l11IsS_any P A n c xs w hn ha
 rw [isDbS_eq] at h
 exact h
theorem l11Element_any (P : Int) (A B : Option Addr) (n c m d : Nat) (ys : List Int) (w : World) (hn : n ≤ 4) (hm : m ≤ 1048576) (hp0 : 0 < P) (hp1 : P ≤ 13) (hb : Rd w B m (ints ys)) :
    Calls Tryz.prog 137 #[.agg #[.int .i64 P, .slice A n c], .slice B m d] w fun e w' => e = .returned (.bool (isEl P n ys)) ∧ Below w.heap.size w w' := by
 have h := l11ElementS_any P A B n c m d ys w hn hm hp0 hp1 hb
 rw [isElS_eq] at h
 exact h
set_option maxHeartbeats 1600000 in
set_option maxRecDepth 8000 in
theorem l11Times_any (p : Int) (hp : 2 ≤ p) (hp2 : p ≤ 13) (k : Nat) (hk : k ≤ 4) (A : Option Addr) (c : Nat) (st : List Int) (X : Option Addr) (cx : Nat) (xs : List Int) (Y : Option Addr) (cy : Nat) (ys : List Int) (w : World) (hc : k ≤ c) (hcx : pw k ≤ cx) (hcy : pw k ≤ cy) (ha : Rd w A k (ints st)) (hst : NumsL p st) (hx : Rd w X (pw k) (ints xs)) (hxs : NumsL p xs) (hy : Rd w Y (pw k) (ints ys)) (hys : NumsL p ys) :
    Calls Tryz.prog 145 #[.agg #[.int .i64 p, .slice A k c], .slice X (pw k) cx, .slice Y (pw k) cy] w fun e w' => ∃ A' c', e = .returned (.slice A' (pw k) c') ∧ MkI w w' A' (pw k) c' (dblL p k st xs ys) := by
 have hB0 : Below w.heap.size w (w.alloc (.cells #[.int .i64 p, .slice A k c] 26)) := zG.alloc (Nat.le_refl _) _
 have k0 : Blk (w.alloc (.cells #[.int .i64 p, .slice A k c] 26)) w.heap.size 26 #[.int .i64 p, .slice A k c] := Blk.new _ _ _
 have HOK := Lib.hid (l11Mul_any p hp hp2 k hk)
 obtain ⟨q0, q1⟩ := k0.two
 go_enter Tryz.func145, Tryz.ntmps145
 go_wp2_with fail
 refine (HOK.out A c st X cx xs Y cy ys _ hc hcx hcy (ha.below hB0) hst (hx.below hB0) hxs (hy.below hB0) hys).mono ?_
 rintro e w1 ⟨A1, c1, rfl, hM⟩
 go_wp2
 go_ret
 exact ⟨_, _, rfl, hM.after hB0⟩
set_option maxHeartbeats 1600000 in
set_option maxRecDepth 8000 in
theorem l11One_any (p : Int) (A : Option Addr) (k c : Nat) (i : Nat) (w : World) (hk : k ≤ 4) (hi : i < pw k) :
    Calls Tryz.prog 122 #[.agg #[.int .i64 p, .slice A k c], .int .i64 i] w fun e w' => ∃ A' c', e = .returned (.slice A' (pw k) c') ∧ MkI w w' A' (pw k) c' (unitRow (pw k) i) := by
 have hB0 : Below w.heap.size w (w.alloc (.cells #[.int .i64 p, .slice A k c] 26)) := zG.alloc (Nat.le_refl _) _
 have k0 : Blk (w.alloc (.cells #[.int .i64 p, .slice A k c] 26)) w.heap.size 26 #[.int .i64 p, .slice A k c] := Blk.new _ _ _
 have hpk : pw k ≤ 16 := pw_le hk
 have hpos := pw_pos k
 have hsz := fun w => l11Size_any p A k c w (by omega)
 obtain ⟨n, hn⟩ : ∃ n, n = pw k := ⟨_, rfl⟩
 rw [← hn] at hpk hpos hi hsz ⊢
 clear hn
 go_enter Tryz.func122, Tryz.ntmps122
 go_wp2_with fail
 refine (hsz _).mono ?_
 rintro e w5 ⟨rfl, hb⟩
 have hB5 := hB0.trans (hb.mono hB0.size)
 have hmk := make_i (P := Tryz.prog) 24 2 Tryz.underlying24 info_i n (by omega)
 have hm1 := Mk.made (E := 2) (n := n) (z := .int .i64 0) (Below.refl w5.heap.size w5) (by simp only [maxLen]; omega)
 rw [ints_replicate] at hm1
 obtain ⟨u1, hc1⟩ := hm1.2.cellI hi
 have hf1 := hm1.2.frozen_ i
 have hm2 := (hm1.set i (.int .i64 1)).1
 rw [ints_set, World.setCell_alloc_at _ _ _ _ _ rfl] at hm2
 have HRU0 : MkI w5 _ (some ⟨w5.heap.size, 0, none⟩) n n (unitRow n i) := hm2
 have HRU := Lib.hid (HRU0.after hB5)
 clear hm1 hm2 HRU0 hsz
 go_wp2
 go_ret
 exact ⟨_, _, rfl, HRU.out⟩
set_option maxHeartbeats 1600000 in
set_option maxRecDepth 8000 in
theorem l11Columns_any (p : Int) (A : Option Addr) (n c : Nat) (M : List (List Int)) (w : World) (h0 : 0 < n) (hn : n ≤ 65536) (ha : RdII w A n M) (hT : Tab p n M) :
    Calls Tryz.prog 125 #[.slice A n c] w fun e w' => ∃ A' c', e = .returned (.slice A' n c') ∧ MkII w w' A' n c' (transL M) := by
 have hML := ha.len
 have HTL : Hid (transL M = tab n fun k => tab n fun i => ent M i k) := Lib.hid (by unfold transL; rw [(hT.row (show 0 < M.length by omega)).1, hML])
 have HT := Lib.hid hT
 have HML := Lib.hid hML
 have hM0 : MkII w (w.alloc (.cells #[] 24)) (some ⟨w.heap.size, 0, none⟩) 0 0 [] := MkII.empty zG
 obtain ⟨g, o, rfl, hx0, A0, c0, hcx0, _, _⟩ := (ha.below hM0.b).at_ h0
 clear hcx0 hT hML
 go_enter Tryz.func125, Tryz.ntmps125
 go_wp2
 obtain ⟨w1, hw1⟩ : ∃ W, W = w.alloc (.cells #[] 24) := ⟨_, rfl⟩
 rw [← hw1] at hM0 ⊢
 clear hw1
 go_loopw [3, 4] (fun out i wr => ∃ (k : Nat) (A' : Option Addr) (c' : Nat), k ≤ n ∧ i = .int .i64 k ∧ out = .slice A' k c' ∧ MkII w wr A' k c' (tab k fun k => tab n fun i => ent M i k)) (fun _ i _ => n - (intOf i).toNat)
 case atStart => exact ⟨0, _, _, by omega, rfl, rfl, by simpa [tab] using hM0⟩
 case round =>
  obtain ⟨k, A', c', hk, rfl, rfl, hM⟩ := hrel
  clear hM0
  obtain ⟨wo, rfl⟩ : ∃ W, W = wr := ⟨_, rfl⟩
  by_cases hlt : k < n
  · have hr0 := Mk.lit (E := 2) (Below.refl wo.heap.size wo) #[] (by simp)
    have hR0 : MkI wo (wo.alloc (.cells #[] 2)) (some ⟨wo.heap.size, 0, none⟩) 0 0 [] := by simpa [MkI, ints] using hr0
    have HM := Lib.hid hM
    clear hr0 hM
    go_wp2
    go_loopw [5, 6] (fun row i w2 => ∃ (j : Nat) (A2 : Option Addr) (c2 : Nat), j ≤ n ∧ i = .int .i64 j ∧ row = .slice A2 j c2 ∧ MkI wo w2 A2 j c2 (tab j fun i => ent M i k)) (fun _ i _ => n - (intOf i).toNat)
    case atStart => exact ⟨0, _, _, by omega, rfl, rfl, by simpa [tab] using hR0⟩
    case round =>
     obtain ⟨j, A2, c2, hj, rfl, rfl, hR⟩ := hrel
     clear hR0
     have HR := Lib.hid hR
     by_cases hlj : j < n
     · have hbb := HM.out.b.trans (hR.b.mono HM.out.b.size)
       obtain ⟨g', o', e', hxj, A3, c3, hcx, hr3, _⟩ := (ha.below hbb).at_ hlj
       injection e' with e'; injection e' with e1 e2 _
       subst e1; subst e2
       have hl3 : M[j].length = n := (HT.out M[j] (List.getElem_mem hxj)).1
       rw [hl3] at hcx hr3
       obtain ⟨g3, o3, rfl, hx3, hc3⟩ := hr3.int hlt
       have HV : Hid ((tab (j + 1) fun i => ent M i k) = (tab j fun i => ent M i k) ++ [M[j][k]]) := Lib.hid (by rw [tab_succ, ent_at hxj hx3])
       clear hR hr3 hl3 hbb ha
       go_wp2_with (at_builtin; refine wpList_app1 wo _ 24 2 _ _ Tryz.underlying24 info_i rfl (by omega) rfl _ _ rfl A2 j c2 _ _ HR.out (by omega) rfl rfl rfl ?_; intro A4 c4 w4 hM4 _ _)
       go_roundw
       case rel => exact ⟨j + 1, A4, c4, by omega, by go_num, rfl, by rw [HV.out]; simpa [MkI, ints] using hM4⟩
       case measure => simp [intOf]; omega
     · obtain rfl : j = n := by omega
       clear hR ha
       go_wp2_with (at_builtin; refine wpList_appRow w wo _ rfl _ _ rfl A' k c' _ A2 j c2 _ HM.out HR.out (by omega) rfl ?_ ?_; (go_simp); intro A4 c4 w4 hM4)
       go_roundw
       case rel => exact ⟨k + 1, A4, c4, by omega, by go_num, rfl, by rw [tab_succ]; exact hM4⟩
       case measure => simp [intOf]; omega
  · obtain rfl : k = n := by omega
    go_wp2
    go_ret
    exact ⟨_, _, rfl, by rw [HTL.out]; exact hM⟩
set_option maxHeartbeats 1600000 in
set_option maxRecDepth 8000 in
theorem l12Commutator_any (p : Int) (hp : 2 ≤ p) (hp2 : p ≤ 13) (k : Nat) (hk : k ≤ 4) (A : Option Addr) (c : Nat) (st : List Int) (X : Option Addr) (cx : Nat) (xs : List Int) (Y : Option Addr) (cy : Nat) (ys : List Int) (w : World) (hc : k ≤ c) (ha : Rd w A k (ints st)) (hst : NumsL p st) (hx : Rd w X (pw k) (ints xs)) (hxn : NumsL p xs) (hcx : pw k ≤ cx) (hy : Rd w Y (pw k) (ints ys)) (hyn : NumsL p ys) (hcy : pw k ≤ cy) :
    Calls Tryz.prog 121 #[.agg #[.int .i64 p, .slice A k c], .slice X (pw k) cx, .slice Y (pw k) cy] w fun e w' => ∃ A' c', e = .returned (.slice A' (pw k) c') ∧ MkI w w' A' (pw k) c' (cmtL p k st xs ys) := by
 have hB0 : Below w.heap.size w (w.alloc (.cells #[.int .i64 p, .slice A k c] 26)) := zG.alloc (Nat.le_refl _) _
 have k0 : Blk (w.alloc (.cells #[.int .i64 p, .slice A k c] 26)) w.heap.size 26 #[.int .i64 p, .slice A k c] := Blk.new _ _ _
 have hpk : pw k ≤ 16 := pw_le hk
 go_enter Tryz.func121, Tryz.ntmps121
 go_wp2
 refine wp_obs 12 [[],[0],[],[],[],[2,3,4],[],[],[],[6,7,8],[0,1,2,3,4,5,6,7,8,9],[0,1,2,3,4,5,6,7,8,9,10]] [VIs (.pointer (some ⟨w.heap.size, 0, none⟩)), VIs (.int .i64 (p)), VIs (.agg #[.int .i64 p, .slice A k c]), VIs (.slice X (pw k) cx), VIs (.slice Y (pw k) cy), VSl w (pw k) (dblL p k st xs ys), VIs (.agg #[.int .i64 p, .slice A k c]), VIs (.slice Y (pw k) cy), VIs (.slice X (pw k) cx), VSl w (pw k) (dblL p k st ys xs), VSl w (pw k) (cmtL p k st xs ys), VSl w (pw k) (cmtL p k st xs ys)] (fun w' => Blk w' w.heap.size 26 #[.int .i64 p, .slice A k c] ∧ Below w.heap.size w w') (by kernel_rfl) (by kernel_rfl) (fun _ _ h hb => ⟨h.1.below hb h.1.lt, h.2.trans (hb.mono h.2.size)⟩) (⟨k0.drew, hB0.drew⟩) (fun x => ?_)
 refine zS (fun w' hS hV K hK => ?_) ?_
 · obtain ⟨q0, q1⟩ := hS.1.two; go_simp; exact zO hK
 refine zS (fun w' hS hV K hK => ?_) ?_
 · have e0 := zQ hV 0; obtain ⟨q0, q1⟩ := hS.1.two; go_simp; exact zO hK
 refine zS (fun w' hS hV K hK => ?_) ?_
 · obtain ⟨q0, q1⟩ := hS.1.two; go_simp; exact zO hK
 refine zS (fun w' hS hV K hK => ?_) ?_
 · obtain ⟨q0, q1⟩ := hS.1.two; go_simp; exact zO hK
 refine zS (fun w' hS hV K hK => ?_) ?_
 · obtain ⟨q0, q1⟩ := hS.1.two; go_simp; exact zO hK
 refine zS (fun w' hS hV K hK => ?_) ?_
 · have e2 := zQ hV 2; have e3 := zQ hV 3; have e4 := zQ hV 4; obtain ⟨q0, q1⟩ := hS.1.two; go_simp; refine (l11Times_any p hp hp2 k hk A c st X cx xs Y cy ys w' hc hcx hcy (ha.below hS.2) hst (hx.below hS.2) hxn (hy.below hS.2) hyn).mono ?_; rintro e v1 ⟨A9, c9, rfl, hM⟩; exact hK.out _ _ _ rfl rfl ⟨_, _, rfl, hM.after hS.2⟩ hM.b
 refine zS (fun w' hS hV K hK => ?_) ?_
 · obtain ⟨q0, q1⟩ := hS.1.two; go_simp; exact zO hK
 refine zS (fun w' hS hV K hK => ?_) ?_
 · obtain ⟨q0, q1⟩ := hS.1.two; go_simp; exact zO hK
 refine zS (fun w' hS hV K hK => ?_) ?_
 · obtain ⟨q0, q1⟩ := hS.1.two; go_simp; exact zO hK
 refine zS (fun w' hS hV K hK => ?_) ?_
 · have e6 := zQ hV 6; have e7 := zQ hV 7; have e8 := zQ hV 8; obtain ⟨q0, q1⟩ := hS.1.two; go_simp; refine (l11Times_any p hp hp2 k hk A c st Y cy ys X cx xs w' hc hcy hcx (ha.below hS.2) hst (hy.below hS.2) hyn (hx.below hS.2) hxn).mono ?_; rintro e v1 ⟨A9, c9, rfl, hM⟩; exact hK.out _ _ _ rfl rfl ⟨_, _, rfl, hM.after hS.2⟩ hM.b
 refine zS (fun w' hS hV K hK => ?_) ?_
 · have e1 := zQ hV 1; obtain ⟨A5, c5, e5, h5⟩ := hV 5 (by decide); obtain ⟨A9, c9, e9, h9⟩ := hV 9 (by decide); obtain ⟨q0, q1⟩ := hS.1.two; go_simp; refine (l11Minus_any p A5 (pw k) c5 (dblL p k st xs ys) A9 (pw k) c9 (dblL p k st ys xs) w' hp hp2 (by omega) (Nat.le_refl _) h5.rd (dblL_nums (by omega) _ _ _ _) h9.rd (dblL_nums (by omega) _ _ _ _)).mono ?_; rintro e v1 ⟨A9, c9, rfl, hM⟩; exact hK.out _ _ _ rfl rfl ⟨_, _, rfl, hM.after hS.2⟩ hM.b
 refine zS (fun w' hS hV K hK => ?_) ?_
 · obtain ⟨A5, c5, e5, h5⟩ := hV 5 (by decide); obtain ⟨A9, c9, e9, h9⟩ := hV 9 (by decide); obtain ⟨A10, c10, e10, h10⟩ := hV 10 (by decide); obtain ⟨q0, q1⟩ := hS.1.two; go_simp; exact hK.out _ _ _ rfl rfl ⟨_, _, rfl, h10⟩ zG
 refine fun w' hS hV => ?_
 have e0 := zT hV 0
 have e1 := zT hV 1
 have e2 := zT hV 2
 have e3 := zT hV 3
 have e4 := zT hV 4
 obtain ⟨A5, c5, e5, h5⟩ := hV 5 (by decide)
 have e6 := zT hV 6
 have e7 := zT hV 7
 have e8 := zT hV 8
 obtain ⟨A9, c9, e9, h9⟩ := hV 9 (by decide)
 obtain ⟨A10, c10, e10, h10⟩ := hV 10 (by decide)
 obtain ⟨A11, c11, e11, h11⟩ := hV 11 (by decide)
 simp only [e0, e1, e2, e3, e4, e5, e6, e7, e8, e9, e10, e11]
 clear e0 e1 e2 e3 e4 e5 e6 e7 e8 e9 e10 e11
 refine wpAny_done (by kernel_rfl) ?_ _
 go_wp2
 go_ret
 exact ⟨_, _, rfl, h11⟩
set_option maxHeartbeats 1600000 in
set_option maxRecDepth 8000 in
theorem l12Associator_any (p : Int) (hp : 2 ≤ p) (hp2 : p ≤ 13) (k : Nat) (hk : k ≤ 4) (A : Option Addr) (c : Nat) (st : List Int) (X : Option Addr) (cx : Nat) (xs : List Int) (Y : Option Addr) (cy : Nat) (ys : List Int) (Z : Option Addr) (cz : Nat) (zs : List Int) (w : World) (hc : k ≤ c) (ha : Rd w A k (ints st)) (hst : NumsL p st) (hx : Rd w X (pw k) (ints xs)) (hxn : NumsL p xs) (hcx : pw k ≤ cx) (hy : Rd w Y (pw k) (ints ys)) (hyn : NumsL p ys) (hcy : pw k ≤ cy) (hz : Rd w Z (pw k) (ints zs)) (hzn : NumsL p zs) (hcz : pw k ≤ cz) :
    Calls Tryz.prog 124 #[.agg #[.int .i64 p, .slice A k c], .slice X (pw k) cx, .slice Y (pw k) cy, .slice Z (pw k) cz] w fun e w' => ∃ A' c', e = .returned (.slice A' (pw k) c') ∧ MkI w w' A' (pw k) c' (assL p k st xs ys zs) := by
 have hB0 : Below w.heap.size w (w.alloc (.cells #[.int .i64 p, .slice A k c] 26)) := zG.alloc (Nat.le_refl _) _
 have k0 : Blk (w.alloc (.cells #[.int .i64 p, .slice A k c] 26)) w.heap.size 26 #[.int .i64 p, .slice A k c] := Blk.new _ _ _
 have hpk : pw k ≤ 16 := pw_le hk
 go_enter Tryz.func124, Tryz.ntmps124
 go_wp2
 refine wp_obs 18 [[],[0],[],[],[],[],[3,4,5],[],[2,3,4,5,6,7],[],[],[],[],[],[11,12,13],[9,10,11,12,13,14],[0,1,2,3,4,5,6,7,8,9,10,11,12,13,14,15],[0,1,2,3,4,5,6,7,8,9,10,11,12,13,14,15,16]] [VIs (.pointer (some ⟨w.heap.size, 0, none⟩)), VIs (.int .i64 (p)), VIs (.agg #[.int .i64 p, .slice A k c]), VIs (.agg #[.int .i64 p, .slice A k c]), VIs (.slice X (pw k) cx), VIs (.slice Y (pw k) cy), VSl w (pw k) (dblL p k st xs ys), VIs (.slice Z (pw k) cz), VSl w (pw k) (dblL p k st (dblL p k st xs ys) zs), VIs (.agg #[.int .i64 p, .slice A k c]), VIs (.slice X (pw k) cx), VIs (.agg #[.int .i64 p, .slice A k c]), VIs (.slice Y (pw k) cy), VIs (.slice Z (pw k) cz), VSl w (pw k) (dblL p k st ys zs), VSl w (pw k) (dblL p k st xs (dblL p k st ys zs)), VSl w (pw k) (assL p k st xs ys zs), VSl w (pw k) (assL p k st xs ys zs)] (fun w' => Blk w' w.heap.size 26 #[.int .i64 p, .slice A k c] ∧ Below w.heap.size w w') (by kernel_rfl) (by kernel_rfl) (fun _ _ h hb => ⟨h.1.below hb h.1.lt, h.2.trans (hb.mono h.2.size)⟩) (⟨k0.drew, hB0.drew⟩) (fun x => ?_)
 refine zS (fun w' hS hV K hK => ?_) ?_
 · obtain ⟨q0, q1⟩ := hS.1.two; go_simp; exact zO hK
 refine zS (fun w' hS hV K hK => ?_) ?_
 · have e0 := zQ hV 0; obtain ⟨q0, q1⟩ := hS.1.two; go_simp; exact zO hK
 refine zS (fun w' hS hV K hK => ?_) ?_
 · obtain ⟨q0, q1⟩ := hS.1.two; go_simp; exact zO hK
 refine zS (fun w' hS hV K hK => ?_) ?_
 · obtain ⟨q0, q1⟩ := hS.1.two; go_simp; exact zO hK
 refine zS (fun w' hS hV K hK => ?_) ?_
 · obtain ⟨q0, q1⟩ := hS.1.two; go_simp; exact zO hK
 refine zS (fun w' hS hV K hK => ?_) ?_
 · obtain ⟨q0, q1⟩ := hS.1.two; go_simp; exact zO hK
 refine zS (fun w' hS hV K hK => ?_) ?_
 · have e3 := zQ hV 3; have e4 := zQ hV 4; have e5 := zQ hV 5; obtain ⟨q0, q1⟩ := hS.1.two; go_simp; refine (l11Times_any p hp hp2 k hk A c st X cx xs Y cy ys w' hc hcx hcy (ha.below hS.2) hst (hx.below hS.2) hxn (hy.below hS.2) hyn).mono ?_; rintro e v1 ⟨A9, c9, rfl, hM⟩; exact hK.out _ _ _ rfl rfl ⟨_, _, rfl, hM.after hS.2⟩ hM.b
 refine zS (fun w' hS hV K hK => ?_) ?_
 · obtain ⟨q0, q1⟩ := hS.1.two; go_simp; exact zO hK
 refine zS (fun w' hS hV K hK => ?_) ?_
 · have e2 := zQ hV 2; obtain ⟨A6, c6, e6, h6⟩ := hV 6 (by decide); have e7 := zQ hV 7; obtain ⟨q0, q1⟩ := hS.1.two; go_simp; refine (l11Times_any p hp hp2 k hk A c st _ c6 (dblL p k st xs ys) Z cz zs w' hc h6.2.cap hcz (ha.below hS.2) hst h6.rd (dblL_nums (by omega) _ _ _ _) (hz.below hS.2) hzn).mono ?_; rintro e v1 ⟨A9, c9, rfl, hM⟩; exact hK.out _ _ _ rfl rfl ⟨_, _, rfl, hM.after hS.2⟩ hM.b
 refine zS (fun w' hS hV K hK => ?_) ?_
 · obtain ⟨q0, q1⟩ := hS.1.two; go_simp; exact zO hK
 refine zS (fun w' hS hV K hK => ?_) ?_
 · obtain ⟨q0, q1⟩ := hS.1.two; go_simp; exact zO hK
 refine zS (fun w' hS hV K hK => ?_) ?_
 · obtain ⟨q0, q1⟩ := hS.1.two; go_simp; exact zO hK
 refine zS (fun w' hS hV K hK => ?_) ?_
 · obtain ⟨q0, q1⟩ := hS.1.two; go_simp; exact zO hK
 refine zS (fun w' hS hV K hK => ?_) ?_
 · obtain ⟨q0, q1⟩ := hS.1.two; go_simp; exact zO hK
 refine zS (fun w' hS hV K hK => ?_) ?_
 · have e11 := zQ hV 11; have e12 := zQ hV 12; have e13 := zQ hV 13; obtain ⟨q0, q1⟩ := hS.1.two; go_simp; refine (l11Times_any p hp hp2 k hk A c st Y cy ys Z cz zs w' hc hcy hcz (ha.below hS.2) hst (hy.below hS.2) hyn (hz.below hS.2) hzn).mono ?_; rintro e v1 ⟨A9, c9, rfl, hM⟩; exact hK.out _ _ _ rfl rfl ⟨_, _, rfl, hM.after hS.2⟩ hM.b
 refine zS (fun w' hS hV K hK => ?_) ?_
 · have e9 := zQ hV 9; have e10 := zQ hV 10; obtain ⟨A14, c14, e14, h14⟩ := hV 14 (by decide); obtain ⟨q0, q1⟩ := hS.1.two; go_simp; refine (l11Times_any p hp hp2 k hk A c st X cx xs _ c14 (dblL p k st ys zs) w' hc hcx h14.2.cap (ha.below hS.2) hst (hx.below hS.2) hxn h14.rd (dblL_nums (by omega) _ _ _ _)).mono ?_; rintro e v1 ⟨A9, c9, rfl, hM⟩; exact hK.out _ _ _ rfl rfl ⟨_, _, rfl, hM.after hS.2⟩ hM.b
 refine zS (fun w' hS hV K hK => ?_) ?_
 · have e1 := zQ hV 1; obtain ⟨A6, c6, e6, h6⟩ := hV 6 (by decide); obtain ⟨A8, c8, e8, h8⟩ := hV 8 (by decide); obtain ⟨A14, c14, e14, h14⟩ := hV 14 (by decide); obtain ⟨A15, c15, e15, h15⟩ := hV 15 (by decide); obtain ⟨q0, q1⟩ := hS.1.two; go_simp; refine (l11Minus_any p A8 (pw k) c8 (dblL p k st (dblL p k st xs ys) zs) A15 (pw k) c15 (dblL p k st xs (dblL p k st ys zs)) w' hp hp2 (by omega) (Nat.le_refl _) h8.rd (dblL_nums (by omega) _ _ _ _) h15.rd (dblL_nums (by omega) _ _ _ _)).mono ?_; rintro e v1 ⟨A9, c9, rfl, hM⟩; exact hK.out _ _ _ rfl rfl ⟨_, _, rfl, hM.after hS.2⟩ hM.b
 refine zS (fun w' hS hV K hK => ?_) ?_
 · obtain ⟨A6, c6, e6, h6⟩ := hV 6 (by decide); obtain ⟨A8, c8, e8, h8⟩ := hV 8 (by decide); obtain ⟨A14, c14, e14, h14⟩ := hV 14 (by decide); obtain ⟨A15, c15, e15, h15⟩ := hV 15 (by decide); obtain ⟨A16, c16, e16, h16⟩ := hV 16 (by decide); obtain ⟨q0, q1⟩ := hS.1.two; go_simp; exact hK.out _ _ _ rfl rfl ⟨_, _, rfl, h16⟩ zG
 refine fun w' hS hV => ?_
 have e0 := zT hV 0
 have e1 := zT hV 1
 have e2 := zT hV 2
 have e3 := zT hV 3
 have e4 := zT hV 4
 have e5 := zT hV 5
 obtain ⟨A6, c6, e6, h6⟩ := hV 6 (by decide)
 have e7 := zT hV 7
 obtain ⟨A8, c8, e8, h8⟩ := hV 8 (by decide)
 have e9 := zT hV 9
 have e10 := zT hV 10
 have e11 := zT hV 11
 have e12 := zT hV 12
 have e13 := zT hV 13
 obtain ⟨A14, c14, e14, h14⟩ := hV 14 (by decide)
 obtain ⟨A15, c15, e15, h15⟩ := hV 15 (by decide)
 obtain ⟨A16, c16, e16, h16⟩ := hV 16 (by decide)
 obtain ⟨A17, c17, e17, h17⟩ := hV 17 (by decide)
 simp only [e0, e1, e2, e3, e4, e5, e6, e7, e8, e9, e10, e11, e12, e13, e14, e15, e16, e17]
 clear e0 e1 e2 e3 e4 e5 e6 e7 e8 e9 e10 e11 e12 e13 e14 e15 e16 e17
 refine wpAny_done (by kernel_rfl) ?_ _
 go_wp2
 go_ret
 exact ⟨_, _, rfl, h17⟩
theorem inn_eq {p : Int} {k : Nat} {st x y z : List Int} : plusL p (cmtL p k st (cmtL p k st x y) z) (scaleL p (assL p k st x y z) 3) (-1) = innL p k st x y z := by
 unfold innL
 refine list_ext_getD 0 (by rw [plusL_len, plusL_len]) fun i hi => ?_
 rw [plusL_len] at hi
 rw [plusL_getD _ _ hi, plusL_getD _ _ hi, scaleL_getD _ (by rw [assL_len]; rw [cmtL_len] at hi; exact hi), Int.add_emod, Int.mul_emod, Int.emod_emod_of_dvd _ (Int.dvd_refl p), ← Int.mul_emod, ← Int.add_emod]
 congr 1; omega
/-- The matrix of an inner derivation. -/
def innM (p : Int) (k : Nat) (st x y : List Int) : List (List Int) := transL (tab (pw k) fun i => innL p k st x y (unitRow (pw k) i))
set_option maxHeartbeats 3200000 in
set_option maxRecDepth 8000 in
theorem l14Inner_any (p : Int) (hp : 2 ≤ p) (hp2 : p ≤ 13) (k : Nat) (hk : k ≤ 4) (A : Option Addr) (c : Nat) (st : List Int) (X : Option Addr) (cx : Nat) (xs : List Int) (Y : Option Addr) (cy : Nat) (ys : List Int) (w : World) (hc : k ≤ c) (ha : Rd w A k (ints st)) (hst : NumsL p st) (hx : Rd w X (pw k) (ints xs)) (hxn : NumsL p xs) (hcx : pw k ≤ cx) (hy : Rd w Y (pw k) (ints ys)) (hyn : NumsL p ys) (hcy : pw k ≤ cy) :
    Calls Tryz.prog 70 #[.agg #[.int .i64 p, .slice A k c], .slice X (pw k) cx, .slice Y (pw k) cy] w fun e w' => ∃ A' c', e = .returned (.slice A' (pw k) c') ∧ MkII w w' A' (pw k) c' (innM p k st xs ys) := by
 have hpk : pw k ≤ 16 := pw_le hk
 have hpos := pw_pos k
 have hB0 : Below w.heap.size w (w.alloc (.cells #[.int .i64 p, .slice A k c] 26)) := zG.alloc (Nat.le_refl _) _
 have k0 : Blk (w.alloc (.cells #[.int .i64 p, .slice A k c] 26)) w.heap.size 26 #[.int .i64 p, .slice A k c] := Blk.new _ _ _
 have hB1 := hB0.alloc (by simp) (.cells #[] 24)
 have k1 := k0.alloc (.cells #[] 24)
 have hM1 : MkII w ((w.alloc (.cells #[.int .i64 p, .slice A k c] 26)).alloc (.cells #[] 24)) (some ⟨w.heap.size + 1, 0, none⟩) 0 0 [] := by
  have := MkII.empty hB0
  simpa using this
 obtain ⟨w1, hw1⟩ : ∃ W, W = (w.alloc (.cells #[.int .i64 p, .slice A k c] 26)).alloc (.cells #[] 24) := ⟨_, rfl⟩
 have hs1 : w1.heap.size = w.heap.size + 2 := by rw [hw1]; simp
 rw [← hw1] at hB1 k1 hM1
 clear k0 hB0
 obtain ⟨q0, q1⟩ := k1.two
 go_enter Tryz.func70, Tryz.ntmps70
 go_wp2_with fail
 rw [← hw1]
 refine (l12Commutator_any p hp hp2 k hk A c st X cx xs Y cy ys w1 hc (ha.below hB1) hst (hx.below hB1) hxn hcx (hy.below hB1) hyn hcy).mono ?_
 rintro e w2 ⟨C, cc, rfl, hC⟩
 have hM2 := hM1.below hC.b
 have k2 := k1.below hC.b k1.lt
 have hcc := hC.2.cap
 have HCO := Lib.hid hC.2
 have hKp : Keeps w1 w2 w2 (.slice (some ⟨w.heap.size + 1, 0, none⟩) 0 0) := ⟨Nat.le_refl _, fun _ _ _ => rfl, fun gb e => .inl (lt_of_own e (by omega))⟩
 clear hM1 k1 hB1 q0 q1 hw1 hC
 go_wp2
 go_loopw [7, 9] (fun out i wr => ∃ (j : Nat) (A' : Option Addr) (c' : Nat), j ≤ pw k ∧ i = .int .i64 j ∧ out = .slice A' j c' ∧ MkII w wr A' j c' (tab j fun i => innL p k st xs ys (unitRow (pw k) i)) ∧ Keeps w1 w2 wr (.slice A' j c') ∧ Blk wr w.heap.size 26 #[.int .i64 p, .slice A k c]) (fun _ i _ => pw k - (intOf i).toNat)
 case atStart => exact ⟨0, _, _, by omega, rfl, rfl, by simpa [tab] using hM2, hKp, k2⟩
 case round =>
  obtain ⟨j, A', c', hj, rfl, rfl, hM, hKs, k4⟩ := hrel
  clear hM2 hKp k2
  have HC0 := Lib.hid (Own.keep HCO.out hKs.2.1)
  have HA0 := Lib.hid (ha.below hM.b)
  have HX0 := Lib.hid (hx.below hM.b)
  have HY0 := Lib.hid (hy.below hM.b)
  have HKS := Lib.hid hKs
  have HM0 := Lib.hid hM
  obtain ⟨q0, q1⟩ := k4.two
  clear hM hKs
  by_cases hlt : j < pw k
  · go_wp2_with fail
    refine (l11Size_any p A k c wr (by omega)).mono ?_
    rintro e w5 ⟨rfl, hb5⟩
    have k5 := k4.below hb5 k4.lt
    clear q0 q1
    obtain ⟨q0, q1⟩ := k5.two
    go_wp2_with fail
    refine (l11One_any p A k c j w5 hk hlt).mono ?_
    rintro e w6 ⟨Z, cz, rfl, hZ⟩
    have hb6 := hb5.trans (hZ.b.mono hb5.size)
    have k6 := k5.below hZ.b k5.lt
    have hcz := hZ.2.cap
    obtain ⟨zs, hzs⟩ : ∃ z, z = unitRow (pw k) j := ⟨_, rfl⟩
    have HZN : Hid (NumsL p zs) := Lib.hid (by rw [hzs]; exact unitRow_nums hp _ _)
    have HZ : Hid (Rd w6 Z (pw k) (ints zs)) := Lib.hid (by rw [hzs]; exact hZ.rd)
    have HC := Lib.hid (HC0.out.below hb6)
    have HA := Lib.hid (HA0.out.below hb6)
    have HX := Lib.hid (HX0.out.below hb6)
    have HY := Lib.hid (HY0.out.below hb6)
    have HM := Lib.hid (HM0.out.below hb6)
    have HB6 := Lib.hid hb6
    have HZS := Lib.hid hzs
    have HIN := Lib.hid (inn_eq (p := p) (k := k) (st := st) (x := xs) (y := ys) (z := zs))
    clear q0 q1 hZ hb5 hb6 k4 k5 hzs HC0 HA0 HX0 HY0 HM0 ha hx hy
    go_wp2
    refine wp_obs 17 [[],[],[1],[],[],[],[3,4,5],[],[7],[],[],[],[],[9,10,11,12],[7,8,9,10,11,12,13],[1,2,3,4,5,6,7,8,9,10,11,12,13,14],[1,2,3,4,5,6,7,8,9,10,11,12,13,14,15],[0,1,2,3,4,5,6,7,8,9,10,11,12,13,14,15,16],[0,1,2,3,4,5,6,7,8,9,10,11,12,13,14,15,16,17]] [VIs (.slice A' j c'), VIs (.pointer (some ⟨w.heap.size, 0, none⟩)), VIs (.int .i64 (p)), VIs (.agg #[.int .i64 p, .slice A k c]), VIs (.slice C (pw k) cc), VIs (.slice Z (pw k) cz), VSl w6 (pw k) (cmtL p k st (cmtL p k st xs ys) zs), VIs (.pointer (some ⟨w.heap.size, 0, none⟩)), VIs (.int .i64 (p)), VIs (.agg #[.int .i64 p, .slice A k c]), VIs (.slice X (pw k) cx), VIs (.slice Y (pw k) cy), VIs (.slice Z (pw k) cz), VSl w6 (pw k) (assL p k st xs ys zs), VSl w6 (pw k) (scaleL p (assL p k st xs ys zs) 3), VSl w6 (pw k) (innL p k st xs ys zs), VNew w6 (pw k) (innL p k st xs ys zs)] (fun w' => Blk w' w.heap.size 26 #[.int .i64 p, .slice A k c] ∧ Below w6.heap.size w6 w') (by kernel_rfl) (by kernel_rfl) (fun _ _ h hb => ⟨h.1.below hb h.1.lt, h.2.trans (hb.mono h.2.size)⟩) (⟨k6.drew, zG.drew⟩) (fun x => ?_)
    refine zS (fun w' hS hV K hK => ?_) ?_
    · obtain ⟨q0, q1⟩ := hS.1.two; go_simp; exact zO hK
    refine zS (fun w' hS hV K hK => ?_) ?_
    · obtain ⟨q0, q1⟩ := hS.1.two; go_simp; exact zO hK
    refine zS (fun w' hS hV K hK => ?_) ?_
    · have e1 := zQ hV 1; obtain ⟨q0, q1⟩ := hS.1.two; go_simp; exact zO hK
    refine zS (fun w' hS hV K hK => ?_) ?_
    · obtain ⟨q0, q1⟩ := hS.1.two; go_simp; exact zO hK
    refine zS (fun w' hS hV K hK => ?_) ?_
    · obtain ⟨q0, q1⟩ := hS.1.two; go_simp; exact zO hK
    refine zS (fun w' hS hV K hK => ?_) ?_
    · obtain ⟨q0, q1⟩ := hS.1.two; go_simp; exact zO hK
    refine zS (fun w' hS hV K hK => ?_) ?_
    · have e3 := zQ hV 3; have e4 := zQ hV 4; have e5 := zQ hV 5; obtain ⟨q0, q1⟩ := hS.1.two; go_simp; refine (l12Commutator_any p hp hp2 k hk A c st C cc (cmtL p k st xs ys) Z cz zs w' hc (HA.out.below hS.2) hst (HC.out.below hS.2) (cmtL_nums (by omega) _ _ _ _) hcc (HZ.out.below hS.2) HZN.out hcz).mono ?_; rintro e v1 ⟨A9, c9, rfl, hM⟩; exact hK.out _ _ _ rfl rfl ⟨_, _, rfl, hM.after hS.2⟩ hM.b
    refine zS (fun w' hS hV K hK => ?_) ?_
    · obtain ⟨q0, q1⟩ := hS.1.two; go_simp; exact zO hK
    refine zS (fun w' hS hV K hK => ?_) ?_
    · have e7 := zQ hV 7; obtain ⟨q0, q1⟩ := hS.1.two; go_simp; exact zO hK
    refine zS (fun w' hS hV K hK => ?_) ?_
    · obtain ⟨q0, q1⟩ := hS.1.two; go_simp; exact zO hK
    refine zS (fun w' hS hV K hK => ?_) ?_
    · obtain ⟨q0, q1⟩ := hS.1.two; go_simp; exact zO hK
    refine zS (fun w' hS hV K hK => ?_) ?_
    · obtain ⟨q0, q1⟩ := hS.1.two; go_simp; exact zO hK
    refine zS (fun w' hS hV K hK => ?_) ?_
    · obtain ⟨q0, q1⟩ := hS.1.two; go_simp; exact zO hK
    refine zS (fun w' hS hV K hK => ?_) ?_
    · have e9 := zQ hV 9; have e10 := zQ hV 10; have e11 := zQ hV 11; have e12 := zQ hV 12; obtain ⟨q0, q1⟩ := hS.1.two; go_simp; refine (l12Associator_any p hp hp2 k hk A c st X cx xs Y cy ys Z cz zs w' hc (HA.out.below hS.2) hst (HX.out.below hS.2) hxn hcx (HY.out.below hS.2) hyn hcy (HZ.out.below hS.2) HZN.out hcz).mono ?_; rintro e v1 ⟨A9, c9, rfl, hM⟩; exact hK.out _ _ _ rfl rfl ⟨_, _, rfl, hM.after hS.2⟩ hM.b
    refine zS (fun w' hS hV K hK => ?_) ?_
    · have e8 := zQ hV 8; obtain ⟨A13, c13, e13, h13⟩ := hV 13 (by decide); obtain ⟨q0, q1⟩ := hS.1.two; go_simp; refine (l11Scale_any p 3 A13 (pw k) c13 (assL p k st xs ys zs) w' hp hp2 (by omega) h13.rd (assL_nums (by omega) _ _ _ _ _) (by omega) (by omega)).mono ?_; rintro e v1 ⟨A9, c9, rfl, hM⟩; exact hK.out _ _ _ rfl rfl ⟨_, _, rfl, hM.after hS.2⟩ hM.b
    refine zS (fun w' hS hV K hK => ?_) ?_
    · have e2 := zQ hV 2; obtain ⟨A6, c6, e6, h6⟩ := hV 6 (by decide); obtain ⟨A13, c13, e13, h13⟩ := hV 13 (by decide); obtain ⟨A14, c14, e14, h14⟩ := hV 14 (by decide); obtain ⟨q0, q1⟩ := hS.1.two; go_simp; refine (l11Minus_any p A6 (pw k) c6 (cmtL p k st (cmtL p k st xs ys) zs) A14 (pw k) c14 (scaleL p (assL p k st xs ys zs) 3) w' hp hp2 (by omega) (Nat.le_refl _) h6.rd (cmtL_nums (by omega) _ _ _ _) h14.rd (scaleL_nums (by omega) _ _)).mono ?_; rw [HIN.out]; rintro e v1 ⟨A9, c9, rfl, hM⟩; exact hK.out _ _ _ rfl rfl ⟨_, _, rfl, hM.after hS.2⟩ hM.b
    refine zS (fun w' hS hV K hK => ?_) ?_
    · obtain ⟨A6, c6, e6, h6⟩ := hV 6 (by decide); obtain ⟨A13, c13, e13, h13⟩ := hV 13 (by decide); obtain ⟨A14, c14, e14, h14⟩ := hV 14 (by decide); obtain ⟨A15, c15, e15, h15⟩ := hV 15 (by decide); obtain ⟨q0, q1⟩ := hS.1.two; go_simp; exact hK.out _ _ _ rfl rfl ⟨_, _, _, rfl, Blk.new _ _ _, h15.below (zG.alloc (Nat.le_refl _) _)⟩ (zG.alloc (Nat.le_refl _) _)
    refine fun w' hS hV => ?_
    have e0 := zT hV 0
    have e1 := zT hV 1
    have e2 := zT hV 2
    have e3 := zT hV 3
    have e4 := zT hV 4
    have e5 := zT hV 5
    obtain ⟨A6, c6, e6, h6⟩ := hV 6 (by decide)
    have e7 := zT hV 7
    have e8 := zT hV 8
    have e9 := zT hV 9
    have e10 := zT hV 10
    have e11 := zT hV 11
    have e12 := zT hV 12
    obtain ⟨A13, c13, e13, h13⟩ := hV 13 (by decide)
    obtain ⟨A14, c14, e14, h14⟩ := hV 14 (by decide)
    obtain ⟨A15, c15, e15, h15⟩ := hV 15 (by decide)
    obtain ⟨g16, A16, c16, e16, b16, h16⟩ := hV 16 (by decide)
    simp only [e0, e1, e2, e3, e4, e5, e6, e7, e8, e9, e10, e11, e12, e13, e14, e15, e16]
    clear e0 e1 e2 e3 e4 e5 e6 e7 e8 e9 e10 e11 e12 e13 e14 e15 e16
    obtain ⟨k7, s2⟩ := hS
    refine any_plain (j := 17) (by kernel_rfl) (Eq.trans (by simp only [zA, zB, zC]; exact rfl) rfl) rfl (fun K hK => ?_)
    refine wp_appRow w w6 w' _ _ rfl A' j c' _ A16 (pw k) c16 _ HM.out h16 (by omega) g16 b16 (by rfl) (by rfl) ?_
    intro A20 c20 w20 hM20 hg20 hat20
    refine hK.out _ _ ?_
    simp only [Act.put, zD, zE, zF]
    refine any_one (j := 18) (by kernel_rfl) (Eq.trans (by simp only [zA, zB, zC]; exact rfl) rfl) (fun K hK => ?_)
    go_simp
    refine hK.out _ _ (wpAny_done (by kernel_rfl) ?_ _)
    have hk8 := k7.grown hg20 ((HM.out.below s2).ne_blk k7 (by decide))
    have hks := HKS.out.step (HB6.out.trans (s2.mono HB6.out.size)) hg20 hat20 (n' := j + 1) (c' := c20)
    clear k7 hat20 hg20
    go_wp2
    go_roundw
    case rel => exact ⟨j + 1, A20, c20, by omega, by go_num, rfl, by rw [tab_succ, ← HZS.out]; exact hM20, hks, hk8⟩
    case measure => simp [intOf]; omega
  · obtain rfl : j = pw k := by omega
    go_wp2_with fail
    refine (l11Size_any p A k c wr (by omega)).mono ?_
    rintro e w5 ⟨rfl, hb5⟩
    have HM := Lib.hid (HM0.out.below hb5)
    clear q0 q1 k4
    go_wp2_with fail
    refine (l11Columns_any p A' (pw k) c' (tab (pw k) fun i => innL p k st xs ys (unitRow (pw k) i)) w5 hpos (by omega) HM.out.rd (Tab.tab fun i _ => ⟨innL_len _ _ _ _ _ _, innL_nums (by omega) _ _ _ _ _⟩)).mono ?_
    rintro e w7 ⟨A7, c7, rfl, hM7⟩
    go_wp2
    go_ret
    exact ⟨_, _, rfl, hM7.after HM.out.b⟩
set_option maxHeartbeats 3200000 in
set_option maxRecDepth 8000 in
theorem matrixOf_any (f : FuncId) (p1 p2 p3 : Addr) (G : Nat → List Int) (hcf : ∀ (args : Array Value) (w : World), (callFunc f args).run Tryz.prog w = .ok (.enter f args) w) (p : Int) (A : Option Addr) (k0 c : Nat) (w : World) (hp : 2 ≤ p) (hk : k0 ≤ 4) (hG : ∀ i, i < pw k0 → (G i).length = pw k0 ∧ NumsL p (G i))
    (hof : ∀ (i : Nat) (w' : World) (Y : Option Addr) (cy : Nat), i < pw k0 → Below w.heap.size w w' → Rd w' Y (pw k0) (ints (unitRow (pw k0) i)) → pw k0 ≤ cy → Calls Tryz.prog f #[.slice Y (pw k0) cy, .pointer (some p1), .pointer (some p2), .pointer (some p3)] w' fun e w5 => ∃ A5 c5, e = .returned (.slice A5 (pw k0) c5) ∧ MkI w' w5 A5 (pw k0) c5 (G i)) :
    Calls Tryz.prog 56 #[.agg #[.int .i64 p, .slice A k0 c], .func (.func f) #[] #[.pointer (some p1), .pointer (some p2), .pointer (some p3)]] w fun e w' => ∃ A' c', e = .returned (.slice A' (pw k0) c') ∧ MkII w w' A' (pw k0) c' (transL (tab (pw k0) G)) := by
 have hpk : pw k0 ≤ 16 := pw_le hk
 have hpos := pw_pos k0
 have hB0 : Below w.heap.size w (w.alloc (.cells #[.int .i64 p, .slice A k0 c] 26)) := zG.alloc (Nat.le_refl _) _
 have kk0 : Blk (w.alloc (.cells #[.int .i64 p, .slice A k0 c] 26)) w.heap.size 26 #[.int .i64 p, .slice A k0 c] := Blk.new _ _ _
 have hB1 := hB0.alloc (by simp) (.cells #[] 24)
 have k1 := kk0.alloc (.cells #[] 24)
 have hM1 : MkII w ((w.alloc (.cells #[.int .i64 p, .slice A k0 c] 26)).alloc (.cells #[] 24)) (some ⟨w.heap.size + 1, 0, none⟩) 0 0 [] := by
  have := MkII.empty hB0
  simpa using this
 clear kk0
 obtain ⟨q0, q1⟩ := k1.two
 have HG := Lib.hid hG
 have HOF := Lib.hid hof
 clear hG hof
 go_enter Tryz.func56, Tryz.ntmps56
 go_wp2_with fail
 refine (dsize_any p A k0 c _ hk).mono ?_
 rintro e w2 ⟨rfl, hb2⟩
 have hM2 := hM1.below hb2
 have hB2 := hB1.trans (hb2.mono hB1.size)
 have k2 := k1.below hb2 k1.lt
 clear hM1 q0 q1 k1 hB0 hB1
 obtain ⟨n, hn⟩ : ∃ n, n = pw k0 := ⟨_, rfl⟩
 have HN := Lib.hid hn
 rw [← hn] at hpk hpos HG HOF ⊢
 clear hn
 go_wp2_with fail
 refine (unit_any n _ (by omega)).mono ?_
 rintro e w3 ⟨U, cU, rfl, hU⟩
 have hM3 := hM2.below hU.b
 have hB3 := hB2.trans (hU.b.mono hB2.size)
 have k3 := k2.below hU.b k2.lt
 have hsz2 : w.heap.size + 1 < w2.heap.size := by have := hb2.size; simp at this; omega
 have hKp : Keeps w2 w3 w3 (.slice (some ⟨w.heap.size + 1, 0, none⟩) 0 0) := ⟨Nat.le_refl _, fun _ _ _ => rfl, fun gb e => .inl (lt_of_own e hsz2)⟩
 have hgb : ∀ gb, (Value.slice (some ⟨w.heap.size + 1, 0, none⟩) 0 0).ownBlock = some gb → gb ≠ w.heap.size := fun gb e => by
  have : w.heap.size + 1 = gb := by simpa [Value.ownBlock] using e
  omega
 clear hM2 hB2 hb2 hsz2 k2
 go_wp2
 go_loopw [5, 13] (fun out i wr => ∃ (j : Nat) (A' : Option Addr) (c' : Nat), j ≤ n ∧ i = .int .i64 j ∧ out = .slice A' j c' ∧ MkII w wr A' j c' (tab j G) ∧ Keeps w2 w3 wr (.slice A' j c')) (fun _ i _ => n - (intOf i).toNat)
 case atStart => exact ⟨0, _, _, by omega, rfl, rfl, by simpa [tab] using hM3, hKp⟩
 case round =>
  clear k3 hgb
  obtain ⟨j, A', c', hj, rfl, rfl, hM, hB4⟩ := hrel
  clear hM3 hKp
  by_cases hlt : j < n
  · obtain ⟨gu, ou, rfl, hxk, A1, c1, hcu, hru, hcc⟩ := (hU.keep hB4.2.1).at_ hlt
    have hrow := unitM_get n j hxk
    rw [hrow, unitRow_len] at hru hcu hcc
    have hcall := HOF.out j wr A1 c1 hlt hM.b hru hcc
    have HM := Lib.hid hM
    have HB4 := Lib.hid hB4
    clear hM hru hrow hB4
    go_wp2_with fail
    refine hcall.mono ?_
    rintro e w5 ⟨A5, c5, rfl, hM5⟩
    clear hcall
    go_wp2_with (at_builtin; refine wpList_appRowG w wr _ rfl _ _ rfl A' j c' _ A5 n c5 _ HM.out hM5 (by omega) rfl ?_ ?_; (go_simp); intro A6 c6 w6 hM6 hg6 hat6)
    go_roundw
    case rel => exact ⟨j + 1, A6, c6, by omega, by go_num, rfl, by rw [tab_succ]; exact hM6, HB4.out.step hM5.b hg6 hat6⟩
    case measure => simp [intOf]; omega
  · obtain rfl : j = n := by omega
    go_wp2_with fail
    refine (transpose_any p A' j c' (tab j G) j _ hpos (by omega) (by omega) hM.rd (Tab.tab HG.out)).mono ?_
    rintro e w5 ⟨A5, c5, rfl, hM5⟩
    go_wp2
    go_ret
    rw [← HN.out]
    exact ⟨_, _, rfl, hM5.after hM.b⟩
end Go.Proofs.YtaiegpggccdgoaaGreat

/-
  LawFnOrthogonalOrders: part 10 of the texts that the proof needs. No condition.
-/
import Derived.Test.YtmkjdpnoloofjaaGreatR9
namespace Go.Proofs.YtmkjdpnoloofjaaGreat
open Go.RowKit
set_option maxHeartbeats 3200000 in
set_option maxRecDepth 8000 in
theorem isIsometry_0 (P : Int) (A : Option Addr) (n c : Nat) (sq : List Int) (D : Option Addr) (r d : Nat) (M : List (List Int)) (m : Nat) (w : World) (hp0 : 0 < P) (hp1 : P ≤ 13) (hr0 : 0 < r) (hr : r ≤ 16) (hm1 : 1 ≤ m) (hm : m ≤ 16) (hd : RdII w D r M) (hM : Rect m M) (hb : (M.all fun r => nums P r) = false) :
    Calls Tryz.prog 120 #[.agg #[.int .i64 P, .slice A n c], .agg #[.int .i64 P, .slice A n c], .slice D r d] w fun e w' => e = .returned (.bool false) ∧ Below w.heap.size w w' := by
 have t7 : (P != P) = false := by simp
 have t6 : ((n : Int) != (n : Int)) = false := by simp
 have hB0 : Below w.heap.size w ((w.alloc (.cells #[.int .i64 P, .slice A n c] 26)).alloc (.cells #[.int .i64 P, .slice A n c] 26)) := (zG.alloc (Nat.le_refl _) _).alloc (by simp) _
 have k0 : Blk ((w.alloc (.cells #[.int .i64 P, .slice A n c] 26)).alloc (.cells #[.int .i64 P, .slice A n c] 26)) w.heap.size 26 #[.int .i64 P, .slice A n c] := (Blk.new _ _ _).alloc _
 have k1 : Blk ((w.alloc (.cells #[.int .i64 P, .slice A n c] 26)).alloc (.cells #[.int .i64 P, .slice A n c] 26)) (w.heap.size + 1) 26 #[.int .i64 P, .slice A n c] := Blk.newAt3 (by simp)
 have HIM := Lib.hid fun w' (h : Below w.heap.size w w') => isMatrix_any P D r d M m w' hp0 hp1 hr0 hr hm1 hm (hd.below h) hM
 rw [hb] at HIM
 obtain ⟨g, o, rfl, hx0, A0, c0, hc0, -, -⟩ := (hd.below hB0).at_ hr0
 rw [hM M[0] (List.getElem_mem hx0), Nat.add_zero] at hc0
 clear hM hd hb
 obtain ⟨q0, q1⟩ := k0.two
 obtain ⟨q2, q3⟩ := k1.two
 go_enter Tryz.func120, Tryz.ntmps120
 go_wp2
 refine wp_obs 42 [[],[0],[],[2],[0,1,2,3],[0,1,2,3,4],[0,1,2,3,4,5],[0,1,2,3,4,5,6],[0,1,2,3,4,5],[0,1,2,3,4,5,8],[0,1,2,3,4,5,6,7,8,9],[0,1,2,3,4,5,6,7,8,9,10],[0,1,2,3,4,5,6,7,8,9,10,11],[0,1,2,3,4,5,6,7,8,9,10,11,12],[0,1,2,3,4,5,6,7,8,9,10,11,12,13],[0,1,2,3,4,5,6,7,8,9,10,11,12],[0,1,2,3,4,5,6,7,8,9,10,11,12,13,14,15],[0,1,2,3,4,5,6,7,8,9,10,11,12,13,14,15,16],[0,1,2,3,4,5,6,7,8,9,10,11,12,13,14,15,16,17],[0,1,2,3,4,5,6,7,8,9,10,11,12,13,14,15,16,17,18],[0,1,2,3,4,5,6,7,8,9,10,11,12,13,14,15,16,17,18,19],[0,1,2,3,4,5,6,7,8,9,10,11,12,13,14,15,16,17,18,19,20],[0,1,2,3,4,5,6,7,8,9,10,11,12,13,14,15,16,17,18,19],[0,1,2,3,4,5,6,7,8,9,10,11,12,13,14,15,16,17,18,19,22],[0,1,2,3,4,5,6,7,8,9,10,11,12,13,14,15,16,17,18,19,20,21,22,23],[0,1,2,3,4,5,6,7,8,9,10,11,12,13,14,15,16,17,18,19,20,21,22,23,24],[0,1,2,3,4,5,6,7,8,9,10,11,12,13,14,15,16,17,18,19,20,21,22,23,24,25],[0,1,2,3,4,5,6,7,8,9,10,11,12,13,14,15,16,17,18,19,20,21,22,23,24,25,26],[0,1,2,3,4,5,6,7,8,9,10,11,12,13,14,15,16,17,18,19,20,21,22,23,24,25,26,27],[0,1,2,3,4,5,6,7,8,9,10,11,12,13,14,15,16,17,18,19,20,21,22,23,24,25,26,27,28],[0,1,2,3,4,5,6,7,8,9,10,11,12,13,14,15,16,17,18,19,20,21,22,23,24,25,26,27,28,29],[0,1,2,3,4,5,6,7,8,9,10,11,12,13,14,15,16,17,18,19,20,21,22,23,24,25,26],[0,1,2,3,4,5,6,7,8,9,10,11,12,13,14,15,16,17,18,19,20,21,22,23,24,25,26,31],[0,1,2,3,4,5,6,7,8,9,10,11,12,13,14,15,16,17,18,19,20,21,22,23,24,25,26,27,28,29,30,31,32],[0,1,2,3,4,5,6,7,8,9,10,11,12,13,14,15,16,17,18,19,20,21,22,23,24,25,26,27,28,29,30,31,32,33],[0,1,2,3,4,5,6,7,8,9,10,11,12,13,14,15,16,17,18,19,20,21,22,23,24,25,26,27,28,29,30,31,32,33,34],[0,1,2,3,4,5,6,7,8,9,10,11,12,13,14,15,16,17,18,19,20,21,22,23,24,25,26,27,28,29,30,31,32,33,34,35],[0,1,2,3,4,5,6,7,8,9,10,11,12,13,14,15,16,17,18,19,20,21,22,23,24,25,26,27,28,29,30,31,32,33,34,35,36],[0,1,2,3,4,5,6,7,8,9,10,11,12,13,14,15,16,17,18,19,20,21,22,23,24,25,26,27,28,29,30,31,32,33,34,35],[0,1,2,3,4,5,6,7,8,9,10,11,12,13,14,15,16,17,18,19,20,21,22,23,24,25,26,27,28,29,30,31,32,33,34,35,36,37,38],[0,1,2,3,4,5,6,7,8,9,10,11,12,13,14,15,16,17,18,19,20,21,22,23,24,25,26,27,28,29,30,31,32,33,34,35,36,37,38,39],[0,1,2,3,4,5,6,7,8,9,10,11,12,13,14,15,16,17,18,19,20,21,22,23,24,25,26,27,28,29,30,31,32,33,34,35,36,37,38,39,40]] [VIs (.pointer (some ⟨w.heap.size, 0, none⟩)), VIs (.int .i64 (P)), VIs (.pointer (some ⟨w.heap.size + 1, 0, none⟩)), VIs (.int .i64 (P)), VIs (.bool false), VIs (.bool false), VIs (.agg #[.int .i64 P, .slice A n c]), VIs (.int .i64 (n)), VIs (.agg #[.int .i64 P, .slice A n c]), VIs (.int .i64 (n)), VIs (.bool false), VIs (.bool false), VIs (.bool false), VIs (.agg #[.int .i64 P, .slice A n c]), VIs (.int .i64 (P)), VIs (.slice (some ⟨g, o, none⟩) r d), VIs (.bool false), VIs (.bool true), VIs (.bool true), VIs (.bool true), VIs undef, VIs undef, VIs undef, VIs undef, VIs undef, VIs (.bool true), VIs (.bool true), VIs undef, VIs undef, VIs undef, VIs undef, VIs undef, VIs undef, VIs undef, VIs (.bool true), VIs (.bool true), VIs undef, VIs undef, VIs undef, VIs undef, VIs undef, VIs (.bool true)] (fun w' => w'.cell? ⟨g, o, none⟩ = some (.slice A0 m c0) ∧ Blk w' w.heap.size 26 #[.int .i64 P, .slice A n c] ∧ Blk w' (w.heap.size + 1) 26 #[.int .i64 P, .slice A n c] ∧ Below w.heap.size w w') (by kernel_rfl) (by kernel_rfl) (fun _ _ h hb => ⟨(hb.cell (World.block_lt_of_cell? _ _ h.1)).trans h.1, h.2.1.below hb h.2.1.lt, h.2.2.1.below hb h.2.2.1.lt, h.2.2.2.trans (hb.mono h.2.2.2.size)⟩) (⟨hc0, k0.drew, k1.drew, hB0.drew⟩) (fun x => ?_)
 refine zS (fun w' hS hV K hK => ?_) ?_
 · have q9 := hS.1; obtain ⟨q0, q1⟩ := hS.2.1.two; obtain ⟨q2, q3⟩ := hS.2.2.1.two; go_simp; exact zO hK
 refine zS (fun w' hS hV K hK => ?_) ?_
 · have e0 := zQ hV 0; have q9 := hS.1; obtain ⟨q0, q1⟩ := hS.2.1.two; obtain ⟨q2, q3⟩ := hS.2.2.1.two; go_simp; exact zO hK
 refine zS (fun w' hS hV K hK => ?_) ?_
 · have q9 := hS.1; obtain ⟨q0, q1⟩ := hS.2.1.two; obtain ⟨q2, q3⟩ := hS.2.2.1.two; go_simp; exact zO hK
 refine zS (fun w' hS hV K hK => ?_) ?_
 · have e2 := zQ hV 2; have q9 := hS.1; obtain ⟨q0, q1⟩ := hS.2.1.two; obtain ⟨q2, q3⟩ := hS.2.2.1.two; go_simp; exact zO hK
 refine zS (fun w' hS hV K hK => ?_) ?_
 · have e1 := zQ hV 1; have e3 := zQ hV 3; have q9 := hS.1; obtain ⟨q0, q1⟩ := hS.2.1.two; obtain ⟨q2, q3⟩ := hS.2.2.1.two; go_simp; exact zO hK
 refine zS (fun w' hS hV K hK => ?_) ?_
 · have e4 := zQ hV 4; have q9 := hS.1; obtain ⟨q0, q1⟩ := hS.2.1.two; obtain ⟨q2, q3⟩ := hS.2.2.1.two; go_simp; exact zO hK
 refine zS (fun w' hS hV K hK => ?_) ?_
 · have e5 := zQ hV 5; have q9 := hS.1; obtain ⟨q0, q1⟩ := hS.2.1.two; obtain ⟨q2, q3⟩ := hS.2.2.1.two; go_simp; exact zO hK
 refine zS (fun w' hS hV K hK => ?_) ?_
 · have e5 := zQ hV 5; have e6 := zQ hV 6; have q9 := hS.1; obtain ⟨q0, q1⟩ := hS.2.1.two; obtain ⟨q2, q3⟩ := hS.2.2.1.two; go_simp; refine (dim_any _ _ _ _ _).mono ?_; rintro e v1 ⟨rfl, hb⟩; exact hK.out _ _ _ rfl rfl rfl hb
 refine zS (fun w' hS hV K hK => ?_) ?_
 · have e5 := zQ hV 5; have q9 := hS.1; obtain ⟨q0, q1⟩ := hS.2.1.two; obtain ⟨q2, q3⟩ := hS.2.2.1.two; go_simp; exact zO hK
 refine zS (fun w' hS hV K hK => ?_) ?_
 · have e5 := zQ hV 5; have e8 := zQ hV 8; have q9 := hS.1; obtain ⟨q0, q1⟩ := hS.2.1.two; obtain ⟨q2, q3⟩ := hS.2.2.1.two; go_simp; refine (dim_any _ _ _ _ _).mono ?_; rintro e v1 ⟨rfl, hb⟩; exact hK.out _ _ _ rfl rfl rfl hb
 refine zS (fun w' hS hV K hK => ?_) ?_
 · have e5 := zQ hV 5; have e7 := zQ hV 7; have e9 := zQ hV 9; have q9 := hS.1; obtain ⟨q0, q1⟩ := hS.2.1.two; obtain ⟨q2, q3⟩ := hS.2.2.1.two; go_simp; exact zO hK
 refine zS (fun w' hS hV K hK => ?_) ?_
 · have e5 := zQ hV 5; have e10 := zQ hV 10; have q9 := hS.1; obtain ⟨q0, q1⟩ := hS.2.1.two; obtain ⟨q2, q3⟩ := hS.2.2.1.two; go_simp; exact zO hK
 refine zS (fun w' hS hV K hK => ?_) ?_
 · have e11 := zQ hV 11; have q9 := hS.1; obtain ⟨q0, q1⟩ := hS.2.1.two; obtain ⟨q2, q3⟩ := hS.2.2.1.two; go_simp; exact zO hK
 refine zS (fun w' hS hV K hK => ?_) ?_
 · have e12 := zQ hV 12; have q9 := hS.1; obtain ⟨q0, q1⟩ := hS.2.1.two; obtain ⟨q2, q3⟩ := hS.2.2.1.two; go_simp; exact zO hK
 refine zS (fun w' hS hV K hK => ?_) ?_
 · have e12 := zQ hV 12; have e13 := zQ hV 13; have q9 := hS.1; obtain ⟨q0, q1⟩ := hS.2.1.two; obtain ⟨q2, q3⟩ := hS.2.2.1.two; go_simp; refine (field_any _ _ _ _ _).mono ?_; rintro e v1 ⟨rfl, hb⟩; exact hK.out _ _ _ rfl rfl rfl hb
 refine zS (fun w' hS hV K hK => ?_) ?_
 · have e12 := zQ hV 12; have q9 := hS.1; obtain ⟨q0, q1⟩ := hS.2.1.two; obtain ⟨q2, q3⟩ := hS.2.2.1.two; go_simp; exact zO hK
 refine zS (fun w' hS hV K hK => ?_) ?_
 · have e12 := zQ hV 12; have e14 := zQ hV 14; have e15 := zQ hV 15; have q9 := hS.1; obtain ⟨q0, q1⟩ := hS.2.1.two; obtain ⟨q2, q3⟩ := hS.2.2.1.two; go_simp; refine (HIM.out _ hS.2.2.2).mono ?_; rintro e v1 ⟨rfl, rfl⟩; exact zO hK
 refine zS (fun w' hS hV K hK => ?_) ?_
 · have e12 := zQ hV 12; have e16 := zQ hV 16; have q9 := hS.1; obtain ⟨q0, q1⟩ := hS.2.1.two; obtain ⟨q2, q3⟩ := hS.2.2.1.two; go_simp; exact zO hK
 refine zS (fun w' hS hV K hK => ?_) ?_
 · have e12 := zQ hV 12; have e17 := zQ hV 17; have q9 := hS.1; obtain ⟨q0, q1⟩ := hS.2.1.two; obtain ⟨q2, q3⟩ := hS.2.2.1.two; go_simp; exact zO hK
 refine zS (fun w' hS hV K hK => ?_) ?_
 · have e18 := zQ hV 18; have q9 := hS.1; obtain ⟨q0, q1⟩ := hS.2.1.two; obtain ⟨q2, q3⟩ := hS.2.2.1.two; go_simp; exact zO hK
 refine zS (fun w' hS hV K hK => ?_) ?_
 · have e19 := zQ hV 19; have q9 := hS.1; obtain ⟨q0, q1⟩ := hS.2.1.two; obtain ⟨q2, q3⟩ := hS.2.2.1.two; go_simp; exact zO hK
 refine zS (fun w' hS hV K hK => ?_) ?_
 · have e19 := zQ hV 19; have e20 := zQ hV 20; have q9 := hS.1; obtain ⟨q0, q1⟩ := hS.2.1.two; obtain ⟨q2, q3⟩ := hS.2.2.1.two; go_simp; exact zO hK
 refine zS (fun w' hS hV K hK => ?_) ?_
 · have e19 := zQ hV 19; have q9 := hS.1; obtain ⟨q0, q1⟩ := hS.2.1.two; obtain ⟨q2, q3⟩ := hS.2.2.1.two; go_simp; exact zO hK
 refine zS (fun w' hS hV K hK => ?_) ?_
 · have e19 := zQ hV 19; have e22 := zQ hV 22; have q9 := hS.1; obtain ⟨q0, q1⟩ := hS.2.1.two; obtain ⟨q2, q3⟩ := hS.2.2.1.two; go_simp; exact zO hK
 refine zS (fun w' hS hV K hK => ?_) ?_
 · have e19 := zQ hV 19; have e21 := zQ hV 21; have e23 := zQ hV 23; have q9 := hS.1; obtain ⟨q0, q1⟩ := hS.2.1.two; obtain ⟨q2, q3⟩ := hS.2.2.1.two; go_simp; exact zO hK
 refine zS (fun w' hS hV K hK => ?_) ?_
 · have e19 := zQ hV 19; have e24 := zQ hV 24; have q9 := hS.1; obtain ⟨q0, q1⟩ := hS.2.1.two; obtain ⟨q2, q3⟩ := hS.2.2.1.two; go_simp; exact zO hK
 refine zS (fun w' hS hV K hK => ?_) ?_
 · have e25 := zQ hV 25; have q9 := hS.1; obtain ⟨q0, q1⟩ := hS.2.1.two; obtain ⟨q2, q3⟩ := hS.2.2.1.two; go_simp; exact zO hK
 refine zS (fun w' hS hV K hK => ?_) ?_
 · have e26 := zQ hV 26; have q9 := hS.1; obtain ⟨q0, q1⟩ := hS.2.1.two; obtain ⟨q2, q3⟩ := hS.2.2.1.two; go_simp; exact zO hK
 refine zS (fun w' hS hV K hK => ?_) ?_
 · have e26 := zQ hV 26; have e27 := zQ hV 27; have q9 := hS.1; obtain ⟨q0, q1⟩ := hS.2.1.two; obtain ⟨q2, q3⟩ := hS.2.2.1.two; go_simp; exact zO hK
 refine zS (fun w' hS hV K hK => ?_) ?_
 · have e26 := zQ hV 26; have e28 := zQ hV 28; have q9 := hS.1; obtain ⟨q0, q1⟩ := hS.2.1.two; obtain ⟨q2, q3⟩ := hS.2.2.1.two; go_simp; exact zO hK
 refine zS (fun w' hS hV K hK => ?_) ?_
 · have e26 := zQ hV 26; have e29 := zQ hV 29; have q9 := hS.1; obtain ⟨q0, q1⟩ := hS.2.1.two; obtain ⟨q2, q3⟩ := hS.2.2.1.two; go_simp; exact zO hK
 refine zS (fun w' hS hV K hK => ?_) ?_
 · have e26 := zQ hV 26; have q9 := hS.1; obtain ⟨q0, q1⟩ := hS.2.1.two; obtain ⟨q2, q3⟩ := hS.2.2.1.two; go_simp; exact zO hK
 refine zS (fun w' hS hV K hK => ?_) ?_
 · have e26 := zQ hV 26; have e31 := zQ hV 31; have q9 := hS.1; obtain ⟨q0, q1⟩ := hS.2.1.two; obtain ⟨q2, q3⟩ := hS.2.2.1.two; go_simp; exact zO hK
 refine zS (fun w' hS hV K hK => ?_) ?_
 · have e26 := zQ hV 26; have e30 := zQ hV 30; have e32 := zQ hV 32; have q9 := hS.1; obtain ⟨q0, q1⟩ := hS.2.1.two; obtain ⟨q2, q3⟩ := hS.2.2.1.two; go_simp; exact zO hK
 refine zS (fun w' hS hV K hK => ?_) ?_
 · have e26 := zQ hV 26; have e33 := zQ hV 33; have q9 := hS.1; obtain ⟨q0, q1⟩ := hS.2.1.two; obtain ⟨q2, q3⟩ := hS.2.2.1.two; go_simp; exact zO hK
 refine zS (fun w' hS hV K hK => ?_) ?_
 · have e34 := zQ hV 34; have q9 := hS.1; obtain ⟨q0, q1⟩ := hS.2.1.two; obtain ⟨q2, q3⟩ := hS.2.2.1.two; go_simp; exact zO hK
 refine zS (fun w' hS hV K hK => ?_) ?_
 · have e35 := zQ hV 35; have q9 := hS.1; obtain ⟨q0, q1⟩ := hS.2.1.two; obtain ⟨q2, q3⟩ := hS.2.2.1.two; go_simp; exact zO hK
 refine zS (fun w' hS hV K hK => ?_) ?_
 · have e35 := zQ hV 35; have e36 := zQ hV 36; have q9 := hS.1; obtain ⟨q0, q1⟩ := hS.2.1.two; obtain ⟨q2, q3⟩ := hS.2.2.1.two; go_simp; exact zO hK
 refine zS (fun w' hS hV K hK => ?_) ?_
 · have e35 := zQ hV 35; have q9 := hS.1; obtain ⟨q0, q1⟩ := hS.2.1.two; obtain ⟨q2, q3⟩ := hS.2.2.1.two; go_simp; exact zO hK
 refine zS (fun w' hS hV K hK => ?_) ?_
 · have e35 := zQ hV 35; have e37 := zQ hV 37; have e38 := zQ hV 38; have q9 := hS.1; obtain ⟨q0, q1⟩ := hS.2.1.two; obtain ⟨q2, q3⟩ := hS.2.2.1.two; go_simp; exact zO hK
 refine zS (fun w' hS hV K hK => ?_) ?_
 · have e35 := zQ hV 35; have e39 := zQ hV 39; have q9 := hS.1; obtain ⟨q0, q1⟩ := hS.2.1.two; obtain ⟨q2, q3⟩ := hS.2.2.1.two; go_simp; exact zO hK
 refine zS (fun w' hS hV K hK => ?_) ?_
 · have e35 := zQ hV 35; have e40 := zQ hV 40; have q9 := hS.1; obtain ⟨q0, q1⟩ := hS.2.1.two; obtain ⟨q2, q3⟩ := hS.2.2.1.two; go_simp; exact zO hK
 refine fun w' hS hV => ?_
 have e0 := zT hV 0
 have e1 := zT hV 1
 have e2 := zT hV 2
 have e3 := zT hV 3
 have e4 := zT hV 4
 have e5 := zT hV 5
 have e6 := zT hV 6
 have e7 := zT hV 7
 have e8 := zT hV 8
 have e9 := zT hV 9
 have e10 := zT hV 10
 have e11 := zT hV 11
 have e12 := zT hV 12
 have e13 := zT hV 13
 have e14 := zT hV 14
 have e15 := zT hV 15
 have e16 := zT hV 16
 have e17 := zT hV 17
 have e18 := zT hV 18
 have e19 := zT hV 19
 have e20 := zT hV 20
 have e21 := zT hV 21
 have e22 := zT hV 22
 have e23 := zT hV 23
 have e24 := zT hV 24
 have e25 := zT hV 25
 have e26 := zT hV 26
 have e27 := zT hV 27
 have e28 := zT hV 28
 have e29 := zT hV 29
 have e30 := zT hV 30
 have e31 := zT hV 31
 have e32 := zT hV 32
 have e33 := zT hV 33
 have e34 := zT hV 34
 have e35 := zT hV 35
 have e36 := zT hV 36
 have e37 := zT hV 37
 have e38 := zT hV 38
 have e39 := zT hV 39
 have e40 := zT hV 40
 have e41 := zT hV 41
 simp only [e0, e1, e2, e3, e4, e5, e6, e7, e8, e9, e10, e11, e12, e13, e14, e15, e16, e17, e18, e19, e20, e21, e22, e23, e24, e25, e26, e27, e28, e29, e30, e31, e32, e33, e34, e35, e36, e37, e38, e39, e40, e41]
 clear e0 e1 e2 e3 e4 e5 e6 e7 e8 e9 e10 e11 e12 e13 e14 e15 e16 e17 e18 e19 e20 e21 e22 e23 e24 e25 e26 e27 e28 e29 e30 e31 e32 e33 e34 e35 e36 e37 e38 e39 e40 e41
 refine wpAny_done (by kernel_rfl) ?_ _
 have hb9 := hS.2.2.2
 go_wp2
 go_ret
 exact ⟨rfl, hb9⟩
set_option maxHeartbeats 3200000 in
set_option maxRecDepth 8000 in
theorem isIsometry_1 (P : Int) (A : Option Addr) (n c : Nat) (sq : List Int) (D : Option Addr) (r d : Nat) (M : List (List Int)) (m : Nat) (w : World) (hp0 : 0 < P) (hp1 : P ≤ 13) (hr0 : 0 < r) (hr : r ≤ 16) (hm1 : 1 ≤ m) (hm : m ≤ 16) (hd : RdII w D r M) (hM : Rect m M) (hb : (M.all fun r => nums P r) = true) (h1 : r ≠ n) :
    Calls Tryz.prog 120 #[.agg #[.int .i64 P, .slice A n c], .agg #[.int .i64 P, .slice A n c], .slice D r d] w fun e w' => e = .returned (.bool false) ∧ Below w.heap.size w w' := by
 have t7 : (P != P) = false := by simp
 have t4 : ((r : Int) != (n : Int)) = true := by rw [bne_iff_ne]; omega
 have t6 : ((n : Int) != (n : Int)) = false := by simp
 have hB0 : Below w.heap.size w ((w.alloc (.cells #[.int .i64 P, .slice A n c] 26)).alloc (.cells #[.int .i64 P, .slice A n c] 26)) := (zG.alloc (Nat.le_refl _) _).alloc (by simp) _
 have k0 : Blk ((w.alloc (.cells #[.int .i64 P, .slice A n c] 26)).alloc (.cells #[.int .i64 P, .slice A n c] 26)) w.heap.size 26 #[.int .i64 P, .slice A n c] := (Blk.new _ _ _).alloc _
 have k1 : Blk ((w.alloc (.cells #[.int .i64 P, .slice A n c] 26)).alloc (.cells #[.int .i64 P, .slice A n c] 26)) (w.heap.size + 1) 26 #[.int .i64 P, .slice A n c] := Blk.newAt3 (by simp)
 have HIM := Lib.hid fun w' (h : Below w.heap.size w w') => isMatrix_any P D r d M m w' hp0 hp1 hr0 hr hm1 hm (hd.below h) hM
 rw [hb] at HIM
 obtain ⟨g, o, rfl, hx0, A0, c0, hc0, -, -⟩ := (hd.below hB0).at_ hr0
 rw [hM M[0] (List.getElem_mem hx0), Nat.add_zero] at hc0
 clear hM hd hb
 obtain ⟨q0, q1⟩ := k0.two
 obtain ⟨q2, q3⟩ := k1.two
 go_enter Tryz.func120, Tryz.ntmps120
 go_wp2
 refine wp_obs 42 [[],[0],[],[2],[0,1,2,3],[0,1,2,3,4],[0,1,2,3,4,5],[0,1,2,3,4,5,6],[0,1,2,3,4,5],[0,1,2,3,4,5,8],[0,1,2,3,4,5,6,7,8,9],[0,1,2,3,4,5,6,7,8,9,10],[0,1,2,3,4,5,6,7,8,9,10,11],[0,1,2,3,4,5,6,7,8,9,10,11,12],[0,1,2,3,4,5,6,7,8,9,10,11,12,13],[0,1,2,3,4,5,6,7,8,9,10,11,12],[0,1,2,3,4,5,6,7,8,9,10,11,12,13,14,15],[0,1,2,3,4,5,6,7,8,9,10,11,12,13,14,15,16],[0,1,2,3,4,5,6,7,8,9,10,11,12,13,14,15,16,17],[0,1,2,3,4,5,6,7,8,9,10,11,12,13,14,15,16,17,18],[0,1,2,3,4,5,6,7,8,9,10,11,12,13,14,15,16,17,18,19],[0,1,2,3,4,5,6,7,8,9,10,11,12,13,14,15,16,17,18,19,20],[0,1,2,3,4,5,6,7,8,9,10,11,12,13,14,15,16,17,18,19],[0,1,2,3,4,5,6,7,8,9,10,11,12,13,14,15,16,17,18,19,22],[0,1,2,3,4,5,6,7,8,9,10,11,12,13,14,15,16,17,18,19,20,21,22,23],[0,1,2,3,4,5,6,7,8,9,10,11,12,13,14,15,16,17,18,19,20,21,22,23,24],[0,1,2,3,4,5,6,7,8,9,10,11,12,13,14,15,16,17,18,19,20,21,22,23,24,25],[0,1,2,3,4,5,6,7,8,9,10,11,12,13,14,15,16,17,18,19,20,21,22,23,24,25,26],[0,1,2,3,4,5,6,7,8,9,10,11,12,13,14,15,16,17,18,19,20,21,22,23,24,25,26,27],[0,1,2,3,4,5,6,7,8,9,10,11,12,13,14,15,16,17,18,19,20,21,22,23,24,25,26,27,28],[0,1,2,3,4,5,6,7,8,9,10,11,12,13,14,15,16,17,18,19,20,21,22,23,24,25,26,27,28,29],[0,1,2,3,4,5,6,7,8,9,10,11,12,13,14,15,16,17,18,19,20,21,22,23,24,25,26],[0,1,2,3,4,5,6,7,8,9,10,11,12,13,14,15,16,17,18,19,20,21,22,23,24,25,26,31],[0,1,2,3,4,5,6,7,8,9,10,11,12,13,14,15,16,17,18,19,20,21,22,23,24,25,26,27,28,29,30,31,32],[0,1,2,3,4,5,6,7,8,9,10,11,12,13,14,15,16,17,18,19,20,21,22,23,24,25,26,27,28,29,30,31,32,33],[0,1,2,3,4,5,6,7,8,9,10,11,12,13,14,15,16,17,18,19,20,21,22,23,24,25,26,27,28,29,30,31,32,33,34],[0,1,2,3,4,5,6,7,8,9,10,11,12,13,14,15,16,17,18,19,20,21,22,23,24,25,26,27,28,29,30,31,32,33,34,35],[0,1,2,3,4,5,6,7,8,9,10,11,12,13,14,15,16,17,18,19,20,21,22,23,24,25,26,27,28,29,30,31,32,33,34,35,36],[0,1,2,3,4,5,6,7,8,9,10,11,12,13,14,15,16,17,18,19,20,21,22,23,24,25,26,27,28,29,30,31,32,33,34,35],[0,1,2,3,4,5,6,7,8,9,10,11,12,13,14,15,16,17,18,19,20,21,22,23,24,25,26,27,28,29,30,31,32,33,34,35,36,37,38],[0,1,2,3,4,5,6,7,8,9,10,11,12,13,14,15,16,17,18,19,20,21,22,23,24,25,26,27,28,29,30,31,32,33,34,35,36,37,38,39],[0,1,2,3,4,5,6,7,8,9,10,11,12,13,14,15,16,17,18,19,20,21,22,23,24,25,26,27,28,29,30,31,32,33,34,35,36,37,38,39,40]] [VIs (.pointer (some ⟨w.heap.size, 0, none⟩)), VIs (.int .i64 (P)), VIs (.pointer (some ⟨w.heap.size + 1, 0, none⟩)), VIs (.int .i64 (P)), VIs (.bool false), VIs (.bool false), VIs (.agg #[.int .i64 P, .slice A n c]), VIs (.int .i64 (n)), VIs (.agg #[.int .i64 P, .slice A n c]), VIs (.int .i64 (n)), VIs (.bool false), VIs (.bool false), VIs (.bool false), VIs (.agg #[.int .i64 P, .slice A n c]), VIs (.int .i64 (P)), VIs (.slice (some ⟨g, o, none⟩) r d), VIs (.bool true), VIs (.bool false), VIs (.bool false), VIs (.bool false), VIs (.slice (some ⟨g, o, none⟩) r d), VIs (.int .i64 (r)), VIs (.agg #[.int .i64 P, .slice A n c]), VIs (.int .i64 (n)), VIs (.bool true), VIs (.bool true), VIs (.bool true), VIs undef, VIs undef, VIs undef, VIs undef, VIs undef, VIs undef, VIs undef, VIs (.bool true), VIs (.bool true), VIs undef, VIs undef, VIs undef, VIs undef, VIs undef, VIs (.bool true)] (fun w' => w'.cell? ⟨g, o, none⟩ = some (.slice A0 m c0) ∧ Blk w' w.heap.size 26 #[.int .i64 P, .slice A n c] ∧ Blk w' (w.heap.size + 1) 26 #[.int .i64 P, .slice A n c] ∧ Below w.heap.size w w') (by kernel_rfl) (by kernel_rfl) (fun _ _ h hb => ⟨(hb.cell (World.block_lt_of_cell? _ _ h.1)).trans h.1, h.2.1.below hb h.2.1.lt, h.2.2.1.below hb h.2.2.1.lt, h.2.2.2.trans (hb.mono h.2.2.2.size)⟩) (⟨hc0, k0.drew, k1.drew, hB0.drew⟩) (fun x => ?_)
 refine zS (fun w' hS hV K hK => ?_) ?_
 · have q9 := hS.1; obtain ⟨q0, q1⟩ := hS.2.1.two; obtain ⟨q2, q3⟩ := hS.2.2.1.two; go_simp; exact zO hK
 refine zS (fun w' hS hV K hK => ?_) ?_
 · have e0 := zQ hV 0; have q9 := hS.1; obtain ⟨q0, q1⟩ := hS.2.1.two; obtain ⟨q2, q3⟩ := hS.2.2.1.two; go_simp; exact zO hK
 refine zS (fun w' hS hV K hK => ?_) ?_
 · have q9 := hS.1; obtain ⟨q0, q1⟩ := hS.2.1.two; obtain ⟨q2, q3⟩ := hS.2.2.1.two; go_simp; exact zO hK
 refine zS (fun w' hS hV K hK => ?_) ?_
 · have e2 := zQ hV 2; have q9 := hS.1; obtain ⟨q0, q1⟩ := hS.2.1.two; obtain ⟨q2, q3⟩ := hS.2.2.1.two; go_simp; exact zO hK
 refine zS (fun w' hS hV K hK => ?_) ?_
 · have e1 := zQ hV 1; have e3 := zQ hV 3; have q9 := hS.1; obtain ⟨q0, q1⟩ := hS.2.1.two; obtain ⟨q2, q3⟩ := hS.2.2.1.two; go_simp; exact zO hK
 refine zS (fun w' hS hV K hK => ?_) ?_
 · have e4 := zQ hV 4; have q9 := hS.1; obtain ⟨q0, q1⟩ := hS.2.1.two; obtain ⟨q2, q3⟩ := hS.2.2.1.two; go_simp; exact zO hK
 refine zS (fun w' hS hV K hK => ?_) ?_
 · have e5 := zQ hV 5; have q9 := hS.1; obtain ⟨q0, q1⟩ := hS.2.1.two; obtain ⟨q2, q3⟩ := hS.2.2.1.two; go_simp; exact zO hK
 refine zS (fun w' hS hV K hK => ?_) ?_
 · have e5 := zQ hV 5; have e6 := zQ hV 6; have q9 := hS.1; obtain ⟨q0, q1⟩ := hS.2.1.two; obtain ⟨q2, q3⟩ := hS.2.2.1.two; go_simp; refine (dim_any _ _ _ _ _).mono ?_; rintro e v1 ⟨rfl, hb⟩; exact hK.out _ _ _ rfl rfl rfl hb
 refine zS (fun w' hS hV K hK => ?_) ?_
 · have e5 := zQ hV 5; have q9 := hS.1; obtain ⟨q0, q1⟩ := hS.2.1.two; obtain ⟨q2, q3⟩ := hS.2.2.1.two; go_simp; exact zO hK
 refine zS (fun w' hS hV K hK => ?_) ?_
 · have e5 := zQ hV 5; have e8 := zQ hV 8; have q9 := hS.1; obtain ⟨q0, q1⟩ := hS.2.1.two; obtain ⟨q2, q3⟩ := hS.2.2.1.two; go_simp; refine (dim_any _ _ _ _ _).mono ?_; rintro e v1 ⟨rfl, hb⟩; exact hK.out _ _ _ rfl rfl rfl hb
 refine zS (fun w' hS hV K hK => ?_) ?_
 · have e5 := zQ hV 5; have e7 := zQ hV 7; have e9 := zQ hV 9; have q9 := hS.1; obtain ⟨q0, q1⟩ := hS.2.1.two; obtain ⟨q2, q3⟩ := hS.2.2.1.two; go_simp; exact zO hK
 refine zS (fun w' hS hV K hK => ?_) ?_
 · have e5 := zQ hV 5; have e10 := zQ hV 10; have q9 := hS.1; obtain ⟨q0, q1⟩ := hS.2.1.two; obtain ⟨q2, q3⟩ := hS.2.2.1.two; go_simp; exact zO hK
 refine zS (fun w' hS hV K hK => ?_) ?_
 · have e11 := zQ hV 11; have q9 := hS.1; obtain ⟨q0, q1⟩ := hS.2.1.two; obtain ⟨q2, q3⟩ := hS.2.2.1.two; go_simp; exact zO hK
 refine zS (fun w' hS hV K hK => ?_) ?_
 · have e12 := zQ hV 12; have q9 := hS.1; obtain ⟨q0, q1⟩ := hS.2.1.two; obtain ⟨q2, q3⟩ := hS.2.2.1.two; go_simp; exact zO hK
 refine zS (fun w' hS hV K hK => ?_) ?_
 · have e12 := zQ hV 12; have e13 := zQ hV 13; have q9 := hS.1; obtain ⟨q0, q1⟩ := hS.2.1.two; obtain ⟨q2, q3⟩ := hS.2.2.1.two; go_simp; refine (field_any _ _ _ _ _).mono ?_; rintro e v1 ⟨rfl, hb⟩; exact hK.out _ _ _ rfl rfl rfl hb
 refine zS (fun w' hS hV K hK => ?_) ?_
 · have e12 := zQ hV 12; have q9 := hS.1; obtain ⟨q0, q1⟩ := hS.2.1.two; obtain ⟨q2, q3⟩ := hS.2.2.1.two; go_simp; exact zO hK
 refine zS (fun w' hS hV K hK => ?_) ?_
 · have e12 := zQ hV 12; have e14 := zQ hV 14; have e15 := zQ hV 15; have q9 := hS.1; obtain ⟨q0, q1⟩ := hS.2.1.two; obtain ⟨q2, q3⟩ := hS.2.2.1.two; go_simp; refine (HIM.out _ hS.2.2.2).mono ?_; rintro e v1 ⟨rfl, rfl⟩; exact zO hK
 refine zS (fun w' hS hV K hK => ?_) ?_
 · have e12 := zQ hV 12; have e16 := zQ hV 16; have q9 := hS.1; obtain ⟨q0, q1⟩ := hS.2.1.two; obtain ⟨q2, q3⟩ := hS.2.2.1.two; go_simp; exact zO hK
 refine zS (fun w' hS hV K hK => ?_) ?_
 · have e12 := zQ hV 12; have e17 := zQ hV 17; have q9 := hS.1; obtain ⟨q0, q1⟩ := hS.2.1.two; obtain ⟨q2, q3⟩ := hS.2.2.1.two; go_simp; exact zO hK
 refine zS (fun w' hS hV K hK => ?_) ?_
 · have e18 := zQ hV 18; have q9 := hS.1; obtain ⟨q0, q1⟩ := hS.2.1.two; obtain ⟨q2, q3⟩ := hS.2.2.1.two; go_simp; exact zO hK
 refine zS (fun w' hS hV K hK => ?_) ?_
 · have e19 := zQ hV 19; have q9 := hS.1; obtain ⟨q0, q1⟩ := hS.2.1.two; obtain ⟨q2, q3⟩ := hS.2.2.1.two; go_simp; exact zO hK
 refine zS (fun w' hS hV K hK => ?_) ?_
 · have e19 := zQ hV 19; have e20 := zQ hV 20; have q9 := hS.1; obtain ⟨q0, q1⟩ := hS.2.1.two; obtain ⟨q2, q3⟩ := hS.2.2.1.two; go_simp; exact zO hK
 refine zS (fun w' hS hV K hK => ?_) ?_
 · have e19 := zQ hV 19; have q9 := hS.1; obtain ⟨q0, q1⟩ := hS.2.1.two; obtain ⟨q2, q3⟩ := hS.2.2.1.two; go_simp; exact zO hK
 refine zS (fun w' hS hV K hK => ?_) ?_
 · have e19 := zQ hV 19; have e22 := zQ hV 22; have q9 := hS.1; obtain ⟨q0, q1⟩ := hS.2.1.two; obtain ⟨q2, q3⟩ := hS.2.2.1.two; go_simp; refine (dim_any _ _ _ _ _).mono ?_; rintro e v1 ⟨rfl, hb⟩; exact hK.out _ _ _ rfl rfl rfl hb
 refine zS (fun w' hS hV K hK => ?_) ?_
 · have e19 := zQ hV 19; have e21 := zQ hV 21; have e23 := zQ hV 23; have q9 := hS.1; obtain ⟨q0, q1⟩ := hS.2.1.two; obtain ⟨q2, q3⟩ := hS.2.2.1.two; go_simp; exact zO hK
 refine zS (fun w' hS hV K hK => ?_) ?_
 · have e19 := zQ hV 19; have e24 := zQ hV 24; have q9 := hS.1; obtain ⟨q0, q1⟩ := hS.2.1.two; obtain ⟨q2, q3⟩ := hS.2.2.1.two; go_simp; exact zO hK
 refine zS (fun w' hS hV K hK => ?_) ?_
 · have e25 := zQ hV 25; have q9 := hS.1; obtain ⟨q0, q1⟩ := hS.2.1.two; obtain ⟨q2, q3⟩ := hS.2.2.1.two; go_simp; exact zO hK
 refine zS (fun w' hS hV K hK => ?_) ?_
 · have e26 := zQ hV 26; have q9 := hS.1; obtain ⟨q0, q1⟩ := hS.2.1.two; obtain ⟨q2, q3⟩ := hS.2.2.1.two; go_simp; exact zO hK
 refine zS (fun w' hS hV K hK => ?_) ?_
 · have e26 := zQ hV 26; have e27 := zQ hV 27; have q9 := hS.1; obtain ⟨q0, q1⟩ := hS.2.1.two; obtain ⟨q2, q3⟩ := hS.2.2.1.two; go_simp; exact zO hK
 refine zS (fun w' hS hV K hK => ?_) ?_
 · have e26 := zQ hV 26; have e28 := zQ hV 28; have q9 := hS.1; obtain ⟨q0, q1⟩ := hS.2.1.two; obtain ⟨q2, q3⟩ := hS.2.2.1.two; go_simp; exact zO hK
 refine zS (fun w' hS hV K hK => ?_) ?_
 · have e26 := zQ hV 26; have e29 := zQ hV 29; have q9 := hS.1; obtain ⟨q0, q1⟩ := hS.2.1.two; obtain ⟨q2, q3⟩ := hS.2.2.1.two; go_simp; exact zO hK
 refine zS (fun w' hS hV K hK => ?_) ?_
 · have e26 := zQ hV 26; have q9 := hS.1; obtain ⟨q0, q1⟩ := hS.2.1.two; obtain ⟨q2, q3⟩ := hS.2.2.1.two; go_simp; exact zO hK
 refine zS (fun w' hS hV K hK => ?_) ?_
 · have e26 := zQ hV 26; have e31 := zQ hV 31; have q9 := hS.1; obtain ⟨q0, q1⟩ := hS.2.1.two; obtain ⟨q2, q3⟩ := hS.2.2.1.two; go_simp; exact zO hK
 refine zS (fun w' hS hV K hK => ?_) ?_
 · have e26 := zQ hV 26; have e30 := zQ hV 30; have e32 := zQ hV 32; have q9 := hS.1; obtain ⟨q0, q1⟩ := hS.2.1.two; obtain ⟨q2, q3⟩ := hS.2.2.1.two; go_simp; exact zO hK
 refine zS (fun w' hS hV K hK => ?_) ?_
 · have e26 := zQ hV 26; have e33 := zQ hV 33; have q9 := hS.1; obtain ⟨q0, q1⟩ := hS.2.1.two; obtain ⟨q2, q3⟩ := hS.2.2.1.two; go_simp; exact zO hK
 refine zS (fun w' hS hV K hK => ?_) ?_
 · have e34 := zQ hV 34; have q9 := hS.1; obtain ⟨q0, q1⟩ := hS.2.1.two; obtain ⟨q2, q3⟩ := hS.2.2.1.two; go_simp; exact zO hK
 refine zS (fun w' hS hV K hK => ?_) ?_
 · have e35 := zQ hV 35; have q9 := hS.1; obtain ⟨q0, q1⟩ := hS.2.1.two; obtain ⟨q2, q3⟩ := hS.2.2.1.two; go_simp; exact zO hK
 refine zS (fun w' hS hV K hK => ?_) ?_
 · have e35 := zQ hV 35; have e36 := zQ hV 36; have q9 := hS.1; obtain ⟨q0, q1⟩ := hS.2.1.two; obtain ⟨q2, q3⟩ := hS.2.2.1.two; go_simp; exact zO hK
 refine zS (fun w' hS hV K hK => ?_) ?_
 · have e35 := zQ hV 35; have q9 := hS.1; obtain ⟨q0, q1⟩ := hS.2.1.two; obtain ⟨q2, q3⟩ := hS.2.2.1.two; go_simp; exact zO hK
 refine zS (fun w' hS hV K hK => ?_) ?_
 · have e35 := zQ hV 35; have e37 := zQ hV 37; have e38 := zQ hV 38; have q9 := hS.1; obtain ⟨q0, q1⟩ := hS.2.1.two; obtain ⟨q2, q3⟩ := hS.2.2.1.two; go_simp; exact zO hK
 refine zS (fun w' hS hV K hK => ?_) ?_
 · have e35 := zQ hV 35; have e39 := zQ hV 39; have q9 := hS.1; obtain ⟨q0, q1⟩ := hS.2.1.two; obtain ⟨q2, q3⟩ := hS.2.2.1.two; go_simp; exact zO hK
 refine zS (fun w' hS hV K hK => ?_) ?_
 · have e35 := zQ hV 35; have e40 := zQ hV 40; have q9 := hS.1; obtain ⟨q0, q1⟩ := hS.2.1.two; obtain ⟨q2, q3⟩ := hS.2.2.1.two; go_simp; exact zO hK
 refine fun w' hS hV => ?_
 have e0 := zT hV 0
 have e1 := zT hV 1
 have e2 := zT hV 2
 have e3 := zT hV 3
 have e4 := zT hV 4
 have e5 := zT hV 5
 have e6 := zT hV 6
 have e7 := zT hV 7
 have e8 := zT hV 8
 have e9 := zT hV 9
 have e10 := zT hV 10
 have e11 := zT hV 11
 have e12 := zT hV 12
 have e13 := zT hV 13
 have e14 := zT hV 14
 have e15 := zT hV 15
 have e16 := zT hV 16
 have e17 := zT hV 17
 have e18 := zT hV 18
 have e19 := zT hV 19
 have e20 := zT hV 20
 have e21 := zT hV 21
 have e22 := zT hV 22
 have e23 := zT hV 23
 have e24 := zT hV 24
 have e25 := zT hV 25
 have e26 := zT hV 26
 have e27 := zT hV 27
 have e28 := zT hV 28
 have e29 := zT hV 29
 have e30 := zT hV 30
 have e31 := zT hV 31
 have e32 := zT hV 32
 have e33 := zT hV 33
 have e34 := zT hV 34
 have e35 := zT hV 35
 have e36 := zT hV 36
 have e37 := zT hV 37
 have e38 := zT hV 38
 have e39 := zT hV 39
 have e40 := zT hV 40
 have e41 := zT hV 41
 simp only [e0, e1, e2, e3, e4, e5, e6, e7, e8, e9, e10, e11, e12, e13, e14, e15, e16, e17, e18, e19, e20, e21, e22, e23, e24, e25, e26, e27, e28, e29, e30, e31, e32, e33, e34, e35, e36, e37, e38, e39, e40, e41]
 clear e0 e1 e2 e3 e4 e5 e6 e7 e8 e9 e10 e11 e12 e13 e14 e15 e16 e17 e18 e19 e20 e21 e22 e23 e24 e25 e26 e27 e28 e29 e30 e31 e32 e33 e34 e35 e36 e37 e38 e39 e40 e41
 refine wpAny_done (by kernel_rfl) ?_ _
 have hb9 := hS.2.2.2
 go_wp2
 go_ret
 exact ⟨rfl, hb9⟩
set_option maxHeartbeats 3200000 in
set_option maxRecDepth 8000 in
theorem isIsometry_2 (P : Int) (A : Option Addr) (n c : Nat) (sq : List Int) (D : Option Addr) (r d : Nat) (M : List (List Int)) (m : Nat) (w : World) (hp0 : 0 < P) (hp1 : P ≤ 13) (hr0 : 0 < r) (hr : r ≤ 16) (hm1 : 1 ≤ m) (hm : m ≤ 16) (hd : RdII w D r M) (hM : Rect m M) (hb : (M.all fun r => nums P r) = true) (h1 : r = n) (h2 : m ≠ n) :
    Calls Tryz.prog 120 #[.agg #[.int .i64 P, .slice A n c], .agg #[.int .i64 P, .slice A n c], .slice D r d] w fun e w' => e = .returned (.bool false) ∧ Below w.heap.size w w' := by
 have t7 : (P != P) = false := by simp
 subst h1
 have t4 : ((r : Int) != (r : Int)) = false := by simp
 have t5 : ((m : Int) != (r : Int)) = true := by rw [bne_iff_ne]; omega
 have hB0 : Below w.heap.size w ((w.alloc (.cells #[.int .i64 P, .slice A r c] 26)).alloc (.cells #[.int .i64 P, .slice A r c] 26)) := (zG.alloc (Nat.le_refl _) _).alloc (by simp) _
 have k0 : Blk ((w.alloc (.cells #[.int .i64 P, .slice A r c] 26)).alloc (.cells #[.int .i64 P, .slice A r c] 26)) w.heap.size 26 #[.int .i64 P, .slice A r c] := (Blk.new _ _ _).alloc _
 have k1 : Blk ((w.alloc (.cells #[.int .i64 P, .slice A r c] 26)).alloc (.cells #[.int .i64 P, .slice A r c] 26)) (w.heap.size + 1) 26 #[.int .i64 P, .slice A r c] := Blk.newAt3 (by simp)
 have HIM := Lib.hid fun w' (h : Below w.heap.size w w') => isMatrix_any P D r d M m w' hp0 hp1 hr0 hr hm1 hm (hd.below h) hM
 rw [hb] at HIM
 obtain ⟨g, o, rfl, hx0, A0, c0, hc0, -, -⟩ := (hd.below hB0).at_ hr0
 rw [hM M[0] (List.getElem_mem hx0), Nat.add_zero] at hc0
 clear hM hd hb
 obtain ⟨q0, q1⟩ := k0.two
 obtain ⟨q2, q3⟩ := k1.two
 go_enter Tryz.func120, Tryz.ntmps120
 go_wp2
 refine wp_obs 42 [[],[0],[],[2],[0,1,2,3],[0,1,2,3,4],[0,1,2,3,4,5],[0,1,2,3,4,5,6],[0,1,2,3,4,5],[0,1,2,3,4,5,8],[0,1,2,3,4,5,6,7,8,9],[0,1,2,3,4,5,6,7,8,9,10],[0,1,2,3,4,5,6,7,8,9,10,11],[0,1,2,3,4,5,6,7,8,9,10,11,12],[0,1,2,3,4,5,6,7,8,9,10,11,12,13],[0,1,2,3,4,5,6,7,8,9,10,11,12],[0,1,2,3,4,5,6,7,8,9,10,11,12,13,14,15],[0,1,2,3,4,5,6,7,8,9,10,11,12,13,14,15,16],[0,1,2,3,4,5,6,7,8,9,10,11,12,13,14,15,16,17],[0,1,2,3,4,5,6,7,8,9,10,11,12,13,14,15,16,17,18],[0,1,2,3,4,5,6,7,8,9,10,11,12,13,14,15,16,17,18,19],[0,1,2,3,4,5,6,7,8,9,10,11,12,13,14,15,16,17,18,19,20],[0,1,2,3,4,5,6,7,8,9,10,11,12,13,14,15,16,17,18,19],[0,1,2,3,4,5,6,7,8,9,10,11,12,13,14,15,16,17,18,19,22],[0,1,2,3,4,5,6,7,8,9,10,11,12,13,14,15,16,17,18,19,20,21,22,23],[0,1,2,3,4,5,6,7,8,9,10,11,12,13,14,15,16,17,18,19,20,21,22,23,24],[0,1,2,3,4,5,6,7,8,9,10,11,12,13,14,15,16,17,18,19,20,21,22,23,24,25],[0,1,2,3,4,5,6,7,8,9,10,11,12,13,14,15,16,17,18,19,20,21,22,23,24,25,26],[0,1,2,3,4,5,6,7,8,9,10,11,12,13,14,15,16,17,18,19,20,21,22,23,24,25,26,27],[0,1,2,3,4,5,6,7,8,9,10,11,12,13,14,15,16,17,18,19,20,21,22,23,24,25,26,27,28],[0,1,2,3,4,5,6,7,8,9,10,11,12,13,14,15,16,17,18,19,20,21,22,23,24,25,26,27,28,29],[0,1,2,3,4,5,6,7,8,9,10,11,12,13,14,15,16,17,18,19,20,21,22,23,24,25,26],[0,1,2,3,4,5,6,7,8,9,10,11,12,13,14,15,16,17,18,19,20,21,22,23,24,25,26,31],[0,1,2,3,4,5,6,7,8,9,10,11,12,13,14,15,16,17,18,19,20,21,22,23,24,25,26,27,28,29,30,31,32],[0,1,2,3,4,5,6,7,8,9,10,11,12,13,14,15,16,17,18,19,20,21,22,23,24,25,26,27,28,29,30,31,32,33],[0,1,2,3,4,5,6,7,8,9,10,11,12,13,14,15,16,17,18,19,20,21,22,23,24,25,26,27,28,29,30,31,32,33,34],[0,1,2,3,4,5,6,7,8,9,10,11,12,13,14,15,16,17,18,19,20,21,22,23,24,25,26,27,28,29,30,31,32,33,34,35],[0,1,2,3,4,5,6,7,8,9,10,11,12,13,14,15,16,17,18,19,20,21,22,23,24,25,26,27,28,29,30,31,32,33,34,35,36],[0,1,2,3,4,5,6,7,8,9,10,11,12,13,14,15,16,17,18,19,20,21,22,23,24,25,26,27,28,29,30,31,32,33,34,35],[0,1,2,3,4,5,6,7,8,9,10,11,12,13,14,15,16,17,18,19,20,21,22,23,24,25,26,27,28,29,30,31,32,33,34,35,36,37,38],[0,1,2,3,4,5,6,7,8,9,10,11,12,13,14,15,16,17,18,19,20,21,22,23,24,25,26,27,28,29,30,31,32,33,34,35,36,37,38,39],[0,1,2,3,4,5,6,7,8,9,10,11,12,13,14,15,16,17,18,19,20,21,22,23,24,25,26,27,28,29,30,31,32,33,34,35,36,37,38,39,40]] [VIs (.pointer (some ⟨w.heap.size, 0, none⟩)), VIs (.int .i64 (P)), VIs (.pointer (some ⟨w.heap.size + 1, 0, none⟩)), VIs (.int .i64 (P)), VIs (.bool false), VIs (.bool false), VIs (.agg #[.int .i64 P, .slice A r c]), VIs (.int .i64 (r)), VIs (.agg #[.int .i64 P, .slice A r c]), VIs (.int .i64 (r)), VIs (.bool false), VIs (.bool false), VIs (.bool false), VIs (.agg #[.int .i64 P, .slice A r c]), VIs (.int .i64 (P)), VIs (.slice (some ⟨g, o, none⟩) r d), VIs (.bool true), VIs (.bool false), VIs (.bool false), VIs (.bool false), VIs (.slice (some ⟨g, o, none⟩) r d), VIs (.int .i64 (r)), VIs (.agg #[.int .i64 P, .slice A r c]), VIs (.int .i64 (r)), VIs (.bool false), VIs (.bool false), VIs (.bool false), VIs (.slice (some ⟨g, o, none⟩) r d), VIs (.pointer (some ⟨g, o, none⟩)), VIs (.slice A0 m c0), VIs (.int .i64 (m)), VIs (.agg #[.int .i64 P, .slice A r c]), VIs (.int .i64 (r)), VIs (.bool true), VIs (.bool true), VIs (.bool true), VIs undef, VIs undef, VIs undef, VIs undef, VIs undef, VIs (.bool true)] (fun w' => w'.cell? ⟨g, o, none⟩ = some (.slice A0 m c0) ∧ Blk w' w.heap.size 26 #[.int .i64 P, .slice A r c] ∧ Blk w' (w.heap.size + 1) 26 #[.int .i64 P, .slice A r c] ∧ Below w.heap.size w w') (by kernel_rfl) (by kernel_rfl) (fun _ _ h hb => ⟨(hb.cell (World.block_lt_of_cell? _ _ h.1)).trans h.1, h.2.1.below hb h.2.1.lt, h.2.2.1.below hb h.2.2.1.lt, h.2.2.2.trans (hb.mono h.2.2.2.size)⟩) (⟨hc0, k0.drew, k1.drew, hB0.drew⟩) (fun x => ?_)
 refine zS (fun w' hS hV K hK => ?_) ?_
 · have q9 := hS.1; obtain ⟨q0, q1⟩ := hS.2.1.two; obtain ⟨q2, q3⟩ := hS.2.2.1.two; go_simp; exact zO hK
 refine zS (fun w' hS hV K hK => ?_) ?_
 · have e0 := zQ hV 0; have q9 := hS.1; obtain ⟨q0, q1⟩ := hS.2.1.two; obtain ⟨q2, q3⟩ := hS.2.2.1.two; go_simp; exact zO hK
 refine zS (fun w' hS hV K hK => ?_) ?_
 · have q9 := hS.1; obtain ⟨q0, q1⟩ := hS.2.1.two; obtain ⟨q2, q3⟩ := hS.2.2.1.two; go_simp; exact zO hK
 refine zS (fun w' hS hV K hK => ?_) ?_
 · have e2 := zQ hV 2; have q9 := hS.1; obtain ⟨q0, q1⟩ := hS.2.1.two; obtain ⟨q2, q3⟩ := hS.2.2.1.two; go_simp; exact zO hK
 refine zS (fun w' hS hV K hK => ?_) ?_
 · have e1 := zQ hV 1; have e3 := zQ hV 3; have q9 := hS.1; obtain ⟨q0, q1⟩ := hS.2.1.two; obtain ⟨q2, q3⟩ := hS.2.2.1.two; go_simp; exact zO hK
 refine zS (fun w' hS hV K hK => ?_) ?_
 · have e4 := zQ hV 4; have q9 := hS.1; obtain ⟨q0, q1⟩ := hS.2.1.two; obtain ⟨q2, q3⟩ := hS.2.2.1.two; go_simp; exact zO hK
 refine zS (fun w' hS hV K hK => ?_) ?_
 · have e5 := zQ hV 5; have q9 := hS.1; obtain ⟨q0, q1⟩ := hS.2.1.two; obtain ⟨q2, q3⟩ := hS.2.2.1.two; go_simp; exact zO hK
 refine zS (fun w' hS hV K hK => ?_) ?_
 · have e5 := zQ hV 5; have e6 := zQ hV 6; have q9 := hS.1; obtain ⟨q0, q1⟩ := hS.2.1.two; obtain ⟨q2, q3⟩ := hS.2.2.1.two; go_simp; refine (dim_any _ _ _ _ _).mono ?_; rintro e v1 ⟨rfl, hb⟩; exact hK.out _ _ _ rfl rfl rfl hb
 refine zS (fun w' hS hV K hK => ?_) ?_
 · have e5 := zQ hV 5; have q9 := hS.1; obtain ⟨q0, q1⟩ := hS.2.1.two; obtain ⟨q2, q3⟩ := hS.2.2.1.two; go_simp; exact zO hK
 refine zS (fun w' hS hV K hK => ?_) ?_
 · have e5 := zQ hV 5; have e8 := zQ hV 8; have q9 := hS.1; obtain ⟨q0, q1⟩ := hS.2.1.two; obtain ⟨q2, q3⟩ := hS.2.2.1.two; go_simp; refine (dim_any _ _ _ _ _).mono ?_; rintro e v1 ⟨rfl, hb⟩; exact hK.out _ _ _ rfl rfl rfl hb
 refine zS (fun w' hS hV K hK => ?_) ?_
 · have e5 := zQ hV 5; have e7 := zQ hV 7; have e9 := zQ hV 9; have q9 := hS.1; obtain ⟨q0, q1⟩ := hS.2.1.two; obtain ⟨q2, q3⟩ := hS.2.2.1.two; go_simp; exact zO hK
 refine zS (fun w' hS hV K hK => ?_) ?_
 · have e5 := zQ hV 5; have e10 := zQ hV 10; have q9 := hS.1; obtain ⟨q0, q1⟩ := hS.2.1.two; obtain ⟨q2, q3⟩ := hS.2.2.1.two; go_simp; exact zO hK
 refine zS (fun w' hS hV K hK => ?_) ?_
 · have e11 := zQ hV 11; have q9 := hS.1; obtain ⟨q0, q1⟩ := hS.2.1.two; obtain ⟨q2, q3⟩ := hS.2.2.1.two; go_simp; exact zO hK
 refine zS (fun w' hS hV K hK => ?_) ?_
 · have e12 := zQ hV 12; have q9 := hS.1; obtain ⟨q0, q1⟩ := hS.2.1.two; obtain ⟨q2, q3⟩ := hS.2.2.1.two; go_simp; exact zO hK
 refine zS (fun w' hS hV K hK => ?_) ?_
 · have e12 := zQ hV 12; have e13 := zQ hV 13; have q9 := hS.1; obtain ⟨q0, q1⟩ := hS.2.1.two; obtain ⟨q2, q3⟩ := hS.2.2.1.two; go_simp; refine (field_any _ _ _ _ _).mono ?_; rintro e v1 ⟨rfl, hb⟩; exact hK.out _ _ _ rfl rfl rfl hb
 refine zS (fun w' hS hV K hK => ?_) ?_
 · have e12 := zQ hV 12; have q9 := hS.1; obtain ⟨q0, q1⟩ := hS.2.1.two; obtain ⟨q2, q3⟩ := hS.2.2.1.two; go_simp; exact zO hK
 refine zS (fun w' hS hV K hK => ?_) ?_
 · have e12 := zQ hV 12; have e14 := zQ hV 14; have e15 := zQ hV 15; have q9 := hS.1; obtain ⟨q0, q1⟩ := hS.2.1.two; obtain ⟨q2, q3⟩ := hS.2.2.1.two; go_simp; refine (HIM.out _ hS.2.2.2).mono ?_; rintro e v1 ⟨rfl, rfl⟩; exact zO hK
 refine zS (fun w' hS hV K hK => ?_) ?_
 · have e12 := zQ hV 12; have e16 := zQ hV 16; have q9 := hS.1; obtain ⟨q0, q1⟩ := hS.2.1.two; obtain ⟨q2, q3⟩ := hS.2.2.1.two; go_simp; exact zO hK
 refine zS (fun w' hS hV K hK => ?_) ?_
 · have e12 := zQ hV 12; have e17 := zQ hV 17; have q9 := hS.1; obtain ⟨q0, q1⟩ := hS.2.1.two; obtain ⟨q2, q3⟩ := hS.2.2.1.two; go_simp; exact zO hK
 refine zS (fun w' hS hV K hK => ?_) ?_
 · have e18 := zQ hV 18; have q9 := hS.1; obtain ⟨q0, q1⟩ := hS.2.1.two; obtain ⟨q2, q3⟩ := hS.2.2.1.two; go_simp; exact zO hK
 refine zS (fun w' hS hV K hK => ?_) ?_
 · have e19 := zQ hV 19; have q9 := hS.1; obtain ⟨q0, q1⟩ := hS.2.1.two; obtain ⟨q2, q3⟩ := hS.2.2.1.two; go_simp; exact zO hK
 refine zS (fun w' hS hV K hK => ?_) ?_
 · have e19 := zQ hV 19; have e20 := zQ hV 20; have q9 := hS.1; obtain ⟨q0, q1⟩ := hS.2.1.two; obtain ⟨q2, q3⟩ := hS.2.2.1.two; go_simp; exact zO hK
 refine zS (fun w' hS hV K hK => ?_) ?_
 · have e19 := zQ hV 19; have q9 := hS.1; obtain ⟨q0, q1⟩ := hS.2.1.two; obtain ⟨q2, q3⟩ := hS.2.2.1.two; go_simp; exact zO hK
 refine zS (fun w' hS hV K hK => ?_) ?_
 · have e19 := zQ hV 19; have e22 := zQ hV 22; have q9 := hS.1; obtain ⟨q0, q1⟩ := hS.2.1.two; obtain ⟨q2, q3⟩ := hS.2.2.1.two; go_simp; refine (dim_any _ _ _ _ _).mono ?_; rintro e v1 ⟨rfl, hb⟩; exact hK.out _ _ _ rfl rfl rfl hb
 refine zS (fun w' hS hV K hK => ?_) ?_
 · have e19 := zQ hV 19; have e21 := zQ hV 21; have e23 := zQ hV 23; have q9 := hS.1; obtain ⟨q0, q1⟩ := hS.2.1.two; obtain ⟨q2, q3⟩ := hS.2.2.1.two; go_simp; exact zO hK
 refine zS (fun w' hS hV K hK => ?_) ?_
 · have e19 := zQ hV 19; have e24 := zQ hV 24; have q9 := hS.1; obtain ⟨q0, q1⟩ := hS.2.1.two; obtain ⟨q2, q3⟩ := hS.2.2.1.two; go_simp; exact zO hK
 refine zS (fun w' hS hV K hK => ?_) ?_
 · have e25 := zQ hV 25; have q9 := hS.1; obtain ⟨q0, q1⟩ := hS.2.1.two; obtain ⟨q2, q3⟩ := hS.2.2.1.two; go_simp; exact zO hK
 refine zS (fun w' hS hV K hK => ?_) ?_
 · have e26 := zQ hV 26; have q9 := hS.1; obtain ⟨q0, q1⟩ := hS.2.1.two; obtain ⟨q2, q3⟩ := hS.2.2.1.two; go_simp; exact zO hK
 refine zS (fun w' hS hV K hK => ?_) ?_
 · have e26 := zQ hV 26; have e27 := zQ hV 27; have q9 := hS.1; obtain ⟨q0, q1⟩ := hS.2.1.two; obtain ⟨q2, q3⟩ := hS.2.2.1.two; go_simp; exact zO hK
 refine zS (fun w' hS hV K hK => ?_) ?_
 · have e26 := zQ hV 26; have e28 := zQ hV 28; have q9 := hS.1; obtain ⟨q0, q1⟩ := hS.2.1.two; obtain ⟨q2, q3⟩ := hS.2.2.1.two; go_simp; exact zO hK
 refine zS (fun w' hS hV K hK => ?_) ?_
 · have e26 := zQ hV 26; have e29 := zQ hV 29; have q9 := hS.1; obtain ⟨q0, q1⟩ := hS.2.1.two; obtain ⟨q2, q3⟩ := hS.2.2.1.two; go_simp; exact zO hK
 refine zS (fun w' hS hV K hK => ?_) ?_
 · have e26 := zQ hV 26; have q9 := hS.1; obtain ⟨q0, q1⟩ := hS.2.1.two; obtain ⟨q2, q3⟩ := hS.2.2.1.two; go_simp; exact zO hK
 refine zS (fun w' hS hV K hK => ?_) ?_
 · have e26 := zQ hV 26; have e31 := zQ hV 31; have q9 := hS.1; obtain ⟨q0, q1⟩ := hS.2.1.two; obtain ⟨q2, q3⟩ := hS.2.2.1.two; go_simp; refine (dim_any _ _ _ _ _).mono ?_; rintro e v1 ⟨rfl, hb⟩; exact hK.out _ _ _ rfl rfl rfl hb
 refine zS (fun w' hS hV K hK => ?_) ?_
 · have e26 := zQ hV 26; have e30 := zQ hV 30; have e32 := zQ hV 32; have q9 := hS.1; obtain ⟨q0, q1⟩ := hS.2.1.two; obtain ⟨q2, q3⟩ := hS.2.2.1.two; go_simp; exact zO hK
 refine zS (fun w' hS hV K hK => ?_) ?_
 · have e26 := zQ hV 26; have e33 := zQ hV 33; have q9 := hS.1; obtain ⟨q0, q1⟩ := hS.2.1.two; obtain ⟨q2, q3⟩ := hS.2.2.1.two; go_simp; exact zO hK
 refine zS (fun w' hS hV K hK => ?_) ?_
 · have e34 := zQ hV 34; have q9 := hS.1; obtain ⟨q0, q1⟩ := hS.2.1.two; obtain ⟨q2, q3⟩ := hS.2.2.1.two; go_simp; exact zO hK
 refine zS (fun w' hS hV K hK => ?_) ?_
 · have e35 := zQ hV 35; have q9 := hS.1; obtain ⟨q0, q1⟩ := hS.2.1.two; obtain ⟨q2, q3⟩ := hS.2.2.1.two; go_simp; exact zO hK
 refine zS (fun w' hS hV K hK => ?_) ?_
 · have e35 := zQ hV 35; have e36 := zQ hV 36; have q9 := hS.1; obtain ⟨q0, q1⟩ := hS.2.1.two; obtain ⟨q2, q3⟩ := hS.2.2.1.two; go_simp; exact zO hK
 refine zS (fun w' hS hV K hK => ?_) ?_
 · have e35 := zQ hV 35; have q9 := hS.1; obtain ⟨q0, q1⟩ := hS.2.1.two; obtain ⟨q2, q3⟩ := hS.2.2.1.two; go_simp; exact zO hK
 refine zS (fun w' hS hV K hK => ?_) ?_
 · have e35 := zQ hV 35; have e37 := zQ hV 37; have e38 := zQ hV 38; have q9 := hS.1; obtain ⟨q0, q1⟩ := hS.2.1.two; obtain ⟨q2, q3⟩ := hS.2.2.1.two; go_simp; exact zO hK
 refine zS (fun w' hS hV K hK => ?_) ?_
 · have e35 := zQ hV 35; have e39 := zQ hV 39; have q9 := hS.1; obtain ⟨q0, q1⟩ := hS.2.1.two; obtain ⟨q2, q3⟩ := hS.2.2.1.two; go_simp; exact zO hK
 refine zS (fun w' hS hV K hK => ?_) ?_
 · have e35 := zQ hV 35; have e40 := zQ hV 40; have q9 := hS.1; obtain ⟨q0, q1⟩ := hS.2.1.two; obtain ⟨q2, q3⟩ := hS.2.2.1.two; go_simp; exact zO hK
 refine fun w' hS hV => ?_
 have e0 := zT hV 0
 have e1 := zT hV 1
 have e2 := zT hV 2
 have e3 := zT hV 3
 have e4 := zT hV 4
 have e5 := zT hV 5
 have e6 := zT hV 6
 have e7 := zT hV 7
 have e8 := zT hV 8
 have e9 := zT hV 9
 have e10 := zT hV 10
 have e11 := zT hV 11
 have e12 := zT hV 12
 have e13 := zT hV 13
 have e14 := zT hV 14
 have e15 := zT hV 15
 have e16 := zT hV 16
 have e17 := zT hV 17
 have e18 := zT hV 18
 have e19 := zT hV 19
 have e20 := zT hV 20
 have e21 := zT hV 21
 have e22 := zT hV 22
 have e23 := zT hV 23
 have e24 := zT hV 24
 have e25 := zT hV 25
 have e26 := zT hV 26
 have e27 := zT hV 27
 have e28 := zT hV 28
 have e29 := zT hV 29
 have e30 := zT hV 30
 have e31 := zT hV 31
 have e32 := zT hV 32
 have e33 := zT hV 33
 have e34 := zT hV 34
 have e35 := zT hV 35
 have e36 := zT hV 36
 have e37 := zT hV 37
 have e38 := zT hV 38
 have e39 := zT hV 39
 have e40 := zT hV 40
 have e41 := zT hV 41
 simp only [e0, e1, e2, e3, e4, e5, e6, e7, e8, e9, e10, e11, e12, e13, e14, e15, e16, e17, e18, e19, e20, e21, e22, e23, e24, e25, e26, e27, e28, e29, e30, e31, e32, e33, e34, e35, e36, e37, e38, e39, e40, e41]
 clear e0 e1 e2 e3 e4 e5 e6 e7 e8 e9 e10 e11 e12 e13 e14 e15 e16 e17 e18 e19 e20 e21 e22 e23 e24 e25 e26 e27 e28 e29 e30 e31 e32 e33 e34 e35 e36 e37 e38 e39 e40 e41
 refine wpAny_done (by kernel_rfl) ?_ _
 have hb9 := hS.2.2.2
 go_wp2
 go_ret
 exact ⟨rfl, hb9⟩
set_option maxHeartbeats 3200000 in
set_option maxRecDepth 8000 in
theorem l03Isometry_0 (P : Int) (A : Option Addr) (n c : Nat) (sq : List Int) (D : Option Addr) (r d : Nat) (M : List (List Int)) (m : Nat) (w : World) (HP : isP P = true) (hr0 : 0 < r) (hr : r ≤ 16) (hm1 : 1 ≤ m) (hm : m ≤ 16) (hd : RdII w D r M) (hM : Rect m M) (h1 : r ≠ n) :
    Calls Tryz.prog 272 #[.agg #[.int .i64 P, .slice A n c], .agg #[.int .i64 P, .slice A n c], .slice D r d] w fun e w' => e = .returned (.bool false) ∧ Below w.heap.size w w' := by
 have t7 : (P != P) = false := by simp
 have t4 : ((r : Int) != (n : Int)) = true := by rw [bne_iff_ne]; omega
 have t6 : ((n : Int) != (n : Int)) = false := by simp
 have hB0 : Below w.heap.size w ((w.alloc (.cells #[.int .i64 P, .slice A n c] 26)).alloc (.cells #[.int .i64 P, .slice A n c] 26)) := (zG.alloc (Nat.le_refl _) _).alloc (by simp) _
 have k0 : Blk ((w.alloc (.cells #[.int .i64 P, .slice A n c] 26)).alloc (.cells #[.int .i64 P, .slice A n c] 26)) w.heap.size 26 #[.int .i64 P, .slice A n c] := (Blk.new _ _ _).alloc _
 have k1 : Blk ((w.alloc (.cells #[.int .i64 P, .slice A n c] 26)).alloc (.cells #[.int .i64 P, .slice A n c] 26)) (w.heap.size + 1) 26 #[.int .i64 P, .slice A n c] := Blk.newAt3 (by simp)
 have HIM := Lib.hid fun w' (h : Below w.heap.size w w') => l02Is_any P D r d M m w' HP hr0 hr hm1 hm (hd.below h) hM

 have HR := Lib.hid hM
 clear hM  HP
 obtain ⟨q0, q1⟩ := k0.two
 obtain ⟨q2, q3⟩ := k1.two
 go_enter Tryz.func272, Tryz.ntmps272
 go_wp2


 go_ret
 exact ⟨rfl, hB0⟩
set_option maxHeartbeats 3200000 in
set_option maxRecDepth 8000 in
theorem l03Isometry_1 (P : Int) (A : Option Addr) (n c : Nat) (sq : List Int) (D : Option Addr) (r d : Nat) (M : List (List Int)) (m : Nat) (w : World) (HP : isP P = true) (hr0 : 0 < r) (hr : r ≤ 16) (hm1 : 1 ≤ m) (hm : m ≤ 16) (hd : RdII w D r M) (hM : Rect m M) (h1 : r = n) (hb : (M.all fun r => nums P r) = false) :
    Calls Tryz.prog 272 #[.agg #[.int .i64 P, .slice A n c], .agg #[.int .i64 P, .slice A n c], .slice D r d] w fun e w' => e = .returned (.bool false) ∧ Below w.heap.size w w' := by
 have t7 : (P != P) = false := by simp
 subst h1
 have t4 : ((r : Int) != (r : Int)) = false := by simp
 have hB0 : Below w.heap.size w ((w.alloc (.cells #[.int .i64 P, .slice A r c] 26)).alloc (.cells #[.int .i64 P, .slice A r c] 26)) := (zG.alloc (Nat.le_refl _) _).alloc (by simp) _
 have k0 : Blk ((w.alloc (.cells #[.int .i64 P, .slice A r c] 26)).alloc (.cells #[.int .i64 P, .slice A r c] 26)) w.heap.size 26 #[.int .i64 P, .slice A r c] := (Blk.new _ _ _).alloc _
 have k1 : Blk ((w.alloc (.cells #[.int .i64 P, .slice A r c] 26)).alloc (.cells #[.int .i64 P, .slice A r c] 26)) (w.heap.size + 1) 26 #[.int .i64 P, .slice A r c] := Blk.newAt3 (by simp)
 have HIM := Lib.hid fun w' (h : Below w.heap.size w w') => l02Is_any P D r d M m w' HP hr0 hr hm1 hm (hd.below h) hM
 rw [hb] at HIM
 have HR := Lib.hid hM
 clear hM hb HP
 obtain ⟨q0, q1⟩ := k0.two
 obtain ⟨q2, q3⟩ := k1.two
 go_enter Tryz.func272, Tryz.ntmps272
 go_wp2_with fail
 refine (HIM.out _ hB0).mono ?_
 rintro e w2 ⟨rfl, hb2⟩
 have hB2 := hB0.trans (hb2.mono hB0.size)
 obtain ⟨q4, q5⟩ := (k0.below hb2 k0.lt).two; obtain ⟨q6, q7⟩ := (k1.below hb2 k1.lt).two; clear q0 q1 q2 q3; go_wp2
 go_ret
 exact ⟨rfl, hB2⟩
set_option maxHeartbeats 3200000 in
set_option maxRecDepth 8000 in
theorem l03Isometry_2 (P : Int) (A : Option Addr) (n c : Nat) (sq : List Int) (D : Option Addr) (r d : Nat) (M : List (List Int)) (m : Nat) (w : World) (HP : isP P = true) (hr0 : 0 < r) (hr : r ≤ 16) (hm1 : 1 ≤ m) (hm : m ≤ 16) (hd : RdII w D r M) (hM : Rect m M) (hb : (M.all fun r => nums P r) = true) (h1 : r = n) (h2 : m ≠ n) :
    Calls Tryz.prog 272 #[.agg #[.int .i64 P, .slice A n c], .agg #[.int .i64 P, .slice A n c], .slice D r d] w fun e w' => e = .returned (.bool false) ∧ Below w.heap.size w w' := by
 have t7 : (P != P) = false := by simp
 subst h1
 have t4 : ((r : Int) != (r : Int)) = false := by simp
 have t5 : ((m : Int) != (r : Int)) = true := by rw [bne_iff_ne]; omega
 have hB0 : Below w.heap.size w ((w.alloc (.cells #[.int .i64 P, .slice A r c] 26)).alloc (.cells #[.int .i64 P, .slice A r c] 26)) := (zG.alloc (Nat.le_refl _) _).alloc (by simp) _
 have k0 : Blk ((w.alloc (.cells #[.int .i64 P, .slice A r c] 26)).alloc (.cells #[.int .i64 P, .slice A r c] 26)) w.heap.size 26 #[.int .i64 P, .slice A r c] := (Blk.new _ _ _).alloc _
 have k1 : Blk ((w.alloc (.cells #[.int .i64 P, .slice A r c] 26)).alloc (.cells #[.int .i64 P, .slice A r c] 26)) (w.heap.size + 1) 26 #[.int .i64 P, .slice A r c] := Blk.newAt3 (by simp)
 have HIM := Lib.hid fun w' (h : Below w.heap.size w w') => l02Is_any P D r d M m w' HP hr0 hr hm1 hm (hd.below h) hM
 rw [hb] at HIM
 have HR := Lib.hid hM
 clear hM hb HP
 obtain ⟨q0, q1⟩ := k0.two
 obtain ⟨q2, q3⟩ := k1.two
 go_enter Tryz.func272, Tryz.ntmps272
 go_wp2_with fail
 refine (HIM.out _ hB0).mono ?_
 rintro e w2 ⟨rfl, hb2⟩
 have hB2 := hB0.trans (hb2.mono hB0.size)
 obtain ⟨g, o, rfl, hx0, A0, c0, hc0, -, -⟩ := (hd.below hB2).at_ hr0
 rw [HR.out M[0] (List.getElem_mem hx0), Nat.add_zero] at hc0
 clear hd hx0
 obtain ⟨q4, q5⟩ := (k0.below hb2 k0.lt).two; obtain ⟨q6, q7⟩ := (k1.below hb2 k1.lt).two; clear q0 q1 q2 q3; go_wp2
 go_ret
 exact ⟨rfl, hB2⟩
set_option maxHeartbeats 6400000 in
set_option maxRecDepth 8000 in
theorem l03Isometry_sq (P : Int) (A : Option Addr) (n c : Nat) (sq : List Int) (D : Option Addr) (d : Nat) (M : List (List Int)) (w : World) (HP : isP P = true) (hn0 : 0 < n) (hn : n ≤ 6) (ha : Rd w A n (ints sq)) (hs : NumsL P sq) (hd : RdII w D n M) (hM : Tab P n M) :
    Calls Tryz.prog 272 #[.agg #[.int .i64 P, .slice A n c], .agg #[.int .i64 P, .slice A n c], .slice D n d] w fun e w' => e = .returned (.bool (isoB P sq M)) ∧ Below w.heap.size w w' := by
 have t7 : (P != P) = false := by simp
 have t6 : ((n : Int) != (n : Int)) = false := by simp
 have hB0 : Below w.heap.size w ((w.alloc (.cells #[.int .i64 P, .slice A n c] 26)).alloc (.cells #[.int .i64 P, .slice A n c] 26)) := (zG.alloc (Nat.le_refl _) _).alloc (by simp) _
 have k0 : Blk ((w.alloc (.cells #[.int .i64 P, .slice A n c] 26)).alloc (.cells #[.int .i64 P, .slice A n c] 26)) w.heap.size 26 #[.int .i64 P, .slice A n c] := (Blk.new _ _ _).alloc _
 have k1 : Blk ((w.alloc (.cells #[.int .i64 P, .slice A n c] 26)).alloc (.cells #[.int .i64 P, .slice A n c] 26)) (w.heap.size + 1) 26 #[.int .i64 P, .slice A n c] := Blk.newAt3 (by simp)
 obtain ⟨hp3, hp2⟩ := isP_ge HP
 have HTT : Hid (Tab P n (transL M) ∧ (transL M).length = n) := Lib.hid (trans_ok (by omega) hM (hd.len) hn0)
 have HM := Lib.hid hM
 have HSN := Lib.hid hs
 have HSL := Lib.hid ha.lenI
 have HFR : Hid (frB P sq.length M = true) := Lib.hid (frB_iff.2 ⟨hd.len.trans ha.lenI.symm, by rw [ha.lenI]; exact hM⟩)
 obtain ⟨R, hR⟩ : ∃ b, b = isoB P sq M := ⟨_, rfl⟩
 rw [← hR]
 have HR := Lib.hid hR
 obtain ⟨dd, hdd⟩ : ∃ x, x = detL P M := ⟨_, rfl⟩
 have HD := Lib.hid hdd
 have HIM := Lib.hid fun w' (h : Below w.heap.size w w') => l02Is_any P D n d M n w' HP hn0 (by omega) hn0 (by omega) (hd.below h) (Rect.of_tab hM)
 have hall : (M.all fun r => nums P r) = true := List.all_eq_true.2 fun r hr => numsL_nums (hM r hr).2
 rw [hall] at HIM
 have HDE := Lib.hid fun w' (h : Below w.heap.size w w') => l02Det_any P D n d M w' HP hn0 (by omega) (hd.below h) hM
 rw [← hdd] at HDE
 have HTP := Lib.hid fun w' (h : Below w.heap.size w w') => l02Turn_any P D n d M n w' hn0 (by omega) (by omega) (hd.below h) hM
 have HA := Lib.hid ha
 obtain ⟨b, hb0⟩ : ∃ b, b = (dd == 0) := ⟨_, rfl⟩
 have hb1 : (dd == 0) = b := hb0.symm
 have HB : Hid ((b = true → R = false) ∧ (b = false → detL P M ≠ 0)) := Lib.hid ⟨fun h => by rw [HR.out]; exact is_det (by rw [← hdd]; rw [h] at hb0; simpa using hb0.symm), fun h => by rw [← hdd]; rw [h] at hb0; simpa using hb0.symm⟩
 have HDD := Lib.hid hd
 clear hall hM hd hs ha hR hdd hb0 HP
 obtain ⟨q0, q1⟩ := k0.two
 obtain ⟨q2, q3⟩ := k1.two
 go_enter Tryz.func272, Tryz.ntmps272
 go_wp2_with fail
 refine (HIM.out _ hB0).mono ?_
 rintro e w2 ⟨rfl, hb2⟩
 have hB2 := hB0.trans (hb2.mono hB0.size)
 have k2 := k0.below hb2 k0.lt
 have l2 := k1.below hb2 k1.lt
 clear q0 q1 q2 q3 k0 k1 hB0
 obtain ⟨g, o, rfl, hx0, A0, c0, hc0, -, -⟩ := (HDD.out.below hB2).at_ hn0
 rw [(HM.out M[0] (List.getElem_mem hx0)).1, Nat.add_zero] at hc0
 clear hx0
 obtain ⟨q0, q1⟩ := k2.two
 obtain ⟨q2, q3⟩ := l2.two
 go_wp2_with fail
 refine (HDE.out _ hB2).mono ?_
 rintro e w3 ⟨rfl, hb3⟩
 have hB3 := hB2.trans (hb3.mono hB2.size)
 have k3 := k2.below hb3 k2.lt
 have l3 := l2.below hb3 l2.lt
 clear q0 q1 q2 q3 k2 l2 hB2 hc0
 cases b
 · have HDN := Lib.hid (HB.out.2 rfl)
   clear HB
   go_wp2_with fail
   refine (HTP.out w3 hB3).mono ?_
   rintro e w4 ⟨A4, c4, rfl, hM4⟩
   have k4 := k3.below hM4.b k3.lt
   have l4 := l3.below hM4.b l3.lt
   have hB4 := hB3.trans (hM4.b.mono hB3.size)
   have C4 := hM4.rd
   clear k3 l3 hB3 hM4 hb1
   go_wp2
   go_loopw [9] (fun i wr => ∃ j : Nat, j ≤ n ∧ i = .int .i64 j ∧ Below w4.heap.size w4 wr ∧ Hid (isTo P sq M (fun a => a + 1) j 0)) (fun i _ => n - (intOf i).toNat)
   case atStart => exact ⟨0, by omega, rfl, Below.refl _ _, Lib.hid ⟨fun a ha => absurd ha (by omega), fun b hb => absurd hb (by omega)⟩⟩
   case round =>
    obtain ⟨i, hi, rfl, hbr, HI⟩ := hrel
    by_cases hlt : i < n
    · obtain ⟨gc, oc, rfl, hxi, Ai, ci, hci4, hri, -⟩ := C4.at_ hlt
      have ht := HTT.out.1 _ (List.getElem_mem hxi)
      have li := ht.1
      rw [li] at hci4 hri
      have HNI := Lib.hid ht.2
      have HGI : Hid ((transL M).getD i [] = (transL M)[i]) := Lib.hid (getD_of_lt [] hxi)
      obtain ⟨vi, hvi⟩ : ∃ v, v = (transL M)[i] := ⟨_, rfl⟩
      rw [← hvi] at hri HNI HGI
      have HCI := Lib.hid hci4
      clear hvi ht li hxi hci4
      obtain ⟨si, hsi⟩ : ∃ s, s = sq.getD i 0 := ⟨_, rfl⟩
      have HSI := Lib.hid hsi
      obtain ⟨ga, oa, eA, hxa, hca⟩ := HA.out.int hlt
      have hsv : sq[i] = si := by rw [hsi, getD_of_lt 0 hxa]
      rw [hsv] at hca
      have EA := Lib.hid eA
      have HCA := Lib.hid hca
      clear hsi hsv hxa eA hca
      go_wp2
      go_loopw [10] (fun k wr => ∃ j : Nat, j ≤ i + 1 ∧ k = .int .i64 j ∧ Below w4.heap.size w4 wr ∧ Hid (isTo P sq M (fun a => a + 1) i j)) (fun k _ => n + 1 - (intOf k).toNat)
      case atStart => exact ⟨0, by omega, rfl, hbr, HI⟩
      case round =>
       obtain ⟨k, hk, rfl, hbw, HK⟩ := hrel
       clear hbr
       by_cases hkt : k ≤ i
       · have hkn : k < n := by omega
         obtain ⟨gc', oc', e9, hxk, Ak, ck, hck, hrk, -⟩ := (C4.below hbw).at_ (show k < n by omega)
         cases e9
         have hci := (hbw.cell (World.block_lt_of_cell? _ _ HCI.out)).trans HCI.out
         have ht := HTT.out.1 _ (List.getElem_mem hxk)
         have lk := ht.1
         rw [lk] at hck hrk
         have HNK := Lib.hid ht.2
         have HGK : Hid ((transL M).getD k [] = (transL M)[k]) := Lib.hid (getD_of_lt [] hxk)
         obtain ⟨vk, hvk⟩ : ∃ v, v = (transL M)[k] := ⟨_, rfl⟩
         rw [← hvk] at hrk HNK HGK
         clear hvk ht lk hxk
         have hB5 := hB4.trans (hbw.mono hB4.size)
         have k5 := k4.below hbw k4.lt
         have l5 := l4.below hbw l4.lt
         have HPR := Lib.hid fun (w' : World) (h : Below wr.heap.size wr w') => l03Pair_any P A n c sq Ai ci vi Ak ck vk w' (by omega) hp2 hn ((HA.out.below hB5).below h) HSN.out ((hri.below hbw).below h) HNI.out (hrk.below h) HNK.out
         have HZZ : Hid (pairL P sq vi vk = colP P sq M i k) := Lib.hid (by unfold colP; rw [HGI.out, HGK.out])
         obtain ⟨z, hz⟩ : ∃ z, z = pairL P sq vi vk := ⟨_, rfl⟩
         rw [← hz] at HPR HZZ
         have hca5 : wr.cell? ⟨ga, oa + i, none⟩ = some (.int .i64 si) := (hB5.cell (World.block_lt_of_cell? _ _ HCA.out)).trans HCA.out
         clear hz hrk
         obtain ⟨q0, q1⟩ := k5.two
         obtain ⟨q2, q3⟩ := l5.two
         by_cases hik : i = k
         · subst hik
           have eA := EA.out
           subst eA
           have e5 := hci.symm.trans hck
           injection e5 with e5
           injection e5 with e5 _ e6
           subst e5
           subst e6
           obtain ⟨t, ht0⟩ : ∃ t, t = (z != si) := ⟨_, rfl⟩
           have ht1 : (z != si) = t := ht0.symm
           have HZ : Hid ((t = true → R = false) ∧ (t = false → isTo P sq M (fun a => a + 1) i (i + 1))) := Lib.hid ⟨fun h => by rw [HR.out]; exact is_stop (i := i) (k := i) (by rw [HSL.out]; exact hlt) (by rw [HSL.out]; omega) (by rw [← HZZ.out]; unfold colW; rw [if_pos rfl, ← HSI.out]; rw [h] at ht0; simpa using ht0.symm), fun h => HK.out.next (by rw [← HZZ.out]; unfold colW; rw [if_pos rfl, ← HSI.out]; rw [h] at ht0; simpa using ht0.symm)⟩
           have t9 : ((i : Int) == (i : Int)) = true := by simp
           clear ht0
           go_wp2
           refine wp_obs 12 [[],[],[],[1,2],[1,2,3],[],[],[5,6],[5,6,7],[0,1,2,3,4,5,6,7,8],[],[0,1,2,3,4,5,6,7,8,9,10]] [VIs (.agg #[.int .i64 P, .slice (some ⟨ga, oa, none⟩) n c]), VIs (.slice (some ⟨gc, oc, none⟩) n c4), VIs (.int .i64 (i)), VIs (.pointer (some ⟨gc, oc + i, none⟩)), VIs (.slice Ai n ci), VIs (.slice (some ⟨gc, oc, none⟩) n c4), VIs (.int .i64 (i)), VIs (.pointer (some ⟨gc, oc + i, none⟩)), VIs (.slice Ai n ci), VIs (.int .i64 (z)), VIs (.int .i64 (si)), VIs (.bool t)] (fun w' => w'.cell? ⟨gc, oc + i, none⟩ = some (.slice Ai n ci) ∧ w'.cell? ⟨gc, oc + i, none⟩ = some (.slice Ai n ci) ∧ Blk w' (w.heap.size + 1) 26 #[.int .i64 P, .slice (some ⟨ga, oa, none⟩) n c] ∧ Below wr.heap.size wr w') (by kernel_rfl) (by kernel_rfl) (fun _ _ h hb => ⟨(hb.cell (World.block_lt_of_cell? _ _ h.1)).trans h.1, (hb.cell (World.block_lt_of_cell? _ _ h.2.1)).trans h.2.1, h.2.2.1.below hb h.2.2.1.lt, h.2.2.2.trans (hb.mono h.2.2.2.size)⟩) (⟨hci, hci, l5.drew, zG.drew⟩) (fun x => ?_)
           refine zS (fun w' hS hV K hK => ?_) ?_
           · have q4 := hS.1; have q5 := hS.2.1; obtain ⟨q2, q3⟩ := hS.2.2.1.two; go_simp; exact zO hK
           refine zS (fun w' hS hV K hK => ?_) ?_
           · have q4 := hS.1; have q5 := hS.2.1; obtain ⟨q2, q3⟩ := hS.2.2.1.two; go_simp; exact zO hK
           refine zS (fun w' hS hV K hK => ?_) ?_
           · have q4 := hS.1; have q5 := hS.2.1; obtain ⟨q2, q3⟩ := hS.2.2.1.two; go_simp; exact zO hK
           refine zS (fun w' hS hV K hK => ?_) ?_
           · have e1 := zQ hV 1; have e2 := zQ hV 2; have q4 := hS.1; have q5 := hS.2.1; obtain ⟨q2, q3⟩ := hS.2.2.1.two; go_simp; exact zO hK
           refine zS (fun w' hS hV K hK => ?_) ?_
           · have e3 := zQ hV 3; have q4 := hS.1; have q5 := hS.2.1; obtain ⟨q2, q3⟩ := hS.2.2.1.two; go_simp; exact zO hK
           refine zS (fun w' hS hV K hK => ?_) ?_
           · have q4 := hS.1; have q5 := hS.2.1; obtain ⟨q2, q3⟩ := hS.2.2.1.two; go_simp; exact zO hK
           refine zS (fun w' hS hV K hK => ?_) ?_
           · have q4 := hS.1; have q5 := hS.2.1; obtain ⟨q2, q3⟩ := hS.2.2.1.two; go_simp; exact zO hK
           refine zS (fun w' hS hV K hK => ?_) ?_
           · have e5 := zQ hV 5; have e6 := zQ hV 6; have q4 := hS.1; have q5 := hS.2.1; obtain ⟨q2, q3⟩ := hS.2.2.1.two; go_simp; exact zO hK
           refine zS (fun w' hS hV K hK => ?_) ?_
           · have e7 := zQ hV 7; have q4 := hS.1; have q5 := hS.2.1; obtain ⟨q2, q3⟩ := hS.2.2.1.two; go_simp; exact zO hK
           refine zS (fun w' hS hV K hK => ?_) ?_
           · have e0 := zQ hV 0; have e4 := zQ hV 4; have e8 := zQ hV 8; have q4 := hS.1; have q5 := hS.2.1; obtain ⟨q2, q3⟩ := hS.2.2.1.two; go_simp; refine (HPR.out _ hS.2.2.2).mono ?_; rintro e v1 ⟨rfl, hb⟩; exact hK.out _ _ _ rfl rfl rfl hb
           refine zS (fun w' hS hV K hK => ?_) ?_
           · have q4 := hS.1; have q5 := hS.2.1; obtain ⟨q2, q3⟩ := hS.2.2.1.two; go_simp; exact zO hK
           refine zS (fun w' hS hV K hK => ?_) ?_
           · have e9 := zQ hV 9; have e10 := zQ hV 10; have q4 := hS.1; have q5 := hS.2.1; obtain ⟨q2, q3⟩ := hS.2.2.1.two; go_simp; exact zO hK
           refine fun w' hS hV => ?_
           have e0 := zT hV 0
           have e1 := zT hV 1
           have e2 := zT hV 2
           have e3 := zT hV 3
           have e4 := zT hV 4
           have e5 := zT hV 5
           have e6 := zT hV 6
           have e7 := zT hV 7
           have e8 := zT hV 8
           have e9 := zT hV 9
           have e10 := zT hV 10
           have e11 := zT hV 11
           simp only [e0, e1, e2, e3, e4, e5, e6, e7, e8, e9, e10, e11]
           clear e0 e1 e2 e3 e4 e5 e6 e7 e8 e9 e10 e11
           refine wpAny_done (by kernel_rfl) ?_ _
           have hB6 := hS.2.2.2
           clear hS hci hck l5 k5 q0 q1 q2 q3 ht1 t9
           cases t
           · have HZ1 := Lib.hid (HZ.out.2 rfl)
             clear HZ
             go_wp2
             go_roundw
             case rel => exact ⟨i + 1, by omega, by go_num, hbw.trans (hB6.mono hbw.size), HZ1⟩
             case measure => simp [intOf]; omega
           · obtain rfl : R = false := HZ.out.1 rfl
             clear HZ
             go_wp2
             go_ret
             exact ⟨rfl, hB5.trans (hB6.mono hB5.size)⟩
         · obtain ⟨t, ht0⟩ : ∃ t, t = (z != 0) := ⟨_, rfl⟩
           have ht1 : (z != 0) = t := ht0.symm
           have HZ : Hid ((t = true → R = false) ∧ (t = false → isTo P sq M (fun a => a + 1) i (k + 1))) := Lib.hid ⟨fun h => by rw [HR.out]; exact is_stop (i := i) (k := k) (by rw [HSL.out]; exact hlt) (by rw [HSL.out]; omega) (by rw [← HZZ.out]; unfold colW; rw [if_neg hik]; rw [h] at ht0; simpa using ht0.symm), fun h => HK.out.next (by rw [← HZZ.out]; unfold colW; rw [if_neg hik]; rw [h] at ht0; simpa using ht0.symm)⟩
           have t9 : ((i : Int) == (k : Int)) = false := by rw [beq_eq_false_iff_ne]; omega
           clear ht0 hik
           go_wp2
           refine wp_obs 12 [[],[],[],[1,2],[1,2,3],[],[],[5,6],[5,6,7],[0,1,2,3,4,5,6,7,8],[],[0,1,2,3,4,5,6,7,8,9,10]] [VIs (.agg #[.int .i64 P, .slice A n c]), VIs (.slice (some ⟨gc, oc, none⟩) n c4), VIs (.int .i64 (i)), VIs (.pointer (some ⟨gc, oc + i, none⟩)), VIs (.slice Ai n ci), VIs (.slice (some ⟨gc, oc, none⟩) n c4), VIs (.int .i64 (k)), VIs (.pointer (some ⟨gc, oc + k, none⟩)), VIs (.slice Ak n ck), VIs (.int .i64 (z)), VIs (.int .i64 (0)), VIs (.bool t)] (fun w' => w'.cell? ⟨gc, oc + i, none⟩ = some (.slice Ai n ci) ∧ w'.cell? ⟨gc, oc + k, none⟩ = some (.slice Ak n ck) ∧ Blk w' (w.heap.size + 1) 26 #[.int .i64 P, .slice A n c] ∧ Below wr.heap.size wr w') (by kernel_rfl) (by kernel_rfl) (fun _ _ h hb => ⟨(hb.cell (World.block_lt_of_cell? _ _ h.1)).trans h.1, (hb.cell (World.block_lt_of_cell? _ _ h.2.1)).trans h.2.1, h.2.2.1.below hb h.2.2.1.lt, h.2.2.2.trans (hb.mono h.2.2.2.size)⟩) (⟨hci, hck, l5.drew, zG.drew⟩) (fun x => ?_)
           refine zS (fun w' hS hV K hK => ?_) ?_
           · have q4 := hS.1; have q5 := hS.2.1; obtain ⟨q2, q3⟩ := hS.2.2.1.two; go_simp; exact zO hK
           refine zS (fun w' hS hV K hK => ?_) ?_
           · have q4 := hS.1; have q5 := hS.2.1; obtain ⟨q2, q3⟩ := hS.2.2.1.two; go_simp; exact zO hK
           refine zS (fun w' hS hV K hK => ?_) ?_
           · have q4 := hS.1; have q5 := hS.2.1; obtain ⟨q2, q3⟩ := hS.2.2.1.two; go_simp; exact zO hK
           refine zS (fun w' hS hV K hK => ?_) ?_
           · have e1 := zQ hV 1; have e2 := zQ hV 2; have q4 := hS.1; have q5 := hS.2.1; obtain ⟨q2, q3⟩ := hS.2.2.1.two; go_simp; exact zO hK
           refine zS (fun w' hS hV K hK => ?_) ?_
           · have e3 := zQ hV 3; have q4 := hS.1; have q5 := hS.2.1; obtain ⟨q2, q3⟩ := hS.2.2.1.two; go_simp; exact zO hK
           refine zS (fun w' hS hV K hK => ?_) ?_
           · have q4 := hS.1; have q5 := hS.2.1; obtain ⟨q2, q3⟩ := hS.2.2.1.two; go_simp; exact zO hK
           refine zS (fun w' hS hV K hK => ?_) ?_
           · have q4 := hS.1; have q5 := hS.2.1; obtain ⟨q2, q3⟩ := hS.2.2.1.two; go_simp; exact zO hK
           refine zS (fun w' hS hV K hK => ?_) ?_
           · have e5 := zQ hV 5; have e6 := zQ hV 6; have q4 := hS.1; have q5 := hS.2.1; obtain ⟨q2, q3⟩ := hS.2.2.1.two; go_simp; exact zO hK
           refine zS (fun w' hS hV K hK => ?_) ?_
           · have e7 := zQ hV 7; have q4 := hS.1; have q5 := hS.2.1; obtain ⟨q2, q3⟩ := hS.2.2.1.two; go_simp; exact zO hK
           refine zS (fun w' hS hV K hK => ?_) ?_
           · have e0 := zQ hV 0; have e4 := zQ hV 4; have e8 := zQ hV 8; have q4 := hS.1; have q5 := hS.2.1; obtain ⟨q2, q3⟩ := hS.2.2.1.two; go_simp; refine (HPR.out _ hS.2.2.2).mono ?_; rintro e v1 ⟨rfl, hb⟩; exact hK.out _ _ _ rfl rfl rfl hb
           refine zS (fun w' hS hV K hK => ?_) ?_
           · have q4 := hS.1; have q5 := hS.2.1; obtain ⟨q2, q3⟩ := hS.2.2.1.two; go_simp; exact zO hK
           refine zS (fun w' hS hV K hK => ?_) ?_
           · have e9 := zQ hV 9; have e10 := zQ hV 10; have q4 := hS.1; have q5 := hS.2.1; obtain ⟨q2, q3⟩ := hS.2.2.1.two; go_simp; exact zO hK
           refine fun w' hS hV => ?_
           have e0 := zT hV 0
           have e1 := zT hV 1
           have e2 := zT hV 2
           have e3 := zT hV 3
           have e4 := zT hV 4
           have e5 := zT hV 5
           have e6 := zT hV 6
           have e7 := zT hV 7
           have e8 := zT hV 8
           have e9 := zT hV 9
           have e10 := zT hV 10
           have e11 := zT hV 11
           simp only [e0, e1, e2, e3, e4, e5, e6, e7, e8, e9, e10, e11]
           clear e0 e1 e2 e3 e4 e5 e6 e7 e8 e9 e10 e11
           refine wpAny_done (by kernel_rfl) ?_ _
           have hB6 := hS.2.2.2
           clear hS hci hck l5 k5 q0 q1 q2 q3 ht1 t9
           cases t
           · have HZ1 := Lib.hid (HZ.out.2 rfl)
             clear HZ
             go_wp2
             go_roundw
             case rel => exact ⟨k + 1, by omega, by go_num, hbw.trans (hB6.mono hbw.size), HZ1⟩
             case measure => simp [intOf]; omega
           · obtain rfl : R = false := HZ.out.1 rfl
             clear HZ
             go_wp2
             go_ret
             exact ⟨rfl, hB5.trans (hB6.mono hB5.size)⟩
       · have HK1 : Hid (isTo P sq M (fun a => a + 1) (i + 1) 0) := Lib.hid (HK.out.row (show k = i + 1 by omega))
         go_wp2
         go_roundw
         case rel => exact ⟨i + 1, by omega, by go_num, hbw, HK1⟩
         case measure => simp [intOf]; omega
    · obtain rfl : R = true := by
       rw [HR.out]
       have h := HI.out
       rw [show i = sq.length by rw [HSL.out]; omega] at h
       exact h.half (by omega) HFR.out HDN.out
      go_wp2
      go_ret
      exact ⟨rfl, hB4.trans (hbr.mono hB4.size)⟩
 · obtain rfl : R = false := HB.out.1 rfl
   clear HB
   go_wp2
   go_ret
   exact ⟨rfl, hB3⟩
theorem isIsometry_any (P : Int) (A : Option Addr) (n c : Nat) (sq : List Int) (D : Option Addr) (r d : Nat) (M : List (List Int)) (m : Nat) (w : World) (hsp : isSp P sq = true) (hr0 : 0 < r) (hr : r ≤ 16) (hm1 : 1 ≤ m) (hm : m ≤ 16) (ha : Rd w A n (ints sq)) (hd : RdII w D r M) (hM : Rect m M) :
    Calls Tryz.prog 120 #[.agg #[.int .i64 P, .slice A n c], .agg #[.int .i64 P, .slice A n c], .slice D r d] w fun e w' => e = .returned (.bool (isoB P sq M)) ∧ Below w.heap.size w w' := by
 have hsl := ha.lenI
 obtain ⟨HP, hd1, hd2, hnum⟩ := isSp_dim hsp
 obtain ⟨hp3, hp2⟩ := isP_ge HP
 have hl := hd.len
 have e := frB_rect (P := P) (n := sq.length) hM (by omega)
 rw [hl, hsl] at e
 cases hb : (M.all fun r => nums P r)
 · rw [is_frame (by rw [hsl, e, hb]; rfl)]
   exact isIsometry_0 P A n c sq D r d M m w (by omega) hp2 hr0 hr hm1 hm hd hM hb


 · by_cases h1 : r = n
   · by_cases h2 : m = n
     · subst h1
       subst h2
       exact isIsometry_sq P A m c sq D d M w HP (by omega) (by omega) ha (nums_numsL hnum) hd (hM.tab hb)
     · rw [is_frame (by rw [hsl, e, hb, decide_eq_true h1, decide_eq_false h2]; rfl)]
       exact isIsometry_2 P A n c sq D r d M m w (by omega) hp2 hr0 hr hm1 hm hd hM hb h1 h2
   · rw [is_frame (by rw [hsl, e, hb, decide_eq_false h1]; rfl)]
     exact isIsometry_1 P A n c sq D r d M m w (by omega) hp2 hr0 hr hm1 hm hd hM hb h1
theorem l03Isometry_any (P : Int) (A : Option Addr) (n c : Nat) (sq : List Int) (D : Option Addr) (r d : Nat) (M : List (List Int)) (m : Nat) (w : World) (hsp : isSp P sq = true) (hr0 : 0 < r) (hr : r ≤ 16) (hm1 : 1 ≤ m) (hm : m ≤ 16) (ha : Rd w A n (ints sq)) (hd : RdII w D r M) (hM : Rect m M) :
    Calls Tryz.prog 272 #[.agg #[.int .i64 P, .slice A n c], .agg #[.int .i64 P, .slice A n c], .slice D r d] w fun e w' => e = .returned (.bool (isoB P sq M)) ∧ Below w.heap.size w w' := by
 have hsl := ha.lenI
 obtain ⟨HP, hd1, hd2, hnum⟩ := isSp_dim hsp
 obtain ⟨hp3, hp2⟩ := isP_ge HP
 have hl := hd.len
 have e := frB_rect (P := P) (n := sq.length) hM (by omega)
 rw [hl, hsl] at e
 cases hb : (M.all fun r => nums P r)
 · rw [is_frame (by rw [hsl, e, hb]; rfl)]
   by_cases h1 : r = n
   · exact l03Isometry_1 P A n c sq D r d M m w HP hr0 hr hm1 hm hd hM h1 hb
   · exact l03Isometry_0 P A n c sq D r d M m w HP hr0 hr hm1 hm hd hM h1
 · by_cases h1 : r = n
   · by_cases h2 : m = n
     · subst h1
       subst h2
       exact l03Isometry_sq P A m c sq D d M w HP (by omega) (by omega) ha (nums_numsL hnum) hd (hM.tab hb)
     · rw [is_frame (by rw [hsl, e, hb, decide_eq_true h1, decide_eq_false h2]; rfl)]
       exact l03Isometry_2 P A n c sq D r d M m w HP hr0 hr hm1 hm hd hM hb h1 h2
   · rw [is_frame (by rw [hsl, e, hb, decide_eq_false h1]; rfl)]
     exact l03Isometry_0 P A n c sq D r d M m w HP hr0 hr hm1 hm hd hM h1
set_option maxHeartbeats 800000 in
set_option maxRecDepth 8000 in
theorem l08Is_any (P : Int) (A : Option Addr) (n c : Nat) (sq : List Int) (D : Option Addr) (r d : Nat) (M : List (List Int)) (m : Nat) (w : World) (hsp : isSp P sq = true) (hr0 : 0 < r) (hr : r ≤ 16) (hm1 : 1 ≤ m) (hm : m ≤ 16) (ha : Rd w A n (ints sq)) (hd : RdII w D r M) (hM : Rect m M) :
    Calls Tryz.prog 251 #[.agg #[.int .i64 P, .slice A n c], .slice D r d] w fun e w' => e = .returned (.bool (isoB P sq M)) ∧ Below w.heap.size w w' := by
 have hB0 : Below w.heap.size w (w.alloc (.cells #[.int .i64 P, .slice A n c] 26)) := zG.alloc (Nat.le_refl _) _
 have k0 : Blk (w.alloc (.cells #[.int .i64 P, .slice A n c] 26)) w.heap.size 26 #[.int .i64 P, .slice A n c] := Blk.new _ _ _
 have h := l03Isometry_any P A n c sq D r d M m (w.alloc (.cells #[.int .i64 P, .slice A n c] 26)) hsp hr0 hr hm1 hm (ha.below hB0) (hd.below hB0) hM
 obtain ⟨R, hR⟩ : ∃ b, b = isoB P sq M := ⟨_, rfl⟩
 rw [← hR] at h ⊢
 clear hM hsp hR
 obtain ⟨q0, q1⟩ := k0.two
 go_enter Tryz.func251, Tryz.ntmps251
 go_wp2_with fail
 refine h.mono ?_
 rintro e w2 ⟨rfl, hb2⟩
 go_wp2
 go_ret
 exact ⟨rfl, hB0.trans (hb2.mono hB0.size)⟩
/-- The code of a regular space and an isometry. -/
def codeO (P : Int) (sq : List Int) (M : List (List Int)) : Int := if isSp P sq then (if regB sq then (if isoB P sq M then 0 else 2) else 5) else 1
theorem codeO_zero {P : Int} {sq : List Int} {M : List (List Int)} (h : codeO P sq M = 0) : isSp P sq = true ∧ regB sq = true ∧ isoB P sq M = true := by
 unfold codeO at h
 by_cases h1 : isSp P sq = true
 · rw [if_pos h1] at h
   by_cases h2 : regB sq = true
   · rw [if_pos h2] at h
     by_cases h3 : isoB P sq M = true
     · exact ⟨h1, h2, h3⟩
     · rw [if_neg h3] at h; omega
   · rw [if_neg h2] at h; omega
 · rw [if_neg h1] at h; omega
theorem codeO_mk {P : Int} {sq : List Int} {M : List (List Int)} (h1 : isSp P sq = true) (h2 : regB sq = true) (h3 : isoB P sq M = true) : codeO P sq M = 0 := by
 unfold codeO; rw [if_pos h1, if_pos h2, if_pos h3]
theorem isoB_frame {P : Int} {sq : List Int} {M : List (List Int)} (h : isoB P sq M = true) : M.length = sq.length ∧ Tab P sq.length M := by
 unfold isoB at h
 rw [Bool.and_eq_true] at h
 exact frB_iff.1 h.1
set_option maxHeartbeats 1600000 in
set_option maxRecDepth 8000 in
theorem checkOrthogonal_any (P : Int) (A : Option Addr) (n c : Nat) (sq : List Int) (D : Option Addr) (r d : Nat) (M : List (List Int)) (m : Nat) (w : World) (hn : n ≤ 1048576) (hr0 : 0 < r) (hr : r ≤ 16) (hm1 : 1 ≤ m) (hm : m ≤ 16) (ha : Rd w A n (ints sq)) (hd : RdII w D r M) (hM : Rect m M) :
    Calls Tryz.prog 74 #[.agg #[.int .i64 P, .slice A n c], .slice D r d] w fun e w' => e = .returned (.int .i64 (codeO P sq M)) ∧ Below w.heap.size w w' := by
 have hB0 : Below w.heap.size w (w.alloc (.cells #[.int .i64 P, .slice A n c] 26)) := zG.alloc (Nat.le_refl _) _
 have k0 : Blk (w.alloc (.cells #[.int .i64 P, .slice A n c] 26)) w.heap.size 26 #[.int .i64 P, .slice A n c] := Blk.new _ _ _
 have his := IsSpace_any P A n c sq (w.alloc (.cells #[.int .i64 P, .slice A n c] 26)) (by omega) (ha.below hB0)
 have hrg := Lib.hid fun w' (h : Below w.heap.size w w') => regular_any P A n c sq w' (by omega) (ha.below h)
 cases h1 : isSp P sq
 · rw [h1] at his
   obtain ⟨V, hV⟩ : ∃ V, V = codeO P sq M := ⟨_, rfl⟩
   rw [← hV]
   obtain rfl : V = 1 := hV.trans (by unfold codeO; rw [h1]; rfl)
   clear hV h1 hM hrg hd
   go_enter Tryz.func74, Tryz.ntmps74
   obtain ⟨q0, q1⟩ := k0.two
   go_wp2_with fail
   refine his.mono ?_
   rintro e w2 ⟨rfl, hb2⟩
   have hB2 := hB0.trans (hb2.mono hB0.size)
   have k2 := k0.below hb2 k0.lt
   clear q0 q1
   go_wp2
   go_ret
   exact ⟨rfl, hB2⟩
 · rw [h1] at his
   have hiso := Lib.hid fun w' (h : Below w.heap.size w w') => isIsometry_any P A n c sq D r d M m w' h1 hr0 hr hm1 hm (ha.below h) (hd.below h) hM
   cases h2 : regB sq
   · rw [h2] at hrg
     obtain ⟨V, hV⟩ : ∃ V, V = codeO P sq M := ⟨_, rfl⟩
     rw [← hV]
     obtain rfl : V = 5 := hV.trans (by unfold codeO; rw [h1, h2]; rfl)
     clear hV h1 h2 hM hd hiso
     go_enter Tryz.func74, Tryz.ntmps74
     obtain ⟨q0, q1⟩ := k0.two
     go_wp2_with fail
     refine his.mono ?_
     rintro e w2 ⟨rfl, hb2⟩
     have hB2 := hB0.trans (hb2.mono hB0.size)
     have k2 := k0.below hb2 k0.lt
     clear q0 q1
     obtain ⟨q0, q1⟩ := k2.two
     go_wp2_with fail
     refine (hrg.out w2 hB2).mono ?_
     rintro e w3 ⟨rfl, hb3⟩
     have hB3 := hB2.trans (hb3.mono hB2.size)
     have k3 := k2.below hb3 k2.lt
     clear q0 q1
     go_wp2
     go_ret
     exact ⟨rfl, hB3⟩
   · rw [h2] at hrg
     cases h3 : isoB P sq M
     · rw [h3] at hiso
       obtain ⟨V, hV⟩ : ∃ V, V = codeO P sq M := ⟨_, rfl⟩
       rw [← hV]
       obtain rfl : V = 2 := hV.trans (by unfold codeO; rw [h1, h2, h3]; rfl)
       clear hV h1 h2 h3 hM hd
       go_enter Tryz.func74, Tryz.ntmps74
       obtain ⟨q0, q1⟩ := k0.two
       go_wp2_with fail
       refine his.mono ?_
       rintro e w2 ⟨rfl, hb2⟩
       have hB2 := hB0.trans (hb2.mono hB0.size)
       have k2 := k0.below hb2 k0.lt
       clear q0 q1
       obtain ⟨q0, q1⟩ := k2.two
       go_wp2_with fail
       refine (hrg.out w2 hB2).mono ?_
       rintro e w3 ⟨rfl, hb3⟩
       have hB3 := hB2.trans (hb3.mono hB2.size)
       have k3 := k2.below hb3 k2.lt
       clear q0 q1
       obtain ⟨q0, q1⟩ := k3.two
       go_wp2_with fail
       refine (hiso.out w3 hB3).mono ?_
       rintro e w4 ⟨rfl, hb4⟩
       have hB4 := hB3.trans (hb4.mono hB3.size)
       have k4 := k3.below hb4 k3.lt
       clear q0 q1
       go_wp2
       go_ret
       exact ⟨rfl, hB4⟩
     · rw [h3] at hiso
       obtain ⟨V, hV⟩ : ∃ V, V = codeO P sq M := ⟨_, rfl⟩
       rw [← hV]
       obtain rfl : V = 0 := hV.trans (by unfold codeO; rw [h1, h2, h3]; rfl)
       clear hV h1 h2 h3 hM hd
       go_enter Tryz.func74, Tryz.ntmps74
       obtain ⟨q0, q1⟩ := k0.two
       go_wp2_with fail
       refine his.mono ?_
       rintro e w2 ⟨rfl, hb2⟩
       have hB2 := hB0.trans (hb2.mono hB0.size)
       have k2 := k0.below hb2 k0.lt
       clear q0 q1
       obtain ⟨q0, q1⟩ := k2.two
       go_wp2_with fail
       refine (hrg.out w2 hB2).mono ?_
       rintro e w3 ⟨rfl, hb3⟩
       have hB3 := hB2.trans (hb3.mono hB2.size)
       have k3 := k2.below hb3 k2.lt
       clear q0 q1
       obtain ⟨q0, q1⟩ := k3.two
       go_wp2_with fail
       refine (hiso.out w3 hB3).mono ?_
       rintro e w4 ⟨rfl, hb4⟩
       have hB4 := hB3.trans (hb4.mono hB3.size)
       have k4 := k3.below hb4 k3.lt
       clear q0 q1
       go_wp2
       go_ret
       exact ⟨rfl, hB4⟩
set_option maxHeartbeats 3200000 in
set_option maxRecDepth 8000 in
theorem l08Reflection_any (P : Int) (A : Option Addr) (n c : Nat) (sq : List Int) (U : Option Addr) (cu : Nat) (u : List Int) (w : World) (HP : isP P = true) (hn : n ≤ 6) (h0 : 0 < n) (ha : Rd w A n (ints sq)) (hs : NumsL P sq) (hx : Rd w U n (ints u)) (hu : NumsL P u) (hne : ¬ pairL P sq u u = 0) :
    Calls Tryz.prog 186 #[.agg #[.int .i64 P, .slice A n c], .slice U n cu] w fun e w' => ∃ A' c', e = .returned (.slice A' n c') ∧ MkII w w' A' n c' (rmatL P sq n u) := by
 obtain ⟨hp3, hp2⟩ := isP_ge HP
 have hp : 2 ≤ P := by omega
 have hB0 : Below w.heap.size w (w.alloc (.cells #[.int .i64 P, .slice A n c] 26)) := zG.alloc (Nat.le_refl _) _
 have k0 : Blk (w.alloc (.cells #[.int .i64 P, .slice A n c] 26)) w.heap.size 26 #[.int .i64 P, .slice A n c] := Blk.new _ _ _
 have hB1 := hB0.alloc (by simp) (.cells #[] 24)
 have k1 := k0.alloc (.cells #[] 24)
 have hM1 : MkII w ((w.alloc (.cells #[.int .i64 P, .slice A n c] 26)).alloc (.cells #[] 24)) (some ⟨w.heap.size + 1, 0, none⟩) 0 0 [] := by
  have := MkII.empty hB0
  simpa using this
 clear k0 hB0
 obtain ⟨q0, q1⟩ := k1.two
 have hmk := make_i (P := Tryz.prog) 24 2 Tryz.underlying24 info_i n (by omega)
 have HNE := Lib.hid hne
 clear hne
 go_enter Tryz.func186, Tryz.ntmps186
 go_wp2
 obtain ⟨w1, hw1⟩ : ∃ W, W = (w.alloc (.cells #[.int .i64 P, .slice A n c] 26)).alloc (.cells #[] 24) := ⟨_, rfl⟩
 rw [← hw1] at hM1 k1 ⊢
 clear hw1 hB1 q0 q1
 go_loopw [5, 6] (fun out i wr => ∃ (k : Nat) (A' : Option Addr) (c' : Nat), k ≤ n ∧ i = .int .i64 k ∧ out = .slice A' k c' ∧ MkII w wr A' k c' (tab k fun k => rflL P sq u (unitRow n k)) ∧ Blk wr w.heap.size 26 #[.int .i64 P, .slice A n c]) (fun _ i _ => n - (intOf i).toNat)
 case atStart => exact ⟨0, _, _, by omega, rfl, rfl, by simpa [tab] using hM1, k1⟩
 case round =>
  obtain ⟨k, A', c', hk, rfl, rfl, hM, k4⟩ := hrel
  clear hM1 k1
  obtain ⟨q0, q1⟩ := k4.two
  by_cases hlt : k < n
  · have hm1 := Mk.made (E := 2) (n := n) (z := .int .i64 0) (Below.refl wr.heap.size wr) (by simp only [maxLen]; omega)
    rw [ints_replicate] at hm1
    obtain ⟨u1, hc1⟩ := hm1.2.cellI hlt
    have hf1 := hm1.2.frozen_ k
    have hm2 := (hm1.set k (.int .i64 1)).1
    rw [ints_set, World.setCell_alloc_at _ _ _ _ _ rfl] at hm2
    have HRU := Lib.hid (show MkI wr _ (some ⟨wr.heap.size, 0, none⟩) n n (unitRow n k) from hm2)
    have k5 := k4.below hm2.b k4.lt
    have HM := Lib.hid hM
    have HUN := Lib.hid (unitRow_nums hp n k)
    have HA := Lib.hid (ha.below (hM.b.trans (hm2.b.mono hM.b.size)))
    have HX := Lib.hid (hx.below (hM.b.trans (hm2.b.mono hM.b.size)))
    have HSQ := Lib.hid hs
    have HXS := Lib.hid hu
    have HPP := Lib.hid HP
    have HBW := Lib.hid hm2.b
    have hcall := l07Reflect_any P A n c sq _ cu u _ n (unitRow n k) _ HPP.out hn HA.out HSQ.out HX.out HXS.out HRU.out.rd HUN.out HNE.out
    obtain ⟨q2, q3⟩ := k5.two
    clear hM hm1 hm2
    go_wp2_with fail
    refine hcall.mono ?_
    rintro e w5 ⟨A5, c5, rfl, hM5⟩
    have hM5' := hM5.after HBW.out
    have k6 := k5.below hM5.b k5.lt
    clear hcall hc1 hf1 q0 q1 q2 q3
    go_wp2_with (at_builtin; refine wpList_appRowG w wr _ rfl _ _ rfl A' k c' _ A5 n c5 _ HM.out hM5' (by omega) rfl ?_ ?_; (go_simp); intro A20 c20 w20 hM20 hg20 hat20)
    have k7 := k6.grown hg20 ((HM.out.below hM5'.b).ne_blk k6 (by decide))
    clear k6 hat20 hg20
    go_roundw
    case rel => exact ⟨k + 1, A20, c20, by omega, by go_num, rfl, by rw [tab_succ]; exact hM20, k7⟩
    case measure => simp [intOf]; omega
  · obtain rfl : k = n := by omega
    have HM := Lib.hid hM
    have htr := l02Turn_any P A' k c' (rcolsL P sq k u) k wr h0 (by omega) (by omega) hM.rd (rcolsL_tab hp sq k u)
    have HLK : Hid (rmatL P sq k u = transL (rcolsL P sq k u)) := Lib.hid rfl
    clear hM
    go_wp2_with fail
    refine htr.mono ?_
    rintro e w5 ⟨A5, c5, rfl, hM5⟩
    go_wp2
    go_ret
    rw [HLK.out]
    exact ⟨_, _, rfl, hM5.after HM.out.b⟩
/-- IsOrthogonal. -/
def iorR (P : Int) (sq : List Int) (M : List (List Int)) : Bool × Int := if isSp P sq then (if regB sq then (isoB P sq M, 0) else (false, 5)) else (false, 1)
theorem codeO_ior (P : Int) (sq : List Int) (M : List (List Int)) : codeO P sq M = if (iorR P sq M).2 = 0 then (if (iorR P sq M).1 then 0 else 2) else (iorR P sq M).2 := by
 unfold codeO iorR
 cases isSp P sq
 · rfl
 · cases regB sq
   · rfl
   · cases isoB P sq M <;> rfl
set_option maxHeartbeats 1600000 in
set_option maxRecDepth 8000 in
theorem specIsOrthogonal_any (P : Int) (A : Option Addr) (n c : Nat) (sq : List Int) (D : Option Addr) (r d : Nat) (M : List (List Int)) (m : Nat) (w : World) (hn : n ≤ 1048576) (hr0 : 0 < r) (hr : r ≤ 16) (hm1 : 1 ≤ m) (hm : m ≤ 16) (ha : Rd w A n (ints sq)) (hd : RdII w D r M) (hM : Rect m M) :
    Calls Tryz.prog 188 #[.agg #[.int .i64 P, .slice A n c], .slice D r d] w fun e w' => e = .returned (.tuple #[.bool (iorR P sq M).1, .int .i64 (iorR P sq M).2]) ∧ Below w.heap.size w w' := by
 have hB0 : Below w.heap.size w (w.alloc (.cells #[.int .i64 P, .slice A n c] 26)) := zG.alloc (Nat.le_refl _) _
 have k0 : Blk (w.alloc (.cells #[.int .i64 P, .slice A n c] 26)) w.heap.size 26 #[.int .i64 P, .slice A n c] := Blk.new _ _ _
 have his := l03Is_any P A n c sq (w.alloc (.cells #[.int .i64 P, .slice A n c] 26)) (by omega) (ha.below hB0)
 obtain ⟨R, hR⟩ : ∃ R, R = iorR P sq M := ⟨_, rfl⟩
 rw [← hR]
 cases h1 : isSp P sq
 · rw [h1] at his
   obtain rfl : R = (false, 1) := by rw [hR]; unfold iorR; rw [h1]; rfl
   clear hR h1 hM hd
   go_enter Tryz.func188, Tryz.ntmps188
   obtain ⟨q0, q1⟩ := k0.two
   go_wp2_with fail
   refine his.mono ?_
   rintro e w2 ⟨rfl, hb2⟩
   have hB2 := hB0.trans (hb2.mono hB0.size)
   have k2 := k0.below hb2 k0.lt
   clear q0 q1
   go_wp2
   go_ret2
   exact ⟨rfl, hB2⟩
 · rw [h1] at his
   have hiso := Lib.hid fun w' (h : Below w.heap.size w w') => l08Is_any P A n c sq D r d M m w' h1 hr0 hr hm1 hm (ha.below h) (hd.below h) hM
   obtain ⟨HP, hd1, hd2, hnum⟩ := isSp_dim h1
   obtain ⟨hp3, hp2⟩ := isP_ge HP
   have hrg := Lib.hid fun w' (h : Below w.heap.size w w') => l03Disc_any P A n c sq w' (by omega) hp2 (by omega) (ha.below h) (nums_numsL hnum)
   have hdr := disc_reg HP (nums_numsL hnum)
   rw [ha.lenI] at hdr
   obtain ⟨z, hz⟩ : ∃ z, z = discT P sq n := ⟨_, rfl⟩
   rw [← hz] at hdr hrg
   clear hz hnum HP
   cases h2 : regB sq
   · rw [h2] at hdr
     have e1 : (z == 0) = true := by simpa using hdr
     obtain rfl : R = (false, 5) := by rw [hR]; unfold iorR; rw [h1, h2]; rfl
     clear hR h1 h2 hM hd hiso
     go_enter Tryz.func188, Tryz.ntmps188
     obtain ⟨q0, q1⟩ := k0.two
     go_wp2_with fail
     refine his.mono ?_
     rintro e w2 ⟨rfl, hb2⟩
     have hB2 := hB0.trans (hb2.mono hB0.size)
     have k2 := k0.below hb2 k0.lt
     clear q0 q1
     obtain ⟨q0, q1⟩ := k2.two
     go_wp2_with fail
     refine (hrg.out w2 hB2).mono ?_
     rintro e w3 ⟨rfl, hb3⟩
     have hB3 := hB2.trans (hb3.mono hB2.size)
     have k3 := k2.below hb3 k2.lt
     clear q0 q1
     go_wp2
     go_ret2
     exact ⟨rfl, hB3⟩
   · rw [h2] at hdr
     have e1 : (z == 0) = false := by simpa using hdr
     obtain ⟨b, hb⟩ : ∃ b, b = isoB P sq M := ⟨_, rfl⟩
     obtain rfl : R = (b, 0) := by rw [hR, hb]; unfold iorR; rw [h1, h2]; rfl
     rw [← hb] at hiso
     clear hR h1 h2 hM hd hb
     go_enter Tryz.func188, Tryz.ntmps188
     obtain ⟨q0, q1⟩ := k0.two
     go_wp2_with fail
     refine his.mono ?_
     rintro e w2 ⟨rfl, hb2⟩
     have hB2 := hB0.trans (hb2.mono hB0.size)
     have k2 := k0.below hb2 k0.lt
     clear q0 q1
     obtain ⟨q0, q1⟩ := k2.two
     go_wp2_with fail
     refine (hrg.out w2 hB2).mono ?_
     rintro e w3 ⟨rfl, hb3⟩
     have hB3 := hB2.trans (hb3.mono hB2.size)
     have k3 := k2.below hb3 k2.lt
     clear q0 q1
     obtain ⟨q0, q1⟩ := k3.two
     go_wp2_with fail
     refine (hiso.out w3 hB3).mono ?_
     rintro e w4 ⟨rfl, hb4⟩
     have hB4 := hB3.trans (hb4.mono hB3.size)
     have k4 := k3.below hb4 k3.lt
     clear q0 q1
     go_wp2
     go_ret2
     exact ⟨rfl, hB4⟩
set_option maxHeartbeats 1600000 in
set_option maxRecDepth 8000 in
theorem l08Code_any (P : Int) (A : Option Addr) (n c : Nat) (sq : List Int) (D : Option Addr) (r d : Nat) (M : List (List Int)) (m : Nat) (w : World) (hn : n ≤ 1048576) (hr0 : 0 < r) (hr : r ≤ 16) (hm1 : 1 ≤ m) (hm : m ≤ 16) (ha : Rd w A n (ints sq)) (hd : RdII w D r M) (hM : Rect m M) :
    Calls Tryz.prog 80 #[.agg #[.int .i64 P, .slice A n c], .slice D r d] w fun e w' => e = .returned (.int .i64 (codeO P sq M)) ∧ Below w.heap.size w w' := by
 have hB0 : Below w.heap.size w (w.alloc (.cells #[.int .i64 P, .slice A n c] 26)) := zG.alloc (Nat.le_refl _) _
 have k0 : Blk (w.alloc (.cells #[.int .i64 P, .slice A n c] 26)) w.heap.size 26 #[.int .i64 P, .slice A n c] := Blk.new _ _ _
 have hio := specIsOrthogonal_any P A n c sq D r d M m (w.alloc (.cells #[.int .i64 P, .slice A n c] 26)) hn hr0 hr hm1 hm (ha.below hB0) (hd.below hB0) hM
 obtain ⟨V, hV⟩ : ∃ V, V = codeO P sq M := ⟨_, rfl⟩
 rw [← hV]
 have hC := codeO_ior P sq M
 rw [← hV] at hC
 obtain ⟨⟨b, z⟩, hR⟩ : ∃ R, R = iorR P sq M := ⟨_, rfl⟩
 rw [← hR] at hC hio
 have HC : Hid (V = if z = 0 then (if b then 0 else 2) else z) := Lib.hid hC
 clear hC hR hV hM hd
 by_cases hz : z = 0
 · subst hz
   cases b
   · obtain rfl : V = 2 := HC.out
     go_enter Tryz.func80, Tryz.ntmps80
     obtain ⟨q0, q1⟩ := k0.two
     go_wp2_with fail
     refine hio.mono ?_
     rintro e w2 ⟨rfl, hb2⟩
     have hB2 := hB0.trans (hb2.mono hB0.size)
     have k2 := k0.below hb2 k0.lt
     clear q0 q1
     go_wp2
     go_ret
     exact ⟨rfl, hB2⟩
   · obtain rfl : V = 0 := HC.out
     go_enter Tryz.func80, Tryz.ntmps80
     obtain ⟨q0, q1⟩ := k0.two
     go_wp2_with fail
     refine hio.mono ?_
     rintro e w2 ⟨rfl, hb2⟩
     have hB2 := hB0.trans (hb2.mono hB0.size)
     have k2 := k0.below hb2 k0.lt
     clear q0 q1
     go_wp2
     go_ret
     exact ⟨rfl, hB2⟩
 · obtain rfl : V = z := by rw [HC.out, if_neg hz]
   have e1 : (V == 0) = false := by simp [hz]
   go_enter Tryz.func80, Tryz.ntmps80
   obtain ⟨q0, q1⟩ := k0.two
   go_wp2_with fail
   refine hio.mono ?_
   rintro e w2 ⟨rfl, hb2⟩
   have hB2 := hB0.trans (hb2.mono hB0.size)
   have k2 := k0.below hb2 k0.lt
   clear q0 q1
   go_wp2
   go_ret
   exact ⟨rfl, hB2⟩
set_option maxHeartbeats 1600000 in
set_option maxRecDepth 8000 in
theorem refCol_any (g gx : Nat) (P : Int) (A : Option Addr) (n c : Nat) (sq : List Int) (U : Option Addr) (cu : Nat) (u : List Int) (Y : Option Addr) (cy : Nat) (v : List Int) (w : World) (HP : isP P = true) (hn : n ≤ 6) (ha : Rd w A n (ints sq)) (hs : NumsL P sq) (hx : Rd w U n (ints u)) (hu : NumsL P u) (hy : Rd w Y n (ints v)) (hys : NumsL P v) (hne : ¬ pairL P sq u u = 0) (kg : Blk w g 26 #[.int .i64 P, .slice A n c]) (kx : Blk w gx 24 #[.slice U n cu]) :
    Calls Tryz.prog 254 #[.slice Y n cy, .pointer (some ⟨g, 0, none⟩), .pointer (some ⟨gx, 0, none⟩)] w fun e w' => ∃ A' c', e = .returned (.slice A' n c') ∧ MkI w w' A' n c' (rflL P sq u v) := by
 obtain ⟨q0, q1⟩ := kg.two
 have qx := kx.cell 0
 simp only [zA, zC] at qx
 have hcall := reflected_any P A n c sq U cu u Y cy v w HP hn ha hs hx hu hy hys hne
 go_enter Tryz.func254, Tryz.ntmps254
 go_wp2_with fail
 refine hcall.mono ?_
 rintro e w2 ⟨A2, c2, rfl, hM⟩
 go_wp2
 go_ret
 exact ⟨_, _, rfl, hM⟩
set_option maxHeartbeats 1600000 in
set_option maxRecDepth 8000 in
theorem reflection_any (P : Int) (A : Option Addr) (n c : Nat) (sq : List Int) (U : Option Addr) (cu : Nat) (u : List Int) (w : World) (HP : isP P = true) (hn : n ≤ 6) (h0 : 0 < n) (ha : Rd w A n (ints sq)) (hs : NumsL P sq) (hx : Rd w U n (ints u)) (hu : NumsL P u) (hne : ¬ pairL P sq u u = 0) :
    Calls Tryz.prog 198 #[.agg #[.int .i64 P, .slice A n c], .slice U n cu] w fun e w' => ∃ A' c', e = .returned (.slice A' n c') ∧ MkII w w' A' n c' (rmatL P sq n u) := by
 obtain ⟨hp3, hp2⟩ := isP_ge HP
 have hB0 : Below w.heap.size w (w.alloc (.cells #[.int .i64 P, .slice A n c] 26)) := zG.alloc (Nat.le_refl _) _
 have k0 : Blk (w.alloc (.cells #[.int .i64 P, .slice A n c] 26)) w.heap.size 26 #[.int .i64 P, .slice A n c] := Blk.new _ _ _
 have hB1 : Below w.heap.size w ((w.alloc (.cells #[.int .i64 P, .slice A n c] 26)).alloc (.cells #[.slice U n cu] 24)) := hB0.alloc (by simp) _
 have k1 : Blk ((w.alloc (.cells #[.int .i64 P, .slice A n c] 26)).alloc (.cells #[.slice U n cu] 24)) w.heap.size 26 #[.int .i64 P, .slice A n c] := k0.alloc _
 have kx : Blk ((w.alloc (.cells #[.int .i64 P, .slice A n c] 26)).alloc (.cells #[.slice U n cu] 24)) (w.heap.size + 1) 24 #[.slice U n cu] := Blk.newAt3 (by simp)
 have HMV := Lib.hid (matrixBy_any 254 ⟨w.heap.size, 0, none⟩ ⟨w.heap.size + 1, 0, none⟩ (fun k => rflL P sq u (unitRow n k)) (fun _ _ => by rfl) P A n c ((w.alloc (.cells #[.int .i64 P, .slice A n c] 26)).alloc (.cells #[.slice U n cu] 24)) (by omega) hn h0 (fun _ _ => ⟨by rw [rflL_len, unitRow_len], rflL_nums (by omega) _ _ _⟩)
  (fun k w' Y cy _ hb hy hcy => refCol_any w.heap.size (w.heap.size + 1) P A n c sq U cu u Y cy (unitRow n k) w' HP hn ((ha.below hB1).below hb) hs ((hx.below hB1).below hb) hu hy (unitRow_nums (by omega) n k) hne (k1.below hb k1.lt) (kx.below hb kx.lt)))
 obtain ⟨q0, q1⟩ := k1.two
 have qx := kx.cell 0
 simp only [zA, zC] at qx
 clear k0 kx hne
 go_enter Tryz.func198, Tryz.ntmps198
 go_wp2_with fail
 refine HMV.out.mono ?_
 rintro e w4 ⟨A4, c4, rfl, hM⟩
 go_wp2
 go_ret
 exact ⟨_, _, rfl, hM.after hB1⟩
theorem zeroL_at (xs : List Int) : zeroL xs = true ↔ ∀ i, i < xs.length → xs.getD i 0 = 0 := by
 rw [zeroL_iff]
 refine ⟨fun h i hi => h _ (getD_mem 0 hi), fun h y hy => ?_⟩
 obtain ⟨i, hi, rfl⟩ := List.getElem_of_mem hy
 rw [← getD_of_lt 0 hi]; exact h i hi
theorem dec_zero {p : Int} {W E : List Int} (hw : W.length = E.length) (hW : NumsL p W) (hE : NumsL p E) (hp : 0 < p) : zeroL (plusL p W E (-1)) = decide (W = E) := by
 by_cases h : W = E
 · subst h
   rw [decide_eq_true rfl]
   refine (zeroL_at _).2 fun i hi => ?_
   rw [plusL_len] at hi
   rw [plusL_getD _ _ hi, show W.getD i 0 + -1 * W.getD i 0 = 0 by omega, Int.zero_emod]
 · rw [decide_eq_false h]
   cases hz : zeroL (plusL p W E (-1))
   · rfl
   · refine absurd (list_ext_getD 0 hw fun i hi => ?_) h
     have h1 := (zeroL_at _).1 hz i (by rw [plusL_len]; exact hi)
     rw [plusL_getD _ _ hi] at h1
     refine cg_eq (hW.getD hp i) (hE.getD hp i) ?_
     obtain ⟨t, ht⟩ := cg_wit.1 (h1.trans (Int.zero_emod p).symm)
     exact cg_wit.2 ⟨t, by omega⟩
set_option maxHeartbeats 12800000 in
set_option maxRecDepth 8000 in
theorem decomposition_any (P : Int) (A : Option Addr) (n c : Nat) (sq : List Int) (D : Option Addr) (d : Nat) (M : List (List Int)) (w : World) (hsp : isSp P sq = true) (hreg : regB sq = true) (ha : Rd w A n (ints sq)) (hd : RdII w D n M) (hiso : isoB P sq M = true) :
    Calls Tryz.prog 95 #[.agg #[.int .i64 P, .slice A n c], .slice D n d] w fun e w' => ∃ (A' : Option Addr) (c' : Nat), e = .returned (.slice A' (decL P sq M).length c') ∧ MkO w w' A' (decL P sq M).length c' (decL P sq M) := by
 have hsl := ha.lenI
 obtain ⟨HP, hd1, hd2, hnum⟩ := isSp_dim hsp
 obtain ⟨hp3, hp2⟩ := isP_ge HP
 have hs := nums_numsL hnum
 obtain ⟨hl, hT⟩ := isoB_frame hiso
 have HDEC := Lib.hid (isoB_dec HP (show 2 ≤ P by omega) hd1 hs hreg hT hl hiso)
 obtain ⟨t, ht⟩ : ∃ t : Nat → List (List Int) × List (List Int), t = decTo P sq sq.length M := ⟨_, rfl⟩
 have HSTEP : Hid (∀ k, t (k + 1) = decS P sq n (t k) k) := Lib.hid fun k => by rw [ht, ← hsl]; rfl
 have HT0 : Hid (t 0 = ([], M)) := Lib.hid (by rw [ht]; rfl)
 have HTN : Hid ((t n).1 = decL P sq M) := Lib.hid (by rw [ht, ← hsl]; rfl)
 have HALL : Hid (∀ k, k ≤ n → (t k).1.length ≤ 2 * k ∧ (∀ v ∈ (t k).1, v.length = n ∧ NumsL P v ∧ ¬ pairL P sq v v = 0) ∧ Tab P n (t k).2 ∧ (t k).2.length = n) := Lib.hid fun k hk => by
  obtain ⟨h1, h2, x, hx, -⟩ := HDEC.out k (by omega)
  rw [ht]
  refine ⟨h1, fun v hv => ?_, ?_, ?_⟩
  · obtain ⟨g1, g2, g3⟩ := h2 v hv
    exact ⟨by omega, g2, fun e => g3 ((bil_same HP g1).1 e)⟩
  · rw [hx, ← hsl]; exact x.tab
  · rw [hx, x.len, hsl]
 rw [hsl] at hd1 hd2
 have HQ := Lib.hid hs
 have HPP := Lib.hid HP
 have HA := Lib.hid ha
 have HD := Lib.hid hd
 clear HDEC hsp hreg hiso hl hT hs hnum HP ha hd
 have k0 : Blk (w.alloc (.cells #[.int .i64 P, .slice A n c] 26)) w.heap.size 26 #[.int .i64 P, .slice A n c] := Blk.new _ _ _
 have k1 := k0.alloc (.cells #[] 24)
 have hO1 : MkO w ((w.alloc (.cells #[.int .i64 P, .slice A n c] 26)).alloc (.cells #[] 24)) (some ⟨w.heap.size + 1, 0, none⟩) 0 0 [] := by
  have := (MkII.empty (w0 := w) (w := (w.alloc (.cells #[.int .i64 P, .slice A n c] 26))) (zG.alloc (Nat.le_refl _) _)).o
  simpa using this
 clear k0
 obtain ⟨q0, q1⟩ := k1.two
 go_enter Tryz.func95, Tryz.ntmps95
 go_wp2_with fail
 obtain ⟨w1, hw1⟩ : ∃ W, W = (w.alloc (.cells #[.int .i64 P, .slice A n c] 26)).alloc (.cells #[] 24) := ⟨_, rfl⟩
 rw [← hw1] at hO1 k1 q0 q1 ⊢
 clear hw1
 refine (dim_any P A n c w1).mono ?_
 rintro e w2 ⟨rfl, hb2⟩
 have hO2 := hO1.below hb2
 have k2 := k1.below hb2 k1.lt
 go_wp2_with fail
 refine (unit_any n w2 (by omega)).mono ?_
 rintro e w3 ⟨U, cu, rfl, hU⟩
 have hO3 := hO2.below hU.b
 have k3 := k2.below hU.b k2.lt
 have hLU : ∀ g, (Value.slice (some ⟨w.heap.size + 1, 0, none⟩) 0 0).ownBlock = some g → (Value.slice U n cu).ownBlock ≠ some g := fun g e e2 => by
  have h1 := (hO2.own_lt e).2
  obtain ⟨rows, hm, _⟩ := hU
  have h2 := (World.ownsRow.lt hm.2 g e2).1
  omega
 have hU3 : KU w w3 (.slice (some ⟨w.heap.size + 1, 0, none⟩) 0 0) U n cu (unitM n) := ⟨hU.after hO2.b, hLU⟩
 clear hO1 hO2 k1 k2 hb2 q0 q1 hU hLU
 go_wp2
 go_loopw [1, 5, 16] (fun mv lv iv wr => ∃ (k : Nat) (Am : Option Addr) (cm : Nat) (Al : Option Addr) (cl : Nat), k ≤ n ∧ iv = .int .i64 k ∧ mv = .slice Am n cm ∧ lv = .slice Al (t k).1.length cl ∧ MkO w wr Al (t k).1.length cl (t k).1 ∧ KM w wr (.slice Al (t k).1.length cl) Am n cm (t k).2 ∧ Blk wr w.heap.size 26 #[.int .i64 P, .slice A n c] ∧ KU w wr (.slice Al (t k).1.length cl) U n cu (unitM n)) (fun _ _ iv _ => n - (intOf iv).toNat)
 case atStart => exact ⟨0, D, d, _, _, by omega, rfl, rfl, by rw [HT0.out]; rfl, by rw [HT0.out]; exact hO3, by rw [HT0.out]; exact .inl HD.out, k3, by rw [HT0.out]; exact hU3⟩
 case round =>
  obtain ⟨k, Am, cm, Al, cl, hk, rfl, rfl, rfl, hO, hKM, k4, hKU⟩ := hrel
  clear hO3 k3 hU3
  obtain ⟨q0, q1⟩ := k4.two
  by_cases hlt : k < n
  · skip
    obtain ⟨hlen, hgood, hTM, hML⟩ := HALL.out k hk
    obtain ⟨L, hLe⟩ : ∃ L, L = (t k).1 := ⟨_, rfl⟩
    obtain ⟨MM, hMe⟩ : ∃ X, X = (t k).2 := ⟨_, rfl⟩
    have HS1 := Lib.hid (HSTEP.out k)
    have HN1 := Lib.hid (HALL.out (k + 1) (by omega))
    rw [← hLe] at hlen hgood hO hKM hKU ⊢
    rw [← hMe] at hTM hML hKM
    have HTK : Hid (t k = (L, MM)) := Lib.hid (by rw [hLe, hMe])
    have HLN := Lib.hid hlen
    clear hLe hMe hgood
    have hrm := hKM.rd hO.b
    have HTM := Lib.hid hTM
    have HML := Lib.hid hML
    obtain ⟨W, hW⟩ : ∃ W, W = decW n MM k := ⟨_, rfl⟩
    have hWok : W.length = n ∧ NumsL P W := by
     rw [hW]
     obtain ⟨x1, x2⟩ := trans_ok (show 0 < P by omega) hTM hML hd1
     exact x1.row (by omega)
    obtain ⟨E, hE⟩ : ∃ E, E = unitRow n k := ⟨_, rfl⟩
    have hEok : E.length = n ∧ NumsL P E := by rw [hE]; exact ⟨unitRow_len _ _, unitRow_nums (by omega) _ _⟩
    have HWK := Lib.hid hWok
    have HEK := Lib.hid hEok
    have HWE := Lib.hid hW
    have HEE := Lib.hid hE
    have HSTP : Hid (t (k + 1) = if W = E then (L, MM) else if pairL P sq (plusL P W E (-1)) (plusL P W E (-1)) = 0 then (L ++ [plusL P W E 1, E], timesM P (rmatL P sq n E) (timesM P (rmatL P sq n (plusL P W E 1)) MM)) else (L ++ [plusL P W E (-1)], timesM P (rmatL P sq n (plusL P W E (-1))) MM)) := Lib.hid (by
     rw [HS1.out, HTK.out]
     unfold decS
     rw [← hW, ← hE])
    clear hTM hWok hEok hW hE HS1
    obtain ⟨gu, rfl, hxu, Ae, ce, hcu, -, hru⟩ := hKU.1.at_ hlt
    have eE : (unitM n)[k] = E := by rw [HEE.out]; exact unitM_get n k hxu
    rw [eE, HEK.out.1] at hcu hru
    have hcu2 : wr.cell? ⟨gu, 0 + k, none⟩ = some (.slice Ae n ce) := by rw [Nat.zero_add]; exact hcu
    have HRE0 := Lib.hid (hru.base (B' := 0) (Nat.zero_le _))
    have hcall := transpose_any P Am n cm MM n wr hd1 (by omega) (by omega) hrm HTM.out
    have HO := Lib.hid hO
    have HKM := Lib.hid hKM
    have HKU := Lib.hid hKU
    clear hO hKM hrm hKU eE hxu hru
    go_wp2_with fail
    refine hcall.mono ?_
    rintro e w5 ⟨A5, c5, rfl, hM5⟩
    have hb5 := hM5.b
    obtain ⟨g5, o5, rfl, hx5, Aw, cw, hcw, hrw, -⟩ := hM5.rd.at_ hlt
    have eW : (transL MM)[k] = W := by rw [HWE.out]; unfold decW; rw [getD_of_lt [] hx5]
    rw [eW, HWK.out.1] at hcw
    rw [eW, HWK.out.1] at hrw
    have k5 := k4.below hb5 k4.lt
    have he5 := HRE0.out.below hb5
    clear hcall hM5 eW hx5 q0 q1
    obtain ⟨q0, q1⟩ := k5.two
    go_wp2_with fail
    refine (field_any P A n c w5).mono ?_
    rintro e w6 ⟨rfl, hb6⟩
    have hcall := plus_any P Aw n cw Ae n ce (-1) W E w6 (by omega) hp2 (by omega) (Nat.le_refl _) (hrw.below hb6) HWK.out.2 (he5.below hb6).rd HEK.out.2 (by omega) (by omega)
    have hb7 := hb5.trans (hb6.mono hb5.size)
    have hw7 := hrw.below hb6
    have k6 := k5.below hb6 k5.lt
    obtain ⟨dl, hdl⟩ : ∃ x, x = plusL P W E (-1) := ⟨_, rfl⟩
    have hdok : dl.length = n ∧ NumsL P dl := by rw [hdl]; exact ⟨(plusL_len _ _ _ _).trans HWK.out.1, plusL_nums (by omega) _ _ _⟩
    have HZE := Lib.hid (show zeroL dl = decide (W = E) by rw [hdl]; exact dec_zero (HWK.out.1.trans HEK.out.1.symm) HWK.out.2 HEK.out.2 (by omega))
    have HDK := Lib.hid hdok
    have HSD : Hid (t (k + 1) = if W = E then (L, MM) else if pairL P sq dl dl = 0 then (L ++ [plusL P W E 1, E], timesM P (rmatL P sq n E) (timesM P (rmatL P sq n (plusL P W E 1)) MM)) else (L ++ [dl], timesM P (rmatL P sq n dl) MM)) := Lib.hid (by rw [HSTP.out, hdl])
    rw [← hdl] at hcall
    clear HSTP hdl hdok hcw q0 q1 k5 hrw
    go_wp2_with fail
    refine hcall.mono ?_
    rintro e w8 ⟨Ad, cd, rfl, hM8⟩
    have hB8 := hb7.trans (hM8.b.mono hb7.size)
    have HD8 := Lib.hid (show Own w8 0 2 Ad n cd (ints dl) from hM8.2.base (Nat.zero_le _))
    have HW8 := Lib.hid (hw7.below hM8.b)
    have k8 := k6.below hM8.b k6.lt
    clear hcall hM8 hw7 he5 k6 hb5 hb6 hb7
    have hcall := isZero_any Ad n cd dl w8 (by omega) HD8.out.rd
    by_cases h1 : W = E
    · rw [HZE.out, decide_eq_true h1] at hcall
      have HTT : Hid (t (k + 1) = (L, MM)) := Lib.hid (by rw [HSD.out, if_pos h1])
      clear HSD HN1 h1
      go_wp2_with fail
      refine hcall.mono ?_
      rintro e w9 ⟨rfl, rfl⟩
      have hO8 := HO.out.below hB8
      have hK8 := HKM.out.below hB8
      have hU8 := HKU.out.below hB8
      go_wp2
      go_roundw
      case rel => exact ⟨k + 1, Am, cm, Al, cl, by omega, by go_num, rfl, by rw [HTT.out], by rw [HTT.out]; exact hO8, by rw [HTT.out]; exact hK8, k8, by rw [HTT.out]; exact hU8⟩
      case measure => simp [intOf]; omega
    · rw [HZE.out, decide_eq_false h1] at hcall
      have HS2 : Hid (t (k + 1) = if pairL P sq dl dl = 0 then (L ++ [plusL P W E 1, E], timesM P (rmatL P sq n E) (timesM P (rmatL P sq n (plusL P W E 1)) MM)) else (L ++ [dl], timesM P (rmatL P sq n dl) MM)) := Lib.hid (by rw [HSD.out, if_neg h1])
      clear HSD h1
      go_wp2_with fail
      refine hcall.mono ?_
      rintro e w9 ⟨rfl, rfl⟩
      clear hcall
      have hO7 := HO.out.below hB8
      have hKM7 := HKM.out.below hB8
      have hKU7 := HKU.out.below hB8
      have he8 := HRE0.out.below hB8
      obtain ⟨q0, q1⟩ := k8.two
      have hcall := norm_any P A n c sq Ad cd dl w8 (by omega) hp2 hd2 (HA.out.below hO7.b) HQ.out HD8.out.rd HDK.out.2
      obtain ⟨z, hz⟩ : ∃ z, z = pairL P sq dl dl := ⟨_, rfl⟩
      rw [← hz] at hcall HS2
      by_cases hz0 : z = 0
      · have e8 : (z != 0) = false := by simp [hz0]
        rw [if_pos hz0] at HS2
        clear hz hz0
        go_wp2_with fail
        refine hcall.mono ?_
        rintro e w9 ⟨rfl, hb9⟩
        have hw9 := HW8.out.below hb9
        have he9 := he8.below hb9
        have k9 := k8.below hb9 k8.lt
        clear hcall q0 q1 HD8 HDK
        obtain ⟨q0, q1⟩ := k9.two
        go_wp2_with fail
        refine (field_any P A n c w9).mono ?_
        rintro e w10 ⟨rfl, hb10⟩
        have hb11 := hb9.trans (hb10.mono hb9.size)
        obtain ⟨dl2, hdl⟩ : ∃ x, x = plusL P W E 1 := ⟨_, rfl⟩
        have hcall := plus_any P Aw n cw Ae n ce 1 W E w10 (by omega) hp2 (by omega) (Nat.le_refl _) (hw9.below hb10) HWK.out.2 (he9.below hb10).rd HEK.out.2 (by omega) (by omega)
        have hdok : dl2.length = n ∧ NumsL P dl2 := by rw [hdl]; exact ⟨(plusL_len _ _ _ _).trans HWK.out.1, plusL_nums (by omega) _ _ _⟩
        rw [← hdl] at HS2 hcall
        have HDK := Lib.hid hdok
        have hNN := HN1.out
        rw [HS2.out] at hNN
        have HNE := Lib.hid (show (¬ pairL P sq dl2 dl2 = 0) ∧ ¬ pairL P sq E E = 0 from ⟨(hNN.2.1 dl2 (by simp)).2.2, (hNN.2.1 E (by simp)).2.2⟩)
        clear hdl hdok hNN HN1
        go_wp2_with fail
        refine hcall.mono ?_
        rintro e w11 ⟨Ad, cd, rfl, hM11⟩
        have hb12 := hb11.trans (hM11.b.mono hb11.size)
        have HD10 := Lib.hid (show Own w11 0 2 Ad n cd (ints dl2) from hM11.2.base (Nat.zero_le _))
        have HO7 := Lib.hid (hO7.below hb12)
        have HKM7 := Lib.hid (hKM7.below hb12)
        have HKU7 := Lib.hid (hKU7.below hb12)
        have k10 := k8.below hb12 k8.lt
        have HE10 := Lib.hid (he8.below hb12)
        have HLB := Lib.hid (show L.length ≤ 1099511627700 by have := HLN.out; omega)
        clear hcall q0 q1 k8 k9 hM11 hO7 hKM7 hKU7 he8 he9 hw9 hb9 hb10 hb11 hb12 HW8
        obtain ⟨q0, q1⟩ := k10.two
        go_wp2_with (at_builtin; (refine wpList_appTwoO w w11 rfl _ _ rfl Al L.length cl L Ad n cd dl2 Ae n ce E HO7.out HD10.out HE10.out HLB.out rfl ?_ ?_; (go_simp); intro A20 c20 wq hO20 hg20 hat20))
        have hB7 := hO20.b
        have hKM20 := HKM7.out.app (m' := L.length + 2) (d' := c20) HO7.out hg20 hB7 (Nat.le_refl _) hat20
        have hKU20 := KU.app (m' := L.length + 2) (d' := c20) HKU7.out HO7.out hg20 hB7 (Nat.le_refl _) hat20
        have hd20 := HO7.out.keepO HD10.out hg20
        have he20 := HO7.out.keepO HE10.out hg20
        have k9 := k10.grown hg20 (HO7.out.ne_blk k10 (by decide))
        have HRM := Lib.hid (hKM20.rd hB7)
        have HRF := Lib.hid fun (w' : World) (h : Below wq.heap.size wq w') => reflection_any P A n c sq Ad cd dl2 w' HPP.out hd2 hd1 ((HA.out.below hB7).below h) HQ.out (hd20.below h).rd HDK.out.2 HNE.out.1
        have HRE := Lib.hid fun (w' : World) (h : Below wq.heap.size wq w') => reflection_any P A n c sq Ae ce E w' HPP.out hd2 hd1 ((HA.out.below hB7).below h) HQ.out (he20.below h).rd HEK.out.2 HNE.out.2
        have HTI := Lib.hid fun (w' : World) (B : Option Addr) (d' : Nat) (h : Below wq.heap.size wq w') (hb : RdII w' B n (rmatL P sq n dl2)) => timesM_any P B n d' (rmatL P sq n dl2) Am cm MM w' (by omega) hp2 hd1 (by omega) hb (rmatL_tab (by omega) sq n dl2) (HRM.out.below h) HTM.out
        have HT2 := Lib.hid fun (w' : World) (B : Option Addr) (d' : Nat) (C : Option Addr) (f : Nat) (hb : RdII w' B n (rmatL P sq n E)) (hc : RdII w' C n (timesM P (rmatL P sq n dl2) MM)) => timesM_any P B n d' (rmatL P sq n E) C f (timesM P (rmatL P sq n dl2) MM) w' (by omega) hp2 hd1 (by omega) hb (rmatL_tab (by omega) sq n E) hc (timesM_tab (by omega) hd1 HTM.out HML.out)
        have HTT := HS2
        have hO7 := hO20
        have HKU9 := Lib.hid hKU20
        clear HS2 hO20 hg20 hat20 hKM20 hKU20 hd20 he20 HO7 HKM7 HKU7 HD10 HE10 k10 q0 q1
        obtain ⟨q0, q1⟩ := k9.two
        go_wp2
        refine wp_obs 13 [[],[0],[],[],[2,3],[],[5],[],[],[7,8],[],[5,6,7,8,9,10],[0,1,2,3,4,5,6,7,8,9,10,11],[0,1,2,3,4,5,6,7,8,9,10,11,12]] [VIs (.agg #[.int .i64 P, .slice A n c]), VIs (.int .i64 (P)), VIs (.agg #[.int .i64 P, .slice A n c]), VIs (.slice Ae n ce), VMat wq n (rmatL P sq n E), VIs (.agg #[.int .i64 P, .slice A n c]), VIs (.int .i64 (P)), VIs (.agg #[.int .i64 P, .slice A n c]), VIs (.slice Ad n cd), VMat wq n (rmatL P sq n dl2), VIs (.slice Am n cm), VMat wq n (timesM P (rmatL P sq n dl2) MM), VMat wq n (timesM P (rmatL P sq n E) (timesM P (rmatL P sq n dl2) MM))] (fun w' => Blk w' w.heap.size 26 #[.int .i64 P, .slice A n c] ∧ Below wq.heap.size wq w') (by kernel_rfl) (by kernel_rfl) (fun _ _ h hb => ⟨h.1.below hb h.1.lt, h.2.trans (hb.mono h.2.size)⟩) (⟨k9.drew, zG.drew⟩) (fun x => ?_)
        refine zS (fun w' hS hV K hK => ?_) ?_
        · obtain ⟨q0, q1⟩ := hS.1.two; go_simp; exact zO hK
        refine zS (fun w' hS hV K hK => ?_) ?_
        · have e0 := zQ hV 0; obtain ⟨q0, q1⟩ := hS.1.two; go_simp; refine (field_any P A n c w').mono ?_; rintro e v1 ⟨rfl, hb⟩; exact hK.out _ _ _ rfl rfl rfl hb
        refine zS (fun w' hS hV K hK => ?_) ?_
        · obtain ⟨q0, q1⟩ := hS.1.two; go_simp; exact zO hK
        refine zS (fun w' hS hV K hK => ?_) ?_
        · obtain ⟨q0, q1⟩ := hS.1.two; go_simp; exact zO hK
        refine zS (fun w' hS hV K hK => ?_) ?_
        · have e2 := zQ hV 2; have e3 := zQ hV 3; obtain ⟨q0, q1⟩ := hS.1.two; go_simp; refine (HRE.out w' hS.2).mono ?_; rintro e v1 ⟨A9, c9, rfl, hM⟩; exact hK.out _ _ _ rfl rfl ⟨_, _, rfl, hM.after hS.2⟩ hM.b
        refine zS (fun w' hS hV K hK => ?_) ?_
        · obtain ⟨q0, q1⟩ := hS.1.two; go_simp; exact zO hK
        refine zS (fun w' hS hV K hK => ?_) ?_
        · have e5 := zQ hV 5; obtain ⟨q0, q1⟩ := hS.1.two; go_simp; refine (field_any P A n c w').mono ?_; rintro e v1 ⟨rfl, hb⟩; exact hK.out _ _ _ rfl rfl rfl hb
        refine zS (fun w' hS hV K hK => ?_) ?_
        · obtain ⟨q0, q1⟩ := hS.1.two; go_simp; exact zO hK
        refine zS (fun w' hS hV K hK => ?_) ?_
        · obtain ⟨q0, q1⟩ := hS.1.two; go_simp; exact zO hK
        refine zS (fun w' hS hV K hK => ?_) ?_
        · have e7 := zQ hV 7; have e8 := zQ hV 8; obtain ⟨q0, q1⟩ := hS.1.two; go_simp; refine (HRF.out w' hS.2).mono ?_; rintro e v1 ⟨A9, c9, rfl, hM⟩; exact hK.out _ _ _ rfl rfl ⟨_, _, rfl, hM.after hS.2⟩ hM.b
        refine zS (fun w' hS hV K hK => ?_) ?_
        · obtain ⟨q0, q1⟩ := hS.1.two; go_simp; exact zO hK
        refine zS (fun w' hS hV K hK => ?_) ?_
        · have e6 := zQ hV 6; obtain ⟨A9, c9, e9, h9⟩ := hV 9 (by decide); have e10 := zQ hV 10; obtain ⟨q0, q1⟩ := hS.1.two; go_simp; refine (HTI.out w' _ _ hS.2 h9.rd).mono ?_; rintro e v1 ⟨A9, c9, rfl, hM⟩; exact hK.out _ _ _ rfl rfl ⟨_, _, rfl, hM.after hS.2⟩ hM.b
        refine zS (fun w' hS hV K hK => ?_) ?_
        · have e1 := zQ hV 1; obtain ⟨A4, c4, e4, h4⟩ := hV 4 (by decide); obtain ⟨A9, c9, e9, h9⟩ := hV 9 (by decide); obtain ⟨A11, c11, e11, h11⟩ := hV 11 (by decide); obtain ⟨q0, q1⟩ := hS.1.two; go_simp; refine (HT2.out w' _ _ _ _ h4.rd h11.rd).mono ?_; rintro e v1 ⟨A9, c9, rfl, hM⟩; exact hK.out _ _ _ rfl rfl ⟨_, _, rfl, hM.after hS.2⟩ hM.b
        refine fun w' hS hV => ?_
        have e0 := zT hV 0
        have e1 := zT hV 1
        have e2 := zT hV 2
        have e3 := zT hV 3
        obtain ⟨A4, c4, e4, h4⟩ := hV 4 (by decide)
        have e5 := zT hV 5
        have e6 := zT hV 6
        have e7 := zT hV 7
        have e8 := zT hV 8
        obtain ⟨A9, c9, e9, h9⟩ := hV 9 (by decide)
        have e10 := zT hV 10
        obtain ⟨A11, c11, e11, h11⟩ := hV 11 (by decide)
        obtain ⟨A12, c12, e12, h12⟩ := hV 12 (by decide)
        simp only [e0, e1, e2, e3, e4, e5, e6, e7, e8, e9, e10, e11, e12]
        clear e0 e1 e2 e3 e4 e5 e6 e7 e8 e9 e10 e11 e12
        refine any_one (j := 13) (by kernel_rfl) (Eq.trans (by simp only [zA, zB, zC]; exact rfl) rfl) (fun K hK => ?_)
        go_simp
        refine hK.out _ _ (wpAny_done (by kernel_rfl) ?_ _)
        have hbq := hS.2
        have k8 := hS.1
        obtain ⟨wn, rfl⟩ : ∃ W, W = w' := ⟨_, rfl⟩
        have hO8 := hO7.below hbq
        have hU8 := HKU9.out.below hbq
        have hK8 := KM.new h12 hO7 hB7
        clear hS HRF HRE HTI HT2 k9 q0 q1
        go_wp2
        go_roundw
        case rel => exact ⟨k + 1, A12, c12, A20, c20, by omega, by go_num, rfl, by rw [HTT.out]; simp, by rw [HTT.out]; simpa using hO8, by rw [HTT.out]; simpa using hK8, k8, by rw [HTT.out]; simpa using hU8⟩
        case measure => simp [intOf]; omega
      · have e8 : (z != 0) = true := by simp [hz0]
        rw [if_neg hz0] at HS2
        have HNE := Lib.hid (show ¬ pairL P sq dl dl = 0 by rw [← hz]; exact hz0)
        clear hz hz0 HN1
        go_wp2_with fail
        refine hcall.mono ?_
        rintro e w9 ⟨rfl, hb9⟩
        have HO7 := Lib.hid (hO7.below hb9)
        have HKM7 := Lib.hid (hKM7.below hb9)
        have HKU7 := Lib.hid (hKU7.below hb9)
        have HD10 := Lib.hid (HD8.out.below hb9)
        have k10 := k8.below hb9 k8.lt
        have HLB := Lib.hid (show L.length ≤ 1099511627776 by have := HLN.out; omega)
        clear hcall q0 q1 k8 hb9 hO7 hKM7 hKU7 HD8 he8 HW8
        obtain ⟨q0, q1⟩ := k10.two
        go_wp2_with (at_builtin; (refine wpList_appRowO w w9 rfl _ _ rfl Al L.length cl L Ad n cd dl HO7.out HD10.out HLB.out rfl ?_ ?_; (go_simp); intro A20 c20 wq hO20 hg20 hat20))
        have hB7 := hO20.b
        have hKM20 := HKM7.out.app (m' := L.length + 1) (d' := c20) HO7.out hg20 hB7 (Nat.le_refl _) hat20
        have hKU20 := KU.app (m' := L.length + 1) (d' := c20) HKU7.out HO7.out hg20 hB7 (Nat.le_refl _) hat20
        have hd20 := HO7.out.keepO HD10.out hg20
        have k9 := k10.grown hg20 (HO7.out.ne_blk k10 (by decide))
        have HRM := Lib.hid (hKM20.rd hB7)
        have HRF := Lib.hid fun (w' : World) (h : Below wq.heap.size wq w') => reflection_any P A n c sq Ad cd dl w' HPP.out hd2 hd1 ((HA.out.below hB7).below h) HQ.out (hd20.below h).rd HDK.out.2 HNE.out
        have HTI := Lib.hid fun (w' : World) (B : Option Addr) (d' : Nat) (h : Below wq.heap.size wq w') (hb : RdII w' B n (rmatL P sq n dl)) => timesM_any P B n d' (rmatL P sq n dl) Am cm MM w' (by omega) hp2 hd1 (by omega) hb (rmatL_tab (by omega) sq n dl) (HRM.out.below h) HTM.out
        have HTT := HS2
        have hO7 := hO20
        have HKU9 := Lib.hid hKU20
        clear HS2 hO20 hg20 hat20 hKM20 hKU20 hd20 HO7 HKM7 HKU7 HD10 k10 q0 q1
        obtain ⟨q0, q1⟩ := k9.two
        go_wp2
        refine wp_obs 7 [[],[0],[],[],[2,3],[],[0,1,2,3,4,5],[0,1,2,3,4,5,6]] [VIs (.agg #[.int .i64 P, .slice A n c]), VIs (.int .i64 (P)), VIs (.agg #[.int .i64 P, .slice A n c]), VIs (.slice Ad n cd), VMat wq n (rmatL P sq n dl), VIs (.slice Am n cm), VMat wq n (timesM P (rmatL P sq n dl) MM)] (fun w' => Blk w' w.heap.size 26 #[.int .i64 P, .slice A n c] ∧ Below wq.heap.size wq w') (by kernel_rfl) (by kernel_rfl) (fun _ _ h hb => ⟨h.1.below hb h.1.lt, h.2.trans (hb.mono h.2.size)⟩) (⟨k9.drew, zG.drew⟩) (fun x => ?_)
        refine zS (fun w' hS hV K hK => ?_) ?_
        · obtain ⟨q0, q1⟩ := hS.1.two; go_simp; exact zO hK
        refine zS (fun w' hS hV K hK => ?_) ?_
        · have e0 := zQ hV 0; obtain ⟨q0, q1⟩ := hS.1.two; go_simp; refine (field_any P A n c w').mono ?_; rintro e v1 ⟨rfl, hb⟩; exact hK.out _ _ _ rfl rfl rfl hb
        refine zS (fun w' hS hV K hK => ?_) ?_
        · obtain ⟨q0, q1⟩ := hS.1.two; go_simp; exact zO hK
        refine zS (fun w' hS hV K hK => ?_) ?_
        · obtain ⟨q0, q1⟩ := hS.1.two; go_simp; exact zO hK
        refine zS (fun w' hS hV K hK => ?_) ?_
        · have e2 := zQ hV 2; have e3 := zQ hV 3; obtain ⟨q0, q1⟩ := hS.1.two; go_simp; refine (HRF.out w' hS.2).mono ?_; rintro e v1 ⟨A9, c9, rfl, hM⟩; exact hK.out _ _ _ rfl rfl ⟨_, _, rfl, hM.after hS.2⟩ hM.b
        refine zS (fun w' hS hV K hK => ?_) ?_
        · obtain ⟨q0, q1⟩ := hS.1.two; go_simp; exact zO hK
        refine zS (fun w' hS hV K hK => ?_) ?_
        · have e1 := zQ hV 1; obtain ⟨A4, c4, e4, h4⟩ := hV 4 (by decide); have e5 := zQ hV 5; obtain ⟨q0, q1⟩ := hS.1.two; go_simp; refine (HTI.out w' _ _ hS.2 h4.rd).mono ?_; rintro e v1 ⟨A9, c9, rfl, hM⟩; exact hK.out _ _ _ rfl rfl ⟨_, _, rfl, hM.after hS.2⟩ hM.b
        refine fun w' hS hV => ?_
        have e0 := zT hV 0
        have e1 := zT hV 1
        have e2 := zT hV 2
        have e3 := zT hV 3
        obtain ⟨A4, c4, e4, h4⟩ := hV 4 (by decide)
        have e5 := zT hV 5
        obtain ⟨A6, c6, e6, h6⟩ := hV 6 (by decide)
        simp only [e0, e1, e2, e3, e4, e5, e6]
        clear e0 e1 e2 e3 e4 e5 e6
        refine any_one (j := 7) (by kernel_rfl) (Eq.trans (by simp only [zA, zB, zC]; exact rfl) rfl) (fun K hK => ?_)
        go_simp
        refine hK.out _ _ (wpAny_done (by kernel_rfl) ?_ _)
        have hbq := hS.2
        have k8 := hS.1
        obtain ⟨wn, rfl⟩ : ∃ W, W = w' := ⟨_, rfl⟩
        have hO8 := hO7.below hbq
        have hU8 := HKU9.out.below hbq
        have hK8 := KM.new h6 hO7 hB7
        clear hS HRF HTI k9 q0 q1
        go_wp2
        go_roundw
        case rel => exact ⟨k + 1, A6, c6, A20, c20, by omega, by go_num, rfl, by rw [HTT.out]; simp, by rw [HTT.out]; simpa using hO8, by rw [HTT.out]; simpa using hK8, k8, by rw [HTT.out]; simpa using hU8⟩
        case measure => simp [intOf]; omega
  · obtain rfl : k = n := by omega
    rw [HTN.out] at hO ⊢
    go_wp2
    go_ret
    exact ⟨_, _, rfl, hO⟩
set_option maxHeartbeats 1600000 in
set_option maxRecDepth 8000 in
theorem VersorOfMatrix_ok (P : Int) (A : Option Addr) (n c : Nat) (sq : List Int) (D : Option Addr) (d : Nat) (M : List (List Int)) (w : World) (hsp : isSp P sq = true) (hreg : regB sq = true) (ha : Rd w A n (ints sq)) (hd : RdII w D n M) (hiso : isoB P sq M = true) :
    Calls Tryz.prog 19 #[.agg #[.int .i64 P, .slice A n c], .slice D n d] w fun e w' => ∃ (A' : Option Addr) (c' : Nat), e = .returned (.tuple #[.slice A' (pw n) c', .int .i64 0]) ∧ MkI w w' A' (pw n) c' (versL P sq n (decL P sq M)) := by
 have hB0 : Below w.heap.size w (w.alloc (.cells #[.int .i64 P, .slice A n c] 26)) := zG.alloc (Nat.le_refl _) _
 have k0 : Blk (w.alloc (.cells #[.int .i64 P, .slice A n c] 26)) w.heap.size 26 #[.int .i64 P, .slice A n c] := Blk.new _ _ _
 have hsl := ha.lenI
 obtain ⟨HP, hd1, hd2, hnum⟩ := isSp_dim hsp
 obtain ⟨hp3, hp2⟩ := isP_ge HP
 obtain ⟨hl, hT⟩ := isoB_frame hiso
 have hall := dec_all HP hd1 (nums_numsL hnum) hreg hT hl hiso
 rw [hsl] at hd1 hd2 hl hT
 have hck := checkOrthogonal_any P A n c sq D n d M n (w.alloc (.cells #[.int .i64 P, .slice A n c] 26)) (by omega) hd1 (by omega) hd1 (by omega) (ha.below hB0) (hd.below hB0) (Rect.of_tab hT)
 rw [codeO_mk hsp hreg hiso] at hck
 have hdc := Lib.hid fun w' (h : Below w.heap.size w w') => decomposition_any P A n c sq D d M w' hsp hreg (ha.below h) (hd.below h) hiso
 obtain ⟨L, hL⟩ : ∃ L, L = decL P sq M := ⟨_, rfl⟩
 rw [← hL] at hdc hall ⊢
 have HTL : Hid (Tab P n L) := Lib.hid fun v hv => by have := hall.2.1 v hv; exact ⟨by omega, this.2.1⟩
 have hlen : L.length ≤ 2 * n := by rw [← hsl]; exact hall.1
 have HQ := Lib.hid (nums_numsL hnum)
 have HPP := Lib.hid HP
 have HA := Lib.hid ha
 clear hall hsp hreg hiso hT hl hnum HP hL hd ha
 go_enter Tryz.func19, Tryz.ntmps19
 obtain ⟨q0, q1⟩ := k0.two
 go_wp2_with fail
 refine hck.mono ?_
 rintro e w2 ⟨rfl, hb2⟩
 have hB2 := hB0.trans (hb2.mono hB0.size)
 have k2 := k0.below hb2 k0.lt
 clear q0 q1
 have hdc2 := Lib.hid fun w' (h : Below w2.heap.size w2 w') => hdc.out w' (hB2.trans (h.mono hB2.size))
 have HVE := Lib.hid fun w' (A3 : Option Addr) (c3 : Nat) (h : Below w2.heap.size w2 w') (r3 : RdII w' A3 L.length L) => versor_any P A n c sq A3 L.length c3 L w' HPP.out hd2 hd1 (by omega) (HA.out.below (hB2.trans (h.mono hB2.size))) HQ.out r3 HTL.out
 clear hdc hck k0 hB0
 go_wp2
 refine wp_obs 7 [[],[],[],[1,2],[0,1,2,3],[0,1,2,3,4],[]] [VIs (.agg #[.int .i64 P, .slice A n c]), VIs (.agg #[.int .i64 P, .slice A n c]), VIs (.slice D n d), VRow L.length L, VSl w2 (pw n) (versL P sq n L), VSl w2 (pw n) (versL P sq n L), VIs (.int .i64 0)] (fun w' => Blk w' w.heap.size 26 #[.int .i64 P, .slice A n c] ∧ Below w2.heap.size w2 w') (by kernel_rfl) (by kernel_rfl) (fun _ _ h hb => ⟨h.1.below hb h.1.lt, h.2.trans (hb.mono h.2.size)⟩) (⟨k2.drew, zG.drew⟩) (fun x => ?_)
 refine zS (fun w' hS hV K hK => ?_) ?_
 · obtain ⟨q0, q1⟩ := hS.1.two; go_simp; exact zO hK
 refine zS (fun w' hS hV K hK => ?_) ?_
 · obtain ⟨q0, q1⟩ := hS.1.two; go_simp; exact zO hK
 refine zS (fun w' hS hV K hK => ?_) ?_
 · obtain ⟨q0, q1⟩ := hS.1.two; go_simp; exact zO hK
 refine zS (fun w' hS hV K hK => ?_) ?_
 · have e1 := zQ hV 1; have e2 := zQ hV 2; obtain ⟨q0, q1⟩ := hS.1.two; go_simp; refine (hdc2.out w' hS.2).mono ?_; rintro e v1 ⟨A9, c9, rfl, hM⟩; exact hK.out _ _ _ rfl rfl ⟨_, _, rfl, hM.rd⟩ hM.b
 refine zS (fun w' hS hV K hK => ?_) ?_
 · have e0 := zQ hV 0; obtain ⟨A3, c3, e3, h3⟩ := hV 3 (by decide); obtain ⟨q0, q1⟩ := hS.1.two; go_simp; refine (HVE.out w' _ _ hS.2 h3).mono ?_; rintro e v1 ⟨A9, c9, rfl, hM⟩; exact hK.out _ _ _ rfl rfl ⟨_, _, rfl, hM.after hS.2⟩ hM.b
 refine zS (fun w' hS hV K hK => ?_) ?_
 · obtain ⟨A3, c3, e3, h3⟩ := hV 3 (by decide); obtain ⟨A4, c4, e4, h4⟩ := hV 4 (by decide); obtain ⟨q0, q1⟩ := hS.1.two; go_simp; exact hK.out _ _ _ rfl rfl ⟨_, _, rfl, h4⟩ zG
 refine zS (fun w' hS hV K hK => ?_) ?_
 · obtain ⟨q0, q1⟩ := hS.1.two; go_simp; exact zO hK
 refine fun w' hS hV => ?_
 have e0 := zT hV 0
 have e1 := zT hV 1
 have e2 := zT hV 2
 obtain ⟨A3, c3, e3, h3⟩ := hV 3 (by decide)
 obtain ⟨A4, c4, e4, h4⟩ := hV 4 (by decide)
 obtain ⟨A5, c5, e5, h5⟩ := hV 5 (by decide)
 have e6 := zT hV 6
 simp only [e0, e1, e2, e3, e4, e5, e6]
 clear e0 e1 e2 e3 e4 e5 e6
 refine wpAny_done (by kernel_rfl) ?_ _
 have hM := h5.after hB2
 clear hS
 go_wp2
 go_ret2
 exact ⟨_, _, rfl, hM⟩
set_option maxRecDepth 8000 in
theorem unit5_any (n : Nat) (w : World) (hn : n ≤ 65536) :
    Calls Tryz.prog 18 #[.int .i64 n] w fun e w' => ∃ A c, e = .returned (.slice A n c) ∧ MkII w w' A n c (unitM n) := by
 have hmk := make_i (P := Tryz.prog) 24 2 Tryz.underlying24 info_i n (by omega)
 have hM0 : MkII w (w.alloc (.cells #[] 24)) (some ⟨w.heap.size, 0, none⟩) 0 0 [] := MkII.empty zG
 go_enter Tryz.func18, Tryz.ntmps18
 go_wp2
 go_loopw [3, 4] (fun out i wr => ∃ (k : Nat) (A : Option Addr) (c : Nat), k ≤ n ∧ i = .int .i64 k ∧ out = .slice A k c ∧ MkII w wr A k c ((unitM n).take k)) (fun _ i _ => n - (intOf i).toNat)
 case atStart => exact ⟨0, _, _, by omega, rfl, rfl, by simpa using hM0⟩
 case round =>
  obtain ⟨k, A, c, hk, rfl, rfl, hM⟩ := hrel
  clear hM0
  by_cases hlt : k < n
  · have hm1 := Mk.made (E := 2) (n := n) (z := .int .i64 0) (Below.refl wr.heap.size wr) (by simp only [maxLen]; omega)
    rw [ints_replicate] at hm1
    obtain ⟨u1, hc1⟩ := hm1.2.cellI hlt
    have hf1 := hm1.2.frozen_ k
    have hm2 := (hm1.set k (.int .i64 1)).1
    rw [ints_set, World.setCell_alloc_at _ _ _ _ _ rfl] at hm2
    have HM := Lib.hid hM
    have HM2 := Lib.hid hm2
    clear hM hm1 hm2
    go_wp2_with (at_builtin; refine wpList_appRow w wr _ rfl _ _ rfl A k c _ _ n n _ HM.out HM2.out (by omega) rfl ?_ ?_; (go_simp); intro A' c' w' hM')
    go_roundw
    case rel => exact ⟨k + 1, A', c', by omega, by go_num, rfl, by rw [unitM_take n k hlt]; exact hM'⟩
    case measure => simp [intOf]; omega
  · go_wp2
    go_ret
    obtain rfl : k = n := by omega
    rw [List.take_of_length_le (by rw [unitM_len]; omega)] at hM
    exact ⟨_, _, rfl, hM⟩
end Go.Proofs.YtmkjdpnoloofjaaGreat
namespace Go.Proofs.YtmkjdpnoloofjaaGreat
/-- Powers of a matrix. -/
def powL (p : Int) (n : Nat) (M : List (List Int)) : Nat → List (List Int)
 | 0 => unitM n
 | k + 1 => timesM p (powL p n M k) M
/-- The first power from k on that is the unit matrix, among so many. -/
def ordS (p : Int) (n : Nat) (M : List (List Int)) : Nat → Nat → Option Nat
 | 0, _ => none
 | f + 1, k => if powL p n M k = unitM n then some k else ordS p n M f (k + 1)
/-- The order, and the code. -/
def ordV : Option Nat → Int × Int
 | some k => (k, 0)
 | none => (0, 3)
def ordR (p : Int) (sq : List Int) (M : List (List Int)) : Int × Int := if codeO p sq M = 0 then ordV (ordS p sq.length M 100000 1) else (0, codeO p sq M)
/-- A matrix less the unit matrix. -/
def lessM (p : Int) (n : Nat) (M : List (List Int)) : List (List Int) := tab n fun i => plusL p (M.getD i []) (unitRow n i) (-1)
def fixR (p : Int) (sq : List Int) (M : List (List Int)) : List (List Int) × Int := if codeO p sq M = 0 then (kernL p (lessM p sq.length M) sq.length, 0) else ([], codeO p sq M)
section
variable {p : Int} {n : Nat} {M : List (List Int)}
theorem ordS_hit {f k : Nat} (h : powL p n M k = unitM n) : ordS p n M (f + 1) k = some k := by unfold ordS; rw [if_pos h]
theorem ordS_go {f k : Nat} (h : ¬ powL p n M k = unitM n) : ordS p n M (f + 1) k = ordS p n M f (k + 1) := by
 conv => lhs; unfold ordS
 rw [if_neg h]
theorem ordS_some : ∀ (f k : Nat) {j : Nat}, ordS p n M f k = some j → powL p n M j = unitM n ∧ k ≤ j ∧ j < k + f ∧ ∀ i, k ≤ i → i < j → ¬ powL p n M i = unitM n
 | 0, k, j, h => by simp [ordS] at h
 | f + 1, k, j, h => by
  by_cases hk : powL p n M k = unitM n
  · rw [ordS_hit hk] at h
    obtain rfl := Option.some.inj h
    exact ⟨hk, by omega, by omega, fun i h1 h2 => by omega⟩
  · rw [ordS_go hk] at h
    obtain ⟨h1, h2, h3, h4⟩ := ordS_some f (k + 1) h
    refine ⟨h1, by omega, by omega, fun i hi hj => ?_⟩
    by_cases e : i = k
    · rw [e]; exact hk
    · exact h4 i (by omega) hj
/-- Powers in the ring. -/
def Mt.pw (x : Mt p n) : Nat → Mt p n
 | 0 => Mt.one x.pos
 | k + 1 => Mt.pw x k * x
theorem Mt.pw_l (hp : 2 ≤ p) (h0 : 0 < n) (x : Mt p n) : ∀ k, (Mt.pw x k).l = powL p n x.l k
 | 0 => Mt.one_l hp
 | k + 1 => by
  show (Mt.pw x k * x).l = timesM p (powL p n x.l k) x.l
  rw [Mt.mul_l _ _ h0, Mt.pw_l hp h0 x k]
theorem Mt.pw_add (x : Mt p n) (a : Nat) : ∀ b, Mt.pw x (a + b) = Mt.pw x a * Mt.pw x b
 | 0 => (Mt.mul_one _ _).symm
 | b + 1 => by
  show Mt.pw x (a + b) * x = Mt.pw x a * (Mt.pw x b * x)
  rw [Mt.pw_add x a b, Mt.mul_assoc]
theorem Mt.pw_two (x : Mt p n) : ∀ a, Mt.pw x (2 * a) = Mt.pw (x * x) a
 | 0 => rfl
 | a + 1 => by
  show Mt.pw x (2 * a + 2) = Mt.pw (x * x) a * (x * x)
  rw [Mt.pw_add x (2 * a) 2, Mt.pw_two x a]
  congr 1
  show Mt.one _ * x * x = x * x
  rw [Mt.one_mul]
theorem Mt.pw_one (x : Mt p n) : Mt.pw x 1 = x := Mt.one_mul _ x
/-- A step of the binary power. -/
theorem Mt.pw_bin (x y : Mt p n) (k : Nat) : x * Mt.pw y k = (if k % 2 = 1 then x * y else x) * Mt.pw (y * y) (k / 2) := by
 have e : k = k % 2 + 2 * (k / 2) := by omega
 by_cases h : k % 2 = 1
 · rw [if_pos h]
   conv => lhs; rw [e, h, Mt.pw_add, Mt.pw_one, Mt.pw_two]
   rw [Mt.mul_assoc]
 · rw [if_neg h]
   have h0 : k % 2 = 0 := by omega
   conv => lhs; rw [e, h0, Nat.zero_add, Mt.pw_two]
theorem powL_one (hp : 2 ≤ p) (h0 : 0 < n) (hT : Tab p n M) (hl : M.length = n) : powL p n M 1 = M := by
 have := Mt.pw_l hp h0 (Mt.mk' (by omega) hT hl) 1
 rw [Mt.pw_one] at this
 exact this.symm
theorem powL_tab (hp : 2 ≤ p) (h0 : 0 < n) (hT : Tab p n M) (hl : M.length = n) (k : Nat) : Tab p n (powL p n M k) ∧ (powL p n M k).length = n := by
 have e := Mt.pw_l hp h0 (Mt.mk' (by omega) hT hl) k
 change _ = powL p n M k at e
 rw [← e]
 exact ⟨Mt.tab _, Mt.len _⟩
theorem lessM_tab (hp : 0 < p) (hT : Tab p n M) (hl : M.length = n) : Tab p n (lessM p n M) := Tab.tab fun i hi => ⟨by rw [plusL_len]; exact (hT.row (by omega)).1, plusL_nums hp _ _ _⟩
theorem lessM_len : (lessM p n M).length = n := tab_len _ _
/-- What the kernel has is fixed. -/
theorem fix_apply (hP : isP p = true) (hT : Tab p n M) (hl : M.length = n) {v : List Int} (hv : v ∈ kernL p (lessM p n M) n) : applyL p M v = v := by
 have h3 := isP_ge hP
 have hp : 0 < p := by omega
 have hvT := kernL_tab (p := p) (by omega) (lessM p n M) n v hv
 have hO : Orth p n (lessM p n M) fun q => v.getD q 0 := (kernL_sp hP (lessM_tab hp hT hl)).1 (Sp.mem hv)
 refine list_ext_getD 0 (by rw [applyL_len, hl, hvT.1]) fun i hi => ?_
 rw [applyL_len, hl] at hi
 have h1 := hO i (by rw [lessM_len]; exact hi)
 have hrow := hT.row (show i < M.length by omega)
 unfold applyL
 rw [tab_getD (by omega)]
 unfold dotL
 rw [hrow.1]
 refine cg_eq ⟨Int.emod_nonneg _ (by omega), Int.emod_lt_of_pos _ hp⟩ (hvT.2.getD hp i) ?_
 rw [cg_self]
 have e1 : (sumTo n fun q => ent (lessM p n M) i q * v.getD q 0) % p = (sumTo n fun q => (M.getD i []).getD q 0 * v.getD q 0 + -1 * (if i = q then v.getD q 0 else 0)) % p := sumTo_mod p fun q hq => by
  have e : ent (lessM p n M) i q = ((M.getD i []).getD q 0 + -1 * (if i = q then 1 else 0)) % p := by
   unfold ent lessM
   rw [tab_getD hi, plusL_getD _ _ (by rw [hrow.1]; exact hq), unitRow_ent hi hq]
  rw [e]
  refine (cg_mul (cg_self _ _) rfl).trans ?_
  congr 1
  by_cases h : i = q
  · rw [if_pos h, if_pos h]; grind
  · rw [if_neg h, if_neg h]; grind
 rw [e1, sumTo_add, sumTo_mul, sumTo_one i hi fun q _ hne => if_neg fun e => hne e.symm, if_pos rfl] at h1
 obtain ⟨t, ht⟩ := cg_wit.1 (h1.trans (Int.zero_emod p).symm)
 exact cg_wit.2 ⟨t, by omega⟩
end
section
variable {p : Int} {sq : List Int} {M : List (List Int)}
/-- The matrix of the versor's square. -/
theorem dec_square (hsp : isSp p sq = true) (hr : regB sq = true) (hiso : isoB p sq M = true) {n : Nat} (hn : sq.length = n) :
    movR p sq (mulL p sq (versL p sq n (decL p sq M)) (versL p sq n (decL p sq M))) = (timesM p M M, 0) := by
 subst hn
 obtain ⟨hP, hd1, hd2, hnum⟩ := isSp_dim hsp
 have h3 := isP_ge hP
 have hp : 2 ≤ p := by omega
 obtain ⟨hl, hT⟩ := isoB_frame hiso
 obtain ⟨h1, h2, h4⟩ := dec_all hP hd1 (nums_numsL hnum) hr hT hl hiso
 have h4 := h4 hp
 obtain ⟨L, hL⟩ : ∃ L, L = decL p sq M := ⟨_, rfl⟩
 rw [← hL] at h1 h2 h4 ⊢
 have hGG : Good p sq (L ++ L) := fun v hv => by
  rcases List.mem_append.1 hv with h | h <;> exact h2 v h
 have e1 : mulL p sq (versL p sq sq.length L) (versL p sq sq.length L) = versL p sq sq.length (L ++ L) := by
  rw [versL_prod (by omega) hp L h2.nums, versL_prod (by omega) hp (L ++ L) hGG.nums, Cl.prod_append, Cl.mul_l]
 rw [e1]
 obtain ⟨v1, v2⟩ := versL_vers hP hd2 (L ++ L) hGG
 have hvl : (versL p sq sq.length (L ++ L)).length = pw sq.length := versL_len p sq sq.length (L ++ L).length (L ++ L) rfl
 obtain ⟨-, -, c3⟩ := codeVr_mk hsp hr hvl (versL_nums hp _ _ _) v1
 unfold movR
 rw [if_pos c3, vmat_prod hP hp hd1 hd2 hGG]
 have e2 : prodR hp hd1 (L ++ L) = prodR hp hd1 L * prodR hp hd1 L := by
  unfold prodR
  rw [List.foldl_append]
  exact prodR_from hp hd1 L _
 rw [e2, Mt.mul_l _ _ hd1, h4]
end
end Go.Proofs.YtmkjdpnoloofjaaGreat
namespace Go.Proofs.YtmkjdpnoloofjaaGreat
open Go.RowKit
set_option maxHeartbeats 400000 in
set_option maxRecDepth 8000 in
theorem likeInts_any (A B : Option Addr) (n m c d : Nat) (xs ys : List Int) (w : World) (hn : n ≤ 1099511627776) (hm : m ≤ 1099511627776)
    (ha : Rd w A n (ints xs)) (hb : Rd w B m (ints ys)) :
    Calls Tryz.prog 16 #[.slice A n c, .slice B m d] w fun e w' => e = .returned (.bool (decide (xs = ys))) ∧ ∃ j, w' = w.drewN j := by
 have hxl : xs.length = n := by have := ha.1; rwa [ints_length] at this
 have hyl : ys.length = m := by have := hb.1; rwa [ints_length] at this
 by_cases hnm : n = m
 · subst hnm
   have Hx := Lib.hid hxl; clear hxl
   have Hy := Lib.hid hyl; clear hyl
   go_enter Tryz.func16, Tryz.ntmps16
   go_wp2
   go_loopw [5] (fun i wr => ∃ k j : Nat, k ≤ n ∧ i = .int .i64 k ∧ xs.take k = ys.take k ∧ wr = w.drewN j) (fun i _ => n - (intOf i).toNat)
   case atStart => exact ⟨0, 0, by omega, rfl, by simp, rfl⟩
   case round =>
    obtain ⟨k, j, hk, rfl, hxy, rfl⟩ := hrel
    have H := Lib.hid hxy; clear hxy
    by_cases hlt : k < n
    · obtain ⟨g, o, rfl, hx, hcx⟩ := ha.int hlt
      obtain ⟨g', o', rfl, hy, hcy⟩ := hb.int hlt
      clear ha hb
      go_wp2
      go_quiet (fail)
      go_wp2
      · go_ret
        exact ⟨ret_bool (ne_of_get xs ys k hx hy (by assumption)).symm, _, World.drewN_drewN _ _ _⟩
      · go_roundw
        case rel => exact ⟨k + 1, _, by omega, by go_num, take_succ_eq xs ys k hx hy H.out (by simpa using (by assumption : (xs[k] != ys[k]) = false)), rfl⟩
        case measure => simp [intOf]; omega
    · go_wp2
      go_ret
      refine ⟨ret_bool ?_, _, rfl⟩
      have := H.out
      rw [List.take_of_length_le (by rw [Hx.out]; omega), List.take_of_length_le (by rw [Hy.out]; omega)] at this
      rw [this]; simp
 · have hne : decide (xs = ys) = false := by
    rw [decide_eq_false_iff_not]; rintro rfl; omega
   have Hne := Lib.hid hne; clear hne hxl hyl
   have hb0 : ((n : Int) != (m : Int)) = true := by rw [bne_iff_ne]; omega
   go_enter Tryz.func16, Tryz.ntmps16
   go_wp2
   go_ret
   exact ⟨ret_bool Hne.out.symm, 0, rfl⟩
end Go.Proofs.YtmkjdpnoloofjaaGreat

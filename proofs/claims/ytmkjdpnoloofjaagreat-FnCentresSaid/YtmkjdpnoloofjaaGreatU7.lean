/-
  LawFnCentres: part 7 of the texts that the proof needs. No condition.
-/
import Derived.Test.YtmkjdpnoloofjaaGreatU6
namespace Go.Proofs.YtmkjdpnoloofjaaGreat
open Go.RowKit
/-- The square of the full blade. -/
def fsqL (P : Int) (sq : List Int) (n : Nat) : Int := (mulL P sq (bladeL n (pw n - 1)) (bladeL n (pw n - 1))).getD 0 0
/-- StructureOf. -/
def strV (P : Int) (sq : List Int) (n : Nat) : Int × Int × Int := if n % 2 = 0 then (1, (pw (n / 2) : Nat), 1) else if (rootF P (fsqL P sq n) P.toNat 0).isSome then (2, (pw (n / 2) : Nat), 1) else (1, (pw (n / 2) : Nat), 2)
def strR (P : Int) (sq : List Int) : (Int × Int × Int) × Int := if codeA P sq [] = 0 then (if regB sq then (strV P sq sq.length, 0) else ((0, 0, 0), 5)) else ((0, 0, 0), codeA P sq [])
theorem strR_ok {P : Int} {sq : List Int} (h : codeA P sq [] = 0) (hr : regB sq = true) : strR P sq = (strV P sq sq.length, 0) := by unfold strR; rw [if_pos h, if_pos hr]
theorem strR_irr {P : Int} {sq : List Int} (h : codeA P sq [] = 0) (hr : regB sq = false) : strR P sq = ((0, 0, 0), 5) := by unfold strR; rw [if_pos h, hr]; rfl
theorem strR_bad {P : Int} {sq : List Int} (h : ¬ codeA P sq [] = 0) : strR P sq = ((0, 0, 0), codeA P sq []) := by unfold strR; rw [if_neg h]
/-- The value of a tuple of four numbers. -/
def tup4 (R : (Int × Int × Int) × Int) : Value := .tuple #[.int .i64 R.1.1, .int .i64 R.1.2.1, .int .i64 R.1.2.2, .int .i64 R.2]
theorem ret_t4 {R : (Int × Int × Int) × Int} {a b d x : Int} (h : R = ((a, b, d), x)) : Ending.returned (.tuple #[.int .i64 a, .int .i64 b, .int .i64 d, .int .i64 x]) = .returned (tup4 R) := by rw [h]; rfl
theorem ret_t3 {R : Int × Int × Int} {a b d : Int} (h : R = (a, b, d)) : Ending.returned (.tuple #[.int .i64 a, .int .i64 b, .int .i64 d]) = .returned (.tuple #[.int .i64 R.1, .int .i64 R.2.1, .int .i64 R.2.2]) := by rw [h]
set_option maxHeartbeats 1600000 in
set_option maxRecDepth 8000 in
theorem full_any (P : Int) (A : Option Addr) (n c : Nat) (w : World) (hn1 : 1 ≤ n) (hn : n ≤ 6) :
    Calls Tryz.prog 237 #[.agg #[.int .i64 P, .slice A n c]] w fun e w' => ∃ (A' : Option Addr) (c' : Nat), e = .returned (.slice A' (pw n) c') ∧ MkI w w' A' (pw n) c' (bladeL n (pw n - 1)) := by
 have hB0 : Below w.heap.size w (w.alloc (.cells #[.int .i64 P, .slice A n c] 26)) := zG.alloc (Nat.le_refl _) _
 have k0 : Blk (w.alloc (.cells #[.int .i64 P, .slice A n c] 26)) w.heap.size 26 #[.int .i64 P, .slice A n c] := Blk.new _ _ _
 have hpw : pw n ≤ 64 := pw_le hn
 have hpn := pw_pos n
 have hshl : IntKind.i64.wrap (2 ^ n) = (pw n : Int) := by rw [IntWalk.i64_left]; exact wrap_pw n (by omega)
 have W1 : IntKind.i64.wrap ((pw n : Int) - 1) = ((pw n - 1 : Nat) : Int) := by rw [show ((pw n : Int) - 1) = ((pw n - 1 : Nat) : Int) by omega]; exact i64_fit _ (by omega) (by omega)
 go_enter Tryz.func237, Tryz.ntmps237
 go_wp2
 refine wp_obs 7 [[],[],[1],[1,2],[1,2,3],[0,1,2,3,4],[0,1,2,3,4,5]] [VIs (.agg #[.int .i64 P, .slice A n c]), VIs (.agg #[.int .i64 P, .slice A n c]), VIs (.int .i64 (n)), VIs (.int .i64 (pw n)), VIs (.int .i64 ((pw n - 1 : Nat) : Int)), VSl w (pw n) (bladeL n (pw n - 1)), VSl w (pw n) (bladeL n (pw n - 1))] (fun w' => Blk w' w.heap.size 26 #[.int .i64 P, .slice A n c] ∧ Below w.heap.size w w') (by kernel_rfl) (by kernel_rfl) (fun _ _ h hb => ⟨h.1.below hb h.1.lt, h.2.trans (hb.mono h.2.size)⟩) (⟨k0.drew, hB0.drew⟩) (fun x => ?_)
 refine zS (fun w' hS hV K hK => ?_) ?_
 · obtain ⟨q0, q1⟩ := hS.1.two; go_simp; exact zO hK
 refine zS (fun w' hS hV K hK => ?_) ?_
 · obtain ⟨q0, q1⟩ := hS.1.two; go_simp; exact zO hK
 refine zS (fun w' hS hV K hK => ?_) ?_
 · have e1 := zQ hV 1; obtain ⟨q0, q1⟩ := hS.1.two; go_simp; refine (dim_any _ _ _ _ _).mono ?_; rintro e v1 ⟨rfl, hb⟩; exact hK.out _ _ _ rfl rfl rfl hb
 refine zS (fun w' hS hV K hK => ?_) ?_
 · have e2 := zQ hV 2; obtain ⟨q0, q1⟩ := hS.1.two; go_simp; exact zO hK
 refine zS (fun w' hS hV K hK => ?_) ?_
 · have e3 := zQ hV 3; obtain ⟨q0, q1⟩ := hS.1.two; go_simp; exact zO hK
 refine zS (fun w' hS hV K hK => ?_) ?_
 · have e0 := zQ hV 0; have e4 := zQ hV 4; obtain ⟨q0, q1⟩ := hS.1.two; go_simp; refine (blade_any P A n c (pw n - 1) w' (by omega) (by omega)).mono ?_; rintro e v1 ⟨A2, c2, rfl, hM⟩; exact hK.out _ _ _ rfl rfl ⟨_, _, rfl, hM.after hS.2⟩ hM.b
 refine zS (fun w' hS hV K hK => ?_) ?_
 · obtain ⟨A5, c5, e5, h5⟩ := hV 5 (by decide); obtain ⟨q0, q1⟩ := hS.1.two; go_simp; exact hK.out _ _ _ rfl rfl ⟨_, _, rfl, h5⟩ zG
 refine fun w' hS hV => ?_
 have e0 := zT hV 0
 have e1 := zT hV 1
 have e2 := zT hV 2
 have e3 := zT hV 3
 have e4 := zT hV 4
 obtain ⟨A5, c5, e5, h5⟩ := hV 5 (by decide)
 obtain ⟨A6, c6, e6, h6⟩ := hV 6 (by decide)
 simp only [e0, e1, e2, e3, e4, e5, e6]
 clear e0 e1 e2 e3 e4 e5 e6
 refine wpAny_done (by kernel_rfl) ?_ _
 go_wp2
 go_ret
 exact ⟨_, _, rfl, h6⟩
set_option maxHeartbeats 3200000 in
set_option maxRecDepth 8000 in
theorem fullSquare_any (P : Int) (A : Option Addr) (n c : Nat) (sq : List Int) (w : World) (hp : 2 ≤ P) (hp2 : P ≤ 13) (hn1 : 1 ≤ n) (hn : n ≤ 6) (ha : Rd w A n (ints sq)) (hs : NumsL P sq) :
    Calls Tryz.prog 145 #[.agg #[.int .i64 P, .slice A n c]] w fun e w' => e = .returned (.int .i64 (fsqL P sq n)) ∧ Below w.heap.size w w' := by
 have hB0 : Below w.heap.size w (w.alloc (.cells #[.int .i64 P, .slice A n c] 26)) := zG.alloc (Nat.le_refl _) _
 have k0 : Blk (w.alloc (.cells #[.int .i64 P, .slice A n c] 26)) w.heap.size 26 #[.int .i64 P, .slice A n c] := Blk.new _ _ _
 have hpw : pw n ≤ 64 := pw_le hn
 have HTM := Lib.hid (timesL_two P sq n (bladeL n (pw n - 1)) (bladeL n (pw n - 1)) (bladeL_len _ _) (bladeL_nums hp _ _))
 have HAT : Hid (∀ xs ∈ [bladeL n (pw n - 1), bladeL n (pw n - 1)], NumsL P xs ∧ xs.length = pw n) := Lib.hid (all_two ⟨bladeL_nums hp _ _, bladeL_len _ _⟩ ⟨bladeL_nums hp _ _, bladeL_len _ _⟩)
 have HS := Lib.hid hs
 have hlm : (mulL P sq (bladeL n (pw n - 1)) (bladeL n (pw n - 1))).length = pw n := by unfold mulL; rw [prodL_len, bladeL_len]
 have HGE : Hid ((mulL P sq (bladeL n (pw n - 1)) (bladeL n (pw n - 1)))[0]'(by rw [hlm]; exact pw_pos n) = fsqL P sq n) := Lib.hid (by unfold fsqL; rw [getD_of_lt 0 (by rw [hlm]; exact pw_pos n)])
 clear hs
 go_enter Tryz.func145, Tryz.ntmps145
 go_wp2
 refine wp_obs 10 [[],[],[1],[],[3],[1,2,3,4],[0,1,2,3,4,5],[0,1,2,3,4,5,6],[0,1,2,3,4,5,6,7],[0,1,2,3,4,5,6,7,8]] [VIs (.agg #[.int .i64 P, .slice A n c]), VIs (.agg #[.int .i64 P, .slice A n c]), VSl w (pw n) (bladeL n (pw n - 1)), VIs (.agg #[.int .i64 P, .slice A n c]), VSl w (pw n) (bladeL n (pw n - 1)), VRow 2 [bladeL n (pw n - 1), bladeL n (pw n - 1)], VSl w (pw n) (mulL P sq (bladeL n (pw n - 1)) (bladeL n (pw n - 1))), VCell (.int .i64 (fsqL P sq n)), VIs (.int .i64 (fsqL P sq n)), VIs (.int .i64 (fsqL P sq n))] (fun w' => Blk w' w.heap.size 26 #[.int .i64 P, .slice A n c] ∧ Below w.heap.size w w') (by kernel_rfl) (by kernel_rfl) (fun _ _ h hb => ⟨h.1.below hb h.1.lt, h.2.trans (hb.mono h.2.size)⟩) (⟨k0.drew, hB0.drew⟩) (fun x => ?_)
 refine zS (fun w' hS hV K hK => ?_) ?_
 · obtain ⟨q0, q1⟩ := hS.1.two; go_simp; exact zO hK
 refine zS (fun w' hS hV K hK => ?_) ?_
 · obtain ⟨q0, q1⟩ := hS.1.two; go_simp; exact zO hK
 refine zS (fun w' hS hV K hK => ?_) ?_
 · have e1 := zQ hV 1; obtain ⟨q0, q1⟩ := hS.1.two; go_simp; refine (full_any P A n c w' hn1 hn).mono ?_; rintro e v1 ⟨A2, c2, rfl, hM⟩; exact hK.out _ _ _ rfl rfl ⟨_, _, rfl, hM.after hS.2⟩ hM.b
 refine zS (fun w' hS hV K hK => ?_) ?_
 · obtain ⟨q0, q1⟩ := hS.1.two; go_simp; exact zO hK
 refine zS (fun w' hS hV K hK => ?_) ?_
 · have e3 := zQ hV 3; obtain ⟨q0, q1⟩ := hS.1.two; go_simp; refine (full_any P A n c w' hn1 hn).mono ?_; rintro e v1 ⟨A2, c2, rfl, hM⟩; exact hK.out _ _ _ rfl rfl ⟨_, _, rfl, hM.after hS.2⟩ hM.b
 refine zS (fun w' hS hV K hK => ?_) ?_
 · obtain ⟨A2, c2, e2, h2⟩ := hV 2 (by decide); obtain ⟨A4, c4, e4, h4⟩ := hV 4 (by decide); obtain ⟨q0, q1⟩ := hS.1.two; go_simp; have hAl : Below w'.heap.size w' (w'.alloc (.cells #[.slice A2 (pw n) c2, .slice A4 (pw n) c4] 24)) := zG.alloc (Nat.le_refl _) _; exact hK.out _ _ _ rfl rfl ⟨_, _, rfl, rdII_two (Blk.new _ _ _) (h2.rd.below hAl) (h4.rd.below hAl) h2.2.cap h4.2.cap⟩ hAl
 refine zS (fun w' hS hV K hK => ?_) ?_
 · have e0 := zQ hV 0; obtain ⟨A2, c2, e2, h2⟩ := hV 2 (by decide); obtain ⟨A4, c4, e4, h4⟩ := hV 4 (by decide); obtain ⟨A5, c5, e5, h5⟩ := hV 5 (by decide); obtain ⟨q0, q1⟩ := hS.1.two; have htm := HTM.out; go_simp; have hcall := times_any P A n c sq A5 2 c5 [bladeL n (pw n - 1), bladeL n (pw n - 1)] w' hp hp2 hn (by omega) (ha.below hS.2) HS.out h5 HAT.out; rw [HTM.out] at hcall; refine hcall.mono ?_; rintro e v1 ⟨A2, c2, rfl, hM⟩; exact hK.out _ _ _ rfl rfl ⟨_, _, rfl, hM.after hS.2⟩ hM.b
 refine zS (fun w' hS hV K hK => ?_) ?_
 · obtain ⟨A2, c2, e2, h2⟩ := hV 2 (by decide)
   obtain ⟨A4, c4, e4, h4⟩ := hV 4 (by decide)
   obtain ⟨A5, c5, e5, h5⟩ := hV 5 (by decide)
   obtain ⟨A6, c6, e6, h6⟩ := hV 6 (by decide)
   obtain ⟨q0, q1⟩ := hS.1.two
   rcases h6.2.form with ⟨_, hz⟩ | ⟨gc, hgc, _, _⟩
   · exact absurd hz (by have := pw_pos n; omega)
   subst hgc
   obtain ⟨hcell, _⟩ := mkI_at h6 (pw_pos n)
   change _ = some (Value.int .i64 (fsqL P sq n)) at hcell
   have hposI : 0 < pw n := pw_pos n
   go_simp
   exact hK.out _ _ _ rfl rfl ⟨_, rfl, hcell⟩ zG
 refine zS (fun w' hS hV K hK => ?_) ?_
 · obtain ⟨A2, c2, e2, h2⟩ := hV 2 (by decide); obtain ⟨A4, c4, e4, h4⟩ := hV 4 (by decide); obtain ⟨A5, c5, e5, h5⟩ := hV 5 (by decide); obtain ⟨A6, c6, e6, h6⟩ := hV 6 (by decide); obtain ⟨a7, e7, h7⟩ := hV 7 (by decide); obtain ⟨q0, q1⟩ := hS.1.two; go_simp; exact zO hK
 refine zS (fun w' hS hV K hK => ?_) ?_
 · obtain ⟨A2, c2, e2, h2⟩ := hV 2 (by decide); obtain ⟨A4, c4, e4, h4⟩ := hV 4 (by decide); obtain ⟨A5, c5, e5, h5⟩ := hV 5 (by decide); obtain ⟨A6, c6, e6, h6⟩ := hV 6 (by decide); obtain ⟨a7, e7, h7⟩ := hV 7 (by decide); have e8 := zQ hV 8; obtain ⟨q0, q1⟩ := hS.1.two; go_simp; exact zO hK
 refine fun w' hS hV => ?_
 have e0 := zT hV 0
 have e1 := zT hV 1
 obtain ⟨A2, c2, e2, h2⟩ := hV 2 (by decide)
 have e3 := zT hV 3
 obtain ⟨A4, c4, e4, h4⟩ := hV 4 (by decide)
 obtain ⟨A5, c5, e5, h5⟩ := hV 5 (by decide)
 obtain ⟨A6, c6, e6, h6⟩ := hV 6 (by decide)
 obtain ⟨a7, e7, h7⟩ := hV 7 (by decide)
 have e8 := zT hV 8
 have e9 := zT hV 9
 simp only [e0, e1, e2, e3, e4, e5, e6, e7, e8, e9]
 clear e0 e1 e2 e3 e4 e5 e6 e7 e8 e9
 refine wpAny_done (by kernel_rfl) ?_ _
 go_wp2
 go_ret
 exact ⟨rfl, hS.2⟩
set_option maxHeartbeats 1600000 in
set_option maxRecDepth 8000 in
theorem l05Top_any (P : Int) (A : Option Addr) (n c : Nat) (w : World) (hn1 : 1 ≤ n) (hn : n ≤ 6) :
    Calls Tryz.prog 268 #[.agg #[.int .i64 P, .slice A n c], .int .i64 1] w fun e w' => ∃ (A' : Option Addr) (c' : Nat), e = .returned (.slice A' (pw n) c') ∧ MkI w w' A' (pw n) c' (bladeL n (pw n - 1)) := by
 have hB0 : Below w.heap.size w (w.alloc (.cells #[.int .i64 P, .slice A n c] 26)) := zG.alloc (Nat.le_refl _) _
 have k0 : Blk (w.alloc (.cells #[.int .i64 P, .slice A n c] 26)) w.heap.size 26 #[.int .i64 P, .slice A n c] := Blk.new _ _ _
 have hpw : pw n ≤ 64 := pw_le hn
 have hpn := pw_pos n
 have W1 : wrap64 ((pw n : Int) - 1) = ((pw n - 1 : Nat) : Int) := by rw [show ((pw n : Int) - 1) = ((pw n - 1 : Nat) : Int) by omega]; unfold wrap64; omega
 go_enter Tryz.func268, Tryz.ntmps268
 go_wp2_with fail
 refine (l04Zero_any P A n c _ (by omega)).mono ?_
 rintro e w2 ⟨A9, c9, rfl, hM9⟩
 have hM := hM9.after hB0
 rcases hM.2.form with ⟨_, hz⟩ | ⟨g9, rfl, hg9, _⟩
 · omega
 obtain ⟨hoc, hof⟩ := mkI_at hM (show pw n - 1 < pw n by omega)
 have hset := (hM.set (pw n - 1) (.int .i64 1)).1
 rw [ints_set] at hset
 have HSET := Lib.hid hset
 have i1 : (0 : Int) ≤ ((pw n - 1 : Nat) : Int) := by omega
 have i2 : ((pw n - 1 : Nat) : Int) < ((pw n : Nat) : Int) := by omega
 clear hset hM hM9
 go_wp2
 go_ret
 exact ⟨_, _, rfl, HSET.out⟩
set_option maxHeartbeats 3200000 in
set_option maxRecDepth 8000 in
theorem l05Square_any (P : Int) (A : Option Addr) (n c : Nat) (sq : List Int) (w : World) (hp : 2 ≤ P) (hp2 : P ≤ 13) (hn1 : 1 ≤ n) (hn : n ≤ 6) (ha : Rd w A n (ints sq)) (hs : NumsL P sq) :
    Calls Tryz.prog 238 #[.agg #[.int .i64 P, .slice A n c]] w fun e w' => e = .returned (.int .i64 (fsqL P sq n)) ∧ Below w.heap.size w w' := by
 have hB0 : Below w.heap.size w (w.alloc (.cells #[.int .i64 P, .slice A n c] 26)) := zG.alloc (Nat.le_refl _) _
 have k0 : Blk (w.alloc (.cells #[.int .i64 P, .slice A n c] 26)) w.heap.size 26 #[.int .i64 P, .slice A n c] := Blk.new _ _ _
 have hpw : pw n ≤ 64 := pw_le hn
 have HS := Lib.hid hs
 have hlm : (mulL P sq (bladeL n (pw n - 1)) (bladeL n (pw n - 1))).length = pw n := by unfold mulL; rw [prodL_len, bladeL_len]
 have HGE : Hid ((mulL P sq (bladeL n (pw n - 1)) (bladeL n (pw n - 1)))[0]'(by rw [hlm]; exact pw_pos n) = fsqL P sq n) := Lib.hid (by unfold fsqL; rw [getD_of_lt 0 (by rw [hlm]; exact pw_pos n)])
 clear hs
 go_enter Tryz.func238, Tryz.ntmps238
 go_wp2
 refine wp_obs 9 [[],[],[1],[],[3],[0,1,2,3,4],[0,1,2,3,4,5],[0,1,2,3,4,5,6],[0,1,2,3,4,5,6,7]] [VIs (.agg #[.int .i64 P, .slice A n c]), VIs (.agg #[.int .i64 P, .slice A n c]), VSl w (pw n) (bladeL n (pw n - 1)), VIs (.agg #[.int .i64 P, .slice A n c]), VSl w (pw n) (bladeL n (pw n - 1)), VSl w (pw n) (mulL P sq (bladeL n (pw n - 1)) (bladeL n (pw n - 1))), VCell (.int .i64 (fsqL P sq n)), VIs (.int .i64 (fsqL P sq n)), VIs (.int .i64 (fsqL P sq n))] (fun w' => Blk w' w.heap.size 26 #[.int .i64 P, .slice A n c] ∧ Below w.heap.size w w') (by kernel_rfl) (by kernel_rfl) (fun _ _ h hb => ⟨h.1.below hb h.1.lt, h.2.trans (hb.mono h.2.size)⟩) (⟨k0.drew, hB0.drew⟩) (fun x => ?_)
 refine zS (fun w' hS hV K hK => ?_) ?_
 · obtain ⟨q0, q1⟩ := hS.1.two; go_simp; exact zO hK
 refine zS (fun w' hS hV K hK => ?_) ?_
 · obtain ⟨q0, q1⟩ := hS.1.two; go_simp; exact zO hK
 refine zS (fun w' hS hV K hK => ?_) ?_
 · have e1 := zQ hV 1; obtain ⟨q0, q1⟩ := hS.1.two; go_simp; refine (l05Top_any P A n c w' hn1 hn).mono ?_; rintro e v1 ⟨A2, c2, rfl, hM⟩; exact hK.out _ _ _ rfl rfl ⟨_, _, rfl, hM.after hS.2⟩ hM.b
 refine zS (fun w' hS hV K hK => ?_) ?_
 · obtain ⟨q0, q1⟩ := hS.1.two; go_simp; exact zO hK
 refine zS (fun w' hS hV K hK => ?_) ?_
 · have e3 := zQ hV 3; obtain ⟨q0, q1⟩ := hS.1.two; go_simp; refine (l05Top_any P A n c w' hn1 hn).mono ?_; rintro e v1 ⟨A2, c2, rfl, hM⟩; exact hK.out _ _ _ rfl rfl ⟨_, _, rfl, hM.after hS.2⟩ hM.b
 refine zS (fun w' hS hV K hK => ?_) ?_
 · have e0 := zQ hV 0; obtain ⟨A2, c2, e2, h2⟩ := hV 2 (by decide); obtain ⟨A4, c4, e4, h4⟩ := hV 4 (by decide); obtain ⟨q0, q1⟩ := hS.1.two; go_simp; refine (l04Times_any P A n c sq _ _ _ _ _ _ w' hp hp2 hn (ha.below hS.2) HS.out h2.rd (bladeL_nums hp _ _) h4.rd (bladeL_nums hp _ _)).mono ?_; rintro e v1 ⟨A2, c2, rfl, hM⟩; exact hK.out _ _ _ rfl rfl ⟨_, _, rfl, hM.after hS.2⟩ hM.b
 refine zS (fun w' hS hV K hK => ?_) ?_
 · obtain ⟨A2, c2, e2, h2⟩ := hV 2 (by decide)
   obtain ⟨A4, c4, e4, h4⟩ := hV 4 (by decide)
   obtain ⟨A5, c5, e5, h5⟩ := hV 5 (by decide)
   obtain ⟨q0, q1⟩ := hS.1.two
   rcases h5.2.form with ⟨_, hz⟩ | ⟨gc, hgc, _, _⟩
   · exact absurd hz (by have := pw_pos n; omega)
   subst hgc
   obtain ⟨hcell, _⟩ := mkI_at h5 (pw_pos n)
   change _ = some (Value.int .i64 (fsqL P sq n)) at hcell
   have hposI : 0 < pw n := pw_pos n
   go_simp
   exact hK.out _ _ _ rfl rfl ⟨_, rfl, hcell⟩ zG
 refine zS (fun w' hS hV K hK => ?_) ?_
 · obtain ⟨A2, c2, e2, h2⟩ := hV 2 (by decide); obtain ⟨A4, c4, e4, h4⟩ := hV 4 (by decide); obtain ⟨A5, c5, e5, h5⟩ := hV 5 (by decide); obtain ⟨a6, e6, h6⟩ := hV 6 (by decide); obtain ⟨q0, q1⟩ := hS.1.two; go_simp; exact zO hK
 refine zS (fun w' hS hV K hK => ?_) ?_
 · obtain ⟨A2, c2, e2, h2⟩ := hV 2 (by decide); obtain ⟨A4, c4, e4, h4⟩ := hV 4 (by decide); obtain ⟨A5, c5, e5, h5⟩ := hV 5 (by decide); obtain ⟨a6, e6, h6⟩ := hV 6 (by decide); have e7 := zQ hV 7; obtain ⟨q0, q1⟩ := hS.1.two; go_simp; exact zO hK
 refine fun w' hS hV => ?_
 have e0 := zT hV 0
 have e1 := zT hV 1
 obtain ⟨A2, c2, e2, h2⟩ := hV 2 (by decide)
 have e3 := zT hV 3
 obtain ⟨A4, c4, e4, h4⟩ := hV 4 (by decide)
 obtain ⟨A5, c5, e5, h5⟩ := hV 5 (by decide)
 obtain ⟨a6, e6, h6⟩ := hV 6 (by decide)
 have e7 := zT hV 7
 have e8 := zT hV 8
 simp only [e0, e1, e2, e3, e4, e5, e6, e7, e8]
 clear e0 e1 e2 e3 e4 e5 e6 e7 e8
 refine wpAny_done (by kernel_rfl) ?_ _
 go_wp2
 go_ret
 exact ⟨rfl, hS.2⟩
set_option maxHeartbeats 3200000 in
set_option maxRecDepth 8000 in
theorem l09Structure_any (P : Int) (A : Option Addr) (n c : Nat) (sq : List Int) (w : World) (hp : 2 ≤ P) (hp2 : P ≤ 13) (hn1 : 1 ≤ n) (hn : n ≤ 4) (ha : Rd w A n (ints sq)) (hs : NumsL P sq) :
    Calls Tryz.prog 147 #[.agg #[.int .i64 P, .slice A n c]] w fun e w' => e = .returned (.tuple #[.int .i64 (strV P sq n).1, .int .i64 (strV P sq n).2.1, .int .i64 (strV P sq n).2.2]) ∧ Below w.heap.size w w' := by
 have hB0 : Below w.heap.size w (w.alloc (.cells #[.int .i64 P, .slice A n c] 26)) := zG.alloc (Nat.le_refl _) _
 have k0 : Blk (w.alloc (.cells #[.int .i64 P, .slice A n c] 26)) w.heap.size 26 #[.int .i64 P, .slice A n c] := Blk.new _ _ _
 obtain ⟨h, hh⟩ : ∃ h, h = n / 2 := ⟨_, rfl⟩
 obtain ⟨e9, he9⟩ : ∃ e, e = n % 2 := ⟨_, rfl⟩
 have hshl : wrap64 (2 ^ h) = ((pw h : Nat) : Int) := wrap_pw h (by omega)
 have hdv : (n : Int).tdiv 2 = (h : Int) := by rw [Int.tdiv_eq_ediv_of_nonneg (by omega)]; omega
 have hmd : (n : Int).tmod 2 = (e9 : Int) := by rw [Int.tmod_eq_emod_of_nonneg (by omega)]; omega
 have hdv2 : (n : Int) / 2 = (h : Int) := by omega
 have hmd2 : (n : Int) % 2 = (e9 : Int) := by omega
 have he2 : e9 < 2 := by omega
 have HS := Lib.hid hs
 obtain ⟨fs, hfs⟩ : ∃ f, f = fsqL P sq n := ⟨_, rfl⟩
 have HFS : Hid (fsqL P sq n = fs) := Lib.hid hfs.symm
 obtain ⟨sb, hsb⟩ : ∃ b, b = (rootF P fs P.toNat 0).isSome := ⟨_, rfl⟩
 have HSB : Hid (decide (0 ≤ rootI (rootF P fs P.toNat 0)) = sb) := Lib.hid (by
  rw [hsb]
  cases hr : rootF P fs P.toNat 0 with
  | none => rfl
  | some r =>
   have h0 := (rootF_spec P fs _ _ _ hr).1
   simp only [rootI, Option.isSome_some]
   exact decide_eq_true (by omega))
 have HSV : Hid (strV P sq n = if e9 = 0 then (1, ((pw h : Nat) : Int), 1) else if sb = true then (2, ((pw h : Nat) : Int), 1) else (1, ((pw h : Nat) : Int), 2)) := Lib.hid (by unfold strV; rw [HFS.out, ← hsb, ← hh, ← he9])
 clear hs hfs hsb hh he9
 obtain ⟨q0, q1⟩ := k0.two
 by_cases he : e9 = 0
 · have e0 : (((e9 : Nat) : Int) == 0) = true := by simp [he]
   have BB := hB0
   go_enter Tryz.func147, Tryz.ntmps147
   go_wp2
   exact bodyPost_ret (v := .tuple #[.int .i64 (1), .int .i64 (((pw h : Nat) : Int)), .int .i64 (1)]) (by simp [results, Tryz.results147, go_sem, hshl]) rfl ⟨ret_t3 (by rw [HSV.out, if_pos he]), BB⟩
 · have e0 : (((e9 : Nat) : Int) == 0) = false := by simp; omega
   go_enter Tryz.func147, Tryz.ntmps147
   go_wp2
   refine wp_obs 6 [[],[0],[],[2],[0,1,2,3],[0,1,2,3,4]] [VIs (.pointer (some ⟨w.heap.size, 0, none⟩)), VIs (.int .i64 (P)), VIs (.agg #[.int .i64 P, .slice A n c]), VIs (.int .i64 (fs)), VIs (.int .i64 (rootI (rootF P fs P.toNat 0))), VIs (.bool sb)] (fun w' => Blk w' w.heap.size 26 #[.int .i64 P, .slice A n c] ∧ Below w.heap.size w w') (by kernel_rfl) (by kernel_rfl) (fun _ _ h hb => ⟨h.1.below hb h.1.lt, h.2.trans (hb.mono h.2.size)⟩) (⟨k0.drew, hB0.drew⟩) (fun x => ?_)
   refine zS (fun w' hS hV K hK => ?_) ?_
   · obtain ⟨q0, q1⟩ := hS.1.two; go_simp; exact zO hK
   refine zS (fun w' hS hV K hK => ?_) ?_
   · have e0 := zQ hV 0; obtain ⟨q0, q1⟩ := hS.1.two; go_simp; exact zO hK
   refine zS (fun w' hS hV K hK => ?_) ?_
   · obtain ⟨q0, q1⟩ := hS.1.two; go_simp; exact zO hK
   refine zS (fun w' hS hV K hK => ?_) ?_
   · have e2 := zQ hV 2; obtain ⟨q0, q1⟩ := hS.1.two; go_simp; have hq := l05Square_any P A n c sq w' hp hp2 hn1 (by omega) (ha.below hS.2) HS.out; rw [HFS.out] at hq; refine hq.mono ?_; rintro e v1 ⟨rfl, hb⟩; exact hK.out _ _ _ rfl rfl rfl hb
   refine zS (fun w' hS hV K hK => ?_) ?_
   · have e1 := zQ hV 1; have e3 := zQ hV 3; obtain ⟨q0, q1⟩ := hS.1.two; go_simp; refine (l01Root_any P fs w' hp hp2).mono ?_; rintro e v1 ⟨rfl, rfl⟩; exact zO hK
   refine zS (fun w' hS hV K hK => ?_) ?_
   · have e4 := zQ hV 4; obtain ⟨q0, q1⟩ := hS.1.two; have hsb9 := HSB.out; go_simp; exact zO hK
   refine fun w' hS hV => ?_
   have e0 := zT hV 0
   have e1 := zT hV 1
   have e2 := zT hV 2
   have e3 := zT hV 3
   have e4 := zT hV 4
   have e5 := zT hV 5
   simp only [e0, e1, e2, e3, e4, e5]
   clear e0 e1 e2 e3 e4 e5
   refine wpAny_done (by kernel_rfl) ?_ _
   have BB := hS.2
   cases sb
   · go_wp2
     exact bodyPost_ret (v := .tuple #[.int .i64 (1), .int .i64 (((pw h : Nat) : Int)), .int .i64 (2)]) (by simp [results, Tryz.results147, go_sem, hshl]) rfl ⟨ret_t3 (by rw [HSV.out, if_neg he]; rfl), BB⟩
   · go_wp2
     exact bodyPost_ret (v := .tuple #[.int .i64 (2), .int .i64 (((pw h : Nat) : Int)), .int .i64 (1)]) (by simp [results, Tryz.results147, go_sem, hshl]) rfl ⟨ret_t3 (by rw [HSV.out, if_neg he]; rfl), BB⟩
set_option maxHeartbeats 3200000 in
set_option maxRecDepth 8000 in
theorem StructureOf_any (P : Int) (A : Option Addr) (n c : Nat) (sq : List Int) (w : World) (hn : n ≤ 1048576) (ha : Rd w A n (ints sq)) :
    Calls Tryz.prog 48 #[.agg #[.int .i64 P, .slice A n c]] w fun e w' => e = .returned (tup4 (strR P sq)) ∧ Below w.heap.size w w' := by
 have hB0 : Below w.heap.size w (w.alloc (.cells #[.int .i64 P, .slice A n c] 26)) := zG.alloc (Nat.le_refl _) _
 have k0 : Blk (w.alloc (.cells #[.int .i64 P, .slice A n c] 26)) w.heap.size 26 #[.int .i64 P, .slice A n c] := Blk.new _ _ _
 have hreg := checkAlgebra_any P A none n c 0 0 sq [] (w.alloc (.cells #[.int .i64 P, .slice A n c] 26)) hn (by omega) (ha.below hB0) ⟨[], Rd.nil _ _, rfl, fun k h => absurd h (by simp)⟩ (by simp)
 by_cases hr0 : codeA P sq [] = 0
 · rw [hr0] at hreg
   obtain ⟨hcM, h4⟩ := codeA_zero hr0
   obtain ⟨HP, hp, hp2, hd1, hd2, hs, -⟩ := codeM_spec3 hcM
   have hsl := ha.lenI
   have hn4 : n ≤ 4 := by omega
   have hn0 : 0 < n := by omega
   obtain ⟨h, hh⟩ : ∃ h, h = n / 2 := ⟨_, rfl⟩
   obtain ⟨e9, he9⟩ : ∃ e, e = n % 2 := ⟨_, rfl⟩
   have hshl : wrap64 (2 ^ h) = ((pw h : Nat) : Int) := wrap_pw h (by omega)
   have hdv : (n : Int).tdiv 2 = (h : Int) := by rw [Int.tdiv_eq_ediv_of_nonneg (by omega)]; omega
   have hmd : (n : Int).tmod 2 = (e9 : Int) := by rw [Int.tmod_eq_emod_of_nonneg (by omega)]; omega
   have hdv2 : (n : Int) / 2 = (h : Int) := by omega
   have hmd2 : (n : Int) % 2 = (e9 : Int) := by omega
   have he2 : e9 < 2 := by omega
   have HS := Lib.hid hs
   have HSL := Lib.hid hsl
   have HR0 := Lib.hid hr0
   obtain ⟨fs, hfs⟩ : ∃ f, f = fsqL P sq n := ⟨_, rfl⟩
   have HFS : Hid (fsqL P sq n = fs) := Lib.hid hfs.symm
   obtain ⟨sb, hsb⟩ : ∃ b, b = (rootF P fs P.toNat 0).isSome := ⟨_, rfl⟩
   have HSB : Hid ((rootF P fs P.toNat 0).isSome = sb) := Lib.hid hsb.symm
   have HSV : Hid (strV P sq n = if e9 = 0 then (1, ((pw h : Nat) : Int), 1) else if sb = true then (2, ((pw h : Nat) : Int), 1) else (1, ((pw h : Nat) : Int), 2)) := Lib.hid (by unfold strV; rw [HFS.out, ← hsb, ← hh, ← he9])
   clear hs hfs hsb hsl hr0 hd1 hd2 h4 hcM hh he9
   cases hrg : regB sq
   · have HRG := Lib.hid hrg
     clear hrg
     go_enter Tryz.func48, Tryz.ntmps48
     go_wp2_with fail
     refine hreg.mono ?_
     rintro e w2 ⟨rfl, hb2⟩
     have hB2 := hB0.trans (hb2.mono hB0.size)
     have k2 := k0.below hb2 k0.lt
     obtain ⟨q0, q1⟩ := k2.two
     have hrr := regular_any P A n c sq w2 hn (ha.below hB2)
     rw [HRG.out] at hrr
     go_wp2_with fail
     refine hrr.mono ?_
     rintro e w3 ⟨rfl, hb3⟩
     have BB := hB2.trans (hb3.mono hB2.size)
     go_wp2
     exact bodyPost_ret (v := .tuple #[.int .i64 (0), .int .i64 (0), .int .i64 (0), .int .i64 (5)]) (by simp [results, Tryz.results48, go_sem]) rfl ⟨ret_t4 (by rw [strR_irr HR0.out HRG.out]), BB⟩
   · have HRG := Lib.hid hrg
     clear hrg
     have HOK : Hid (strR P sq = (strV P sq n, 0)) := Lib.hid (by rw [strR_ok HR0.out HRG.out, HSL.out])
     go_enter Tryz.func48, Tryz.ntmps48
     go_wp2_with fail
     refine hreg.mono ?_
     rintro e w2 ⟨rfl, hb2⟩
     have hB2 := hB0.trans (hb2.mono hB0.size)
     have k2 := k0.below hb2 k0.lt
     obtain ⟨q0, q1⟩ := k2.two
     have hrr := regular_any P A n c sq w2 hn (ha.below hB2)
     rw [HRG.out] at hrr
     go_wp2_with fail
     refine hrr.mono ?_
     rintro e w3 ⟨rfl, hb3⟩
     have hB3 := hB2.trans (hb3.mono hB2.size)
     have k3 := k2.below hb3 k2.lt
     clear q0 q1 k2 hrr hb3
     obtain ⟨q0, q1⟩ := k3.two
     go_wp2_with fail
     refine (dim_any _ _ _ _ _).mono ?_
     rintro e w4 ⟨rfl, hb4⟩
     have hB4 := hB3.trans (hb4.mono hB3.size)
     have k4 := k3.below hb4 k3.lt
     clear q0 q1 k3 hb4
     obtain ⟨q0, q1⟩ := k4.two
     go_wp2_with fail
     refine (dim_any _ _ _ _ _).mono ?_
     rintro e w5 ⟨rfl, hb5⟩
     have hB5 := hB4.trans (hb5.mono hB4.size)
     have k5 := k4.below hb5 k4.lt
     clear q0 q1 k4 hb5
     obtain ⟨q0, q1⟩ := k5.two
     by_cases he : e9 = 0
     · have e0 : (((e9 : Nat) : Int) == 0) = true := by simp [he]
       have BB := hB5
       go_wp2
       exact bodyPost_ret (v := .tuple #[.int .i64 (1), .int .i64 (((pw h : Nat) : Int)), .int .i64 (1), .int .i64 (0)]) (by simp [results, Tryz.results48, go_sem, hshl]) rfl ⟨ret_t4 (by rw [HOK.out, HSV.out, if_pos he]), BB⟩
     · have e0 : (((e9 : Nat) : Int) == 0) = false := by simp; omega
       go_wp2
       refine wp_obs 6 [[],[0],[],[2],[0,1,2,3],[0,1,2,3,4]] [VIs (.agg #[.int .i64 P, .slice A n c]), VIs (.int .i64 (P)), VIs (.agg #[.int .i64 P, .slice A n c]), VIs (.int .i64 (fs)), VIs (.bool sb), VIs (.bool sb)] (fun w' => Blk w' w.heap.size 26 #[.int .i64 P, .slice A n c] ∧ Below w.heap.size w w') (by kernel_rfl) (by kernel_rfl) (fun _ _ h hb => ⟨h.1.below hb h.1.lt, h.2.trans (hb.mono h.2.size)⟩) (⟨k5.drew, hB5.drew⟩) (fun x => ?_)
       refine zS (fun w' hS hV K hK => ?_) ?_
       · obtain ⟨q0, q1⟩ := hS.1.two; go_simp; exact zO hK
       refine zS (fun w' hS hV K hK => ?_) ?_
       · have e0 := zQ hV 0; obtain ⟨q0, q1⟩ := hS.1.two; go_simp; refine (field_any _ _ _ _ _).mono ?_; rintro e v1 ⟨rfl, hb⟩; exact hK.out _ _ _ rfl rfl rfl hb
       refine zS (fun w' hS hV K hK => ?_) ?_
       · obtain ⟨q0, q1⟩ := hS.1.two; go_simp; exact zO hK
       refine zS (fun w' hS hV K hK => ?_) ?_
       · have e2 := zQ hV 2; obtain ⟨q0, q1⟩ := hS.1.two; go_simp; have hq := fullSquare_any P A n c sq w' hp hp2 hn0 (by omega) (ha.below hS.2) HS.out; rw [HFS.out] at hq; refine hq.mono ?_; rintro e v1 ⟨rfl, hb⟩; exact hK.out _ _ _ rfl rfl rfl hb
       refine zS (fun w' hS hV K hK => ?_) ?_
       · have e1 := zQ hV 1; have e3 := zQ hV 3; obtain ⟨q0, q1⟩ := hS.1.two; go_simp; refine (isSquare_any P fs w' hp hp2).mono ?_; rintro e v1 ⟨rfl, rfl⟩; rw [HSB.out]; exact zO hK
       refine zS (fun w' hS hV K hK => ?_) ?_
       · have e4 := zQ hV 4; obtain ⟨q0, q1⟩ := hS.1.two; go_simp; exact zO hK
       refine fun w' hS hV => ?_
       have e0 := zT hV 0
       have e1 := zT hV 1
       have e2 := zT hV 2
       have e3 := zT hV 3
       have e4 := zT hV 4
       have e5 := zT hV 5
       simp only [e0, e1, e2, e3, e4, e5]
       clear e0 e1 e2 e3 e4 e5
       refine wpAny_done (by kernel_rfl) ?_ _
       have BB := hS.2
       cases sb
       · go_wp2
         exact bodyPost_ret (v := .tuple #[.int .i64 (1), .int .i64 (((pw h : Nat) : Int)), .int .i64 (2), .int .i64 (0)]) (by simp [results, Tryz.results48, go_sem, hshl]) rfl ⟨ret_t4 (by rw [HOK.out, HSV.out, if_neg he]; rfl), BB⟩
       · go_wp2
         exact bodyPost_ret (v := .tuple #[.int .i64 (2), .int .i64 (((pw h : Nat) : Int)), .int .i64 (1), .int .i64 (0)]) (by simp [results, Tryz.results48, go_sem, hshl]) rfl ⟨ret_t4 (by rw [HOK.out, HSV.out, if_neg he]; rfl), BB⟩
 · obtain ⟨r, hr⟩ : ∃ r, r = codeA P sq [] := ⟨_, rfl⟩
   have HR := Lib.hid hr
   have HR0 := Lib.hid hr0
   have b0 : (r != 0) = true := code_ne (by rw [hr]; exact hr0)
   have b1 : (r == 0) = false := by simpa using b0
   rw [← hr] at hreg
   clear hr hr0
   go_enter Tryz.func48, Tryz.ntmps48
   go_wp2_with fail
   refine hreg.mono ?_
   rintro e w2 ⟨rfl, hb2⟩
   have BB := hB0.trans (hb2.mono hB0.size)
   go_wp2
   exact bodyPost_ret (v := .tuple #[.int .i64 (0), .int .i64 (0), .int .i64 (0), .int .i64 (r)]) (by simp [results, Tryz.results48, go_sem]) rfl ⟨ret_t4 (by rw [strR_bad HR0.out, HR.out]), BB⟩
set_option maxHeartbeats 3200000 in
set_option maxRecDepth 8000 in
theorem specStructureOf_any (P : Int) (A : Option Addr) (n c : Nat) (sq : List Int) (w : World) (hn : n ≤ 1048576) (ha : Rd w A n (ints sq)) :
    Calls Tryz.prog 49 #[.agg #[.int .i64 P, .slice A n c]] w fun e w' => e = .returned (tup4 (strR P sq)) ∧ Below w.heap.size w w' := by
 have hB0 : Below w.heap.size w (w.alloc (.cells #[.int .i64 P, .slice A n c] 26)) := zG.alloc (Nat.le_refl _) _
 have k0 : Blk (w.alloc (.cells #[.int .i64 P, .slice A n c] 26)) w.heap.size 26 #[.int .i64 P, .slice A n c] := Blk.new _ _ _
 have hreg := l09Code_any P A none n c 0 0 sq [] (w.alloc (.cells #[.int .i64 P, .slice A n c] 26)) hn (by omega) (ha.below hB0) ⟨[], Rd.nil _ _, rfl, fun k h => absurd h (by simp)⟩ (by simp)
 by_cases hr0 : codeA P sq [] = 0
 · rw [hr0] at hreg
   obtain ⟨hcM, h4⟩ := codeA_zero hr0
   obtain ⟨HP, hp, hp2, hd1, hd2, hs, -⟩ := codeM_spec3 hcM
   have hsl := ha.lenI
   have hn4 : n ≤ 4 := by omega
   have hn0 : 0 < n := by omega
   have HS := Lib.hid hs
   have HSL := Lib.hid hsl
   have HR0 := Lib.hid hr0
   have hdz : (discT P sq n == 0) = !(regB sq) := by rw [← hsl]; exact disc_reg HP hs
   obtain ⟨dd, hdd⟩ : ∃ d, d = discT P sq n := ⟨_, rfl⟩
   rw [← hdd] at hdz
   have HDD := Lib.hid hdd
   clear hs hsl hr0 hd1 hd2 h4 hcM hdd
   cases hrg : regB sq
   all_goals
    rw [hrg] at hdz
    have HRG := Lib.hid hrg
    clear hrg
    go_enter Tryz.func49, Tryz.ntmps49
    go_wp2_with fail
    refine hreg.mono ?_
    rintro e w2 ⟨rfl, hb2⟩
    have hB2 := hB0.trans (hb2.mono hB0.size)
    have k2 := k0.below hb2 k0.lt
    obtain ⟨q0, q1⟩ := k2.two
    have hrr := l03Disc_any P A n c sq w2 hp hp2 hn (ha.below hB2) HS.out
    rw [← HDD.out] at hrr
    go_wp2_with fail
    refine hrr.mono ?_
    rintro e w3 ⟨rfl, hb3⟩
    have hB3 := hB2.trans (hb3.mono hB2.size)
    have k3 := k2.below hb3 k2.lt
    clear q0 q1 k2 hrr hb3
    obtain ⟨q0, q1⟩ := k3.two
   · simp only [Bool.not_false] at hdz
     have BB := hB3
     go_wp2
     exact bodyPost_ret (v := .tuple #[.int .i64 (0), .int .i64 (0), .int .i64 (0), .int .i64 (5)]) (by simp [results, Tryz.results49, go_sem]) rfl ⟨ret_t4 (by rw [strR_irr HR0.out HRG.out]), BB⟩
   · simp only [Bool.not_true] at hdz
     have HOK : Hid (strR P sq = (strV P sq n, 0)) := Lib.hid (by rw [strR_ok HR0.out HRG.out, HSL.out])
     go_wp2_with fail
     refine (l09Structure_any P A n c sq w3 hp hp2 hn0 hn4 (ha.below hB3) HS.out).mono ?_
     rintro e w4 ⟨rfl, hb4⟩
     have BB := hB3.trans (hb4.mono hB3.size)
     go_wp2
     exact bodyPost_ret (v := .tuple #[.int .i64 ((strV P sq n).1), .int .i64 ((strV P sq n).2.1), .int .i64 ((strV P sq n).2.2), .int .i64 (0)]) (by simp [results, Tryz.results49, go_sem]) rfl ⟨ret_t4 (by rw [HOK.out]), BB⟩
 · obtain ⟨r, hr⟩ : ∃ r, r = codeA P sq [] := ⟨_, rfl⟩
   have HR := Lib.hid hr
   have HR0 := Lib.hid hr0
   have b0 : (r != 0) = true := code_ne (by rw [hr]; exact hr0)
   have b1 : (r == 0) = false := by simpa using b0
   rw [← hr] at hreg
   clear hr hr0
   go_enter Tryz.func49, Tryz.ntmps49
   go_wp2_with fail
   refine hreg.mono ?_
   rintro e w2 ⟨rfl, hb2⟩
   have BB := hB0.trans (hb2.mono hB0.size)
   go_wp2
   exact bodyPost_ret (v := .tuple #[.int .i64 (0), .int .i64 (0), .int .i64 (0), .int .i64 (r)]) (by simp [results, Tryz.results49, go_sem]) rfl ⟨ret_t4 (by rw [strR_bad HR0.out, HR.out]), BB⟩
/-- The root of a vector's norm, or a number that is not above 0. -/
def vrtL (P : Int) (sq : List Int) (n : Nat) (vs : List Int) : Int := rootI (rootF P (pairL P sq (partL n vs) (partL n vs)) P.toNat 0)
/-- The idempotent of a vector. -/
def vidL (P : Int) (sq : List Int) (n : Nat) (vs : List Int) : List Int := plusL P (scaleL P (bladeL n 0) (invF P 2)) vs (invF P 2 * invF P (vrtL P sq n vs) % P)
def vidR (P : Int) (sq vs : List Int) : List Int × Int := if codeA P sq [vs] = 0 then (if decide (vs = partG vs 1) && decide (0 < vrtL P sq sq.length vs) then (vidL P sq sq.length vs, 0) else ([], 5)) else ([], codeA P sq [vs])
theorem vidR_ok {P : Int} {sq vs : List Int} (h : codeA P sq [vs] = 0) (h1 : decide (vs = partG vs 1) = true) (h2 : 0 < vrtL P sq sq.length vs) : vidR P sq vs = (vidL P sq sq.length vs, 0) := by unfold vidR; rw [if_pos h, h1, decide_eq_true h2]; rfl
theorem vidR_no {P : Int} {sq vs : List Int} (h : codeA P sq [vs] = 0) (h1 : (decide (vs = partG vs 1) && decide (0 < vrtL P sq sq.length vs)) = false) : vidR P sq vs = ([], 5) := by unfold vidR; rw [if_pos h, h1]; rfl
theorem vidR_bad {P : Int} {sq vs : List Int} (h : ¬ codeA P sq [vs] = 0) : vidR P sq vs = ([], codeA P sq [vs]) := by unfold vidR; rw [if_neg h]
theorem vrt_small {P : Int} (hp : 2 ≤ P) (sq : List Int) (n : Nat) (vs : List Int) : vrtL P sq n vs < P := by
 unfold vrtL
 cases hr : rootF P (pairL P sq (partL n vs) (partL n vs)) P.toNat 0 with
 | none => simp only [rootI]; omega
 | some r => have := (rootF_spec P _ _ _ _ hr).2.1; simp only [rootI]; omega
set_option maxHeartbeats 6400000 in
set_option maxRecDepth 8000 in
theorem specVectorIdempotent_any (P : Int) (A : Option Addr) (n c : Nat) (sq : List Int) (X : Option Addr) (m cx : Nat) (xs : List Int) (w : World) (hn : n ≤ 1048576) (hm : m ≤ 1048576) (ha : Rd w A n (ints sq)) (hx : Rd w X m (ints xs)) (hcx : m ≤ cx) :
    Calls Tryz.prog 70 #[.agg #[.int .i64 P, .slice A n c], .slice X m cx] w fun e w' => ∃ (A' : Option Addr) (k c' : Nat), e = .returned (.tuple #[.slice A' k c', .int .i64 (vidR P sq xs).2]) ∧ MkI w w' A' k c' (vidR P sq xs).1 := by
 have hB0 : Below w.heap.size w (w.alloc (.cells #[.int .i64 P, .slice A n c] 26)) := zG.alloc (Nat.le_refl _) _
 have k0 : Blk (w.alloc (.cells #[.int .i64 P, .slice A n c] 26)) w.heap.size 26 #[.int .i64 P, .slice A n c] := Blk.new _ _ _
 have hB1 : Below w.heap.size w ((w.alloc (.cells #[.int .i64 P, .slice A n c] 26)).alloc (.cells #[.slice X m cx] 24)) := hB0.alloc (by simp) _
 have k1 : Blk ((w.alloc (.cells #[.int .i64 P, .slice A n c] 26)).alloc (.cells #[.slice X m cx] 24)) w.heap.size 26 #[.int .i64 P, .slice A n c] := k0.alloc _
 have hreg := l09Code_any P A (some ⟨w.heap.size + 1, 0, none⟩) n c 1 1 sq [xs] ((w.alloc (.cells #[.int .i64 P, .slice A n c] 26)).alloc (.cells #[.slice X m cx] 24)) hn (by omega) (ha.below hB1) (rdII_one' (Blk.newAt3 (by simp)) (hx.below hB1) hcx) (all_one (by rw [hx.lenI]; exact hm))
 by_cases hr0 : codeA P sq [xs] = 0
 · rw [hr0] at hreg
   obtain ⟨hcM, h4⟩ := codeA_zero hr0
   obtain ⟨HP, hp, hp2, hd1, hd2, hs, hms⟩ := codeM_spec3 hcM
   obtain ⟨hx1, hxs⟩ := hms xs (by simp)
   have hsl := ha.lenI
   have hmn : m = pw n := by rw [← hx.lenI, hx1, hsl]
   subst hmn
   have hn4 : n ≤ 4 := by omega
   have hpw : pw n ≤ 16 := pw_le hn4
   have hpn := pw_pos n
   have hp3 := (isP_ge HP).1
   have HS := Lib.hid hs
   have HXS := Lib.hid hxs
   have HPP := Lib.hid HP
   have HR0 := Lib.hid hr0
   have HSL := Lib.hid hsl
   have HLN : Hid (NumsL P (partL n xs)) := Lib.hid (partL_nums (by omega) n xs hxs)
   obtain ⟨rt, hrt⟩ : ∃ r, r = vrtL P sq n xs := ⟨_, rfl⟩
   have HRT : Hid (rootI (rootF P (pairL P sq (partL n xs) (partL n xs)) P.toNat 0) = rt) := Lib.hid hrt.symm
   have HRE := Lib.hid hrt
   have HRS : Hid (rt < P) := Lib.hid (by rw [hrt]; exact vrt_small hp sq n xs)
   clear hsl hs hxs hx1 hms hd1 hd2 h4 hcM hr0 HP hrt
   go_enter Tryz.func70, Tryz.ntmps70
   go_wp2_with fail
   refine hreg.mono ?_
   rintro e w2 ⟨rfl, hb2⟩
   have hB2 := hB1.trans (hb2.mono hB1.size)
   have k2 := k1.below hb2 k1.lt
   clear k0 k1 hreg hb2 hB0 hB1
   obtain ⟨q0, q1⟩ := k2.two
   go_wp2_with fail
   refine (l04List_any P A n c X cx xs w2 (by omega) (hx.below hB2)).mono ?_
   rintro e w3 ⟨AL, cL, rfl, hL3⟩
   have hB3 := hB2.trans (hL3.b.mono hB2.size)
   have k3 := k2.below hL3.b k2.lt
   have HB3 := Lib.hid hB3
   have HL3 : Hid (MkI w2 w3 AL n cL (partL n xs)) := Lib.hid hL3
   clear k2 hB2 hL3 q0 q1
   obtain ⟨q0, q1⟩ := k3.two
   go_wp2
   refine wp_obs 8 [[],[0],[],[],[],[2,3,4],[0,1,2,3,4,5],[0,1,2,3,4,5,6]] [VIs (.pointer (some ⟨w.heap.size, 0, none⟩)), VIs (.int .i64 (P)), VIs (.agg #[.int .i64 P, .slice A n c]), VIs (.slice AL n cL), VIs (.slice AL n cL), VIs (.int .i64 (pairL P sq (partL n xs) (partL n xs))), VIs (.int .i64 (rt)), VIs (.int .i64 (rt))] (fun w' => Blk w' w.heap.size 26 #[.int .i64 P, .slice A n c] ∧ Below w3.heap.size w3 w') (by kernel_rfl) (by kernel_rfl) (fun _ _ h hb => ⟨h.1.below hb h.1.lt, h.2.trans (hb.mono h.2.size)⟩) (⟨k3.drew, zG.drew⟩) (fun x => ?_)
   refine zS (fun w' hS hV K hK => ?_) ?_
   · obtain ⟨q0, q1⟩ := hS.1.two; go_simp; exact zO hK
   refine zS (fun w' hS hV K hK => ?_) ?_
   · have e0 := zQ hV 0; obtain ⟨q0, q1⟩ := hS.1.two; go_simp; exact zO hK
   refine zS (fun w' hS hV K hK => ?_) ?_
   · obtain ⟨q0, q1⟩ := hS.1.two; go_simp; exact zO hK
   refine zS (fun w' hS hV K hK => ?_) ?_
   · obtain ⟨q0, q1⟩ := hS.1.two; go_simp; exact zO hK
   refine zS (fun w' hS hV K hK => ?_) ?_
   · obtain ⟨q0, q1⟩ := hS.1.two; go_simp; exact zO hK
   refine zS (fun w' hS hV K hK => ?_) ?_
   · have e2 := zQ hV 2; have e3 := zQ hV 3; have e4 := zQ hV 4; obtain ⟨q0, q1⟩ := hS.1.two; go_simp; refine (l03Pair_any P A n c sq AL cL (partL n xs) AL cL (partL n xs) w' hp hp2 (by omega) (ha.below (HB3.out.trans (hS.2.mono HB3.out.size))) HS.out (HL3.out.rd.below hS.2) HLN.out (HL3.out.rd.below hS.2) HLN.out).mono ?_; rintro e v1 ⟨rfl, hb⟩; exact hK.out _ _ _ rfl rfl rfl hb
   refine zS (fun w' hS hV K hK => ?_) ?_
   · have e1 := zQ hV 1; have e5 := zQ hV 5; obtain ⟨q0, q1⟩ := hS.1.two; go_simp; refine (l01Root_any P (pairL P sq (partL n xs) (partL n xs)) w' hp hp2).mono ?_; rintro e v1 ⟨rfl, rfl⟩; rw [HRT.out]; exact zO hK
   refine zS (fun w' hS hV K hK => ?_) ?_
   · have e6 := zQ hV 6; obtain ⟨q0, q1⟩ := hS.1.two; go_simp; exact zO hK
   refine fun w' hS hV => ?_
   have e0 := zT hV 0
   have e1 := zT hV 1
   have e2 := zT hV 2
   have e3 := zT hV 3
   have e4 := zT hV 4
   have e5 := zT hV 5
   have e6 := zT hV 6
   have e7 := zT hV 7
   simp only [e0, e1, e2, e3, e4, e5, e6, e7]
   clear e0 e1 e2 e3 e4 e5 e6 e7
   refine wpAny_done (by kernel_rfl) ?_ _
   have hb4 := hS.2
   have k4 := hS.1
   have hB4 := hB3.trans (hb4.mono hB3.size)
   obtain ⟨w4, hw4⟩ : ∃ W, W = w' := ⟨_, rfl⟩
   rw [← hw4] at hb4 k4 hB4 ⊢
   clear hS hw4 k3 q0 q1 hB3 hb4 HL3 HB3
   have hpt := l04Part_any X (pw n) cx xs 1 w4 (by omega) (by omega) (hx.below hB4)
   go_wp2_with fail
   refine hpt.mono ?_
   rintro e w5 ⟨A5, c5, rfl, hM5⟩
   have hB5 := hB4.trans (hM5.b.mono hB4.size)
   have k5 := k4.below hM5.b k4.lt
   obtain ⟨sb, hsb⟩ : ∃ b, b = decide (xs = partG xs 1) := ⟨_, rfl⟩
   have hsm := l01Same_b X A5 (pw n) (pw n) cx c5 xs (partG xs 1) w5 (by omega) (by omega) (hx.below hB5) hM5.rd hsb.symm
   have HSB := Lib.hid hsb.symm
   clear hpt k4 hB4 hsb
   go_wp2_with fail
   refine hsm.mono ?_
   rintro e w6 ⟨rfl, j6, rfl⟩
   have hb6 := below_drewN (Below.refl w5.heap.size w5) j6
   have hB6 := hB5.trans (hb6.mono hB5.size)
   have k6 := k5.below hb6 k5.lt
   obtain ⟨w7, hw7⟩ : ∃ W, W = w5.drewN j6 := ⟨_, rfl⟩
   rw [← hw7] at hB6 k6 ⊢
   clear hw7 hsm hM5 k5 hB5 hb6
   cases sb
   · have HNO : Hid (vidR P sq xs = ([], 5)) := Lib.hid (by rw [vidR_no HR0.out (by rw [HSB.out]; rfl)])
     go_wp2
     go_ret2
     exact noRow3 HNO.out hB6
   · by_cases hr : rt ≤ 0
     · have d0 : decide (rt ≤ 0) = true := by simpa using hr
       have HNO : Hid (vidR P sq xs = ([], 5)) := Lib.hid (by rw [vidR_no HR0.out (by rw [HSL.out, ← HRE.out, HSB.out, show decide (0 < rt) = false from decide_eq_false (by omega)]; rfl)])
       go_wp2
       go_ret2
       exact noRow3 HNO.out hB6
     · have d0 : decide (rt ≤ 0) = false := by simp; omega
       have HRP : Hid (0 < rt) := Lib.hid (by omega)
       have hin := l01Inv_any P 2 w7 HPP.out (by omega) (by omega)
       obtain ⟨hf, hhf⟩ : ∃ f, f = invF P 2 := ⟨_, rfl⟩
       obtain ⟨iv, hiv⟩ : ∃ f, f = invF P rt := ⟨_, rfl⟩
       obtain ⟨f1, f2, -⟩ := inv_spec HPP.out (show (0 : Int) < 2 by omega) (by omega)
       obtain ⟨g1, g2, -⟩ := inv_spec HPP.out HRP.out HRS.out
       rw [← hhf] at hin f1 f2
       rw [← hiv] at g1 g2
       have HIV : Hid (invF P rt = iv) := Lib.hid hiv.symm
       have HHF : Hid (0 ≤ hf ∧ hf < P) := Lib.hid ⟨by omega, f2⟩
       have hm0 : 0 ≤ hf * iv := Int.mul_nonneg (by omega) (by omega)
       have hm1 : hf * iv ≤ 13 * 13 := Int.mul_le_mul (by omega) (by omega) (by omega) (by omega)
       have HW9 : Hid (IntKind.i64.wrap (hf * iv) = hf * iv) := Lib.hid (i64_fit _ (by omega) (by omega))
       have HW8 : Hid ((hf * iv).tmod P = hf * iv % P) := Lib.hid (Int.tmod_eq_emod_of_nonneg hm0)
       have HMD : Hid (0 ≤ hf * iv % P ∧ hf * iv % P ≤ 1000) := Lib.hid ⟨Int.emod_nonneg _ (by omega), by have := Int.emod_lt_of_pos (hf * iv) (show 0 < P by omega); omega⟩
       have HB7 := Lib.hid hB6
       have HOK : Hid (vidR P sq xs = (plusL P (scaleL P (bladeL n 0) hf) xs (hf * iv % P), 0)) := Lib.hid (by
        rw [vidR_ok HR0.out HSB.out (by rw [HSL.out, ← HRE.out]; exact HRP.out), HSL.out]
        unfold vidL
        rw [← HRE.out, HIV.out, ← hhf])
       clear hhf hiv f1 f2 g1 g2 hm0 hm1 hr
       obtain ⟨q0, q1⟩ := k6.two
       go_wp2_with fail
       refine hin.mono ?_
       rintro e w8 ⟨rfl, rfl⟩
       have k7 := k6
       clear hin
       go_wp2
       refine wp_obs 21 [[],[0],[],[2],[],[4],[],[2,3,4,5,6],[],[],[],[10],[],[10,11,12],[9,10,11,12,13],[],[15],[9,10,11,12,13,14,15,16],[0,1,2,3,4,5,6,7,8,9,10,11,12,13,14,15,16,17],[0,1,2,3,4,5,6,7,8,9,10,11,12,13,14,15,16,17,18],[]] [VIs (.pointer (some ⟨w.heap.size, 0, none⟩)), VIs (.int .i64 (P)), VIs (.pointer (some ⟨w.heap.size, 0, none⟩)), VIs (.int .i64 (P)), VIs (.agg #[.int .i64 P, .slice A n c]), VSl w7 (pw n) (bladeL n 0), VIs (.int .i64 (hf)), VSl w7 (pw n) (scaleL P (bladeL n 0) hf), VIs (.slice X (pw n) cx), VIs (.int .i64 (hf)), VIs (.pointer (some ⟨w.heap.size, 0, none⟩)), VIs (.int .i64 (P)), VIs (.int .i64 (rt)), VIs (.int .i64 (iv)), VIs (.int .i64 (hf * iv)), VIs (.pointer (some ⟨w.heap.size, 0, none⟩)), VIs (.int .i64 (P)), VIs (.int .i64 (hf * iv % P)), VSl w7 (pw n) (plusL P (scaleL P (bladeL n 0) hf) xs (hf * iv % P)), VSl w7 (pw n) (plusL P (scaleL P (bladeL n 0) hf) xs (hf * iv % P)), VIs (.int .i64 0)] (fun w' => Blk w' w.heap.size 26 #[.int .i64 P, .slice A n c] ∧ Below w7.heap.size w7 w') (by kernel_rfl) (by kernel_rfl) (fun _ _ h hb => ⟨h.1.below hb h.1.lt, h.2.trans (hb.mono h.2.size)⟩) (⟨k7.drew, zG.drew⟩) (fun x => ?_)
       refine zS (fun w' hS hV K hK => ?_) ?_
       · obtain ⟨q0, q1⟩ := hS.1.two; go_simp; exact zO hK
       refine zS (fun w' hS hV K hK => ?_) ?_
       · have e0 := zQ hV 0; obtain ⟨q0, q1⟩ := hS.1.two; go_simp; exact zO hK
       refine zS (fun w' hS hV K hK => ?_) ?_
       · obtain ⟨q0, q1⟩ := hS.1.two; go_simp; exact zO hK
       refine zS (fun w' hS hV K hK => ?_) ?_
       · have e2 := zQ hV 2; obtain ⟨q0, q1⟩ := hS.1.two; go_simp; exact zO hK
       refine zS (fun w' hS hV K hK => ?_) ?_
       · obtain ⟨q0, q1⟩ := hS.1.two; go_simp; exact zO hK
       refine zS (fun w' hS hV K hK => ?_) ?_
       · have e4 := zQ hV 4; obtain ⟨q0, q1⟩ := hS.1.two; go_simp; refine (l04One_any P A n c w' (by omega)).mono ?_; rintro e v1 ⟨A2, c2, rfl, hM⟩; exact hK.out _ _ _ rfl rfl ⟨_, _, rfl, hM.after hS.2⟩ hM.b
       refine zS (fun w' hS hV K hK => ?_) ?_
       · obtain ⟨q0, q1⟩ := hS.1.two; go_simp; exact zO hK
       refine zS (fun w' hS hV K hK => ?_) ?_
       · have e3 := zQ hV 3; obtain ⟨A5, c5, e5, h5⟩ := hV 5 (by decide); have e6 := zQ hV 6; obtain ⟨q0, q1⟩ := hS.1.two; go_simp; refine (l02Scale_any P A5 (pw n) c5 hf (bladeL n 0) w' hp hp2 (by omega) h5.rd (bladeL_nums hp _ _) HHF.out.1 (by have := HHF.out.2; omega)).mono ?_; rintro e v1 ⟨A2, c2, rfl, hM⟩; exact hK.out _ _ _ rfl rfl ⟨_, _, rfl, hM.after hS.2⟩ hM.b
       refine zS (fun w' hS hV K hK => ?_) ?_
       · obtain ⟨q0, q1⟩ := hS.1.two; go_simp; exact zO hK
       refine zS (fun w' hS hV K hK => ?_) ?_
       · obtain ⟨q0, q1⟩ := hS.1.two; go_simp; exact zO hK
       refine zS (fun w' hS hV K hK => ?_) ?_
       · obtain ⟨q0, q1⟩ := hS.1.two; go_simp; exact zO hK
       refine zS (fun w' hS hV K hK => ?_) ?_
       · have e10 := zQ hV 10; obtain ⟨q0, q1⟩ := hS.1.two; go_simp; exact zO hK
       refine zS (fun w' hS hV K hK => ?_) ?_
       · obtain ⟨q0, q1⟩ := hS.1.two; go_simp; exact zO hK
       refine zS (fun w' hS hV K hK => ?_) ?_
       · have e11 := zQ hV 11; have e12 := zQ hV 12; obtain ⟨q0, q1⟩ := hS.1.two; go_simp; have hiv := l01Inv_any P rt w' HPP.out HRP.out HRS.out; rw [HIV.out] at hiv; refine hiv.mono ?_; rintro e v1 ⟨rfl, rfl⟩; exact zO hK
       refine zS (fun w' hS hV K hK => ?_) ?_
       · have e9 := zQ hV 9; have e13 := zQ hV 13; obtain ⟨q0, q1⟩ := hS.1.two; have W9 := HW9.out; go_simp; exact zO hK
       refine zS (fun w' hS hV K hK => ?_) ?_
       · obtain ⟨q0, q1⟩ := hS.1.two; go_simp; exact zO hK
       refine zS (fun w' hS hV K hK => ?_) ?_
       · have e15 := zQ hV 15; obtain ⟨q0, q1⟩ := hS.1.two; go_simp; exact zO hK
       refine zS (fun w' hS hV K hK => ?_) ?_
       · have e14 := zQ hV 14
         have e16 := zQ hV 16
         obtain ⟨q0, q1⟩ := hS.1.two
         have W8 := HW8.out
         have P0 : ¬ P = 0 := by omega
         go_simp
         exact zO hK
       refine zS (fun w' hS hV K hK => ?_) ?_
       · have e1 := zQ hV 1; obtain ⟨A5, c5, e5, h5⟩ := hV 5 (by decide); obtain ⟨A7, c7, e7, h7⟩ := hV 7 (by decide); have e8 := zQ hV 8; have e17 := zQ hV 17; obtain ⟨q0, q1⟩ := hS.1.two; go_simp; refine (l02Plus_any P A7 (pw n) c7 X (pw n) cx (hf * iv % P) (scaleL P (bladeL n 0) hf) xs w' hp hp2 (by omega) (Nat.le_refl _) h7.rd (scaleL_nums (by omega) _ _) (hx.below (HB7.out.trans (hS.2.mono HB7.out.size))) HXS.out HMD.out.1 HMD.out.2).mono ?_; rintro e v1 ⟨A2, c2, rfl, hM⟩; exact hK.out _ _ _ rfl rfl ⟨_, _, rfl, hM.after hS.2⟩ hM.b
       refine zS (fun w' hS hV K hK => ?_) ?_
       · obtain ⟨A5, c5, e5, h5⟩ := hV 5 (by decide); obtain ⟨A7, c7, e7, h7⟩ := hV 7 (by decide); obtain ⟨A18, c18, e18, h18⟩ := hV 18 (by decide); obtain ⟨q0, q1⟩ := hS.1.two; go_simp; exact hK.out _ _ _ rfl rfl ⟨_, _, rfl, h18⟩ zG
       refine zS (fun w' hS hV K hK => ?_) ?_
       · obtain ⟨q0, q1⟩ := hS.1.two; go_simp; exact zO hK
       refine fun w' hS hV => ?_
       have e0 := zT hV 0
       have e1 := zT hV 1
       have e2 := zT hV 2
       have e3 := zT hV 3
       have e4 := zT hV 4
       obtain ⟨A5, c5, e5, h5⟩ := hV 5 (by decide)
       have e6 := zT hV 6
       obtain ⟨A7, c7, e7, h7⟩ := hV 7 (by decide)
       have e8 := zT hV 8
       have e9 := zT hV 9
       have e10 := zT hV 10
       have e11 := zT hV 11
       have e12 := zT hV 12
       have e13 := zT hV 13
       have e14 := zT hV 14
       have e15 := zT hV 15
       have e16 := zT hV 16
       have e17 := zT hV 17
       obtain ⟨A18, c18, e18, h18⟩ := hV 18 (by decide)
       obtain ⟨A19, c19, e19, h19⟩ := hV 19 (by decide)
       have e20 := zT hV 20
       simp only [e0, e1, e2, e3, e4, e5, e6, e7, e8, e9, e10, e11, e12, e13, e14, e15, e16, e17, e18, e19, e20]
       clear e0 e1 e2 e3 e4 e5 e6 e7 e8 e9 e10 e11 e12 e13 e14 e15 e16 e17 e18 e19 e20
       refine wpAny_done (by kernel_rfl) ?_ _
       go_wp2
       go_ret2
       have hM9 := h19.after hB6
       rw [HOK.out]
       exact ⟨_, _, _, rfl, hM9⟩
 · obtain ⟨r, hr⟩ : ∃ r, r = codeA P sq [xs] := ⟨_, rfl⟩
   have HR := Lib.hid hr
   have HR0 := Lib.hid hr0
   have b0 : (r != 0) = true := code_ne (by rw [hr]; exact hr0)
   rw [← hr] at hreg
   clear hr hr0
   go_enter Tryz.func70, Tryz.ntmps70
   go_wp2_with fail
   refine hreg.mono ?_
   rintro e w2 ⟨rfl, hb2⟩
   have hB2 := hB1.trans (hb2.mono hB1.size)
   go_wp2
   go_ret2
   exact noRow3 (by rw [vidR_bad HR0.out, HR.out]) hB2
/-- A space and a list, drawn. -/
def Drew1 (w : World) (e : Ending) (w' : World) : Prop := ∃ (P : Int) (A : Option Addr) (n c : Nat) (sq : List Int) (A1 : Option Addr) (m1 c1 : Nat) (xs : List Int), e = .returned (.tuple #[.agg #[.int .i64 P, .slice A n c], .slice A1 m1 c1]) ∧ P ≤ 17 ∧ n ≤ 7 ∧ m1 ≤ 100 ∧ Own w' w.heap.size 2 A n c (ints sq) ∧ Own w' w.heap.size 2 A1 m1 c1 (ints xs) ∧ Below w.heap.size w w'
theorem vidL_ok {P : Int} (hp : 2 ≤ P) (sq : List Int) (n : Nat) (vs : List Int) : (vidL P sq n vs).length = pw n ∧ NumsL P (vidL P sq n vs) := by
 unfold vidL
 exact ⟨by rw [plusL_len, scaleL_len, bladeL_len], plusL_nums (by omega) _ _ _⟩
theorem vidR_zero {P : Int} {sq vs : List Int} (h : (vidR P sq vs).2 = 0) : (vidR P sq vs).1 = vidL P sq sq.length vs := by
 unfold vidR at h ⊢
 by_cases h1 : codeA P sq [vs] = 0
 · rw [if_pos h1] at h ⊢
   cases h2 : (decide (vs = partG vs 1) && decide (0 < vrtL P sq sq.length vs))
   · rw [h2] at h; simp at h
   · rfl
 · rw [if_neg h1] at h; exact absurd h h1
/-- The value is a tuple of a list, made since the heap had B blocks, and a code; where the code is 0 the list is a multivector. -/
def VTc (B : Nat) (P : Int) (n : Nat) : VP := ⟨fun v w => ∃ (A : Option Addr) (k c : Nat) (xs : List Int) (z : Int), v = .tuple #[.slice A k c, .int .i64 z] ∧ Own w B 2 A k c (ints xs) ∧ (z = 0 → xs.length = pw n ∧ NumsL P xs), fun _ _ _ ⟨A, k, c, xs, z, e, h, hz⟩ hb => ⟨A, k, c, xs, z, e, h.below hb, hz⟩⟩
/-- The parts of a tuple. -/
def tupA : Value → Value
 | .tuple vs => vs.getD 0 undef
 | v => v
def tupB : Value → Value
 | .tuple vs => vs.getD 1 undef
 | v => v
set_option maxHeartbeats 12800000 in
set_option maxRecDepth 8000 in
theorem l09Draw_any (B : Option Addr) (nb cb : Nat) (bs : List Int) (w : World) (hnb : nb ≤ 4096) (r : Rd w B nb (bs.map (Value.int .u8))) (hbs : ∀ b ∈ bs, 0 ≤ b ∧ b < 256) (hbg : ∀ a, B = some a → a.block < w.heap.size) :
    Calls Tryz.prog 148 #[.slice B nb cb] w (Drew1 w) := by
 have hB0 : Below w.heap.size w (w.alloc (.cells #[.int .i64 0, .slice none 0 0] 26)) := zG.alloc (Nat.le_refl _) _
 have k0 : Blk (w.alloc (.cells #[.int .i64 0, .slice none 0 0] 26)) w.heap.size 26 #[.int .i64 0, .slice none 0 0] := Blk.new _ _ _
 have hfr := from__any B nb cb bs (w.alloc (.cells #[.int .i64 0, .slice none 0 0] 26)) hnb (r.below hB0) hbs (fun a e => by have := hbg a e; simp; omega)
 go_enter Tryz.func148, Tryz.ntmps148
 go_wp2_with fail
 refine hfr.mono ?_
 rintro e w2 ⟨g, rfl, hg, hs2, hb2⟩
 have k2 := k0.below hb2 k0.lt
 have hB2 := hB0.trans (hb2.mono hB0.size)
 have hw := hB2.size
 have hgw : w.heap.size ≤ g := Nat.le_trans hB0.size hg
 clear hfr hb2 k0 hB0 hg
 have d1 := (Dr.refl hs2).alloc (.cells #[.int .i64 2, .int .i64 3, .int .i64 3, .int .i64 4] 2)
 have hpk := pick_any g w2.heap.size [2, 3, 3, 4] _ d1.s' (Blk.new w2 2 _) (by decide) (by decide)
 replace k2 := k2.alloc (.cells #[.int .i64 2, .int .i64 3, .int .i64 3, .int .i64 4] 2)
 go_wp2_with fail
 refine hpk.mono ?_
 rintro e w3 ⟨r0, hr0, rfl, hd3⟩
 have hr1 : 2 ≤ r0 ∧ r0 ≤ 4 := by simp at hr0; omega
 obtain ⟨mn, rfl⟩ : ∃ mn : Nat, r0 = mn := ⟨r0.toNat, by omega⟩
 replace d1 := d1.trans hd3
 replace k2 := k2.dr hd3 (by decide)
 have han := l03Any_any g mn w3 d1.s' (by omega) (by omega)
 clear hpk hd3 hr0
 go_wp2_with fail
 refine han.mono ?_
 rintro e w4 ⟨P, A, n, c, sq, rfl, hP3, hP13, hn1, hn2, hO, hd4⟩
 have oq := (hO.base (Nat.le_trans hw d1.size)).below (zG.alloc (Nat.le_refl _) (.cells #[.int .i64 P, .slice A n c] 26))
 have k5 := Blk.new w4 26 #[.int .i64 P, .slice A n c]
 have kr := (k2.dr hd4 (by decide)).alloc (.cells #[.int .i64 P, .slice A n c] 26)
 have d := (d1.trans hd4).alloc (.cells #[.int .i64 P, .slice A n c] 26)
 have hb5 : w2.heap.size ≤ w4.heap.size := (d1.trans hd4).size
 have hb6 : w.heap.size < w4.heap.size := Nat.lt_of_lt_of_le (show w.heap.size < w3.heap.size from k2.lt) hd4.size
 have hnx := next_any g 16 _ d.s' (by omega)
 clear han hO hd4 d1 k2
 go_wp2_with fail
 refine hnx.mono ?_
 rintro e w5 ⟨r16, rfl, _, _, hd5⟩
 replace k5 := k5.dr hd5 (by decide)
 replace kr := kr.dr hd5 (by decide)
 replace oq := oq.dr hd5 (by decide)
 replace d := d.trans hd5
 obtain ⟨b5, hb5e⟩ : ∃ b, b = w4.heap.size := ⟨_, rfl⟩
 rw [← hb5e] at k5 hb5 hb6 ⊢
 clear hnx hd5 hb5e
 have hP : P ≤ 17 := by omega
 have hn : n ≤ 7 := by omega
 clear hP3 hP13 hn1 hn2 hr1
 by_cases h16 : r16 = 0
 · have e16 : (r16 == 0) = true := by simp [h16]
   have hsp := l03Spoil_any g w5 d.s'
   go_wp2_with fail
   refine hsp.mono ?_
   clear oq
   rintro e w6 ⟨P, A, n, c, sq, rfl, hP, hn, hO', hd6⟩
   replace k5 := k5.dr hd6 (by decide)
   replace kr := kr.dr hd6 (by decide)
   have oq := hO'.base (Nat.le_trans hw d.size)
   replace d := d.trans hd6
   obtain ⟨q0, q1⟩ := k5.two
   have f0 := k5.frozen 0
   have f1 := k5.frozen 1
   clear hsp hO' hd6
   have kr9 := (kr.far (p := ⟨b5, 0, none⟩) (show w.heap.size ≠ b5 by omega) (.int .i64 P)).far (p := ⟨b5, 1, none⟩) (show w.heap.size ≠ b5 by omega) (.slice A n c)
   have oq9 := (oq.far k5 (by decide) 0 (.int .i64 P)).far (k5.set_ 0 (.int .i64 P)) (by decide) 1 (.slice A n c)
   have d9 := (d.setNew hb5 0 (.int .i64 P)).setNew hb5 1 (.slice A n c)
   have k9 := k5.stored (p' := P) (A' := A) (n' := n) (c' := c)
   go_wp2_with fail
   obtain ⟨wz, hwz⟩ : ∃ W, W = (w6.setCell ⟨b5, 0, none⟩ (.int .i64 P)).setCell ⟨b5, 1, none⟩ (.slice A n c) := ⟨_, rfl⟩
   rw [← hwz] at k9 kr9 oq9 d9 ⊢
   clear k5 kr oq d q0 q1 f0 f1 hwz
   have k5 := k9
   have kr := kr9
   have oq := oq9
   have d := d9
   clear k9 kr9 oq9 d9 e16 h16
   have hsp := l04Spoil_any g P A n c sq wz d.s' (by omega) (oq.base (Nat.zero_le _))
   refine hsp.mono ?_
   rintro e w9 ⟨X, m, cx, rfl, hm, ⟨xs, ho9⟩, hd9⟩
   have ox := ho9.base (Nat.le_trans hw d.size)
   replace k5 := k5.dr hd9 (by decide)
   replace kr := kr.dr hd9 (by decide)
   replace oq := oq.dr hd9 (by decide)
   replace d := d.trans hd9
   clear hsp ho9 hd9
   obtain ⟨q0, q1⟩ := k5.two
   cases hmu : (isSp P sq && isMu P sq xs)
   · have hi := l04Is_b P A X n c m cx sq xs w9 (by omega) (by omega) oq.rd ox.rd hmu
     clear hmu
     go_wp2_with fail
     refine hi.mono ?_
     rintro e w10 ⟨rfl, hb⟩
     replace k5 := k5.below hb k5.lt
     replace kr := kr.below hb kr.lt
     replace oq := oq.below hb
     replace ox := ox.below hb
     replace d := d.then hb
     clear hi hb q0 q1
     obtain ⟨q0, q1⟩ := k5.two
     obtain ⟨p0, p1⟩ := kr.two
     have f0 := kr.frozen 0
     have f1 := kr.frozen 1
     go_wp2
     exact bodyPost_ret (v := .tuple #[.agg #[.int .i64 P, .slice A n c], .slice X m cx]) (by simp [results, Tryz.results148, go_sem, p0, p1]) rfl ⟨P, A, n, c, sq, X, m, cx, xs, rfl, hP, hn, by omega, (oq.far kr (by decide) 0 _).far (kr.set_ 0 (.int .i64 P)) (by decide) 1 _, (ox.far kr (by decide) 0 _).far (kr.set_ 0 (.int .i64 P)) (by decide) 1 _, hB2.trans (((d.b.mono hgw).setCell (p := ⟨w.heap.size, 0, none⟩) (Nat.le_refl _) _).setCell (p := ⟨w.heap.size, 1, none⟩) (Nat.le_refl _) _)⟩
   · have hi := l04Is_b P A X n c m cx sq xs w9 (by omega) (by omega) oq.rd ox.rd hmu
     have HM : Hid (isP P = true ∧ n ≤ 6 ∧ NumsL P sq ∧ xs.length = pw n ∧ NumsL P xs) := Lib.hid (by
      rw [Bool.and_eq_true] at hmu
      obtain ⟨g1, g2, g3, g4⟩ := isSp_dim hmu.1
      have g5 := hmu.2
      unfold isMu at g5
      rw [Bool.and_eq_true, beq_iff_eq] at g5
      rw [oq.rd.lenI] at g3
      exact ⟨g1, g3, nums_numsL g4, by have := g5.1; rw [oq.rd.lenI] at this; omega, nums_numsL g5.2⟩)
     clear hmu
     go_wp2_with fail
     refine hi.mono ?_
     rintro e w10 ⟨rfl, hb⟩
     replace k5 := k5.below hb k5.lt
     replace kr := kr.below hb kr.lt
     replace oq := oq.below hb
     replace ox := ox.below hb
     replace d := d.then hb
     clear hi hb q0 q1
     obtain ⟨hp3, hp2⟩ := isP_ge HM.out.1
     have HP2 : Hid (2 ≤ P) := Lib.hid (by omega)
     have HSL : Hid (sq.length = n) := Lib.hid oq.rd.lenI
     obtain ⟨q0, q1⟩ := k5.two
     by_cases h4 : n ≤ 4
     · have d4 : decide ((n : Int) ≤ 4) = true := by simp; omega
       have hnx := next_any g 3 w10 d.s' (by omega)
       go_wp2_with fail
       refine hnx.mono ?_
       rintro e w11 ⟨r3, rfl, _, _, hd3⟩
       replace k5 := k5.dr hd3 (by decide)
       replace kr := kr.dr hd3 (by decide)
       replace oq := oq.dr hd3 (by decide)
       replace ox := ox.dr hd3 (by decide)
       replace d := d.trans hd3
       clear hnx hd3 q0 q1
       by_cases h3 : r3 = 0
       · have e3 : (r3 == 0) = true := by simp [h3]
         have hpw : pw n ≤ 16 := pw_le h4
         obtain ⟨q0, q1⟩ := k5.two
         go_wp2
         refine wp_obsR 16 (Dr g 144) [[], [], [], [], [3], [], [5], [5, 6], [2, 3, 4, 5, 6, 7], [1, 2, 3, 4, 5, 6, 7, 8], [0, 1, 2, 3, 4, 5, 6, 7, 8, 9], [0, 1, 2, 3, 4, 5, 6, 7, 8, 9, 10], [0, 1, 2, 3, 4, 5, 6, 7, 8, 9, 10, 11], [0, 1, 2, 3, 4, 5, 6, 7, 8, 9, 10, 11], [0, 1, 2, 3, 4, 5, 6, 7, 8, 9, 10, 11, 12], [0, 1, 2, 3, 4, 5, 6, 7, 8, 9, 10, 11, 13]] [[], [], [], [], [], [], [], [], [99], [], [], [], [], [], [], []] (fun x => [VIs (.agg #[.int .i64 P, .slice A n c]), VIs (.agg #[.int .i64 P, .slice A n c]), VIs (.pointer (some ⟨g, 0, none⟩)), VIs (.pointer (some ⟨b5, 0, none⟩)), VIs (.int .i64 (P)), VIs (.pointer (some ⟨b5, 1, none⟩)), VIs (.slice A n c), VIs (.int .i64 (n)), VLs w.heap.size n P, VLs w.heap.size (pw n) P, VTc w.heap.size P n, VTc w.heap.size P n, VIs (tupA (x 11)), VIs (tupB (x 11)), VIs (tupA (x 11)), VIs (tupB (x 11))]) (fun w' => Blk w' b5 26 #[.int .i64 P, .slice A n c] ∧ Blk w' w.heap.size 26 #[.int .i64 0, .slice none 0 0] ∧ Own w' w.heap.size 2 A n c (ints sq) ∧ Own w' w.heap.size 2 X m cx (ints xs) ∧ Dr g 144 w2 w') (by kernel_rfl) (by kernel_rfl) (fun x x' j hx => by
             rcases j with _ | _ | _ | _ | _ | _ | _ | _ | _ | _ | _ | _ | _ | _ | _ | _ | j
             · rfl
             · rfl
             · rfl
             · rfl
             · rfl
             · rfl
             · rfl
             · rfl
             · rfl
             · rfl
             · rfl
             · rfl
             · rw [hx 11 (by decide)]
             · rw [hx 11 (by decide)]
             · rw [hx 11 (by decide)]
             · rw [hx 11 (by decide)]
             · rfl)
          (weak_ofR [0, 1, 2, 3, 4, 5, 6, 7, 8, 12, 13, 14, 15] (by decide) (fun k hk x v w w' hp hr => by
           simp only [List.mem_cons, zJ, or_false] at hk
           rcases hk with rfl | rfl | rfl | rfl | rfl | rfl | rfl | rfl | rfl | rfl | rfl | rfl | rfl
           · exact hp
           · exact hp
           · exact hp
           · exact hp
           · exact hp
           · exact hp
           · exact hp
           · exact hp
           · exact VLs.dr hp hr (by decide)
           · exact hp
           · exact hp
           · exact hp
           · exact hp)) (fun j _ _ h hb => hb.either (fun hb => ⟨h.1.below hb h.1.lt, h.2.1.below hb h.2.1.lt, h.2.2.1.below hb, h.2.2.2.1.below hb, h.2.2.2.2.then hb⟩) (fun hr => ⟨h.1.dr hr (by decide), h.2.1.dr hr (by decide), h.2.2.1.dr hr (by decide), h.2.2.2.1.dr hr (by decide), h.2.2.2.2.trans hr⟩)) (⟨k5.drew, kr.drew, oq.below zG.drew, ox.below zG.drew, d.then zG.drew⟩) (fun x => ?_)
         refine zSR (fun w' hS hV K hK => ?_) ?_
         · obtain ⟨q0, q1⟩ := hS.1.two; go_simp; exact hK.out _ _ _ rfl rfl rfl zG
         refine zSR (fun w' hS hV K hK => ?_) ?_
         · obtain ⟨q0, q1⟩ := hS.1.two; go_simp; exact hK.out _ _ _ rfl rfl rfl zG
         refine zSR (fun w' hS hV K hK => ?_) ?_
         · obtain ⟨q0, q1⟩ := hS.1.two; go_simp; exact hK.out _ _ _ rfl rfl rfl zG
         refine zSR (fun w' hS hV K hK => ?_) ?_
         · obtain ⟨q0, q1⟩ := hS.1.two; go_simp; exact hK.out _ _ _ rfl rfl rfl zG
         refine zSR (fun w' hS hV K hK => ?_) ?_
         · have e3 := zQ hV 3; obtain ⟨q0, q1⟩ := hS.1.two; go_simp; exact hK.out _ _ _ rfl rfl rfl zG
         refine zSR (fun w' hS hV K hK => ?_) ?_
         · obtain ⟨q0, q1⟩ := hS.1.two; go_simp; exact hK.out _ _ _ rfl rfl rfl zG
         refine zSR (fun w' hS hV K hK => ?_) ?_
         · have e5 := zQ hV 5; obtain ⟨q0, q1⟩ := hS.1.two; go_simp; exact hK.out _ _ _ rfl rfl rfl zG
         refine zSR (fun w' hS hV K hK => ?_) ?_
         · have e6 := zQ hV 6; obtain ⟨q0, q1⟩ := hS.1.two; go_simp; exact hK.out _ _ _ rfl rfl rfl zG
         refine zSR (fun w' hS hV K hK => ?_) ?_
         · have e2 := zQ hV 2; have e4 := zQ hV 4; have e7 := zQ hV 7; obtain ⟨q0, q1⟩ := hS.1.two; go_simp; refine (nextList_any g P n w' hS.2.2.2.2.s' (by omega) (by omega)).mono ?_; rintro e v1 ⟨A9, c9, xs9, rfl, hl9, hx9, ho9, hd9⟩; exact hK.out _ _ _ rfl rfl ⟨_, _, xs9, rfl, hl9, nums_of (by omega) hx9, ho9.base (Nat.le_trans hw hS.2.2.2.2.size)⟩ (StepR.rel rfl hd9)
         refine zSR (fun w' hS hV K hK => ?_) ?_
         · have e1 := zQ hV 1; obtain ⟨A8, c8, X8, e8, l8, u8, h8⟩ := hV 8 (by decide); obtain ⟨q0, q1⟩ := hS.1.two; go_simp; refine (l04Vector_any P A n c A8 c8 X8 w' (by omega) h8.rd).mono ?_; rintro e v1 ⟨A9, c9, rfl, hM⟩; exact hK.out _ _ _ rfl rfl ⟨_, _, _, rfl, vecTo_len _ _ _, vecTo_nums (by omega) n X8 u8 n, hM.2.base (Nat.le_trans hw hS.2.2.2.2.size)⟩ hM.b
         refine zSR (fun w' hS hV K hK => ?_) ?_
         · have e0 := zQ hV 0; obtain ⟨A8, c8, X8, e8, l8, u8, h8⟩ := hV 8 (by decide); obtain ⟨A9, c9, X9, e9, l9, u9, h9⟩ := hV 9 (by decide); obtain ⟨q0, q1⟩ := hS.1.two; go_simp; refine (specVectorIdempotent_any P A n c sq A9 (pw n) c9 X9 w' (by omega) (by omega) hS.2.2.1.rd h9.rd h9.cap).mono ?_; rintro e v1 ⟨A9, k9, c9, rfl, hM⟩; exact hK.out _ _ _ rfl rfl ⟨_, _, _, _, _, rfl, hM.2.base (Nat.le_trans hw hS.2.2.2.2.size), fun hz => by rw [vidR_zero hz, HSL.out]; exact vidL_ok HP2.out sq n _⟩ hM.b
         refine zSR (fun w' hS hV K hK => ?_) ?_
         · obtain ⟨A8, c8, X8, e8, l8, u8, h8⟩ := hV 8 (by decide); obtain ⟨A9, c9, X9, e9, l9, u9, h9⟩ := hV 9 (by decide); obtain ⟨A10, k10, c10, X10, z10, e10, h10, y10⟩ := hV 10 (by decide); obtain ⟨q0, q1⟩ := hS.1.two; go_simp; exact hK.out _ _ _ rfl rfl ⟨_, _, _, _, _, rfl, h10, y10⟩ zG
         refine zSR (fun w' hS hV K hK => ?_) ?_
         · obtain ⟨A8, c8, X8, e8, l8, u8, h8⟩ := hV 8 (by decide); obtain ⟨A9, c9, X9, e9, l9, u9, h9⟩ := hV 9 (by decide); obtain ⟨A10, k10, c10, X10, z10, e10, h10, y10⟩ := hV 10 (by decide); obtain ⟨A11, k11, c11, X11, z11, e11, h11, y11⟩ := hV 11 (by decide); obtain ⟨q0, q1⟩ := hS.1.two; go_simp; exact hK.out _ _ _ rfl rfl (by rw [e11]; rfl) zG
         refine zSR (fun w' hS hV K hK => ?_) ?_
         · obtain ⟨A8, c8, X8, e8, l8, u8, h8⟩ := hV 8 (by decide); obtain ⟨A9, c9, X9, e9, l9, u9, h9⟩ := hV 9 (by decide); obtain ⟨A10, k10, c10, X10, z10, e10, h10, y10⟩ := hV 10 (by decide); obtain ⟨A11, k11, c11, X11, z11, e11, h11, y11⟩ := hV 11 (by decide); obtain ⟨q0, q1⟩ := hS.1.two; go_simp; exact hK.out _ _ _ rfl rfl (by rw [e11]; rfl) zG
         refine zSR (fun w' hS hV K hK => ?_) ?_
         · obtain ⟨A8, c8, X8, e8, l8, u8, h8⟩ := hV 8 (by decide); obtain ⟨A9, c9, X9, e9, l9, u9, h9⟩ := hV 9 (by decide); obtain ⟨A10, k10, c10, X10, z10, e10, h10, y10⟩ := hV 10 (by decide); obtain ⟨A11, k11, c11, X11, z11, e11, h11, y11⟩ := hV 11 (by decide); have e12 : x 12 = .slice A11 k11 c11 := (hV 12 (by decide)).trans (by rw [e11]; rfl); obtain ⟨q0, q1⟩ := hS.1.two; go_simp; exact hK.out _ _ _ rfl rfl (by rw [e11]; rfl) zG
         refine zSR (fun w' hS hV K hK => ?_) ?_
         · obtain ⟨A8, c8, X8, e8, l8, u8, h8⟩ := hV 8 (by decide); obtain ⟨A9, c9, X9, e9, l9, u9, h9⟩ := hV 9 (by decide); obtain ⟨A10, k10, c10, X10, z10, e10, h10, y10⟩ := hV 10 (by decide); obtain ⟨A11, k11, c11, X11, z11, e11, h11, y11⟩ := hV 11 (by decide); have e13 : x 13 = .int .i64 z11 := (hV 13 (by decide)).trans (by rw [e11]; rfl); obtain ⟨q0, q1⟩ := hS.1.two; go_simp; exact hK.out _ _ _ rfl rfl (by rw [e11]; rfl) zG
         refine fun w' hS hV => ?_
         have e0 := zQ hV 0
         have e1 := zQ hV 1
         have e2 := zQ hV 2
         have e3 := zQ hV 3
         have e4 := zQ hV 4
         have e5 := zQ hV 5
         have e6 := zQ hV 6
         have e7 := zQ hV 7
         obtain ⟨A8, c8, X8, e8, l8, u8, h8⟩ := hV 8 (by decide)
         obtain ⟨A9, c9, X9, e9, l9, u9, h9⟩ := hV 9 (by decide)
         obtain ⟨A10, k10, c10, X10, z10, e10, h10, y10⟩ := hV 10 (by decide)
         obtain ⟨A11, k11, c11, X11, z11, e11, h11, y11⟩ := hV 11 (by decide)
         have e12 : x 12 = .slice A11 k11 c11 := (hV 12 (by decide)).trans (by rw [e11]; rfl)
         have e13 : x 13 = .int .i64 z11 := (hV 13 (by decide)).trans (by rw [e11]; rfl)
         have e14 : x 14 = .slice A11 k11 c11 := (hV 14 (by decide)).trans (by rw [e11]; rfl)
         have e15 : x 15 = .int .i64 z11 := (hV 15 (by decide)).trans (by rw [e11]; rfl)
         simp only [e0, e1, e2, e3, e4, e5, e6, e7, e8, e9, e10, e11, e12, e13, e14, e15]
         clear e0 e1 e2 e3 e4 e5 e6 e7 e8 e9 e10 e11 e12 e13 e14 e15
         refine wpAny_done (by kernel_rfl) ?_ _
         obtain ⟨wv, hwv⟩ : ∃ W, W = w' := ⟨_, rfl⟩
         replace k5 := hS.1
         replace kr := hS.2.1
         replace oq := hS.2.2.1
         replace ox := hS.2.2.2.1
         replace d := hS.2.2.2.2
         obtain ⟨E, hEe⟩ : ∃ E, E = A11 := ⟨_, rfl⟩
         obtain ⟨ke, hke⟩ : ∃ E, E = k11 := ⟨_, rfl⟩
         obtain ⟨ce, hce⟩ : ∃ E, E = c11 := ⟨_, rfl⟩
         obtain ⟨es, hes⟩ : ∃ E, E = X11 := ⟨_, rfl⟩
         obtain ⟨z, hze⟩ : ∃ E, E = z11 := ⟨_, rfl⟩
         have oe := h11
         have HZ := Lib.hid y11
         rw [← hEe, ← hke, ← hce, ← hes] at oe
         rw [← hes, ← hze] at HZ
         rw [← hEe, ← hke, ← hce, ← hze]
         rw [← hwv] at k5 kr oq ox d oe ⊢
         clear hwv hS hEe hke hce hes hze q0 q1
         by_cases hz : z = 0
         · have ez : (z == 0) = true := by simp [hz]
           have hEN := HZ.out hz
           obtain rfl : m = pw n := by rw [← ox.rd.lenI]; exact HM.out.2.2.2.1
           obtain rfl : ke = pw n := by rw [← oe.rd.lenI]; exact hEN.1
           have HEN := Lib.hid hEN
           clear hEN hz
           obtain ⟨q0, q1⟩ := k5.two
           have HOE := Lib.hid oe
           have HD0 := Lib.hid d
           go_wp2
           refine wp_obsR 5 (Dr g 144) [[], [], [], [], [1, 2, 3], [0, 1, 2, 3, 4], [0, 1, 2, 3, 4]] [[], [], [], [], []] (fun x => [VIs (.agg #[.int .i64 P, .slice A n c]), VIs (.agg #[.int .i64 P, .slice A n c]), VIs (.slice X (pw n) cx), VIs (.slice E (pw n) ce), VLs w.heap.size (pw n) P]) (fun w' => Blk w' b5 26 #[.int .i64 P, .slice A n c] ∧ Blk w' w.heap.size 26 #[.int .i64 0, .slice none 0 0] ∧ (Own w' w.heap.size 2 A n c (ints sq) ∧ Own w' w.heap.size 2 E (pw n) ce (ints es)) ∧ Own w' w.heap.size 2 X (pw n) cx (ints xs) ∧ Dr g 144 w2 w') (by kernel_rfl) (by kernel_rfl) (fun x x' j hx => by
               rcases j with _ | _ | _ | _ | _ | j
               · rfl
               · rfl
               · rfl
               · rfl
               · rfl
               · rfl)
            (weak_ofR [0, 1, 2, 3] (by decide) (fun k hk x v w w' hp hr => by
             simp only [List.mem_cons, zJ, or_false] at hk
             rcases hk with rfl | rfl | rfl | rfl
             · exact hp
             · exact hp
             · exact hp
             · exact hp)) (fun j _ _ h hb => hb.either (fun hb => ⟨h.1.below hb h.1.lt, h.2.1.below hb h.2.1.lt, ⟨h.2.2.1.1.below hb, h.2.2.1.2.below hb⟩, h.2.2.2.1.below hb, h.2.2.2.2.then hb⟩) (fun hr => ⟨h.1.dr hr (by decide), h.2.1.dr hr (by decide), ⟨h.2.2.1.1.dr hr (by decide), h.2.2.1.2.dr hr (by decide)⟩, h.2.2.2.1.dr hr (by decide), h.2.2.2.2.trans hr⟩)) (⟨k5.drew, kr.drew, ⟨oq.below zG.drew, oe.below zG.drew⟩, ox.below zG.drew, d.then zG.drew⟩) (fun x => ?_)
           refine zSR (fun w' hS hV K hK => ?_) ?_
           · obtain ⟨q0, q1⟩ := hS.1.two; go_simp; exact hK.out _ _ _ rfl rfl rfl zG
           refine zSR (fun w' hS hV K hK => ?_) ?_
           · obtain ⟨q0, q1⟩ := hS.1.two; go_simp; exact hK.out _ _ _ rfl rfl rfl zG
           refine zSR (fun w' hS hV K hK => ?_) ?_
           · obtain ⟨q0, q1⟩ := hS.1.two; go_simp; exact hK.out _ _ _ rfl rfl rfl zG
           refine zSR (fun w' hS hV K hK => ?_) ?_
           · obtain ⟨q0, q1⟩ := hS.1.two; go_simp; exact hK.out _ _ _ rfl rfl rfl zG
           refine zSR (fun w' hS hV K hK => ?_) ?_
           · have e1 := zQ hV 1; have e2 := zQ hV 2; have e3 := zQ hV 3; obtain ⟨q0, q1⟩ := hS.1.two; go_simp; have ht := l04Times_any P A n c sq X cx xs E ce es w' HP2.out (by omega) (by omega) hS.2.2.1.1.rd HM.out.2.2.1 hS.2.2.2.1.rd HM.out.2.2.2.2 hS.2.2.1.2.rd HEN.out.2; refine ht.mono ?_; rintro e v1 ⟨A9, c9, rfl, hM⟩; exact hK.out _ _ _ rfl rfl ⟨_, _, _, rfl, by rw [prodL_len]; exact HM.out.2.2.2.1, prodL_nums _ _ _ _ (by omega), hM.2.base (Nat.le_trans hw hS.2.2.2.2.size)⟩ hM.b
           refine fun w' hS hV => ?_
           have e0 := zQ hV 0
           have e1 := zQ hV 1
           have e2 := zQ hV 2
           have e3 := zQ hV 3
           obtain ⟨A4, c4, X4, e4, l4, u4, h4⟩ := hV 4 (by decide)
           simp only [e0, e1, e2, e3, e4]
           clear e0 e1 e2 e3 e4
           replace k5 := hS.1
           replace kr := hS.2.1
           replace oq := hS.2.2.1.1
           replace d := hS.2.2.2.2
           clear q0 q1
           have ox := h4
           obtain ⟨p0, p1⟩ := kr.two
           have f0 := kr.frozen 0
           have f1 := kr.frozen 1
           refine any_one (j := 5) (by kernel_rfl) (Eq.trans (by simp only [zA, zB, zC]; exact rfl) rfl) (fun K hK => ?_)
           go_simp
           refine hK.out _ _ (any_one (j := 6) (by kernel_rfl) (Eq.trans (by simp only [zA, zB, zC]; exact rfl) rfl) (fun K hK => ?_))
           go_simp
           refine hK.out _ _ (wpAny_done (by kernel_rfl) ?_ _)
           go_wp2
           exact bodyPost_ret (v := .tuple #[.agg #[.int .i64 P, .slice A n c], .slice A4 (pw n) c4]) (by simp [results, Tryz.results148, go_sem, p0, p1]) rfl ⟨P, A, n, c, sq, A4, (pw n), c4, X4, rfl, hP, hn, by omega, (oq.far kr (by decide) 0 _).far (kr.set_ 0 (.int .i64 P)) (by decide) 1 _, (ox.far kr (by decide) 0 _).far (kr.set_ 0 (.int .i64 P)) (by decide) 1 _, hB2.trans (((d.b.mono hgw).setCell (p := ⟨w.heap.size, 0, none⟩) (Nat.le_refl _) _).setCell (p := ⟨w.heap.size, 1, none⟩) (Nat.le_refl _) _)⟩
         · have ez : (z == 0) = false := by simp [hz]
           obtain ⟨q0, q1⟩ := k5.two
           obtain ⟨p0, p1⟩ := kr.two
           have f0 := kr.frozen 0
           have f1 := kr.frozen 1
           go_wp2
           exact bodyPost_ret (v := .tuple #[.agg #[.int .i64 P, .slice A n c], .slice X m cx]) (by simp [results, Tryz.results148, go_sem, p0, p1]) rfl ⟨P, A, n, c, sq, X, m, cx, xs, rfl, hP, hn, by omega, (oq.far kr (by decide) 0 _).far (kr.set_ 0 (.int .i64 P)) (by decide) 1 _, (ox.far kr (by decide) 0 _).far (kr.set_ 0 (.int .i64 P)) (by decide) 1 _, hB2.trans (((d.b.mono hgw).setCell (p := ⟨w.heap.size, 0, none⟩) (Nat.le_refl _) _).setCell (p := ⟨w.heap.size, 1, none⟩) (Nat.le_refl _) _)⟩
       · have e3 : (r3 == 0) = false := by simp [h3]
         obtain ⟨q0, q1⟩ := k5.two
         obtain ⟨p0, p1⟩ := kr.two
         have f0 := kr.frozen 0
         have f1 := kr.frozen 1
         go_wp2
         exact bodyPost_ret (v := .tuple #[.agg #[.int .i64 P, .slice A n c], .slice X m cx]) (by simp [results, Tryz.results148, go_sem, p0, p1]) rfl ⟨P, A, n, c, sq, X, m, cx, xs, rfl, hP, hn, by omega, (oq.far kr (by decide) 0 _).far (kr.set_ 0 (.int .i64 P)) (by decide) 1 _, (ox.far kr (by decide) 0 _).far (kr.set_ 0 (.int .i64 P)) (by decide) 1 _, hB2.trans (((d.b.mono hgw).setCell (p := ⟨w.heap.size, 0, none⟩) (Nat.le_refl _) _).setCell (p := ⟨w.heap.size, 1, none⟩) (Nat.le_refl _) _)⟩
     · have d4 : decide ((n : Int) ≤ 4) = false := by simp; omega
       obtain ⟨q0, q1⟩ := k5.two
       obtain ⟨p0, p1⟩ := kr.two
       have f0 := kr.frozen 0
       have f1 := kr.frozen 1
       go_wp2
       exact bodyPost_ret (v := .tuple #[.agg #[.int .i64 P, .slice A n c], .slice X m cx]) (by simp [results, Tryz.results148, go_sem, p0, p1]) rfl ⟨P, A, n, c, sq, X, m, cx, xs, rfl, hP, hn, by omega, (oq.far kr (by decide) 0 _).far (kr.set_ 0 (.int .i64 P)) (by decide) 1 _, (ox.far kr (by decide) 0 _).far (kr.set_ 0 (.int .i64 P)) (by decide) 1 _, hB2.trans (((d.b.mono hgw).setCell (p := ⟨w.heap.size, 0, none⟩) (Nat.le_refl _) _).setCell (p := ⟨w.heap.size, 1, none⟩) (Nat.le_refl _) _)⟩
 · have e16 : (r16 == 0) = false := by simp [h16]
   obtain ⟨wz, hwz⟩ : ∃ W, W = w5 := ⟨_, rfl⟩
   rw [← hwz] at k5 kr oq d ⊢
   clear hwz h16
   have hsp := l04Spoil_any g P A n c sq wz d.s' (by omega) (oq.base (Nat.zero_le _))
   obtain ⟨q0, q1⟩ := k5.two
   go_wp2_with fail
   refine hsp.mono ?_
   rintro e w9 ⟨X, m, cx, rfl, hm, ⟨xs, ho9⟩, hd9⟩
   have ox := ho9.base (Nat.le_trans hw d.size)
   replace k5 := k5.dr hd9 (by decide)
   replace kr := kr.dr hd9 (by decide)
   replace oq := oq.dr hd9 (by decide)
   replace d := d.trans hd9
   clear hsp ho9 hd9 q0 q1
   obtain ⟨q0, q1⟩ := k5.two
   cases hmu : (isSp P sq && isMu P sq xs)
   · have hi := l04Is_b P A X n c m cx sq xs w9 (by omega) (by omega) oq.rd ox.rd hmu
     clear hmu
     go_wp2_with fail
     refine hi.mono ?_
     rintro e w10 ⟨rfl, hb⟩
     replace k5 := k5.below hb k5.lt
     replace kr := kr.below hb kr.lt
     replace oq := oq.below hb
     replace ox := ox.below hb
     replace d := d.then hb
     clear hi hb q0 q1
     obtain ⟨q0, q1⟩ := k5.two
     obtain ⟨p0, p1⟩ := kr.two
     have f0 := kr.frozen 0
     have f1 := kr.frozen 1
     go_wp2
     exact bodyPost_ret (v := .tuple #[.agg #[.int .i64 P, .slice A n c], .slice X m cx]) (by simp [results, Tryz.results148, go_sem, p0, p1]) rfl ⟨P, A, n, c, sq, X, m, cx, xs, rfl, hP, hn, by omega, (oq.far kr (by decide) 0 _).far (kr.set_ 0 (.int .i64 P)) (by decide) 1 _, (ox.far kr (by decide) 0 _).far (kr.set_ 0 (.int .i64 P)) (by decide) 1 _, hB2.trans (((d.b.mono hgw).setCell (p := ⟨w.heap.size, 0, none⟩) (Nat.le_refl _) _).setCell (p := ⟨w.heap.size, 1, none⟩) (Nat.le_refl _) _)⟩
   · have hi := l04Is_b P A X n c m cx sq xs w9 (by omega) (by omega) oq.rd ox.rd hmu
     have HM : Hid (isP P = true ∧ n ≤ 6 ∧ NumsL P sq ∧ xs.length = pw n ∧ NumsL P xs) := Lib.hid (by
      rw [Bool.and_eq_true] at hmu
      obtain ⟨g1, g2, g3, g4⟩ := isSp_dim hmu.1
      have g5 := hmu.2
      unfold isMu at g5
      rw [Bool.and_eq_true, beq_iff_eq] at g5
      rw [oq.rd.lenI] at g3
      exact ⟨g1, g3, nums_numsL g4, by have := g5.1; rw [oq.rd.lenI] at this; omega, nums_numsL g5.2⟩)
     clear hmu
     go_wp2_with fail
     refine hi.mono ?_
     rintro e w10 ⟨rfl, hb⟩
     replace k5 := k5.below hb k5.lt
     replace kr := kr.below hb kr.lt
     replace oq := oq.below hb
     replace ox := ox.below hb
     replace d := d.then hb
     clear hi hb q0 q1
     obtain ⟨hp3, hp2⟩ := isP_ge HM.out.1
     have HP2 : Hid (2 ≤ P) := Lib.hid (by omega)
     have HSL : Hid (sq.length = n) := Lib.hid oq.rd.lenI
     obtain ⟨q0, q1⟩ := k5.two
     by_cases h4 : n ≤ 4
     · have d4 : decide ((n : Int) ≤ 4) = true := by simp; omega
       have hnx := next_any g 3 w10 d.s' (by omega)
       go_wp2_with fail
       refine hnx.mono ?_
       rintro e w11 ⟨r3, rfl, _, _, hd3⟩
       replace k5 := k5.dr hd3 (by decide)
       replace kr := kr.dr hd3 (by decide)
       replace oq := oq.dr hd3 (by decide)
       replace ox := ox.dr hd3 (by decide)
       replace d := d.trans hd3
       clear hnx hd3 q0 q1
       by_cases h3 : r3 = 0
       · have e3 : (r3 == 0) = true := by simp [h3]
         have hpw : pw n ≤ 16 := pw_le h4
         obtain ⟨q0, q1⟩ := k5.two
         go_wp2
         refine wp_obsR 16 (Dr g 144) [[], [], [], [], [3], [], [5], [5, 6], [2, 3, 4, 5, 6, 7], [1, 2, 3, 4, 5, 6, 7, 8], [0, 1, 2, 3, 4, 5, 6, 7, 8, 9], [0, 1, 2, 3, 4, 5, 6, 7, 8, 9, 10], [0, 1, 2, 3, 4, 5, 6, 7, 8, 9, 10, 11], [0, 1, 2, 3, 4, 5, 6, 7, 8, 9, 10, 11], [0, 1, 2, 3, 4, 5, 6, 7, 8, 9, 10, 11, 12], [0, 1, 2, 3, 4, 5, 6, 7, 8, 9, 10, 11, 13]] [[], [], [], [], [], [], [], [], [99], [], [], [], [], [], [], []] (fun x => [VIs (.agg #[.int .i64 P, .slice A n c]), VIs (.agg #[.int .i64 P, .slice A n c]), VIs (.pointer (some ⟨g, 0, none⟩)), VIs (.pointer (some ⟨b5, 0, none⟩)), VIs (.int .i64 (P)), VIs (.pointer (some ⟨b5, 1, none⟩)), VIs (.slice A n c), VIs (.int .i64 (n)), VLs w.heap.size n P, VLs w.heap.size (pw n) P, VTc w.heap.size P n, VTc w.heap.size P n, VIs (tupA (x 11)), VIs (tupB (x 11)), VIs (tupA (x 11)), VIs (tupB (x 11))]) (fun w' => Blk w' b5 26 #[.int .i64 P, .slice A n c] ∧ Blk w' w.heap.size 26 #[.int .i64 0, .slice none 0 0] ∧ Own w' w.heap.size 2 A n c (ints sq) ∧ Own w' w.heap.size 2 X m cx (ints xs) ∧ Dr g 144 w2 w') (by kernel_rfl) (by kernel_rfl) (fun x x' j hx => by
             rcases j with _ | _ | _ | _ | _ | _ | _ | _ | _ | _ | _ | _ | _ | _ | _ | _ | j
             · rfl
             · rfl
             · rfl
             · rfl
             · rfl
             · rfl
             · rfl
             · rfl
             · rfl
             · rfl
             · rfl
             · rfl
             · rw [hx 11 (by decide)]
             · rw [hx 11 (by decide)]
             · rw [hx 11 (by decide)]
             · rw [hx 11 (by decide)]
             · rfl)
          (weak_ofR [0, 1, 2, 3, 4, 5, 6, 7, 8, 12, 13, 14, 15] (by decide) (fun k hk x v w w' hp hr => by
           simp only [List.mem_cons, zJ, or_false] at hk
           rcases hk with rfl | rfl | rfl | rfl | rfl | rfl | rfl | rfl | rfl | rfl | rfl | rfl | rfl
           · exact hp
           · exact hp
           · exact hp
           · exact hp
           · exact hp
           · exact hp
           · exact hp
           · exact hp
           · exact VLs.dr hp hr (by decide)
           · exact hp
           · exact hp
           · exact hp
           · exact hp)) (fun j _ _ h hb => hb.either (fun hb => ⟨h.1.below hb h.1.lt, h.2.1.below hb h.2.1.lt, h.2.2.1.below hb, h.2.2.2.1.below hb, h.2.2.2.2.then hb⟩) (fun hr => ⟨h.1.dr hr (by decide), h.2.1.dr hr (by decide), h.2.2.1.dr hr (by decide), h.2.2.2.1.dr hr (by decide), h.2.2.2.2.trans hr⟩)) (⟨k5.drew, kr.drew, oq.below zG.drew, ox.below zG.drew, d.then zG.drew⟩) (fun x => ?_)
         refine zSR (fun w' hS hV K hK => ?_) ?_
         · obtain ⟨q0, q1⟩ := hS.1.two; go_simp; exact hK.out _ _ _ rfl rfl rfl zG
         refine zSR (fun w' hS hV K hK => ?_) ?_
         · obtain ⟨q0, q1⟩ := hS.1.two; go_simp; exact hK.out _ _ _ rfl rfl rfl zG
         refine zSR (fun w' hS hV K hK => ?_) ?_
         · obtain ⟨q0, q1⟩ := hS.1.two; go_simp; exact hK.out _ _ _ rfl rfl rfl zG
         refine zSR (fun w' hS hV K hK => ?_) ?_
         · obtain ⟨q0, q1⟩ := hS.1.two; go_simp; exact hK.out _ _ _ rfl rfl rfl zG
         refine zSR (fun w' hS hV K hK => ?_) ?_
         · have e3 := zQ hV 3; obtain ⟨q0, q1⟩ := hS.1.two; go_simp; exact hK.out _ _ _ rfl rfl rfl zG
         refine zSR (fun w' hS hV K hK => ?_) ?_
         · obtain ⟨q0, q1⟩ := hS.1.two; go_simp; exact hK.out _ _ _ rfl rfl rfl zG
         refine zSR (fun w' hS hV K hK => ?_) ?_
         · have e5 := zQ hV 5; obtain ⟨q0, q1⟩ := hS.1.two; go_simp; exact hK.out _ _ _ rfl rfl rfl zG
         refine zSR (fun w' hS hV K hK => ?_) ?_
         · have e6 := zQ hV 6; obtain ⟨q0, q1⟩ := hS.1.two; go_simp; exact hK.out _ _ _ rfl rfl rfl zG
         refine zSR (fun w' hS hV K hK => ?_) ?_
         · have e2 := zQ hV 2; have e4 := zQ hV 4; have e7 := zQ hV 7; obtain ⟨q0, q1⟩ := hS.1.two; go_simp; refine (nextList_any g P n w' hS.2.2.2.2.s' (by omega) (by omega)).mono ?_; rintro e v1 ⟨A9, c9, xs9, rfl, hl9, hx9, ho9, hd9⟩; exact hK.out _ _ _ rfl rfl ⟨_, _, xs9, rfl, hl9, nums_of (by omega) hx9, ho9.base (Nat.le_trans hw hS.2.2.2.2.size)⟩ (StepR.rel rfl hd9)
         refine zSR (fun w' hS hV K hK => ?_) ?_
         · have e1 := zQ hV 1; obtain ⟨A8, c8, X8, e8, l8, u8, h8⟩ := hV 8 (by decide); obtain ⟨q0, q1⟩ := hS.1.two; go_simp; refine (l04Vector_any P A n c A8 c8 X8 w' (by omega) h8.rd).mono ?_; rintro e v1 ⟨A9, c9, rfl, hM⟩; exact hK.out _ _ _ rfl rfl ⟨_, _, _, rfl, vecTo_len _ _ _, vecTo_nums (by omega) n X8 u8 n, hM.2.base (Nat.le_trans hw hS.2.2.2.2.size)⟩ hM.b
         refine zSR (fun w' hS hV K hK => ?_) ?_
         · have e0 := zQ hV 0; obtain ⟨A8, c8, X8, e8, l8, u8, h8⟩ := hV 8 (by decide); obtain ⟨A9, c9, X9, e9, l9, u9, h9⟩ := hV 9 (by decide); obtain ⟨q0, q1⟩ := hS.1.two; go_simp; refine (specVectorIdempotent_any P A n c sq A9 (pw n) c9 X9 w' (by omega) (by omega) hS.2.2.1.rd h9.rd h9.cap).mono ?_; rintro e v1 ⟨A9, k9, c9, rfl, hM⟩; exact hK.out _ _ _ rfl rfl ⟨_, _, _, _, _, rfl, hM.2.base (Nat.le_trans hw hS.2.2.2.2.size), fun hz => by rw [vidR_zero hz, HSL.out]; exact vidL_ok HP2.out sq n _⟩ hM.b
         refine zSR (fun w' hS hV K hK => ?_) ?_
         · obtain ⟨A8, c8, X8, e8, l8, u8, h8⟩ := hV 8 (by decide); obtain ⟨A9, c9, X9, e9, l9, u9, h9⟩ := hV 9 (by decide); obtain ⟨A10, k10, c10, X10, z10, e10, h10, y10⟩ := hV 10 (by decide); obtain ⟨q0, q1⟩ := hS.1.two; go_simp; exact hK.out _ _ _ rfl rfl ⟨_, _, _, _, _, rfl, h10, y10⟩ zG
         refine zSR (fun w' hS hV K hK => ?_) ?_
         · obtain ⟨A8, c8, X8, e8, l8, u8, h8⟩ := hV 8 (by decide); obtain ⟨A9, c9, X9, e9, l9, u9, h9⟩ := hV 9 (by decide); obtain ⟨A10, k10, c10, X10, z10, e10, h10, y10⟩ := hV 10 (by decide); obtain ⟨A11, k11, c11, X11, z11, e11, h11, y11⟩ := hV 11 (by decide); obtain ⟨q0, q1⟩ := hS.1.two; go_simp; exact hK.out _ _ _ rfl rfl (by rw [e11]; rfl) zG
         refine zSR (fun w' hS hV K hK => ?_) ?_
         · obtain ⟨A8, c8, X8, e8, l8, u8, h8⟩ := hV 8 (by decide); obtain ⟨A9, c9, X9, e9, l9, u9, h9⟩ := hV 9 (by decide); obtain ⟨A10, k10, c10, X10, z10, e10, h10, y10⟩ := hV 10 (by decide); obtain ⟨A11, k11, c11, X11, z11, e11, h11, y11⟩ := hV 11 (by decide); obtain ⟨q0, q1⟩ := hS.1.two; go_simp; exact hK.out _ _ _ rfl rfl (by rw [e11]; rfl) zG
         refine zSR (fun w' hS hV K hK => ?_) ?_
         · obtain ⟨A8, c8, X8, e8, l8, u8, h8⟩ := hV 8 (by decide); obtain ⟨A9, c9, X9, e9, l9, u9, h9⟩ := hV 9 (by decide); obtain ⟨A10, k10, c10, X10, z10, e10, h10, y10⟩ := hV 10 (by decide); obtain ⟨A11, k11, c11, X11, z11, e11, h11, y11⟩ := hV 11 (by decide); have e12 : x 12 = .slice A11 k11 c11 := (hV 12 (by decide)).trans (by rw [e11]; rfl); obtain ⟨q0, q1⟩ := hS.1.two; go_simp; exact hK.out _ _ _ rfl rfl (by rw [e11]; rfl) zG
         refine zSR (fun w' hS hV K hK => ?_) ?_
         · obtain ⟨A8, c8, X8, e8, l8, u8, h8⟩ := hV 8 (by decide); obtain ⟨A9, c9, X9, e9, l9, u9, h9⟩ := hV 9 (by decide); obtain ⟨A10, k10, c10, X10, z10, e10, h10, y10⟩ := hV 10 (by decide); obtain ⟨A11, k11, c11, X11, z11, e11, h11, y11⟩ := hV 11 (by decide); have e13 : x 13 = .int .i64 z11 := (hV 13 (by decide)).trans (by rw [e11]; rfl); obtain ⟨q0, q1⟩ := hS.1.two; go_simp; exact hK.out _ _ _ rfl rfl (by rw [e11]; rfl) zG
         refine fun w' hS hV => ?_
         have e0 := zQ hV 0
         have e1 := zQ hV 1
         have e2 := zQ hV 2
         have e3 := zQ hV 3
         have e4 := zQ hV 4
         have e5 := zQ hV 5
         have e6 := zQ hV 6
         have e7 := zQ hV 7
         obtain ⟨A8, c8, X8, e8, l8, u8, h8⟩ := hV 8 (by decide)
         obtain ⟨A9, c9, X9, e9, l9, u9, h9⟩ := hV 9 (by decide)
         obtain ⟨A10, k10, c10, X10, z10, e10, h10, y10⟩ := hV 10 (by decide)
         obtain ⟨A11, k11, c11, X11, z11, e11, h11, y11⟩ := hV 11 (by decide)
         have e12 : x 12 = .slice A11 k11 c11 := (hV 12 (by decide)).trans (by rw [e11]; rfl)
         have e13 : x 13 = .int .i64 z11 := (hV 13 (by decide)).trans (by rw [e11]; rfl)
         have e14 : x 14 = .slice A11 k11 c11 := (hV 14 (by decide)).trans (by rw [e11]; rfl)
         have e15 : x 15 = .int .i64 z11 := (hV 15 (by decide)).trans (by rw [e11]; rfl)
         simp only [e0, e1, e2, e3, e4, e5, e6, e7, e8, e9, e10, e11, e12, e13, e14, e15]
         clear e0 e1 e2 e3 e4 e5 e6 e7 e8 e9 e10 e11 e12 e13 e14 e15
         refine wpAny_done (by kernel_rfl) ?_ _
         obtain ⟨wv, hwv⟩ : ∃ W, W = w' := ⟨_, rfl⟩
         replace k5 := hS.1
         replace kr := hS.2.1
         replace oq := hS.2.2.1
         replace ox := hS.2.2.2.1
         replace d := hS.2.2.2.2
         obtain ⟨E, hEe⟩ : ∃ E, E = A11 := ⟨_, rfl⟩
         obtain ⟨ke, hke⟩ : ∃ E, E = k11 := ⟨_, rfl⟩
         obtain ⟨ce, hce⟩ : ∃ E, E = c11 := ⟨_, rfl⟩
         obtain ⟨es, hes⟩ : ∃ E, E = X11 := ⟨_, rfl⟩
         obtain ⟨z, hze⟩ : ∃ E, E = z11 := ⟨_, rfl⟩
         have oe := h11
         have HZ := Lib.hid y11
         rw [← hEe, ← hke, ← hce, ← hes] at oe
         rw [← hes, ← hze] at HZ
         rw [← hEe, ← hke, ← hce, ← hze]
         rw [← hwv] at k5 kr oq ox d oe ⊢
         clear hwv hS hEe hke hce hes hze q0 q1
         by_cases hz : z = 0
         · have ez : (z == 0) = true := by simp [hz]
           have hEN := HZ.out hz
           obtain rfl : m = pw n := by rw [← ox.rd.lenI]; exact HM.out.2.2.2.1
           obtain rfl : ke = pw n := by rw [← oe.rd.lenI]; exact hEN.1
           have HEN := Lib.hid hEN
           clear hEN hz
           obtain ⟨q0, q1⟩ := k5.two
           have HOE := Lib.hid oe
           have HD0 := Lib.hid d
           go_wp2
           refine wp_obsR 5 (Dr g 144) [[], [], [], [], [1, 2, 3], [0, 1, 2, 3, 4], [0, 1, 2, 3, 4]] [[], [], [], [], []] (fun x => [VIs (.agg #[.int .i64 P, .slice A n c]), VIs (.agg #[.int .i64 P, .slice A n c]), VIs (.slice X (pw n) cx), VIs (.slice E (pw n) ce), VLs w.heap.size (pw n) P]) (fun w' => Blk w' b5 26 #[.int .i64 P, .slice A n c] ∧ Blk w' w.heap.size 26 #[.int .i64 0, .slice none 0 0] ∧ (Own w' w.heap.size 2 A n c (ints sq) ∧ Own w' w.heap.size 2 E (pw n) ce (ints es)) ∧ Own w' w.heap.size 2 X (pw n) cx (ints xs) ∧ Dr g 144 w2 w') (by kernel_rfl) (by kernel_rfl) (fun x x' j hx => by
               rcases j with _ | _ | _ | _ | _ | j
               · rfl
               · rfl
               · rfl
               · rfl
               · rfl
               · rfl)
            (weak_ofR [0, 1, 2, 3] (by decide) (fun k hk x v w w' hp hr => by
             simp only [List.mem_cons, zJ, or_false] at hk
             rcases hk with rfl | rfl | rfl | rfl
             · exact hp
             · exact hp
             · exact hp
             · exact hp)) (fun j _ _ h hb => hb.either (fun hb => ⟨h.1.below hb h.1.lt, h.2.1.below hb h.2.1.lt, ⟨h.2.2.1.1.below hb, h.2.2.1.2.below hb⟩, h.2.2.2.1.below hb, h.2.2.2.2.then hb⟩) (fun hr => ⟨h.1.dr hr (by decide), h.2.1.dr hr (by decide), ⟨h.2.2.1.1.dr hr (by decide), h.2.2.1.2.dr hr (by decide)⟩, h.2.2.2.1.dr hr (by decide), h.2.2.2.2.trans hr⟩)) (⟨k5.drew, kr.drew, ⟨oq.below zG.drew, oe.below zG.drew⟩, ox.below zG.drew, d.then zG.drew⟩) (fun x => ?_)
           refine zSR (fun w' hS hV K hK => ?_) ?_
           · obtain ⟨q0, q1⟩ := hS.1.two; go_simp; exact hK.out _ _ _ rfl rfl rfl zG
           refine zSR (fun w' hS hV K hK => ?_) ?_
           · obtain ⟨q0, q1⟩ := hS.1.two; go_simp; exact hK.out _ _ _ rfl rfl rfl zG
           refine zSR (fun w' hS hV K hK => ?_) ?_
           · obtain ⟨q0, q1⟩ := hS.1.two; go_simp; exact hK.out _ _ _ rfl rfl rfl zG
           refine zSR (fun w' hS hV K hK => ?_) ?_
           · obtain ⟨q0, q1⟩ := hS.1.two; go_simp; exact hK.out _ _ _ rfl rfl rfl zG
           refine zSR (fun w' hS hV K hK => ?_) ?_
           · have e1 := zQ hV 1; have e2 := zQ hV 2; have e3 := zQ hV 3; obtain ⟨q0, q1⟩ := hS.1.two; go_simp; have ht := l04Times_any P A n c sq X cx xs E ce es w' HP2.out (by omega) (by omega) hS.2.2.1.1.rd HM.out.2.2.1 hS.2.2.2.1.rd HM.out.2.2.2.2 hS.2.2.1.2.rd HEN.out.2; refine ht.mono ?_; rintro e v1 ⟨A9, c9, rfl, hM⟩; exact hK.out _ _ _ rfl rfl ⟨_, _, _, rfl, by rw [prodL_len]; exact HM.out.2.2.2.1, prodL_nums _ _ _ _ (by omega), hM.2.base (Nat.le_trans hw hS.2.2.2.2.size)⟩ hM.b
           refine fun w' hS hV => ?_
           have e0 := zQ hV 0
           have e1 := zQ hV 1
           have e2 := zQ hV 2
           have e3 := zQ hV 3
           obtain ⟨A4, c4, X4, e4, l4, u4, h4⟩ := hV 4 (by decide)
           simp only [e0, e1, e2, e3, e4]
           clear e0 e1 e2 e3 e4
           replace k5 := hS.1
           replace kr := hS.2.1
           replace oq := hS.2.2.1.1
           replace d := hS.2.2.2.2
           clear q0 q1
           have ox := h4
           obtain ⟨p0, p1⟩ := kr.two
           have f0 := kr.frozen 0
           have f1 := kr.frozen 1
           refine any_one (j := 5) (by kernel_rfl) (Eq.trans (by simp only [zA, zB, zC]; exact rfl) rfl) (fun K hK => ?_)
           go_simp
           refine hK.out _ _ (any_one (j := 6) (by kernel_rfl) (Eq.trans (by simp only [zA, zB, zC]; exact rfl) rfl) (fun K hK => ?_))
           go_simp
           refine hK.out _ _ (wpAny_done (by kernel_rfl) ?_ _)
           go_wp2
           exact bodyPost_ret (v := .tuple #[.agg #[.int .i64 P, .slice A n c], .slice A4 (pw n) c4]) (by simp [results, Tryz.results148, go_sem, p0, p1]) rfl ⟨P, A, n, c, sq, A4, (pw n), c4, X4, rfl, hP, hn, by omega, (oq.far kr (by decide) 0 _).far (kr.set_ 0 (.int .i64 P)) (by decide) 1 _, (ox.far kr (by decide) 0 _).far (kr.set_ 0 (.int .i64 P)) (by decide) 1 _, hB2.trans (((d.b.mono hgw).setCell (p := ⟨w.heap.size, 0, none⟩) (Nat.le_refl _) _).setCell (p := ⟨w.heap.size, 1, none⟩) (Nat.le_refl _) _)⟩
         · have ez : (z == 0) = false := by simp [hz]
           obtain ⟨q0, q1⟩ := k5.two
           obtain ⟨p0, p1⟩ := kr.two
           have f0 := kr.frozen 0
           have f1 := kr.frozen 1
           go_wp2
           exact bodyPost_ret (v := .tuple #[.agg #[.int .i64 P, .slice A n c], .slice X m cx]) (by simp [results, Tryz.results148, go_sem, p0, p1]) rfl ⟨P, A, n, c, sq, X, m, cx, xs, rfl, hP, hn, by omega, (oq.far kr (by decide) 0 _).far (kr.set_ 0 (.int .i64 P)) (by decide) 1 _, (ox.far kr (by decide) 0 _).far (kr.set_ 0 (.int .i64 P)) (by decide) 1 _, hB2.trans (((d.b.mono hgw).setCell (p := ⟨w.heap.size, 0, none⟩) (Nat.le_refl _) _).setCell (p := ⟨w.heap.size, 1, none⟩) (Nat.le_refl _) _)⟩
       · have e3 : (r3 == 0) = false := by simp [h3]
         obtain ⟨q0, q1⟩ := k5.two
         obtain ⟨p0, p1⟩ := kr.two
         have f0 := kr.frozen 0
         have f1 := kr.frozen 1
         go_wp2
         exact bodyPost_ret (v := .tuple #[.agg #[.int .i64 P, .slice A n c], .slice X m cx]) (by simp [results, Tryz.results148, go_sem, p0, p1]) rfl ⟨P, A, n, c, sq, X, m, cx, xs, rfl, hP, hn, by omega, (oq.far kr (by decide) 0 _).far (kr.set_ 0 (.int .i64 P)) (by decide) 1 _, (ox.far kr (by decide) 0 _).far (kr.set_ 0 (.int .i64 P)) (by decide) 1 _, hB2.trans (((d.b.mono hgw).setCell (p := ⟨w.heap.size, 0, none⟩) (Nat.le_refl _) _).setCell (p := ⟨w.heap.size, 1, none⟩) (Nat.le_refl _) _)⟩
     · have d4 : decide ((n : Int) ≤ 4) = false := by simp; omega
       obtain ⟨q0, q1⟩ := k5.two
       obtain ⟨p0, p1⟩ := kr.two
       have f0 := kr.frozen 0
       have f1 := kr.frozen 1
       go_wp2
       exact bodyPost_ret (v := .tuple #[.agg #[.int .i64 P, .slice A n c], .slice X m cx]) (by simp [results, Tryz.results148, go_sem, p0, p1]) rfl ⟨P, A, n, c, sq, X, m, cx, xs, rfl, hP, hn, by omega, (oq.far kr (by decide) 0 _).far (kr.set_ 0 (.int .i64 P)) (by decide) 1 _, (ox.far kr (by decide) 0 _).far (kr.set_ 0 (.int .i64 P)) (by decide) 1 _, hB2.trans (((d.b.mono hgw).setCell (p := ⟨w.heap.size, 0, none⟩) (Nat.le_refl _) _).setCell (p := ⟨w.heap.size, 1, none⟩) (Nat.le_refl _) _)⟩
/-- A space, drawn. -/
def DrewSp (w : World) (e : Ending) (w' : World) : Prop := ∃ (P : Int) (A : Option Addr) (n c : Nat) (sq : List Int), e = .returned (.agg #[.int .i64 P, .slice A n c]) ∧ P ≤ 17 ∧ n ≤ 7 ∧ Own w' w.heap.size 2 A n c (ints sq) ∧ Below w.heap.size w w'
/-- The value is a multivector. -/
def VMu (B n : Nat) (P : Int) : VP := ⟨fun v w => ∃ (A : Option Addr) (c : Nat) (xs : List Int), v = .slice A n c ∧ (xs.length = n ∧ NumsL P xs) ∧ Own w B 2 A n c (ints xs), fun _ _ _ ⟨A, c, xs, e, hl, ho⟩ hb => ⟨A, c, xs, e, hl, ho.below hb⟩⟩
theorem ctrL_tab {P : Int} (hp : 2 ≤ P) (sq : List Int) (n : Nat) : Tab P (pw n) (ctrL P sq n) := kernL_tab hp _ _
theorem ctrL_le {P : Int} (hP : isP P = true) (sq : List Int) (n : Nat) : (ctrL P sq n).length ≤ pw n := kernL_len hP _ _
set_option maxHeartbeats 3200000 in
set_option maxRecDepth 8000 in
theorem l09Space_any (B : Option Addr) (nb cb : Nat) (bs : List Int) (w : World) (hnb : nb ≤ 4096) (r : Rd w B nb (bs.map (Value.int .u8))) (hbs : ∀ b ∈ bs, 0 ≤ b ∧ b < 256) (hbg : ∀ a, B = some a → a.block < w.heap.size) :
    Calls Tryz.prog 132 #[.slice B nb cb] w (DrewSp w) := by
 have hB0 : Below w.heap.size w (w.alloc (.cells #[.int .i64 0, .slice none 0 0] 26)) := zG.alloc (Nat.le_refl _) _
 have kr : Blk (w.alloc (.cells #[.int .i64 0, .slice none 0 0] 26)) w.heap.size 26 #[.int .i64 0, .slice none 0 0] := Blk.new _ _ _
 have hdr := l09Draw_any B nb cb bs (w.alloc (.cells #[.int .i64 0, .slice none 0 0] 26)) hnb (r.below hB0) hbs (fun a e => by have := hbg a e; simp; omega)
 go_enter Tryz.func132, Tryz.ntmps132
 go_wp2_with fail
 refine hdr.mono ?_
 rintro e w3 ⟨P, A, n, c, sq, X, m, cx, xs, rfl, hP, hn, hm, hO, -, hb3⟩
 replace kr := kr.below hb3 kr.lt
 have hB3 := hB0.trans (hb3.mono hB0.size)
 have oq := hO.base (B' := w.heap.size) hB0.size
 obtain ⟨p0, p1⟩ := kr.two
 have f0 := kr.frozen 0
 have f1 := kr.frozen 1
 have k5 := Blk.new w3 26 #[.int .i64 P, .slice A n c]
 have kr2 := kr.alloc (.cells #[.int .i64 P, .slice A n c] 26)
 have oq2 := oq.below (zG.alloc (Nat.le_refl _) (.cells #[.int .i64 P, .slice A n c] 26))
 have hB4 := hB3.alloc hB3.size (.cells #[.int .i64 P, .slice A n c] 26)
 obtain ⟨q0, q1⟩ := k5.two
 obtain ⟨z0, z1⟩ := kr2.two
 have f2 := kr2.frozen 0
 have f3 := kr2.frozen 1
 obtain ⟨y0, y1⟩ := (kr2.stored (p' := P) (A' := A) (n' := n) (c' := c)).two
 clear hdr hO hb3
 go_wp2
 exact bodyPost_ret (v := .agg #[.int .i64 P, .slice A n c]) (by simp [results, Tryz.results132, go_sem, y0, y1, z0, z1]) rfl ⟨P, A, n, c, sq, rfl, hP, hn, (oq2.far kr2 (by decide) 0 _).far (kr2.set_ 0 (.int .i64 P)) (by decide) 1 _, (hB4.setCell (p := ⟨w.heap.size, 0, none⟩) (Nat.le_refl _) _).setCell (p := ⟨w.heap.size, 1, none⟩) (Nat.le_refl _) _⟩
set_option maxHeartbeats 3200000 in
set_option maxRecDepth 8000 in
theorem DrawCentreBasis_any (B : Option Addr) (nb cb : Nat) (bs : List Int) (w : World) (hnb : nb ≤ 4096) (r : Rd w B nb (bs.map (Value.int .u8))) (hbs : ∀ b ∈ bs, 0 ≤ b ∧ b < 256) (hbg : ∀ a, B = some a → a.block < w.heap.size) :
    Calls Tryz.prog 44 #[.slice B nb cb] w (DrewSp w) := by
 have hB0 : Below w.heap.size w (w.alloc (.cells #[.int .i64 0, .slice none 0 0] 26)) := zG.alloc (Nat.le_refl _) _
 have kr : Blk (w.alloc (.cells #[.int .i64 0, .slice none 0 0] 26)) w.heap.size 26 #[.int .i64 0, .slice none 0 0] := Blk.new _ _ _
 have hdr := l09Space_any B nb cb bs (w.alloc (.cells #[.int .i64 0, .slice none 0 0] 26)) hnb (r.below hB0) hbs (fun a e => by have := hbg a e; simp; omega)
 go_enter Tryz.func44, Tryz.ntmps44
 go_wp2_with fail
 refine hdr.mono ?_
 rintro e w3 ⟨P, A, n, c, sq, rfl, hP, hn, hO, hb3⟩
 replace kr := kr.below hb3 kr.lt
 have hB3 := hB0.trans (hb3.mono hB0.size)
 have oq := hO.base (B' := w.heap.size) hB0.size
 obtain ⟨p0, p1⟩ := kr.two
 have f0 := kr.frozen 0
 have f1 := kr.frozen 1
 obtain ⟨y0, y1⟩ := (kr.stored (p' := P) (A' := A) (n' := n) (c' := c)).two
 clear hdr hO hb3
 go_wp2
 exact bodyPost_ret (v := .agg #[.int .i64 P, .slice A n c]) (by simp [results, Tryz.results44, go_sem, y0, y1, p0, p1]) rfl ⟨P, A, n, c, sq, rfl, hP, hn, (oq.far kr (by decide) 0 _).far (kr.set_ 0 (.int .i64 P)) (by decide) 1 _, (hB3.setCell (p := ⟨w.heap.size, 0, none⟩) (Nat.le_refl _) _).setCell (p := ⟨w.heap.size, 1, none⟩) (Nat.le_refl _) _⟩
/-- The value is a number of a range. -/
def VNm9 (lo hi : Int) : VP := ⟨fun v _ => ∃ r : Int, v = .int .i64 r ∧ lo ≤ r ∧ r < hi, fun _ _ _ h _ => h⟩
set_option maxHeartbeats 12800000 in
set_option maxRecDepth 8000 in
theorem DrawIsCentral_any (B : Option Addr) (nb cb : Nat) (bs : List Int) (w : World) (hnb : nb ≤ 4096) (r : Rd w B nb (bs.map (Value.int .u8))) (hbs : ∀ b ∈ bs, 0 ≤ b ∧ b < 256) (hbg : ∀ a, B = some a → a.block < w.heap.size) :
    Calls Tryz.prog 50 #[.slice B nb cb] w (Drew1 w) := by
 have hB0 : Below w.heap.size w (w.alloc (.cells #[.int .i64 0, .slice none 0 0] 26)) := zG.alloc (Nat.le_refl _) _
 have k0 : Blk (w.alloc (.cells #[.int .i64 0, .slice none 0 0] 26)) w.heap.size 26 #[.int .i64 0, .slice none 0 0] := Blk.new _ _ _
 have hfr := from__any B nb cb bs (w.alloc (.cells #[.int .i64 0, .slice none 0 0] 26)) hnb (r.below hB0) hbs (fun a e => by have := hbg a e; simp; omega)
 go_enter Tryz.func50, Tryz.ntmps50
 go_wp2_with fail
 refine hfr.mono ?_
 rintro e w2 ⟨g, rfl, hg, hs2, hb2⟩
 have kr := k0.below hb2 k0.lt
 have hB2 := hB0.trans (hb2.mono hB0.size)
 have hw := hB2.size
 have hgw : w.heap.size ≤ g := Nat.le_trans hB0.size hg
 have hdr := l09Draw_any B nb cb bs w2 hnb (r.below hB2) hbs (fun a e => Nat.lt_of_lt_of_le (hbg a e) hw)
 clear hfr hb2 k0 hB0 hg
 go_wp2_with fail
 refine hdr.mono ?_
 rintro e w4 ⟨P, A, n, c, sq, X, m, cx, xs, rfl, hP, hn, hm, hO, hX, hb4⟩
 have oq := (hO.base hw).below (zG.alloc (Nat.le_refl _) (.cells #[.int .i64 P, .slice A n c] 26))
 have ox := (hX.base hw).below (zG.alloc (Nat.le_refl _) (.cells #[.int .i64 P, .slice A n c] 26))
 have k5 := Blk.new w4 26 #[.int .i64 P, .slice A n c]
 have hb6 : w.heap.size < w4.heap.size := Nat.lt_of_lt_of_le kr.lt hb4.size
 replace kr := (kr.below hb4 kr.lt).alloc (.cells #[.int .i64 P, .slice A n c] 26)
 have d := (Dr.of_below hs2 hb4).alloc (.cells #[.int .i64 P, .slice A n c] 26)
 clear hdr hO hX hb4
 obtain ⟨q0, q1⟩ := k5.two
 cases hmu : (isSp P sq && isMu P sq xs)
 · have hi := l04Is_b P A X n c m cx sq xs _ (by omega) (by omega) oq.rd ox.rd hmu
   clear hmu
   go_wp2_with fail
   refine hi.mono ?_
   rintro e w10 ⟨rfl, hb⟩
   replace k5 := k5.below hb k5.lt
   replace kr := kr.below hb kr.lt
   replace oq := oq.below hb
   replace ox := ox.below hb
   replace d := d.then hb
   clear hi hb q0 q1
   obtain ⟨q0, q1⟩ := k5.two
   obtain ⟨p0, p1⟩ := kr.two
   have f0 := kr.frozen 0
   have f1 := kr.frozen 1
   go_wp2
   exact bodyPost_ret (v := .tuple #[.agg #[.int .i64 P, .slice A n c], .slice X m cx]) (by simp [results, Tryz.results50, go_sem, p0, p1]) rfl ⟨P, A, n, c, sq, X, m, cx, xs, rfl, hP, hn, by omega, (oq.far kr (by decide) 0 _).far (kr.set_ 0 (.int .i64 P)) (by decide) 1 _, (ox.far kr (by decide) 0 _).far (kr.set_ 0 (.int .i64 P)) (by decide) 1 _, hB2.trans (((d.b.mono hgw).setCell (p := ⟨w.heap.size, 0, none⟩) (Nat.le_refl _) _).setCell (p := ⟨w.heap.size, 1, none⟩) (Nat.le_refl _) _)⟩
 · have hi := l04Is_b P A X n c m cx sq xs _ (by omega) (by omega) oq.rd ox.rd hmu
   have HM : Hid (isP P = true ∧ 1 ≤ n ∧ n ≤ 6 ∧ NumsL P sq ∧ xs.length = pw n ∧ isSp P sq = true) := Lib.hid (by
    rw [Bool.and_eq_true] at hmu
    obtain ⟨g1, g2, g3, g4⟩ := isSp_dim hmu.1
    have g5 := hmu.2
    unfold isMu at g5
    rw [Bool.and_eq_true, beq_iff_eq] at g5
    rw [oq.rd.lenI] at g3 g2
    exact ⟨g1, g2, g3, nums_numsL g4, by have := g5.1; rw [oq.rd.lenI] at this; omega, hmu.1⟩)
   clear hmu
   go_wp2_with fail
   refine hi.mono ?_
   rintro e w10 ⟨rfl, hb⟩
   replace k5 := k5.below hb k5.lt
   replace kr := kr.below hb kr.lt
   replace oq := oq.below hb
   replace ox := ox.below hb
   replace d := d.then hb
   obtain ⟨b5, hb5e⟩ : ∃ b, b = w4.heap.size := ⟨_, rfl⟩
   rw [← hb5e] at k5 hb6 ⊢
   clear hi hb q0 q1 hb5e
   obtain ⟨hp3, hp2⟩ := isP_ge HM.out.1
   have HP2 : Hid (2 ≤ P) := Lib.hid (by omega)
   have HSL : Hid (sq.length = n) := Lib.hid oq.rd.lenI
   obtain ⟨q0, q1⟩ := k5.two
   by_cases h4 : n ≤ 4
   · have d4 : decide ((n : Int) ≤ 4) = true := by simp; omega
     have hnx := next_any g 2 w10 d.s' (by omega)
     go_wp2_with fail
     refine hnx.mono ?_
     rintro e w11 ⟨r3, rfl, _, _, hd3⟩
     replace k5 := k5.dr hd3 (by decide)
     replace kr := kr.dr hd3 (by decide)
     replace oq := oq.dr hd3 (by decide)
     replace ox := ox.dr hd3 (by decide)
     replace d := d.trans hd3
     clear hnx hd3 q0 q1
     by_cases h3 : r3 = 0
     · have e3 : (r3 == 0) = true := by simp [h3]
       have hpw : pw n ≤ 16 := pw_le h4
       have hca : codeA P sq [] = 0 := codeA_mk (codeM_mk HM.out.2.2.2.2.2 (by simp)) (by rw [HSL.out]; exact h4)
       have hcb := specCentreBasis_any P A n c sq w11 (by omega) oq.rd
       rw [ctrR_ok hca, HSL.out] at hcb
       clear hca
       obtain ⟨q0, q1⟩ := k5.two
       go_wp2_with fail
       refine hcb.mono ?_
       rintro e w12 ⟨L9, ml, cl, rfl, hM⟩
       have hb := hM.b
       have m_l := (OwnM.of hM).base (Nat.le_trans hw d.size)
       replace k5 := k5.below hb k5.lt
       replace kr := kr.below hb kr.lt
       replace oq := oq.below hb
       replace ox := ox.below hb
       replace d := d.then hb
       have HTB := Lib.hid (ctrL_tab HP2.out sq n)
       have hml : ml ≤ 16 := by rw [← m_l.rd.len]; exact Nat.le_trans (ctrL_le HM.out.1 sq n) hpw
       clear hcb hM hb q0 q1
       obtain ⟨q0, q1⟩ := k5.two
       go_wp2_with fail
       refine (l04Zero_any P A n c w12 (by omega)).mono ?_
       rintro e w13 ⟨X0, c0, rfl, hM⟩
       have hb := hM.b
       have ox0 := hM.2.base (Nat.le_trans hw d.size)
       replace m_l := m_l.below hb
       clear ox
       have ox := ox0
       replace k5 := k5.below hb k5.lt
       replace kr := kr.below hb kr.lt
       replace oq := oq.below hb
       replace d := d.then hb
       clear ox0 hM hb q0 q1
       have m_l0 := m_l
       have o_x0 := ox
       have o_q0 := oq
       have k_50 := k5
       have k_r0 := kr
       have d_0 := d
       clear m_l ox oq k5 kr d
       go_wp2
       go_loopw [6, 9] (fun xv iv wr => ∃ (i : Nat) (X : Option Addr) (cx : Nat) (xs : List Int), i ≤ ml ∧ iv = .int .i64 i ∧ xv = .slice X (pw n) cx ∧ (xs.length = pw n ∧ NumsL P xs) ∧ Blk wr b5 26 #[.int .i64 P, .slice A n c] ∧ Blk wr w.heap.size 26 #[.int .i64 0, .slice none 0 0] ∧ Own wr w.heap.size 2 A n c (ints sq) ∧ Own wr w.heap.size 2 X (pw n) cx (ints xs) ∧ OwnM wr w.heap.size L9 ml cl (ctrL P sq n) ∧ Dr g 144 w2 wr) (fun _ iv _ => ml - (intOf iv).toNat)
       case atStart => exact ⟨0, X0, c0, _, by omega, rfl, rfl, ⟨List.length_replicate, NumsL.replicate (by omega) _⟩, k_50, k_r0, o_q0, o_x0, m_l0, d_0⟩
       case round =>
        obtain ⟨i, X, cx, xs, hi, rfl, rfl, hxn, k5, kr, oq, ox, m_l, d⟩ := hrel
        clear m_l0 o_x0 o_q0 k_50 k_r0 d_0
        have HXN := Lib.hid hxn
        clear hxn
        by_cases hlt : i < ml
        · obtain ⟨gl, ol, hxl, R1, r1, el, hol, hra, hro⟩ := m_l.at_ hlt
          have hrr := HTB.out _ (List.getElem_mem hxl)
          rw [hrr.1] at hra hro
          obtain ⟨RX, hRX⟩ : ∃ X, X = (ctrL P sq n)[i] := ⟨_, rfl⟩
          rw [← hRX] at hrr hro
          have HRX := Lib.hid hrr
          subst el
          have i1 : (0 : Int) ≤ (i : Int) := by omega
          have i2 : (i : Int) < (ml : Int) := by omega
          clear hRX hxl hrr hol
          obtain ⟨q0, q1⟩ := k5.two
          go_wp2
          refine wp_obsR 12 (Dr g 144) [[], [0], [], [], [], [3, 4], [3, 4, 5], [], [], [8], [7, 8, 9], [0, 1, 2, 3, 4, 5, 6, 7, 8, 9, 10], [0, 1, 2, 3, 4, 5, 6, 7, 8, 9, 10, 11]] [[], [], [], [], [], [], [], [], [], [], [99], []] (fun x => [VIs (.pointer (some ⟨b5, 0, none⟩)), VIs (.int .i64 (P)), VIs (.slice X (pw n) cx), VIs (.slice (some ⟨gl, ol, none⟩) ml cl), VIs (.int .i64 (i)), VIs (.pointer (some ⟨gl, ol + i, none⟩)), VIs (.slice R1 (pw n) r1), VIs (.pointer (some ⟨g, 0, none⟩)), VIs (.pointer (some ⟨b5, 0, none⟩)), VIs (.int .i64 (P)), VNm9 0 P, VMu w.heap.size (pw n) P]) (fun w' => Blk w' b5 26 #[.int .i64 P, .slice A n c] ∧ Blk w' w.heap.size 26 #[.int .i64 0, .slice none 0 0] ∧ Own w' w.heap.size 2 A n c (ints sq) ∧ Own w' w.heap.size 2 X (pw n) cx (ints xs) ∧ (OwnM w' w.heap.size (some ⟨gl, ol, none⟩) ml cl (ctrL P sq n) ∧ RowAt w' ⟨gl, ol + i, none⟩ (.slice R1 (pw n) r1) ∧ Own w' w.heap.size 2 R1 (pw n) r1 (ints RX)) ∧ Dr g 144 w2 w') (by kernel_rfl) (by kernel_rfl) (fun x x' j hx => by
              rcases j with _ | _ | _ | _ | _ | _ | _ | _ | _ | _ | _ | _ | j
              · rfl
              · rfl
              · rfl
              · rfl
              · rfl
              · rfl
              · rfl
              · rfl
              · rfl
              · rfl
              · rfl
              · rfl
              · rfl)
           (weak_ofR [0, 1, 2, 3, 4, 5, 6, 7, 8, 9, 10, 11] (by decide) (fun k hk x v w w' hp hr => by
            simp only [List.mem_cons, zJ, or_false] at hk
            rcases hk with rfl | rfl | rfl | rfl | rfl | rfl | rfl | rfl | rfl | rfl | rfl | rfl
            · exact hp
            · exact hp
            · exact hp
            · exact hp
            · exact hp
            · exact hp
            · exact hp
            · exact hp
            · exact hp
            · exact hp
            · exact hp
            · obtain ⟨A, c, xs, e, hl, ho⟩ := hp; exact ⟨A, c, xs, e, hl, ho.dr hr (by decide)⟩)) (fun j _ _ h hb => hb.either (fun hb => ⟨h.1.below hb h.1.lt, h.2.1.below hb h.2.1.lt, h.2.2.1.below hb, h.2.2.2.1.below hb, ⟨h.2.2.2.2.1.1.below hb, h.2.2.2.2.1.2.1.below hb, h.2.2.2.2.1.2.2.below hb⟩, h.2.2.2.2.2.then hb⟩) (fun hr => ⟨h.1.dr hr (by decide), h.2.1.dr hr (by decide), h.2.2.1.dr hr (by decide), h.2.2.2.1.dr hr (by decide), ⟨h.2.2.2.2.1.1.dr hr (by decide) (by decide), h.2.2.2.2.1.2.1.dr hr (by decide), h.2.2.2.2.1.2.2.dr hr (by decide)⟩, h.2.2.2.2.2.trans hr⟩)) (⟨k5.drew, kr.drew, oq.below zG.drew, ox.below zG.drew, ⟨m_l.below zG.drew, hra.below zG.drew, hro.below zG.drew⟩, d.then zG.drew⟩) (fun x => ?_)
          refine zSR (fun w' hS hV K hK => ?_) ?_
          · obtain ⟨q0, q1⟩ := hS.1.two; have c9 := hS.2.2.2.2.1.2.1.cell; go_simp; exact hK.out _ _ _ rfl rfl rfl zG
          refine zSR (fun w' hS hV K hK => ?_) ?_
          · have e0 := zQ hV 0; obtain ⟨q0, q1⟩ := hS.1.two; have c9 := hS.2.2.2.2.1.2.1.cell; go_simp; exact hK.out _ _ _ rfl rfl rfl zG
          refine zSR (fun w' hS hV K hK => ?_) ?_
          · obtain ⟨q0, q1⟩ := hS.1.two; have c9 := hS.2.2.2.2.1.2.1.cell; go_simp; exact hK.out _ _ _ rfl rfl rfl zG
          refine zSR (fun w' hS hV K hK => ?_) ?_
          · obtain ⟨q0, q1⟩ := hS.1.two; have c9 := hS.2.2.2.2.1.2.1.cell; go_simp; exact hK.out _ _ _ rfl rfl rfl zG
          refine zSR (fun w' hS hV K hK => ?_) ?_
          · obtain ⟨q0, q1⟩ := hS.1.two; have c9 := hS.2.2.2.2.1.2.1.cell; go_simp; exact hK.out _ _ _ rfl rfl rfl zG
          refine zSR (fun w' hS hV K hK => ?_) ?_
          · have e3 := zQ hV 3; have e4 := zQ hV 4; obtain ⟨q0, q1⟩ := hS.1.two; have c9 := hS.2.2.2.2.1.2.1.cell; go_simp; exact hK.out _ _ _ rfl rfl rfl zG
          refine zSR (fun w' hS hV K hK => ?_) ?_
          · have e5 := zQ hV 5; obtain ⟨q0, q1⟩ := hS.1.two; have c9 := hS.2.2.2.2.1.2.1.cell; go_simp; exact hK.out _ _ _ rfl rfl rfl zG
          refine zSR (fun w' hS hV K hK => ?_) ?_
          · obtain ⟨q0, q1⟩ := hS.1.two; have c9 := hS.2.2.2.2.1.2.1.cell; go_simp; exact hK.out _ _ _ rfl rfl rfl zG
          refine zSR (fun w' hS hV K hK => ?_) ?_
          · obtain ⟨q0, q1⟩ := hS.1.two; have c9 := hS.2.2.2.2.1.2.1.cell; go_simp; exact hK.out _ _ _ rfl rfl rfl zG
          refine zSR (fun w' hS hV K hK => ?_) ?_
          · have e8 := zQ hV 8; obtain ⟨q0, q1⟩ := hS.1.two; have c9 := hS.2.2.2.2.1.2.1.cell; go_simp; exact hK.out _ _ _ rfl rfl rfl zG
          refine zSR (fun w' hS hV K hK => ?_) ?_
          · have e7 := zQ hV 7; have e9 := zQ hV 9; obtain ⟨q0, q1⟩ := hS.1.two; have c9 := hS.2.2.2.2.1.2.1.cell; go_simp; refine (next_any g P w' hS.2.2.2.2.2.s' (by omega)).mono ?_; rintro e v1 ⟨r, rfl, h1, h2, hd⟩; exact hK.out _ _ _ rfl rfl ⟨r, rfl, h1, h2 (by omega)⟩ (StepR.rel rfl hd)
          refine zSR (fun w' hS hV K hK => ?_) ?_
          · have e1 := zQ hV 1; have e2 := zQ hV 2; have e6 := zQ hV 6; obtain ⟨r10, e10, l10, u10⟩ := hV 10 (by decide); obtain ⟨q0, q1⟩ := hS.1.two; have c9 := hS.2.2.2.2.1.2.1.cell; go_simp; refine (l02Plus_any P X (pw n) cx R1 (pw n) r1 r10 xs RX w' HP2.out (by omega) (by omega) (Nat.le_refl _) hS.2.2.2.1.rd HXN.out.2 hS.2.2.2.2.1.2.2.rd HRX.out.2 l10 (by omega)).mono ?_; rintro e v1 ⟨A9, c9, rfl, hM⟩; exact hK.out _ _ _ rfl rfl ⟨_, _, _, rfl, ⟨by rw [plusL_len]; exact HXN.out.1, plusL_nums (by omega) _ _ _⟩, hM.2.base (Nat.le_trans hw hS.2.2.2.2.2.size)⟩ hM.b
          refine fun w' hS hV => ?_
          have e0 := zQ hV 0
          have e1 := zQ hV 1
          have e2 := zQ hV 2
          have e3 := zQ hV 3
          have e4 := zQ hV 4
          have e5 := zQ hV 5
          have e6 := zQ hV 6
          have e7 := zQ hV 7
          have e8 := zQ hV 8
          have e9 := zQ hV 9
          obtain ⟨r10, e10, l10, u10⟩ := hV 10 (by decide)
          obtain ⟨A11, c11, X11, e11, l11, h11⟩ := hV 11 (by decide)
          simp only [e0, e1, e2, e3, e4, e5, e6, e7, e8, e9, e10, e11]
          clear e0 e1 e2 e3 e4 e5 e6 e7 e8 e9 e10 e11
          refine any_one (j := 12) (by kernel_rfl) (Eq.trans (by simp only [zA, zB, zC]; exact rfl) rfl) (fun K hK => ?_)
          go_simp
          refine hK.out _ _ (wpAny_done (by kernel_rfl) ?_ _)
          obtain ⟨wv, hwv⟩ : ∃ W, W = w' := ⟨_, rfl⟩
          have k59 := hS.1
          have kr9 := hS.2.1
          have oq9 := hS.2.2.1
          have ml9 := hS.2.2.2.2.1.1
          have d9 := hS.2.2.2.2.2
          have ox9 := h11
          have xn9 := l11
          rw [← hwv] at k59 kr9 oq9 ml9 d9 ox9 ⊢
          clear hwv hS q0 q1
          go_wp2
          go_roundw
          case rel => exact ⟨i + 1, _, _, _, by omega, by go_num, rfl, xn9, k59, kr9, oq9, ox9, ml9, d9⟩
          case measure => simp [intOf]; omega
        · obtain rfl : i = ml := by omega
          have hm9 : pw n ≤ 100 := by omega
          obtain ⟨q0, q1⟩ := k5.two
          obtain ⟨p0, p1⟩ := kr.two
          have f0 := kr.frozen 0
          have f1 := kr.frozen 1
          go_wp2
          exact bodyPost_ret (v := .tuple #[.agg #[.int .i64 P, .slice A n c], .slice X (pw n) cx]) (by simp [results, Tryz.results50, go_sem, p0, p1]) rfl ⟨P, A, n, c, sq, X, (pw n), cx, xs, rfl, hP, hn, by omega, (oq.far kr (by decide) 0 _).far (kr.set_ 0 (.int .i64 P)) (by decide) 1 _, (ox.far kr (by decide) 0 _).far (kr.set_ 0 (.int .i64 P)) (by decide) 1 _, hB2.trans (((d.b.mono hgw).setCell (p := ⟨w.heap.size, 0, none⟩) (Nat.le_refl _) _).setCell (p := ⟨w.heap.size, 1, none⟩) (Nat.le_refl _) _)⟩
     · have e3 : (r3 == 0) = false := by simp [h3]
       obtain ⟨q0, q1⟩ := k5.two
       obtain ⟨p0, p1⟩ := kr.two
       have f0 := kr.frozen 0
       have f1 := kr.frozen 1
       go_wp2
       exact bodyPost_ret (v := .tuple #[.agg #[.int .i64 P, .slice A n c], .slice X m cx]) (by simp [results, Tryz.results50, go_sem, p0, p1]) rfl ⟨P, A, n, c, sq, X, m, cx, xs, rfl, hP, hn, by omega, (oq.far kr (by decide) 0 _).far (kr.set_ 0 (.int .i64 P)) (by decide) 1 _, (ox.far kr (by decide) 0 _).far (kr.set_ 0 (.int .i64 P)) (by decide) 1 _, hB2.trans (((d.b.mono hgw).setCell (p := ⟨w.heap.size, 0, none⟩) (Nat.le_refl _) _).setCell (p := ⟨w.heap.size, 1, none⟩) (Nat.le_refl _) _)⟩
   · have d4 : decide ((n : Int) ≤ 4) = false := by simp; omega
     obtain ⟨q0, q1⟩ := k5.two
     obtain ⟨p0, p1⟩ := kr.two
     have f0 := kr.frozen 0
     have f1 := kr.frozen 1
     go_wp2
     exact bodyPost_ret (v := .tuple #[.agg #[.int .i64 P, .slice A n c], .slice X m cx]) (by simp [results, Tryz.results50, go_sem, p0, p1]) rfl ⟨P, A, n, c, sq, X, m, cx, xs, rfl, hP, hn, by omega, (oq.far kr (by decide) 0 _).far (kr.set_ 0 (.int .i64 P)) (by decide) 1 _, (ox.far kr (by decide) 0 _).far (kr.set_ 0 (.int .i64 P)) (by decide) 1 _, hB2.trans (((d.b.mono hgw).setCell (p := ⟨w.heap.size, 0, none⟩) (Nat.le_refl _) _).setCell (p := ⟨w.heap.size, 1, none⟩) (Nat.le_refl _) _)⟩
set_option maxHeartbeats 3200000 in
set_option maxRecDepth 8000 in
theorem GeometricProduct_ok (P : Int) (A : Option Addr) (n c : Nat) (sq : List Int) (X : Option Addr) (m cx : Nat) (xs : List Int) (Y : Option Addr) (l cy : Nat) (ys : List Int) (w : World) (hn : n ≤ 1048576) (hm : m ≤ 1048576) (hl : l ≤ 1048576) (ha : Rd w A n (ints sq)) (hx : Rd w X m (ints xs)) (hcx : m ≤ cx) (hy : Rd w Y l (ints ys)) (hcy : l ≤ cy) (h0 : codeM P sq [xs, ys] = 0) :
    Calls Tryz.prog 28 #[.agg #[.int .i64 P, .slice A n c], .slice X m cx, .slice Y l cy] w fun e w' => ∃ (A' : Option Addr) (c' : Nat), e = .returned (.tuple #[.slice A' (pw n) c', .int .i64 0]) ∧ MkI w w' A' (pw n) c' (mulL P sq xs ys) := by
 have hB0 : Below w.heap.size w (w.alloc (.cells #[.int .i64 P, .slice A n c] 26)) := zG.alloc (Nat.le_refl _) _
 have k0 : Blk (w.alloc (.cells #[.int .i64 P, .slice A n c] 26)) w.heap.size 26 #[.int .i64 P, .slice A n c] := Blk.new _ _ _
 have hB1 : Below w.heap.size w ((w.alloc (.cells #[.int .i64 P, .slice A n c] 26)).alloc (.cells #[.slice X m cx, .slice Y l cy] 24)) := hB0.alloc (by simp) _
 have k1 : Blk ((w.alloc (.cells #[.int .i64 P, .slice A n c] 26)).alloc (.cells #[.slice X m cx, .slice Y l cy] 24)) w.heap.size 26 #[.int .i64 P, .slice A n c] := k0.alloc _
 have hreg := checkMultis_any P A (some ⟨w.heap.size + 1, 0, none⟩) n c 2 2 sq [xs, ys] ((w.alloc (.cells #[.int .i64 P, .slice A n c] 26)).alloc (.cells #[.slice X m cx, .slice Y l cy] 24)) hn (by omega) (ha.below hB1) (rdII_two (Blk.newAt (by simp)) (hx.below hB1) (hy.below hB1) hcx hcy) (all_two (by rw [hx.lenI]; exact hm) (by rw [hy.lenI]; exact hl))
 rw [h0] at hreg
 obtain ⟨HP, hp, hp2, hd1, hd2, hs0, hms⟩ := codeM_spec2 h0
 obtain ⟨hx1, hxs0⟩ := hms xs (by simp)
 obtain ⟨hy1, hys0⟩ := hms ys (by simp)
 have hsl := ha.lenI
 have hmx : m = pw n := by rw [← hx.lenI, hx1, hsl]
 have hly : l = pw n := by rw [← hy.lenI, hy1, hsl]
 subst hmx
 subst hly
 rw [hsl] at hd2
 have HXS := Lib.hid hxs0
 have HYS := Lib.hid hys0
 have HS := Lib.hid hs0
 have HX1 := Lib.hid hx.lenI
 have HY1 := Lib.hid hy.lenI
 have htm := timesL_two P sq n xs ys HX1.out HXS.out
 clear hms hx1 hs0 hxs0 hy1 hys0 h0 hsl
 go_enter Tryz.func28, Tryz.ntmps28
 go_wp2_with fail
 refine hreg.mono ?_
 rintro e w2 ⟨rfl, hb2⟩
 have hB2 := hB1.trans (hb2.mono hB1.size)
 have k2 := k1.below hb2 k1.lt
 obtain ⟨q0, q1⟩ := k2.two
 clear k0 hB0 k1 hB1 hb2 hreg
 have hB3 : Below w.heap.size w (w2.alloc (.cells #[.slice X (pw n) cx, .slice Y (pw n) cy] 24)) := hB2.alloc hB2.size _
 have hcall := times_any P A n c sq (some ⟨w2.heap.size, 0, none⟩) 2 2 [xs, ys] (w2.alloc (.cells #[.slice X (pw n) cx, .slice Y (pw n) cy] 24)) (by omega) hp2 hd2 (by omega) (ha.below hB3) HS.out (rdII_two (Blk.new w2 24 _) (hx.below hB3) (hy.below hB3) hcx hcy) (all_two ⟨HXS.out, HX1.out⟩ ⟨HYS.out, HY1.out⟩)
 rw [htm] at hcall
 go_wp2_with fail
 refine hcall.mono ?_
 rintro e w3 ⟨A', c', rfl, hM⟩
 have hM3 := hM.after hB3
 go_wp2
 go_ret2
 exact ⟨A', c', rfl, hM3⟩
set_option maxHeartbeats 3200000 in
set_option maxRecDepth 8000 in
theorem times5_ok (P : Int) (A : Option Addr) (n c : Nat) (sq : List Int) (X : Option Addr) (m cx : Nat) (xs : List Int) (Y : Option Addr) (l cy : Nat) (ys : List Int) (w : World) (hn : n ≤ 1048576) (hm : m ≤ 1048576) (hl : l ≤ 1048576) (ha : Rd w A n (ints sq)) (hx : Rd w X m (ints xs)) (hcx : m ≤ cx) (hy : Rd w Y l (ints ys)) (hcy : l ≤ cy) (h0 : codeM P sq [xs, ys] = 0) :
    Calls Tryz.prog 23 #[.agg #[.int .i64 P, .slice A n c], .slice X m cx, .slice Y l cy] w fun e w' => ∃ (A' : Option Addr) (c' : Nat), e = .returned (.slice A' (pw n) c') ∧ MkI w w' A' (pw n) c' (mulL P sq xs ys) := by
 have hB0 : Below w.heap.size w (w.alloc (.cells #[.int .i64 P, .slice A n c] 26)) := zG.alloc (Nat.le_refl _) _
 have k0 : Blk (w.alloc (.cells #[.int .i64 P, .slice A n c] 26)) w.heap.size 26 #[.int .i64 P, .slice A n c] := Blk.new _ _ _
 have hgp := GeometricProduct_ok P A n c sq X m cx xs Y l cy ys (w.alloc (.cells #[.int .i64 P, .slice A n c] 26)) hn hm hl (ha.below hB0) (hx.below hB0) hcx (hy.below hB0) hcy h0
 clear h0
 go_enter Tryz.func23, Tryz.ntmps23
 go_wp2_with fail
 refine hgp.mono ?_
 rintro e w2 ⟨A', c', rfl, hM⟩
 have hM3 := hM.after hB0
 go_wp2
 go_ret
 exact ⟨A', c', rfl, hM3⟩
set_option maxHeartbeats 1600000 in
set_option maxRecDepth 8000 in
theorem likeRows5_same (A B : Option Addr) (n c d : Nat) (M : List (List Int)) (w : World) (hn : n ≤ 1000) (ha : RdII w A n M) (hb : RdII w B n M) (hM : ∀ v ∈ M, v.length ≤ 1000000) :
    Calls Tryz.prog 14 #[.slice A n c, .slice B n d] w fun e w' => e = .returned (.bool true) ∧ Below w.heap.size w w' := by
 have t4 : ((n : Int) != (n : Int)) = false := by simp
 have HM := Lib.hid hM
 clear hM
 go_enter Tryz.func14, Tryz.ntmps14
 go_wp2
 go_loopw [5] (fun i wr => ∃ k : Nat, k ≤ n ∧ i = .int .i64 k ∧ Below w.heap.size w wr) (fun i _ => n - (intOf i).toNat)
 case atStart => exact ⟨0, by omega, rfl, Below.refl _ _⟩
 case round =>
  obtain ⟨k, hk, rfl, hB⟩ := hrel
  by_cases hlt : k < n
  · obtain ⟨g, o, rfl, hx1, A1, c1, hc1, hr1, -⟩ := (ha.below hB).at_ hlt
    obtain ⟨g2, o2, rfl, hx2, A2, c2, hc2, hr2, -⟩ := (hb.below hB).at_ hlt
    have hml := HM.out M[k] (List.getElem_mem hx1)
    obtain ⟨v, hv⟩ : ∃ v, v = M[k] := ⟨_, rfl⟩
    rw [← hv] at hc1 hc2 hr1 hr2 hml
    obtain ⟨q, hq⟩ : ∃ q, q = v.length := ⟨_, rfl⟩
    rw [← hq] at hc1 hc2 hr1 hr2 hml
    have hr3 : ∀ w', Below w.heap.size w w' → Rd w' A1 q (ints v) ∧ Rd w' A2 q (ints v) := fun w' h => by
     obtain ⟨_, _, e1, hx3, A3, c3, hc3, hr3, -⟩ := ha.at_ hlt
     obtain ⟨_, _, e2, hx4, A4, c4, hc4, hr4, -⟩ := hb.at_ hlt
     cases e1
     cases e2
     rw [(hB.cell (World.block_lt_of_cell? _ _ hc3)), hc3] at hc1
     rw [(hB.cell (World.block_lt_of_cell? _ _ hc4)), hc4] at hc2
     rw [← hv] at hc1 hc2 hr3 hr4
     rw [← hq] at hc1 hc2 hr3 hr4
     cases hc1
     cases hc2
     exact ⟨hr3.below h, hr4.below h⟩
    have hl := fun (w' : World) (h : Below w.heap.size w w') => likeInts_any A1 A2 q q c1 c2 v v w' (by omega) (by omega) (hr3 w' h).1 (hr3 w' h).2
    rw [decide_eq_true rfl] at hl
    clear hv hq ha hb hr1 hr2 hx1 hx2 hr3
    go_wp2
    refine wp_obs 10 [[],[],[0,1],[0,1,2],[],[],[4,5],[4,5,6],[0,1,2,3,4,5,6,7],[0,1,2,3,4,5,6,7,8]] [VIs (.slice (some ⟨g, o, none⟩) n c), VIs (.int .i64 (k)), VIs (.pointer (some ⟨g, o + k, none⟩)), VIs (.slice A1 q c1), VIs (.slice (some ⟨g2, o2, none⟩) n d), VIs (.int .i64 (k)), VIs (.pointer (some ⟨g2, o2 + k, none⟩)), VIs (.slice A2 q c2), VIs (.bool true), VIs (.bool false)] (fun w' => w'.cell? ⟨g, o + k, none⟩ = some (.slice A1 q c1) ∧ w'.cell? ⟨g2, o2 + k, none⟩ = some (.slice A2 q c2) ∧ Below w.heap.size w w') (by kernel_rfl) (by kernel_rfl) (fun _ _ h hb => ⟨(hb.cell (World.block_lt_of_cell? _ _ h.1)).trans h.1, (hb.cell (World.block_lt_of_cell? _ _ h.2.1)).trans h.2.1, h.2.2.trans (hb.mono h.2.2.size)⟩) (⟨hc1, hc2, hB.drew⟩) (fun x => ?_)
    refine zS (fun w' hS hV K hK => ?_) ?_
    · have q0 := hS.1; have q1 := hS.2.1; go_simp; exact zO hK
    refine zS (fun w' hS hV K hK => ?_) ?_
    · have q0 := hS.1; have q1 := hS.2.1; go_simp; exact zO hK
    refine zS (fun w' hS hV K hK => ?_) ?_
    · have e0 := zQ hV 0; have e1 := zQ hV 1; have q0 := hS.1; have q1 := hS.2.1; go_simp; exact zO hK
    refine zS (fun w' hS hV K hK => ?_) ?_
    · have e2 := zQ hV 2; have q0 := hS.1; have q1 := hS.2.1; go_simp; exact zO hK
    refine zS (fun w' hS hV K hK => ?_) ?_
    · have q0 := hS.1; have q1 := hS.2.1; go_simp; exact zO hK
    refine zS (fun w' hS hV K hK => ?_) ?_
    · have q0 := hS.1; have q1 := hS.2.1; go_simp; exact zO hK
    refine zS (fun w' hS hV K hK => ?_) ?_
    · have e4 := zQ hV 4; have e5 := zQ hV 5; have q0 := hS.1; have q1 := hS.2.1; go_simp; exact zO hK
    refine zS (fun w' hS hV K hK => ?_) ?_
    · have e6 := zQ hV 6; have q0 := hS.1; have q1 := hS.2.1; go_simp; exact zO hK
    refine zS (fun w' hS hV K hK => ?_) ?_
    · have e3 := zQ hV 3; have e7 := zQ hV 7; have q0 := hS.1; have q1 := hS.2.1; go_simp; refine (hl _ hS.2.2).mono ?_; rintro e v1 ⟨rfl, j1, rfl⟩; exact hK.out _ _ _ rfl rfl rfl (below_drewN zG j1)
    refine zS (fun w' hS hV K hK => ?_) ?_
    · have e8 := zQ hV 8; have q0 := hS.1; have q1 := hS.2.1; go_simp; exact zO hK
    refine fun w' hS hV => ?_
    have e0 := zT hV 0
    have e1 := zT hV 1
    have e2 := zT hV 2
    have e3 := zT hV 3
    have e4 := zT hV 4
    have e5 := zT hV 5
    have e6 := zT hV 6
    have e7 := zT hV 7
    have e8 := zT hV 8
    have e9 := zT hV 9
    simp only [e0, e1, e2, e3, e4, e5, e6, e7, e8, e9]
    clear e0 e1 e2 e3 e4 e5 e6 e7 e8 e9
    refine wpAny_done (by kernel_rfl) ?_ _
    have hB8 := hS.2.2
    go_wp2
    go_roundw
    case rel => exact ⟨k + 1, by omega, by go_num, hB8⟩
    case measure => simp [intOf]; omega
  · go_wp2
    go_ret
    exact ⟨rfl, hB⟩
theorem big_any (A : Option Addr) (n c : Nat) (w : World) :
    Calls Tryz.prog 8 #[.slice A n c] w fun e w' => e = .returned (.bool (decide (4096 < n))) ∧ w = w' := by
 go_enter Tryz.func8, Tryz.ntmps8
 by_cases h : 4096 < n
 · have d1 : decide ((4096 : Int) < (n : Int)) = true := by rw [decide_eq_true_eq]; omega
   go_wp2
   go_ret
   exact ⟨ret_bool (by rw [eq_comm, decide_eq_true_eq]; exact h), rfl⟩
 · have d1 : decide ((4096 : Int) < (n : Int)) = false := by rw [decide_eq_false_iff_not]; omega
   go_wp2
   go_ret
   exact ⟨ret_bool (by rw [eq_comm, decide_eq_false_iff_not]; exact h), rfl⟩
theorem size5_any (P : Int) (A : Option Addr) (n c : Nat) (w : World) (hn : n ≤ 30) :
    Calls Tryz.prog 40 #[.agg #[.int .i64 P, .slice A n c]] w fun e w' => e = .returned (.int .i64 (pw n)) ∧ Below w.heap.size w w' := by
 go_enter Tryz.func40, Tryz.ntmps40
 go_wp2
 go_ret
 exact ⟨ret_int (wrap_pw n hn), zG.alloc (Nat.le_refl _) _⟩
end Go.Proofs.YtmkjdpnoloofjaaGreat

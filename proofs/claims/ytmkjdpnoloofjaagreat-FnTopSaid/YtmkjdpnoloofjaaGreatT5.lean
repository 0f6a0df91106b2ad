/-
  LawFnTop: part 5 of the texts that the proof needs. No condition.
-/
import Derived.Test.YtmkjdpnoloofjaaGreatT4
namespace Go.Proofs.YtmkjdpnoloofjaaGreat
open Go.RowKit
/-- The number of odd grades. -/
def cntO (gs : List Int) : Nat := (gs.filter fun g => g % (2 : Int) == 1).length
theorem cntO_le (gs : List Int) : cntO gs ≤ gs.length := List.length_filter_le _ _
theorem cntO_take {gs : List Int} {k : Nat} (hk : k < gs.length) (_h0 : 0 ≤ gs[k]) : ((cntO (gs.take (k + 1)) : Nat) : Int) = (cntO (gs.take k) : Nat) + gs[k] % 2 := by
 unfold cntO
 rw [List.take_succ_eq_append_getElem hk, List.filter_append, List.length_append, List.filter_cons, List.filter_nil]
 by_cases h : gs[k] % (2 : Int) = 1
 · rw [if_pos (by simpa using h), h]; simp
 · rw [if_neg (by simpa using h)]; simp; omega
theorem mix_cnt {gs : List Int} (hg : ∀ g ∈ gs, 0 ≤ g) : mixB gs = (((cntO gs : Nat) : Int) != 0 && ((cntO gs : Nat) : Int) != ((gs.length : Nat) : Int)) := by
 have h1 : cntO gs = 0 ↔ ∀ g ∈ gs, ¬ g % (2 : Int) = 1 := by
  unfold cntO
  rw [List.length_eq_zero_iff, List.filter_eq_nil_iff]
  simp
 have h2 : cntO gs = gs.length ↔ ∀ g ∈ gs, g % (2 : Int) = 1 := by
  unfold cntO
  rw [List.length_filter_eq_length_iff]
  simp
 rw [Bool.eq_iff_iff]
 simp only [Bool.and_eq_true, bne_iff_ne, ne_eq]
 unfold mixB
 rw [List.any_eq_true]
 constructor
 · rintro ⟨g, hm, hne⟩
   have hne := bne_iff_ne.1 hne
   have h0 : gs.getD 0 0 ∈ gs := by
    cases gs with
    | nil => cases hm
    | cons a r => simp
   have p1 := hg g hm
   have p2 := hg _ h0
   refine ⟨fun e => ?_, fun e => ?_⟩
   · have a1 := h1.1 (by omega) g hm
     have a2 := h1.1 (by omega) _ h0
     omega
   · have a1 := h2.1 (by omega) g hm
     have a2 := h2.1 (by omega) _ h0
     omega
 · rintro ⟨ha, hb⟩
   have ha' : ¬ ∀ g ∈ gs, ¬ g % (2 : Int) = 1 := fun h => ha (by rw [h1.2 h]; rfl)
   have hb' : ¬ ∀ g ∈ gs, g % (2 : Int) = 1 := fun h => hb (by rw [h2.2 h])
   by_cases hh : gs.getD 0 0 % (2 : Int) = 1
   · have : ∃ g ∈ gs, ¬ g % (2 : Int) = 1 := Classical.byContradiction fun hn => hb' fun g hm => Classical.byContradiction fun h => hn ⟨g, hm, h⟩
     obtain ⟨g, hm, h⟩ := this
     exact ⟨g, hm, bne_iff_ne.2 (by rw [hh]; exact h)⟩
   · have : ∃ g ∈ gs, g % (2 : Int) = 1 := Classical.byContradiction fun hn => ha' fun g hm h => hn ⟨g, hm, h⟩
     obtain ⟨g, hm, h⟩ := this
     exact ⟨g, hm, bne_iff_ne.2 (by rw [h]; exact fun e => hh e.symm)⟩
/-- What the sandwich makes of basis vector i, but for a factor. -/
def imgL (P : Int) (sq : List Int) (n : Nat) (xs : List Int) (i : Nat) : List Int := mulL P sq (mulL P sq (invoL P xs) (vecTo n (unitRow n i) n)) (revL P xs)
/-- Is it a versor? -/
def versB (P : Int) (sq : List Int) (n : Nat) (xs : List Int) : Bool :=
 !(nrmL P sq xs == 0) && onlyL (mulL P sq xs (revL P xs)) 0 && !(mixB (gradesL xs)) && (List.range n).all fun i => onlyL (imgL P sq n xs i) 1
theorem onlyGrade_b {b : Bool} (X : Option Addr) (m cx : Nat) (xs : List Int) (k : Int) (w : World) (hm : m ≤ 64) (hx : Rd w X m (ints xs)) (h : onlyL xs k = b) :
    Calls Tryz.prog 174 #[.slice X m cx, .int .i64 k] w fun e w' => e = .returned (.bool b) ∧ Below w.heap.size w w' := h ▸ onlyGrade_any X m cx xs k w hm hx
theorem unitM_getD {n i : Nat} (h : i < n) : (unitM n).getD i [] = unitRow n i := by
 rw [getD_of_lt [] (by rw [unitM_len]; exact h), unitM_get]
set_option maxHeartbeats 3200000 in
set_option maxRecDepth 8000 in
theorem isVersor_A (P : Int) (A : Option Addr) (n c : Nat) (sq : List Int) (X : Option Addr) (cx : Nat) (xs : List Int) (w : World) (hp : 2 ≤ P) (hp2 : P ≤ 13) (hn : n ≤ 6) (ha : Rd w A n (ints sq)) (hs : NumsL P sq) (hx : Rd w X (pw n) (ints xs)) (hxs : NumsL P xs) (hcx : pw n ≤ cx) (h1 : nrmL P sq xs = 0) :
    Calls Tryz.prog 98 #[.agg #[.int .i64 P, .slice A n c], .slice X (pw n) cx] w fun e w' => e = .returned (.bool (versB P sq n xs)) ∧ Below w.heap.size w w' := by
 have hB0 : Below w.heap.size w (w.alloc (.cells #[.int .i64 P, .slice A n c] 26)) := zG.alloc (Nat.le_refl _) _
 have k0 : Blk (w.alloc (.cells #[.int .i64 P, .slice A n c] 26)) w.heap.size 26 #[.int .i64 P, .slice A n c] := Blk.new _ _ _
 have HPW : pw n ≤ 65536 := Nat.le_trans (pw_le (show n ≤ 10 by omega)) (by decide)
 have HPW64 : pw n ≤ 64 := pw_le hn
 have hl7 := gradesL_len xs
 have hrg := gradesL_range xs
 have HT2 : Hid (timesL P sq n [xs, revL P xs] = mulL P sq xs (revL P xs)) := Lib.hid (timesL_two P sq n _ _ hx.lenI hxs)
 obtain ⟨gs, hgs⟩ : ∃ gs, gs = gradesL xs := ⟨_, rfl⟩
 have HGS := Lib.hid hgs
 rw [← hgs] at hl7 hrg
 have HMC : Hid (mixB gs = (((cntO gs : Nat) : Int) != 0 && ((cntO gs : Nat) : Int) != ((gs.length : Nat) : Int))) := Lib.hid (mix_cnt fun g hg => (hrg g hg).1)
 clear hgs
 have b1 : (nrmL P sq xs == 0) = true := by rw [h1]; rfl
 have H1 := Lib.hid b1
 clear h1
 · skip
   go_enter Tryz.func98, Tryz.ntmps98
   go_wp2_with fail
   refine (gradesOf_any X (pw n) cx xs _ HPW64 (hx.below hB0)).mono ?_
   rintro e w1 ⟨A', c', rfl, hM⟩
   have hB1 := hB0.trans (hM.b.mono (by simp))
   have k1 := k0.below hM.b k0.lt
   rw [← HGS.out] at hM ⊢
   obtain ⟨l, hl⟩ : ∃ l, l = gs.length := ⟨_, rfl⟩
   rw [← hl] at hM hl7 ⊢
   have HL := Lib.hid hl
   clear hl k0 hB0
   go_wp2_with fail
   go_loop [5, 8, 15] (fun o _ i => ∃ k : Nat, k ≤ l ∧ i = .int .i64 k ∧ o = .int .i64 ((cntO (gs.take k) : Nat) : Int)) (fun _ _ i => l - (intOf i).toNat)
   case atStart => exact ⟨0, by omega, rfl, rfl⟩
   case round =>
    obtain ⟨k, hk, rfl, rfl⟩ := hrel
    by_cases hlt : k < l
    · obtain ⟨g, o, rfl, hxk, hcx'⟩ := hM.rd.int hlt
      obtain ⟨r1, r2⟩ := hrg _ (List.getElem_mem hxk)
      have HC := Lib.hid (cntO_take hxk r1)
      have hcl := cntO_le (gs.take k)
      have hcl2 : (gs.take k).length ≤ k := List.length_take_le _ _
      obtain ⟨q, hq⟩ : ∃ q, q = cntO (gs.take k) := ⟨_, rfl⟩
      rw [← hq] at hcl ⊢
      have HQ := Lib.hid hq
      clear hq
      go_wp2
      go_round
      case rel => exact ⟨k + 1, by omega, by go_num, by rw [HC.out, HQ.out]⟩
      case measure => simp [intOf]; omega
    · obtain rfl : k = l := by omega
      have e0 : gs.take k = gs := List.take_of_length_le (by rw [← HL.out]; omega)
      rw [e0]
      clear e0
      have hw' : w1 = w1 := rfl
      have k2 := k1
      have hB2 := hB1
      clear k1 hB1
      try rw [← HL.out] at c2
      go_wp2
      refine wp_obs 25 [[],[],[0,1],[0,1,2],[0,1,2,3],[0,1,2,3,4],[0,1,2,3,4],[0,1,2,3,4],[0,1,2,3,4],[0,1,2,3,4,7,8],[0,1,2,3,4,6,7,8,9],[0,1,2,3,4,5,6,7,8,9,10],[0,1,2,3,4,5,6,7,8,9,10,11],[0,1,2,3,4,5,6,7,8,9,10,11,12],[0,1,2,3,4,5,6,7,8,9,10,11,12,13],[0,1,2,3,4,5,6,7,8,9,10,11,12,13,14],[0,1,2,3,4,5,6,7,8,9,10,11,12,13,14,15],[0,1,2,3,4,5,6,7,8,9,10,11,12,13,14,15,16],[0,1,2,3,4,5,6,7,8,9,10,11,12,13,14,15,16,17],[0,1,2,3,4,5,6,7,8,9,10,11,12,13,14,15,16,17,18],[0,1,2,3,4,5,6,7,8,9,10,11,12,13,14,15,16,17,18],[0,1,2,3,4,5,6,7,8,9,10,11,12,13,14,15,16,17,18,20],[0,1,2,3,4,5,6,7,8,9,10,11,12,13,14,15,16,17,18,19,20,21],[0,1,2,3,4,5,6,7,8,9,10,11,12,13,14,15,16,17,18,19,20,21,22],[0,1,2,3,4,5,6,7,8,9,10,11,12,13,14,15,16,17,18,19,20,21,22,23]] [VIs (.agg #[.int .i64 P, .slice A n c]), VIs (.slice X (pw n) cx), VIs (.int .i64 (nrmL P sq xs)), VIs (.bool true), VIs (.bool true), VIs undef, VIs undef, VIs undef, VIs undef, VIs undef, VIs undef, VIs undef, VIs undef, VIs undef, VIs (.bool true), VIs (.bool true), VIs undef, VIs undef, VIs undef, VIs undef, VIs undef, VIs undef, VIs undef, VIs undef, VIs (.bool true)] (fun w' => Blk w' w.heap.size 26 #[.int .i64 P, .slice A n c] ∧ Below w.heap.size w w') (by kernel_rfl) (by kernel_rfl) (fun _ _ h hb => ⟨h.1.below hb h.1.lt, h.2.trans (hb.mono h.2.size)⟩) (⟨k2.drew, hB2.drew⟩) (fun x => ?_)
      refine zS (fun w' hS hV K hK => ?_) ?_
      · obtain ⟨q0, q1⟩ := hS.1.two; go_simp; exact zO hK
      refine zS (fun w' hS hV K hK => ?_) ?_
      · obtain ⟨q0, q1⟩ := hS.1.two; go_simp; exact zO hK
      refine zS (fun w' hS hV K hK => ?_) ?_
      · have e0 := zQ hV 0; have e1 := zQ hV 1; obtain ⟨q0, q1⟩ := hS.1.two; go_simp; refine (spinorNorm_any P A n c sq _ _ xs _ hp hp2 hn (ha.below hS.2) hs (hx.below hS.2) hxs hcx).mono ?_; rintro e w1 ⟨rfl, hb⟩; exact hK.out _ _ _ rfl rfl rfl hb
      refine zS (fun w' hS hV K hK => ?_) ?_
      · have e2 := zQ hV 2; obtain ⟨q0, q1⟩ := hS.1.two; go_simp; exact zO hK
      refine zS (fun w' hS hV K hK => ?_) ?_
      · have e3 := zQ hV 3; obtain ⟨q0, q1⟩ := hS.1.two; go_simp; exact zO hK
      refine zS (fun w' hS hV K hK => ?_) ?_
      · have e4 := zQ hV 4; obtain ⟨q0, q1⟩ := hS.1.two; go_simp; exact zO hK
      refine zS (fun w' hS hV K hK => ?_) ?_
      · have e4 := zQ hV 4; obtain ⟨q0, q1⟩ := hS.1.two; go_simp; exact zO hK
      refine zS (fun w' hS hV K hK => ?_) ?_
      · have e4 := zQ hV 4; obtain ⟨q0, q1⟩ := hS.1.two; go_simp; exact zO hK
      refine zS (fun w' hS hV K hK => ?_) ?_
      · have e4 := zQ hV 4; obtain ⟨q0, q1⟩ := hS.1.two; go_simp; exact zO hK
      refine zS (fun w' hS hV K hK => ?_) ?_
      · have e4 := zQ hV 4; have e7 := zQ hV 7; have e8 := zQ hV 8; obtain ⟨q0, q1⟩ := hS.1.two; go_simp; exact zO hK
      refine zS (fun w' hS hV K hK => ?_) ?_
      · have e4 := zQ hV 4; have e6 := zQ hV 6; have e9 := zQ hV 9; obtain ⟨q0, q1⟩ := hS.1.two; go_simp; exact zO hK
      refine zS (fun w' hS hV K hK => ?_) ?_
      · have e4 := zQ hV 4; have e5 := zQ hV 5; have e10 := zQ hV 10; obtain ⟨q0, q1⟩ := hS.1.two; go_simp; exact zO hK
      refine zS (fun w' hS hV K hK => ?_) ?_
      · have e4 := zQ hV 4; have e11 := zQ hV 11; obtain ⟨q0, q1⟩ := hS.1.two; go_simp; exact zO hK
      refine zS (fun w' hS hV K hK => ?_) ?_
      · have e4 := zQ hV 4; have e12 := zQ hV 12; obtain ⟨q0, q1⟩ := hS.1.two; go_simp; exact zO hK
      refine zS (fun w' hS hV K hK => ?_) ?_
      · have e4 := zQ hV 4; have e13 := zQ hV 13; obtain ⟨q0, q1⟩ := hS.1.two; go_simp; exact zO hK
      refine zS (fun w' hS hV K hK => ?_) ?_
      · have e14 := zQ hV 14; obtain ⟨q0, q1⟩ := hS.1.two; go_simp; exact zO hK
      refine zS (fun w' hS hV K hK => ?_) ?_
      · have e15 := zQ hV 15; obtain ⟨q0, q1⟩ := hS.1.two; go_simp; exact zO hK
      refine zS (fun w' hS hV K hK => ?_) ?_
      · have e15 := zQ hV 15; have e16 := zQ hV 16; obtain ⟨q0, q1⟩ := hS.1.two; go_simp; exact zO hK
      refine zS (fun w' hS hV K hK => ?_) ?_
      · have e15 := zQ hV 15; have e17 := zQ hV 17; obtain ⟨q0, q1⟩ := hS.1.two; go_simp; exact zO hK
      refine zS (fun w' hS hV K hK => ?_) ?_
      · have e18 := zQ hV 18; obtain ⟨q0, q1⟩ := hS.1.two; go_simp; exact zO hK
      refine zS (fun w' hS hV K hK => ?_) ?_
      · have e18 := zQ hV 18; obtain ⟨q0, q1⟩ := hS.1.two; go_simp; exact zO hK
      refine zS (fun w' hS hV K hK => ?_) ?_
      · have e18 := zQ hV 18; have e20 := zQ hV 20; obtain ⟨q0, q1⟩ := hS.1.two; go_simp; exact zO hK
      refine zS (fun w' hS hV K hK => ?_) ?_
      · have e18 := zQ hV 18; have e19 := zQ hV 19; have e21 := zQ hV 21; obtain ⟨q0, q1⟩ := hS.1.two; go_simp; exact zO hK
      refine zS (fun w' hS hV K hK => ?_) ?_
      · have e15 := zQ hV 15; have e18 := zQ hV 18; have e22 := zQ hV 22; obtain ⟨q0, q1⟩ := hS.1.two; go_simp; exact zO hK
      refine zS (fun w' hS hV K hK => ?_) ?_
      · have e15 := zQ hV 15; have e23 := zQ hV 23; obtain ⟨q0, q1⟩ := hS.1.two; go_simp; exact zO hK
      refine fun w' hS hV => ?_
      have hV := fun i hi => hV i (List.mem_range.1 hi)
      simp only [List.range, List.range.loop, zL, zM, zH, zI, VIs, VAny] at hV
      obtain ⟨e0, e1, e2, e3, e4, e5, e6, e7, e8, e9, e10, e11, e12, e13, e14, e15, e16, e17, e18, e19, e20, e21, e22, e23, e24⟩ := hV
      simp only [e0, e1, e2, e3, e4, e5, e6, e7, e8, e9, e10, e11, e12, e13, e14, e15, e16, e17, e18, e19, e20, e21, e22, e23, e24]
      clear e0 e1 e2 e3 e4 e5 e6 e7 e8 e9 e10 e11 e12 e13 e14 e15 e16 e17 e18 e19 e20 e21 e22 e23 e24
      refine wpAny_done (by kernel_rfl) ?_ _
      go_wp2
      go_ret
      exact ⟨ret_bool (by unfold versB; rw [H1.out]; rfl), hS.2⟩
set_option maxHeartbeats 3200000 in
set_option maxRecDepth 8000 in
theorem isVersor_B (P : Int) (A : Option Addr) (n c : Nat) (sq : List Int) (X : Option Addr) (cx : Nat) (xs : List Int) (w : World) (hp : 2 ≤ P) (hp2 : P ≤ 13) (hn : n ≤ 6) (ha : Rd w A n (ints sq)) (hs : NumsL P sq) (hx : Rd w X (pw n) (ints xs)) (hxs : NumsL P xs) (hcx : pw n ≤ cx) (h1 : ¬ nrmL P sq xs = 0) (h2 : onlyL (mulL P sq xs (revL P xs)) 0 = false) :
    Calls Tryz.prog 98 #[.agg #[.int .i64 P, .slice A n c], .slice X (pw n) cx] w fun e w' => e = .returned (.bool (versB P sq n xs)) ∧ Below w.heap.size w w' := by
 have hB0 : Below w.heap.size w (w.alloc (.cells #[.int .i64 P, .slice A n c] 26)) := zG.alloc (Nat.le_refl _) _
 have k0 : Blk (w.alloc (.cells #[.int .i64 P, .slice A n c] 26)) w.heap.size 26 #[.int .i64 P, .slice A n c] := Blk.new _ _ _
 have HPW : pw n ≤ 65536 := Nat.le_trans (pw_le (show n ≤ 10 by omega)) (by decide)
 have HPW64 : pw n ≤ 64 := pw_le hn
 have hl7 := gradesL_len xs
 have hrg := gradesL_range xs
 have HT2 : Hid (timesL P sq n [xs, revL P xs] = mulL P sq xs (revL P xs)) := Lib.hid (timesL_two P sq n _ _ hx.lenI hxs)
 obtain ⟨gs, hgs⟩ : ∃ gs, gs = gradesL xs := ⟨_, rfl⟩
 have HGS := Lib.hid hgs
 rw [← hgs] at hl7 hrg
 have HMC : Hid (mixB gs = (((cntO gs : Nat) : Int) != 0 && ((cntO gs : Nat) : Int) != ((gs.length : Nat) : Int))) := Lib.hid (mix_cnt fun g hg => (hrg g hg).1)
 clear hgs
 have b1 : (nrmL P sq xs == 0) = false := by simp [h1]
 have H1 := Lib.hid b1
 have H2 := Lib.hid h2
 have HO : Hid (onlyL (timesL P sq n [xs, revL P xs]) 0 = false) := Lib.hid (by rw [HT2.out]; exact h2)
 clear h1 h2
 · skip
   go_enter Tryz.func98, Tryz.ntmps98
   go_wp2_with fail
   refine (gradesOf_any X (pw n) cx xs _ HPW64 (hx.below hB0)).mono ?_
   rintro e w1 ⟨A', c', rfl, hM⟩
   have hB1 := hB0.trans (hM.b.mono (by simp))
   have k1 := k0.below hM.b k0.lt
   rw [← HGS.out] at hM ⊢
   obtain ⟨l, hl⟩ : ∃ l, l = gs.length := ⟨_, rfl⟩
   rw [← hl] at hM hl7 ⊢
   have HL := Lib.hid hl
   clear hl k0 hB0
   go_wp2_with fail
   go_loop [5, 8, 15] (fun o _ i => ∃ k : Nat, k ≤ l ∧ i = .int .i64 k ∧ o = .int .i64 ((cntO (gs.take k) : Nat) : Int)) (fun _ _ i => l - (intOf i).toNat)
   case atStart => exact ⟨0, by omega, rfl, rfl⟩
   case round =>
    obtain ⟨k, hk, rfl, rfl⟩ := hrel
    by_cases hlt : k < l
    · obtain ⟨g, o, rfl, hxk, hcx'⟩ := hM.rd.int hlt
      obtain ⟨r1, r2⟩ := hrg _ (List.getElem_mem hxk)
      have HC := Lib.hid (cntO_take hxk r1)
      have hcl := cntO_le (gs.take k)
      have hcl2 : (gs.take k).length ≤ k := List.length_take_le _ _
      obtain ⟨q, hq⟩ : ∃ q, q = cntO (gs.take k) := ⟨_, rfl⟩
      rw [← hq] at hcl ⊢
      have HQ := Lib.hid hq
      clear hq
      go_wp2
      go_round
      case rel => exact ⟨k + 1, by omega, by go_num, by rw [HC.out, HQ.out]⟩
      case measure => simp [intOf]; omega
    · obtain rfl : k = l := by omega
      have e0 : gs.take k = gs := List.take_of_length_le (by rw [← HL.out]; omega)
      rw [e0]
      clear e0
      have hw' : w1 = w1 := rfl
      have k2 := k1
      have hB2 := hB1
      clear k1 hB1
      try rw [← HL.out] at c2
      go_wp2
      refine wp_obs 25 [[],[],[0,1],[0,1,2],[0,1,2,3],[0,1,2,3,4],[0,1,2,3,4],[0,1,2,3,4],[0,1,2,3,4],[0,1,2,3,4,7,8],[0,1,2,3,4,6,7,8,9],[0,1,2,3,4,5,6,7,8,9,10],[0,1,2,3,4,5,6,7,8,9,10,11],[0,1,2,3,4,5,6,7,8,9,10,11,12],[0,1,2,3,4,5,6,7,8,9,10,11,12,13],[0,1,2,3,4,5,6,7,8,9,10,11,12,13,14],[0,1,2,3,4,5,6,7,8,9,10,11,12,13,14,15],[0,1,2,3,4,5,6,7,8,9,10,11,12,13,14,15,16],[0,1,2,3,4,5,6,7,8,9,10,11,12,13,14,15,16,17],[0,1,2,3,4,5,6,7,8,9,10,11,12,13,14,15,16,17,18],[0,1,2,3,4,5,6,7,8,9,10,11,12,13,14,15,16,17,18],[0,1,2,3,4,5,6,7,8,9,10,11,12,13,14,15,16,17,18,20],[0,1,2,3,4,5,6,7,8,9,10,11,12,13,14,15,16,17,18,19,20,21],[0,1,2,3,4,5,6,7,8,9,10,11,12,13,14,15,16,17,18,19,20,21,22],[0,1,2,3,4,5,6,7,8,9,10,11,12,13,14,15,16,17,18,19,20,21,22,23]] [VIs (.agg #[.int .i64 P, .slice A n c]), VIs (.slice X (pw n) cx), VIs (.int .i64 (nrmL P sq xs)), VIs (.bool false), VIs (.bool false), VIs (.agg #[.int .i64 P, .slice A n c]), VIs (.slice X (pw n) cx), VIs (.agg #[.int .i64 P, .slice A n c]), VIs (.slice X (pw n) cx), VSl w (pw n) (revL P xs), VRow 2 [xs, (revL P xs)], VSl w (pw n) (timesL P sq n [xs, (revL P xs)]), VIs (.bool false), VIs (.bool true), VIs (.bool true), VIs (.bool true), VIs undef, VIs undef, VIs undef, VIs undef, VIs undef, VIs undef, VIs undef, VIs undef, VIs (.bool true)] (fun w' => Blk w' w.heap.size 26 #[.int .i64 P, .slice A n c] ∧ Below w.heap.size w w') (by kernel_rfl) (by kernel_rfl) (fun _ _ h hb => ⟨h.1.below hb h.1.lt, h.2.trans (hb.mono h.2.size)⟩) (⟨k2.drew, hB2.drew⟩) (fun x => ?_)
      refine zS (fun w' hS hV K hK => ?_) ?_
      · obtain ⟨q0, q1⟩ := hS.1.two; go_simp; exact zO hK
      refine zS (fun w' hS hV K hK => ?_) ?_
      · obtain ⟨q0, q1⟩ := hS.1.two; go_simp; exact zO hK
      refine zS (fun w' hS hV K hK => ?_) ?_
      · have e0 := zQ hV 0; have e1 := zQ hV 1; obtain ⟨q0, q1⟩ := hS.1.two; go_simp; refine (spinorNorm_any P A n c sq _ _ xs _ hp hp2 hn (ha.below hS.2) hs (hx.below hS.2) hxs hcx).mono ?_; rintro e w1 ⟨rfl, hb⟩; exact hK.out _ _ _ rfl rfl rfl hb
      refine zS (fun w' hS hV K hK => ?_) ?_
      · have e2 := zQ hV 2; obtain ⟨q0, q1⟩ := hS.1.two; go_simp; exact zO hK
      refine zS (fun w' hS hV K hK => ?_) ?_
      · have e3 := zQ hV 3; obtain ⟨q0, q1⟩ := hS.1.two; go_simp; exact zO hK
      refine zS (fun w' hS hV K hK => ?_) ?_
      · have e4 := zQ hV 4; obtain ⟨q0, q1⟩ := hS.1.two; go_simp; exact zO hK
      refine zS (fun w' hS hV K hK => ?_) ?_
      · have e4 := zQ hV 4; obtain ⟨q0, q1⟩ := hS.1.two; go_simp; exact zO hK
      refine zS (fun w' hS hV K hK => ?_) ?_
      · have e4 := zQ hV 4; obtain ⟨q0, q1⟩ := hS.1.two; go_simp; exact zO hK
      refine zS (fun w' hS hV K hK => ?_) ?_
      · have e4 := zQ hV 4; obtain ⟨q0, q1⟩ := hS.1.two; go_simp; exact zO hK
      refine zS (fun w' hS hV K hK => ?_) ?_
      · have e4 := zQ hV 4; have e7 := zQ hV 7; have e8 := zQ hV 8; obtain ⟨q0, q1⟩ := hS.1.two; go_simp; refine (reverse_any P A n c _ (pw n) _ xs _ hp hp2 HPW64 (hx.below hS.2) hxs).mono ?_; rintro e w1 ⟨A2, c2, rfl, hM⟩; exact hK.out _ _ _ rfl rfl ⟨_, _, rfl, hM.after hS.2⟩ hM.b
      refine zS (fun w' hS hV K hK => ?_) ?_
      · have e4 := zQ hV 4; have e6 := zQ hV 6; obtain ⟨A9, c9, e9, h9⟩ := hV 9 (by decide); obtain ⟨q0, q1⟩ := hS.1.two; go_simp; exact hK.out _ _ _ rfl rfl ⟨_, _, rfl, rdII_two (Blk.new _ _ _) (Rd.below ((hx.below hS.2)) (zG.alloc (Nat.le_refl _) _)) (Rd.below (h9.rd) (zG.alloc (Nat.le_refl _) _)) (hcx) (h9.2.cap)⟩ (zG.alloc (Nat.le_refl _) _)
      refine zS (fun w' hS hV K hK => ?_) ?_
      · have e4 := zQ hV 4; have e5 := zQ hV 5; obtain ⟨A9, c9, e9, h9⟩ := hV 9 (by decide); obtain ⟨A10, c10, e10, h10⟩ := hV 10 (by decide); obtain ⟨q0, q1⟩ := hS.1.two; go_simp; refine (times_any P A n c sq _ 2 _ [xs, (revL P xs)] _ hp hp2 hn (by omega) (ha.below hS.2) hs h10 (all_two ⟨hxs, Rd.lenI ((hx.below hS.2))⟩ ⟨(sgnL_nums (by omega) revT hxs), Rd.lenI (h9.rd)⟩)).mono ?_; rintro e w1 ⟨A2, c2, rfl, hM⟩; exact hK.out _ _ _ rfl rfl ⟨_, _, rfl, hM.after hS.2⟩ hM.b
      refine zS (fun w' hS hV K hK => ?_) ?_
      · have e4 := zQ hV 4; obtain ⟨A11, c11, e11, h11⟩ := hV 11 (by decide); obtain ⟨q0, q1⟩ := hS.1.two; go_simp; refine (onlyGrade_b _ _ _ _ _ _ HPW64 h11.rd HO.out).mono ?_; rintro e w1 ⟨rfl, hb⟩; exact hK.out _ _ _ rfl rfl rfl hb
      refine zS (fun w' hS hV K hK => ?_) ?_
      · have e4 := zQ hV 4; have e12 := zQ hV 12; obtain ⟨q0, q1⟩ := hS.1.two; go_simp; exact zO hK
      refine zS (fun w' hS hV K hK => ?_) ?_
      · have e4 := zQ hV 4; have e13 := zQ hV 13; obtain ⟨q0, q1⟩ := hS.1.two; go_simp; exact zO hK
      refine zS (fun w' hS hV K hK => ?_) ?_
      · have e14 := zQ hV 14; obtain ⟨q0, q1⟩ := hS.1.two; go_simp; exact zO hK
      refine zS (fun w' hS hV K hK => ?_) ?_
      · have e15 := zQ hV 15; obtain ⟨q0, q1⟩ := hS.1.two; go_simp; exact zO hK
      refine zS (fun w' hS hV K hK => ?_) ?_
      · have e15 := zQ hV 15; have e16 := zQ hV 16; obtain ⟨q0, q1⟩ := hS.1.two; go_simp; exact zO hK
      refine zS (fun w' hS hV K hK => ?_) ?_
      · have e15 := zQ hV 15; have e17 := zQ hV 17; obtain ⟨q0, q1⟩ := hS.1.two; go_simp; exact zO hK
      refine zS (fun w' hS hV K hK => ?_) ?_
      · have e18 := zQ hV 18; obtain ⟨q0, q1⟩ := hS.1.two; go_simp; exact zO hK
      refine zS (fun w' hS hV K hK => ?_) ?_
      · have e18 := zQ hV 18; obtain ⟨q0, q1⟩ := hS.1.two; go_simp; exact zO hK
      refine zS (fun w' hS hV K hK => ?_) ?_
      · have e18 := zQ hV 18; have e20 := zQ hV 20; obtain ⟨q0, q1⟩ := hS.1.two; go_simp; exact zO hK
      refine zS (fun w' hS hV K hK => ?_) ?_
      · have e18 := zQ hV 18; have e19 := zQ hV 19; have e21 := zQ hV 21; obtain ⟨q0, q1⟩ := hS.1.two; go_simp; exact zO hK
      refine zS (fun w' hS hV K hK => ?_) ?_
      · have e15 := zQ hV 15; have e18 := zQ hV 18; have e22 := zQ hV 22; obtain ⟨q0, q1⟩ := hS.1.two; go_simp; exact zO hK
      refine zS (fun w' hS hV K hK => ?_) ?_
      · have e15 := zQ hV 15; have e23 := zQ hV 23; obtain ⟨q0, q1⟩ := hS.1.two; go_simp; exact zO hK
      refine fun w' hS hV => ?_
      have hV := fun i hi => hV i (List.mem_range.1 hi)
      simp only [List.range, List.range.loop, zL, zM, zH, zI, VIs, VSl, VRow, VAny] at hV
      obtain ⟨e0, e1, e2, e3, e4, e5, e6, e7, e8, ⟨A9, c9, e9, h9⟩, ⟨A10, c10, e10, h10⟩, ⟨A11, c11, e11, h11⟩, e12, e13, e14, e15, e16, e17, e18, e19, e20, e21, e22, e23, e24⟩ := hV
      simp only [e0, e1, e2, e3, e4, e5, e6, e7, e8, e9, e10, e11, e12, e13, e14, e15, e16, e17, e18, e19, e20, e21, e22, e23, e24]
      clear e0 e1 e2 e3 e4 e5 e6 e7 e8 e9 e10 e11 e12 e13 e14 e15 e16 e17 e18 e19 e20 e21 e22 e23 e24
      refine wpAny_done (by kernel_rfl) ?_ _
      go_wp2
      go_ret
      exact ⟨ret_bool (by unfold versB; rw [H1.out, H2.out]; rfl), hS.2⟩
set_option maxHeartbeats 3200000 in
set_option maxRecDepth 8000 in
theorem isVersor_C (P : Int) (A : Option Addr) (n c : Nat) (sq : List Int) (X : Option Addr) (cx : Nat) (xs : List Int) (w : World) (hp : 2 ≤ P) (hp2 : P ≤ 13) (hn : n ≤ 6) (ha : Rd w A n (ints sq)) (hs : NumsL P sq) (hx : Rd w X (pw n) (ints xs)) (hxs : NumsL P xs) (hcx : pw n ≤ cx) (h1 : ¬ nrmL P sq xs = 0) (h2 : onlyL (mulL P sq xs (revL P xs)) 0 = true) (h3 : mixB (gradesL xs) = true) :
    Calls Tryz.prog 98 #[.agg #[.int .i64 P, .slice A n c], .slice X (pw n) cx] w fun e w' => e = .returned (.bool (versB P sq n xs)) ∧ Below w.heap.size w w' := by
 have hB0 : Below w.heap.size w (w.alloc (.cells #[.int .i64 P, .slice A n c] 26)) := zG.alloc (Nat.le_refl _) _
 have k0 : Blk (w.alloc (.cells #[.int .i64 P, .slice A n c] 26)) w.heap.size 26 #[.int .i64 P, .slice A n c] := Blk.new _ _ _
 have HPW : pw n ≤ 65536 := Nat.le_trans (pw_le (show n ≤ 10 by omega)) (by decide)
 have HPW64 : pw n ≤ 64 := pw_le hn
 have hl7 := gradesL_len xs
 have hrg := gradesL_range xs
 have HT2 : Hid (timesL P sq n [xs, revL P xs] = mulL P sq xs (revL P xs)) := Lib.hid (timesL_two P sq n _ _ hx.lenI hxs)
 obtain ⟨gs, hgs⟩ : ∃ gs, gs = gradesL xs := ⟨_, rfl⟩
 have HGS := Lib.hid hgs
 rw [← hgs] at hl7 hrg
 have HMC : Hid (mixB gs = (((cntO gs : Nat) : Int) != 0 && ((cntO gs : Nat) : Int) != ((gs.length : Nat) : Int))) := Lib.hid (mix_cnt fun g hg => (hrg g hg).1)
 clear hgs
 have b1 : (nrmL P sq xs == 0) = false := by simp [h1]
 have H1 := Lib.hid b1
 have H2 := Lib.hid h2
 have HO : Hid (onlyL (timesL P sq n [xs, revL P xs]) 0 = true) := Lib.hid (by rw [HT2.out]; exact h2)
 have H3 := Lib.hid h3
 have hmx := HMC.out
 rw [HGS.out, h3, ← HGS.out] at hmx
 have hmx2 := Bool.and_eq_true_iff.1 hmx.symm
 obtain ⟨c1, c2⟩ := hmx2
 clear h1 h2 h3 hmx
 · skip
   go_enter Tryz.func98, Tryz.ntmps98
   go_wp2_with fail
   refine (gradesOf_any X (pw n) cx xs _ HPW64 (hx.below hB0)).mono ?_
   rintro e w1 ⟨A', c', rfl, hM⟩
   have hB1 := hB0.trans (hM.b.mono (by simp))
   have k1 := k0.below hM.b k0.lt
   rw [← HGS.out] at hM ⊢
   obtain ⟨l, hl⟩ : ∃ l, l = gs.length := ⟨_, rfl⟩
   rw [← hl] at hM hl7 ⊢
   have HL := Lib.hid hl
   clear hl k0 hB0
   go_wp2_with fail
   go_loop [5, 8, 15] (fun o _ i => ∃ k : Nat, k ≤ l ∧ i = .int .i64 k ∧ o = .int .i64 ((cntO (gs.take k) : Nat) : Int)) (fun _ _ i => l - (intOf i).toNat)
   case atStart => exact ⟨0, by omega, rfl, rfl⟩
   case round =>
    obtain ⟨k, hk, rfl, rfl⟩ := hrel
    by_cases hlt : k < l
    · obtain ⟨g, o, rfl, hxk, hcx'⟩ := hM.rd.int hlt
      obtain ⟨r1, r2⟩ := hrg _ (List.getElem_mem hxk)
      have HC := Lib.hid (cntO_take hxk r1)
      have hcl := cntO_le (gs.take k)
      have hcl2 : (gs.take k).length ≤ k := List.length_take_le _ _
      obtain ⟨q, hq⟩ : ∃ q, q = cntO (gs.take k) := ⟨_, rfl⟩
      rw [← hq] at hcl ⊢
      have HQ := Lib.hid hq
      clear hq
      go_wp2
      go_round
      case rel => exact ⟨k + 1, by omega, by go_num, by rw [HC.out, HQ.out]⟩
      case measure => simp [intOf]; omega
    · obtain rfl : k = l := by omega
      have e0 : gs.take k = gs := List.take_of_length_le (by rw [← HL.out]; omega)
      rw [e0]
      clear e0
      have hw' : w1 = w1 := rfl
      have k2 := k1
      have hB2 := hB1
      clear k1 hB1
      try rw [← HL.out] at c2
      go_wp2
      refine wp_obs 25 [[],[],[0,1],[0,1,2],[0,1,2,3],[0,1,2,3,4],[0,1,2,3,4],[0,1,2,3,4],[0,1,2,3,4],[0,1,2,3,4,7,8],[0,1,2,3,4,6,7,8,9],[0,1,2,3,4,5,6,7,8,9,10],[0,1,2,3,4,5,6,7,8,9,10,11],[0,1,2,3,4,5,6,7,8,9,10,11,12],[0,1,2,3,4,5,6,7,8,9,10,11,12,13],[0,1,2,3,4,5,6,7,8,9,10,11,12,13,14],[0,1,2,3,4,5,6,7,8,9,10,11,12,13,14,15],[0,1,2,3,4,5,6,7,8,9,10,11,12,13,14,15,16],[0,1,2,3,4,5,6,7,8,9,10,11,12,13,14,15,16,17],[0,1,2,3,4,5,6,7,8,9,10,11,12,13,14,15,16,17,18],[0,1,2,3,4,5,6,7,8,9,10,11,12,13,14,15,16,17,18],[0,1,2,3,4,5,6,7,8,9,10,11,12,13,14,15,16,17,18,20],[0,1,2,3,4,5,6,7,8,9,10,11,12,13,14,15,16,17,18,19,20,21],[0,1,2,3,4,5,6,7,8,9,10,11,12,13,14,15,16,17,18,19,20,21,22],[0,1,2,3,4,5,6,7,8,9,10,11,12,13,14,15,16,17,18,19,20,21,22,23]] [VIs (.agg #[.int .i64 P, .slice A n c]), VIs (.slice X (pw n) cx), VIs (.int .i64 (nrmL P sq xs)), VIs (.bool false), VIs (.bool false), VIs (.agg #[.int .i64 P, .slice A n c]), VIs (.slice X (pw n) cx), VIs (.agg #[.int .i64 P, .slice A n c]), VIs (.slice X (pw n) cx), VSl w (pw n) (revL P xs), VRow 2 [xs, (revL P xs)], VSl w (pw n) (timesL P sq n [xs, (revL P xs)]), VIs (.bool true), VIs (.bool false), VIs (.bool false), VIs (.bool false), VIs (.int .i64 ((cntO gs : Nat) : Int)), VIs (.bool true), VIs (.bool true), VIs (.int .i64 ((cntO gs : Nat) : Int)), VIs (.slice A' k c'), VIs (.int .i64 ((k : Nat) : Int)), VIs (.bool true), VIs (.bool true), VIs (.bool true)] (fun w' => Blk w' w.heap.size 26 #[.int .i64 P, .slice A n c] ∧ Below w.heap.size w w') (by kernel_rfl) (by kernel_rfl) (fun _ _ h hb => ⟨h.1.below hb h.1.lt, h.2.trans (hb.mono h.2.size)⟩) (⟨k2.drew, hB2.drew⟩) (fun x => ?_)
      refine zS (fun w' hS hV K hK => ?_) ?_
      · obtain ⟨q0, q1⟩ := hS.1.two; go_simp; exact zO hK
      refine zS (fun w' hS hV K hK => ?_) ?_
      · obtain ⟨q0, q1⟩ := hS.1.two; go_simp; exact zO hK
      refine zS (fun w' hS hV K hK => ?_) ?_
      · have e0 := zQ hV 0; have e1 := zQ hV 1; obtain ⟨q0, q1⟩ := hS.1.two; go_simp; refine (spinorNorm_any P A n c sq _ _ xs _ hp hp2 hn (ha.below hS.2) hs (hx.below hS.2) hxs hcx).mono ?_; rintro e w1 ⟨rfl, hb⟩; exact hK.out _ _ _ rfl rfl rfl hb
      refine zS (fun w' hS hV K hK => ?_) ?_
      · have e2 := zQ hV 2; obtain ⟨q0, q1⟩ := hS.1.two; go_simp; exact zO hK
      refine zS (fun w' hS hV K hK => ?_) ?_
      · have e3 := zQ hV 3; obtain ⟨q0, q1⟩ := hS.1.two; go_simp; exact zO hK
      refine zS (fun w' hS hV K hK => ?_) ?_
      · have e4 := zQ hV 4; obtain ⟨q0, q1⟩ := hS.1.two; go_simp; exact zO hK
      refine zS (fun w' hS hV K hK => ?_) ?_
      · have e4 := zQ hV 4; obtain ⟨q0, q1⟩ := hS.1.two; go_simp; exact zO hK
      refine zS (fun w' hS hV K hK => ?_) ?_
      · have e4 := zQ hV 4; obtain ⟨q0, q1⟩ := hS.1.two; go_simp; exact zO hK
      refine zS (fun w' hS hV K hK => ?_) ?_
      · have e4 := zQ hV 4; obtain ⟨q0, q1⟩ := hS.1.two; go_simp; exact zO hK
      refine zS (fun w' hS hV K hK => ?_) ?_
      · have e4 := zQ hV 4; have e7 := zQ hV 7; have e8 := zQ hV 8; obtain ⟨q0, q1⟩ := hS.1.two; go_simp; refine (reverse_any P A n c _ (pw n) _ xs _ hp hp2 HPW64 (hx.below hS.2) hxs).mono ?_; rintro e w1 ⟨A2, c2, rfl, hM⟩; exact hK.out _ _ _ rfl rfl ⟨_, _, rfl, hM.after hS.2⟩ hM.b
      refine zS (fun w' hS hV K hK => ?_) ?_
      · have e4 := zQ hV 4; have e6 := zQ hV 6; obtain ⟨A9, c9, e9, h9⟩ := hV 9 (by decide); obtain ⟨q0, q1⟩ := hS.1.two; go_simp; exact hK.out _ _ _ rfl rfl ⟨_, _, rfl, rdII_two (Blk.new _ _ _) (Rd.below ((hx.below hS.2)) (zG.alloc (Nat.le_refl _) _)) (Rd.below (h9.rd) (zG.alloc (Nat.le_refl _) _)) (hcx) (h9.2.cap)⟩ (zG.alloc (Nat.le_refl _) _)
      refine zS (fun w' hS hV K hK => ?_) ?_
      · have e4 := zQ hV 4; have e5 := zQ hV 5; obtain ⟨A9, c9, e9, h9⟩ := hV 9 (by decide); obtain ⟨A10, c10, e10, h10⟩ := hV 10 (by decide); obtain ⟨q0, q1⟩ := hS.1.two; go_simp; refine (times_any P A n c sq _ 2 _ [xs, (revL P xs)] _ hp hp2 hn (by omega) (ha.below hS.2) hs h10 (all_two ⟨hxs, Rd.lenI ((hx.below hS.2))⟩ ⟨(sgnL_nums (by omega) revT hxs), Rd.lenI (h9.rd)⟩)).mono ?_; rintro e w1 ⟨A2, c2, rfl, hM⟩; exact hK.out _ _ _ rfl rfl ⟨_, _, rfl, hM.after hS.2⟩ hM.b
      refine zS (fun w' hS hV K hK => ?_) ?_
      · have e4 := zQ hV 4; obtain ⟨A11, c11, e11, h11⟩ := hV 11 (by decide); obtain ⟨q0, q1⟩ := hS.1.two; go_simp; refine (onlyGrade_b _ _ _ _ _ _ HPW64 h11.rd HO.out).mono ?_; rintro e w1 ⟨rfl, hb⟩; exact hK.out _ _ _ rfl rfl rfl hb
      refine zS (fun w' hS hV K hK => ?_) ?_
      · have e4 := zQ hV 4; have e12 := zQ hV 12; obtain ⟨q0, q1⟩ := hS.1.two; go_simp; exact zO hK
      refine zS (fun w' hS hV K hK => ?_) ?_
      · have e4 := zQ hV 4; have e13 := zQ hV 13; obtain ⟨q0, q1⟩ := hS.1.two; go_simp; exact zO hK
      refine zS (fun w' hS hV K hK => ?_) ?_
      · have e14 := zQ hV 14; obtain ⟨q0, q1⟩ := hS.1.two; go_simp; exact zO hK
      refine zS (fun w' hS hV K hK => ?_) ?_
      · have e15 := zQ hV 15; obtain ⟨q0, q1⟩ := hS.1.two; go_simp; exact zO hK
      refine zS (fun w' hS hV K hK => ?_) ?_
      · have e15 := zQ hV 15; have e16 := zQ hV 16; obtain ⟨q0, q1⟩ := hS.1.two; go_simp; exact zO hK
      refine zS (fun w' hS hV K hK => ?_) ?_
      · have e15 := zQ hV 15; have e17 := zQ hV 17; obtain ⟨q0, q1⟩ := hS.1.two; go_simp; exact zO hK
      refine zS (fun w' hS hV K hK => ?_) ?_
      · have e18 := zQ hV 18; obtain ⟨q0, q1⟩ := hS.1.two; go_simp; exact zO hK
      refine zS (fun w' hS hV K hK => ?_) ?_
      · have e18 := zQ hV 18; obtain ⟨q0, q1⟩ := hS.1.two; go_simp; exact zO hK
      refine zS (fun w' hS hV K hK => ?_) ?_
      · have e18 := zQ hV 18; have e20 := zQ hV 20; obtain ⟨q0, q1⟩ := hS.1.two; go_simp; exact zO hK
      refine zS (fun w' hS hV K hK => ?_) ?_
      · have e18 := zQ hV 18; have e19 := zQ hV 19; have e21 := zQ hV 21; obtain ⟨q0, q1⟩ := hS.1.two; go_simp; exact zO hK
      refine zS (fun w' hS hV K hK => ?_) ?_
      · have e15 := zQ hV 15; have e18 := zQ hV 18; have e22 := zQ hV 22; obtain ⟨q0, q1⟩ := hS.1.two; go_simp; exact zO hK
      refine zS (fun w' hS hV K hK => ?_) ?_
      · have e15 := zQ hV 15; have e23 := zQ hV 23; obtain ⟨q0, q1⟩ := hS.1.two; go_simp; exact zO hK
      refine fun w' hS hV => ?_
      have hV := fun i hi => hV i (List.mem_range.1 hi)
      simp only [List.range, List.range.loop, zL, zM, zH, zI, VIs, VSl, VRow, VAny] at hV
      obtain ⟨e0, e1, e2, e3, e4, e5, e6, e7, e8, ⟨A9, c9, e9, h9⟩, ⟨A10, c10, e10, h10⟩, ⟨A11, c11, e11, h11⟩, e12, e13, e14, e15, e16, e17, e18, e19, e20, e21, e22, e23, e24⟩ := hV
      simp only [e0, e1, e2, e3, e4, e5, e6, e7, e8, e9, e10, e11, e12, e13, e14, e15, e16, e17, e18, e19, e20, e21, e22, e23, e24]
      clear e0 e1 e2 e3 e4 e5 e6 e7 e8 e9 e10 e11 e12 e13 e14 e15 e16 e17 e18 e19 e20 e21 e22 e23 e24
      refine wpAny_done (by kernel_rfl) ?_ _
      go_wp2
      go_ret
      exact ⟨ret_bool (by unfold versB; rw [H1.out, H2.out, H3.out]; rfl), hS.2⟩
set_option maxHeartbeats 3200000 in
set_option maxRecDepth 8000 in
theorem isVersor_D (P : Int) (A : Option Addr) (n c : Nat) (sq : List Int) (X : Option Addr) (cx : Nat) (xs : List Int) (w : World) (hp : 2 ≤ P) (hp2 : P ≤ 13) (hn : n ≤ 6) (ha : Rd w A n (ints sq)) (hs : NumsL P sq) (hx : Rd w X (pw n) (ints xs)) (hxs : NumsL P xs) (hcx : pw n ≤ cx) (h1 : ¬ nrmL P sq xs = 0) (h2 : onlyL (mulL P sq xs (revL P xs)) 0 = true) (h3 : mixB (gradesL xs) = false) (h4 : cntO (gradesL xs) = 0) :
    Calls Tryz.prog 98 #[.agg #[.int .i64 P, .slice A n c], .slice X (pw n) cx] w fun e w' => e = .returned (.bool (versB P sq n xs)) ∧ Below w.heap.size w w' := by
 have hB0 : Below w.heap.size w (w.alloc (.cells #[.int .i64 P, .slice A n c] 26)) := zG.alloc (Nat.le_refl _) _
 have k0 : Blk (w.alloc (.cells #[.int .i64 P, .slice A n c] 26)) w.heap.size 26 #[.int .i64 P, .slice A n c] := Blk.new _ _ _
 have HPW : pw n ≤ 65536 := Nat.le_trans (pw_le (show n ≤ 10 by omega)) (by decide)
 have HPW64 : pw n ≤ 64 := pw_le hn
 have hl7 := gradesL_len xs
 have hrg := gradesL_range xs
 have HT2 : Hid (timesL P sq n [xs, revL P xs] = mulL P sq xs (revL P xs)) := Lib.hid (timesL_two P sq n _ _ hx.lenI hxs)
 obtain ⟨gs, hgs⟩ : ∃ gs, gs = gradesL xs := ⟨_, rfl⟩
 have HGS := Lib.hid hgs
 rw [← hgs] at hl7 hrg
 have HMC : Hid (mixB gs = (((cntO gs : Nat) : Int) != 0 && ((cntO gs : Nat) : Int) != ((gs.length : Nat) : Int))) := Lib.hid (mix_cnt fun g hg => (hrg g hg).1)
 clear hgs
 have b1 : (nrmL P sq xs == 0) = false := by simp [h1]
 have H1 := Lib.hid b1
 have H2 := Lib.hid h2
 have HO : Hid (onlyL (timesL P sq n [xs, revL P xs]) 0 = true) := Lib.hid (by rw [HT2.out]; exact h2)
 have H3 := Lib.hid h3
 have c1 : (((cntO gs : Nat) : Int) != 0) = false := by rw [HGS.out, h4]; rfl
 clear h4
 clear h1 h2 h3
 · skip
   go_enter Tryz.func98, Tryz.ntmps98
   go_wp2_with fail
   refine (gradesOf_any X (pw n) cx xs _ HPW64 (hx.below hB0)).mono ?_
   rintro e w1 ⟨A', c', rfl, hM⟩
   have hB1 := hB0.trans (hM.b.mono (by simp))
   have k1 := k0.below hM.b k0.lt
   rw [← HGS.out] at hM ⊢
   obtain ⟨l, hl⟩ : ∃ l, l = gs.length := ⟨_, rfl⟩
   rw [← hl] at hM hl7 ⊢
   have HL := Lib.hid hl
   clear hl k0 hB0
   go_wp2_with fail
   go_loop [5, 8, 15] (fun o _ i => ∃ k : Nat, k ≤ l ∧ i = .int .i64 k ∧ o = .int .i64 ((cntO (gs.take k) : Nat) : Int)) (fun _ _ i => l - (intOf i).toNat)
   case atStart => exact ⟨0, by omega, rfl, rfl⟩
   case round =>
    obtain ⟨k, hk, rfl, rfl⟩ := hrel
    by_cases hlt : k < l
    · obtain ⟨g, o, rfl, hxk, hcx'⟩ := hM.rd.int hlt
      obtain ⟨r1, r2⟩ := hrg _ (List.getElem_mem hxk)
      have HC := Lib.hid (cntO_take hxk r1)
      have hcl := cntO_le (gs.take k)
      have hcl2 : (gs.take k).length ≤ k := List.length_take_le _ _
      obtain ⟨q, hq⟩ : ∃ q, q = cntO (gs.take k) := ⟨_, rfl⟩
      rw [← hq] at hcl ⊢
      have HQ := Lib.hid hq
      clear hq
      go_wp2
      go_round
      case rel => exact ⟨k + 1, by omega, by go_num, by rw [HC.out, HQ.out]⟩
      case measure => simp [intOf]; omega
    · obtain rfl : k = l := by omega
      have e0 : gs.take k = gs := List.take_of_length_le (by rw [← HL.out]; omega)
      rw [e0]
      clear e0
      have hw' : w1 = w1 := rfl
      have k2 := k1
      have hB2 := hB1
      clear k1 hB1
      try rw [← HL.out] at c2
      go_wp2
      refine wp_obs 25 [[],[],[0,1],[0,1,2],[0,1,2,3],[0,1,2,3,4],[0,1,2,3,4],[0,1,2,3,4],[0,1,2,3,4],[0,1,2,3,4,7,8],[0,1,2,3,4,6,7,8,9],[0,1,2,3,4,5,6,7,8,9,10],[0,1,2,3,4,5,6,7,8,9,10,11],[0,1,2,3,4,5,6,7,8,9,10,11,12],[0,1,2,3,4,5,6,7,8,9,10,11,12,13],[0,1,2,3,4,5,6,7,8,9,10,11,12,13,14],[0,1,2,3,4,5,6,7,8,9,10,11,12,13,14,15],[0,1,2,3,4,5,6,7,8,9,10,11,12,13,14,15,16],[0,1,2,3,4,5,6,7,8,9,10,11,12,13,14,15,16,17],[0,1,2,3,4,5,6,7,8,9,10,11,12,13,14,15,16,17,18],[0,1,2,3,4,5,6,7,8,9,10,11,12,13,14,15,16,17,18],[0,1,2,3,4,5,6,7,8,9,10,11,12,13,14,15,16,17,18,20],[0,1,2,3,4,5,6,7,8,9,10,11,12,13,14,15,16,17,18,19,20,21],[0,1,2,3,4,5,6,7,8,9,10,11,12,13,14,15,16,17,18,19,20,21,22],[0,1,2,3,4,5,6,7,8,9,10,11,12,13,14,15,16,17,18,19,20,21,22,23]] [VIs (.agg #[.int .i64 P, .slice A n c]), VIs (.slice X (pw n) cx), VIs (.int .i64 (nrmL P sq xs)), VIs (.bool false), VIs (.bool false), VIs (.agg #[.int .i64 P, .slice A n c]), VIs (.slice X (pw n) cx), VIs (.agg #[.int .i64 P, .slice A n c]), VIs (.slice X (pw n) cx), VSl w (pw n) (revL P xs), VRow 2 [xs, (revL P xs)], VSl w (pw n) (timesL P sq n [xs, (revL P xs)]), VIs (.bool true), VIs (.bool false), VIs (.bool false), VIs (.bool false), VIs (.int .i64 ((cntO gs : Nat) : Int)), VIs (.bool false), VIs (.bool false), VIs undef, VIs undef, VIs undef, VIs undef, VIs (.bool false), VIs (.bool false)] (fun w' => Blk w' w.heap.size 26 #[.int .i64 P, .slice A n c] ∧ Below w.heap.size w w') (by kernel_rfl) (by kernel_rfl) (fun _ _ h hb => ⟨h.1.below hb h.1.lt, h.2.trans (hb.mono h.2.size)⟩) (⟨k2.drew, hB2.drew⟩) (fun x => ?_)
      refine zS (fun w' hS hV K hK => ?_) ?_
      · obtain ⟨q0, q1⟩ := hS.1.two; go_simp; exact zO hK
      refine zS (fun w' hS hV K hK => ?_) ?_
      · obtain ⟨q0, q1⟩ := hS.1.two; go_simp; exact zO hK
      refine zS (fun w' hS hV K hK => ?_) ?_
      · have e0 := zQ hV 0; have e1 := zQ hV 1; obtain ⟨q0, q1⟩ := hS.1.two; go_simp; refine (spinorNorm_any P A n c sq _ _ xs _ hp hp2 hn (ha.below hS.2) hs (hx.below hS.2) hxs hcx).mono ?_; rintro e w1 ⟨rfl, hb⟩; exact hK.out _ _ _ rfl rfl rfl hb
      refine zS (fun w' hS hV K hK => ?_) ?_
      · have e2 := zQ hV 2; obtain ⟨q0, q1⟩ := hS.1.two; go_simp; exact zO hK
      refine zS (fun w' hS hV K hK => ?_) ?_
      · have e3 := zQ hV 3; obtain ⟨q0, q1⟩ := hS.1.two; go_simp; exact zO hK
      refine zS (fun w' hS hV K hK => ?_) ?_
      · have e4 := zQ hV 4; obtain ⟨q0, q1⟩ := hS.1.two; go_simp; exact zO hK
      refine zS (fun w' hS hV K hK => ?_) ?_
      · have e4 := zQ hV 4; obtain ⟨q0, q1⟩ := hS.1.two; go_simp; exact zO hK
      refine zS (fun w' hS hV K hK => ?_) ?_
      · have e4 := zQ hV 4; obtain ⟨q0, q1⟩ := hS.1.two; go_simp; exact zO hK
      refine zS (fun w' hS hV K hK => ?_) ?_
      · have e4 := zQ hV 4; obtain ⟨q0, q1⟩ := hS.1.two; go_simp; exact zO hK
      refine zS (fun w' hS hV K hK => ?_) ?_
      · have e4 := zQ hV 4; have e7 := zQ hV 7; have e8 := zQ hV 8; obtain ⟨q0, q1⟩ := hS.1.two; go_simp; refine (reverse_any P A n c _ (pw n) _ xs _ hp hp2 HPW64 (hx.below hS.2) hxs).mono ?_; rintro e w1 ⟨A2, c2, rfl, hM⟩; exact hK.out _ _ _ rfl rfl ⟨_, _, rfl, hM.after hS.2⟩ hM.b
      refine zS (fun w' hS hV K hK => ?_) ?_
      · have e4 := zQ hV 4; have e6 := zQ hV 6; obtain ⟨A9, c9, e9, h9⟩ := hV 9 (by decide); obtain ⟨q0, q1⟩ := hS.1.two; go_simp; exact hK.out _ _ _ rfl rfl ⟨_, _, rfl, rdII_two (Blk.new _ _ _) (Rd.below ((hx.below hS.2)) (zG.alloc (Nat.le_refl _) _)) (Rd.below (h9.rd) (zG.alloc (Nat.le_refl _) _)) (hcx) (h9.2.cap)⟩ (zG.alloc (Nat.le_refl _) _)
      refine zS (fun w' hS hV K hK => ?_) ?_
      · have e4 := zQ hV 4; have e5 := zQ hV 5; obtain ⟨A9, c9, e9, h9⟩ := hV 9 (by decide); obtain ⟨A10, c10, e10, h10⟩ := hV 10 (by decide); obtain ⟨q0, q1⟩ := hS.1.two; go_simp; refine (times_any P A n c sq _ 2 _ [xs, (revL P xs)] _ hp hp2 hn (by omega) (ha.below hS.2) hs h10 (all_two ⟨hxs, Rd.lenI ((hx.below hS.2))⟩ ⟨(sgnL_nums (by omega) revT hxs), Rd.lenI (h9.rd)⟩)).mono ?_; rintro e w1 ⟨A2, c2, rfl, hM⟩; exact hK.out _ _ _ rfl rfl ⟨_, _, rfl, hM.after hS.2⟩ hM.b
      refine zS (fun w' hS hV K hK => ?_) ?_
      · have e4 := zQ hV 4; obtain ⟨A11, c11, e11, h11⟩ := hV 11 (by decide); obtain ⟨q0, q1⟩ := hS.1.two; go_simp; refine (onlyGrade_b _ _ _ _ _ _ HPW64 h11.rd HO.out).mono ?_; rintro e w1 ⟨rfl, hb⟩; exact hK.out _ _ _ rfl rfl rfl hb
      refine zS (fun w' hS hV K hK => ?_) ?_
      · have e4 := zQ hV 4; have e12 := zQ hV 12; obtain ⟨q0, q1⟩ := hS.1.two; go_simp; exact zO hK
      refine zS (fun w' hS hV K hK => ?_) ?_
      · have e4 := zQ hV 4; have e13 := zQ hV 13; obtain ⟨q0, q1⟩ := hS.1.two; go_simp; exact zO hK
      refine zS (fun w' hS hV K hK => ?_) ?_
      · have e14 := zQ hV 14; obtain ⟨q0, q1⟩ := hS.1.two; go_simp; exact zO hK
      refine zS (fun w' hS hV K hK => ?_) ?_
      · have e15 := zQ hV 15; obtain ⟨q0, q1⟩ := hS.1.two; go_simp; exact zO hK
      refine zS (fun w' hS hV K hK => ?_) ?_
      · have e15 := zQ hV 15; have e16 := zQ hV 16; obtain ⟨q0, q1⟩ := hS.1.two; go_simp; exact zO hK
      refine zS (fun w' hS hV K hK => ?_) ?_
      · have e15 := zQ hV 15; have e17 := zQ hV 17; obtain ⟨q0, q1⟩ := hS.1.two; go_simp; exact zO hK
      refine zS (fun w' hS hV K hK => ?_) ?_
      · have e18 := zQ hV 18; obtain ⟨q0, q1⟩ := hS.1.two; go_simp; exact zO hK
      refine zS (fun w' hS hV K hK => ?_) ?_
      · have e18 := zQ hV 18; obtain ⟨q0, q1⟩ := hS.1.two; go_simp; exact zO hK
      refine zS (fun w' hS hV K hK => ?_) ?_
      · have e18 := zQ hV 18; have e20 := zQ hV 20; obtain ⟨q0, q1⟩ := hS.1.two; go_simp; exact zO hK
      refine zS (fun w' hS hV K hK => ?_) ?_
      · have e18 := zQ hV 18; have e19 := zQ hV 19; have e21 := zQ hV 21; obtain ⟨q0, q1⟩ := hS.1.two; go_simp; exact zO hK
      refine zS (fun w' hS hV K hK => ?_) ?_
      · have e15 := zQ hV 15; have e18 := zQ hV 18; have e22 := zQ hV 22; obtain ⟨q0, q1⟩ := hS.1.two; go_simp; exact zO hK
      refine zS (fun w' hS hV K hK => ?_) ?_
      · have e15 := zQ hV 15; have e23 := zQ hV 23; obtain ⟨q0, q1⟩ := hS.1.two; go_simp; exact zO hK
      refine fun w' hS hV => ?_
      have hV := fun i hi => hV i (List.mem_range.1 hi)
      simp only [List.range, List.range.loop, zL, zM, zH, zI, VIs, VSl, VRow, VAny] at hV
      obtain ⟨e0, e1, e2, e3, e4, e5, e6, e7, e8, ⟨A9, c9, e9, h9⟩, ⟨A10, c10, e10, h10⟩, ⟨A11, c11, e11, h11⟩, e12, e13, e14, e15, e16, e17, e18, e19, e20, e21, e22, e23, e24⟩ := hV
      simp only [e0, e1, e2, e3, e4, e5, e6, e7, e8, e9, e10, e11, e12, e13, e14, e15, e16, e17, e18, e19, e20, e21, e22, e23, e24]
      clear e0 e1 e2 e3 e4 e5 e6 e7 e8 e9 e10 e11 e12 e13 e14 e15 e16 e17 e18 e19 e20 e21 e22 e23 e24
      refine wpAny_done (by kernel_rfl) ?_ _
      have hB3 := hS.2
      have k3 := hS.1
      clear hS k2 hB2
      obtain ⟨q0, q1⟩ := k3.two
      go_wp2_with fail
      refine (dim_any _ _ _ _ _).mono ?_
      rintro e w4 ⟨rfl, hb4⟩
      have hB4 := hB3.trans (hb4.mono hB3.size)
      have k4 := k3.below hb4 k3.lt
      clear q0 q1 k3 hB3
      go_wp2_with fail
      refine (unit_any n _ (by omega)).mono ?_
      rintro e w5 ⟨U, cu, rfl, hU⟩
      have hB5 := hB4.trans (hU.b.mono hB4.size)
      have k5 := k4.below hU.b k4.lt
      have hUR := hU.rd
      have HUT := Lib.hid (fun i hi => @unitM_getD n i hi)
      clear k4 hB4 hU hb4
      go_wp2_with fail
      go_loopw [10, 53] (fun _ i wr => ∃ k : Nat, k ≤ n ∧ i = .int .i64 k ∧ (List.range k).all (fun i => onlyL (imgL P sq n xs i) 1) = true ∧ Blk wr w.heap.size 26 #[.int .i64 P, .slice A n c] ∧ Below w.heap.size w wr ∧ Below w5.heap.size w5 wr) (fun _ i _ => n - (intOf i).toNat)
      case atStart => exact ⟨0, by omega, rfl, rfl, k5, hB5, Below.refl _ _⟩
      case round =>
       obtain ⟨k, hk, rfl, hal, hk3, hBr, hB5r⟩ := hrel
       have HAL := Lib.hid hal
       clear hal k5 hB5
       by_cases hlt : k < n
       · obtain ⟨gu, ou, rfl, hxk, A3, c3, hcu, hv0, hcc⟩ := (hUR.below hB5r).at_ hlt
         have hv := hv0
         rw [unitM_get, unitRow_len] at hv hcc
         rw [unitM_get, unitRow_len] at hcu
         clear hv0
         have HU := unitRow_nums hp n k
         have HT3 : Hid (timesL P sq n [invoL P xs, vecTo n (unitRow n k) n, revL P xs] = imgL P sq n xs k) := Lib.hid (timesL_three P sq n _ _ _ (by unfold invoL; rw [sgnL_len, hx.lenI]) (sgnL_nums (by omega) oddT hxs))
         cases ho : onlyL (imgL P sq n xs k) 1
         · have HO : Hid (onlyL (timesL P sq n [invoL P xs, vecTo n (unitRow n k) n, revL P xs]) 1 = false) := Lib.hid (by rw [HT3.out]; exact ho)
           have H4 := Lib.hid ho
           clear ho
           go_wp2
           refine wp_obs 14 [[],[],[],[1,2],[],[],[4,5],[],[],[7,8],[1,2,3,4,5,6,7,8,9],[0,1,2,3,4,5,6,7,8,9,10],[0,1,2,3,4,5,6,7,8,9,10,11],[0,1,2,3,4,5,6,7,8,9,10,11,12]] [VIs (.agg #[.int .i64 P, .slice A n c]), VIs (.agg #[.int .i64 P, .slice A n c]), VIs (.slice X (pw n) cx), VSl w (pw n) (invoL P xs), VIs (.agg #[.int .i64 P, .slice A n c]), VIs (.slice A3 n c3), VSl w (pw n) (vecTo n (unitRow n k) n), VIs (.agg #[.int .i64 P, .slice A n c]), VIs (.slice X (pw n) cx), VSl w (pw n) (revL P xs), VRow 3 [(invoL P xs), (vecTo n (unitRow n k) n), (revL P xs)], VSl w (pw n) (timesL P sq n [(invoL P xs), (vecTo n (unitRow n k) n), (revL P xs)]), VIs (.bool false), VIs (.bool true)] (fun w' => Blk w' w.heap.size 26 #[.int .i64 P, .slice A n c] ∧ Below w.heap.size w w' ∧ Below wr.heap.size wr w') (by kernel_rfl) (by kernel_rfl) (fun _ _ h hb => ⟨h.1.below hb h.1.lt, h.2.1.trans (hb.mono h.2.1.size), h.2.2.trans (hb.mono h.2.2.size)⟩) (⟨hk3.drew, hBr.drew, zG.drew⟩) (fun x => ?_)
           refine zS (fun w' hS hV K hK => ?_) ?_
           · obtain ⟨q0, q1⟩ := hS.1.two; go_simp; exact zO hK
           refine zS (fun w' hS hV K hK => ?_) ?_
           · obtain ⟨q0, q1⟩ := hS.1.two; go_simp; exact zO hK
           refine zS (fun w' hS hV K hK => ?_) ?_
           · obtain ⟨q0, q1⟩ := hS.1.two; go_simp; exact zO hK
           refine zS (fun w' hS hV K hK => ?_) ?_
           · have e1 := zQ hV 1; have e2 := zQ hV 2; obtain ⟨q0, q1⟩ := hS.1.two; go_simp; refine (involute_any P A n c _ (pw n) _ xs _ hp hp2 HPW64 (hx.below hS.2.1) hxs).mono ?_; rintro e w1 ⟨A2, c2, rfl, hM⟩; exact hK.out _ _ _ rfl rfl ⟨_, _, rfl, hM.after hS.2.1⟩ hM.b
           refine zS (fun w' hS hV K hK => ?_) ?_
           · obtain ⟨q0, q1⟩ := hS.1.two; go_simp; exact zO hK
           refine zS (fun w' hS hV K hK => ?_) ?_
           · obtain ⟨q0, q1⟩ := hS.1.two; go_simp; exact zO hK
           refine zS (fun w' hS hV K hK => ?_) ?_
           · have e4 := zQ hV 4; have e5 := zQ hV 5; obtain ⟨q0, q1⟩ := hS.1.two; go_simp; refine (vector_any P A n c _ _ (unitRow n k) _ (by omega) (hv.below hS.2.2)).mono ?_; rintro e w1 ⟨A2, c2, rfl, hM⟩; exact hK.out _ _ _ rfl rfl ⟨_, _, rfl, hM.after hS.2.1⟩ hM.b
           refine zS (fun w' hS hV K hK => ?_) ?_
           · obtain ⟨q0, q1⟩ := hS.1.two; go_simp; exact zO hK
           refine zS (fun w' hS hV K hK => ?_) ?_
           · obtain ⟨q0, q1⟩ := hS.1.two; go_simp; exact zO hK
           refine zS (fun w' hS hV K hK => ?_) ?_
           · have e7 := zQ hV 7; have e8 := zQ hV 8; obtain ⟨q0, q1⟩ := hS.1.two; go_simp; refine (reverse_any P A n c _ (pw n) _ xs _ hp hp2 HPW64 (hx.below hS.2.1) hxs).mono ?_; rintro e w1 ⟨A2, c2, rfl, hM⟩; exact hK.out _ _ _ rfl rfl ⟨_, _, rfl, hM.after hS.2.1⟩ hM.b
           refine zS (fun w' hS hV K hK => ?_) ?_
           · obtain ⟨A3, c3, e3, h3⟩ := hV 3 (by decide); obtain ⟨A6, c6, e6, h6⟩ := hV 6 (by decide); obtain ⟨A9, c9, e9, h9⟩ := hV 9 (by decide); obtain ⟨q0, q1⟩ := hS.1.two; go_simp; exact hK.out _ _ _ rfl rfl ⟨_, _, rfl, rdII_three (Blk.new _ _ _) (Rd.below (h3.rd) (zG.alloc (Nat.le_refl _) _)) (Rd.below (h6.rd) (zG.alloc (Nat.le_refl _) _)) (Rd.below (h9.rd) (zG.alloc (Nat.le_refl _) _)) (h3.2.cap) (h6.2.cap) (h9.2.cap)⟩ (zG.alloc (Nat.le_refl _) _)
           refine zS (fun w' hS hV K hK => ?_) ?_
           · have e0 := zQ hV 0; obtain ⟨A3, c3, e3, h3⟩ := hV 3 (by decide); obtain ⟨A6, c6, e6, h6⟩ := hV 6 (by decide); obtain ⟨A9, c9, e9, h9⟩ := hV 9 (by decide); obtain ⟨A10, c10, e10, h10⟩ := hV 10 (by decide); obtain ⟨q0, q1⟩ := hS.1.two; go_simp; refine (times_any P A n c sq _ 3 _ [(invoL P xs), (vecTo n (unitRow n k) n), (revL P xs)] _ hp hp2 hn (by omega) (ha.below hS.2.1) hs h10 (all_three ⟨(sgnL_nums (by omega) oddT hxs), Rd.lenI (h3.rd)⟩ ⟨(vecTo_nums (by omega) n (unitRow n k) HU n), Rd.lenI (h6.rd)⟩ ⟨(sgnL_nums (by omega) revT hxs), Rd.lenI (h9.rd)⟩)).mono ?_; rintro e w1 ⟨A2, c2, rfl, hM⟩; exact hK.out _ _ _ rfl rfl ⟨_, _, rfl, hM.after hS.2.1⟩ hM.b
           refine zS (fun w' hS hV K hK => ?_) ?_
           · obtain ⟨A11, c11, e11, h11⟩ := hV 11 (by decide); obtain ⟨q0, q1⟩ := hS.1.two; go_simp; refine (onlyGrade_b _ _ _ _ _ _ HPW64 h11.rd HO.out).mono ?_; rintro e w1 ⟨rfl, hb⟩; exact hK.out _ _ _ rfl rfl rfl hb
           refine zS (fun w' hS hV K hK => ?_) ?_
           · have e12 := zQ hV 12; obtain ⟨q0, q1⟩ := hS.1.two; go_simp; exact zO hK
           refine fun w' hS hV => ?_
           have hV := fun i hi => hV i (List.mem_range.1 hi)
           simp only [List.range, List.range.loop, zL, zM, zH, zI, VIs, VSl, VRow, VAny] at hV
           obtain ⟨e0, e1, e2, ⟨A3, c3, e3, h3⟩, e4, e5, ⟨A6, c6, e6, h6⟩, e7, e8, ⟨A9, c9, e9, h9⟩, ⟨A10, c10, e10, h10⟩, ⟨A11, c11, e11, h11⟩, e12, e13⟩ := hV
           simp only [e0, e1, e2, e3, e4, e5, e6, e7, e8, e9, e10, e11, e12, e13]
           clear e0 e1 e2 e3 e4 e5 e6 e7 e8 e9 e10 e11 e12 e13
           refine wpAny_done (by kernel_rfl) ?_ _
           go_wp2
           go_ret
           refine ⟨ret_bool ?_, hS.2.1⟩
           have : ((List.range n).all fun i => onlyL (imgL P sq n xs i) 1) = false := by
            rw [List.all_eq_false]
            exact ⟨k, by simpa using hlt, by rw [H4.out]; decide⟩
           unfold versB
           rw [this, Bool.and_false]
         · have HO : Hid (onlyL (timesL P sq n [invoL P xs, vecTo n (unitRow n k) n, revL P xs]) 1 = true) := Lib.hid (by rw [HT3.out]; exact ho)
           have H4 := Lib.hid ho
           clear ho
           go_wp2
           refine wp_obs 14 [[],[],[],[1,2],[],[],[4,5],[],[],[7,8],[1,2,3,4,5,6,7,8,9],[0,1,2,3,4,5,6,7,8,9,10],[0,1,2,3,4,5,6,7,8,9,10,11],[0,1,2,3,4,5,6,7,8,9,10,11,12]] [VIs (.agg #[.int .i64 P, .slice A n c]), VIs (.agg #[.int .i64 P, .slice A n c]), VIs (.slice X (pw n) cx), VSl w (pw n) (invoL P xs), VIs (.agg #[.int .i64 P, .slice A n c]), VIs (.slice A3 n c3), VSl w (pw n) (vecTo n (unitRow n k) n), VIs (.agg #[.int .i64 P, .slice A n c]), VIs (.slice X (pw n) cx), VSl w (pw n) (revL P xs), VRow 3 [(invoL P xs), (vecTo n (unitRow n k) n), (revL P xs)], VSl w (pw n) (timesL P sq n [(invoL P xs), (vecTo n (unitRow n k) n), (revL P xs)]), VIs (.bool true), VIs (.bool false)] (fun w' => Blk w' w.heap.size 26 #[.int .i64 P, .slice A n c] ∧ Below w.heap.size w w' ∧ Below wr.heap.size wr w') (by kernel_rfl) (by kernel_rfl) (fun _ _ h hb => ⟨h.1.below hb h.1.lt, h.2.1.trans (hb.mono h.2.1.size), h.2.2.trans (hb.mono h.2.2.size)⟩) (⟨hk3.drew, hBr.drew, zG.drew⟩) (fun x => ?_)
           refine zS (fun w' hS hV K hK => ?_) ?_
           · obtain ⟨q0, q1⟩ := hS.1.two; go_simp; exact zO hK
           refine zS (fun w' hS hV K hK => ?_) ?_
           · obtain ⟨q0, q1⟩ := hS.1.two; go_simp; exact zO hK
           refine zS (fun w' hS hV K hK => ?_) ?_
           · obtain ⟨q0, q1⟩ := hS.1.two; go_simp; exact zO hK
           refine zS (fun w' hS hV K hK => ?_) ?_
           · have e1 := zQ hV 1; have e2 := zQ hV 2; obtain ⟨q0, q1⟩ := hS.1.two; go_simp; refine (involute_any P A n c _ (pw n) _ xs _ hp hp2 HPW64 (hx.below hS.2.1) hxs).mono ?_; rintro e w1 ⟨A2, c2, rfl, hM⟩; exact hK.out _ _ _ rfl rfl ⟨_, _, rfl, hM.after hS.2.1⟩ hM.b
           refine zS (fun w' hS hV K hK => ?_) ?_
           · obtain ⟨q0, q1⟩ := hS.1.two; go_simp; exact zO hK
           refine zS (fun w' hS hV K hK => ?_) ?_
           · obtain ⟨q0, q1⟩ := hS.1.two; go_simp; exact zO hK
           refine zS (fun w' hS hV K hK => ?_) ?_
           · have e4 := zQ hV 4; have e5 := zQ hV 5; obtain ⟨q0, q1⟩ := hS.1.two; go_simp; refine (vector_any P A n c _ _ (unitRow n k) _ (by omega) (hv.below hS.2.2)).mono ?_; rintro e w1 ⟨A2, c2, rfl, hM⟩; exact hK.out _ _ _ rfl rfl ⟨_, _, rfl, hM.after hS.2.1⟩ hM.b
           refine zS (fun w' hS hV K hK => ?_) ?_
           · obtain ⟨q0, q1⟩ := hS.1.two; go_simp; exact zO hK
           refine zS (fun w' hS hV K hK => ?_) ?_
           · obtain ⟨q0, q1⟩ := hS.1.two; go_simp; exact zO hK
           refine zS (fun w' hS hV K hK => ?_) ?_
           · have e7 := zQ hV 7; have e8 := zQ hV 8; obtain ⟨q0, q1⟩ := hS.1.two; go_simp; refine (reverse_any P A n c _ (pw n) _ xs _ hp hp2 HPW64 (hx.below hS.2.1) hxs).mono ?_; rintro e w1 ⟨A2, c2, rfl, hM⟩; exact hK.out _ _ _ rfl rfl ⟨_, _, rfl, hM.after hS.2.1⟩ hM.b
           refine zS (fun w' hS hV K hK => ?_) ?_
           · obtain ⟨A3, c3, e3, h3⟩ := hV 3 (by decide); obtain ⟨A6, c6, e6, h6⟩ := hV 6 (by decide); obtain ⟨A9, c9, e9, h9⟩ := hV 9 (by decide); obtain ⟨q0, q1⟩ := hS.1.two; go_simp; exact hK.out _ _ _ rfl rfl ⟨_, _, rfl, rdII_three (Blk.new _ _ _) (Rd.below (h3.rd) (zG.alloc (Nat.le_refl _) _)) (Rd.below (h6.rd) (zG.alloc (Nat.le_refl _) _)) (Rd.below (h9.rd) (zG.alloc (Nat.le_refl _) _)) (h3.2.cap) (h6.2.cap) (h9.2.cap)⟩ (zG.alloc (Nat.le_refl _) _)
           refine zS (fun w' hS hV K hK => ?_) ?_
           · have e0 := zQ hV 0; obtain ⟨A3, c3, e3, h3⟩ := hV 3 (by decide); obtain ⟨A6, c6, e6, h6⟩ := hV 6 (by decide); obtain ⟨A9, c9, e9, h9⟩ := hV 9 (by decide); obtain ⟨A10, c10, e10, h10⟩ := hV 10 (by decide); obtain ⟨q0, q1⟩ := hS.1.two; go_simp; refine (times_any P A n c sq _ 3 _ [(invoL P xs), (vecTo n (unitRow n k) n), (revL P xs)] _ hp hp2 hn (by omega) (ha.below hS.2.1) hs h10 (all_three ⟨(sgnL_nums (by omega) oddT hxs), Rd.lenI (h3.rd)⟩ ⟨(vecTo_nums (by omega) n (unitRow n k) HU n), Rd.lenI (h6.rd)⟩ ⟨(sgnL_nums (by omega) revT hxs), Rd.lenI (h9.rd)⟩)).mono ?_; rintro e w1 ⟨A2, c2, rfl, hM⟩; exact hK.out _ _ _ rfl rfl ⟨_, _, rfl, hM.after hS.2.1⟩ hM.b
           refine zS (fun w' hS hV K hK => ?_) ?_
           · obtain ⟨A11, c11, e11, h11⟩ := hV 11 (by decide); obtain ⟨q0, q1⟩ := hS.1.two; go_simp; refine (onlyGrade_b _ _ _ _ _ _ HPW64 h11.rd HO.out).mono ?_; rintro e w1 ⟨rfl, hb⟩; exact hK.out _ _ _ rfl rfl rfl hb
           refine zS (fun w' hS hV K hK => ?_) ?_
           · have e12 := zQ hV 12; obtain ⟨q0, q1⟩ := hS.1.two; go_simp; exact zO hK
           refine fun w' hS hV => ?_
           have hV := fun i hi => hV i (List.mem_range.1 hi)
           simp only [List.range, List.range.loop, zL, zM, zH, zI, VIs, VSl, VRow, VAny] at hV
           obtain ⟨e0, e1, e2, ⟨A3, c3, e3, h3⟩, e4, e5, ⟨A6, c6, e6, h6⟩, e7, e8, ⟨A9, c9, e9, h9⟩, ⟨A10, c10, e10, h10⟩, ⟨A11, c11, e11, h11⟩, e12, e13⟩ := hV
           simp only [e0, e1, e2, e3, e4, e5, e6, e7, e8, e9, e10, e11, e12, e13]
           clear e0 e1 e2 e3 e4 e5 e6 e7 e8 e9 e10 e11 e12 e13
           refine wpAny_done (by kernel_rfl) ?_ _
           go_wp2
           go_roundw
           case rel => exact ⟨k + 1, by omega, by go_num, by rw [List.range_succ, List.all_append, HAL.out]; simp [H4.out], hS.1, hS.2.1, hB5r.trans (hS.2.2.mono hB5r.size)⟩
           case measure => simp [intOf]; omega
       · obtain rfl : k = n := by omega
         go_wp2
         go_ret
         exact ⟨ret_bool (by unfold versB; rw [H1.out, H2.out, H3.out, HAL.out]; rfl), hBr⟩
set_option maxHeartbeats 3200000 in
set_option maxRecDepth 8000 in
theorem isVersor_E (P : Int) (A : Option Addr) (n c : Nat) (sq : List Int) (X : Option Addr) (cx : Nat) (xs : List Int) (w : World) (hp : 2 ≤ P) (hp2 : P ≤ 13) (hn : n ≤ 6) (ha : Rd w A n (ints sq)) (hs : NumsL P sq) (hx : Rd w X (pw n) (ints xs)) (hxs : NumsL P xs) (hcx : pw n ≤ cx) (h1 : ¬ nrmL P sq xs = 0) (h2 : onlyL (mulL P sq xs (revL P xs)) 0 = true) (h3 : mixB (gradesL xs) = false) (h4 : ¬ cntO (gradesL xs) = 0) :
    Calls Tryz.prog 98 #[.agg #[.int .i64 P, .slice A n c], .slice X (pw n) cx] w fun e w' => e = .returned (.bool (versB P sq n xs)) ∧ Below w.heap.size w w' := by
 have hB0 : Below w.heap.size w (w.alloc (.cells #[.int .i64 P, .slice A n c] 26)) := zG.alloc (Nat.le_refl _) _
 have k0 : Blk (w.alloc (.cells #[.int .i64 P, .slice A n c] 26)) w.heap.size 26 #[.int .i64 P, .slice A n c] := Blk.new _ _ _
 have HPW : pw n ≤ 65536 := Nat.le_trans (pw_le (show n ≤ 10 by omega)) (by decide)
 have HPW64 : pw n ≤ 64 := pw_le hn
 have hl7 := gradesL_len xs
 have hrg := gradesL_range xs
 have HT2 : Hid (timesL P sq n [xs, revL P xs] = mulL P sq xs (revL P xs)) := Lib.hid (timesL_two P sq n _ _ hx.lenI hxs)
 obtain ⟨gs, hgs⟩ : ∃ gs, gs = gradesL xs := ⟨_, rfl⟩
 have HGS := Lib.hid hgs
 rw [← hgs] at hl7 hrg
 have HMC : Hid (mixB gs = (((cntO gs : Nat) : Int) != 0 && ((cntO gs : Nat) : Int) != ((gs.length : Nat) : Int))) := Lib.hid (mix_cnt fun g hg => (hrg g hg).1)
 clear hgs
 have b1 : (nrmL P sq xs == 0) = false := by simp [h1]
 have H1 := Lib.hid b1
 have H2 := Lib.hid h2
 have HO : Hid (onlyL (timesL P sq n [xs, revL P xs]) 0 = true) := Lib.hid (by rw [HT2.out]; exact h2)
 have H3 := Lib.hid h3
 have c1 : (((cntO gs : Nat) : Int) != 0) = true := by rw [HGS.out]; simp [h4]
 have c2 : (((cntO gs : Nat) : Int) != ((gs.length : Nat) : Int)) = false := by
  have := HMC.out
  rw [HGS.out, h3, ← HGS.out, c1, Bool.true_and] at this
  exact this.symm
 clear h4
 clear h1 h2 h3
 · skip
   go_enter Tryz.func98, Tryz.ntmps98
   go_wp2_with fail
   refine (gradesOf_any X (pw n) cx xs _ HPW64 (hx.below hB0)).mono ?_
   rintro e w1 ⟨A', c', rfl, hM⟩
   have hB1 := hB0.trans (hM.b.mono (by simp))
   have k1 := k0.below hM.b k0.lt
   rw [← HGS.out] at hM ⊢
   obtain ⟨l, hl⟩ : ∃ l, l = gs.length := ⟨_, rfl⟩
   rw [← hl] at hM hl7 ⊢
   have HL := Lib.hid hl
   clear hl k0 hB0
   go_wp2_with fail
   go_loop [5, 8, 15] (fun o _ i => ∃ k : Nat, k ≤ l ∧ i = .int .i64 k ∧ o = .int .i64 ((cntO (gs.take k) : Nat) : Int)) (fun _ _ i => l - (intOf i).toNat)
   case atStart => exact ⟨0, by omega, rfl, rfl⟩
   case round =>
    obtain ⟨k, hk, rfl, rfl⟩ := hrel
    by_cases hlt : k < l
    · obtain ⟨g, o, rfl, hxk, hcx'⟩ := hM.rd.int hlt
      obtain ⟨r1, r2⟩ := hrg _ (List.getElem_mem hxk)
      have HC := Lib.hid (cntO_take hxk r1)
      have hcl := cntO_le (gs.take k)
      have hcl2 : (gs.take k).length ≤ k := List.length_take_le _ _
      obtain ⟨q, hq⟩ : ∃ q, q = cntO (gs.take k) := ⟨_, rfl⟩
      rw [← hq] at hcl ⊢
      have HQ := Lib.hid hq
      clear hq
      go_wp2
      go_round
      case rel => exact ⟨k + 1, by omega, by go_num, by rw [HC.out, HQ.out]⟩
      case measure => simp [intOf]; omega
    · obtain rfl : k = l := by omega
      have e0 : gs.take k = gs := List.take_of_length_le (by rw [← HL.out]; omega)
      rw [e0]
      clear e0
      have hw' : w1 = w1 := rfl
      have k2 := k1
      have hB2 := hB1
      clear k1 hB1
      try rw [← HL.out] at c2
      go_wp2
      refine wp_obs 25 [[],[],[0,1],[0,1,2],[0,1,2,3],[0,1,2,3,4],[0,1,2,3,4],[0,1,2,3,4],[0,1,2,3,4],[0,1,2,3,4,7,8],[0,1,2,3,4,6,7,8,9],[0,1,2,3,4,5,6,7,8,9,10],[0,1,2,3,4,5,6,7,8,9,10,11],[0,1,2,3,4,5,6,7,8,9,10,11,12],[0,1,2,3,4,5,6,7,8,9,10,11,12,13],[0,1,2,3,4,5,6,7,8,9,10,11,12,13,14],[0,1,2,3,4,5,6,7,8,9,10,11,12,13,14,15],[0,1,2,3,4,5,6,7,8,9,10,11,12,13,14,15,16],[0,1,2,3,4,5,6,7,8,9,10,11,12,13,14,15,16,17],[0,1,2,3,4,5,6,7,8,9,10,11,12,13,14,15,16,17,18],[0,1,2,3,4,5,6,7,8,9,10,11,12,13,14,15,16,17,18],[0,1,2,3,4,5,6,7,8,9,10,11,12,13,14,15,16,17,18,20],[0,1,2,3,4,5,6,7,8,9,10,11,12,13,14,15,16,17,18,19,20,21],[0,1,2,3,4,5,6,7,8,9,10,11,12,13,14,15,16,17,18,19,20,21,22],[0,1,2,3,4,5,6,7,8,9,10,11,12,13,14,15,16,17,18,19,20,21,22,23]] [VIs (.agg #[.int .i64 P, .slice A n c]), VIs (.slice X (pw n) cx), VIs (.int .i64 (nrmL P sq xs)), VIs (.bool false), VIs (.bool false), VIs (.agg #[.int .i64 P, .slice A n c]), VIs (.slice X (pw n) cx), VIs (.agg #[.int .i64 P, .slice A n c]), VIs (.slice X (pw n) cx), VSl w (pw n) (revL P xs), VRow 2 [xs, (revL P xs)], VSl w (pw n) (timesL P sq n [xs, (revL P xs)]), VIs (.bool true), VIs (.bool false), VIs (.bool false), VIs (.bool false), VIs (.int .i64 ((cntO gs : Nat) : Int)), VIs (.bool true), VIs (.bool true), VIs (.int .i64 ((cntO gs : Nat) : Int)), VIs (.slice A' k c'), VIs (.int .i64 ((k : Nat) : Int)), VIs (.bool false), VIs (.bool false), VIs (.bool false)] (fun w' => Blk w' w.heap.size 26 #[.int .i64 P, .slice A n c] ∧ Below w.heap.size w w') (by kernel_rfl) (by kernel_rfl) (fun _ _ h hb => ⟨h.1.below hb h.1.lt, h.2.trans (hb.mono h.2.size)⟩) (⟨k2.drew, hB2.drew⟩) (fun x => ?_)
      refine zS (fun w' hS hV K hK => ?_) ?_
      · obtain ⟨q0, q1⟩ := hS.1.two; go_simp; exact zO hK
      refine zS (fun w' hS hV K hK => ?_) ?_
      · obtain ⟨q0, q1⟩ := hS.1.two; go_simp; exact zO hK
      refine zS (fun w' hS hV K hK => ?_) ?_
      · have e0 := zQ hV 0; have e1 := zQ hV 1; obtain ⟨q0, q1⟩ := hS.1.two; go_simp; refine (spinorNorm_any P A n c sq _ _ xs _ hp hp2 hn (ha.below hS.2) hs (hx.below hS.2) hxs hcx).mono ?_; rintro e w1 ⟨rfl, hb⟩; exact hK.out _ _ _ rfl rfl rfl hb
      refine zS (fun w' hS hV K hK => ?_) ?_
      · have e2 := zQ hV 2; obtain ⟨q0, q1⟩ := hS.1.two; go_simp; exact zO hK
      refine zS (fun w' hS hV K hK => ?_) ?_
      · have e3 := zQ hV 3; obtain ⟨q0, q1⟩ := hS.1.two; go_simp; exact zO hK
      refine zS (fun w' hS hV K hK => ?_) ?_
      · have e4 := zQ hV 4; obtain ⟨q0, q1⟩ := hS.1.two; go_simp; exact zO hK
      refine zS (fun w' hS hV K hK => ?_) ?_
      · have e4 := zQ hV 4; obtain ⟨q0, q1⟩ := hS.1.two; go_simp; exact zO hK
      refine zS (fun w' hS hV K hK => ?_) ?_
      · have e4 := zQ hV 4; obtain ⟨q0, q1⟩ := hS.1.two; go_simp; exact zO hK
      refine zS (fun w' hS hV K hK => ?_) ?_
      · have e4 := zQ hV 4; obtain ⟨q0, q1⟩ := hS.1.two; go_simp; exact zO hK
      refine zS (fun w' hS hV K hK => ?_) ?_
      · have e4 := zQ hV 4; have e7 := zQ hV 7; have e8 := zQ hV 8; obtain ⟨q0, q1⟩ := hS.1.two; go_simp; refine (reverse_any P A n c _ (pw n) _ xs _ hp hp2 HPW64 (hx.below hS.2) hxs).mono ?_; rintro e w1 ⟨A2, c2, rfl, hM⟩; exact hK.out _ _ _ rfl rfl ⟨_, _, rfl, hM.after hS.2⟩ hM.b
      refine zS (fun w' hS hV K hK => ?_) ?_
      · have e4 := zQ hV 4; have e6 := zQ hV 6; obtain ⟨A9, c9, e9, h9⟩ := hV 9 (by decide); obtain ⟨q0, q1⟩ := hS.1.two; go_simp; exact hK.out _ _ _ rfl rfl ⟨_, _, rfl, rdII_two (Blk.new _ _ _) (Rd.below ((hx.below hS.2)) (zG.alloc (Nat.le_refl _) _)) (Rd.below (h9.rd) (zG.alloc (Nat.le_refl _) _)) (hcx) (h9.2.cap)⟩ (zG.alloc (Nat.le_refl _) _)
      refine zS (fun w' hS hV K hK => ?_) ?_
      · have e4 := zQ hV 4; have e5 := zQ hV 5; obtain ⟨A9, c9, e9, h9⟩ := hV 9 (by decide); obtain ⟨A10, c10, e10, h10⟩ := hV 10 (by decide); obtain ⟨q0, q1⟩ := hS.1.two; go_simp; refine (times_any P A n c sq _ 2 _ [xs, (revL P xs)] _ hp hp2 hn (by omega) (ha.below hS.2) hs h10 (all_two ⟨hxs, Rd.lenI ((hx.below hS.2))⟩ ⟨(sgnL_nums (by omega) revT hxs), Rd.lenI (h9.rd)⟩)).mono ?_; rintro e w1 ⟨A2, c2, rfl, hM⟩; exact hK.out _ _ _ rfl rfl ⟨_, _, rfl, hM.after hS.2⟩ hM.b
      refine zS (fun w' hS hV K hK => ?_) ?_
      · have e4 := zQ hV 4; obtain ⟨A11, c11, e11, h11⟩ := hV 11 (by decide); obtain ⟨q0, q1⟩ := hS.1.two; go_simp; refine (onlyGrade_b _ _ _ _ _ _ HPW64 h11.rd HO.out).mono ?_; rintro e w1 ⟨rfl, hb⟩; exact hK.out _ _ _ rfl rfl rfl hb
      refine zS (fun w' hS hV K hK => ?_) ?_
      · have e4 := zQ hV 4; have e12 := zQ hV 12; obtain ⟨q0, q1⟩ := hS.1.two; go_simp; exact zO hK
      refine zS (fun w' hS hV K hK => ?_) ?_
      · have e4 := zQ hV 4; have e13 := zQ hV 13; obtain ⟨q0, q1⟩ := hS.1.two; go_simp; exact zO hK
      refine zS (fun w' hS hV K hK => ?_) ?_
      · have e14 := zQ hV 14; obtain ⟨q0, q1⟩ := hS.1.two; go_simp; exact zO hK
      refine zS (fun w' hS hV K hK => ?_) ?_
      · have e15 := zQ hV 15; obtain ⟨q0, q1⟩ := hS.1.two; go_simp; exact zO hK
      refine zS (fun w' hS hV K hK => ?_) ?_
      · have e15 := zQ hV 15; have e16 := zQ hV 16; obtain ⟨q0, q1⟩ := hS.1.two; go_simp; exact zO hK
      refine zS (fun w' hS hV K hK => ?_) ?_
      · have e15 := zQ hV 15; have e17 := zQ hV 17; obtain ⟨q0, q1⟩ := hS.1.two; go_simp; exact zO hK
      refine zS (fun w' hS hV K hK => ?_) ?_
      · have e18 := zQ hV 18; obtain ⟨q0, q1⟩ := hS.1.two; go_simp; exact zO hK
      refine zS (fun w' hS hV K hK => ?_) ?_
      · have e18 := zQ hV 18; obtain ⟨q0, q1⟩ := hS.1.two; go_simp; exact zO hK
      refine zS (fun w' hS hV K hK => ?_) ?_
      · have e18 := zQ hV 18; have e20 := zQ hV 20; obtain ⟨q0, q1⟩ := hS.1.two; go_simp; exact zO hK
      refine zS (fun w' hS hV K hK => ?_) ?_
      · have e18 := zQ hV 18; have e19 := zQ hV 19; have e21 := zQ hV 21; obtain ⟨q0, q1⟩ := hS.1.two; go_simp; exact zO hK
      refine zS (fun w' hS hV K hK => ?_) ?_
      · have e15 := zQ hV 15; have e18 := zQ hV 18; have e22 := zQ hV 22; obtain ⟨q0, q1⟩ := hS.1.two; go_simp; exact zO hK
      refine zS (fun w' hS hV K hK => ?_) ?_
      · have e15 := zQ hV 15; have e23 := zQ hV 23; obtain ⟨q0, q1⟩ := hS.1.two; go_simp; exact zO hK
      refine fun w' hS hV => ?_
      have hV := fun i hi => hV i (List.mem_range.1 hi)
      simp only [List.range, List.range.loop, zL, zM, zH, zI, VIs, VSl, VRow, VAny] at hV
      obtain ⟨e0, e1, e2, e3, e4, e5, e6, e7, e8, ⟨A9, c9, e9, h9⟩, ⟨A10, c10, e10, h10⟩, ⟨A11, c11, e11, h11⟩, e12, e13, e14, e15, e16, e17, e18, e19, e20, e21, e22, e23, e24⟩ := hV
      simp only [e0, e1, e2, e3, e4, e5, e6, e7, e8, e9, e10, e11, e12, e13, e14, e15, e16, e17, e18, e19, e20, e21, e22, e23, e24]
      clear e0 e1 e2 e3 e4 e5 e6 e7 e8 e9 e10 e11 e12 e13 e14 e15 e16 e17 e18 e19 e20 e21 e22 e23 e24
      refine wpAny_done (by kernel_rfl) ?_ _
      have hB3 := hS.2
      have k3 := hS.1
      clear hS k2 hB2
      obtain ⟨q0, q1⟩ := k3.two
      go_wp2_with fail
      refine (dim_any _ _ _ _ _).mono ?_
      rintro e w4 ⟨rfl, hb4⟩
      have hB4 := hB3.trans (hb4.mono hB3.size)
      have k4 := k3.below hb4 k3.lt
      clear q0 q1 k3 hB3
      go_wp2_with fail
      refine (unit_any n _ (by omega)).mono ?_
      rintro e w5 ⟨U, cu, rfl, hU⟩
      have hB5 := hB4.trans (hU.b.mono hB4.size)
      have k5 := k4.below hU.b k4.lt
      have hUR := hU.rd
      have HUT := Lib.hid (fun i hi => @unitM_getD n i hi)
      clear k4 hB4 hU hb4
      go_wp2_with fail
      go_loopw [10, 53] (fun _ i wr => ∃ k : Nat, k ≤ n ∧ i = .int .i64 k ∧ (List.range k).all (fun i => onlyL (imgL P sq n xs i) 1) = true ∧ Blk wr w.heap.size 26 #[.int .i64 P, .slice A n c] ∧ Below w.heap.size w wr ∧ Below w5.heap.size w5 wr) (fun _ i _ => n - (intOf i).toNat)
      case atStart => exact ⟨0, by omega, rfl, rfl, k5, hB5, Below.refl _ _⟩
      case round =>
       obtain ⟨k, hk, rfl, hal, hk3, hBr, hB5r⟩ := hrel
       have HAL := Lib.hid hal
       clear hal k5 hB5
       by_cases hlt : k < n
       · obtain ⟨gu, ou, rfl, hxk, A3, c3, hcu, hv0, hcc⟩ := (hUR.below hB5r).at_ hlt
         have hv := hv0
         rw [unitM_get, unitRow_len] at hv hcc
         rw [unitM_get, unitRow_len] at hcu
         clear hv0
         have HU := unitRow_nums hp n k
         have HT3 : Hid (timesL P sq n [invoL P xs, vecTo n (unitRow n k) n, revL P xs] = imgL P sq n xs k) := Lib.hid (timesL_three P sq n _ _ _ (by unfold invoL; rw [sgnL_len, hx.lenI]) (sgnL_nums (by omega) oddT hxs))
         cases ho : onlyL (imgL P sq n xs k) 1
         · have HO : Hid (onlyL (timesL P sq n [invoL P xs, vecTo n (unitRow n k) n, revL P xs]) 1 = false) := Lib.hid (by rw [HT3.out]; exact ho)
           have H4 := Lib.hid ho
           clear ho
           go_wp2
           refine wp_obs 14 [[],[],[],[1,2],[],[],[4,5],[],[],[7,8],[1,2,3,4,5,6,7,8,9],[0,1,2,3,4,5,6,7,8,9,10],[0,1,2,3,4,5,6,7,8,9,10,11],[0,1,2,3,4,5,6,7,8,9,10,11,12]] [VIs (.agg #[.int .i64 P, .slice A n c]), VIs (.agg #[.int .i64 P, .slice A n c]), VIs (.slice X (pw n) cx), VSl w (pw n) (invoL P xs), VIs (.agg #[.int .i64 P, .slice A n c]), VIs (.slice A3 n c3), VSl w (pw n) (vecTo n (unitRow n k) n), VIs (.agg #[.int .i64 P, .slice A n c]), VIs (.slice X (pw n) cx), VSl w (pw n) (revL P xs), VRow 3 [(invoL P xs), (vecTo n (unitRow n k) n), (revL P xs)], VSl w (pw n) (timesL P sq n [(invoL P xs), (vecTo n (unitRow n k) n), (revL P xs)]), VIs (.bool false), VIs (.bool true)] (fun w' => Blk w' w.heap.size 26 #[.int .i64 P, .slice A n c] ∧ Below w.heap.size w w' ∧ Below wr.heap.size wr w') (by kernel_rfl) (by kernel_rfl) (fun _ _ h hb => ⟨h.1.below hb h.1.lt, h.2.1.trans (hb.mono h.2.1.size), h.2.2.trans (hb.mono h.2.2.size)⟩) (⟨hk3.drew, hBr.drew, zG.drew⟩) (fun x => ?_)
           refine zS (fun w' hS hV K hK => ?_) ?_
           · obtain ⟨q0, q1⟩ := hS.1.two; go_simp; exact zO hK
           refine zS (fun w' hS hV K hK => ?_) ?_
           · obtain ⟨q0, q1⟩ := hS.1.two; go_simp; exact zO hK
           refine zS (fun w' hS hV K hK => ?_) ?_
           · obtain ⟨q0, q1⟩ := hS.1.two; go_simp; exact zO hK
           refine zS (fun w' hS hV K hK => ?_) ?_
           · have e1 := zQ hV 1; have e2 := zQ hV 2; obtain ⟨q0, q1⟩ := hS.1.two; go_simp; refine (involute_any P A n c _ (pw n) _ xs _ hp hp2 HPW64 (hx.below hS.2.1) hxs).mono ?_; rintro e w1 ⟨A2, c2, rfl, hM⟩; exact hK.out _ _ _ rfl rfl ⟨_, _, rfl, hM.after hS.2.1⟩ hM.b
           refine zS (fun w' hS hV K hK => ?_) ?_
           · obtain ⟨q0, q1⟩ := hS.1.two; go_simp; exact zO hK
           refine zS (fun w' hS hV K hK => ?_) ?_
           · obtain ⟨q0, q1⟩ := hS.1.two; go_simp; exact zO hK
           refine zS (fun w' hS hV K hK => ?_) ?_
           · have e4 := zQ hV 4; have e5 := zQ hV 5; obtain ⟨q0, q1⟩ := hS.1.two; go_simp; refine (vector_any P A n c _ _ (unitRow n k) _ (by omega) (hv.below hS.2.2)).mono ?_; rintro e w1 ⟨A2, c2, rfl, hM⟩; exact hK.out _ _ _ rfl rfl ⟨_, _, rfl, hM.after hS.2.1⟩ hM.b
           refine zS (fun w' hS hV K hK => ?_) ?_
           · obtain ⟨q0, q1⟩ := hS.1.two; go_simp; exact zO hK
           refine zS (fun w' hS hV K hK => ?_) ?_
           · obtain ⟨q0, q1⟩ := hS.1.two; go_simp; exact zO hK
           refine zS (fun w' hS hV K hK => ?_) ?_
           · have e7 := zQ hV 7; have e8 := zQ hV 8; obtain ⟨q0, q1⟩ := hS.1.two; go_simp; refine (reverse_any P A n c _ (pw n) _ xs _ hp hp2 HPW64 (hx.below hS.2.1) hxs).mono ?_; rintro e w1 ⟨A2, c2, rfl, hM⟩; exact hK.out _ _ _ rfl rfl ⟨_, _, rfl, hM.after hS.2.1⟩ hM.b
           refine zS (fun w' hS hV K hK => ?_) ?_
           · obtain ⟨A3, c3, e3, h3⟩ := hV 3 (by decide); obtain ⟨A6, c6, e6, h6⟩ := hV 6 (by decide); obtain ⟨A9, c9, e9, h9⟩ := hV 9 (by decide); obtain ⟨q0, q1⟩ := hS.1.two; go_simp; exact hK.out _ _ _ rfl rfl ⟨_, _, rfl, rdII_three (Blk.new _ _ _) (Rd.below (h3.rd) (zG.alloc (Nat.le_refl _) _)) (Rd.below (h6.rd) (zG.alloc (Nat.le_refl _) _)) (Rd.below (h9.rd) (zG.alloc (Nat.le_refl _) _)) (h3.2.cap) (h6.2.cap) (h9.2.cap)⟩ (zG.alloc (Nat.le_refl _) _)
           refine zS (fun w' hS hV K hK => ?_) ?_
           · have e0 := zQ hV 0; obtain ⟨A3, c3, e3, h3⟩ := hV 3 (by decide); obtain ⟨A6, c6, e6, h6⟩ := hV 6 (by decide); obtain ⟨A9, c9, e9, h9⟩ := hV 9 (by decide); obtain ⟨A10, c10, e10, h10⟩ := hV 10 (by decide); obtain ⟨q0, q1⟩ := hS.1.two; go_simp; refine (times_any P A n c sq _ 3 _ [(invoL P xs), (vecTo n (unitRow n k) n), (revL P xs)] _ hp hp2 hn (by omega) (ha.below hS.2.1) hs h10 (all_three ⟨(sgnL_nums (by omega) oddT hxs), Rd.lenI (h3.rd)⟩ ⟨(vecTo_nums (by omega) n (unitRow n k) HU n), Rd.lenI (h6.rd)⟩ ⟨(sgnL_nums (by omega) revT hxs), Rd.lenI (h9.rd)⟩)).mono ?_; rintro e w1 ⟨A2, c2, rfl, hM⟩; exact hK.out _ _ _ rfl rfl ⟨_, _, rfl, hM.after hS.2.1⟩ hM.b
           refine zS (fun w' hS hV K hK => ?_) ?_
           · obtain ⟨A11, c11, e11, h11⟩ := hV 11 (by decide); obtain ⟨q0, q1⟩ := hS.1.two; go_simp; refine (onlyGrade_b _ _ _ _ _ _ HPW64 h11.rd HO.out).mono ?_; rintro e w1 ⟨rfl, hb⟩; exact hK.out _ _ _ rfl rfl rfl hb
           refine zS (fun w' hS hV K hK => ?_) ?_
           · have e12 := zQ hV 12; obtain ⟨q0, q1⟩ := hS.1.two; go_simp; exact zO hK
           refine fun w' hS hV => ?_
           have hV := fun i hi => hV i (List.mem_range.1 hi)
           simp only [List.range, List.range.loop, zL, zM, zH, zI, VIs, VSl, VRow, VAny] at hV
           obtain ⟨e0, e1, e2, ⟨A3, c3, e3, h3⟩, e4, e5, ⟨A6, c6, e6, h6⟩, e7, e8, ⟨A9, c9, e9, h9⟩, ⟨A10, c10, e10, h10⟩, ⟨A11, c11, e11, h11⟩, e12, e13⟩ := hV
           simp only [e0, e1, e2, e3, e4, e5, e6, e7, e8, e9, e10, e11, e12, e13]
           clear e0 e1 e2 e3 e4 e5 e6 e7 e8 e9 e10 e11 e12 e13
           refine wpAny_done (by kernel_rfl) ?_ _
           go_wp2
           go_ret
           refine ⟨ret_bool ?_, hS.2.1⟩
           have : ((List.range n).all fun i => onlyL (imgL P sq n xs i) 1) = false := by
            rw [List.all_eq_false]
            exact ⟨k, by simpa using hlt, by rw [H4.out]; decide⟩
           unfold versB
           rw [this, Bool.and_false]
         · have HO : Hid (onlyL (timesL P sq n [invoL P xs, vecTo n (unitRow n k) n, revL P xs]) 1 = true) := Lib.hid (by rw [HT3.out]; exact ho)
           have H4 := Lib.hid ho
           clear ho
           go_wp2
           refine wp_obs 14 [[],[],[],[1,2],[],[],[4,5],[],[],[7,8],[1,2,3,4,5,6,7,8,9],[0,1,2,3,4,5,6,7,8,9,10],[0,1,2,3,4,5,6,7,8,9,10,11],[0,1,2,3,4,5,6,7,8,9,10,11,12]] [VIs (.agg #[.int .i64 P, .slice A n c]), VIs (.agg #[.int .i64 P, .slice A n c]), VIs (.slice X (pw n) cx), VSl w (pw n) (invoL P xs), VIs (.agg #[.int .i64 P, .slice A n c]), VIs (.slice A3 n c3), VSl w (pw n) (vecTo n (unitRow n k) n), VIs (.agg #[.int .i64 P, .slice A n c]), VIs (.slice X (pw n) cx), VSl w (pw n) (revL P xs), VRow 3 [(invoL P xs), (vecTo n (unitRow n k) n), (revL P xs)], VSl w (pw n) (timesL P sq n [(invoL P xs), (vecTo n (unitRow n k) n), (revL P xs)]), VIs (.bool true), VIs (.bool false)] (fun w' => Blk w' w.heap.size 26 #[.int .i64 P, .slice A n c] ∧ Below w.heap.size w w' ∧ Below wr.heap.size wr w') (by kernel_rfl) (by kernel_rfl) (fun _ _ h hb => ⟨h.1.below hb h.1.lt, h.2.1.trans (hb.mono h.2.1.size), h.2.2.trans (hb.mono h.2.2.size)⟩) (⟨hk3.drew, hBr.drew, zG.drew⟩) (fun x => ?_)
           refine zS (fun w' hS hV K hK => ?_) ?_
           · obtain ⟨q0, q1⟩ := hS.1.two; go_simp; exact zO hK
           refine zS (fun w' hS hV K hK => ?_) ?_
           · obtain ⟨q0, q1⟩ := hS.1.two; go_simp; exact zO hK
           refine zS (fun w' hS hV K hK => ?_) ?_
           · obtain ⟨q0, q1⟩ := hS.1.two; go_simp; exact zO hK
           refine zS (fun w' hS hV K hK => ?_) ?_
           · have e1 := zQ hV 1; have e2 := zQ hV 2; obtain ⟨q0, q1⟩ := hS.1.two; go_simp; refine (involute_any P A n c _ (pw n) _ xs _ hp hp2 HPW64 (hx.below hS.2.1) hxs).mono ?_; rintro e w1 ⟨A2, c2, rfl, hM⟩; exact hK.out _ _ _ rfl rfl ⟨_, _, rfl, hM.after hS.2.1⟩ hM.b
           refine zS (fun w' hS hV K hK => ?_) ?_
           · obtain ⟨q0, q1⟩ := hS.1.two; go_simp; exact zO hK
           refine zS (fun w' hS hV K hK => ?_) ?_
           · obtain ⟨q0, q1⟩ := hS.1.two; go_simp; exact zO hK
           refine zS (fun w' hS hV K hK => ?_) ?_
           · have e4 := zQ hV 4; have e5 := zQ hV 5; obtain ⟨q0, q1⟩ := hS.1.two; go_simp; refine (vector_any P A n c _ _ (unitRow n k) _ (by omega) (hv.below hS.2.2)).mono ?_; rintro e w1 ⟨A2, c2, rfl, hM⟩; exact hK.out _ _ _ rfl rfl ⟨_, _, rfl, hM.after hS.2.1⟩ hM.b
           refine zS (fun w' hS hV K hK => ?_) ?_
           · obtain ⟨q0, q1⟩ := hS.1.two; go_simp; exact zO hK
           refine zS (fun w' hS hV K hK => ?_) ?_
           · obtain ⟨q0, q1⟩ := hS.1.two; go_simp; exact zO hK
           refine zS (fun w' hS hV K hK => ?_) ?_
           · have e7 := zQ hV 7; have e8 := zQ hV 8; obtain ⟨q0, q1⟩ := hS.1.two; go_simp; refine (reverse_any P A n c _ (pw n) _ xs _ hp hp2 HPW64 (hx.below hS.2.1) hxs).mono ?_; rintro e w1 ⟨A2, c2, rfl, hM⟩; exact hK.out _ _ _ rfl rfl ⟨_, _, rfl, hM.after hS.2.1⟩ hM.b
           refine zS (fun w' hS hV K hK => ?_) ?_
           · obtain ⟨A3, c3, e3, h3⟩ := hV 3 (by decide); obtain ⟨A6, c6, e6, h6⟩ := hV 6 (by decide); obtain ⟨A9, c9, e9, h9⟩ := hV 9 (by decide); obtain ⟨q0, q1⟩ := hS.1.two; go_simp; exact hK.out _ _ _ rfl rfl ⟨_, _, rfl, rdII_three (Blk.new _ _ _) (Rd.below (h3.rd) (zG.alloc (Nat.le_refl _) _)) (Rd.below (h6.rd) (zG.alloc (Nat.le_refl _) _)) (Rd.below (h9.rd) (zG.alloc (Nat.le_refl _) _)) (h3.2.cap) (h6.2.cap) (h9.2.cap)⟩ (zG.alloc (Nat.le_refl _) _)
           refine zS (fun w' hS hV K hK => ?_) ?_
           · have e0 := zQ hV 0; obtain ⟨A3, c3, e3, h3⟩ := hV 3 (by decide); obtain ⟨A6, c6, e6, h6⟩ := hV 6 (by decide); obtain ⟨A9, c9, e9, h9⟩ := hV 9 (by decide); obtain ⟨A10, c10, e10, h10⟩ := hV 10 (by decide); obtain ⟨q0, q1⟩ := hS.1.two; go_simp; refine (times_any P A n c sq _ 3 _ [(invoL P xs), (vecTo n (unitRow n k) n), (revL P xs)] _ hp hp2 hn (by omega) (ha.below hS.2.1) hs h10 (all_three ⟨(sgnL_nums (by omega) oddT hxs), Rd.lenI (h3.rd)⟩ ⟨(vecTo_nums (by omega) n (unitRow n k) HU n), Rd.lenI (h6.rd)⟩ ⟨(sgnL_nums (by omega) revT hxs), Rd.lenI (h9.rd)⟩)).mono ?_; rintro e w1 ⟨A2, c2, rfl, hM⟩; exact hK.out _ _ _ rfl rfl ⟨_, _, rfl, hM.after hS.2.1⟩ hM.b
           refine zS (fun w' hS hV K hK => ?_) ?_
           · obtain ⟨A11, c11, e11, h11⟩ := hV 11 (by decide); obtain ⟨q0, q1⟩ := hS.1.two; go_simp; refine (onlyGrade_b _ _ _ _ _ _ HPW64 h11.rd HO.out).mono ?_; rintro e w1 ⟨rfl, hb⟩; exact hK.out _ _ _ rfl rfl rfl hb
           refine zS (fun w' hS hV K hK => ?_) ?_
           · have e12 := zQ hV 12; obtain ⟨q0, q1⟩ := hS.1.two; go_simp; exact zO hK
           refine fun w' hS hV => ?_
           have hV := fun i hi => hV i (List.mem_range.1 hi)
           simp only [List.range, List.range.loop, zL, zM, zH, zI, VIs, VSl, VRow, VAny] at hV
           obtain ⟨e0, e1, e2, ⟨A3, c3, e3, h3⟩, e4, e5, ⟨A6, c6, e6, h6⟩, e7, e8, ⟨A9, c9, e9, h9⟩, ⟨A10, c10, e10, h10⟩, ⟨A11, c11, e11, h11⟩, e12, e13⟩ := hV
           simp only [e0, e1, e2, e3, e4, e5, e6, e7, e8, e9, e10, e11, e12, e13]
           clear e0 e1 e2 e3 e4 e5 e6 e7 e8 e9 e10 e11 e12 e13
           refine wpAny_done (by kernel_rfl) ?_ _
           go_wp2
           go_roundw
           case rel => exact ⟨k + 1, by omega, by go_num, by rw [List.range_succ, List.all_append, HAL.out]; simp [H4.out], hS.1, hS.2.1, hB5r.trans (hS.2.2.mono hB5r.size)⟩
           case measure => simp [intOf]; omega
       · obtain rfl : k = n := by omega
         go_wp2
         go_ret
         exact ⟨ret_bool (by unfold versB; rw [H1.out, H2.out, H3.out, HAL.out]; rfl), hBr⟩
theorem isVersor_any (P : Int) (A : Option Addr) (n c : Nat) (sq : List Int) (X : Option Addr) (cx : Nat) (xs : List Int) (w : World) (hp : 2 ≤ P) (hp2 : P ≤ 13) (hn : n ≤ 6) (ha : Rd w A n (ints sq)) (hs : NumsL P sq) (hx : Rd w X (pw n) (ints xs)) (hxs : NumsL P xs) (hcx : pw n ≤ cx) :
    Calls Tryz.prog 98 #[.agg #[.int .i64 P, .slice A n c], .slice X (pw n) cx] w fun e w' => e = .returned (.bool (versB P sq n xs)) ∧ Below w.heap.size w w' := by
 by_cases h1 : nrmL P sq xs = 0
 · exact isVersor_A P A n c sq X cx xs w hp hp2 hn ha hs hx hxs hcx h1
 · cases h2 : onlyL (mulL P sq xs (revL P xs)) 0
   · exact isVersor_B P A n c sq X cx xs w hp hp2 hn ha hs hx hxs hcx h1 h2
   · cases h3 : mixB (gradesL xs)
     · by_cases h4 : cntO (gradesL xs) = 0
       · exact isVersor_D P A n c sq X cx xs w hp hp2 hn ha hs hx hxs hcx h1 h2 h3 h4
       · exact isVersor_E P A n c sq X cx xs w hp hp2 hn ha hs hx hxs hcx h1 h2 h3 h4
     · exact isVersor_C P A n c sq X cx xs w hp hp2 hn ha hs hx hxs hcx h1 h2 h3
end Go.Proofs.YtmkjdpnoloofjaaGreat
namespace Go.Proofs.YtmkjdpnoloofjaaGreat
def swn (a b : Nat) : Nat → Nat
 | 0 => 0
 | i + 1 => swn a b i + (if bit b i = 1 then pcn (a / 2 ^ (i + 1)) 6 else 0)
def rvn (k : Nat) : Nat := k * (k - 1) / 2
theorem rev_all : ∀ a : Nat, a < 64 → ∀ b : Nat, b < 64 → (swn a b 6 + swn b a 6 + rvn (pcn a 6) + rvn (pcn b 6) + rvn (pcn (a ^^^ b) 6)) % 2 = 0 := by decide +kernel
theorem swaps_swn {a b : Nat} (ha : a < 64) : ∀ n, swaps a b n = swn a b n := by
 intro n
 induction n with
 | zero => rfl
 | succ n ih =>
  simp only [swaps, swn]
  rw [ih, pc_pcn 6 _ (Nat.lt_of_le_of_lt (Nat.div_le_self _ _) (by simpa using ha))]
theorem bit_high {b n i : Nat} (hb : b < 2 ^ n) (h : n ≤ i) : bit b i = 0 := by
 unfold bit
 rw [Nat.div_eq_of_lt (Nat.lt_of_lt_of_le hb (Nat.pow_le_pow_right (by decide) h))]
theorem swaps_more {a b n : Nat} (hb : b < 2 ^ n) : ∀ k, swaps a b (n + k) = swaps a b n := by
 intro k
 induction k with
 | zero => rfl
 | succ k ih =>
  rw [← Nat.add_assoc]
  simp only [swaps]
  rw [ih, bit_high hb (by omega)]
  rfl
theorem swaps_six {a b n : Nat} (hn : n ≤ 6) (ha : a < pw n) (hb : b < pw n) : swaps a b n = swn a b 6 := by
 have h64 : a < 64 := Nat.lt_of_lt_of_le ha (pw_le (k := 6) hn)
 rw [← swaps_swn h64, show 6 = n + (6 - n) by omega, swaps_more hb]
/-- The sign of a blade when it is reversed, and when it is involuted. -/
def sgR (a : Nat) : Int := if revT (pc a) then -1 else 1
def sgI (a : Nat) : Int := if oddT (pc a) then -1 else 1
theorem sgR_sg (a : Nat) : sgR a = sg (rvn (pc a)) := by
 unfold sgR sg revT rvn
 simp only [beq_iff_eq]
theorem sgI_sg (a : Nat) : sgI a = sg (pc a) := by
 unfold sgI sg oddT
 simp only [beq_iff_eq]
theorem sgI_xor (a b : Nat) : sgI (a ^^^ b) = sgI a * sgI b := by
 rw [sgI_sg, sgI_sg, sgI_sg, ← sg_add]
 exact sg_congr (pc_xor a b)
theorem facZ_rev {sq : List Int} (hn : sq.length ≤ 6) {a b : Nat} (ha : a < pw sq.length) (hb : b < pw sq.length) : sgR (a ^^^ b) * facZ sq a b = sgR b * sgR a * facZ sq b a := by
 have h64 : ∀ {x}, x < pw sq.length → x < 64 := fun h => Nat.lt_of_lt_of_le h (pw_le (k := 6) hn)
 unfold facZ
 rw [comZ_symm sq b a, ← Int.mul_assoc, ← Int.mul_assoc]
 congr 1
 rw [sgR_sg, sgR_sg, sgR_sg, ← sg_add, ← sg_add, ← sg_add]
 apply sg_congr
 rw [swaps_six hn ha hb, swaps_six hn hb ha, pc_pcn 6 a (h64 ha), pc_pcn 6 b (h64 hb), pc_pcn 6 _ (h64 (xor_lt ha hb))]
 have := rev_all a (h64 ha) b (h64 hb)
 omega
section
variable {p : Int} {sq : List Int}
def Cl.rev (x : Cl p sq) : Cl p sq := Cl.of x.pos fun m => sgR m * x.co m
def Cl.invo (x : Cl p sq) : Cl p sq := Cl.of x.pos fun m => sgI m * x.co m
theorem Cl.rev_co (x : Cl p sq) {m : Nat} (hm : m < pw sq.length) : x.rev.co m % p = (sgR m * x.co m) % p := Cl.of_cg _ _ hm
theorem Cl.invo_co (x : Cl p sq) {m : Nat} (hm : m < pw sq.length) : x.invo.co m % p = (sgI m * x.co m) % p := Cl.of_cg _ _ hm
theorem Cl.rev_mul (hn : sq.length ≤ 6) (x y : Cl p sq) : (x * y).rev = y.rev * x.rev := Cl.same fun m hm => by
 rw [Cl.rev_co _ hm, Int.mul_emod, Cl.mul_co _ _ hm, ← Int.mul_emod, Cl.mul_co _ _ hm, mulZ_cg p sq (fun a ha => Cl.rev_co y ha) (fun a ha => Cl.rev_co x ha) hm]
 unfold mulZ
 rw [sumTo_xor (fun a => sgR a * y.co a * (sgR (a ^^^ m) * x.co (a ^^^ m)) * facZ sq a (a ^^^ m)) hm, ← sumTo_mul]
 congr 1
 refine sumTo_congr fun a ha => ?_
 have h := facZ_rev hn ha (xor_lt ha hm)
 rw [xor_self_left] at h
 rw [xor_self_right]
 calc sgR m * (x.co a * y.co (a ^^^ m) * facZ sq a (a ^^^ m)) = x.co a * y.co (a ^^^ m) * (sgR m * facZ sq a (a ^^^ m)) := by rw [Int.mul_left_comm]
   _ = x.co a * y.co (a ^^^ m) * (sgR (a ^^^ m) * sgR a * facZ sq (a ^^^ m) a) := by rw [h]
   _ = _ := by
     rw [← Int.mul_assoc]
     congr 1
     generalize x.co a = X
     generalize y.co (a ^^^ m) = Y
     generalize sgR a = S
     generalize sgR (a ^^^ m) = T
     rw [Int.mul_comm X Y, Int.mul_comm T Y, Int.mul_assoc, Int.mul_assoc, Int.mul_left_comm X, Int.mul_comm X S]
theorem Cl.invo_mul (x y : Cl p sq) : (x * y).invo = x.invo * y.invo := Cl.same fun m hm => by
 rw [Cl.invo_co _ hm, Int.mul_emod, Cl.mul_co _ _ hm, ← Int.mul_emod, Cl.mul_co _ _ hm, mulZ_cg p sq (fun a ha => Cl.invo_co x ha) (fun a ha => Cl.invo_co y ha) hm]
 unfold mulZ
 rw [← sumTo_mul]
 congr 1
 refine sumTo_congr fun a _ => ?_
 have h := sgI_xor a (a ^^^ m)
 rw [xor_self_left] at h
 rw [h]
 show _ = sgI a * x.co a * (sgI (a ^^^ m) * y.co (a ^^^ m)) * _
 generalize x.co a = X
 generalize y.co (a ^^^ m) = Y
 generalize sgI a = S
 generalize sgI (a ^^^ m) = T
 rw [← Int.mul_assoc]
 congr 1
 rw [Int.mul_assoc, Int.mul_assoc, Int.mul_left_comm T]
theorem sgI_two (a : Nat) : sgI a * sgI a = 1 := by rw [sgI_sg, sg_two]
theorem Cl.invo_invo (x : Cl p sq) : x.invo.invo = x := Cl.same fun m hm => by
 rw [Cl.invo_co _ hm, Int.mul_emod, Cl.invo_co _ hm, ← Int.mul_emod, ← Int.mul_assoc, sgI_two, Int.one_mul]
theorem Cl.rev_invo (x : Cl p sq) : x.rev.invo = x.invo.rev := Cl.same fun m hm => by
 rw [Cl.invo_co _ hm, Int.mul_emod, Cl.rev_co _ hm, ← Int.mul_emod, Cl.rev_co _ hm, Int.mul_emod (sgR m), Cl.invo_co _ hm, ← Int.mul_emod, Int.mul_left_comm]
theorem Cl.one_rev (hp : 0 < p) : (Cl.one hp : Cl p sq).rev = Cl.one hp := Cl.same fun m hm => by
 rw [Cl.rev_co _ hm, Int.mul_emod, Cl.one_co hp hm, ← Int.mul_emod]
 by_cases h : m = 0
 · rw [if_pos h, h]; unfold sgR; rw [pc_zero]; rfl
 · rw [if_neg h, Int.mul_zero]
theorem Cl.one_invo (hp : 0 < p) : (Cl.one hp : Cl p sq).invo = Cl.one hp := Cl.same fun m hm => by
 rw [Cl.invo_co _ hm, Int.mul_emod, Cl.one_co hp hm, ← Int.mul_emod]
 by_cases h : m = 0
 · rw [if_pos h, h]; unfold sgI; rw [pc_zero]; rfl
 · rw [if_neg h, Int.mul_zero]
theorem Cl.sgn_l (x : Cl p sq) (t : Nat → Bool) : (Cl.of x.pos fun m => (if t (pc m) then -1 else 1) * x.co m : Cl p sq).l = sgnL p t x.l := by
 refine list_ext_getD 0 (by rw [Cl.len, sgnL_len, x.len]) fun m hm => ?_
 rw [Cl.len] at hm
 rw [sgnL_getD (by rw [x.len]; exact hm)]
 show (Cl.of _ _ : Cl p sq).co m = _
 rw [Cl.of_co _ _ hm]
 split
 · rw [Int.neg_mul, Int.one_mul]; rfl
 · rw [Int.one_mul, x.co_mod]; rfl
theorem Cl.rev_l (x : Cl p sq) : x.rev.l = revL p x.l := x.sgn_l revT
theorem Cl.invo_l (x : Cl p sq) : x.invo.l = invoL p x.l := x.sgn_l oddT
def Cl.vec (hp : 0 < p) (v : List Int) : Cl p sq := Cl.of hp fun b => sumTo sq.length fun i => if b = 2 ^ i then v.getD i 0 else 0
theorem Cl.vec_co (hp : 0 < p) (v : List Int) {m : Nat} (hm : m < pw sq.length) : (Cl.vec hp v : Cl p sq).co m % p = (sumTo sq.length fun i => if m = 2 ^ i then v.getD i 0 else 0) % p := Cl.of_cg _ _ hm
theorem Cl.vec_l (hp : 0 < p) {v : List Int} (hv : NumsL p v) : (Cl.vec hp v : Cl p sq).l = vecTo sq.length v sq.length := by
 refine list_ext_getD 0 (by rw [Cl.len, vecTo_len]) fun m hm => ?_
 rw [Cl.len] at hm
 rw [vecTo_getD _ hm _ (Nat.le_refl _)]
 show (Cl.vec _ _ : Cl p sq).co m = _
 rw [← Cl.co_mod, Cl.vec_co hp v hm, ← vecTo_getD v hm _ (Nat.le_refl _)]
 have := (vecTo_nums hp sq.length v hv sq.length).getD hp m
 exact Int.emod_eq_of_lt this.1 this.2
theorem pow_inj {i j : Nat} (h : (2 : Nat) ^ i = 2 ^ j) : i = j := (Nat.pow_right_inj (by decide)).1 h
theorem bit_pow (i j : Nat) : bit (2 ^ i) j = if i = j then 1 else 0 := by
 rw [bit_eq, Nat.testBit_two_pow]
 by_cases h : i = j <;> simp [h]
theorem pc_pow (i : Nat) : pc (2 ^ i) = 1 := by
 rw [pc_pcn (i + 1) _ (Nat.pow_lt_pow_right (by decide) (by omega)), pcn, bit_pow, if_pos rfl]
 have : ∀ k, k ≤ i → pcn (2 ^ i) k = 0 := by
  intro k
  induction k with
  | zero => intro _; rfl
  | succ k ih => intro hk; rw [pcn, ih (by omega), bit_pow, if_neg (by omega)]
 rw [this i (Nat.le_refl _)]
theorem swaps_pow (a j : Nat) : ∀ k, swaps a (2 ^ j) k = if j < k then pc (a / 2 ^ (j + 1)) else 0 := by
 intro k
 induction k with
 | zero => rfl
 | succ k ih =>
  simp only [swaps]
  rw [ih, bit_pow]
  by_cases h1 : j = k
  · subst h1; simp
  · by_cases h2 : j < k
    · simp [h1, h2, show j < k + 1 by omega]
    · simp [h1, h2, show ¬ j < k + 1 by omega]
theorem comZ_pow (sq : List Int) (i j : Nat) : ∀ k, comZ sq (2 ^ i) (2 ^ j) k = if i = j ∧ i < k then sq.getD i 0 else 1 := by
 intro k
 induction k with
 | zero => simp [comZ]
 | succ k ih =>
  simp only [comZ]
  rw [ih, bit_pow, bit_pow]
  by_cases h : i = j
  · subst h
    by_cases h1 : i = k
    · subst h1; simp
    · by_cases h2 : i < k
      · simp [h1, h2, show i < k + 1 by omega]
      · simp [h1, h2, show ¬ i < k + 1 by omega]
  · simp only [h, false_and, if_false]
    rw [if_neg, Int.mul_one]
    rintro ⟨h1, h2⟩
    split at h1
    · split at h2
      · omega
      · cases h2
    · cases h1
theorem facZ_same (sq : List Int) {i : Nat} (hi : i < sq.length) : facZ sq (2 ^ i) (2 ^ i) = sq.getD i 0 := by
 unfold facZ
 rw [swaps_pow, if_pos hi, comZ_pow, if_pos ⟨rfl, hi⟩, Nat.div_eq_of_lt (Nat.pow_lt_pow_right (by decide) (by omega)), pc_zero]
 show 1 * _ = _
 rw [Int.one_mul]
theorem facZ_less (sq : List Int) {i j : Nat} (h : i < j) (hj : j < sq.length) : facZ sq (2 ^ i) (2 ^ j) = 1 ∧ facZ sq (2 ^ j) (2 ^ i) = -1 := by
 unfold facZ
 rw [swaps_pow, if_pos hj, comZ_pow, if_neg (by omega), swaps_pow, if_pos (by omega), comZ_pow, if_neg (by omega), Nat.div_eq_of_lt (Nat.pow_lt_pow_right (by decide) (by omega)), pc_zero]
 refine ⟨rfl, ?_⟩
 rw [Nat.pow_div (by omega) (by decide), pc_pow]
 rfl
theorem facZ_both (sq : List Int) {i j : Nat} (hi : i < sq.length) (hj : j < sq.length) : facZ sq (2 ^ i) (2 ^ j) + facZ sq (2 ^ j) (2 ^ i) = if i = j then 2 * sq.getD i 0 else 0 := by
 rcases Nat.lt_trichotomy i j with h | h | h
 · rw [(facZ_less sq h hj).1, (facZ_less sq h hj).2, if_neg (by omega)]; rfl
 · subst h; rw [facZ_same sq hi, if_pos rfl]; omega
 · rw [(facZ_less sq h hi).1, (facZ_less sq h hi).2, if_neg (by omega)]; rfl
/-- The product of two vectors, over the integers. -/
def bil (sq v u : List Int) : Int := sumTo sq.length fun i => v.getD i 0 * u.getD i 0 * sq.getD i 0
theorem bil_symm (sq v u : List Int) : bil sq v u = bil sq u v := sumTo_congr fun i _ => by rw [Int.mul_comm (v.getD i 0)]
/-- The product of vectors, at a place. -/
theorem mulZ_vec (sq u v : List Int) {m : Nat} (hm : m < pw sq.length) :
    mulZ sq (fun b => sumTo sq.length fun i => if b = 2 ^ i then u.getD i 0 else 0) (fun b => sumTo sq.length fun i => if b = 2 ^ i then v.getD i 0 else 0) m
     = sumTo sq.length fun i => sumTo sq.length fun j => if 2 ^ i ^^^ 2 ^ j = m then u.getD i 0 * v.getD j 0 * facZ sq (2 ^ i) (2 ^ j) else 0 := by
 unfold mulZ
 rw [sumTo_congr (g := fun a => sumTo sq.length fun i => if a = 2 ^ i then sumTo sq.length fun j => if 2 ^ i ^^^ 2 ^ j = m then u.getD i 0 * v.getD j 0 * facZ sq (2 ^ i) (2 ^ j) else 0 else 0) fun a ha => ?_, sumTo_comm]
 · refine sumTo_congr fun i hi => ?_
   rw [sumTo_one (2 ^ i) (two_lt hi) fun a _ hne => if_neg hne, if_pos rfl]
 · rw [← sumTo_mul_right, ← sumTo_mul_right]
   refine sumTo_congr fun i _ => ?_
   by_cases h : a = 2 ^ i
   · rw [if_pos h, if_pos h, ← sumTo_mul, ← sumTo_mul_right]
     refine sumTo_congr fun j _ => ?_
     by_cases h2 : 2 ^ i ^^^ 2 ^ j = m
     · rw [if_pos h2, h, if_pos ((xor_eq_iff _ _ _).1 h2).symm, ← (xor_eq_iff _ _ _).1 h2]
     · rw [if_neg h2, h, if_neg (fun e => h2 ((xor_eq_iff _ _ _).2 e.symm)), Int.mul_zero, Int.zero_mul]
   · rw [if_neg h, if_neg h, Int.zero_mul, Int.zero_mul]
/-- Vectors: the sum of both products is twice the number of the product. -/
theorem Cl.vec_anti (hp : 0 < p) (u v : List Int) : (Cl.vec hp u : Cl p sq) * Cl.vec hp v + Cl.vec hp v * Cl.vec hp u = (2 * bil sq u v) * Cl.one hp := Cl.same fun m hm => by
 rw [Cl.add_co _ _ hm, Int.add_emod, Cl.mul_co _ _ hm, Cl.mul_co _ _ hm, mulZ_cg p sq (fun a ha => Cl.vec_co hp u ha) (fun a ha => Cl.vec_co hp v ha) hm,
  mulZ_cg p sq (fun a ha => Cl.vec_co hp v ha) (fun a ha => Cl.vec_co hp u ha) hm, ← Int.add_emod, mulZ_vec sq u v hm, mulZ_vec sq v u hm, Cl.sm_co _ _ hm, Int.mul_emod (2 * _), Cl.one_co hp hm, ← Int.mul_emod]
 congr 1
 rw [sumTo_comm sq.length sq.length (fun i j => if 2 ^ i ^^^ 2 ^ j = m then v.getD i 0 * u.getD j 0 * facZ sq (2 ^ i) (2 ^ j) else 0), ← sumTo_add]
 unfold bil
 rw [← sumTo_mul, ← sumTo_mul_right]
 refine sumTo_congr fun i hi => ?_
 rw [← sumTo_add]
 have key : ∀ j, j < sq.length → ((if 2 ^ i ^^^ 2 ^ j = m then u.getD i 0 * v.getD j 0 * facZ sq (2 ^ i) (2 ^ j) else 0) + if 2 ^ j ^^^ 2 ^ i = m then v.getD j 0 * u.getD i 0 * facZ sq (2 ^ j) (2 ^ i) else 0) = if 2 ^ i ^^^ 2 ^ j = m then u.getD i 0 * v.getD j 0 * (if i = j then 2 * sq.getD i 0 else 0) else 0 := fun j hj => by
  rw [Nat.xor_comm (2 ^ j)]
  by_cases h : 2 ^ i ^^^ 2 ^ j = m
  · rw [if_pos h, if_pos h, if_pos h, Int.mul_comm (v.getD j 0), ← Int.mul_add, facZ_both sq hi hj]
  · rw [if_neg h, if_neg h, if_neg h]; rfl
 rw [sumTo_congr key, sumTo_one i hi fun j _ hne => by
  split
  · rw [if_neg (fun e => hne e.symm), Int.mul_zero]
  · rfl]
 rw [if_pos rfl, Nat.xor_self]
 by_cases h : m = 0
 · rw [if_pos h, if_pos h.symm, Int.mul_one, Int.mul_left_comm]
 · rw [if_neg h, if_neg (fun e => h e.symm), Int.mul_zero]
end
theorem half_ok {p : Int} (hP : isP p = true) : (p + 1) / 2 * 2 % p = 1 % p := by
 simp only [isP, Bool.or_eq_true, beq_iff_eq] at hP
 rcases hP with (((rfl | rfl) | rfl) | rfl) | rfl <;> decide
theorem inv_mod {p a : Int} (hP : isP p = true) (h : a % p ≠ 0) : a * invF p (a % p) % p = 1 := by
 have h3 := (isP_ge hP).1
 have h1 := Int.emod_nonneg a (show p ≠ 0 by omega)
 have h2 := Int.emod_lt_of_pos a (show 0 < p by omega)
 have hs := inv_spec hP (show 0 < a % p by omega) h2
 have := (hs.2.2 (invF p (a % p)) (by omega) hs.2.1).2 rfl
 rw [Int.mul_emod, Int.emod_emod_of_dvd _ (Int.dvd_refl p)] at this
 rw [Int.mul_emod]
 exact this
section
variable {p : Int} {sq : List Int}
theorem Cl.two (x : Cl p sq) : x + x = (2 : Int) * x := by
 have := Cl.add_sm 1 1 x
 rw [Cl.one_sm] at this
 exact this.symm
theorem Cl.half {x y : Cl p sq} (hP : isP p = true) (h : (2 : Int) * x = (2 : Int) * y) : x = y := by
 have e : ∀ z : Cl p sq, ((p + 1) / 2 : Int) * ((2 : Int) * z) = z := fun z => by rw [Cl.sm_sm, Cl.sm_cg (half_ok hP), Cl.one_sm]
 rw [← e x, h, e y]
theorem Cl.add_back (x y : Cl p sq) (k : Int) : x + k * y + (-k) * y = x := by
 rw [Cl.add_assoc, ← Cl.add_sm, show k + -k = 0 by omega, Cl.zero_sm, Cl.add_zero]
theorem Cl.move {x y z : Cl p sq} {k : Int} (h : x + k * y = z) : x = z + (-k) * y := by rw [← h, Cl.add_back]
theorem Cl.vec_plus (hp : 0 < p) {a b : List Int} (ha : a.length = sq.length) (k : Int) : (Cl.vec hp (plusL p a b k) : Cl p sq) = Cl.vec hp a + k * Cl.vec hp b := Cl.same fun m hm => by
 rw [Cl.vec_co hp _ hm, Cl.add_co _ _ hm, Int.add_emod, Cl.vec_co hp _ hm, Cl.sm_co _ _ hm, Int.mul_emod, Cl.vec_co hp _ hm, ← Int.mul_emod, ← Int.add_emod, ← sumTo_mul, ← sumTo_add]
 refine sumTo_mod p fun i hi => ?_
 by_cases h : m = 2 ^ i
 · rw [if_pos h, if_pos h, if_pos h, plusL_getD _ _ (by omega), Int.emod_emod_of_dvd _ (Int.dvd_refl p)]
 · rw [if_neg h, if_neg h, if_neg h, Int.mul_zero]; rfl
theorem Cl.vec_scale (hp : 0 < p) {a : List Int} (ha : a.length = sq.length) (k : Int) : (Cl.vec hp (scaleL p a k) : Cl p sq) = k * Cl.vec hp a := Cl.same fun m hm => by
 rw [Cl.vec_co hp _ hm, Cl.sm_co _ _ hm, Int.mul_emod, Cl.vec_co hp _ hm, ← Int.mul_emod, ← sumTo_mul]
 refine sumTo_mod p fun i hi => ?_
 by_cases h : m = 2 ^ i
 · rw [if_pos h, if_pos h, scaleL_getD _ (by omega), Int.emod_emod_of_dvd _ (Int.dvd_refl p), Int.mul_comm]
 · rw [if_neg h, if_neg h, Int.mul_zero]
theorem Cl.vec_at (hp : 0 < p) {v : List Int} (hv : NumsL p v) (hl : v.length = sq.length) : partL sq.length (Cl.vec hp v : Cl p sq).l = v := by
 refine list_ext_getD 0 (by rw [partL_len, hl]) fun i hi => ?_
 rw [partL_len] at hi
 have e : (partL sq.length (Cl.vec hp v : Cl p sq).l).getD i 0 = (Cl.vec hp v : Cl p sq).co (2 ^ i) := by
  unfold partL
  rw [getD_of_lt 0 (by simpa using hi), List.getElem_map, List.getElem_range]; rfl
 rw [e, ← Cl.co_mod, Cl.vec_co hp v (two_lt hi), sumTo_one i hi fun j hj hne => if_neg fun e => hne (pow_inj e).symm, if_pos rfl]
 have := hv.getD hp i
 exact Int.emod_eq_of_lt this.1 this.2
theorem Cl.vec_rev (hp : 0 < p) (v : List Int) : (Cl.vec hp v : Cl p sq).rev = Cl.vec hp v := Cl.same fun m hm => by
 rw [Cl.rev_co _ hm, Int.mul_emod, Cl.vec_co hp v hm, ← Int.mul_emod, ← sumTo_mul]
 congr 1
 refine sumTo_congr fun i _ => ?_
 by_cases h : m = 2 ^ i
 · rw [if_pos h, h]
   have : sgR (2 ^ i) = 1 := by unfold sgR; rw [pc_pow]; rfl
   rw [this, Int.one_mul]
 · rw [if_neg h, Int.mul_zero]
theorem Cl.vec_invo (hp : 0 < p) (v : List Int) : (Cl.vec hp v : Cl p sq).invo = (-1 : Int) * Cl.vec hp v := Cl.same fun m hm => by
 rw [Cl.invo_co _ hm, Int.mul_emod, Cl.vec_co hp v hm, ← Int.mul_emod, Cl.sm_co _ _ hm, Int.mul_emod (-1), Cl.vec_co hp v hm, ← Int.mul_emod, ← sumTo_mul, ← sumTo_mul]
 congr 1
 refine sumTo_congr fun i _ => ?_
 by_cases h : m = 2 ^ i
 · rw [if_pos h, h]
   have : sgI (2 ^ i) = -1 := by unfold sgI; rw [pc_pow]; rfl
   rw [this]
 · rw [if_neg h, Int.mul_zero, Int.mul_zero]
theorem Cl.vec_sq (hp : 0 < p) (hP : isP p = true) (v : List Int) : (Cl.vec hp v : Cl p sq) * Cl.vec hp v = bil sq v v * Cl.one hp := by
 refine Cl.half hP ?_
 rw [← Cl.two, Cl.vec_anti, Cl.sm_sm]
/-- What a vector on both sides does to a vector. -/
theorem Cl.vec_both (hp : 0 < p) (hP : isP p = true) (u w : List Int) : (Cl.vec hp u : Cl p sq) * Cl.vec hp w * Cl.vec hp u = (2 * bil sq u w) * Cl.vec hp u + (-(bil sq u u)) * Cl.vec hp w := by
 refine Cl.move ?_
 have h := congrArg (fun z : Cl p sq => z * Cl.vec hp u) (Cl.vec_anti hp u w)
 simp only [Cl.add_mul, Cl.sm_mul, Cl.one_mul] at h
 rw [Cl.mul_assoc (Cl.vec hp w), Cl.vec_sq hp hP, Cl.mul_sm, Cl.mul_one] at h
 exact h
theorem bil_plus {u : List Int} {a b : List Int} (ha : a.length = sq.length) (k : Int) : bil sq (plusL p a b k) u % p = (bil sq a u + k * bil sq b u) % p := by
 unfold bil
 rw [← sumTo_mul, ← sumTo_add]
 refine sumTo_mod p fun i hi => ?_
 rw [plusL_getD _ _ (by omega), Int.mul_assoc, Int.mul_emod, Int.emod_emod_of_dvd _ (Int.dvd_refl p), ← Int.mul_emod, Int.add_mul]
 congr 1
 rw [Int.mul_assoc, Int.mul_assoc, Int.mul_assoc]
theorem pairL_bil {v u : List Int} (hv : v.length = sq.length) : pairL p sq v u % p = bil sq v u % p := by
 rw [pairL_sum hv, Int.emod_emod_of_dvd _ (Int.dvd_refl p)]
 unfold bil
 refine sumTo_mod p fun i _ => ?_
 rw [Int.mul_emod, Int.emod_emod_of_dvd _ (Int.dvd_refl p), ← Int.mul_emod]
/-- The reflection of w in v. -/
def reflF (p : Int) (sq v w : List Int) : List Int := plusL p w v (-(2 * bil sq v w * invF p (bil sq v v % p)))
theorem reflF_len {v w : List Int} : (reflF p sq v w).length = w.length := plusL_len _ _ _ _
theorem reflF_nums (hp : 0 < p) (v w : List Int) : NumsL p (reflF p sq v w) := plusL_nums hp _ _ _
/-- Products of vectors. -/
def Cl.prod (hp : 0 < p) (vs : List (List Int)) : Cl p sq := vs.foldl (fun x v => x * Cl.vec hp v) (Cl.one hp)
theorem Cl.prod_from (hp : 0 < p) (vs : List (List Int)) : ∀ y : Cl p sq, vs.foldl (fun x v => x * Cl.vec hp v) y = y * Cl.prod hp vs := by
 induction vs with
 | nil => intro y; exact (Cl.mul_one hp y).symm
 | cons v vs ih =>
  intro y
  unfold Cl.prod
  rw [List.foldl_cons, ih, List.foldl_cons, ih, Cl.one_mul, Cl.mul_assoc]
theorem Cl.prod_cons (hp : 0 < p) (v : List Int) (vs : List (List Int)) : (Cl.prod hp (v :: vs) : Cl p sq) = Cl.vec hp v * Cl.prod hp vs := by
 have := Cl.prod_from hp vs (Cl.vec hp v : Cl p sq)
 rw [← this]
 unfold Cl.prod
 rw [List.foldl_cons, Cl.one_mul]
theorem Cl.prod_snoc (hp : 0 < p) (v : List Int) (vs : List (List Int)) : (Cl.prod hp (vs ++ [v]) : Cl p sq) = Cl.prod hp vs * Cl.vec hp v := by
 unfold Cl.prod
 rw [List.foldl_append]; rfl
/-- The product of the norms. -/
def nrmP (sq : List Int) : List (List Int) → Int
 | [] => 1
 | v :: vs => bil sq v v * nrmP sq vs
theorem Cl.prod_norm (hp : 0 < p) (hP : isP p = true) (h6 : sq.length ≤ 6) (vs : List (List Int)) : (Cl.prod hp vs : Cl p sq) * (Cl.prod hp vs).rev = nrmP sq vs * Cl.one hp := by
 induction vs with
 | nil => show Cl.one hp * (Cl.one hp).rev = (1 : Int) * Cl.one hp; rw [Cl.one_rev, Cl.mul_one, Cl.one_sm]
 | cons v vs ih =>
  rw [Cl.prod_cons, Cl.rev_mul h6, Cl.vec_rev, Cl.mul_assoc, ← Cl.mul_assoc (Cl.prod hp vs), ih, Cl.sm_mul, Cl.one_mul, Cl.mul_sm, Cl.vec_sq hp hP, Cl.sm_sm]
  show _ = (bil sq v v * nrmP sq vs) * Cl.one hp
  rw [Int.mul_comm]
theorem Cl.prod_norm' (hp : 0 < p) (hP : isP p = true) (h6 : sq.length ≤ 6) (vs : List (List Int)) : (Cl.prod hp vs : Cl p sq).rev * Cl.prod hp vs = nrmP sq vs * Cl.one hp := by
 induction vs with
 | nil => show (Cl.one hp).rev * Cl.one hp = (1 : Int) * Cl.one hp; rw [Cl.one_rev, Cl.mul_one, Cl.one_sm]
 | cons v vs ih =>
  rw [Cl.prod_cons, Cl.rev_mul h6, Cl.vec_rev, Cl.mul_assoc, ← Cl.mul_assoc (Cl.vec hp v), Cl.vec_sq hp hP, Cl.sm_mul, Cl.one_mul, Cl.mul_sm, ih, Cl.sm_sm]
  rfl
theorem Cl.prod_invo (hp : 0 < p) (vs : List (List Int)) : (Cl.prod hp vs : Cl p sq).invo = sg vs.length * Cl.prod hp vs := by
 induction vs with
 | nil => show (Cl.one hp).invo = (1 : Int) * Cl.one hp; rw [Cl.one_invo, Cl.one_sm]
 | cons v vs ih =>
  rw [Cl.prod_cons, Cl.invo_mul, ih, Cl.vec_invo, Cl.sm_mul, Cl.mul_sm, Cl.sm_sm, List.length_cons, sg_add]
  congr 1
  show -1 * sg vs.length = sg vs.length * -1
  exact Int.mul_comm _ _
/-- What the product does to a vector: the reflections in its vectors, the last one first. -/
def refls (p : Int) (sq : List Int) (vs : List (List Int)) (w : List Int) : List Int := vs.foldr (fun v w => reflF p sq v w) w
theorem refls_len (vs : List (List Int)) (w : List Int) : (refls p sq vs w).length = w.length := by
 induction vs with
 | nil => rfl
 | cons v vs ih => show (reflF p sq v (refls p sq vs w)).length = _; rw [reflF_len, ih]
theorem refls_nums (hp : 0 < p) (vs : List (List Int)) {w : List Int} (hw : NumsL p w) : NumsL p (refls p sq vs w) := by
 cases vs with
 | nil => exact hw
 | cons v vs => exact reflF_nums hp _ _
theorem Cl.one_refl (hp : 0 < p) (hP : isP p = true) {v w : List Int} (hw : w.length = sq.length) (hv : bil sq v v % p ≠ 0) : (Cl.vec hp v : Cl p sq) * Cl.vec hp w * Cl.vec hp v = (-(bil sq v v)) * Cl.vec hp (reflF p sq v w) := by
 rw [Cl.vec_both hp hP]
 unfold reflF
 rw [Cl.vec_plus hp hw, Cl.sm_add, Cl.sm_sm, Cl.add_comm]
 congr 1
 refine Cl.sm_cg ?_ _
 have h1 := inv_mod hP hv
 have h3 := (isP_ge hP).1
 have h2 : (1 : Int) % p = bil sq v v * invF p (bil sq v v % p) % p := by rw [h1, Int.emod_eq_of_lt (by omega) (by omega)]
 have h4 := cg_mul h2 (show 2 * bil sq v w % p = 2 * bil sq v w % p from rfl)
 rw [Int.one_mul] at h4
 rw [h4, Int.neg_mul_neg]
 congr 1
 rw [Int.mul_assoc, Int.mul_comm (invF p _)]
theorem Cl.prod_acts (hp : 0 < p) (hP : isP p = true) (h6 : sq.length ≤ 6) (vs : List (List Int)) (hvs : ∀ v ∈ vs, bil sq v v % p ≠ 0) {w : List Int} (hw : w.length = sq.length) :
    (Cl.prod hp vs : Cl p sq).invo * Cl.vec hp w * (Cl.prod hp vs).rev = nrmP sq vs * Cl.vec hp (refls p sq vs w) := by
 induction vs with
 | nil =>
  show (Cl.one hp).invo * Cl.vec hp w * (Cl.one hp).rev = (1 : Int) * Cl.vec hp w
  rw [Cl.one_invo, Cl.one_rev, Cl.mul_one, Cl.one_mul, Cl.one_sm]
 | cons v vs ih =>
  have ih := ih fun u hu => hvs u (List.mem_cons_of_mem _ hu)
  rw [Cl.prod_cons, Cl.invo_mul, Cl.rev_mul h6, Cl.vec_rev, Cl.vec_invo]
  have e : (-1 : Int) * Cl.vec hp v * (Cl.prod hp vs).invo * Cl.vec hp w * ((Cl.prod hp vs).rev * Cl.vec hp v) = (-1 : Int) * (Cl.vec hp v * ((Cl.prod hp vs).invo * Cl.vec hp w * (Cl.prod hp vs).rev) * Cl.vec hp v : Cl p sq) := by
   simp only [Cl.sm_mul, Cl.mul_assoc]
  rw [e, ih, Cl.mul_sm, Cl.sm_mul, Cl.one_refl hp hP (by rw [refls_len]; exact hw) (hvs v (List.mem_cons_self ..)), Cl.sm_sm, Cl.sm_sm]
  show _ = (bil sq v v * nrmP sq vs) * Cl.vec hp (reflF p sq v (refls p sq vs w))
  congr 1
  rw [Int.neg_mul, Int.one_mul, Int.mul_neg, Int.neg_mul, Int.neg_neg, Int.mul_comm]
end
section
variable {p : Int} {sq : List Int}
theorem neg_ne {p : Int} (hP : isP p = true) {a : Int} (ha : 0 ≤ a ∧ a < p) (h0 : a ≠ 0) : a % p ≠ (-a) % p := by
 obtain ⟨a1, a2⟩ := ha
 simp only [isP, Bool.or_eq_true, beq_iff_eq] at hP
 rcases hP with (((rfl | rfl) | rfl) | rfl) | rfl <;> omega
theorem mul_ne {p : Int} (hP : isP p = true) {a b : Int} (ha : a % p ≠ 0) (hb : b % p ≠ 0) : a * b % p ≠ 0 := fun h => by
 have h3 := (isP_ge hP).1
 rw [Int.mul_emod] at h
 rcases mul_zero_mod hP (emod_small a p (by omega)) (emod_small b p (by omega)) h with h | h
 · exact ha h
 · exact hb h
theorem nrmP_ne {p : Int} (hP : isP p = true) (vs : List (List Int)) (hvs : ∀ v ∈ vs, bil sq v v % p ≠ 0) : nrmP sq vs % p ≠ 0 := by
 induction vs with
 | nil =>
  show (1 : Int) % p ≠ 0
  have h3 := (isP_ge hP).1
  rw [Int.emod_eq_of_lt (by omega) (by omega)]; decide
 | cons v vs ih => exact mul_ne hP (hvs v (List.mem_cons_self ..)) (ih fun u hu => hvs u (List.mem_cons_of_mem _ hu))
theorem only_iff {ys : List Int} (hl : ys.length ≤ 64) (k : Nat) : onlyL ys k = true ↔ ∀ i, i < ys.length → pc i ≠ k → ys.getD i 0 = 0 := by
 unfold onlyL
 rw [Bool.not_eq_true', List.any_eq_false]
 constructor
 · intro h i hi hne
   by_cases h0 : ys.getD i 0 = 0
   · exact h0
   · have := h _ ((gradesL_mem ys hl _).2 ⟨i, hi, h0, rfl⟩)
     simp at this
     omega
 · intro h g hg
   obtain ⟨i, hi, h0, rfl⟩ := (gradesL_mem ys hl _).1 hg
   by_cases hp : pc i = k
   · simp [hp]
   · exact absurd (h i hi hp) h0
theorem Cl.only_co (h6 : sq.length ≤ 6) (x : Cl p sq) (k : Nat) : onlyL x.l k = true ↔ ∀ m, m < pw sq.length → pc m ≠ k → x.co m = 0 := by
 rw [only_iff (by rw [x.len]; exact pw_le (k := 6) h6), x.len]; rfl
theorem pc_zero_iff {m : Nat} (h : pc m = 0) : m = 0 := by
 have : ∀ k a, a < 2 ^ k → pc a = 0 → a = 0 := by
  intro k
  induction k with
  | zero => intro a ha _; omega
  | succ k ih =>
   intro a ha hz
   rw [pc_rec] at hz
   have := ih (a / 2) (by rw [Nat.pow_succ] at ha; omega) (by omega)
   omega
 exact this m m Nat.lt_two_pow_self h
/-- Only grade 0: a number. -/
theorem Cl.only_zero (h6 : sq.length ≤ 6) (hp : 0 < p) (x : Cl p sq) : onlyL x.l 0 = true ↔ x = x.co 0 * Cl.one hp := by
 have h := x.only_co h6 0
 refine h.trans ⟨fun h0 => Cl.same fun m hm => ?_, fun e m hm hne => ?_⟩
 · rw [Cl.sm_co _ _ hm, Int.mul_emod, Cl.one_co hp hm, ← Int.mul_emod]
   by_cases hz : m = 0
   · rw [if_pos hz, hz, Int.mul_one]
   · rw [if_neg hz, h0 m hm fun e => hz (pc_zero_iff e), Int.mul_zero]
 · have e1 : x.co m = (x.co 0 * Cl.one hp : Cl p sq).co m := congrArg (fun y : Cl p sq => y.co m) e
   rw [e1, ← Cl.co_mod, Cl.sm_co _ _ hm, Int.mul_emod, Cl.one_co hp hm, ← Int.mul_emod, if_neg fun hz => hne (by rw [hz, pc_zero]), Int.mul_zero, Int.zero_emod]
theorem Cl.vec_only (h6 : sq.length ≤ 6) (hp : 0 < p) (v : List Int) : onlyL (Cl.vec hp v : Cl p sq).l 1 = true := by
 refine (Cl.only_co h6 _ 1).2 fun m hm hne => ?_
 rw [← Cl.co_mod, Cl.vec_co hp _ hm, sumTo_zero fun i _ => if_neg fun e => hne (by rw [e, pc_pow]), Int.zero_emod]
theorem Cl.invo_par (hP : isP p = true) (h6 : sq.length ≤ 6) (x : Cl p sq) (c : Nat) (h : x.invo = sg c * x) : ∀ m, m < pw sq.length → x.co m ≠ 0 → pc m % 2 = c % 2 := fun m hm hne => by
 have h3 := (isP_ge hP).1
 have e1 : x.invo.co m % p = (sg c * x : Cl p sq).co m % p := congrArg (fun y : Cl p sq => y.co m % p) h
 rw [Cl.invo_co _ hm, Cl.sm_co _ _ hm, sgI_sg] at e1
 have hx := x.co_small m
 rcases Nat.mod_two_eq_zero_or_one (pc m) with ha | ha <;> rcases Nat.mod_two_eq_zero_or_one c with hb | hb
 · omega
 · exfalso
   have s1 : sg (pc m) = 1 := by unfold sg; rw [ha]; rfl
   have s2 : sg c = -1 := by unfold sg; rw [hb]; rfl
   rw [s1, s2, Int.one_mul, Int.neg_mul, Int.one_mul] at e1
   exact neg_ne hP hx hne e1
 · exfalso
   have s1 : sg (pc m) = -1 := by unfold sg; rw [ha]; rfl
   have s2 : sg c = 1 := by unfold sg; rw [hb]; rfl
   rw [s1, s2, Int.one_mul, Int.neg_mul, Int.one_mul] at e1
   exact neg_ne hP hx hne e1.symm
 · omega
theorem mixB_none {gs : List Int} {c : Int} (h : ∀ g ∈ gs, g % (2 : Int) = c) : mixB gs = false := by
 unfold mixB
 rw [List.any_eq_false]
 intro g hg
 have h0 : gs.getD 0 0 ∈ gs := getD_mem 0 (List.length_pos_of_mem hg)
 rw [h g hg, h _ h0]
 simp
theorem Cl.mix_none (hP : isP p = true) (h6 : sq.length ≤ 6) (x : Cl p sq) (c : Nat) (h : x.invo = sg c * x) : mixB (gradesL x.l) = false := by
 have hl : x.l.length ≤ 64 := by rw [x.len]; exact pw_le (k := 6) h6
 refine mixB_none (c := (c : Int) % 2) fun g hg => ?_
 obtain ⟨i, hi, h0, rfl⟩ := (gradesL_mem x.l hl g).1 hg
 have := x.invo_par hP h6 c h i (by rw [← x.len]; exact hi) h0
 omega
theorem Cl.nrm_co (x : Cl p sq) : nrmL p sq x.l = (x * x.rev).co 0 := by
 unfold nrmL Cl.co
 rw [Cl.mul_l, Cl.rev_l]
/-- What is told to be a versor. -/
theorem Cl.vers_iff (hP : isP p = true) (hp : 0 < p) (h6 : sq.length ≤ 6) (x : Cl p sq) : versB p sq sq.length x.l = true ↔
    nrmL p sq x.l ≠ 0 ∧ x * x.rev = nrmL p sq x.l * Cl.one hp ∧ mixB (gradesL x.l) = false ∧ ∀ i, i < sq.length → onlyL (x.invo * Cl.vec hp (unitRow sq.length i) * x.rev : Cl p sq).l 1 = true := by
 unfold versB
 have h3 := (isP_ge hP).1
 rw [Bool.and_eq_true, Bool.and_eq_true, Bool.and_eq_true, Bool.not_eq_true', Bool.not_eq_true', List.all_eq_true, beq_eq_false_iff_ne]
 have e1 : mulL p sq x.l (revL p x.l) = (x * x.rev).l := by rw [Cl.mul_l, Cl.rev_l]
 rw [e1, (x * x.rev).only_zero h6 hp, ← Cl.nrm_co, and_assoc, and_assoc]
 refine and_congr_right fun _ => and_congr_right fun _ => and_congr_right fun _ => ?_
 constructor
 · intro h i hi
   have := h i (by simpa using hi)
   unfold imgL at this
   rw [Cl.mul_l, Cl.mul_l, Cl.invo_l, Cl.rev_l, Cl.vec_l hp (unitRow_nums (by omega) _ _)]
   exact this
 · intro h i hi
   have := h i (by simpa using hi)
   rw [Cl.mul_l, Cl.mul_l, Cl.invo_l, Cl.rev_l, Cl.vec_l hp (unitRow_nums (by omega) _ _)] at this
   exact this
/-- A vector is a sum of multiples of unit vectors. -/
def Cl.sum (hp : 0 < p) : Nat → (Nat → Cl p sq) → Cl p sq
 | 0, _ => Cl.zero hp
 | n + 1, f => Cl.sum hp n f + f n
theorem Cl.zero_co (hp : 0 < p) {m : Nat} (hm : m < pw sq.length) : (Cl.zero hp : Cl p sq).co m % p = 0 := by
 unfold Cl.zero; rw [Cl.of_cg _ _ hm, Int.zero_emod]
theorem Cl.sum_co (hp : 0 < p) (f : Nat → Cl p sq) {m : Nat} (hm : m < pw sq.length) : ∀ n, (Cl.sum hp n f).co m % p = (sumTo n fun i => (f i).co m) % p := by
 intro n
 induction n with
 | zero => rw [show Cl.sum hp 0 f = Cl.zero hp from rfl, Cl.zero_co hp hm]; rfl
 | succ n ih =>
  rw [show Cl.sum hp (n + 1) f = Cl.sum hp n f + f n from rfl, Cl.add_co _ _ hm, Int.add_emod, ih, ← Int.add_emod, sumTo_succ]
theorem Cl.zero_mul (hp : 0 < p) (x : Cl p sq) : Cl.zero hp * x = Cl.zero hp := by
 have := Cl.zero_sm (x := (Cl.one hp : Cl p sq))
 rw [← this, Cl.sm_mul, Cl.one_mul, Cl.zero_sm, Cl.zero_sm]
theorem Cl.mul_zero (hp : 0 < p) (x : Cl p sq) : x * Cl.zero hp = Cl.zero hp := by
 have := Cl.zero_sm (x := (Cl.one hp : Cl p sq))
 rw [← this, Cl.mul_sm, Cl.mul_one, Cl.zero_sm, Cl.zero_sm]
/-- Products of vectors are versors. -/
theorem Cl.prod_vers (hP : isP p = true) (hp : 0 < p) (h6 : sq.length ≤ 6) (vs : List (List Int)) (hvs : ∀ v ∈ vs, bil sq v v % p ≠ 0) : versB p sq sq.length (Cl.prod hp vs : Cl p sq).l = true ∧ nrmL p sq (Cl.prod hp vs : Cl p sq).l = nrmP sq vs % p := by
 have hn : nrmL p sq (Cl.prod hp vs : Cl p sq).l = nrmP sq vs % p := by
  rw [Cl.nrm_co, Cl.prod_norm hp hP h6, ← Cl.co_mod, Cl.sm_co _ _ (pw_pos _), Int.mul_emod, Cl.one_co hp (pw_pos _), ← Int.mul_emod, if_pos rfl, Int.mul_one]
 refine ⟨(Cl.vers_iff hP hp h6 _).2 ⟨?_, ?_, Cl.mix_none hP h6 _ _ (Cl.prod_invo hp vs), fun i _ => ?_⟩, hn⟩
 · rw [hn]; exact nrmP_ne hP vs hvs
 · rw [hn, Cl.prod_norm hp hP h6]
   exact Cl.sm_cg (Int.emod_emod_of_dvd _ (Int.dvd_refl p)).symm _
 · rw [Cl.prod_acts hp hP h6 vs hvs (unitRow_len _ _)]
   refine (Cl.only_co h6 _ 1).2 fun m hm hne => ?_
   rw [← Cl.co_mod, Cl.sm_co _ _ hm, (Cl.only_co h6 _ 1).1 (Cl.vec_only h6 hp _) m hm hne, Int.mul_zero, Int.zero_emod]
end
end Go.Proofs.YtmkjdpnoloofjaaGreat
namespace Go.Proofs.YtmkjdpnoloofjaaGreat
open Go.RowKit
/-- The geometric product of vectors. -/
def versL (P : Int) (sq : List Int) (n : Nat) (L : List (List Int)) : List Int := L.foldl (fun o v => mulL P sq o (vecTo n v n)) (bladeL n 0)
theorem versL_snoc (P : Int) (sq : List Int) (n : Nat) (L : List (List Int)) (v : List Int) : versL P sq n (L ++ [v]) = mulL P sq (versL P sq n L) (vecTo n v n) := by unfold versL; rw [List.foldl_append]; rfl
theorem mulL_len' (P : Int) (sq xs ys : List Int) : (mulL P sq xs ys).length = xs.length := by unfold mulL; rw [prodL_len]
theorem versL_len (P : Int) (sq : List Int) (n : Nat) : ∀ (k : Nat) (L : List (List Int)), L.length = k → (versL P sq n L).length = pw n := by
 intro k
 induction k with
 | zero => intro L h; rw [List.eq_nil_of_length_eq_zero h]; exact bladeL_len n 0
 | succ k ih =>
  intro L h
  have hne : L ≠ [] := fun e => by rw [e] at h; simp at h
  rw [← List.dropLast_concat_getLast hne, versL_snoc, mulL_len']
  exact ih _ (by rw [List.length_dropLast, h]; rfl)
theorem versL_nums {P : Int} (hp : 2 ≤ P) (sq : List Int) (n : Nat) (L : List (List Int)) : NumsL P (versL P sq n L) := by
 by_cases h : L = []
 · rw [h]; exact bladeL_nums hp n 0
 · rw [← List.dropLast_concat_getLast h, versL_snoc]
   exact mulL_nums (by omega) _ _ _
set_option maxHeartbeats 3200000 in
set_option maxRecDepth 8000 in
theorem versor_any (P : Int) (A : Option Addr) (n c : Nat) (sq : List Int) (B : Option Addr) (m d : Nat) (L : List (List Int)) (w : World) (HP : isP P = true) (hn : n ≤ 6) (h0 : 0 < n) (hm : m ≤ 65536) (ha : Rd w A n (ints sq)) (hs : NumsL P sq) (hb : RdII w B m L) (hL : Tab P n L) :
    Calls Tryz.prog 94 #[.agg #[.int .i64 P, .slice A n c], .slice B m d] w fun e w' => ∃ A' c', e = .returned (.slice A' (pw n) c') ∧ MkI w w' A' (pw n) c' (versL P sq n L) := by
 obtain ⟨hp3, hp2⟩ := isP_ge HP
 have hp : 2 ≤ P := by omega
 have HML := Lib.hid hb.len
 have HTL := Lib.hid hL
 have hB0 : Below w.heap.size w (w.alloc (.cells #[.int .i64 P, .slice A n c] 26)) := zG.alloc (Nat.le_refl _) _
 have k0 : Blk (w.alloc (.cells #[.int .i64 P, .slice A n c] 26)) w.heap.size 26 #[.int .i64 P, .slice A n c] := Blk.new _ _ _
 obtain ⟨q0, q1⟩ := k0.two
 clear hL
 go_enter Tryz.func94, Tryz.ntmps94
 go_wp2_with fail
 refine (one_any P A n c _ (by omega)).mono ?_
 rintro e w1 ⟨G, c1, rfl, hM1⟩
 have k1 := k0.below hM1.b k0.lt
 have hM := hM1.after hB0
 clear hM1 hB0 k0 q0 q1
 go_wp2
 go_loopw [5, 7, 12] (fun out _ i wr => ∃ (k : Nat) (G : Option Addr) (cg : Nat), k ≤ m ∧ i = .int .i64 k ∧ out = .slice G (pw n) cg ∧ MkI w wr G (pw n) cg (versL P sq n (L.take k)) ∧ Blk wr w.heap.size 26 #[.int .i64 P, .slice A n c]) (fun _ _ i _ => m - (intOf i).toNat)
 case atStart => exact ⟨0, _, _, by omega, rfl, rfl, by simpa [versL] using hM, k1⟩
 case round =>
  obtain ⟨k, G, cg, hk, rfl, rfl, hM2, k2⟩ := hrel
  clear hM k1
  obtain ⟨q0, q1⟩ := k2.two
  by_cases hlt : k < m
  · obtain ⟨g, o, rfl, hxk, A1, c1', hcx, hr, hcc⟩ := (hb.below hM2.b).at_ hlt
    have HRN := Lib.hid (HTL.out L[k] (List.getElem_mem hxk))
    have hl1 := HRN.out.1
    rw [hl1] at hcx hr
    have HR := Lib.hid hr
    have HT : Hid (versL P sq n (L.take (k + 1)) = mulL P sq (versL P sq n (L.take k)) (vecTo n L[k] n)) := Lib.hid (by rw [List.take_succ_eq_append_getElem hxk, versL_snoc])
    have HN := Lib.hid (versL_nums hp sq n (L.take k))
    have HLN := Lib.hid (versL_len P sq n _ (L.take k) rfl)
    have HM2 := Lib.hid hM2
    have HA := Lib.hid (ha.below hM2.b)
    have HSQ := Lib.hid hs
    obtain ⟨v, hv⟩ : ∃ v, v = L[k] := ⟨_, rfl⟩
    rw [← hv] at HRN HR HT
    obtain ⟨O, hO⟩ : ∃ O, O = versL P sq n (L.take k) := ⟨_, rfl⟩
    rw [← hO] at HT HN HM2 HLN
    have HTT := Lib.hid (timesL_two P sq n O (vecTo n v n) HLN.out HN.out)
    clear hl1 hr hcc hv hO hM2 hxk
    go_wp2
    refine wp_obs 7 [[],[],[],[],[2,3],[1,2,3,4],[0,1,2,3,4,5],[0,1,2,3,4,5,6]] [VIs (.agg #[.int .i64 P, .slice A n c]), VIs (.slice G (pw n) cg), VIs (.agg #[.int .i64 P, .slice A n c]), VIs (.slice A1 n c1'), VSl wr (pw n) (vecTo n v n), VRow 2 [O, vecTo n v n], VSl wr (pw n) (mulL P sq O (vecTo n v n))] (fun w' => Blk w' w.heap.size 26 #[.int .i64 P, .slice A n c] ∧ Below wr.heap.size wr w') (by kernel_rfl) (by kernel_rfl) (fun _ _ h hb => ⟨h.1.below hb h.1.lt, h.2.trans (hb.mono h.2.size)⟩) (⟨k2.drew, zG.drew⟩) (fun x => ?_)
    refine zS (fun w' hS hV K hK => ?_) ?_
    · obtain ⟨q0, q1⟩ := hS.1.two; go_simp; exact zO hK
    refine zS (fun w' hS hV K hK => ?_) ?_
    · obtain ⟨q0, q1⟩ := hS.1.two; go_simp; exact zO hK
    refine zS (fun w' hS hV K hK => ?_) ?_
    · obtain ⟨q0, q1⟩ := hS.1.two; go_simp; exact zO hK
    refine zS (fun w' hS hV K hK => ?_) ?_
    · obtain ⟨q0, q1⟩ := hS.1.two; go_simp; exact zO hK
    refine zS (fun w' hS hV K hK => ?_) ?_
    · have e2 := zQ hV 2; have e3 := zQ hV 3; obtain ⟨q0, q1⟩ := hS.1.two; go_simp; refine (vector_any P A n c _ _ v _ (by omega) (HR.out.below hS.2)).mono ?_; rintro e v1 ⟨A2, c2, rfl, hM⟩; exact hK.out _ _ _ rfl rfl ⟨_, _, rfl, hM.after hS.2⟩ hM.b
    refine zS (fun w' hS hV K hK => ?_) ?_
    · have e1 := zQ hV 1; obtain ⟨A4, c4, e4, h4⟩ := hV 4 (by decide); obtain ⟨q0, q1⟩ := hS.1.two; go_simp; exact hK.out _ _ _ rfl rfl ⟨_, _, rfl, rdII_two (Blk.new _ _ _) (Rd.below (HM2.out.below hS.2).rd (zG.alloc (Nat.le_refl _) _)) (Rd.below h4.rd (zG.alloc (Nat.le_refl _) _)) HM2.out.2.cap h4.2.cap⟩ (zG.alloc (Nat.le_refl _) _)
    refine zS (fun w' hS hV K hK => ?_) ?_
    · have e0 := zQ hV 0; obtain ⟨A4, c4, e4, h4⟩ := hV 4 (by decide); obtain ⟨A5, c5, e5, h5⟩ := hV 5 (by decide); obtain ⟨q0, q1⟩ := hS.1.two; go_simp; refine (times_any P A n c sq _ 2 _ [O, vecTo n v n] _ hp hp2 hn (by omega) (HA.out.below hS.2) HSQ.out h5 (all_two ⟨HN.out, HLN.out⟩ ⟨vecTo_nums (by omega) n _ HRN.out.2 n, vecTo_len _ _ _⟩)).mono ?_; rw [HTT.out]; rintro e v1 ⟨A2, c2, rfl, hM⟩; exact hK.out _ _ _ rfl rfl ⟨_, _, rfl, hM.after hS.2⟩ hM.b
    refine fun w' hS hV => ?_
    have e0 := zT hV 0
    have e1 := zT hV 1
    have e2 := zT hV 2
    have e3 := zT hV 3
    obtain ⟨A4, c4, e4, h4⟩ := hV 4 (by decide)
    obtain ⟨A5, c5, e5, h5⟩ := hV 5 (by decide)
    obtain ⟨A6, c6, e6, h6⟩ := hV 6 (by decide)
    simp only [e0, e1, e2, e3, e4, e5, e6]
    clear e0 e1 e2 e3 e4 e5 e6
    refine any_one (j := 7) (by kernel_rfl) (Eq.trans (by simp only [zA, zB, zC]; exact rfl) rfl) (fun K hK => ?_)
    go_simp
    refine hK.out _ _ (wpAny_done (by kernel_rfl) ?_ _)
    have k3 := hS.1
    have HMN := Lib.hid (h6.after HM2.out.b)
    clear hS h6 h4 h5 HTT
    go_wp2
    go_roundw
    case rel => exact ⟨k + 1, A6, c6, by omega, by go_num, rfl, by rw [HT.out]; exact HMN.out, k3⟩
    case measure => simp [intOf]; omega
  · obtain rfl : k = m := by omega
    rw [List.take_of_length_le (by rw [HML.out]; exact Nat.le_refl _)] at hM2
    go_wp2
    go_ret
    exact ⟨_, _, rfl, hM2⟩
set_option maxHeartbeats 800000 in
set_option maxRecDepth 8000 in
theorem norm_any (P : Int) (A : Option Addr) (n c : Nat) (sq : List Int) (X : Option Addr) (cx : Nat) (v : List Int) (w : World) (hp : 2 ≤ P) (hp2 : P ≤ 13) (hn : n ≤ 6) (ha : Rd w A n (ints sq)) (hs : NumsL P sq) (hx : Rd w X n (ints v)) (hv : NumsL P v) :
    Calls Tryz.prog 114 #[.agg #[.int .i64 P, .slice A n c], .slice X n cx] w fun e w' => e = .returned (.int .i64 (pairL P sq v v)) ∧ Below w.heap.size w w' := by
 have hB0 : Below w.heap.size w (w.alloc (.cells #[.int .i64 P, .slice A n c] 26)) := zG.alloc (Nat.le_refl _) _
 have k0 : Blk (w.alloc (.cells #[.int .i64 P, .slice A n c] 26)) w.heap.size 26 #[.int .i64 P, .slice A n c] := Blk.new _ _ _
 have hpr := pair_any P A n c sq X cx v X cx v (w.alloc (.cells #[.int .i64 P, .slice A n c] 26)) hp hp2 hn (ha.below hB0) hs (hx.below hB0) hv (hx.below hB0) hv
 obtain ⟨q0, q1⟩ := k0.two
 go_enter Tryz.func114, Tryz.ntmps114
 go_wp2_with fail
 refine hpr.mono ?_
 rintro e w2 ⟨rfl, hb⟩
 go_wp2
 go_ret
 exact ⟨rfl, hB0.trans (hb.mono hB0.size)⟩
theorem pairL_small {P : Int} (hp : 2 ≤ P) (sq v u : List Int) : 0 ≤ pairL P sq v u ∧ pairL P sq v u < P := by
 unfold pairL dotL
 exact ⟨Int.emod_nonneg _ (by omega), Int.emod_lt_of_pos _ (by omega)⟩
/-- The reflection in u of v, as the program computes it. -/
def rflL (P : Int) (sq u v : List Int) : List Int := plusL P v u (-2 * pairL P sq u v * invF P (pairL P sq u u))
theorem rflL_len (P : Int) (sq u v : List Int) : (rflL P sq u v).length = v.length := plusL_len _ _ _ _
theorem rflL_nums {P : Int} (hp : 0 < P) (sq u v : List Int) : NumsL P (rflL P sq u v) := plusL_nums hp _ _ _
theorem mul_two_small {P a b : Int} (h2 : P ≤ 13) (ha : 0 ≤ a ∧ a < P) (hb : 0 ≤ b ∧ b < P) : 0 ≤ a * b ∧ a * b ≤ 144 :=
 ⟨Int.mul_nonneg ha.1 hb.1, Int.le_trans (Int.mul_le_mul_of_nonneg_right (show a ≤ 12 by omega) hb.1) (by omega)⟩
set_option maxHeartbeats 3200000 in
set_option maxRecDepth 8000 in
theorem reflected_any (P : Int) (A : Option Addr) (n c : Nat) (sq : List Int) (U : Option Addr) (cu : Nat) (u : List Int) (Y : Option Addr) (cy : Nat) (v : List Int) (w : World) (HP : isP P = true) (hn : n ≤ 6) (ha : Rd w A n (ints sq)) (hs : NumsL P sq) (hx : Rd w U n (ints u)) (hu : NumsL P u) (hy : Rd w Y n (ints v)) (hv : NumsL P v) (hne : ¬ pairL P sq u u = 0) :
    Calls Tryz.prog 255 #[.agg #[.int .i64 P, .slice A n c], .slice U n cu, .slice Y n cy] w fun e w' => ∃ A' c', e = .returned (.slice A' n c') ∧ MkI w w' A' n c' (rflL P sq u v) := by
 obtain ⟨hp3, hp2⟩ := isP_ge HP
 have hp : 2 ≤ P := by omega
 have ha1 := pairL_small hp sq u v
 have hb1 := pairL_small hp sq u u
 have hi1 := invF_small hp (pairL P sq u u)
 have HM1 := mul_two_small hp2 ha1 hi1
 have HSA := Lib.hid hs
 have HUA := Lib.hid hu
 have HVA := Lib.hid hv
 obtain ⟨R, hR⟩ : ∃ R, R = rflL P sq u v := ⟨_, rfl⟩
 have HR := Lib.hid hR
 have HPR := Lib.hid fun (w' : World) (h : Below w.heap.size w w') => pair_any P A n c sq U cu u Y cy v w' hp hp2 hn (ha.below h) hs (hx.below h) hu (hy.below h) hv
 have HNR := Lib.hid fun (w' : World) (h : Below w.heap.size w w') => norm_any P A n c sq U cu u w' hp hp2 hn (ha.below h) hs (hx.below h) hu
 have HIN := Lib.hid fun (w' : World) => inv_any P (pairL P sq u u) w' hp hp2 (by omega) (by omega)
 have HPL := Lib.hid fun (w' : World) (h : Below w.heap.size w w') => plus_any P Y n cy U n cu (-2 * pairL P sq u v * invF P (pairL P sq u u)) v u w' hp hp2 (by omega) (Nat.le_refl _) (hy.below h) hv (hx.below h) hu (by rw [Int.mul_assoc]; omega) (by rw [Int.mul_assoc]; omega)
 rw [show plusL P v u (-2 * pairL P sq u v * invF P (pairL P sq u u)) = R from hR.symm] at HPL
 obtain ⟨a, hA⟩ : ∃ a, a = pairL P sq u v := ⟨_, rfl⟩
 obtain ⟨b, hB⟩ : ∃ b, b = pairL P sq u u := ⟨_, rfl⟩
 rw [← hB] at HNR HIN HPL HM1 hi1 hb1 hne
 rw [← hA] at HPR HPL HM1 ha1
 obtain ⟨i, hi⟩ : ∃ i, i = invF P b := ⟨_, rfl⟩
 rw [← hi] at HIN HPL HM1 hi1
 have W1 := i64_fit (-2 * a) (by omega) (by omega)
 have W2 := i64_fit (-2 * a * i) (by rw [Int.mul_assoc]; omega) (by rw [Int.mul_assoc]; omega)
 have hB0 : Below w.heap.size w (w.alloc (.cells #[.int .i64 P, .slice A n c] 26)) := zG.alloc (Nat.le_refl _) _
 have k0 : Blk (w.alloc (.cells #[.int .i64 P, .slice A n c] 26)) w.heap.size 26 #[.int .i64 P, .slice A n c] := Blk.new _ _ _
 obtain ⟨q0, q1⟩ := k0.two
 clear hA hB hi hR hs hu hv ha hx hy HP
 go_enter Tryz.func255, Tryz.ntmps255
 go_wp2
 refine wp_obs 18 [[],[0],[],[],[],[],[],[4,5,6],[4,5,6,7],[],[9],[],[],[11,12],[9,10,11,12,13],[4,5,6,7,8,9,10,11,12,13,14],[0,1,2,3,4,5,6,7,8,9,10,11,12,13,14,15],[0,1,2,3,4,5,6,7,8,9,10,11,12,13,14,15,16]] [VIs (.agg #[.int .i64 P, .slice A n c]), VIs (.int .i64 (P)), VIs (.slice Y n cy), VIs (.slice U n cu), VIs (.agg #[.int .i64 P, .slice A n c]), VIs (.slice U n cu), VIs (.slice Y n cy), VIs (.int .i64 (a)), VIs (.int .i64 (-2 * a)), VIs (.agg #[.int .i64 P, .slice A n c]), VIs (.int .i64 (P)), VIs (.agg #[.int .i64 P, .slice A n c]), VIs (.slice U n cu), VIs (.int .i64 (b)), VIs (.int .i64 (i)), VIs (.int .i64 (-2 * a * i)), VSl w n R, VSl w n R] (fun w' => Blk w' w.heap.size 26 #[.int .i64 P, .slice A n c] ∧ Below w.heap.size w w') (by kernel_rfl) (by kernel_rfl) (fun _ _ h hb => ⟨h.1.below hb h.1.lt, h.2.trans (hb.mono h.2.size)⟩) (⟨k0.drew, hB0.drew⟩) (fun x => ?_)
 refine zS (fun w' hS hV K hK => ?_) ?_
 · obtain ⟨q0, q1⟩ := hS.1.two; go_simp; exact zO hK
 refine zS (fun w' hS hV K hK => ?_) ?_
 · have e0 := zQ hV 0; obtain ⟨q0, q1⟩ := hS.1.two; go_simp; refine (field_any _ _ _ _ _).mono ?_; rintro e v1 ⟨rfl, hb⟩; exact hK.out _ _ _ rfl rfl rfl hb
 refine zS (fun w' hS hV K hK => ?_) ?_
 · obtain ⟨q0, q1⟩ := hS.1.two; go_simp; exact zO hK
 refine zS (fun w' hS hV K hK => ?_) ?_
 · obtain ⟨q0, q1⟩ := hS.1.two; go_simp; exact zO hK
 refine zS (fun w' hS hV K hK => ?_) ?_
 · obtain ⟨q0, q1⟩ := hS.1.two; go_simp; exact zO hK
 refine zS (fun w' hS hV K hK => ?_) ?_
 · obtain ⟨q0, q1⟩ := hS.1.two; go_simp; exact zO hK
 refine zS (fun w' hS hV K hK => ?_) ?_
 · obtain ⟨q0, q1⟩ := hS.1.two; go_simp; exact zO hK
 refine zS (fun w' hS hV K hK => ?_) ?_
 · have e4 := zQ hV 4; have e5 := zQ hV 5; have e6 := zQ hV 6; obtain ⟨q0, q1⟩ := hS.1.two; go_simp; refine (HPR.out _ hS.2).mono ?_; rintro e v1 ⟨rfl, hb⟩; exact hK.out _ _ _ rfl rfl rfl hb
 refine zS (fun w' hS hV K hK => ?_) ?_
 · have e7 := zQ hV 7; obtain ⟨q0, q1⟩ := hS.1.two; go_simp; exact zO hK
 refine zS (fun w' hS hV K hK => ?_) ?_
 · obtain ⟨q0, q1⟩ := hS.1.two; go_simp; exact zO hK
 refine zS (fun w' hS hV K hK => ?_) ?_
 · have e9 := zQ hV 9; obtain ⟨q0, q1⟩ := hS.1.two; go_simp; refine (field_any _ _ _ _ _).mono ?_; rintro e v1 ⟨rfl, hb⟩; exact hK.out _ _ _ rfl rfl rfl hb
 refine zS (fun w' hS hV K hK => ?_) ?_
 · obtain ⟨q0, q1⟩ := hS.1.two; go_simp; exact zO hK
 refine zS (fun w' hS hV K hK => ?_) ?_
 · obtain ⟨q0, q1⟩ := hS.1.two; go_simp; exact zO hK
 refine zS (fun w' hS hV K hK => ?_) ?_
 · have e11 := zQ hV 11; have e12 := zQ hV 12; obtain ⟨q0, q1⟩ := hS.1.two; go_simp; refine (HNR.out _ hS.2).mono ?_; rintro e v1 ⟨rfl, hb⟩; exact hK.out _ _ _ rfl rfl rfl hb
 refine zS (fun w' hS hV K hK => ?_) ?_
 · have e10 := zQ hV 10; have e13 := zQ hV 13; obtain ⟨q0, q1⟩ := hS.1.two; go_simp; refine (HIN.out _).mono ?_; rintro e v1 ⟨rfl, rfl⟩; exact zO hK
 refine zS (fun w' hS hV K hK => ?_) ?_
 · have e8 := zQ hV 8; have e14 := zQ hV 14; obtain ⟨q0, q1⟩ := hS.1.two; go_simp; exact zO hK
 refine zS (fun w' hS hV K hK => ?_) ?_
 · have e1 := zQ hV 1; have e2 := zQ hV 2; have e3 := zQ hV 3; have e15 := zQ hV 15; obtain ⟨q0, q1⟩ := hS.1.two; go_simp; refine (HPL.out _ hS.2).mono ?_; rintro e v1 ⟨A2, c2, rfl, hM⟩; exact hK.out _ _ _ rfl rfl ⟨_, _, rfl, hM.after hS.2⟩ hM.b
 refine zS (fun w' hS hV K hK => ?_) ?_
 · obtain ⟨A16, c16, e16, h16⟩ := hV 16 (by decide); obtain ⟨q0, q1⟩ := hS.1.two; go_simp; exact hK.out _ _ _ rfl rfl ⟨_, _, rfl, h16⟩ zG
 refine fun w' hS hV => ?_
 have e0 := zT hV 0
 have e1 := zT hV 1
 have e2 := zT hV 2
 have e3 := zT hV 3
 have e4 := zT hV 4
 have e5 := zT hV 5
 have e6 := zT hV 6
 have e7 := zT hV 7
 have e8 := zT hV 8
 have e9 := zT hV 9
 have e10 := zT hV 10
 have e11 := zT hV 11
 have e12 := zT hV 12
 have e13 := zT hV 13
 have e14 := zT hV 14
 have e15 := zT hV 15
 obtain ⟨A16, c16, e16, h16⟩ := hV 16 (by decide)
 obtain ⟨A17, c17, e17, h17⟩ := hV 17 (by decide)
 simp only [e0, e1, e2, e3, e4, e5, e6, e7, e8, e9, e10, e11, e12, e13, e14, e15, e16, e17]
 clear e0 e1 e2 e3 e4 e5 e6 e7 e8 e9 e10 e11 e12 e13 e14 e15 e16 e17
 refine wpAny_done (by kernel_rfl) ?_ _
 go_wp2
 go_ret
 exact ⟨_, _, rfl, HR.out ▸ h17⟩
/-- The code of a list of at most 16 vectors. -/
def codeLs (P : Int) (sq : List Int) (vs : List (List Int)) : Int := if codeV P sq vs = 0 then (if 16 < vs.length then 2 else 0) else codeV P sq vs
theorem codeV_sp {P : Int} {sq : List Int} {vs : List (List Int)} (h : codeV P sq vs = 0) : isSp P sq = true ∧ ∀ v ∈ vs, isVe P sq v = true := by
 unfold codeV at h
 by_cases h1 : isSp P sq = true
 · rw [if_pos h1] at h
   refine ⟨h1, fun v hv => ?_⟩
   cases h2 : isVe P sq v
   · rw [if_pos (List.any_eq_true.2 ⟨v, hv, by rw [h2]; rfl⟩)] at h
     exact absurd h (by decide)
   · rfl
 · rw [if_neg h1] at h; exact absurd h (by decide)
theorem codeV_mk {P : Int} {sq : List Int} {vs : List (List Int)} (h1 : isSp P sq = true) (h : ∀ v ∈ vs, isVe P sq v = true) : codeV P sq vs = 0 := by
 unfold codeV
 rw [if_pos h1, if_neg]
 intro hh
 obtain ⟨v, hv, e⟩ := List.any_eq_true.1 hh
 rw [h v hv] at e
 cases e
theorem isVe_spec5 {P : Int} {sq ys : List Int} (h : isVe P sq ys = true) : ys.length = sq.length ∧ NumsL P ys := by
 unfold isVe at h
 simp only [Bool.and_eq_true, beq_iff_eq] at h
 exact ⟨by have := h.1; omega, nums_numsL h.2⟩
theorem isVe_mk {P : Int} {sq ys : List Int} (h1 : ys.length = sq.length) (h2 : NumsL P ys) : isVe P sq ys = true := by
 unfold isVe nums
 rw [h1, Bool.and_eq_true]
 refine ⟨by simp, List.all_eq_true.2 fun x hx => ?_⟩
 have := h2 x hx
 simp [inR]
 omega
theorem codeV_spec {P : Int} {sq : List Int} {vs : List (List Int)} (h : codeV P sq vs = 0) : isP P = true ∧ 2 ≤ P ∧ P ≤ 13 ∧ 1 ≤ sq.length ∧ sq.length ≤ 6 ∧ NumsL P sq ∧ ∀ v ∈ vs, v.length = sq.length ∧ NumsL P v := by
 obtain ⟨h1, h2⟩ := codeV_sp h
 obtain ⟨hp, hd1, hd2, hnum⟩ := isSp_dim h1
 have := isP_ge hp
 exact ⟨hp, by omega, by omega, hd1, hd2, nums_numsL hnum, fun v hv => isVe_spec5 (h2 v hv)⟩
set_option maxHeartbeats 1600000 in
set_option maxRecDepth 8000 in
theorem checkList_any (P : Int) (A : Option Addr) (n c : Nat) (sq : List Int) (B : Option Addr) (m d : Nat) (L : List (List Int)) (w : World) (hn : n ≤ 1048576) (hm : m ≤ 1048576) (ha : Rd w A n (ints sq)) (hb : RdII w B m L) (hL : ∀ ys ∈ L, ys.length ≤ 1048576) :
    Calls Tryz.prog 115 #[.agg #[.int .i64 P, .slice A n c], .slice B m d] w fun e w' => e = .returned (.int .i64 (codeLs P sq L)) ∧ Below w.heap.size w w' := by
 have hB0 : Below w.heap.size w (w.alloc (.cells #[.int .i64 P, .slice A n c] 26)) := zG.alloc (Nat.le_refl _) _
 have k0 : Blk (w.alloc (.cells #[.int .i64 P, .slice A n c] 26)) w.heap.size 26 #[.int .i64 P, .slice A n c] := Blk.new _ _ _
 have hli := checkVectors_any P A B n c m d sq L (w.alloc (.cells #[.int .i64 P, .slice A n c] 26)) hn hm (ha.below hB0) (hb.below hB0) hL
 have hlen := hb.len
 obtain ⟨r1, h1⟩ : ∃ r, r = codeV P sq L := ⟨_, rfl⟩
 rw [← h1] at hli
 obtain ⟨q0, q1⟩ := k0.two
 by_cases e1 : r1 = 0
 · have b1 : (r1 != 0) = false := by simp [e1]
   by_cases h16 : m ≤ 16
   · have HC : Hid (codeLs P sq L = 0) := Lib.hid (by unfold codeLs; rw [← h1, if_pos e1, if_neg (by omega)])
     have t1 : decide ((16 : Int) < (m : Int)) = false := by simp; omega
     clear h1 e1 hlen
     go_enter Tryz.func115, Tryz.ntmps115
     go_wp2_with fail
     refine hli.mono ?_
     rintro e w1 ⟨rfl, hb1⟩
     go_wp2
     go_ret
     exact ⟨ret_int HC.out.symm, hB0.trans (hb1.mono hB0.size)⟩
   · have HC : Hid (codeLs P sq L = 2) := Lib.hid (by unfold codeLs; rw [← h1, if_pos e1, if_pos (by omega)])
     have t1 : decide ((16 : Int) < (m : Int)) = true := by simp; omega
     clear h1 e1 hlen
     go_enter Tryz.func115, Tryz.ntmps115
     go_wp2_with fail
     refine hli.mono ?_
     rintro e w1 ⟨rfl, hb1⟩
     go_wp2
     go_ret
     exact ⟨ret_int HC.out.symm, hB0.trans (hb1.mono hB0.size)⟩
 · have b1 : (r1 != 0) = true := by simp [e1]
   have HC : Hid (codeLs P sq L = r1) := Lib.hid (by unfold codeLs; rw [← h1, if_neg e1])
   clear h1 e1 hlen
   go_enter Tryz.func115, Tryz.ntmps115
   go_wp2_with fail
   refine hli.mono ?_
   rintro e w1 ⟨rfl, hb1⟩
   go_wp2
   go_ret
   exact ⟨ret_int HC.out.symm, hB0.trans (hb1.mono hB0.size)⟩
set_option maxHeartbeats 1600000 in
set_option maxRecDepth 8000 in
theorem NormOf_ok (P : Int) (A : Option Addr) (n c : Nat) (sq : List Int) (X : Option Addr) (cx : Nat) (v : List Int) (w : World) (hsp : isSp P sq = true) (ha : Rd w A n (ints sq)) (hx : Rd w X n (ints v)) (hcx : n ≤ cx) (hv : NumsL P v) :
    Calls Tryz.prog 34 #[.agg #[.int .i64 P, .slice A n c], .slice X n cx] w fun e w' => e = .returned (.tuple #[.int .i64 (pairL P sq v v), .int .i64 0]) ∧ Below w.heap.size w w' := by
 have hB0 : Below w.heap.size w (w.alloc (.cells #[.int .i64 P, .slice A n c] 26)) := zG.alloc (Nat.le_refl _) _
 have k0 : Blk (w.alloc (.cells #[.int .i64 P, .slice A n c] 26)) w.heap.size 26 #[.int .i64 P, .slice A n c] := Blk.new _ _ _
 have hsl := ha.lenI
 obtain ⟨HP, hd1, hd2, hnum⟩ := isSp_dim hsp
 obtain ⟨hp3, hp2⟩ := isP_ge HP
 have hB1 : Below w.heap.size w ((w.alloc (.cells #[.int .i64 P, .slice A n c] 26)).alloc (.cells #[.slice X n cx] 24)) := hB0.alloc (by simp) _
 have k1 : Blk ((w.alloc (.cells #[.int .i64 P, .slice A n c] 26)).alloc (.cells #[.slice X n cx] 24)) w.heap.size 26 #[.int .i64 P, .slice A n c] := k0.alloc _
 have hck := checkVectors_any P A (some ⟨w.heap.size + 1, 0, none⟩) n c 1 1 sq [v] ((w.alloc (.cells #[.int .i64 P, .slice A n c] 26)).alloc (.cells #[.slice X n cx] 24)) (by omega) (by omega) (ha.below hB1) (rdII_one' (Blk.newAt3 (by simp)) (hx.below hB1) hcx) (all_one (by rw [hx.lenI]; omega))
 rw [codeV_mk hsp (all_one (isVe_mk (by rw [hx.lenI, hsl]) hv))] at hck
 have HN := Lib.hid (nums_numsL hnum)
 have HVN := Lib.hid hv
 rw [hsl] at hd1 hd2
 obtain ⟨q0, q1⟩ := k1.two
 clear hsl hnum hv hsp k0 hB0
 go_enter Tryz.func34, Tryz.ntmps34
 go_wp2_with fail
 refine hck.mono ?_
 rintro e w2 ⟨rfl, hb2⟩
 have hB2 := hB1.trans (hb2.mono hB1.size)
 have k2 := k1.below hb2 k1.lt
 clear q0 q1 hck
 obtain ⟨q0, q1⟩ := k2.two
 go_wp2_with fail
 refine (norm_any P A n c sq X cx v w2 (by omega) hp2 (by omega) (ha.below hB2) HN.out (hx.below hB2) HVN.out).mono ?_
 rintro e w3 ⟨rfl, hb3⟩
 go_wp2
 go_ret2
 exact ⟨rfl, hB2.trans (hb3.mono hB2.size)⟩
end Go.Proofs.YtmkjdpnoloofjaaGreat

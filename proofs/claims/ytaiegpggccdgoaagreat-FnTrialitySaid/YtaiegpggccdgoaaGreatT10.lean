/-
  LawFnTriality: part 10 of the texts that the proof needs. No condition.
-/
import Derived.Test.YtaiegpggccdgoaaGreatT9
namespace Go.Proofs.YtaiegpggccdgoaaGreat
open Go Go.RowKit
theorem pureC_ref {p : Int} (hp : 0 < p) {k : Nat} (st xs : List Int) : sumL p (sumL p (leftDL p k st xs) (rightDL p k st xs) 1) (sumL p (leftDL p k st xs) (rightDL p k st xs) 1) (p - 2) = (pureC p k st xs) := by
 have hl := leftDL_tab hp k st xs
 have hSl : (sumL p (leftDL p k st xs) (rightDL p k st xs) 1).length = pw k := by unfold sumL; rw [tab_len, hl.2]
 unfold pureC
 obtain ⟨S, hS⟩ : ∃ z, z = (sumL p (leftDL p k st xs) (rightDL p k st xs) 1) := ⟨_, rfl⟩
 rw [← hS] at hSl ⊢
 unfold sumL
 rw [hSl]
 refine tab_congr fun i hi => list_ext_getD 0 (by rw [plusL_len, scaleL_len]) fun j hj => ?_
 rw [plusL_len] at hj
 rw [plusL_getD _ _ hj, scaleL_getD _ hj]
 rw [show (S.getD i []).getD j 0 + (p - 2) * (S.getD i []).getD j 0 = (S.getD i []).getD j 0 * -1 + p * (S.getD i []).getD j 0 by rw [Int.sub_mul]; omega, Int.add_mul_emod_self_left]
theorem rdII_one {w : World} {g : Nat} {X : Option Addr} {n cx : Nat} {xs : List Int} (h : Blk w g 24 #[.slice X n cx]) (hx : Rd w X n (ints xs)) (hcx : n ≤ cx) : RdII w (some ⟨g, 0, none⟩) 1 [xs] := by
 have hl : xs.length = n := hx.lenI
 refine ⟨[.slice X n cx], ⟨rfl, fun _ => ⟨g, 0, rfl, fun j u hu => ?_⟩⟩, rfl, fun j hj => ?_⟩
 · match j, hu with
   | 0, hu => simp at hu; subst hu; exact h.cell 0
 · obtain rfl : j = 0 := by simpa using hj
   exact ⟨X, cx, by simp [hl], by simpa [hl] using hx, by simpa [hl] using hcx⟩
/-- The code of PureTriple. -/
def pureCode (p : Int) (st xs : List Int) : Int := if codeT p st [xs] [] = 0 then (if xs.getD 0 0 = 0 then 0 else 5) else codeT p st [xs] []
/-- What PureTriple returns. -/
def PureP (p : Int) (st xs : List Int) (w : World) (e : Ending) (w' : World) : Prop :=
 (pureCode p st xs ≠ 0 ∧ e = .returned (.tuple #[.agg #[.slice none 0 0, .slice none 0 0, .slice none 0 0], .int .i64 (pureCode p st xs)]) ∧ Below w.heap.size w w') ∨
 (pureCode p st xs = 0 ∧ ∃ A1 c1 A2 c2 A3 c3, e = .returned (.tuple #[.agg #[.slice A1 (pw st.length) c1, .slice A2 (pw st.length) c2, .slice A3 (pw st.length) c3], .int .i64 0]) ∧ TripW w w' (pw st.length) A1 c1 (leftDL p st.length st xs) A2 c2 (rightDL p st.length st xs) A3 c3 (pureC p st.length st xs))
theorem below_set3 {w w' : World} {g : Nat} {a b d : Value} (h : Below w.heap.size w w') (hg : w.heap.size ≤ g) : Below w.heap.size w (((w'.setCell ⟨g, 0, none⟩ a).setCell ⟨g, 1, none⟩ b).setCell ⟨g, 2, none⟩ d) :=
 ((h.setCell (p := ⟨g, 0, none⟩) hg _).setCell (p := ⟨g, 1, none⟩) hg _).setCell (p := ⟨g, 2, none⟩) hg _
set_option maxHeartbeats 6400000 in
set_option maxRecDepth 8000 in
theorem l15Pure_any (p : Int) (hp : 2 ≤ p) (hp2 : p ≤ 13) (k : Nat) (hk : k ≤ 4) (A : Option Addr) (c : Nat) (st : List Int) (X : Option Addr) (cx : Nat) (xs : List Int) (w : World) (hc : k ≤ c) (ha : Rd w A k (ints st)) (hst : NumsL p st) (hx : Rd w X (pw k) (ints xs)) (hxn : NumsL p xs) (hcx : pw k ≤ cx) :
    Calls Tryz.prog 55 #[.agg #[.int .i64 p, .slice A k c], .slice X (pw k) cx] w fun e w' => ∃ A1 c1 A2 c2 A3 c3, e = .returned (.agg #[.slice A1 (pw k) c1, .slice A2 (pw k) c2, .slice A3 (pw k) c3]) ∧ TripW w w' (pw k) A1 c1 (leftDL p k st xs) A2 c2 (rightDL p k st xs) A3 c3 (pureC p k st xs) := by
 have hpk : pw k ≤ 16 := pw_le hk
 have hpos := pw_pos k
 have hB2 : Below w.heap.size w ((w.alloc (.cells #[.int .i64 p, .slice A k c] 26)).alloc (.cells #[.slice none 0 0, .slice none 0 0, .slice none 0 0] 34)) := (zG.alloc (Nat.le_refl _) _).alloc (by simp) _
 have k0 : Blk ((w.alloc (.cells #[.int .i64 p, .slice A k c] 26)).alloc (.cells #[.slice none 0 0, .slice none 0 0, .slice none 0 0] 34)) w.heap.size 26 #[.int .i64 p, .slice A k c] := (Blk.new _ _ _).alloc _
 have kr0 : Blk ((w.alloc (.cells #[.int .i64 p, .slice A k c] 26)).alloc (.cells #[.slice none 0 0, .slice none 0 0, .slice none 0 0] 34)) (w.heap.size + 1) 34 #[.slice none 0 0, .slice none 0 0, .slice none 0 0] := Blk.newAt3 (w := w.alloc (.cells #[.int .i64 p, .slice A k c] 26)) (by simp)
 have hTL := leftDL_tab (p := p) (by omega) k st xs
 have hTR := rightDL_tab (p := p) (by omega) k st xs
 have hTS : Tab p (pw k) (sumL p (leftDL p k st xs) (rightDL p k st xs) 1) := by
  unfold sumL
  exact Tab.tab fun i hi => ⟨by rw [plusL_len]; exact (hTL.1.row hi).1, plusL_nums (by omega) _ _ _⟩
 have HPC := Lib.hid (pureC_ref (p := p) (by omega) (k := k) st xs)
 have WP : wrap64 (p - 2) = p - 2 := by unfold wrap64; omega
 go_enter Tryz.func55, Tryz.ntmps55
 go_wp2
 refine wp_obs 8 [[],[],[0,1],[],[],[3,4],[0,1,2],[3,4,5]] [VIs (.agg #[.int .i64 p, .slice A k c]), VIs (.slice X (pw k) cx), VMat w (pw k) (leftDL p k st xs), VIs (.agg #[.int .i64 p, .slice A k c]), VIs (.slice X (pw k) cx), VMat w (pw k) (rightDL p k st xs), VMat w (pw k) (leftDL p k st xs), VMat w (pw k) (rightDL p k st xs)] (fun w' => Blk w' w.heap.size 26 #[.int .i64 p, .slice A k c] ∧ Blk w' (w.heap.size + 1) 34 #[.slice none 0 0, .slice none 0 0, .slice none 0 0] ∧ Below w.heap.size w w') (by kernel_rfl) (by kernel_rfl) (fun _ _ h hb => ⟨h.1.below hb h.1.lt, h.2.1.below hb h.2.1.lt, h.2.2.trans (hb.mono h.2.2.size)⟩) (⟨k0.drew, kr0.drew, hB2.trans zG.drew⟩) (fun x => ?_)
 refine zS (fun w' hS hV K hK => ?_) ?_
 · obtain ⟨q0, q1⟩ := hS.1.two; go_simp; exact zO hK
 refine zS (fun w' hS hV K hK => ?_) ?_
 · obtain ⟨q0, q1⟩ := hS.1.two; go_simp; exact zO hK
 refine zS (fun w' hS hV K hK => ?_) ?_
 · have e0 := zQ hV 0; have e1 := zQ hV 1; obtain ⟨q0, q1⟩ := hS.1.two; go_simp; refine (l11Left_any p hp hp2 k hk A c st X cx xs w' hc (ha.below hS.2.2) hst (hx.below hS.2.2) hxn hcx).mono ?_; rintro e v1 ⟨A9, c9, rfl, hM⟩; exact hK.out _ _ _ rfl rfl ⟨_, _, rfl, hM.after hS.2.2⟩ hM.b
 refine zS (fun w' hS hV K hK => ?_) ?_
 · obtain ⟨q0, q1⟩ := hS.1.two; go_simp; exact zO hK
 refine zS (fun w' hS hV K hK => ?_) ?_
 · obtain ⟨q0, q1⟩ := hS.1.two; go_simp; exact zO hK
 refine zS (fun w' hS hV K hK => ?_) ?_
 · have e3 := zQ hV 3; have e4 := zQ hV 4; obtain ⟨q0, q1⟩ := hS.1.two; go_simp; refine (l11Right_any p hp hp2 k hk A c st X cx xs w' hc (ha.below hS.2.2) hst (hx.below hS.2.2) hxn hcx).mono ?_; rintro e v1 ⟨A9, c9, rfl, hM⟩; exact hK.out _ _ _ rfl rfl ⟨_, _, rfl, hM.after hS.2.2⟩ hM.b
 refine zS (fun w' hS hV K hK => ?_) ?_
 · obtain ⟨A2, c2, e2, h2⟩ := hV 2 (by decide); obtain ⟨q0, q1⟩ := hS.1.two; go_simp; exact hK.out _ _ _ rfl rfl ⟨_, _, rfl, h2⟩ zG
 refine zS (fun w' hS hV K hK => ?_) ?_
 · obtain ⟨A5, c5, e5, h5⟩ := hV 5 (by decide); obtain ⟨q0, q1⟩ := hS.1.two; go_simp; exact hK.out _ _ _ rfl rfl ⟨_, _, rfl, h5⟩ zG
 refine fun w' hS hV => ?_
 have e0 := zT hV 0
 have e1 := zT hV 1
 obtain ⟨A2, c2, e2, h2⟩ := hV 2 (by decide)
 have e3 := zT hV 3
 have e4 := zT hV 4
 obtain ⟨A5, c5, e5, h5⟩ := hV 5 (by decide)
 obtain ⟨A6, c6, e6, h6⟩ := hV 6 (by decide)
 obtain ⟨A7, c7, e7, h7⟩ := hV 7 (by decide)
 simp only [e0, e1, e2, e3, e4, e5, e6, e7]
 clear e0 e1 e2 e3 e4 e5 e6 e7
 refine wpAny_done (by kernel_rfl) ?_ _
 obtain ⟨k2, kr2, hb2⟩ := hS
 have HB2 := Lib.hid hb2
 obtain ⟨q0, q1⟩ := k2.two
 clear k0 kr0 hB2 hb2 ha hx hst hxn
 go_wp2_with fail
 refine (l15Sum_any p A6 (pw k) c6 (leftDL p k st xs) A7 c7 (rightDL p k st xs) 1 w' hp hp2 hpos (by omega) h6.rd hTL.1 h7.rd hTR.1 (by omega) (by omega)).mono ?_
 rintro e w8 ⟨A8, c8, rfl, h8⟩
 have k3 := k2.below h8.b k2.lt
 have kr3 := kr2.below h8.b kr2.lt
 have H6 := Lib.hid (h6.below h8.b)
 have H7 := Lib.hid (h7.below h8.b)
 have HB3 := Lib.hid (HB2.out.trans (h8.b.mono HB2.out.size))
 have H8 := Lib.hid h8.rd
 clear q0 q1 k2 kr2 h6 h7 h8 hTL hTR h2 h5
 obtain ⟨q0, q1⟩ := k3.two
 go_wp2_with fail
 first
  | refine (l15Sum_any p A8 (pw k) c8 (sumL p (leftDL p k st xs) (rightDL p k st xs) 1) A8 c8 (sumL p (leftDL p k st xs) (rightDL p k st xs) 1) (p - 2) w8 hp hp2 hpos (by omega) H8.out hTS H8.out hTS (by omega) (by omega)).mono ?_
  | (rw [WP]; refine (l15Sum_any p A8 (pw k) c8 (sumL p (leftDL p k st xs) (rightDL p k st xs) 1) A8 c8 (sumL p (leftDL p k st xs) (rightDL p k st xs) 1) (p - 2) w8 hp hp2 hpos (by omega) H8.out hTS H8.out hTS (by omega) (by omega)).mono ?_)
 rw [HPC.out]
 rintro e w9 ⟨A9, c9, rfl, h9⟩
 have kr4 := kr3.below h9.b kr3.lt
 have hb4 := HB3.out.trans (h9.b.mono HB3.out.size)
 have HT := Lib.hid (TripW.stored (x := .slice A6 (pw k) c6) (y := .slice A7 (pw k) c7) (z := .slice A9 (pw k) c9) (H6.out.below h9.b) (H7.out.below h9.b) (h9.after HB3.out) kr4 hb4 (by omega))
 have r0 := kr4.cell 0
 have r1 := kr4.cell 1
 have r2 := kr4.cell 2
 have z0 := kr4.frozen 0
 have z1 := kr4.frozen 1
 have z2 := kr4.frozen 2
 simp at r0 r1 r2
 have kz := Blk.storedT (x := .slice A6 (pw k) c6) (y := .slice A7 (pw k) c7) (z := .slice A9 (pw k) c9) kr4
 have p0 := kz.cell 0
 have p1 := kz.cell 1
 have p2 := kz.cell 2
 simp at p0 p1 p2
 clear kz h9 hb4 H6 H7 H8 q0 q1 hTS
 go_wp2
 exact bodyPost_ret (v := .agg #[.slice A6 (pw k) c6, .slice A7 (pw k) c7, .slice A9 (pw k) c9]) (by simp [results, Tryz.results55, go_sem, p0, p1, p2]) rfl ⟨A6, c6, A7, c7, A9, c9, rfl, HT.out⟩
set_option maxHeartbeats 6400000 in
set_option maxRecDepth 8000 in
theorem specPureTriple_any (p : Int) (A : Option Addr) (k c : Nat) (st : List Int) (X : Option Addr) (n cx : Nat) (xs : List Int) (w : World) (hk6 : k ≤ 65536) (hc : k ≤ c) (hn : n ≤ 1048576) (hcx : n ≤ cx) (ha : Rd w A k (ints st)) (hx : Rd w X n (ints xs)) :
    Calls Tryz.prog 12 #[.agg #[.int .i64 p, .slice A k c], .slice X n cx] w (PureP p st xs w) := by
 have hB3 : Below w.heap.size w (((w.alloc (.cells #[.int .i64 p, .slice A k c] 26)).alloc (.cells #[.slice none 0 0, .slice none 0 0, .slice none 0 0] 34)).alloc (.cells #[.slice X n cx] 24)) := ((zG.alloc (Nat.le_refl _) _).alloc (by simp) _).alloc (by simp; omega) _
 have k0 : Blk (((w.alloc (.cells #[.int .i64 p, .slice A k c] 26)).alloc (.cells #[.slice none 0 0, .slice none 0 0, .slice none 0 0] 34)).alloc (.cells #[.slice X n cx] 24)) w.heap.size 26 #[.int .i64 p, .slice A k c] := ((Blk.new _ _ _).alloc _).alloc _
 have kr0 : Blk (((w.alloc (.cells #[.int .i64 p, .slice A k c] 26)).alloc (.cells #[.slice none 0 0, .slice none 0 0, .slice none 0 0] 34)).alloc (.cells #[.slice X n cx] 24)) (w.heap.size + 1) 34 #[.slice none 0 0, .slice none 0 0, .slice none 0 0] := (Blk.newAt3 (w := w.alloc (.cells #[.int .i64 p, .slice A k c] 26)) (by simp)).alloc _
 have kx : Blk (((w.alloc (.cells #[.int .i64 p, .slice A k c] 26)).alloc (.cells #[.slice none 0 0, .slice none 0 0, .slice none 0 0] 34)).alloc (.cells #[.slice X n cx] 24)) (w.heap.size + 1 + 1) 24 #[.slice X n cx] := Blk.newAt3 (w := ((w.alloc (.cells #[.int .i64 p, .slice A k c] 26)).alloc (.cells #[.slice none 0 0, .slice none 0 0, .slice none 0 0] 34))) (by simp)
 have hxl : xs.length = n := hx.lenI
 have hsl : st.length = k := ha.lenI
 have hrx : RdII (((w.alloc (.cells #[.int .i64 p, .slice A k c] 26)).alloc (.cells #[.slice none 0 0, .slice none 0 0, .slice none 0 0] 34)).alloc (.cells #[.slice X n cx] 24)) (some ⟨w.heap.size + 1 + 1, 0, none⟩) 1 [xs] := rdII_one kx (hx.below hB3) hcx
 have hck := l14Elements_any p A (some ⟨w.heap.size + 1 + 1, 0, none⟩) k c 1 1 st [xs] (((w.alloc (.cells #[.int .i64 p, .slice A k c] 26)).alloc (.cells #[.slice none 0 0, .slice none 0 0, .slice none 0 0] 34)).alloc (.cells #[.slice X n cx] 24)) hk6 (by omega) (ha.below hB3) hrx (fun ys hy => by simp at hy; subst hy; omega)
 obtain ⟨co, hco⟩ : ∃ z, z = codeT p st [xs] [] := ⟨_, rfl⟩
 rw [← hco] at hck
 obtain ⟨q0, q1⟩ := k0.two
 by_cases h0 : co = 0
 · subst h0
   obtain ⟨hdb, h3, hel, -⟩ := codeT_zero hco.symm
   obtain ⟨hl, hnm⟩ := hel xs (by simp)
   obtain ⟨HP, -, hst⟩ := isDb_facts hdb
   obtain ⟨hp3, hp2⟩ := isP_ge HP
   rw [hsl] at h3 hl
   obtain rfl : n = pw k := by omega
   have hstn : NumsL p st := fun y hy => by have := hst y hy; omega
   have hpos := pw_pos k
   have hx3 := hx.below hB3
   obtain ⟨gx, ox, rfl, hxx, hcx0⟩ := hx3.int hpos
   rw [Nat.add_zero] at hcx0
   have HX0 : Hid (xs.getD 0 0 = xs[0]) := Lib.hid (getD_of_lt 0 hxx)
   obtain ⟨x0, hx0⟩ : ∃ z, z = xs[0] := ⟨_, rfl⟩
   rw [← hx0] at hcx0 HX0
   by_cases hz : x0 = 0
   · subst hz
     have HN : Hid (pureCode p st xs = 0) := Lib.hid (by unfold pureCode; rw [← hco, if_pos rfl, HX0.out, if_pos rfl])
     have HPU := Lib.hid fun w' (h : Below w.heap.size w w') => l15Pure_any p (by omega) hp2 k (by omega) A c st (some ⟨gx, ox, none⟩) cx xs w' hc (ha.below h) hstn (hx.below h) hnm hcx
     have HSL := Lib.hid hsl
     clear hx3 hco hdb hel hl hnm HP hst hstn hx0 HX0 ha hrx hxl hsl hxx hx
     go_enter Tryz.func12, Tryz.ntmps12
     go_wp2_with fail
     refine hck.mono ?_
     rintro e w4 ⟨rfl, hb4⟩
     have k4 := k0.below hb4 k0.lt
     have kr4 := kr0.below hb4 kr0.lt
     have HB4 := Lib.hid (hB3.trans (hb4.mono hB3.size))
     have hc4 := (hb4.cell (World.block_lt_of_cell? _ _ hcx0)).trans hcx0
     clear q0 q1 k0 kr0 hck hb4 kx hcx0
     obtain ⟨q0, q1⟩ := k4.two
     go_wp2_with fail
     refine (HPU.out w4 HB4.out).mono ?_
     rintro e w5 ⟨A1, c1, A2, c2, A3, c3, rfl, hT⟩
     have hbT := hT.2.2.2
     have kr5 := kr4.below hbT kr4.lt
     have HTT := Lib.hid (TripW.stored2 (x := .slice A1 (pw k) c1) (y := .slice A2 (pw k) c2) (z := .slice A3 (pw k) c3) hT kr5 HB4.out (by omega))
     have r0 := kr5.cell 0
     have r1 := kr5.cell 1
     have r2 := kr5.cell 2
     have z0 := kr5.frozen 0
     have z1 := kr5.frozen 1
     have z2 := kr5.frozen 2
     simp at r0 r1 r2
     have kz := Blk.storedT (x := .slice A1 (pw k) c1) (y := .slice A2 (pw k) c2) (z := .slice A3 (pw k) c3) kr5
     have p0 := kz.cell 0
     have p1 := kz.cell 1
     have p2 := kz.cell 2
     simp at p0 p1 p2
     clear kz hT hbT q0 q1 k4 hc4
     go_wp2
     exact bodyPost_ret (v := .tuple #[.agg #[.slice A1 (pw k) c1, .slice A2 (pw k) c2, .slice A3 (pw k) c3], .int .i64 0]) (by simp [results, Tryz.results12, go_sem, p0, p1, p2]) rfl (.inr ⟨HN.out, A1, c1, A2, c2, A3, c3, by rw [HSL.out], by rw [HSL.out]; exact HTT.out⟩)
   · have HC : Hid (pureCode p st xs = 5) := Lib.hid (by unfold pureCode; rw [← hco, if_pos rfl, HX0.out, if_neg hz])
     have HN : Hid (pureCode p st xs ≠ 0) := Lib.hid (by rw [HC.out]; omega)
     have ez : (x0 == 0) = false := by simp [hz]
     clear hx3 hco hdb hel hl hnm HP hst hstn hx0 HX0 ha hrx hxl hsl hxx hx
     go_enter Tryz.func12, Tryz.ntmps12
     go_wp2_with fail
     refine hck.mono ?_
     rintro e w4 ⟨rfl, hb4⟩
     have k4 := k0.below hb4 k0.lt
     have kr4 := kr0.below hb4 kr0.lt
     have hc4 := (hb4.cell (World.block_lt_of_cell? _ _ hcx0)).trans hcx0
     have HZ := Lib.hid (below_set3 (a := .slice none 0 0) (b := .slice none 0 0) (d := .slice none 0 0) (hB3.trans (hb4.mono hB3.size)) (show w.heap.size ≤ w.heap.size + 1 by omega))
     have r0 := kr4.cell 0
     have r1 := kr4.cell 1
     have r2 := kr4.cell 2
     have z0 := kr4.frozen 0
     have z1 := kr4.frozen 1
     have z2 := kr4.frozen 2
     simp at r0 r1 r2
     have kz := Blk.storedT (x := .slice none 0 0) (y := .slice none 0 0) (z := .slice none 0 0) kr4
     have u0 := kz.cell 0
     have u1 := kz.cell 1
     have u2 := kz.cell 2
     simp at u0 u1 u2
     clear q0 q1 k0 kr0 hck hb4 kx hcx0 kz
     go_wp2
     first
      | exact bodyPost_ret (v := .tuple #[.agg #[.slice none 0 0, .slice none 0 0, .slice none 0 0], .int .i64 5]) (by simp [results, Tryz.results12, go_sem, r0, r1, r2]) rfl (.inl ⟨HN.out, by rw [HC.out], HZ.out⟩)
      | exact bodyPost_ret (v := .tuple #[.agg #[.slice none 0 0, .slice none 0 0, .slice none 0 0], .int .i64 5]) (by simp [results, Tryz.results12, go_sem, u0, u1, u2]) rfl (.inl ⟨HN.out, by rw [HC.out], HZ.out⟩)
 · have HC : Hid (pureCode p st xs = co) := Lib.hid (by unfold pureCode; rw [← hco, if_neg h0])
   have HN : Hid (pureCode p st xs ≠ 0) := Lib.hid (by rw [HC.out]; exact h0)
   have ez : (co == 0) = false := by simp [h0]
   clear hco ha hrx hxl hsl hx
   go_enter Tryz.func12, Tryz.ntmps12
   go_wp2_with fail
   refine hck.mono ?_
   rintro e w4 ⟨rfl, hb4⟩
   have k4 := k0.below hb4 k0.lt
   have kr4 := kr0.below hb4 kr0.lt
   have HZ := Lib.hid (below_set3 (a := .slice none 0 0) (b := .slice none 0 0) (d := .slice none 0 0) (hB3.trans (hb4.mono hB3.size)) (show w.heap.size ≤ w.heap.size + 1 by omega))
   have r0 := kr4.cell 0
   have r1 := kr4.cell 1
   have r2 := kr4.cell 2
   have z0 := kr4.frozen 0
   have z1 := kr4.frozen 1
   have z2 := kr4.frozen 2
   simp at r0 r1 r2
   have kz := Blk.storedT (x := .slice none 0 0) (y := .slice none 0 0) (z := .slice none 0 0) kr4
   have u0 := kz.cell 0
   have u1 := kz.cell 1
   have u2 := kz.cell 2
   simp at u0 u1 u2
   clear q0 q1 k0 kr0 hck hb4 kx kz
   go_wp2
   first
    | exact bodyPost_ret (v := .tuple #[.agg #[.slice none 0 0, .slice none 0 0, .slice none 0 0], .int .i64 co]) (by simp [results, Tryz.results12, go_sem, r0, r1, r2]) rfl (.inl ⟨HN.out, by rw [HC.out], HZ.out⟩)
    | exact bodyPost_ret (v := .tuple #[.agg #[.slice none 0 0, .slice none 0 0, .slice none 0 0], .int .i64 co]) (by simp [results, Tryz.results12, go_sem, u0, u1, u2]) rfl (.inl ⟨HN.out, by rw [HC.out], HZ.out⟩)
end Go.Proofs.YtaiegpggccdgoaaGreat
namespace Go.Proofs.YtaiegpggccdgoaaGreat
open Go.RowKit
theorem getD_step {l : Array Bool} {i k0 : Nat} (h : i < l.size) : (l.getD k0 false || i == k0) = (l.setIfInBounds i true).getD k0 false := by
 by_cases e : i = k0
 · subst e; simp [Array.getD, h]
 · rw [getD_set_ne _ e]
   have : (i == k0) = false := by simpa using e
   rw [this, Bool.or_false]
section
variable {P : Program} {ops : Array Oper} {Q : Exit → Act → World → Prop}
/-- What is to be shown of operation j. -/
def ObJ (P : Program) (ops : Array Oper) (k0 : Nat) (S : Bool → World → Prop) (R C : List (List Nat)) (Rel : Nat → World → World → Prop) (m : Nat) (V : (Nat → Value) → List VP) (x : Nat → Value) (a0 : Act) (j : Nat) : Prop :=
 ∀ b w, (j = k0 → b = false) → S b w → (∀ i ∈ availR R C m j, ((V x).getD i VAny).p (x i) w) →
  wpOp P ops NoWay j (fun a' w' => ∃ v, (∀ d, dstOf ops j = some d → a'.tmps[d]? = some v) ∧ a'.defers = a0.defers ∧ ((V x).getD j VAny).p v w' ∧ StepR C (Rel j) j w w') (putS ops x a0 j) w
theorem tasks_goJ {m : Nat} {Rel : Nat → World → World → Prop} {R C : List (List Nat)} {V : (Nat → Value) → List VP} {k0 : Nat} {S : Bool → World → Prop} {a0 : Act} (hok : tasksOk ops m a0.tmps.size R = true)
    (hdep : ∀ x x' j, (∀ i ∈ R.getD j [], x i = x' i) → (V x).getD j VAny = (V x').getD j VAny) (hweak : ∀ i, i < m → (C.getD i []).isEmpty = false → ∀ k, k < m → k ≠ i → i ∉ R.getD k [] → k ∉ C.getD i [] → ∀ x v w w', ((V x).getD k VAny).p v w → Rel i w w' → ((V x).getD k VAny).p v w') (hSt : ∀ j b w w', S b w → StepR C (Rel j) j w w' → S (b || j == k0) w') (hob : ∀ x j, j < m → ObJ P ops k0 S R C Rel m V x a0 j)
    (hend : ∀ x w' b, S b w' → (∀ i ∈ endR C m, ((V x).getD i VAny).p (x i) w') → wpAny P .any ops Q (ops.size - m) (listedTo ops.size m) (putS ops x a0 m) w') :
    ∀ (c : Nat) (U : List Nat) (listed : Array Bool) (w : World) (x : Nat → Value), U.length = c → U.Nodup → (∀ i, i ∈ U ↔ i < m ∧ listed.getD i false = false) → listed.size = ops.size →
     (∀ i, m ≤ i → i < ops.size → listed.getD i false = false) → (∀ (j : Nat) (o : Oper), ops[j]? = some o → listed.getD j false = true → ∀ e ∈ o.after, Region.binds .any e = true → listed.getD e.on false = true) →
     S (listed.getD k0 false) w → (∀ i, i < m → listed.getD i false = true → (∀ j, j < m → i ∈ C.getD j [] → listed.getD j false = false) → ((V x).getD i VAny).p (x i) w) → wpAny P .any ops Q (ops.size - m + c) listed (putD ops (fun i => listed.getD i false) x a0 m) w := by
 obtain ⟨hmn, hspec, htail⟩ := tasks_spec hok
 have hsel : Region.noSelect ops = true := by unfold tasksOk at hok; simp only [Bool.and_eq_true] at hok; exact hok.1.1
 intro c
 induction c with
 | zero =>
  intro U listed w x hU hnd hmem hsz hun hcl hS hV
  obtain rfl : U = [] := List.eq_nil_of_length_eq_zero hU
  have hall : ∀ i, i < m → listed.getD i false = true := fun i hi => by
   cases h : listed.getD i false
   · exact absurd ((hmem i).2 ⟨hi, h⟩) (by simp)
   · rfl
  have hl : listed = listedTo ops.size m := by
   apply Array.ext
   · simp [listedTo, hsz]
   · intro i h1 h2
     have e : listed.getD i false = listed[i] := by simp [Array.getD, h1]
     by_cases hi : i < m
     · have := hall i hi
       rw [e] at this
       simp [listedTo, this, hi]
     · have := hun i (by omega) (by omega)
       rw [e] at this
       simp [listedTo, this, hi]
  rw [Nat.add_zero, putD_congr (ops := ops) _ (fun _ => true) x x a0 m (fun i hi => ⟨hall i hi, fun _ => rfl⟩), hl]
  exact hend x w _ hS (fun i hi => hV i (endR_spec.1 hi).1 (hall i (endR_spec.1 hi).1) (fun j hj hc => absurd hc ((endR_spec.1 hi).2 j hj)))
 | succ c ih =>
  intro U listed w x hU hnd hmem hsz hun hcl hS hV
  have hne : U ≠ [] := fun e => by rw [e] at hU; simp at hU
  show (_ → _) ∧ _
  refine ⟨fun hr => ?_, fun i hi => ?_⟩
  · exfalso
    obtain ⟨i, hiU, hmin⟩ := min_mem U hne
    obtain ⟨him, hil⟩ := (hmem i).1 hiU
    have hlt : i < ops.size := by omega
    have : i ∈ Region.ready .any ops listed := mem_ready.2 ⟨by simpa [Array.getD, hsz, hlt] using hil, _, Array.getElem?_eq_getElem hlt, fun e he hb => by
     have hlti := (hspec i _ (Array.getElem?_eq_getElem hlt) him).1 e he hb
     cases h : listed.getD e.on false
     · have := hmin e.on ((hmem _).2 ⟨by omega, h⟩); omega
     · rfl⟩
    rw [hr] at this
    cases this
  · obtain ⟨hil, o, ho, hdeps⟩ := mem_ready.1 hi
    have hlt : i < ops.size := (Array.getElem?_eq_some_iff.1 ho).1
    have hil' : listed.getD i false = false := by simpa [Array.getD, hsz, hlt] using hil
    have hreach := listed_reach hok (fun i => listed.getD i false) hcl i o ho hdeps
    have him : i < m := by
     rcases Nat.lt_or_ge i m with h | h
     · exact h
     · exfalso
       obtain ⟨k, hk⟩ := List.exists_mem_of_ne_nil U hne
       obtain ⟨hkm, hkl⟩ := (hmem k).1 hk
       have := hreach k (htail i hlt h k hkm)
       rw [hkl] at this; cases this
    obtain ⟨_, ⟨d, hd, hdsz, hduniq⟩, hlook⟩ := hspec i o ho him
    have hdst : dstOf ops i = some d := by simp [dstOf, ho, hd]
    have hso : ∀ cs b, o.op ≠ .select cs b := fun cs b => Region.noSelect_spec hsel i o cs b ho
    -- the two frames agree on what o looks at
    have hagree : ∀ t ∈ o.looksAt ops, (putD ops (fun i => listed.getD i false) x a0 m).tmps[t]? = (putS ops x a0 i).tmps[t]? := fun t ht => by
     by_cases hex : ∃ k, k < m ∧ dstOf ops k = some t
     · obtain ⟨k, hkm, hkd⟩ := hex
       have hkR := hlook t ht k hkm hkd
       have hki := reach_lt hok i hlt k hkR
       have hkl := hreach k hkR
       have hks : k < ops.size := by omega
       obtain ⟨_, ⟨d', hd', hdsz', hu'⟩, _⟩ := hspec k _ (Array.getElem?_eq_getElem hks) hkm
       have htd : d' = t := by
        have : dstOf ops k = some d' := by simp [dstOf, Array.getElem?_eq_getElem hks, hd']
        rw [hkd] at this; injection this with this; exact this.symm
       rw [putD_at _ _ _ _ k hkd hkl (htd ▸ hdsz') m hkm (fun l hl hlk => htd ▸ hu' l hl hlk)]
       unfold putS
       rw [putD_at _ _ _ _ k hkd rfl (htd ▸ hdsz') i hki (fun l hl hlk => htd ▸ hu' l (by omega) hlk)]
     · rw [putD_other _ _ _ _ m (fun k hk hkd => absurd ⟨k, hk, hkd⟩ hex)]
       unfold putS
       rw [putD_other _ _ _ _ i (fun k hk hkd => absurd ⟨k, by omega, hkd⟩ hex)]
    have hob' := hob x i him (listed.getD k0 false) w (fun e => by rw [← e]; exact hil') hS (fun k hk => by
     obtain ⟨hkR, hkC⟩ := availR_spec.1 hk
     refine hV k (by have := reach_lt hok i hlt k hkR; omega) (hreach k hkR) (fun j hj hc => ?_)
     rcases hkC j hj hc with rfl | hij
     · exact hil'
     · cases hjl : listed.getD j false
       · rfl
       · have hjs : j < ops.size := by omega
         have := listed_reach hok (fun i => listed.getD i false) hcl j _ (Array.getElem?_eq_getElem hjs) (hcl j _ (Array.getElem?_eq_getElem hjs) hjl) i hij
         rw [hil'] at this; cases this)
    have hsz1 := putD_size (ops := ops) (fun _ => true) x a0 i
    -- what comes behind
    have next : ∀ v w', ((V x).getD i VAny).p v w' → StepR C (Rel i) i w w' → wpAny P .any ops Q (ops.size - m + c) (listed.setIfInBounds i true) ((putD ops (fun i => listed.getD i false) x a0 m).put (some d) v) w' := fun v w' hv hb => by
     have hput := putD_put (ops := ops) (fun k => listed.getD k false) (fun k => (listed.setIfInBounds i true).getD k false) x (fun k => if k = i then v else x k) a0 i hil'
      (by simp [hsz, hlt]) (fun k hk => ⟨by rw [getD_set_ne _ (Ne.symm hk)], by simp [hk]⟩) m him
      (fun d' k hk hki hd' => by rw [hdst] at hd'; injection hd' with hd'; exact hd' ▸ hduniq k hk hki)
     simp only [if_true] at hput
     rw [← hdst, hput]
     refine ih (U.erase i) _ _ _ ?_ (hnd.erase _) (fun k => ?_) (by simpa using hsz) (fun k h1 h2 => ?_) (fun j oj hoj hj e he hb' => ?_) (getD_step (k0 := k0) (i := i) (l := listed) (by rw [hsz]; exact hlt) ▸ hSt i _ _ _ hS hb) (fun k hk hkl hcons => ?_)
     · rw [List.length_erase_of_mem ((hmem i).2 ⟨him, hil'⟩), hU]; rfl
     · rw [hnd.mem_erase_iff, hmem]
       by_cases hk : k = i
       · subst hk; simp [hsz, hlt]
       · rw [getD_set_ne _ (Ne.symm hk)]; simp [hk]
     · rw [getD_set_ne _ (by omega)]; exact hun k h1 h2
     · by_cases hji : j = i
       · subst hji
         rw [ho] at hoj; injection hoj with hoj; subst hoj
         exact getD_set_true (hdeps e he hb')
       · rw [getD_set_ne _ (Ne.symm hji)] at hj
         exact getD_set_true (hcl j oj hoj hj e he hb')
     · by_cases hki : k = i
       · subst hki
         rw [hdep _ x k (fun l hl => by have := reach_lt hok k hlt l hl; simp only [show l ≠ k by omega, if_false])]
         simpa using hv
       · rw [getD_set_ne _ (Ne.symm hki)] at hkl
         have hks : k < ops.size := by omega
         have hdk : (V fun l => if l = i then v else x l).getD k VAny = (V x).getD k VAny := hdep _ x k (fun l hl => by
          have hll := listed_reach hok (fun i => listed.getD i false) hcl k _ (Array.getElem?_eq_getElem hks) (hcl k _ (Array.getElem?_eq_getElem hks) hkl) l hl
          have hne : l ≠ i := fun e => by rw [e] at hll; rw [hil'] at hll; cases hll
          simp only [hne, if_false])
         simp only [hki, if_false]
         rw [hdk]
         have hb0 : ∀ j, j < m → k ∈ C.getD j [] → listed.getD j false = false := fun j hj hc => by
          have h1 := hcons j hj hc
          by_cases hji : j = i
          · rw [hji]; exact hil'
          · rwa [getD_set_ne _ (Ne.symm hji)] at h1
         have hkC : k ∉ C.getD i [] := fun hc => by
          have h1 := hcons i him hc
          simp [hsz, hlt] at h1
         have hiR : i ∉ R.getD k [] := fun hik => by
          have := listed_reach hok (fun i => listed.getD i false) hcl k _ (Array.getElem?_eq_getElem hks) (hcl k _ (Array.getElem?_eq_getElem hks) hkl) i hik
          rw [hil'] at this; cases this
         cases he : (C.getD i []).isEmpty
         · replace hb : Rel i w w' := by unfold StepR at hb; rw [he] at hb; exact hb
           exact hweak i him he k hk hki hiR hkC x _ _ _ (hV k hk hkl hb0) hb
         · replace hb : Below w.heap.size w w' := by unfold StepR at hb; rw [he] at hb; exact hb
           exact ((V x).getD k VAny).st _ _ _ (hV k hk hkl hb0) hb
    unfold wpOp at hob' ⊢
    simp only [ho] at hob' ⊢
    rw [wanted_same hagree]
    split
    · rename_i hw
      rw [if_pos hw] at hob'
      rcases hob' with h | ⟨_, h⟩
      case inr => exact absurd h NoWay.lets
      refine .inl (Oper.wp_mono ?_ (wp_move (Q := Q) (d := d) (R := fun v w' => ((V x).getD i VAny).p v w' ∧ StepR C (Rel i) i w w') (exec_same hso hagree) hd (by unfold putS; rw [hsz1.1]; exact hdsz)
       (Oper.wp_mono (fun a' w' ⟨v, h1, h2, h3, h4⟩ => ⟨v, h1 d hdst, by unfold putS; rw [hsz1.2]; exact h2, h3, h4⟩) h)))
      rintro a' w' ⟨v, rfl, hv, hb⟩
      exact next v w' hv hb
    · rename_i hw
      rw [if_neg hw] at hob'
      obtain ⟨v, h1, _, h3, h4⟩ := hob'
      have hvu : v = undef := by
       have := h1 d hdst
       rw [hd] at this
       simp [Act.put, putS, hsz1.1, hdsz] at this
       exact this.symm
      rw [hd]
      exact next undef w (hvu ▸ h3) h4
/-- **A region that draws its order**: each of its first m operations is shown once; what is left behind them goes on. -/
theorem wp_tasksJ {id m : Nat} {Rel : Nat → World → World → Prop} (R C : List (List Nat)) (V : (Nat → Value) → List VP) (k0 : Nat) (S : Bool → World → Prop) {a0 : Act} {w : World} (hm : P.follows .mixedOrders = true) (hok : tasksOk ops m a0.tmps.size R = true)
    (hdep : ∀ x x' j, (∀ i ∈ R.getD j [], x i = x' i) → (V x).getD j VAny = (V x').getD j VAny) (hweak : ∀ i, i < m → (C.getD i []).isEmpty = false → ∀ k, k < m → k ≠ i → i ∉ R.getD k [] → k ∉ C.getD i [] → ∀ x v w w', ((V x).getD k VAny).p v w → Rel i w w' → ((V x).getD k VAny).p v w') (hS0 : S false w.drew) (hSt : ∀ j b w w', S b w → StepR C (Rel j) j w w' → S (b || j == k0) w') (hob : ∀ x j, j < m → ObJ P ops k0 S R C Rel m V x a0 j)
    (hend : ∀ x w' b, S b w' → (∀ i ∈ endR C m, ((V x).getD i VAny).p (x i) w') → wpAny P .any ops Q (ops.size - m) (listedTo ops.size m) (putS ops x a0 m) w') : (Code.region id ops true).wp P Q a0 w := by
 have hmn := (tasks_spec hok).1
 have hf : ∀ i, (Array.replicate ops.size false).getD i false = false := fun i => by simp [Array.getD]
 have h := tasks_goJ (Q := Q) hok hdep hweak hSt hob hend m (List.range m) (Array.replicate ops.size false) w.drew (fun _ => undef) (by simp) List.nodup_range (fun i => by rw [hf]; simp) (by simp) (fun i _ _ => hf i) (fun j o _ hj => by rw [hf] at hj; cases hj) (by rw [hf]; exact hS0)
  (fun i _ hi => by rw [hf] at hi; cases hi)
 refine wp_region_any hm ?_
 rw [show ops.size - m + m = ops.size by omega, putD_congr (ops := ops) _ (fun _ => false) _ (fun _ => undef) a0 m (fun i _ => ⟨hf i, fun _ => rfl⟩)] at h
 have e : ∀ n, putD ops (fun _ => false) (fun _ => undef) a0 n = a0 := fun n => by
  induction n with
  | zero => rfl
  | succ n ih => unfold putD; simpa using ih
 rw [e] at h
 exact h
/-- What is to be shown, operation by operation, in the text's order; the frame goes along. -/
def ObsJ (P : Program) (ops : Array Oper) (Q : Exit → Act → World → Prop) (k0 : Nat) (S : Bool → World → Prop) (R C : List (List Nat)) (Rel : Nat → World → World → Prop) (m : Nat) (V : (Nat → Value) → List VP) (x : Nat → Value) : Nat → Nat → Act → Prop
 | 0, j, a => ∀ w b, S b w → (∀ i ∈ endR C m, ((V x).getD i VAny).p (x i) w) → wpAny P .any ops Q (ops.size - j) (listedTo ops.size j) a w
 | r + 1, j, a => (∀ b w, (j = k0 → b = false) → S b w → (∀ i ∈ availR R C m j, ((V x).getD i VAny).p (x i) w) →
     wpOp P ops NoWay j (fun a' w' => ∃ v, (∀ d, dstOf ops j = some d → a'.tmps[d]? = some v) ∧ a'.defers = a.defers ∧ ((V x).getD j VAny).p v w' ∧ StepR C (Rel j) j w w') a w) ∧
  ObsJ P ops Q k0 S R C Rel m V x r (j + 1) (a.put (dstOf ops j) (x j))
theorem obs_allJ {k0 : Nat} {S : Bool → World → Prop} {R C : List (List Nat)} {Rel : Nat → World → World → Prop} {m : Nat} {V : (Nat → Value) → List VP} {x : Nat → Value} {a0 : Act} : ∀ (r j : Nat), ObsJ P ops Q k0 S R C Rel m V x r j (putS ops x a0 j) →
    (∀ k, j ≤ k → k < j + r → ObJ P ops k0 S R C Rel m V x a0 k) ∧ ∀ w b, S b w → (∀ i ∈ endR C m, ((V x).getD i VAny).p (x i) w) → wpAny P .any ops Q (ops.size - (j + r)) (listedTo ops.size (j + r)) (putS ops x a0 (j + r)) w := by
 intro r
 induction r with
 | zero => intro j h; exact ⟨fun k h1 h2 => by omega, h⟩
 | succ r ih =>
  intro j h
  obtain ⟨h1, h2⟩ := h
  have h2' : ObsJ P ops Q k0 S R C Rel m V x r (j + 1) (putS ops x a0 (j + 1)) := h2
  obtain ⟨h3, h4⟩ := ih (j + 1) h2'
  refine ⟨fun k hk1 hk2 => ?_, by rw [show j + (r + 1) = j + 1 + r by omega]; exact h4⟩
  by_cases hk : k = j
  · subst hk
    intro b w hb0 hS hV
    have h := h1 b w hb0 hS hV
    rw [show (putS ops x a0 k).defers = a0.defers from (putD_size _ _ _ _).2] at h
    exact h
  · exact h3 k (by omega) (by omega)
theorem wp_obsJ {id : Nat} (m : Nat) (Rel : Nat → World → World → Prop) (R C : List (List Nat)) (V : (Nat → Value) → List VP) (k0 : Nat) (S : Bool → World → Prop) {a0 : Act} {w : World} (hm : P.follows .mixedOrders = true) (hok : tasksOk ops m a0.tmps.size R = true)
    (hdep : ∀ x x' j, (∀ i ∈ R.getD j [], x i = x' i) → (V x).getD j VAny = (V x').getD j VAny) (hweak : ∀ i, i < m → (C.getD i []).isEmpty = false → ∀ k, k < m → k ≠ i → i ∉ R.getD k [] → k ∉ C.getD i [] → ∀ x v w w', ((V x).getD k VAny).p v w → Rel i w w' → ((V x).getD k VAny).p v w') (hSt : ∀ j b w w', S b w → StepR C (Rel j) j w w' → S (b || j == k0) w') (hS0 : S false w.drew) (h : ∀ x, ObsJ P ops Q k0 S R C Rel m V x m 0 a0) : (Code.region id ops true).wp P Q a0 w :=
 wp_tasksJ (m := m) (Rel := Rel) R C V k0 S hm hok hdep hweak hS0 hSt (fun x j hj => (obs_allJ m 0 (h x)).1 j (by omega) (by omega)) (fun x w' b hS hV => by
  have := (obs_allJ m 0 (h x)).2 w' b hS (hV)
  rwa [Nat.zero_add] at this)
theorem obs_stepJ {k0 : Nat} {S : Bool → World → Prop} {R C : List (List Nat)} {Rel : Nat → World → World → Prop} {m : Nat} {V : (Nat → Value) → List VP} {x : Nat → Value} {r j : Nat} {a : Act} {o : Oper} {d : Tmp} (ho : ops[j]? = some o) (hd : o.dst = some d)
    (h : ∀ b w, (j = k0 → b = false) → S b w → (∀ i ∈ availR R C m j, ((V x).getD i VAny).p (x i) w) → ∀ K : Act → World → Prop, Shut (∀ a' w' v, a'.tmps[d]? = some v → a'.defers = a.defers → ((V x).getD j VAny).p v w' → StepR C (Rel j) j w w' → K a' w') →
     if Region.wanted o (yielded ops a.tmps) = true then Oper.wp P o a w K NoWay else K (a.put o.dst undef) w)
    (hr : ObsJ P ops Q k0 S R C Rel m V x r (j + 1) { a with tmps := a.tmps.setIfInBounds d (x j) }) : ObsJ P ops Q k0 S R C Rel m V x (r + 1) j a := by
 have hdst : dstOf ops j = some d := by simp [dstOf, ho, hd]
 refine ⟨fun b w hb0 hS hV => wpOp_step ho (fun K hK => ?_), by rw [hdst]; exact hr⟩
 exact h b w hb0 hS hV K (fun a' w' v h1 h2 h3 h4 => hK a' w' ⟨v, fun d' hd' => by rw [hdst] at hd'; injection hd' with hd'; exact hd' ▸ h1, h2, h3, h4⟩)
end
end Go.Proofs.YtaiegpggccdgoaaGreat
namespace Go.Proofs.YtaiegpggccdgoaaGreat
open Go Go.RowKit
theorem weak_ofJ {m : Nat} {Rel : Nat → World → World → Prop} {R C : List (List Nat)} {V : (Nat → Value) → List VP} (Wk : List Nat)
    (hchk : ((List.range m).all fun i => (C.getD i []).isEmpty || (List.range m).all fun k => k == i || (R.getD k []).contains i || (C.getD i []).contains k || Wk.contains k) = true)
    (hW : ∀ k ∈ Wk, ∀ i x v w w', ((V x).getD k VAny).p v w → Rel i w w' → ((V x).getD k VAny).p v w') :
    ∀ i, i < m → (C.getD i []).isEmpty = false → ∀ k, k < m → k ≠ i → i ∉ R.getD k [] → k ∉ C.getD i [] → ∀ x v w w', ((V x).getD k VAny).p v w → Rel i w w' → ((V x).getD k VAny).p v w' := fun i hi he k hk hne hR hC x v w w' hp hrel =>
 weak_ofR (Rel := Rel i) Wk hchk (fun k hk x v w w' hp hr => hW k hk i x v w w' hp hr) i hi he k hk hne hR hC x v w w' hp hrel
/-- A row made since then has grown. -/
def GrB (B : Nat) (w w' : World) : Prop := ∃ (A : Option Addr) (n c : Nat) (us : List Value), Own w B 2 A n c us ∧ w.grownBy w' (Value.slice A n c).ownBlock
/-- Operation i6 draws, operation i9 appends. -/
def RelJ (g B i6 i9 : Nat) (j : Nat) (w w' : World) : Prop := (j = i6 ∧ Dr g 124 w w') ∨ (j = i9 ∧ GrB B w w')
/-- The boxes, and, until the append, the list. -/
def SJ (g : Nat) (w : World) (box : Nat) (P : Int) (A : Option Addr) (n c : Nat) (xs : List Int) (b : Bool) (w' : World) : Prop :=
 Blk w' w.heap.size 26 #[.int .i64 0, .slice none 0 0] ∧ Blk w' box 26 #[.int .i64 P, .slice A n c] ∧ Dr g 124 w w' ∧ (b = false → Own w' w.heap.size 2 A n c (ints xs))
theorem SJ.step {g : Nat} {w : World} {box : Nat} {P : Int} {A : Option Addr} {n c : Nat} {xs : List Int} {i6 i9 : Nat} {C : List (List Nat)} (hne : i6 ≠ i9) (j : Nat) (b : Bool) (w1 w2 : World) (h : SJ g w box P A n c xs b w1) (hb : StepR C (RelJ g w.heap.size i6 i9 j) j w1 w2) : SJ g w box P A n c xs (b || j == i9) w2 := by
 obtain ⟨h1, h2, h3, h4⟩ := h
 refine hb.either (fun hb => ⟨h1.below hb h1.lt, h2.below hb h2.lt, h3.then hb, fun e => ?_⟩) (fun hr => ?_)
 · rw [Bool.or_eq_false_iff] at e
   exact (h4 e.1).below hb
 · rcases hr with ⟨rfl, hd⟩ | ⟨rfl, A', n', c', us, ho, hg⟩
   · refine ⟨h1.dr hd (by decide), h2.dr hd (by decide), h3.trans hd, fun e => ?_⟩
     rw [Bool.or_eq_false_iff] at e
     exact (h4 e.1).dr hd (by decide)
   · refine ⟨h1.grown hg (ho.ne_blk h1 (by decide)), h2.grown hg (ho.ne_blk h2 (by decide)), h3.grown ho hg, fun e => ?_⟩
     simp at e
/-- The value is the list with one number more. -/
def VAp (B n : Nat) (xs : List Int) : VP := ⟨fun v w => ∃ A c r, v = .slice A (n + 1) c ∧ Own w B 2 A (n + 1) c (ints (xs ++ [r])), fun _ _ _ ⟨A, c, r, e, h⟩ hb => ⟨A, c, r, e, h.below hb⟩⟩
/-- The value is a block with one number. -/
def VNb : VP := ⟨fun v w => ∃ g r, v = .slice (some ⟨g, 0, none⟩) 1 1 ∧ Blk w g 2 #[.int .i64 r], fun _ _ _ ⟨g, r, e, h⟩ hb => ⟨g, r, e, h.below hb h.lt⟩⟩
theorem dbl_back {w wr : World} {g b : Nat} {T : TypeId} {P : Int} {A : Option Addr} {n c : Nat} {xs : List Int} {cs : Array Value} (k : Blk wr b 26 cs) (hb : w.heap.size ≤ b) (hO : Own wr w.heap.size 2 A n c (ints xs)) (hd : Dr g T w wr) :
    Own ((wr.setCell ⟨b, 0, none⟩ (.int .i64 P)).setCell ⟨b, 1, none⟩ (.slice A n c)) w.heap.size 2 A n c (ints xs) ∧ Dr g T w ((wr.setCell ⟨b, 0, none⟩ (.int .i64 P)).setCell ⟨b, 1, none⟩ (.slice A n c)) :=
 ⟨(hO.far k (by decide) 0 _).far (k.set_ 0 (.int .i64 P)) (by decide) 1 _, (hd.setNew hb 0 _).setNew hb 1 _⟩
set_option maxHeartbeats 6400000 in
set_option maxRecDepth 8000 in
theorem l11Draw_any (g : Nat) (most : Int) (w : World) (hs : Src w g 124) (hm1 : 0 ≤ most) (hm2 : most ≤ 100) :
    Calls Tryz.prog 105 #[.pointer (some ⟨g, 0, none⟩), .int .i64 most] w fun e w' => ∃ (P : Int) (A : Option Addr) (n c : Nat) (xs : List Int), e = .returned (.agg #[.int .i64 P, .slice A n c]) ∧ 3 ≤ P ∧ P ≤ 13 ∧ n ≤ 4 ∧ Own w' w.heap.size 2 A n c (ints xs) ∧ Dr g 124 w w' := by
 have hd1 := ((Dr.refl hs).alloc (.cells #[.int .i64 0, .slice none 0 0] 26)).alloc (.cells #[.int .i64 3, .int .i64 5, .int .i64 7, .int .i64 11, .int .i64 13] 2)
 have k1 : Blk ((w.alloc (.cells #[.int .i64 0, .slice none 0 0] 26)).alloc (.cells #[.int .i64 3, .int .i64 5, .int .i64 7, .int .i64 11, .int .i64 13] 2)) w.heap.size 26 #[.int .i64 0, .slice none 0 0] := (Blk.new _ _ _).alloc _
 have hpk := pick_any g (w.alloc (.cells #[.int .i64 0, .slice none 0 0] 26)).heap.size [3, 5, 7, 11, 13] _ hd1.s' (Blk.new _ 2 _) (by decide) (by decide)
 have e1 : (w.alloc (.cells #[.int .i64 0, .slice none 0 0] 26)).heap.size = w.heap.size + 1 := by simp
 have hsz1 : ((w.alloc (.cells #[.int .i64 0, .slice none 0 0] 26)).alloc (.cells #[.int .i64 3, .int .i64 5, .int .i64 7, .int .i64 11, .int .i64 13] 2)).heap.size = w.heap.size + 2 := by simp
 rw [e1] at hpk
 go_enter Tryz.func105, Tryz.ntmps105
 go_wp2_with fail
 refine hpk.mono ?_
 rintro e w2 ⟨p, hpm, rfl, hd2⟩
 have hp1 : 3 ≤ p ∧ p ≤ 13 := by simp at hpm; omega
 have hd2' := hd1.trans hd2
 have k2 := k1.dr hd2 (by decide)
 have hs2 := hd2.size
 have hd3 := (hd2'.alloc (.cells #[.int .i64 p, .slice none 0 0] 26)).alloc (.cells #[.int .i64 0, .int .i64 1, .int .i64 2, .int .i64 2, .int .i64 3, .int .i64 3, .int .i64 3, .int .i64 4] 2)
 have k3 := (k2.alloc (.cells #[.int .i64 p, .slice none 0 0] 26)).alloc (.cells #[.int .i64 0, .int .i64 1, .int .i64 2, .int .i64 2, .int .i64 3, .int .i64 3, .int .i64 3, .int .i64 4] 2)
 have kb3 := (Blk.new w2 26 #[.int .i64 p, .slice none 0 0]).alloc (.cells #[.int .i64 0, .int .i64 1, .int .i64 2, .int .i64 2, .int .i64 3, .int .i64 3, .int .i64 3, .int .i64 4] 2)
 have hpk2 := pick_any g (w2.heap.size + 1) [0, 1, 2, 2, 3, 3, 3, 4] _ hd3.s' (Blk.newAt3 (w := w2.alloc (.cells #[.int .i64 p, .slice none 0 0] 26)) (g := w2.heap.size + 1) (by simp)) (by decide) (by decide)
 have hlt2 : w.heap.size < w2.heap.size := by omega
 clear hpk hd1 k1 hd2 hd2' k2 e1 hsz1 hs2 hpm
 go_wp2_with fail
 refine hpk2.mono ?_
 rintro e w3 ⟨r, hrm, rfl, hd4⟩
 have hr1 : 0 ≤ r ∧ r ≤ 4 := by simp at hrm; omega
 have hd5 := hd3.trans hd4
 have k5 := k3.dr hd4 (by decide)
 have kb5 := kb3.dr hd4 (by decide)
 obtain ⟨N, hN⟩ : ∃ N : Nat, min most r = (N : Int) := ⟨(min most r).toNat, by omega⟩
 have hN4 : N ≤ 4 := by omega
 have hnx2 := fun w' (h : Src w' g 124) => next_any g 2 w' h (by omega)
 have WP : wrap64 (p - 1) = p - 1 := by unfold wrap64; omega
 clear hpk2 hd3 k3 kb3 hd4 hrm
 have hq : (most ≤ r ∧ most = (N : Int)) ∨ (¬ most ≤ r ∧ r = (N : Int)) := by omega
 clear hN
 rcases hq with ⟨hmr, rfl⟩ | ⟨hmr, rfl⟩
 all_goals
  go_wp2
  go_loopw [6] (fun q wr => ∃ (j m : Nat) (A : Option Addr) (c : Nat) (xs : List Int), j + m = N ∧ q = .int .i64 m ∧ Blk wr w.heap.size 26 #[.int .i64 0, .slice none 0 0] ∧ Blk wr w2.heap.size 26 #[.int .i64 p, .slice A j c] ∧ Own wr w.heap.size 2 A j c (ints xs) ∧ Dr g 124 w wr) (fun q _ => (intOf q).toNat)
  case atStart => exact ⟨0, N, none, 0, [], by omega, rfl, k5, kb5, World.ownsRow_nil _ _ _ _, hd5⟩
  case round =>
   obtain ⟨j, m, A, c, xs, hjm, rfl, k4, k6, hO, hd⟩ := hrel
   clear k5 kb5 hd5
   cases m with
   | zero =>
    have hjN : j = N := by omega
    subst hjN
    obtain ⟨q0, q1⟩ := k6.two
    obtain ⟨p0, p1⟩ := k4.two
    have f0 := k4.frozen 0
    have f1 := k4.frozen 1
    go_wp2
    first | exact bodyPost_ret (v := .agg #[.int .i64 p, .slice A j c]) (by simp [results, Tryz.results105, go_sem, p0, p1]) rfl ⟨p, A, j, c, xs, rfl, hp1.1, hp1.2, by omega, (dbl_back k4 (Nat.le_refl _) hO hd).1, (dbl_back k4 (Nat.le_refl _) hO hd).2⟩ | exact bodyPost_ret (v := .agg #[.int .i64 p, .slice A j c]) (by simp [results, Tryz.results105, go_sem, p0, p1]) rfl ⟨p, A, j, c, rfl, hp1.1, hp1.2, by omega, ⟨xs, (dbl_back k4 (Nat.le_refl _) hO hd).1⟩, (dbl_back k4 (Nat.le_refl _) hO hd).2⟩
   | succ m =>
    have d1 : decide (0 < ((m + 1 : Nat) : Int)) = true := by rw [decide_eq_true_eq]; omega
    have WM : wrap64 (((m + 1 : Nat) : Int) - 1) = (m : Int) := by unfold wrap64; omega
    have HO0 := Lib.hid hO
    clear hO
    go_wp2_with fail
    refine (hnx2 _ hd.s').mono ?_
    rintro e wA ⟨ra, rfl, ra1, ra2, hdA⟩
    have HO := Lib.hid (HO0.out.dr hdA (by decide))
    have HD := Lib.hid (hd.trans hdA)
    have k4C := k4.dr hdA (by decide)
    have k6C := k6.dr hdA (by decide)
    obtain ⟨q0, q1⟩ := k6C.two
    clear hd hdA k4 k6 HO0
    by_cases hra : ra = 0
    · have er : (ra == 0) = true := by simp [hra]
      clear hnx2
      go_wp2_with (at_builtin; refine wpList_app1 (cutW wA w.heap.size) wA 24 2 _ _ Tryz.underlying24 info_i rfl (by omega) rfl _ _ rfl A j c _ _ (HO.out.mk_ HD.out.size) (by omega) rfl rfl rfl ?_; intro A8 c8 w8 hM8 hg8 _
                   have k4a := k4C.grown hg8 (HO.out.ne_blk k4C (by decide))
                   have k6a := k6C.grown hg8 (HO.out.ne_blk k6C (by decide))
                   have hO3 := hM8.own_ (cutW_size HD.out.size)
                   have hd3 := HD.out.grown HO.out hg8
                   have f8 := k6a.frozen 1
                   have f9 := k6a.cell 1
                   simp only [zA, zC, zB] at f9)
      have k4b := k4a.far (p := ⟨w2.heap.size, 1, none⟩) (show w.heap.size ≠ w2.heap.size by omega) (.slice A8 (j + 1) c8)
      have k6b := k6a.set_ 1 (.slice A8 (j + 1) c8)
      have hO4 := hO3.far k6a (by decide) 1 (.slice A8 (j + 1) c8)
      have hd4 := hd3.setNew (b := w2.heap.size) (by omega) 1 (.slice A8 (j + 1) c8)
      simp only [zD, zE, zF] at k6b
      clear k4a k6a hO3 hd3 f8 f9 hM8 hg8 k4C k6C
      go_roundw
      case rel => exact ⟨j + 1, m, A8, c8, xs ++ [p - 1], by omega, by go_num, k4b, k6b, by simpa [ints] using hO4, hd4⟩
      case measure => simp [intOf]
    · have er : (ra == 0) = false := by simp [hra]
      have hO := HO.out
      have hd := HD.out
      have k4 := k4C
      have k6 := k6C
      clear HO HD k4C k6C hnx2
      go_wp2
      refine wp_obsJ 11 (RelJ g w.heap.size 6 9) [[], [0], [], [], [3], [3, 4], [2, 3, 4, 5], [2, 3, 4, 5, 6], [2, 3, 4, 5, 6, 7], [0, 1, 2, 3, 4, 5, 6, 7, 8], [], [0, 1, 2, 3, 4, 5, 6, 7, 8, 9, 10]] [[], [], [], [], [], [], [99], [], [], [8], []] (fun x => [VIs (.pointer (some ⟨w2.heap.size, 1, none⟩)), VIs (.slice A j c), VIs (.pointer (some ⟨g, 0, none⟩)), VIs (.pointer (some ⟨w2.heap.size, 0, none⟩)), VIs (.int .i64 (p)), VIs (.int .i64 (p - 1)), VNum, VNum, VNb, VAp w.heap.size j xs, VIs (.pointer (some ⟨w2.heap.size, 1, none⟩))]) 9 (SJ g w (w2.heap.size) p A j c xs) (by kernel_rfl) (by kernel_rfl) (fun x x' j hx => by
          rcases j with _ | _ | _ | _ | _ | _ | _ | _ | _ | _ | _ | j
          · rfl
          · rfl
          · rfl
          · rfl
          · rfl
          · rfl
          · rfl
          · rfl
          · rfl
          · rfl
          · rfl
          · rfl)
       (weak_ofJ [0, 1, 2, 3, 4, 5, 6, 7, 10] (by decide) (fun k hk i x v w w' hp hr => by
        simp only [List.mem_cons, zJ, or_false] at hk
        rcases hk with rfl | rfl | rfl | rfl | rfl | rfl | rfl | rfl | rfl
        · exact hp
        · exact hp
        · exact hp
        · exact hp
        · exact hp
        · exact hp
        · exact hp
        · exact hp
        · exact hp)) (SJ.step (by decide)) (⟨k4.drew, k6.drew, hd.then zG.drew, fun _ => hO.below zG.drew⟩) (fun x => ?_)
      refine obs_stepJ (Eq.trans (by simp only [zA, zC]; exact rfl) rfl) rfl (fun b w' hb0 hS hV K hK => ?_) ?_
      · obtain ⟨s1, s2, s3, s4⟩ := hS; obtain ⟨q0, q1⟩ := s2.two; go_simp; exact hK.out _ _ _ rfl rfl rfl zG
      simp only [zD, zE, zF]
      refine obs_stepJ (Eq.trans (by simp only [zA, zB, zC]; exact rfl) rfl) rfl (fun b w' hb0 hS hV K hK => ?_) ?_
      · have e0 := zQ hV 0; obtain ⟨s1, s2, s3, s4⟩ := hS; obtain ⟨q0, q1⟩ := s2.two; go_simp; exact hK.out _ _ _ rfl rfl rfl zG
      simp only [zD, zE, zF]
      refine obs_stepJ (Eq.trans (by simp only [zA, zB, zC]; exact rfl) rfl) rfl (fun b w' hb0 hS hV K hK => ?_) ?_
      · obtain ⟨s1, s2, s3, s4⟩ := hS; obtain ⟨q0, q1⟩ := s2.two; go_simp; exact hK.out _ _ _ rfl rfl rfl zG
      simp only [zD, zE, zF]
      refine obs_stepJ (Eq.trans (by simp only [zA, zB, zC]; exact rfl) rfl) rfl (fun b w' hb0 hS hV K hK => ?_) ?_
      · obtain ⟨s1, s2, s3, s4⟩ := hS; obtain ⟨q0, q1⟩ := s2.two; go_simp; exact hK.out _ _ _ rfl rfl rfl zG
      simp only [zD, zE, zF]
      refine obs_stepJ (Eq.trans (by simp only [zA, zB, zC]; exact rfl) rfl) rfl (fun b w' hb0 hS hV K hK => ?_) ?_
      · have e3 := zQ hV 3; obtain ⟨s1, s2, s3, s4⟩ := hS; obtain ⟨q0, q1⟩ := s2.two; go_simp; exact hK.out _ _ _ rfl rfl rfl zG
      simp only [zD, zE, zF]
      refine obs_stepJ (Eq.trans (by simp only [zA, zB, zC]; exact rfl) rfl) rfl (fun b w' hb0 hS hV K hK => ?_) ?_
      · have e4 := zQ hV 4; obtain ⟨s1, s2, s3, s4⟩ := hS; obtain ⟨q0, q1⟩ := s2.two; go_simp; exact hK.out _ _ _ rfl rfl (by first | rfl | exact congrArg (Value.int .i64) WP | exact congrArg (Value.int .i64) (i64_fit _ (by omega) (by omega))) zG
      simp only [zD, zE, zF]
      refine obs_stepJ (Eq.trans (by simp only [zA, zB, zC]; exact rfl) rfl) rfl (fun b w' hb0 hS hV K hK => ?_) ?_
      · have e2 := zQ hV 2; have e5 := zQ hV 5; obtain ⟨s1, s2, s3, s4⟩ := hS; obtain ⟨q0, q1⟩ := s2.two; go_simp; refine (next_any g (p - 1) w' s3.s' (by omega)).mono ?_; rintro e v1 ⟨r1, rfl, _, _, hr⟩; exact hK.out _ _ _ rfl rfl ⟨_, rfl⟩ (.inl ⟨rfl, hr⟩)
      simp only [zD, zE, zF]
      refine obs_stepJ (Eq.trans (by simp only [zA, zB, zC]; exact rfl) rfl) rfl (fun b w' hb0 hS hV K hK => ?_) ?_
      · obtain ⟨rv6, e6⟩ := hV 6 (by decide); obtain ⟨s1, s2, s3, s4⟩ := hS; obtain ⟨q0, q1⟩ := s2.two; go_simp; exact hK.out _ _ _ rfl rfl ⟨_, rfl⟩ zG
      simp only [zD, zE, zF]
      refine obs_stepJ (Eq.trans (by simp only [zA, zB, zC]; exact rfl) rfl) rfl (fun b w' hb0 hS hV K hK => ?_) ?_
      · obtain ⟨rv6, e6⟩ := hV 6 (by decide); obtain ⟨rv7, e7⟩ := hV 7 (by decide); obtain ⟨s1, s2, s3, s4⟩ := hS; obtain ⟨q0, q1⟩ := s2.two; go_simp; exact hK.out _ _ _ rfl rfl ⟨_, _, rfl, Blk.new _ _ _⟩ (zG.alloc (Nat.le_refl _) _)
      simp only [zD, zE, zF]
      refine obs_stepJ (Eq.trans (by simp only [zA, zB, zC]; exact rfl) rfl) rfl (fun b w' hb0 hS hV K hK => ?_) ?_
      · have e1 := zQ hV 1; obtain ⟨rv6, e6⟩ := hV 6 (by decide); obtain ⟨rv7, e7⟩ := hV 7 (by decide); obtain ⟨G8, rw8, e8, b8⟩ := hV 8 (by decide); obtain ⟨s1, s2, s3, s4⟩ := hS; obtain ⟨q0, q1⟩ := s2.two; refine wp_app1 (cutW w' w.heap.size) w' 24 2 _ _ Tryz.underlying24 info_i rfl (by omega) _ _ rfl A j c _ _ ((s4 (hb0 rfl)).mk_ s3.size) (by omega) rfl G8 b8 e1 e8 ?_; intro A8 c8 w8 hM8 hg8; exact hK.out _ _ _ rfl rfl ⟨A8, c8, rw8, rfl, by have := hM8.own_ (cutW_size s3.size); simpa [ints] using this⟩ (.inr ⟨rfl, _, _, _, _, s4 (hb0 rfl), hg8⟩)
      simp only [zD, zE, zF]
      refine obs_stepJ (Eq.trans (by simp only [zA, zB, zC]; exact rfl) rfl) rfl (fun b w' hb0 hS hV K hK => ?_) ?_
      · obtain ⟨s1, s2, s3, s4⟩ := hS; obtain ⟨q0, q1⟩ := s2.two; go_simp; exact hK.out _ _ _ rfl rfl rfl zG
      simp only [zD, zE, zF]
      refine fun w' bb hS hV => ?_
      have e0 := zQ hV 0
      have e1 := zQ hV 1
      have e2 := zQ hV 2
      have e3 := zQ hV 3
      have e4 := zQ hV 4
      have e5 := zQ hV 5
      obtain ⟨rv6, e6⟩ := hV 6 (by decide)
      obtain ⟨rv7, e7⟩ := hV 7 (by decide)
      obtain ⟨A9, c9, rw9, e9, o9⟩ := hV 9 (by decide)
      have e10 := zQ hV 10
      simp only [e0, e1, e2, e3, e4, e5, e6, e7, e9, e10]
      clear e0 e1 e2 e3 e4 e5 e6 e7 e9 e10
      obtain ⟨k47, k67, hd7, -⟩ := hS
      have f8 := k67.frozen 1
      obtain ⟨t0, t1⟩ := k67.two
      refine any_one (j := 11) (by kernel_rfl) (Eq.trans (by simp only [zA, zB, zC]; exact rfl) rfl) (fun K hK => ?_)
      go_simp
      refine hK.out _ _ (wpAny_done (by kernel_rfl) ?_ _)
      have k4b := k47.far (p := ⟨w2.heap.size, 1, none⟩) (show w.heap.size ≠ w2.heap.size by omega) (.slice A9 (j + 1) c9)
      have k6b := k67.set_ 1 (.slice A9 (j + 1) c9)
      have hO4 := o9.far k67 (by decide) 1 (.slice A9 (j + 1) c9)
      have hd4 := hd7.setNew (b := w2.heap.size) (by omega) 1 (.slice A9 (j + 1) c9)
      simp only [zD, zE, zF] at k6b
      clear k47 k67 hd7 f8 t0 t1
      go_wp2
      go_roundw
      case rel => exact ⟨j + 1, m, A9, c9, xs ++ [rw9], by omega, by go_num, k4b, k6b, hO4, hd4⟩
      case measure => simp [intOf]
set_option maxHeartbeats 6400000 in
set_option maxRecDepth 8000 in
theorem l11DrawAny_any (g : Nat) (most : Int) (w : World) (hs : Src w g 124) (hm1 : 0 ≤ most) (hm2 : most ≤ 100) :
    Calls Tryz.prog 45 #[.pointer (some ⟨g, 0, none⟩), .int .i64 most] w fun e w' => ∃ (P : Int) (A : Option Addr) (n c : Nat) (xs : List Int), e = .returned (.agg #[.int .i64 P, .slice A n c]) ∧ 0 ≤ P ∧ P ≤ 17 ∧ n ≤ 5 ∧ Own w' w.heap.size 2 A n c (ints xs) ∧ Dr g 124 w w' := by
 have hd1 := (Dr.refl hs).alloc (.cells #[.int .i64 0, .slice none 0 0] 26)
 have k1 : Blk (w.alloc (.cells #[.int .i64 0, .slice none 0 0] 26)) w.heap.size 26 #[.int .i64 0, .slice none 0 0] := Blk.new _ _ _
 have hdr := l11Draw_any g most (w.alloc (.cells #[.int .i64 0, .slice none 0 0] 26)) hd1.s' hm1 hm2
 have hsw : (w.alloc (.cells #[.int .i64 0, .slice none 0 0] 26)).heap.size = w.heap.size + 1 := by simp
 go_enter Tryz.func45, Tryz.ntmps45
 go_wp2_with fail
 refine hdr.mono ?_
 rintro e w2 ⟨P, A, n, c, xs, rfl, hP1, hP2, hn2, hO, hd2⟩
 have hs2 := hd2.size
 have hlt2 : w.heap.size < w2.heap.size := by omega
 have hd3 := (hd1.trans hd2).alloc (.cells #[.int .i64 P, .slice A n c] 26)
 have k3 := (k1.dr hd2 (by decide)).alloc (.cells #[.int .i64 P, .slice A n c] 26)
 have kb3 : Blk (w2.alloc (.cells #[.int .i64 P, .slice A n c] 26)) w2.heap.size 26 #[.int .i64 P, .slice A n c] := Blk.new _ _ _
 have hO3 := (hO.base (B' := w.heap.size) (by omega)).below (zG.alloc (Nat.le_refl _) (.cells #[.int .i64 P, .slice A n c] 26))
 have hnx := next_any g 30 _ hd3.s' (by omega)
 clear hdr hd1 k1 hsw hd2 hs2 hO
 go_wp2_with fail
 refine hnx.mono ?_
 rintro e w3 ⟨r, rfl, hr1, hr2, hd4⟩
 have hd := hd3.trans hd4
 have k4 := k3.dr hd4 (by decide)
 have k6 := kb3.dr hd4 (by decide)
 have hO := hO3.dr hd4 (by decide)
 clear hnx hd3 k3 kb3 hO3 hd4
 by_cases h0 : r = 0
 · have e0 : (r == 0) = true := by simp [h0]
   obtain ⟨q0, q1⟩ := k6.two
   have hd6 := (Dr.refl hd.s').alloc (.cells #[.int .i64 2, .int .i64 9, .int .i64 17, .int .i64 0] 2)
   have hpk := pick_any g w3.heap.size [2, 9, 17, 0] _ hd6.s' (Blk.new w3 2 _) (by decide) (by decide)
   go_wp2_with fail
   refine hpk.mono ?_
   rintro e w4 ⟨P2, hP, rfl, hd7⟩
   have hP3 : 0 ≤ P2 ∧ P2 ≤ 17 := by simp at hP; omega
   have hd67 := hd6.trans hd7
   have k7 := k4.dr hd67 (by decide)
   have kb7 := k6.dr hd67 (by decide)
   have hO7 := hO.dr hd67 (by decide)
   have hd8 := hd.trans hd67
   have g0 := kb7.frozen 0
   have g1 := kb7.cell 0
   have g2 := kb7.cell 1
   simp only [zA, zC, zB] at g1 g2
   have k8 := k7.far (p := ⟨w2.heap.size, 0, none⟩) (show w.heap.size ≠ w2.heap.size by omega) (.int .i64 P2)
   have hO8 := hO7.far kb7 (by decide) 0 (.int .i64 P2)
   have hd9 := hd8.setNew (b := w2.heap.size) (by omega) 0 (.int .i64 P2)
   obtain ⟨p0, p1⟩ := k7.two
   have f0 := k7.frozen 0
   have f1 := k7.frozen 1
   clear hpk hd6 hd7 hd67 k4 k6 hO hd q0 q1 hP
   go_wp2
   obtain ⟨w5, hw5⟩ : ∃ W, W = w4.setCell ⟨w2.heap.size, 0, none⟩ (.int .i64 P2) := ⟨_, rfl⟩
   rw [← hw5] at k8 hO8 hd9 ⊢
   obtain ⟨p0, p1⟩ := k8.two
   first | exact bodyPost_ret (v := .agg #[.int .i64 P2, .slice A n c]) (by simp [results, Tryz.results45, go_sem, p0, p1]) rfl ⟨P2, A, n, c, xs, rfl, by omega, by omega, by omega, (dbl_back k8 (Nat.le_refl _) hO8 hd9).1, (dbl_back k8 (Nat.le_refl _) hO8 hd9).2⟩ | exact bodyPost_ret (v := .agg #[.int .i64 P2, .slice A n c]) (by simp [results, Tryz.results45, go_sem, p0, p1]) rfl ⟨P2, A, n, c, rfl, by omega, by omega, by omega, ⟨xs, (dbl_back k8 (Nat.le_refl _) hO8 hd9).1⟩, (dbl_back k8 (Nat.le_refl _) hO8 hd9).2⟩
 · have e0 : (r == 0) = false := by simp [h0]
   by_cases h1 : r = 1
   · have e1 : (r == 1) = true := by simp [h1]
     obtain ⟨q0, q1⟩ := k6.two
     go_wp2
     refine wp_obsJ 10 (RelJ g w.heap.size 6 8) [[], [0], [], [], [3], [3, 4], [2, 3, 4, 5], [2, 3, 4, 5, 6], [0, 1, 2, 3, 4, 5, 6, 7], [], [0, 1, 2, 3, 4, 5, 6, 7, 8, 9]] [[], [], [], [], [], [], [5], [], [5, 7], []] (fun x => [VIs (.pointer (some ⟨w2.heap.size, 1, none⟩)), VIs (.slice A n c), VIs (.pointer (some ⟨g, 0, none⟩)), VIs (.pointer (some ⟨w2.heap.size, 0, none⟩)), VIs (.int .i64 (P)), VBs 2 #[.int .i64 0, .int .i64 P], VNum, VNb, VAp w.heap.size n xs, VIs (.pointer (some ⟨w2.heap.size, 1, none⟩))]) 8 (SJ g w (w2.heap.size) P A n c xs) (by kernel_rfl) (by kernel_rfl) (fun x x' j hx => by
         rcases j with _ | _ | _ | _ | _ | _ | _ | _ | _ | _ | j
         · rfl
         · rfl
         · rfl
         · rfl
         · rfl
         · rfl
         · rfl
         · rfl
         · rfl
         · rfl
         · rfl)
      (weak_ofJ [0, 1, 2, 3, 4, 6, 9] (by decide) (fun k hk i x v w w' hp hr => by
       simp only [List.mem_cons, zJ, or_false] at hk
       rcases hk with rfl | rfl | rfl | rfl | rfl | rfl | rfl
       · exact hp
       · exact hp
       · exact hp
       · exact hp
       · exact hp
       · exact hp
       · exact hp)) (SJ.step (by decide)) (⟨k4.drew, k6.drew, hd.then zG.drew, fun _ => hO.below zG.drew⟩) (fun x => ?_)
     refine obs_stepJ (Eq.trans (by simp only [zA, zC]; exact rfl) rfl) rfl (fun b w' hb0 hS hV K hK => ?_) ?_
     · obtain ⟨s1, s2, s3, s4⟩ := hS; obtain ⟨q0, q1⟩ := s2.two; go_simp; exact hK.out _ _ _ rfl rfl rfl zG
     simp only [zD, zE, zF]
     refine obs_stepJ (Eq.trans (by simp only [zA, zB, zC]; exact rfl) rfl) rfl (fun b w' hb0 hS hV K hK => ?_) ?_
     · have e0 := zQ hV 0; obtain ⟨s1, s2, s3, s4⟩ := hS; obtain ⟨q0, q1⟩ := s2.two; go_simp; exact hK.out _ _ _ rfl rfl rfl zG
     simp only [zD, zE, zF]
     refine obs_stepJ (Eq.trans (by simp only [zA, zB, zC]; exact rfl) rfl) rfl (fun b w' hb0 hS hV K hK => ?_) ?_
     · obtain ⟨s1, s2, s3, s4⟩ := hS; obtain ⟨q0, q1⟩ := s2.two; go_simp; exact hK.out _ _ _ rfl rfl rfl zG
     simp only [zD, zE, zF]
     refine obs_stepJ (Eq.trans (by simp only [zA, zB, zC]; exact rfl) rfl) rfl (fun b w' hb0 hS hV K hK => ?_) ?_
     · obtain ⟨s1, s2, s3, s4⟩ := hS; obtain ⟨q0, q1⟩ := s2.two; go_simp; exact hK.out _ _ _ rfl rfl rfl zG
     simp only [zD, zE, zF]
     refine obs_stepJ (Eq.trans (by simp only [zA, zB, zC]; exact rfl) rfl) rfl (fun b w' hb0 hS hV K hK => ?_) ?_
     · have e3 := zQ hV 3; obtain ⟨s1, s2, s3, s4⟩ := hS; obtain ⟨q0, q1⟩ := s2.two; go_simp; exact hK.out _ _ _ rfl rfl rfl zG
     simp only [zD, zE, zF]
     refine obs_stepJ (Eq.trans (by simp only [zA, zB, zC]; exact rfl) rfl) rfl (fun b w' hb0 hS hV K hK => ?_) ?_
     · have e4 := zQ hV 4; obtain ⟨s1, s2, s3, s4⟩ := hS; obtain ⟨q0, q1⟩ := s2.two; go_simp; exact hK.out _ _ _ rfl rfl ⟨_, rfl, Blk.new _ _ _⟩ (zG.alloc (Nat.le_refl _) _)
     simp only [zD, zE, zF]
     refine obs_stepJ (Eq.trans (by simp only [zA, zB, zC]; exact rfl) rfl) rfl (fun b w' hb0 hS hV K hK => ?_) ?_
     · have e2 := zQ hV 2; obtain ⟨G5, e5, b5⟩ := hV 5 (by decide); obtain ⟨s1, s2, s3, s4⟩ := hS; obtain ⟨q0, q1⟩ := s2.two; go_simp; refine (pick_any g G5 [0, P] _ s3.s' (by rw [ints2]; exact b5) (by simp) (by simp)).mono ?_; rintro e v1 ⟨r1, _, rfl, hr⟩; exact hK.out _ _ _ rfl rfl ⟨_, rfl⟩ (.inl ⟨rfl, hr⟩)
     simp only [zD, zE, zF]
     refine obs_stepJ (Eq.trans (by simp only [zA, zB, zC]; exact rfl) rfl) rfl (fun b w' hb0 hS hV K hK => ?_) ?_
     · obtain ⟨rv6, e6⟩ := hV 6 (by decide); obtain ⟨s1, s2, s3, s4⟩ := hS; obtain ⟨q0, q1⟩ := s2.two; go_simp; exact hK.out _ _ _ rfl rfl ⟨_, _, rfl, Blk.new _ _ _⟩ (zG.alloc (Nat.le_refl _) _)
     simp only [zD, zE, zF]
     refine obs_stepJ (Eq.trans (by simp only [zA, zB, zC]; exact rfl) rfl) rfl (fun b w' hb0 hS hV K hK => ?_) ?_
     · have e1 := zQ hV 1; obtain ⟨rv6, e6⟩ := hV 6 (by decide); obtain ⟨G7, rw7, e7, b7⟩ := hV 7 (by decide); obtain ⟨s1, s2, s3, s4⟩ := hS; obtain ⟨q0, q1⟩ := s2.two; refine wp_app1 (cutW w' w.heap.size) w' 24 2 _ _ Tryz.underlying24 info_i rfl (by omega) _ _ rfl A n c _ _ ((s4 (hb0 rfl)).mk_ s3.size) (by omega) rfl G7 b7 e1 e7 ?_; intro A8 c8 w8 hM8 hg8; exact hK.out _ _ _ rfl rfl ⟨A8, c8, rw7, rfl, by have := hM8.own_ (cutW_size s3.size); simpa [ints] using this⟩ (.inr ⟨rfl, _, _, _, _, s4 (hb0 rfl), hg8⟩)
     simp only [zD, zE, zF]
     refine obs_stepJ (Eq.trans (by simp only [zA, zB, zC]; exact rfl) rfl) rfl (fun b w' hb0 hS hV K hK => ?_) ?_
     · obtain ⟨s1, s2, s3, s4⟩ := hS; obtain ⟨q0, q1⟩ := s2.two; go_simp; exact hK.out _ _ _ rfl rfl rfl zG
     simp only [zD, zE, zF]
     refine fun w' bb hS hV => ?_
     have e0 := zQ hV 0
     have e1 := zQ hV 1
     have e2 := zQ hV 2
     have e3 := zQ hV 3
     have e4 := zQ hV 4
     obtain ⟨rv6, e6⟩ := hV 6 (by decide)
     obtain ⟨A8, c8, rw8, e8, o8⟩ := hV 8 (by decide)
     have e9 := zQ hV 9
     simp only [e0, e1, e2, e3, e4, e6, e8, e9]
     clear e0 e1 e2 e3 e4 e6 e8 e9
     obtain ⟨k47, k67, hd7, -⟩ := hS
     have f8 := k67.frozen 1
     obtain ⟨t0, t1⟩ := k67.two
     refine any_one (j := 10) (by kernel_rfl) (Eq.trans (by simp only [zA, zB, zC]; exact rfl) rfl) (fun K hK => ?_)
     go_simp
     refine hK.out _ _ (wpAny_done (by kernel_rfl) ?_ _)
     have k4b := k47.far (p := ⟨w2.heap.size, 1, none⟩) (show w.heap.size ≠ w2.heap.size by omega) (.slice A8 (n + 1) c8)
     have k6b := k67.set_ 1 (.slice A8 (n + 1) c8)
     have hO4 := o8.far k67 (by decide) 1 (.slice A8 (n + 1) c8)
     have hd4 := hd7.setNew (b := w2.heap.size) (by omega) 1 (.slice A8 (n + 1) c8)
     simp only [zD, zE, zF] at k6b
     clear k47 k67 hd7 f8 t0 t1
     obtain ⟨p0, p1⟩ := k4b.two
     have f0 := k4b.frozen 0
     have f1 := k4b.frozen 1
     obtain ⟨t2, t3⟩ := k6b.two
     go_wp2
     first | exact bodyPost_ret (v := .agg #[.int .i64 P, .slice A8 (n + 1) c8]) (by simp [results, Tryz.results45, go_sem, p0, p1]) rfl ⟨P, A8, (n + 1), c8, (xs ++ [rw8]), rfl, by omega, by omega, by omega, (dbl_back k4b (Nat.le_refl _) hO4 hd4).1, (dbl_back k4b (Nat.le_refl _) hO4 hd4).2⟩ | exact bodyPost_ret (v := .agg #[.int .i64 P, .slice A8 (n + 1) c8]) (by simp [results, Tryz.results45, go_sem, p0, p1]) rfl ⟨P, A8, (n + 1), c8, rfl, by omega, by omega, by omega, ⟨(xs ++ [rw8]), (dbl_back k4b (Nat.le_refl _) hO4 hd4).1⟩, (dbl_back k4b (Nat.le_refl _) hO4 hd4).2⟩
   · have e1 : (r == 1) = false := by simp [h1]
     by_cases h3 : r = 2
     · have e3 : (r == 2) = true := by simp [h3]
       go_wp2
       go_loopw [] (fun wr => ∃ (j : Nat) (A1 : Option Addr) (c1 : Nat) (xs1 : List Int), j ≤ 5 ∧ Blk wr w.heap.size 26 #[.int .i64 0, .slice none 0 0] ∧ Blk wr w2.heap.size 26 #[.int .i64 P, .slice A1 j c1] ∧ Own wr w.heap.size 2 A1 j c1 (ints xs1) ∧ Dr g 124 w wr) (fun wr => 5 - (match wr.cell? ⟨w2.heap.size, 1, none⟩ with | some (.slice _ l _) => l | _ => 0))
       case atStart => exact ⟨n, A, c, xs, by omega, k4, k6, hO, hd⟩
       case round =>
        obtain ⟨j, A1, c1, xs1, hj, k5, kb6, hO6, hd6⟩ := hrel
        clear k4 k6 hO hd
        obtain ⟨q0, q1⟩ := kb6.two
        by_cases hlt : j < 5
        · have d7 : decide ((j : Int) < 5) = true := by rw [decide_eq_true_eq]; omega
          go_wp2_with (at_builtin; refine wpList_app1 (cutW wr w.heap.size) wr 24 2 _ _ Tryz.underlying24 info_i rfl (by omega) rfl _ _ rfl A1 j c1 _ _ (hO6.mk_ hd6.size) (by omega) rfl rfl rfl ?_; intro A8 c8 w8 hM8 hg8 _
                       have k4a := k5.grown hg8 (hO6.ne_blk k5 (by decide))
                       have k6a := kb6.grown hg8 (hO6.ne_blk kb6 (by decide))
                       have hO7 := hM8.own_ (cutW_size hd6.size)
                       have hd7 := hd6.grown hO6 hg8
                       have f8 := k6a.frozen 1
                       obtain ⟨f9, f10⟩ := k6a.two)
          have k4b := k4a.far (p := ⟨w2.heap.size, 1, none⟩) (show w.heap.size ≠ w2.heap.size by omega) (.slice A8 (j + 1) c8)
          have k6b := k6a.set_ 1 (.slice A8 (j + 1) c8)
          have hO8 := hO7.far k6a (by decide) 1 (.slice A8 (j + 1) c8)
          have hd8 := hd7.setNew (b := w2.heap.size) (by omega) 1 (.slice A8 (j + 1) c8)
          simp only [zD, zE, zF] at k6b
          have hm2 := k6b.two.2
          clear k4a k6a hO7 hd7 f8 f9 f10 hM8 hg8
          go_roundw
          case rel => exact ⟨j + 1, A8, c8, xs1 ++ [1], by omega, k4b, k6b, by simpa [ints] using hO8, hd8⟩
          case measure =>
           simp only [hm2, q1]
           show 5 - (j + 1) < 5 - j
           omega
        · have d7 : decide ((j : Int) < 5) = false := by rw [decide_eq_false_iff_not]; omega
          obtain ⟨p0, p1⟩ := k5.two
          have f0 := k5.frozen 0
          have f1 := k5.frozen 1
          go_wp2
          first | exact bodyPost_ret (v := .agg #[.int .i64 P, .slice A1 j c1]) (by simp [results, Tryz.results45, go_sem, p0, p1]) rfl ⟨P, A1, j, c1, xs1, rfl, by omega, by omega, by omega, (dbl_back k5 (Nat.le_refl _) hO6 hd6).1, (dbl_back k5 (Nat.le_refl _) hO6 hd6).2⟩ | exact bodyPost_ret (v := .agg #[.int .i64 P, .slice A1 j c1]) (by simp [results, Tryz.results45, go_sem, p0, p1]) rfl ⟨P, A1, j, c1, rfl, by omega, by omega, by omega, ⟨xs1, (dbl_back k5 (Nat.le_refl _) hO6 hd6).1⟩, (dbl_back k5 (Nat.le_refl _) hO6 hd6).2⟩
     · have e3 : (r == 2) = false := by simp [h3]
       obtain ⟨p0, p1⟩ := k4.two
       have f0 := k4.frozen 0
       have f1 := k4.frozen 1
       obtain ⟨q0, q1⟩ := k6.two
       go_wp2
       first | exact bodyPost_ret (v := .agg #[.int .i64 P, .slice A n c]) (by simp [results, Tryz.results45, go_sem, p0, p1]) rfl ⟨P, A, n, c, xs, rfl, by omega, by omega, by omega, (dbl_back k4 (Nat.le_refl _) hO hd).1, (dbl_back k4 (Nat.le_refl _) hO hd).2⟩ | exact bodyPost_ret (v := .agg #[.int .i64 P, .slice A n c]) (by simp [results, Tryz.results45, go_sem, p0, p1]) rfl ⟨P, A, n, c, rfl, by omega, by omega, by omega, ⟨xs, (dbl_back k4 (Nat.le_refl _) hO hd).1⟩, (dbl_back k4 (Nat.le_refl _) hO hd).2⟩
end Go.Proofs.YtaiegpggccdgoaaGreat

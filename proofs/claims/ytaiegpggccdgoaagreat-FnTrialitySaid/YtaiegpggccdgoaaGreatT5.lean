/-
  LawFnTriality: part 5 of the texts that the proof needs. No condition.
-/
import Derived.Test.YtaiegpggccdgoaaGreatT4
namespace Go.Proofs.YtaiegpggccdgoaaGreat
open Go.RowKit
theorem plus_scale {p : Int} {x y : List Int} (g : Int) (hl : x.length ≤ y.length) : plusL p x (scaleL p y g) 1 = plusL p x y g := by
 refine list_ext_getD 0 (by rw [plusL_len, plusL_len]) fun i hi => ?_
 rw [plusL_len] at hi
 rw [plusL_getD _ _ hi, plusL_getD _ _ hi, scaleL_getD _ (by omega), Int.one_mul, Int.add_emod, Int.emod_emod_of_dvd _ (Int.dvd_refl p), ← Int.add_emod, Int.mul_comm (y.getD i 0)]
set_option maxHeartbeats 1600000 in
set_option maxRecDepth 8000 in
theorem l11Mul_succ (p : Int) (hp : 2 ≤ p) (hp2 : p ≤ 13) (k : Nat) (hk : k + 1 ≤ 4) (ih : MulOk p k) : MulOk p (k + 1) := by
 intro A c st X cx xs Y cy ys w hc hcx hcy ha hst hx hxs hy hys
 obtain ⟨ga, oa, rfl, hsk, hca⟩ := ha.int (show k < k + 1 by omega)
 obtain ⟨h, hh⟩ : ∃ h, h = pw k := ⟨_, rfl⟩
 have hpw : pw (k + 1) = 2 * h := by rw [pw_succ, hh]
 have h1 : 1 ≤ h := hh ▸ pw_pos k
 have h64 : h ≤ 8 := by have := pw_le (show k ≤ 3 by omega); rw [← hh] at this; exact this
 rw [hpw] at hcx hcy hx hy
 obtain ⟨gx, ox, rfl, hx2⟩ := hx.behind (show h < 2 * h by omega)
 obtain ⟨gy, oy, rfl, hy2⟩ := hy.behind (show h < 2 * h by omega)
 have hx1 := hx.cut (show h ≤ 2 * h by omega)
 have hy1 := hy.cut (show h ≤ 2 * h by omega)
 have ha1 := ha.cut (show k ≤ k + 1 by omega)
 have s1 := fun w => slice_head (g := gx) (o := ox) (c := cx) (m := 2 * h) (k := h) w (by omega) (by omega)
 have s2 := fun w => slice_rest (g := gx) (o := ox) (c := cx) (m := 2 * h) (k := h) w (by omega) (by omega)
 have s3 := fun w => slice_head (g := gy) (o := oy) (c := cy) (m := 2 * h) (k := h) w (by omega) (by omega)
 have s4 := fun w => slice_rest (g := gy) (o := oy) (c := cy) (m := 2 * h) (k := h) w (by omega) (by omega)
 have s5 := fun w => slice_head (g := ga) (o := oa) (c := c) (m := k + 1) (k := k) w (by omega) (by omega)
 have e9 : 2 * h - h = h := by omega
 simp only [e9] at s2 s4 hx2 hy2
 rw [ints_drop] at hx2 hy2
 rw [ints_take] at hx1 hy1 ha1
 have hst1 : NumsL p (st.take k) := fun v hv => hst v (List.mem_of_mem_take hv)
 have hxs1 : NumsL p (xs.take h) := fun v hv => hxs v (List.mem_of_mem_take hv)
 have hxs2 : NumsL p (xs.drop h) := fun v hv => hxs v (List.mem_of_mem_drop hv)
 have hys1 : NumsL p (ys.take h) := fun v hv => hys v (List.mem_of_mem_take hv)
 have hys2 : NumsL p (ys.drop h) := fun v hv => hys v (List.mem_of_mem_drop hv)
 obtain ⟨sk, hsk2⟩ : ∃ z, z = st[k] := ⟨_, rfl⟩
 obtain ⟨hs1, hs2⟩ := hst _ (List.getElem_mem hsk)
 rw [← hsk2] at hca hs1 hs2
 have IH := ih
 unfold MulOk at IH
 rw [← hh] at IH
 have hcs := hca
 rw [hpw]
 have hw1 : IntKind.i64.wrap (2 * (h : Int)) = 2 * (h : Int) := i64_fit _ (by omega) (by omega)
 have hq2 : IntKind.i64.wrap (h : Int) = (h : Int) := i64_fit _ (by omega) (by omega)
 have hkk : k < k + 1 := by omega
 have hkk2 : (k : Int) < (k : Int) + 1 := by omega
 have HH := Lib.hid hh
 have HPW := Lib.hid hpw
 have HSK := Lib.hid hsk2
 clear hh hpw hsk2 e9 ih
 go_enter Tryz.func156, Tryz.ntmps156
 go_wp2
 refine wp_obs 13 [[],[0],[0,1],[],[],[3,4],[],[],[6,7],[6,7,8],[0,1,2],[3,4,5],[6,7,8,9]] [VIs (.slice (some ⟨gx, ox, none⟩) (2 * h) cx), VIs (.int .i64 (2 * (h : Int))), VIs (.int .i64 (h)), VIs (.slice (some ⟨ga, oa, none⟩) (k + 1) c), VIs (.int .i64 (k)), VIs (.slice (some ⟨ga, oa, none⟩) k c), VIs (.slice (some ⟨ga, oa, none⟩) (k + 1) c), VIs (.int .i64 (k)), VIs (.pointer (some ⟨ga, oa + k, none⟩)), VIs (.int .i64 (sk)), VIs (.int .i64 (h)), VIs (.slice (some ⟨ga, oa, none⟩) k c), VIs (.int .i64 (sk))] (fun w' => w'.cell? ⟨ga, oa + k, none⟩ = some (.int .i64 sk) ∧ Below w.heap.size w w') (by kernel_rfl) (by kernel_rfl) (fun _ _ h hb => ⟨(hb.cell (World.block_lt_of_cell? _ _ h.1)).trans h.1, h.2.trans (hb.mono h.2.size)⟩) (⟨hcs, zG.drew⟩) (fun x => ?_)
 refine zS (fun w' hS hV K hK => ?_) ?_
 · have q0 := hS.1; go_simp; exact zO hK
 refine zS (fun w' hS hV K hK => ?_) ?_
 · have e0 := zQ hV 0; have q0 := hS.1; go_simp; exact zO hK
 refine zS (fun w' hS hV K hK => ?_) ?_
 · have e1 := zQ hV 1; have q0 := hS.1; go_simp; exact zO hK
 refine zS (fun w' hS hV K hK => ?_) ?_
 · have q0 := hS.1; go_simp; exact zO hK
 refine zS (fun w' hS hV K hK => ?_) ?_
 · have q0 := hS.1; go_simp; exact zO hK
 refine zS (fun w' hS hV K hK => ?_) ?_
 · have e3 := zQ hV 3; have e4 := zQ hV 4; have q0 := hS.1; go_simp; exact zO hK
 refine zS (fun w' hS hV K hK => ?_) ?_
 · have q0 := hS.1; go_simp; exact zO hK
 refine zS (fun w' hS hV K hK => ?_) ?_
 · have q0 := hS.1; go_simp; exact zO hK
 refine zS (fun w' hS hV K hK => ?_) ?_
 · have e6 := zQ hV 6; have e7 := zQ hV 7; have q0 := hS.1; go_simp; exact zO hK
 refine zS (fun w' hS hV K hK => ?_) ?_
 · have e8 := zQ hV 8; have q0 := hS.1; go_simp; exact zO hK
 refine zS (fun w' hS hV K hK => ?_) ?_
 · have e2 := zQ hV 2; have q0 := hS.1; go_simp; exact zO hK
 refine zS (fun w' hS hV K hK => ?_) ?_
 · have e5 := zQ hV 5; have q0 := hS.1; go_simp; exact zO hK
 refine zS (fun w' hS hV K hK => ?_) ?_
 · have e9 := zQ hV 9; have q0 := hS.1; go_simp; exact zO hK
 refine fun w' hS hV => ?_
 have e0 := zT hV 0
 have e1 := zT hV 1
 have e2 := zT hV 2
 have e3 := zT hV 3
 have e4 := zT hV 4
 have e5 := zT hV 5
 have e6 := zT hV 6
 have e7 := zT hV 7
 have e8 := zT hV 8
 have e9 := zT hV 9
 have e10 := zT hV 10
 have e11 := zT hV 11
 have e12 := zT hV 12
 simp only [e0, e1, e2, e3, e4, e5, e6, e7, e8, e9, e10, e11, e12]
 clear e0 e1 e2 e3 e4 e5 e6 e7 e8 e9 e10 e11 e12
 refine wpAny_done (by kernel_rfl) ?_ _
 go_wp2
 refine wp_obs 16 [[],[],[0,1],[],[],[3,4],[],[],[6,7],[],[],[9,10],[0,1,2],[3,4,5],[6,7,8],[9,10,11]] [VIs (.slice (some ⟨gx, ox, none⟩) (2 * h) cx), VIs (.int .i64 (h)), VIs (.slice (some ⟨gx, ox, none⟩) h cx), VIs (.slice (some ⟨gx, ox, none⟩) (2 * h) cx), VIs (.int .i64 (h)), VIs (.slice (some ⟨gx, ox + h, none⟩) h (cx - h)), VIs (.slice (some ⟨gy, oy, none⟩) (2 * h) cy), VIs (.int .i64 (h)), VIs (.slice (some ⟨gy, oy, none⟩) h cy), VIs (.slice (some ⟨gy, oy, none⟩) (2 * h) cy), VIs (.int .i64 (h)), VIs (.slice (some ⟨gy, oy + h, none⟩) h (cy - h)), VIs (.slice (some ⟨gx, ox, none⟩) h cx), VIs (.slice (some ⟨gx, ox + h, none⟩) h (cx - h)), VIs (.slice (some ⟨gy, oy, none⟩) h cy), VIs (.slice (some ⟨gy, oy + h, none⟩) h (cy - h))] (fun w' => Below w.heap.size w w') (by kernel_rfl) (by kernel_rfl) (fun _ _ h hb => h.trans (hb.mono h.size)) (hS.2.drew) (fun x => ?_)
 refine zS (fun w' hS hV K hK => ?_) ?_
 · go_simp; exact zO hK
 refine zS (fun w' hS hV K hK => ?_) ?_
 · go_simp; exact zO hK
 refine zS (fun w' hS hV K hK => ?_) ?_
 · have e0 := zQ hV 0; have e1 := zQ hV 1; go_simp; exact zO hK
 refine zS (fun w' hS hV K hK => ?_) ?_
 · go_simp; exact zO hK
 refine zS (fun w' hS hV K hK => ?_) ?_
 · go_simp; exact zO hK
 refine zS (fun w' hS hV K hK => ?_) ?_
 · have e3 := zQ hV 3; have e4 := zQ hV 4; go_simp; exact zO hK
 refine zS (fun w' hS hV K hK => ?_) ?_
 · go_simp; exact zO hK
 refine zS (fun w' hS hV K hK => ?_) ?_
 · go_simp; exact zO hK
 refine zS (fun w' hS hV K hK => ?_) ?_
 · have e6 := zQ hV 6; have e7 := zQ hV 7; go_simp; exact zO hK
 refine zS (fun w' hS hV K hK => ?_) ?_
 · go_simp; exact zO hK
 refine zS (fun w' hS hV K hK => ?_) ?_
 · go_simp; exact zO hK
 refine zS (fun w' hS hV K hK => ?_) ?_
 · have e9 := zQ hV 9; have e10 := zQ hV 10; go_simp; exact zO hK
 refine zS (fun w' hS hV K hK => ?_) ?_
 · have e2 := zQ hV 2; go_simp; exact zO hK
 refine zS (fun w' hS hV K hK => ?_) ?_
 · have e5 := zQ hV 5; go_simp; exact zO hK
 refine zS (fun w' hS hV K hK => ?_) ?_
 · have e8 := zQ hV 8; go_simp; exact zO hK
 refine zS (fun w' hS hV K hK => ?_) ?_
 · have e11 := zQ hV 11; go_simp; exact zO hK
 refine fun w' hS hV => ?_
 have e0 := zT hV 0
 have e1 := zT hV 1
 have e2 := zT hV 2
 have e3 := zT hV 3
 have e4 := zT hV 4
 have e5 := zT hV 5
 have e6 := zT hV 6
 have e7 := zT hV 7
 have e8 := zT hV 8
 have e9 := zT hV 9
 have e10 := zT hV 10
 have e11 := zT hV 11
 have e12 := zT hV 12
 have e13 := zT hV 13
 have e14 := zT hV 14
 have e15 := zT hV 15
 simp only [e0, e1, e2, e3, e4, e5, e6, e7, e8, e9, e10, e11, e12, e13, e14, e15]
 clear e0 e1 e2 e3 e4 e5 e6 e7 e8 e9 e10 e11 e12 e13 e14 e15
 refine wpAny_done (by kernel_rfl) ?_ _
 have B0 := hS
 clear hV hS
 go_wp2_with fail
 refine (IH _ c (st.take k) _ cx (xs.take h) _ cy (ys.take h) _ (by omega) (by omega) (by omega) (ha1.below B0) hst1 (hx1.below B0) hxs1 (hy1.below B0) hys1).mono ?_
 rintro e v1 ⟨R1, d1, rfl, m1⟩
 have B1 := B0.trans (m1.b.mono B0.size)
 have r1 := m1.rd
 have cp1 := m1.2.cap
 go_wp2_with fail
 refine (l11Star_any p _ h _ (ys.drop h) _ hp hp2 (by omega) (by omega) (hy2.below B1) hys2).mono ?_
 rintro e v2 ⟨R2, d2, rfl, m2⟩
 have B2 := B1.trans (m2.b.mono B1.size)
 have r2 := m2.rd
 have cp2 := m2.2.cap
 have r1 := r1.below m2.b
 go_wp2_with fail
 refine (IH _ c (st.take k) _ d2 (conjL p (ys.drop h)) _ (cx - h) (xs.drop h) _ (by omega) cp2 (by omega) (ha1.below B2) hst1 r2 (conjL_nums (by omega) hys2) (hx2.below B2) hxs2).mono ?_
 rintro e v3 ⟨R3, d3, rfl, m3⟩
 have B3 := B2.trans (m3.b.mono B2.size)
 have r3 := m3.rd
 have cp3 := m3.2.cap
 have r1 := r1.below m3.b
 clear r2 m2
 go_wp2_with fail
 refine (l11Scale_any p sk _ h _ (dblL p k (st.take k) (conjL p (ys.drop h)) (xs.drop h)) _ hp hp2 (by omega) r3 (dblL_nums (by omega) _ _ _ _) (by omega) (by omega)).mono ?_
 rintro e v4 ⟨R4, d4, rfl, m4⟩
 have B4 := B3.trans (m4.b.mono B3.size)
 have r4 := m4.rd
 have cp4 := m4.2.cap
 have r1 := r1.below m4.b
 clear r3 m3
 go_wp2_with fail
 refine (l11Add_any p _ h _ (dblL p k (st.take k) (xs.take h) (ys.take h)) _ h _ (scaleL p (dblL p k (st.take k) (conjL p (ys.drop h)) (xs.drop h)) sk) _ hp hp2 (by omega) (Nat.le_refl _) r1 (dblL_nums (by omega) _ _ _ _) r4 (scaleL_nums (by omega) _ _)).mono ?_
 rintro e v5 ⟨R5, d5, rfl, m5⟩
 have B5 := B4.trans (m5.b.mono B4.size)
 have r5 := m5.rd
 have cp5 := m5.2.cap
 clear r1 r4 m4 m1
 have HM5 : Hid (MkI w v5 R5 h d5 (plusL p (dblL p k (st.take k) (xs.take h) (ys.take h)) (dblL p k (st.take k) (conjL p (ys.drop h)) (xs.drop h)) sk)) := Lib.hid (by have := m5.after B4; rw [plus_scale _ (by rw [dblL_len, dblL_len]; exact Nat.le_refl _)] at this; exact this)
 obtain ⟨P1, hP1⟩ : ∃ L, L = plusL p (dblL p k (st.take k) (xs.take h) (ys.take h)) (dblL p k (st.take k) (conjL p (ys.drop h)) (xs.drop h)) sk := ⟨_, rfl⟩
 rw [← hP1] at HM5
 clear m5 r5 B1 B2 B3 B4
 go_wp2_with fail
 refine (IH _ c (st.take k) _ (cy - h) (ys.drop h) _ cx (xs.take h) _ (by omega) (by omega) (by omega) (ha1.below B5) hst1 (hy2.below B5) hys2 (hx1.below B5) hxs1).mono ?_
 rintro e v6 ⟨R6, d6, rfl, m6⟩
 have B6 := B5.trans (m6.b.mono B5.size)
 have r6 := m6.rd
 have cp6 := m6.2.cap
 go_wp2_with fail
 refine (l11Star_any p _ h _ (ys.take h) _ hp hp2 (by omega) (by omega) (hy1.below B6) hys1).mono ?_
 rintro e v7 ⟨R7, d7, rfl, m7⟩
 have B7 := B6.trans (m7.b.mono B6.size)
 have r7 := m7.rd
 have cp7 := m7.2.cap
 have r6 := r6.below m7.b
 go_wp2_with fail
 refine (IH _ c (st.take k) _ (cx - h) (xs.drop h) _ d7 (conjL p (ys.take h)) _ (by omega) (by omega) cp7 (ha1.below B7) hst1 (hx2.below B7) hxs2 r7 (conjL_nums (by omega) hys1)).mono ?_
 rintro e v8 ⟨R8, d8, rfl, m8⟩
 have B8 := B7.trans (m8.b.mono B7.size)
 have r8 := m8.rd
 have cp8 := m8.2.cap
 have r6 := r6.below m8.b
 clear r7
 go_wp2_with fail
 refine (l11Add_any p _ h _ (dblL p k (st.take k) (ys.drop h) (xs.take h)) _ h _ (dblL p k (st.take k) (xs.drop h) (conjL p (ys.take h))) _ hp hp2 (by omega) (Nat.le_refl _) r6 (dblL_nums (by omega) _ _ _ _) r8 (dblL_nums (by omega) _ _ _ _)).mono ?_
 rintro e v9 ⟨R9, d9, rfl, m9⟩
 have B9 := B8.trans (m9.b.mono B8.size)
 have r9 := m9.rd
 have cp9 := m9.2.cap
 have HMA : Hid (MkI w v9 R5 h d5 P1) := Lib.hid ((((HM5.out.below m6.b).below m7.b).below m8.b).below m9.b)
 have HRA := Lib.hid m9.rd
 clear r9 m9 m8 m7 m6 HM5
 go_wp2_with (at_builtin; refine wpList_appAll w _ rfl _ _ rfl R5 h d5 _ R9 h d9 _ HMA.out HRA.out (by omega) (by omega) (by omega) rfl rfl ?_; intro A' c' w' hM' _)
 go_ret
 refine ⟨A', c', by rw [show 2 * h = h + h by omega]; rfl, ?_⟩
 rw [show 2 * h = h + h by omega]
 rw [hP1] at hM'
 have e : dblL p (k + 1) st xs ys = plusL p (dblL p k (st.take k) (xs.take h) (ys.take h)) (dblL p k (st.take k) (conjL p (ys.drop h)) (xs.drop h)) sk ++ plusL p (dblL p k (st.take k) (ys.drop h) (xs.take h)) (dblL p k (st.take k) (xs.drop h) (conjL p (ys.take h))) 1 := by
  show plusL p _ _ (st.getD k 0) ++ _ = _
  rw [← HH.out, HSK.out, List.getD_eq_getElem?_getD, List.getElem?_eq_getElem hsk]
  rfl
 rw [e]
 exact hM'
/-- The product of elements of a doubling. -/
theorem l11Mul_any (p : Int) (hp : 2 ≤ p) (hp2 : p ≤ 13) (k : Nat) (hk : k ≤ 4) : MulOk p k := by
 induction k with
 | zero => exact fun A c st X cx xs Y cy ys w _ _ _ _ _ hx hxs hy hys => l11Mul_zero p hp hp2 A c X cx xs Y cy ys w hx hxs hy hys
 | succ k ih => exact l11Mul_succ p hp hp2 k hk (ih (by omega))
end Go.Proofs.YtaiegpggccdgoaaGreat
namespace Go.Proofs.YtaiegpggccdgoaaGreat
open Go Go.RowKit
set_option maxHeartbeats 400000 in
set_option maxRecDepth 8000 in
theorem l11Size_any (P : Int) (A : Option Addr) (n c : Nat) (w : World) (hn : n ≤ 30) :
    Calls Tryz.prog 101 #[.agg #[.int .i64 P, .slice A n c]] w fun e w' => e = .returned (.int .i64 (pw n)) ∧ Below w.heap.size w w' := by
 go_enter Tryz.func101, Tryz.ntmps101
 go_wp2
 go_ret
 exact ⟨ret_int (wrap_pw n hn), zG.alloc (Nat.le_refl _) _⟩
/-- Is it a doubling? -/
def isDbS (P : Int) (xs : List Int) : Bool := isP P && decide (((xs.length : Nat) : Int) ≤ 4) && xs.all fun x => inR x 1 (P - 1)
theorem all_takeS (f : Int → Bool) (xs : List Int) (k : Nat) (h : k < xs.length) (ht : (xs.take k).all f = true) (hi : f xs[k] = true) : (xs.take (k + 1)).all f = true := by
 rw [List.take_succ_eq_append_getElem h, List.all_append, ht]; simp [hi]
theorem all_badS (f : Int → Bool) (xs : List Int) (k : Nat) (h : k < xs.length) (hi : f xs[k] = false) : xs.all f = false := by
 rw [List.all_eq_false]; exact ⟨xs[k], List.getElem_mem h, by simp [hi]⟩
set_option maxHeartbeats 1000000 in
set_option maxRecDepth 8000 in
theorem l11IsS_any (P : Int) (A : Option Addr) (n c : Nat) (xs : List Int) (w : World) (hn : n ≤ 1048576) (ha : Rd w A n (ints xs)) :
    Calls Tryz.prog 82 #[.agg #[.int .i64 P, .slice A n c]] w fun e w' => e = .returned (.bool (isDbS P xs)) ∧ Below w.heap.size w w' := by
 have hxl : xs.length = n := by have := ha.1; rwa [ints_length] at this
 have hB : Below w.heap.size w (w.alloc (.cells #[.int .i64 P, .slice A n c] 26)) := zG.alloc (Nat.le_refl _) _
 have k0 : Blk (w.alloc (.cells #[.int .i64 P, .slice A n c] 26)) w.heap.size 26 #[.int .i64 P, .slice A n c] := Blk.new _ _ _
 have hdb : isDbS P xs = (isP P && decide (((n : Nat) : Int) ≤ 4) && xs.all fun x => inR x 1 (P - 1)) := by unfold isDbS; rw [hxl]
 have Hdb := Lib.hid hdb; clear hdb
 have Hx := Lib.hid hxl; clear hxl
 cases h1 : isP P
 · have H1 := Lib.hid h1; clear h1
   go_enter Tryz.func82, Tryz.ntmps82
   go_wp2_with (go_at_call 134; refine (l01Prime_b _ _ H1.out).mono ?_; rintro e w' ⟨rfl, rfl⟩)
   go_ret
   exact ⟨ret_bool (by rw [Hdb.out, H1.out]; rfl), hB⟩
 obtain ⟨hp0, hp1⟩ := isP_pos h1
 have H1 := Lib.hid h1; clear h1
 by_cases h4 : n ≤ 4
 · have h4' : decide ((4 : Int) < (n : Int)) = false := by simp; omega
   go_enter Tryz.func82, Tryz.ntmps82
   go_wp2_with (go_at_call 134; refine (l01Prime_b _ _ H1.out).mono ?_; rintro e w' ⟨rfl, rfl⟩)
   have ha' := ha.below hB
   obtain ⟨W, hW⟩ : ∃ W, W = w.alloc (.cells #[.int .i64 P, .slice A n c] 26) := ⟨_, rfl⟩
   obtain ⟨b, hbz⟩ : ∃ b, b = w.heap.size := ⟨_, rfl⟩
   rw [← hbz]
   rw [← hbz, ← hW] at k0
   rw [← hW] at ha' hB ⊢
   have HW := Lib.hid hW
   have HB := Lib.hid hbz
   clear hW hbz ha
   go_loopw [3] (fun i wr => ∃ k j : Nat, k ≤ n ∧ i = .int .i64 k ∧ (xs.take k).all (fun x => inR x 1 (P - 1)) = true ∧ wr = W.drewN j) (fun i _ => n - (intOf i).toNat)
   case atStart => exact ⟨0, 0, by omega, rfl, by simp, rfl⟩
   case round =>
    obtain ⟨k, j, hk, rfl, ht, rfl⟩ := hrel
    have H := Lib.hid ht; clear ht
    obtain ⟨q0, q1⟩ := k0.two
    by_cases hlt : k < n
    · obtain ⟨g, o, rfl, hx, hcx⟩ := ha'.int hlt
      cases hi : inR xs[k] 1 (P - 1)
      all_goals
       have HI := Lib.hid hi; clear hi
       go_wp2_with fail
       go_quiet ((go_at_call 135; exact quiet_add_left (l01In_b _ _ _ _ HI.out)))
       go_wp2
      · go_ret
        exact ⟨ret_bool (by rw [Hdb.out, H1.out, all_badS (fun x => inR x 1 (P - 1)) xs k hx HI.out, Bool.and_false]), below_drewN (below_drewN hB _) _⟩
      · go_roundw
        case rel => exact ⟨k + 1, _, by omega, by go_num, all_takeS (fun x => inR x 1 (P - 1)) xs k hx H.out HI.out, rfl⟩
        case measure => simp [intOf]; omega
    · go_wp2
      go_ret
      have := H.out
      rw [List.take_of_length_le (by rw [Hx.out]; omega)] at this
      exact ⟨ret_bool (by rw [Hdb.out, H1.out, this]; simp; omega), below_drewN hB _⟩
 · have h4' : decide ((4 : Int) < (n : Int)) = true := by simp; omega
   go_enter Tryz.func82, Tryz.ntmps82
   go_wp2_with (go_at_call 134; refine (l01Prime_b _ _ H1.out).mono ?_; rintro e w' ⟨rfl, rfl⟩)
   go_ret
   exact ⟨ret_bool (by rw [Hdb.out, H1.out]; simp; omega), hB⟩
/-- Is it an element of a doubling with n steps? -/
def isElS (P : Int) (n : Nat) (ys : List Int) : Bool := nums P ys && (((ys.length : Nat) : Int) == ((pw n : Nat) : Int))
set_option maxHeartbeats 1000000 in
set_option maxRecDepth 8000 in
theorem l11ElementS_any (P : Int) (A B : Option Addr) (n c m d : Nat) (ys : List Int) (w : World) (hn : n ≤ 4) (hm : m ≤ 1048576) (hp0 : 0 < P) (hp1 : P ≤ 13) (hb : Rd w B m (ints ys)) :
    Calls Tryz.prog 137 #[.agg #[.int .i64 P, .slice A n c], .slice B m d] w fun e w' => e = .returned (.bool (isElS P n ys)) ∧ Below w.heap.size w w' := by
 have hyl : ys.length = m := by have := hb.1; rwa [ints_length] at this
 have hB : Below w.heap.size w (w.alloc (.cells #[.int .i64 P, .slice A n c] 26)) := zG.alloc (Nat.le_refl _) _
 have k0 : Blk (w.alloc (.cells #[.int .i64 P, .slice A n c] 26)) w.heap.size 26 #[.int .i64 P, .slice A n c] := Blk.new _ _ _
 have hel : isElS P n ys = (nums P ys && (((m : Nat) : Int) == ((pw n : Nat) : Int))) := by unfold isElS; rw [hyl]
 have Hel := Lib.hid hel; clear hel
 have Hy := Lib.hid hyl; clear hyl
 go_enter Tryz.func137, Tryz.ntmps137
 go_wp2
 have hb' := hb.below hB
 obtain ⟨W, hW⟩ : ∃ W, W = w.alloc (.cells #[.int .i64 P, .slice A n c] 26) := ⟨_, rfl⟩
 obtain ⟨b, hbz⟩ : ∃ b, b = w.heap.size := ⟨_, rfl⟩
 rw [← hbz]
 rw [← hbz, ← hW] at k0
 rw [← hW] at hb' hB ⊢
 have HW := Lib.hid hW
 have HB := Lib.hid hbz
 clear hW hbz hb
 go_loopw [5] (fun i wr => ∃ k j : Nat, k ≤ m ∧ i = .int .i64 k ∧ nums P (ys.take k) = true ∧ wr = W.drewN j) (fun i _ => m - (intOf i).toNat)
 case atStart => exact ⟨0, 0, by omega, rfl, by simp [nums], rfl⟩
 case round =>
  obtain ⟨k, j, hk, rfl, ht, rfl⟩ := hrel
  have H := Lib.hid ht; clear ht
  obtain ⟨q0, q1⟩ := k0.two
  by_cases hlt : k < m
  · obtain ⟨g, o, rfl, hx, hcx⟩ := hb'.int hlt
    cases hi : inR ys[k] 0 (P - 1)
    all_goals
     have HI := Lib.hid hi; clear hi
     go_wp2_with fail
     go_quiet ((go_at_call 135; exact quiet_add_left (l01In_b _ _ _ _ HI.out)))
     go_wp2
    · go_ret
      exact ⟨ret_bool (by rw [Hel.out, nums_bad P ys k hx HI.out]; rfl), below_drewN (below_drewN hB _) _⟩
    · go_roundw
      case rel => exact ⟨k + 1, _, by omega, by go_num, nums_take P ys k hx H.out HI.out, rfl⟩
      case measure => simp [intOf]; omega
  · go_wp2_with fail
    refine (l11Size_any _ _ _ _ _ (by omega)).mono ?_
    rintro e w1 ⟨rfl, hb1⟩
    go_wp2
    go_ret
    have := H.out
    rw [List.take_of_length_le (by rw [Hy.out]; omega)] at this
    exact ⟨ret_bool (by rw [Hel.out, this]; rfl), (below_drewN hB _).trans (hb1.mono hB.size)⟩
theorem isDbS_eq (P : Int) (xs : List Int) : isDbS P xs = isDb P xs := by
 unfold isDbS isDb
 have e1 : decide (((xs.length : Nat) : Int) ≤ 4) = decide (xs.length ≤ 4) := by rw [decide_eq_decide]; omega
 rw [e1, Bool.and_assoc (isP P && decide (xs.length ≤ 4))]
 congr 1
 rw [Bool.eq_iff_iff, Bool.and_eq_true, List.all_eq_true]
 unfold nums
 rw [List.all_eq_true]
 constructor
 · intro h
   refine ⟨fun x hx => ?_, ?_⟩
   · have := h x hx; unfold inR at this ⊢; simp only [Bool.and_eq_true, decide_eq_true_eq] at this ⊢; omega
   · rw [Bool.not_eq_true']
     rw [Bool.eq_false_iff]
     intro hc
     have h0 := h 0 (by simpa using hc)
     unfold inR at h0
     simp at h0
 · rintro ⟨h1, h2⟩ x hx
   have h3 := h1 x hx
   have h4 : x ≠ 0 := fun e => by
    subst e
    rw [Bool.not_eq_true', Bool.eq_false_iff] at h2
    exact h2 (by simpa using hx)
   unfold inR at h3 ⊢; simp only [Bool.and_eq_true, decide_eq_true_eq] at h3 ⊢; omega
theorem isElS_eq (P : Int) (k : Nat) (ys : List Int) : isElS P k ys = isEl P k ys := by unfold isElS isEl; rw [Bool.and_comm]
theorem l11Is_any (P : Int) (A : Option Addr) (n c : Nat) (xs : List Int) (w : World) (hn : n ≤ 1048576) (ha : Rd w A n (ints xs)) :
    Calls Tryz.prog 82 #[.agg #[.int .i64 P, .slice A n c]] w fun e w' => e = .returned (.bool (isDb P xs)) ∧ Below w.heap.size w w' := by
 have h := l11IsS_any P A n c xs w hn ha
 rw [isDbS_eq] at h
 exact h
theorem l11Element_any (P : Int) (A B : Option Addr) (n c m d : Nat) (ys : List Int) (w : World) (hn : n ≤ 4) (hm : m ≤ 1048576) (hp0 : 0 < P) (hp1 : P ≤ 13) (hb : Rd w B m (ints ys)) :
    Calls Tryz.prog 137 #[.agg #[.int .i64 P, .slice A n c], .slice B m d] w fun e w' => e = .returned (.bool (isEl P n ys)) ∧ Below w.heap.size w w' := by
 have h := l11ElementS_any P A B n c m d ys w hn hm hp0 hp1 hb
 rw [isElS_eq] at h
 exact h
set_option maxHeartbeats 1600000 in
set_option maxRecDepth 8000 in
theorem l11Times_any (p : Int) (hp : 2 ≤ p) (hp2 : p ≤ 13) (k : Nat) (hk : k ≤ 4) (A : Option Addr) (c : Nat) (st : List Int) (X : Option Addr) (cx : Nat) (xs : List Int) (Y : Option Addr) (cy : Nat) (ys : List Int) (w : World) (hc : k ≤ c) (hcx : pw k ≤ cx) (hcy : pw k ≤ cy) (ha : Rd w A k (ints st)) (hst : NumsL p st) (hx : Rd w X (pw k) (ints xs)) (hxs : NumsL p xs) (hy : Rd w Y (pw k) (ints ys)) (hys : NumsL p ys) :
    Calls Tryz.prog 145 #[.agg #[.int .i64 p, .slice A k c], .slice X (pw k) cx, .slice Y (pw k) cy] w fun e w' => ∃ A' c', e = .returned (.slice A' (pw k) c') ∧ MkI w w' A' (pw k) c' (dblL p k st xs ys) := by
 have hB0 : Below w.heap.size w (w.alloc (.cells #[.int .i64 p, .slice A k c] 26)) := zG.alloc (Nat.le_refl _) _
 have k0 : Blk (w.alloc (.cells #[.int .i64 p, .slice A k c] 26)) w.heap.size 26 #[.int .i64 p, .slice A k c] := Blk.new _ _ _
 have HOK := Lib.hid (l11Mul_any p hp hp2 k hk)
 obtain ⟨q0, q1⟩ := k0.two
 go_enter Tryz.func145, Tryz.ntmps145
 go_wp2_with fail
 refine (HOK.out A c st X cx xs Y cy ys _ hc hcx hcy (ha.below hB0) hst (hx.below hB0) hxs (hy.below hB0) hys).mono ?_
 rintro e w1 ⟨A1, c1, rfl, hM⟩
 go_wp2
 go_ret
 exact ⟨_, _, rfl, hM.after hB0⟩
set_option maxHeartbeats 1600000 in
set_option maxRecDepth 8000 in
theorem l11One_any (p : Int) (A : Option Addr) (k c : Nat) (i : Nat) (w : World) (hk : k ≤ 4) (hi : i < pw k) :
    Calls Tryz.prog 122 #[.agg #[.int .i64 p, .slice A k c], .int .i64 i] w fun e w' => ∃ A' c', e = .returned (.slice A' (pw k) c') ∧ MkI w w' A' (pw k) c' (unitRow (pw k) i) := by
 have hB0 : Below w.heap.size w (w.alloc (.cells #[.int .i64 p, .slice A k c] 26)) := zG.alloc (Nat.le_refl _) _
 have k0 : Blk (w.alloc (.cells #[.int .i64 p, .slice A k c] 26)) w.heap.size 26 #[.int .i64 p, .slice A k c] := Blk.new _ _ _
 have hpk : pw k ≤ 16 := pw_le hk
 have hpos := pw_pos k
 have hsz := fun w => l11Size_any p A k c w (by omega)
 obtain ⟨n, hn⟩ : ∃ n, n = pw k := ⟨_, rfl⟩
 rw [← hn] at hpk hpos hi hsz ⊢
 clear hn
 go_enter Tryz.func122, Tryz.ntmps122
 go_wp2_with fail
 refine (hsz _).mono ?_
 rintro e w5 ⟨rfl, hb⟩
 have hB5 := hB0.trans (hb.mono hB0.size)
 have hmk := make_i (P := Tryz.prog) 24 2 Tryz.underlying24 info_i n (by omega)
 have hm1 := Mk.made (E := 2) (n := n) (z := .int .i64 0) (Below.refl w5.heap.size w5) (by simp only [maxLen]; omega)
 rw [ints_replicate] at hm1
 obtain ⟨u1, hc1⟩ := hm1.2.cellI hi
 have hf1 := hm1.2.frozen_ i
 have hm2 := (hm1.set i (.int .i64 1)).1
 rw [ints_set, World.setCell_alloc_at _ _ _ _ _ rfl] at hm2
 have HRU0 : MkI w5 _ (some ⟨w5.heap.size, 0, none⟩) n n (unitRow n i) := hm2
 have HRU := Lib.hid (HRU0.after hB5)
 clear hm1 hm2 HRU0 hsz
 go_wp2
 go_ret
 exact ⟨_, _, rfl, HRU.out⟩
set_option maxHeartbeats 1600000 in
set_option maxRecDepth 8000 in
theorem l11Columns_any (p : Int) (A : Option Addr) (n c : Nat) (M : List (List Int)) (w : World) (h0 : 0 < n) (hn : n ≤ 65536) (ha : RdII w A n M) (hT : Tab p n M) :
    Calls Tryz.prog 125 #[.slice A n c] w fun e w' => ∃ A' c', e = .returned (.slice A' n c') ∧ MkII w w' A' n c' (transL M) := by
 have hML := ha.len
 have HTL : Hid (transL M = tab n fun k => tab n fun i => ent M i k) := Lib.hid (by unfold transL; rw [(hT.row (show 0 < M.length by omega)).1, hML])
 have HT := Lib.hid hT
 have HML := Lib.hid hML
 have hM0 : MkII w (w.alloc (.cells #[] 24)) (some ⟨w.heap.size, 0, none⟩) 0 0 [] := MkII.empty zG
 obtain ⟨g, o, rfl, hx0, A0, c0, hcx0, _, _⟩ := (ha.below hM0.b).at_ h0
 clear hcx0 hT hML
 go_enter Tryz.func125, Tryz.ntmps125
 go_wp2
 obtain ⟨w1, hw1⟩ : ∃ W, W = w.alloc (.cells #[] 24) := ⟨_, rfl⟩
 rw [← hw1] at hM0 ⊢
 clear hw1
 go_loopw [3, 4] (fun out i wr => ∃ (k : Nat) (A' : Option Addr) (c' : Nat), k ≤ n ∧ i = .int .i64 k ∧ out = .slice A' k c' ∧ MkII w wr A' k c' (tab k fun k => tab n fun i => ent M i k)) (fun _ i _ => n - (intOf i).toNat)
 case atStart => exact ⟨0, _, _, by omega, rfl, rfl, by simpa [tab] using hM0⟩
 case round =>
  obtain ⟨k, A', c', hk, rfl, rfl, hM⟩ := hrel
  clear hM0
  obtain ⟨wo, rfl⟩ : ∃ W, W = wr := ⟨_, rfl⟩
  by_cases hlt : k < n
  · have hr0 := Mk.lit (E := 2) (Below.refl wo.heap.size wo) #[] (by simp)
    have hR0 : MkI wo (wo.alloc (.cells #[] 2)) (some ⟨wo.heap.size, 0, none⟩) 0 0 [] := by simpa [MkI, ints] using hr0
    have HM := Lib.hid hM
    clear hr0 hM
    go_wp2
    go_loopw [5, 6] (fun row i w2 => ∃ (j : Nat) (A2 : Option Addr) (c2 : Nat), j ≤ n ∧ i = .int .i64 j ∧ row = .slice A2 j c2 ∧ MkI wo w2 A2 j c2 (tab j fun i => ent M i k)) (fun _ i _ => n - (intOf i).toNat)
    case atStart => exact ⟨0, _, _, by omega, rfl, rfl, by simpa [tab] using hR0⟩
    case round =>
     obtain ⟨j, A2, c2, hj, rfl, rfl, hR⟩ := hrel
     clear hR0
     have HR := Lib.hid hR
     by_cases hlj : j < n
     · have hbb := HM.out.b.trans (hR.b.mono HM.out.b.size)
       obtain ⟨g', o', e', hxj, A3, c3, hcx, hr3, _⟩ := (ha.below hbb).at_ hlj
       injection e' with e'; injection e' with e1 e2 _
       subst e1; subst e2
       have hl3 : M[j].length = n := (HT.out M[j] (List.getElem_mem hxj)).1
       rw [hl3] at hcx hr3
       obtain ⟨g3, o3, rfl, hx3, hc3⟩ := hr3.int hlt
       have HV : Hid ((tab (j + 1) fun i => ent M i k) = (tab j fun i => ent M i k) ++ [M[j][k]]) := Lib.hid (by rw [tab_succ, ent_at hxj hx3])
       clear hR hr3 hl3 hbb ha
       go_wp2_with (at_builtin; refine wpList_app1 wo _ 24 2 _ _ Tryz.underlying24 info_i rfl (by omega) rfl _ _ rfl A2 j c2 _ _ HR.out (by omega) rfl rfl rfl ?_; intro A4 c4 w4 hM4 _ _)
       go_roundw
       case rel => exact ⟨j + 1, A4, c4, by omega, by go_num, rfl, by rw [HV.out]; simpa [MkI, ints] using hM4⟩
       case measure => simp [intOf]; omega
     · obtain rfl : j = n := by omega
       clear hR ha
       go_wp2_with (at_builtin; refine wpList_appRow w wo _ rfl _ _ rfl A' k c' _ A2 j c2 _ HM.out HR.out (by omega) rfl ?_ ?_; (go_simp); intro A4 c4 w4 hM4)
       go_roundw
       case rel => exact ⟨k + 1, A4, c4, by omega, by go_num, rfl, by rw [tab_succ]; exact hM4⟩
       case measure => simp [intOf]; omega
  · obtain rfl : k = n := by omega
    go_wp2
    go_ret
    exact ⟨_, _, rfl, by rw [HTL.out]; exact hM⟩
/-- The matrix of an inner derivation. -/
def innM (p : Int) (k : Nat) (st x y : List Int) : List (List Int) := transL (tab (pw k) fun i => innL p k st x y (unitRow (pw k) i))
theorem own_far {A A' : Option Addr} {n c n' c' b B : Nat} (h : ∀ gb, (Value.slice A n c).ownBlock = some gb → gb ≠ b) (hat : ∃ g', A' = some ⟨g', 0, none⟩ ∧ ((Value.slice A n c).ownBlock = some g' ∨ B ≤ g')) (hb : b < B) : ∀ gb, (Value.slice A' n' c').ownBlock = some gb → gb ≠ b := by
 obtain ⟨g', rfl, hg⟩ := hat
 intro gb e
 have e1 : g' = gb := by simpa [Value.ownBlock] using e
 subst e1
 rcases hg with hg | hg
 · exact h _ hg
 · omega
set_option maxHeartbeats 3200000 in
set_option maxRecDepth 8000 in
theorem matrixOf_any (f : FuncId) (p1 p2 p3 : Addr) (G : Nat → List Int) (hcf : ∀ (args : Array Value) (w : World), (callFunc f args).run Tryz.prog w = .ok (.enter f args) w) (p : Int) (A : Option Addr) (k0 c : Nat) (w : World) (hp : 2 ≤ p) (hk : k0 ≤ 4) (hG : ∀ i, i < pw k0 → (G i).length = pw k0 ∧ NumsL p (G i))
    (hof : ∀ (i : Nat) (w' : World) (Y : Option Addr) (cy : Nat), i < pw k0 → Below w.heap.size w w' → Rd w' Y (pw k0) (ints (unitRow (pw k0) i)) → pw k0 ≤ cy → Calls Tryz.prog f #[.slice Y (pw k0) cy, .pointer (some p1), .pointer (some p2), .pointer (some p3)] w' fun e w5 => ∃ A5 c5, e = .returned (.slice A5 (pw k0) c5) ∧ MkI w' w5 A5 (pw k0) c5 (G i)) :
    Calls Tryz.prog 56 #[.agg #[.int .i64 p, .slice A k0 c], .func (.func f) #[] #[.pointer (some p1), .pointer (some p2), .pointer (some p3)]] w fun e w' => ∃ A' c', e = .returned (.slice A' (pw k0) c') ∧ MkII w w' A' (pw k0) c' (transL (tab (pw k0) G)) := by
 have hpk : pw k0 ≤ 16 := pw_le hk
 have hpos := pw_pos k0
 have hB0 : Below w.heap.size w (w.alloc (.cells #[.int .i64 p, .slice A k0 c] 26)) := zG.alloc (Nat.le_refl _) _
 have kk0 : Blk (w.alloc (.cells #[.int .i64 p, .slice A k0 c] 26)) w.heap.size 26 #[.int .i64 p, .slice A k0 c] := Blk.new _ _ _
 have hB1 := hB0.alloc (by simp) (.cells #[] 24)
 have k1 := kk0.alloc (.cells #[] 24)
 have hM1 : MkII w ((w.alloc (.cells #[.int .i64 p, .slice A k0 c] 26)).alloc (.cells #[] 24)) (some ⟨w.heap.size + 1, 0, none⟩) 0 0 [] := by
  have := MkII.empty hB0
  simpa using this
 clear kk0
 obtain ⟨q0, q1⟩ := k1.two
 have HG := Lib.hid hG
 have HOF := Lib.hid hof
 clear hG hof
 go_enter Tryz.func56, Tryz.ntmps56
 go_wp2_with fail
 refine (dsize_any p A k0 c _ hk).mono ?_
 rintro e w2 ⟨rfl, hb2⟩
 have hM2 := hM1.below hb2
 have hB2 := hB1.trans (hb2.mono hB1.size)
 have k2 := k1.below hb2 k1.lt
 clear hM1 q0 q1 k1 hB0 hB1
 obtain ⟨n, hn⟩ : ∃ n, n = pw k0 := ⟨_, rfl⟩
 have HN := Lib.hid hn
 rw [← hn] at hpk hpos HG HOF ⊢
 clear hn
 go_wp2_with fail
 refine (unit_any n _ (by omega)).mono ?_
 rintro e w3 ⟨U, cU, rfl, hU⟩
 have hM3 := hM2.below hU.b
 have hB3 := hB2.trans (hU.b.mono hB2.size)
 have k3 := k2.below hU.b k2.lt
 have hsz2 : w.heap.size + 1 < w2.heap.size := by have := hb2.size; simp at this; omega
 have hKp : Keeps w2 w3 w3 (.slice (some ⟨w.heap.size + 1, 0, none⟩) 0 0) := ⟨Nat.le_refl _, fun _ _ _ => rfl, fun gb e => .inl (lt_of_own e hsz2)⟩
 have hgb : ∀ gb, (Value.slice (some ⟨w.heap.size + 1, 0, none⟩) 0 0).ownBlock = some gb → gb ≠ w.heap.size := fun gb e => by
  have : w.heap.size + 1 = gb := by simpa [Value.ownBlock] using e
  omega
 clear hM2 hB2 hb2 hsz2 k2
 go_wp2
 go_loopw [5, 13] (fun out i wr => ∃ (j : Nat) (A' : Option Addr) (c' : Nat), j ≤ n ∧ i = .int .i64 j ∧ out = .slice A' j c' ∧ MkII w wr A' j c' (tab j G) ∧ Keeps w2 w3 wr (.slice A' j c')) (fun _ i _ => n - (intOf i).toNat)
 case atStart => exact ⟨0, _, _, by omega, rfl, rfl, by simpa [tab] using hM3, hKp⟩
 case round =>
  clear k3 hgb
  obtain ⟨j, A', c', hj, rfl, rfl, hM, hB4⟩ := hrel
  clear hM3 hKp
  by_cases hlt : j < n
  · obtain ⟨gu, ou, rfl, hxk, A1, c1, hcu, hru, hcc⟩ := (hU.keep hB4.2.1).at_ hlt
    have hrow := unitM_get n j hxk
    rw [hrow, unitRow_len] at hru hcu hcc
    have hcall := HOF.out j wr A1 c1 hlt hM.b hru hcc
    have HM := Lib.hid hM
    have HB4 := Lib.hid hB4
    clear hM hru hrow hB4
    go_wp2_with fail
    refine hcall.mono ?_
    rintro e w5 ⟨A5, c5, rfl, hM5⟩
    clear hcall
    go_wp2_with (at_builtin; refine wpList_appRowG w wr _ rfl _ _ rfl A' j c' _ A5 n c5 _ HM.out hM5 (by omega) rfl ?_ ?_; (go_simp); intro A6 c6 w6 hM6 hg6 hat6)
    go_roundw
    case rel => exact ⟨j + 1, A6, c6, by omega, by go_num, rfl, by rw [tab_succ]; exact hM6, HB4.out.step hM5.b hg6 hat6⟩
    case measure => simp [intOf]; omega
  · obtain rfl : j = n := by omega
    go_wp2_with fail
    refine (transpose_any p A' j c' (tab j G) j _ hpos (by omega) (by omega) hM.rd (Tab.tab HG.out)).mono ?_
    rintro e w5 ⟨A5, c5, rfl, hM5⟩
    go_wp2
    go_ret
    rw [← HN.out]
    exact ⟨_, _, rfl, hM5.after hM.b⟩
/-- The left matrix of an element. -/
def leftDL (p : Int) (k0 : Nat) (st xs : List Int) : List (List Int) := transL (tab (pw k0) fun i => dblL p k0 st xs (unitRow (pw k0) i))
set_option maxHeartbeats 3200000 in
set_option maxRecDepth 8000 in
theorem dleft_any (p : Int) (A : Option Addr) (k0 c : Nat) (st : List Int) (X : Option Addr) (cx : Nat) (xs : List Int) (w : World) (hp : 2 ≤ p) (hp2 : p ≤ 13) (hk : k0 ≤ 4) (hc : k0 ≤ c) (hcx : pw k0 ≤ cx) (ha : Rd w A k0 (ints st)) (hst : NumsL p st) (hx : Rd w X (pw k0) (ints xs)) (hxs : NumsL p xs) :
    Calls Tryz.prog 49 #[.agg #[.int .i64 p, .slice A k0 c], .slice X (pw k0) cx] w fun e w' => ∃ A' c', e = .returned (.slice A' (pw k0) c') ∧ MkII w w' A' (pw k0) c' (leftDL p k0 st xs) := by
 obtain ⟨G, hGd⟩ : ∃ G : Nat → List Int, G = fun i => dblL p k0 st xs (unitRow (pw k0) i) := ⟨_, rfl⟩
 have hG : ∀ i, i < pw k0 → (G i).length = pw k0 ∧ NumsL p (G i) := fun i _ => by rw [hGd]; exact ⟨dblL_len _ _ _ _ _, dblL_nums (by omega) _ _ _ _⟩
 have hof : ∀ (i : Nat) (w' : World) (Y : Option Addr) (cy : Nat), i < pw k0 → Below w.heap.size w w' → Rd w' Y (pw k0) (ints (unitRow (pw k0) i)) → pw k0 ≤ cy → Calls Tryz.prog 108 #[.agg #[.int .i64 p, .slice A k0 c], .slice X (pw k0) cx, .slice Y (pw k0) cy] w' fun e w5 => ∃ A5 c5, e = .returned (.slice A5 (pw k0) c5) ∧ MkI w' w5 A5 (pw k0) c5 (G i) := by
  intro i w' Y cy hi hb hy hcy
  rw [hGd]
  exact dtimes_any p hp hp2 k0 hk A c st X cx xs Y cy _ w' hc hcx hcy (ha.below hb) hst (hx.below hb) hxs hy (unitRow_nums hp _ _)
 have e0 : leftDL p k0 st xs = transL (tab (pw k0) G) := by rw [hGd]; rfl
 rw [e0]
 clear hGd e0
 have hpk : pw k0 ≤ 16 := pw_le hk
 have hpos := pw_pos k0
 have hB0 : Below w.heap.size w (w.alloc (.cells #[.int .i64 p, .slice A k0 c] 26)) := zG.alloc (Nat.le_refl _) _
 have kk0 : Blk (w.alloc (.cells #[.int .i64 p, .slice A k0 c] 26)) w.heap.size 26 #[.int .i64 p, .slice A k0 c] := Blk.new _ _ _
 have hB1 := hB0.alloc (by simp) (.cells #[] 24)
 have k1 := kk0.alloc (.cells #[] 24)
 have hM1 : MkII w ((w.alloc (.cells #[.int .i64 p, .slice A k0 c] 26)).alloc (.cells #[] 24)) (some ⟨w.heap.size + 1, 0, none⟩) 0 0 [] := by
  have := MkII.empty hB0
  simpa using this
 clear kk0
 obtain ⟨q0, q1⟩ := k1.two
 have HG := Lib.hid hG
 have HOF := Lib.hid hof
 clear hG hof
 go_enter Tryz.func49, Tryz.ntmps49
 go_wp2_with fail
 refine (dsize_any p A k0 c _ hk).mono ?_
 rintro e w2 ⟨rfl, hb2⟩
 have hM2 := hM1.below hb2
 have hB2 := hB1.trans (hb2.mono hB1.size)
 have k2 := k1.below hb2 k1.lt
 clear hM1 q0 q1 k1 hB0 hB1
 obtain ⟨n, hn⟩ : ∃ n, n = pw k0 := ⟨_, rfl⟩
 have HN := Lib.hid hn
 rw [← hn] at hpk hpos HG HOF ⊢
 clear hn
 go_wp2_with fail
 refine (unit_any n _ (by omega)).mono ?_
 rintro e w3 ⟨U, cU, rfl, hU⟩
 have hM3 := hM2.below hU.b
 have hB3 := hB2.trans (hU.b.mono hB2.size)
 have k3 := k2.below hU.b k2.lt
 have hsz2 : w.heap.size + 1 < w2.heap.size := by have := hb2.size; simp at this; omega
 have hKp : Keeps w2 w3 w3 (.slice (some ⟨w.heap.size + 1, 0, none⟩) 0 0) := ⟨Nat.le_refl _, fun _ _ _ => rfl, fun gb e => .inl (lt_of_own e hsz2)⟩
 have hgb : ∀ gb, (Value.slice (some ⟨w.heap.size + 1, 0, none⟩) 0 0).ownBlock = some gb → gb ≠ w.heap.size := fun gb e => by
  have : w.heap.size + 1 = gb := by simpa [Value.ownBlock] using e
  omega
 clear hM2 hB2 hb2 hsz2 k2
 go_wp2
 go_loopw [5, 13] (fun out i wr => ∃ (j : Nat) (A' : Option Addr) (c' : Nat), j ≤ n ∧ i = .int .i64 j ∧ out = .slice A' j c' ∧ MkII w wr A' j c' (tab j G) ∧ Keeps w2 w3 wr (.slice A' j c') ∧ Blk wr w.heap.size 26 #[.int .i64 p, .slice A k0 c] ∧ w3.heap.size ≤ wr.heap.size ∧ Hid (∀ gb, (Value.slice A' j c').ownBlock = some gb → gb ≠ w.heap.size)) (fun _ i _ => n - (intOf i).toNat)
 case atStart => exact ⟨0, _, _, by omega, rfl, rfl, by simpa [tab] using hM3, hKp, k3, Nat.le_refl _, Lib.hid hgb⟩
 case round =>
  clear hgb k3
  obtain ⟨j, A', c', hj, rfl, rfl, hM, hB4, kb, hsz, HGB⟩ := hrel
  clear hM3 hKp
  obtain ⟨q0, q1⟩ := kb.two
  by_cases hlt : j < n
  · obtain ⟨gu, ou, rfl, hxk, A1, c1, hcu, hru, hcc⟩ := (hU.keep hB4.2.1).at_ hlt
    have hrow := unitM_get n j hxk
    rw [hrow, unitRow_len] at hru hcu hcc
    have hcall := HOF.out j wr A1 c1 hlt hM.b hru hcc
    have HM := Lib.hid hM
    have HB4 := Lib.hid hB4
    clear hM hru hrow hB4
    go_wp2_with fail
    refine hcall.mono ?_
    rintro e w5 ⟨A5, c5, rfl, hM5⟩
    have kb5 := kb.below hM5.b kb.lt
    clear hcall q0 q1
    go_wp2_with (at_builtin; refine wpList_appRowG w wr _ rfl _ _ rfl A' j c' _ A5 n c5 _ HM.out hM5 (by omega) rfl ?_ ?_; (go_simp); intro A6 c6 w6 hM6 hg6 hat6)
    go_roundw
    case rel => exact ⟨j + 1, A6, c6, by omega, by go_num, rfl, by rw [tab_succ]; exact hM6, HB4.out.step hM5.b hg6 hat6, (kb5.grown hg6 (fun e => HGB.out _ e.symm rfl)), by have := hg6.size; have := hM5.b.size; omega, Lib.hid (own_far HGB.out hat6 (Nat.lt_of_lt_of_le kb5.lt (Nat.le_refl _)))⟩
    case measure => simp [intOf]; omega
  · obtain rfl : j = n := by omega
    go_wp2_with fail
    refine (transpose_any p A' j c' (tab j G) j _ hpos (by omega) (by omega) hM.rd (Tab.tab HG.out)).mono ?_
    rintro e w5 ⟨A5, c5, rfl, hM5⟩
    go_wp2
    go_ret
    rw [← HN.out]
    exact ⟨_, _, rfl, hM5.after hM.b⟩
/-- The right matrix of an element. -/
def rightDL (p : Int) (k0 : Nat) (st xs : List Int) : List (List Int) := transL (tab (pw k0) fun i => dblL p k0 st (unitRow (pw k0) i) xs)
set_option maxHeartbeats 3200000 in
set_option maxRecDepth 8000 in
theorem dright_any (p : Int) (A : Option Addr) (k0 c : Nat) (st : List Int) (X : Option Addr) (cx : Nat) (xs : List Int) (w : World) (hp : 2 ≤ p) (hp2 : p ≤ 13) (hk : k0 ≤ 4) (hc : k0 ≤ c) (hcx : pw k0 ≤ cx) (ha : Rd w A k0 (ints st)) (hst : NumsL p st) (hx : Rd w X (pw k0) (ints xs)) (hxs : NumsL p xs) :
    Calls Tryz.prog 50 #[.agg #[.int .i64 p, .slice A k0 c], .slice X (pw k0) cx] w fun e w' => ∃ A' c', e = .returned (.slice A' (pw k0) c') ∧ MkII w w' A' (pw k0) c' (rightDL p k0 st xs) := by
 obtain ⟨G, hGd⟩ : ∃ G : Nat → List Int, G = fun i => dblL p k0 st (unitRow (pw k0) i) xs := ⟨_, rfl⟩
 have hG : ∀ i, i < pw k0 → (G i).length = pw k0 ∧ NumsL p (G i) := fun i _ => by rw [hGd]; exact ⟨dblL_len _ _ _ _ _, dblL_nums (by omega) _ _ _ _⟩
 have hof : ∀ (i : Nat) (w' : World) (Y : Option Addr) (cy : Nat), i < pw k0 → Below w.heap.size w w' → Rd w' Y (pw k0) (ints (unitRow (pw k0) i)) → pw k0 ≤ cy → Calls Tryz.prog 108 #[.agg #[.int .i64 p, .slice A k0 c], .slice Y (pw k0) cy, .slice X (pw k0) cx] w' fun e w5 => ∃ A5 c5, e = .returned (.slice A5 (pw k0) c5) ∧ MkI w' w5 A5 (pw k0) c5 (G i) := by
  intro i w' Y cy hi hb hy hcy
  rw [hGd]
  exact dtimes_any p hp hp2 k0 hk A c st Y cy _ X cx xs w' hc hcy hcx (ha.below hb) hst hy (unitRow_nums hp _ _) (hx.below hb) hxs
 have e0 : rightDL p k0 st xs = transL (tab (pw k0) G) := by rw [hGd]; rfl
 rw [e0]
 clear hGd e0
 have hpk : pw k0 ≤ 16 := pw_le hk
 have hpos := pw_pos k0
 have hB0 : Below w.heap.size w (w.alloc (.cells #[.int .i64 p, .slice A k0 c] 26)) := zG.alloc (Nat.le_refl _) _
 have kk0 : Blk (w.alloc (.cells #[.int .i64 p, .slice A k0 c] 26)) w.heap.size 26 #[.int .i64 p, .slice A k0 c] := Blk.new _ _ _
 have hB1 := hB0.alloc (by simp) (.cells #[] 24)
 have k1 := kk0.alloc (.cells #[] 24)
 have hM1 : MkII w ((w.alloc (.cells #[.int .i64 p, .slice A k0 c] 26)).alloc (.cells #[] 24)) (some ⟨w.heap.size + 1, 0, none⟩) 0 0 [] := by
  have := MkII.empty hB0
  simpa using this
 clear kk0
 obtain ⟨q0, q1⟩ := k1.two
 have HG := Lib.hid hG
 have HOF := Lib.hid hof
 clear hG hof
 go_enter Tryz.func50, Tryz.ntmps50
 go_wp2_with fail
 refine (dsize_any p A k0 c _ hk).mono ?_
 rintro e w2 ⟨rfl, hb2⟩
 have hM2 := hM1.below hb2
 have hB2 := hB1.trans (hb2.mono hB1.size)
 have k2 := k1.below hb2 k1.lt
 clear hM1 q0 q1 k1 hB0 hB1
 obtain ⟨n, hn⟩ : ∃ n, n = pw k0 := ⟨_, rfl⟩
 have HN := Lib.hid hn
 rw [← hn] at hpk hpos HG HOF ⊢
 clear hn
 go_wp2_with fail
 refine (unit_any n _ (by omega)).mono ?_
 rintro e w3 ⟨U, cU, rfl, hU⟩
 have hM3 := hM2.below hU.b
 have hB3 := hB2.trans (hU.b.mono hB2.size)
 have k3 := k2.below hU.b k2.lt
 have hsz2 : w.heap.size + 1 < w2.heap.size := by have := hb2.size; simp at this; omega
 have hKp : Keeps w2 w3 w3 (.slice (some ⟨w.heap.size + 1, 0, none⟩) 0 0) := ⟨Nat.le_refl _, fun _ _ _ => rfl, fun gb e => .inl (lt_of_own e hsz2)⟩
 have hgb : ∀ gb, (Value.slice (some ⟨w.heap.size + 1, 0, none⟩) 0 0).ownBlock = some gb → gb ≠ w.heap.size := fun gb e => by
  have : w.heap.size + 1 = gb := by simpa [Value.ownBlock] using e
  omega
 clear hM2 hB2 hb2 hsz2 k2
 go_wp2
 go_loopw [5, 13] (fun out i wr => ∃ (j : Nat) (A' : Option Addr) (c' : Nat), j ≤ n ∧ i = .int .i64 j ∧ out = .slice A' j c' ∧ MkII w wr A' j c' (tab j G) ∧ Keeps w2 w3 wr (.slice A' j c') ∧ Blk wr w.heap.size 26 #[.int .i64 p, .slice A k0 c] ∧ w3.heap.size ≤ wr.heap.size ∧ Hid (∀ gb, (Value.slice A' j c').ownBlock = some gb → gb ≠ w.heap.size)) (fun _ i _ => n - (intOf i).toNat)
 case atStart => exact ⟨0, _, _, by omega, rfl, rfl, by simpa [tab] using hM3, hKp, k3, Nat.le_refl _, Lib.hid hgb⟩
 case round =>
  clear hgb k3
  obtain ⟨j, A', c', hj, rfl, rfl, hM, hB4, kb, hsz, HGB⟩ := hrel
  clear hM3 hKp
  obtain ⟨q0, q1⟩ := kb.two
  by_cases hlt : j < n
  · obtain ⟨gu, ou, rfl, hxk, A1, c1, hcu, hru, hcc⟩ := (hU.keep hB4.2.1).at_ hlt
    have hrow := unitM_get n j hxk
    rw [hrow, unitRow_len] at hru hcu hcc
    have hcall := HOF.out j wr A1 c1 hlt hM.b hru hcc
    have HM := Lib.hid hM
    have HB4 := Lib.hid hB4
    clear hM hru hrow hB4
    go_wp2_with fail
    refine hcall.mono ?_
    rintro e w5 ⟨A5, c5, rfl, hM5⟩
    have kb5 := kb.below hM5.b kb.lt
    clear hcall q0 q1
    go_wp2_with (at_builtin; refine wpList_appRowG w wr _ rfl _ _ rfl A' j c' _ A5 n c5 _ HM.out hM5 (by omega) rfl ?_ ?_; (go_simp); intro A6 c6 w6 hM6 hg6 hat6)
    go_roundw
    case rel => exact ⟨j + 1, A6, c6, by omega, by go_num, rfl, by rw [tab_succ]; exact hM6, HB4.out.step hM5.b hg6 hat6, (kb5.grown hg6 (fun e => HGB.out _ e.symm rfl)), by have := hg6.size; have := hM5.b.size; omega, Lib.hid (own_far HGB.out hat6 (Nat.lt_of_lt_of_le kb5.lt (Nat.le_refl _)))⟩
    case measure => simp [intOf]; omega
  · obtain rfl : j = n := by omega
    go_wp2_with fail
    refine (transpose_any p A' j c' (tab j G) j _ hpos (by omega) (by omega) hM.rd (Tab.tab HG.out)).mono ?_
    rintro e w5 ⟨A5, c5, rfl, hM5⟩
    go_wp2
    go_ret
    rw [← HN.out]
    exact ⟨_, _, rfl, hM5.after hM.b⟩
set_option maxHeartbeats 6400000 in
set_option maxRecDepth 8000 in
theorem l11Basis_any (p : Int) (hp : 2 ≤ p) (hp2 : p ≤ 13) (k : Nat) (hk : k ≤ 4) (A : Option Addr) (c : Nat) (st : List Int) (w : World) (hc : k ≤ c) (ha : Rd w A k (ints st)) (hst : NumsL p st) :
    Calls Tryz.prog 100 #[.agg #[.int .i64 p, .slice A k c]] w fun e w' => ∃ A' c', e = .returned (.slice A' (pw k) c') ∧ MkII w w' A' (pw k) c' (prodM p k st) := by
 have hpk : pw k ≤ 16 := pw_le hk
 have hpos := pw_pos k
 have hB0 : Below w.heap.size w (w.alloc (.cells #[.int .i64 p, .slice A k c] 26)) := zG.alloc (Nat.le_refl _) _
 have k0 : Blk (w.alloc (.cells #[.int .i64 p, .slice A k c] 26)) w.heap.size 26 #[.int .i64 p, .slice A k c] := Blk.new _ _ _
 have k1 := k0.alloc (.cells #[] 24)
 have hM1 : MkII w ((w.alloc (.cells #[.int .i64 p, .slice A k c] 26)).alloc (.cells #[] 24)) (some ⟨w.heap.size + 1, 0, none⟩) 0 0 [] := by
  have := MkII.empty hB0
  simpa using this
 clear k0 hB0
 go_enter Tryz.func100, Tryz.ntmps100
 go_wp2
 go_loopw [3, 4] (fun out i wr => ∃ (j : Nat) (A' : Option Addr) (c' : Nat), j ≤ pw k ∧ i = .int .i64 j ∧ out = .slice A' j c' ∧ Hid (MkII w wr A' j c' (tab j fun j => tab (pw k) (fun q => (dblL p k st (unitRow (pw k) j) (unitRow (pw k) q)).getD (j ^^^ q) 0))) ∧ Blk wr w.heap.size 26 #[.int .i64 p, .slice A k c]) (fun _ i _ => pw k - (intOf i).toNat)
 case atStart => exact ⟨0, _, _, by omega, rfl, rfl, Lib.hid (by simpa [tab] using hM1), k1⟩
 case round =>
  obtain ⟨j, A', c', hj, rfl, rfl, HM0, kr⟩ := hrel
  clear hM1 k1
  obtain ⟨q0, q1⟩ := kr.two
  by_cases hlt : j < pw k
  · go_wp2_with fail
    refine (l11Size_any p A k c wr (by omega)).mono ?_
    rintro e wo ⟨rfl, hb5⟩
    have HM := Lib.hid (HM0.out.below hb5)
    have ko := kr.below hb5 kr.lt
    have hR0 : MkI wo (wo.alloc (.cells #[] 2)) (some ⟨wo.heap.size, 0, none⟩) 0 0 [] := by simpa [MkI, ints] using Mk.lit (E := 2) (Below.refl wo.heap.size wo) #[] (by simp)
    have ko1 := ko.alloc (.cells #[] 2)
    clear q0 q1 hb5 kr HM0 ko
    go_wp2
    go_loopw [5, 6] (fun row i w2 => ∃ (q : Nat) (A2 : Option Addr) (c2 : Nat), q ≤ pw k ∧ i = .int .i64 q ∧ row = .slice A2 q c2 ∧ Hid (MkI wo w2 A2 q c2 (tab q (fun q => (dblL p k st (unitRow (pw k) j) (unitRow (pw k) q)).getD (j ^^^ q) 0))) ∧ Blk w2 w.heap.size 26 #[.int .i64 p, .slice A k c]) (fun _ i _ => pw k - (intOf i).toNat)
    case atStart => exact ⟨0, _, _, by omega, rfl, rfl, Lib.hid (by simpa [tab] using hR0), ko1⟩
    case round =>
     obtain ⟨q, A2, c2, hq, rfl, rfl, HR0, kr⟩ := hrel
     clear hR0 ko1
     obtain ⟨q0, q1⟩ := kr.two
     by_cases hlq : q < pw k
     · go_wp2_with fail
       rename_i w2
       refine (l11Size_any p A k c _ (by omega)).mono ?_
       rintro e w3 ⟨rfl, hb5⟩
       have HR := Lib.hid (HR0.out.below hb5)
       have k3 := kr.below hb5 kr.lt
       have HA := Lib.hid (ha.below (HM.out.b.trans (HR.out.b.mono HM.out.b.size)))
       have hjq := xor_lt hlt hlq
       obtain ⟨v, hv⟩ : ∃ v, v = (dblL p k st (unitRow (pw k) j) (unitRow (pw k) q)).getD (j ^^^ q) 0 := ⟨_, rfl⟩
       have HVV := Lib.hid hv
       have hxo := xor_all j (by omega) q (by omega)
       clear q0 q1 hb5 kr HR0 ha hv
       go_wp2
       refine wp_obs 15 [[],[],[],[],[2,3],[],[],[5,6],[1,2,3,4,5,6,7],[],[],[9,10],[1,2,3,4,5,6,7,8,9,10,11],[1,2,3,4,5,6,7,8,9,10,11,12],[1,2,3,4,5,6,7,8,9,10,11,12,13],[0,1,2,3,4,5,6,7,8,9,10,11,12,13,14],[0,1,2,3,4,5,6,7,8,9,10,11,12,13,14,15]] [VIs (.slice A2 q c2), VIs (.agg #[.int .i64 p, .slice A k c]), VIs (.agg #[.int .i64 p, .slice A k c]), VIs (.int .i64 (j)), VSl w3 (pw k) (unitRow (pw k) j), VIs (.agg #[.int .i64 p, .slice A k c]), VIs (.int .i64 (q)), VSl w3 (pw k) (unitRow (pw k) q), VSl w3 (pw k) (dblL p k st (unitRow (pw k) j) (unitRow (pw k) q)), VIs (.int .i64 (j)), VIs (.int .i64 (q)), VIs (.int .i64 (((j ^^^ q : Nat) : Int))), VCell (.int .i64 v), VIs (.int .i64 (v)), VBs 2 #[.int .i64 v]] (fun w' => Blk w' w.heap.size 26 #[.int .i64 p, .slice A k c] ∧ Below w3.heap.size w3 w') (by kernel_rfl) (by kernel_rfl) (fun _ _ h hb => ⟨h.1.below hb h.1.lt, h.2.trans (hb.mono h.2.size)⟩) (⟨k3.drew, zG.drew⟩) (fun x => ?_)
       refine zS (fun w' hS hV K hK => ?_) ?_
       · obtain ⟨q0, q1⟩ := hS.1.two; go_simp; exact zO hK
       refine zS (fun w' hS hV K hK => ?_) ?_
       · obtain ⟨q0, q1⟩ := hS.1.two; go_simp; exact zO hK
       refine zS (fun w' hS hV K hK => ?_) ?_
       · obtain ⟨q0, q1⟩ := hS.1.two; go_simp; exact zO hK
       refine zS (fun w' hS hV K hK => ?_) ?_
       · obtain ⟨q0, q1⟩ := hS.1.two; go_simp; exact zO hK
       refine zS (fun w' hS hV K hK => ?_) ?_
       · have e2 := zQ hV 2; have e3 := zQ hV 3; obtain ⟨q0, q1⟩ := hS.1.two; go_simp; refine (l11One_any p A k c j w' hk hlt).mono ?_; rintro e v1 ⟨A9, c9, rfl, hM⟩; exact hK.out _ _ _ rfl rfl ⟨_, _, rfl, hM.after hS.2⟩ hM.b
       refine zS (fun w' hS hV K hK => ?_) ?_
       · obtain ⟨q0, q1⟩ := hS.1.two; go_simp; exact zO hK
       refine zS (fun w' hS hV K hK => ?_) ?_
       · obtain ⟨q0, q1⟩ := hS.1.two; go_simp; exact zO hK
       refine zS (fun w' hS hV K hK => ?_) ?_
       · have e5 := zQ hV 5; have e6 := zQ hV 6; obtain ⟨q0, q1⟩ := hS.1.two; go_simp; refine (l11One_any p A k c q w' hk hlq).mono ?_; rintro e v1 ⟨A9, c9, rfl, hM⟩; exact hK.out _ _ _ rfl rfl ⟨_, _, rfl, hM.after hS.2⟩ hM.b
       refine zS (fun w' hS hV K hK => ?_) ?_
       · have e1 := zQ hV 1; obtain ⟨A4, c4, e4, h4⟩ := hV 4 (by decide); obtain ⟨A7, c7, e7, h7⟩ := hV 7 (by decide); obtain ⟨q0, q1⟩ := hS.1.two; go_simp; refine (l11Times_any p hp hp2 k hk A c st A4 c4 (unitRow (pw k) j) A7 c7 (unitRow (pw k) q) w' hc h4.2.cap h7.2.cap (HA.out.below hS.2) hst h4.rd (unitRow_nums hp _ _) h7.rd (unitRow_nums hp _ _)).mono ?_; rintro e v1 ⟨A9, c9, rfl, hM⟩; exact hK.out _ _ _ rfl rfl ⟨_, _, rfl, hM.after hS.2⟩ hM.b
       refine zS (fun w' hS hV K hK => ?_) ?_
       · obtain ⟨q0, q1⟩ := hS.1.two; go_simp; exact zO hK
       refine zS (fun w' hS hV K hK => ?_) ?_
       · obtain ⟨q0, q1⟩ := hS.1.two; go_simp; exact zO hK
       refine zS (fun w' hS hV K hK => ?_) ?_
       · have e9 := zQ hV 9; have e10 := zQ hV 10; obtain ⟨q0, q1⟩ := hS.1.two; go_simp; exact zO hK
       refine zS (fun w' hS hV K hK => ?_) ?_
       · obtain ⟨A4, c4, e4, h4⟩ := hV 4 (by decide); obtain ⟨A7, c7, e7, h7⟩ := hV 7 (by decide); obtain ⟨A8, c8, e8, h8⟩ := hV 8 (by decide); have e11 := zQ hV 11; obtain ⟨q0, q1⟩ := hS.1.two; obtain ⟨g, o1, rfl, hgk, hgc⟩ := h8.rd.int hjq; go_simp; exact hK.out _ _ _ rfl rfl ⟨_, rfl, by rw [hgc, HVV.out, List.getD_eq_getElem?_getD, List.getElem?_eq_getElem hgk]; rfl⟩ zG
       refine zS (fun w' hS hV K hK => ?_) ?_
       · obtain ⟨A4, c4, e4, h4⟩ := hV 4 (by decide); obtain ⟨A7, c7, e7, h7⟩ := hV 7 (by decide); obtain ⟨A8, c8, e8, h8⟩ := hV 8 (by decide); obtain ⟨p12, e12, h12⟩ := hV 12 (by decide); obtain ⟨q0, q1⟩ := hS.1.two; skip; go_simp; exact zO hK
       refine zS (fun w' hS hV K hK => ?_) ?_
       · obtain ⟨A4, c4, e4, h4⟩ := hV 4 (by decide); obtain ⟨A7, c7, e7, h7⟩ := hV 7 (by decide); obtain ⟨A8, c8, e8, h8⟩ := hV 8 (by decide); obtain ⟨p12, e12, h12⟩ := hV 12 (by decide); have e13 := zQ hV 13; obtain ⟨q0, q1⟩ := hS.1.two; go_simp; exact hK.out _ _ _ rfl rfl ⟨_, rfl, Blk.new _ _ _⟩ (zG.alloc (Nat.le_refl _) _)
       refine fun w' hS hV => ?_
       have e0 := zT hV 0
       have e1 := zT hV 1
       have e2 := zT hV 2
       have e3 := zT hV 3
       obtain ⟨A4, c4, e4, h4⟩ := hV 4 (by decide)
       have e5 := zT hV 5
       have e6 := zT hV 6
       obtain ⟨A7, c7, e7, h7⟩ := hV 7 (by decide)
       obtain ⟨A8, c8, e8, h8⟩ := hV 8 (by decide)
       have e9 := zT hV 9
       have e10 := zT hV 10
       have e11 := zT hV 11
       obtain ⟨p12, e12, h12⟩ := hV 12 (by decide)
       have e13 := zT hV 13
       obtain ⟨b14, e14, h14⟩ := hV 14 (by decide)
       simp only [e0, e1, e2, e3, e4, e5, e6, e7, e8, e9, e10, e11, e12, e13, e14]
       clear e0 e1 e2 e3 e4 e5 e6 e7 e8 e9 e10 e11 e12 e13 e14
       obtain ⟨k7, s2⟩ := hS
       refine any_plain (j := 15) (by kernel_rfl) (Eq.trans (by simp only [zA, zB, zC]; exact rfl) rfl) rfl (fun K hK => ?_)
       refine wp_app1 wo w' 24 2 _ _ Tryz.underlying24 info_i rfl (by omega) _ _ rfl A2 q c2 _ _ (HR.out.below s2) (by omega) rfl _ h14 (by rfl) (by rfl) ?_
       intro A20 c20 w20 hM20 hg20
       refine hK.out _ _ ?_
       simp only [Act.put, zD, zE, zF]
       refine any_one (j := 16) (by kernel_rfl) (Eq.trans (by simp only [zA, zB, zC]; exact rfl) rfl) (fun K hK => ?_)
       go_simp
       refine hK.out _ _ (wpAny_done (by kernel_rfl) ?_ _)
       have k8 := k7.grown hg20 ((HR.out.below s2).2.ne_blk k7 (by decide))
       have HR2 : Hid (MkI wo w20 A20 (q + 1) c20 (tab (q + 1) (fun q => (dblL p k st (unitRow (pw k) j) (unitRow (pw k) q)).getD (j ^^^ q) 0))) := Lib.hid (by rw [tab_succ, ← HVV.out]; simpa [MkI, ints] using hM20)
       clear k7 hg20 hM20 k3 hxo
       go_wp2
       go_roundw
       case rel => exact ⟨q + 1, A20, c20, by omega, by go_num, rfl, HR2, k8⟩
       case measure => simp [intOf]; omega
     · obtain rfl : q = pw k := by omega
       go_wp2_with (first
        | (go_at_call 101; refine (l11Size_any p A k c _ (by omega)).mono ?_; rintro e w3 ⟨rfl, hb5⟩; have HR := Lib.hid (HR0.out.below hb5); have k3 := kr.below hb5 kr.lt; clear q0 q1 hb5 kr HR0)
        | (at_builtin; refine wpList_appRowG w wo _ rfl _ _ rfl A' j c' _ A2 (pw k) c2 _ HM.out HR.out (by omega) rfl ?_ ?_; (go_simp); intro A4 c4 w4 hM4 hg4 _))
       have k8 := k3.grown hg4 ((HM.out.below HR.out.b).ne_blk k3 (by decide))
       go_roundw
       case rel => exact ⟨j + 1, A4, c4, by omega, by go_num, rfl, Lib.hid (by rw [tab_succ]; exact hM4), k8⟩
       case measure => simp [intOf]; omega
  · obtain rfl : j = pw k := by omega
    go_wp2_with fail
    refine (l11Size_any p A k c wr (by omega)).mono ?_
    rintro e w5 ⟨rfl, hb5⟩
    go_wp2
    go_ret
    exact ⟨_, _, rfl, HM0.out.below hb5⟩
/-- The cells of a square list of lists that is read. -/
theorem RdII.grid {w : World} {g o n m : Nat} {p : Int} {M : List (List Int)} (h : RdII w (some ⟨g, o, none⟩) n M) (hT : Tab p m M) {i j : Nat} (hi : i < n) (hj : j < m) :
    ∃ gi oi ci, w.cell? ⟨g, o + i, none⟩ = some (.slice (some ⟨gi, oi, none⟩) m ci) ∧ w.cell? ⟨gi, oi + j, none⟩ = some (.int .i64 (ent M i j)) := by
 obtain ⟨g', o', e, hx, A', c', hc, hr, -⟩ := h.at_ hi
 injection e with e; injection e with e1 e2 _
 subst e1; subst e2
 have hl : M[i].length = m := (hT M[i] (List.getElem_mem hx)).1
 rw [hl] at hc hr
 obtain ⟨gi, oi, rfl, hxj, hcj⟩ := hr.int hj
 exact ⟨gi, oi, c', hc, by rw [hcj, ent_at hx hxj]⟩
end Go.Proofs.YtaiegpggccdgoaaGreat
namespace Go.Proofs.YtaiegpggccdgoaaGreat
/-- One multiple of a row is taken away. -/
def stepR (p : Int) (out row : List Int) : List Int := if out.getD (leadL row) 0 = 0 then out else plusL p out (scaleL p row (out.getD (leadL row) 0)) (-1)
def restTo (p : Int) (rows : List (List Int)) (list : List Int) (k : Nat) : List Int := (rows.take k).foldl (stepR p) list
def restL (p : Int) (rows : List (List Int)) (list : List Int) : List Int := restTo p rows list rows.length
theorem restTo_succ {p : Int} {rows : List (List Int)} {list : List Int} {k : Nat} (hk : k < rows.length) : restTo p rows list (k + 1) = stepR p (restTo p rows list k) (rows.getD k []) := by
 unfold restTo
 rw [List.take_succ_eq_append_getElem hk, List.foldl_append, getD_of_lt [] hk]; rfl
def takeR (p : Int) (r : List Int) (at_ : Nat) (row : List Int) : List Int := plusL p row (scaleL p r (row.getD at_ 0)) (-1)
/-- The rows less multiples of the new one, which is put in its place. -/
def plcL (p : Int) (r : List Int) (at_ : Nat) (rows : List (List Int)) : Nat → List (List Int) × Bool
 | 0 => ([], false)
 | k + 1 => if (plcL p r at_ rows k).2 = false ∧ at_ < leadL (rows.getD k []) then ((plcL p r at_ rows k).1 ++ [r] ++ [takeR p r at_ (rows.getD k [])], true)
  else ((plcL p r at_ rows k).1 ++ [takeR p r at_ (rows.getD k [])], (plcL p r at_ rows k).2)
theorem plcL_len (p : Int) (r : List Int) (a : Nat) (rows : List (List Int)) : ∀ k, (plcL p r a rows k).1.length ≤ 2 * k
 | 0 => Nat.le_refl _
 | k + 1 => by
  have ih := plcL_len p r a rows k
  unfold plcL
  split <;> simp <;> omega
def newR (p : Int) (rest : List Int) : List Int := scaleL p rest (invF p (rest.getD (leadL rest) 0))
def putL (p : Int) (rows : List (List Int)) (list : List Int) : List (List Int) :=
 if leadL (restL p rows list) = list.length then rows
 else if (plcL p (newR p (restL p rows list)) (leadL (restL p rows list)) rows rows.length).2 = true then (plcL p (newR p (restL p rows list)) (leadL (restL p rows list)) rows rows.length).1
 else (plcL p (newR p (restL p rows list)) (leadL (restL p rows list)) rows rows.length).1 ++ [newR p (restL p rows list)]
def redTo (p : Int) (lists : List (List Int)) (k : Nat) : List (List Int) := (lists.take k).foldl (putL p) []
theorem redTo_succ {p : Int} {lists : List (List Int)} {k : Nat} (hk : k < lists.length) : redTo p lists (k + 1) = putL p (redTo p lists k) (lists.getD k []) := by
 unfold redTo
 rw [List.take_succ_eq_append_getElem hk, List.foldl_append, getD_of_lt [] hk]; rfl
theorem cg_subm {p : Int} (a b c : Int) : (a - (b + -1 * (c % p))) % p = (a - (b - c)) % p := by
 rw [show a - (b + -1 * (c % p)) = a - b + c % p by omega, Int.add_emod, cg_self, ← Int.add_emod]; congr 1; omega
theorem cg_subr {p : Int} (a b : Int) : (a - b % p) % p = (a - b) % p := by rw [Int.sub_emod, cg_self, ← Int.sub_emod]
theorem stepR_len (p : Int) (out row : List Int) : (stepR p out row).length = out.length := by
 unfold stepR; split
 · rfl
 · rw [plusL_len]
theorem stepR_nums {p : Int} (hp : 0 < p) {out : List Int} (row : List Int) (h : NumsL p out) : NumsL p (stepR p out row) := by
 unfold stepR; split
 · exact h
 · exact plusL_nums hp _ _ _
theorem restTo_len (p : Int) (rows : List (List Int)) (list : List Int) (k : Nat) (hk : k ≤ rows.length) : (restTo p rows list k).length = list.length := by
 induction k with
 | zero => rfl
 | succ k ih => rw [restTo_succ (by omega), stepR_len, ih (by omega)]
theorem restTo_nums {p : Int} (hp : 0 < p) (rows : List (List Int)) {list : List Int} (h : NumsL p list) (k : Nat) (hk : k ≤ rows.length) : NumsL p (restTo p rows list k) := by
 induction k with
 | zero => exact h
 | succ k ih => rw [restTo_succ (by omega)]; exact stepR_nums hp _ (ih (by omega))
theorem restL_len (p : Int) (rows : List (List Int)) (list : List Int) : (restL p rows list).length = list.length := restTo_len p rows list _ (Nat.le_refl _)
theorem restL_nums {p : Int} (hp : 0 < p) (rows : List (List Int)) {list : List Int} (h : NumsL p list) : NumsL p (restL p rows list) := restTo_nums hp rows h _ (Nat.le_refl _)
/-- What is taken away is made of the rows; what is left is 0 at their firsts. -/
theorem restTo_spec {p : Int} (hp : 2 ≤ p) {n : Nat} {B : List (List Int)} (hR : Red n B) (hT : Tab p n B) {list : List Int} (hl : list.length = n) (hn : NumsL p list) (k : Nat) (hk : k ≤ B.length) :
    (Sp p n B fun q => list.getD q 0 - (restTo p B list k).getD q 0) ∧ ∀ i, i < k → (restTo p B list k).getD (ld B i) 0 = 0 := by
 induction k with
 | zero => exact ⟨(Sp.zero p n B).congr fun q _ => by unfold restTo; simp, fun i hi => absurd hi (by omega)⟩
 | succ k ih =>
  obtain ⟨i1, i2⟩ := ih (by omega)
  have hL := restTo_len p B list k (by omega)
  have hN := restTo_nums (by omega) B hn k (by omega)
  have hrow := (hT.row (show k < B.length by omega)).1
  rw [restTo_succ (by omega)]
  obtain ⟨O, hO⟩ : ∃ O, O = restTo p B list k := ⟨_, rfl⟩
  rw [← hO] at i1 i2 hL hN ⊢
  unfold stepR
  split
  · rename_i h0
    refine ⟨i1, fun i hi => ?_⟩
    by_cases hik : i = k
    · subst hik; exact h0
    · exact i2 i (by omega)
  · have hat : ∀ q, q < n → (plusL p O (scaleL p (B.getD k []) (O.getD (leadL (B.getD k [])) 0)) (-1)).getD q 0 = (O.getD q 0 + -1 * (ent B k q * O.getD (ld B k) 0 % p)) % p := fun q hq => by
     rw [plusL_getD _ _ (by omega), scaleL_getD _ (by omega)]; rfl
    refine ⟨?_, fun i hi => ?_⟩
    · refine (i1.add ((Sp.row (p := p) (n := n) (m := B) (show k < B.length by omega)).mul (O.getD (ld B k) 0))).congr fun q hq => ?_
      rw [hat q hq, cg_subr, cg_subm]
      rw [Int.mul_comm (ent B k q)]; congr 1; omega
    · rw [hat _ (hR.lt i (by omega))]
      by_cases hik : i = k
      · subst hik
        rw [hR.one i (by omega), Int.one_mul, Int.emod_eq_of_lt (hN.getD (by omega) _).1 (hN.getD (by omega) _).2]
        rw [show O.getD (ld B i) 0 + -1 * O.getD (ld B i) 0 = 0 by omega]; rfl
      · rw [hR.zero i k (by omega) (by omega) (Ne.symm hik), i2 i (by omega)]; simp
theorem takeR_len (p : Int) (r : List Int) (a : Nat) (row : List Int) : (takeR p r a row).length = row.length := plusL_len _ _ _ _
theorem takeR_at {p : Int} {r row : List Int} {a q : Nat} (hq : q < row.length) (hl : r.length = row.length) : (takeR p r a row).getD q 0 = (row.getD q 0 - row.getD a 0 * r.getD q 0) % p := by
 unfold takeR
 rw [plusL_getD _ _ hq, scaleL_getD _ (by omega), Int.add_emod, Int.mul_emod, cg_self, ← Int.mul_emod, ← Int.add_emod]
 congr 1; rw [Int.mul_comm (r.getD q 0)]; omega
/-- The place of the new row. -/
theorem plc_spec (p : Int) (r : List Int) (a : Nat) (B : List (List Int)) (j : Nat) (hj : j ≤ B.length) (h1 : ∀ i, i < j → leadL (B.getD i []) ≤ a) (h2 : ∀ i, j ≤ i → i < B.length → a < leadL (B.getD i [])) :
    (∀ k, k ≤ j → plcL p r a B k = (tab k fun i => takeR p r a (B.getD i []), false)) ∧ ∀ m, j + m + 1 ≤ B.length → plcL p r a B (j + m + 1) = ((tab j fun i => takeR p r a (B.getD i [])) ++ [r] ++ tab (m + 1) fun i => takeR p r a (B.getD (j + i) []), true) := by
 have A1 : ∀ k, k ≤ j → plcL p r a B k = (tab k fun i => takeR p r a (B.getD i []), false) := by
  intro k
  induction k with
  | zero => intro _; rfl
  | succ k ih =>
   intro hk
   unfold plcL
   rw [ih (by omega), if_neg (fun hh => by have := h1 k (by omega); have := hh.2; omega)]
   simp only [tab_succ]
 refine ⟨A1, fun m => ?_⟩
 induction m with
 | zero =>
  intro hm
  unfold plcL
  show (if (plcL p r a B j).2 = false ∧ a < leadL (B.getD j []) then _ else _) = _
  rw [A1 j (Nat.le_refl _), if_pos ⟨rfl, h2 j (Nat.le_refl _) (by omega)⟩]
  simp only [tab_succ]; rfl
 | succ m ih =>
  intro hm
  unfold plcL
  rw [show j + (m + 1) = j + m + 1 from rfl, ih (by omega), if_neg (by simp)]
  rw [tab_succ (n := m + 1)]
  simp only [List.append_assoc]; rfl
theorem split_at (f : Nat → Nat) (a : Nat) (N : Nat) (hm : ∀ i j, i < j → j < N → f i < f j) (hne : ∀ i, i < N → f i ≠ a) : ∃ j, j ≤ N ∧ (∀ i, i < j → f i < a) ∧ ∀ i, j ≤ i → i < N → a < f i := by
 induction N with
 | zero => exact ⟨0, Nat.le_refl _, fun i hi => absurd hi (by omega), fun i _ hi => absurd hi (by omega)⟩
 | succ N ih =>
  obtain ⟨j, hj, h1, h2⟩ := ih (fun i j h h' => hm i j h (by omega)) (fun i hi => hne i (by omega))
  by_cases hjN : j = N
  · subst hjN
    by_cases hlt : f j < a
    · exact ⟨j + 1, Nat.le_refl _, fun i hi => by
       by_cases hij : i = j
       · subst hij; exact hlt
       · exact h1 i (by omega), fun i h h' => absurd h' (by omega)⟩
    · have := hne j (by omega)
      exact ⟨j, by omega, h1, fun i h h' => by obtain rfl : i = j := by omega
                                               omega⟩
  · refine ⟨j, by omega, h1, fun i h h' => ?_⟩
    by_cases hiN : i = N
    · subst hiN
      have := h2 j (Nat.le_refl _) (by omega)
      have := hm j i (by omega) (by omega)
      omega
    · exact h2 i h (by omega)
/-- The list with the new row in its place j. -/
def insL (s : Nat → List Int) (r : List Int) (j d : Nat) : List (List Int) := (tab j s) ++ [r] ++ tab (d - j) fun i => s (j + i)
theorem insL_len (s : Nat → List Int) (r : List Int) {j d : Nat} (h : j ≤ d) : (insL s r j d).length = d + 1 := by unfold insL; simp [tab_len]; omega
theorem insL_lo {s : Nat → List Int} {r : List Int} {j d i : Nat} (h : i < j) : (insL s r j d).getD i [] = s i := by
 unfold insL
 rw [List.append_assoc, getD_app_left [] _ (by rw [tab_len]; exact h), tab_getD h]
theorem insL_at (s : Nat → List Int) (r : List Int) (j d : Nat) : (insL s r j d).getD j [] = r := by
 unfold insL
 have := getD_app_right [] (tab j s) ([r] ++ tab (d - j) fun i => s (j + i)) 0
 rw [tab_len] at this
 rw [List.append_assoc]; exact this
theorem insL_hi {s : Nat → List Int} {r : List Int} {j d i : Nat} (h : j ≤ i) (hd : i < d) : (insL s r j d).getD (i + 1) [] = s i := by
 unfold insL
 have := getD_app_right [] (tab j s ++ [r]) (tab (d - j) fun i => s (j + i)) (i - j)
 rw [List.length_append, tab_len, List.length_singleton, tab_getD (by omega), show j + 1 + (i - j) = i + 1 by omega, show j + (i - j) = i by omega] at this
 exact this
theorem put_spec {p : Int} (hP : isP p = true) {n : Nat} {B : List (List Int)} (hR : Red n B) (hT : Tab p n B) {list : List Int} (hl : list.length = n) (hn : NumsL p list) :
    Red n (putL p B list) ∧ Tab p n (putL p B list) ∧ InSp p n (putL p B list) (B ++ [list]) ∧ InSp p n (B ++ [list]) (putL p B list) := by
 have hp : 2 ≤ p := by have := isP_ge hP; omega
 obtain ⟨s1, s2⟩ := restTo_spec hp hR hT hl hn B.length (Nat.le_refl _)
 have hX := restL_len p B list
 have hN := restL_nums (show 0 < p by omega) B hn
 change Sp p n B (fun q => list.getD q 0 - (restL p B list).getD q 0) at s1
 change ∀ i, i < B.length → (restL p B list).getD (ld B i) 0 = 0 at s2
 unfold putL
 obtain ⟨X, hXe⟩ : ∃ X, X = restL p B list := ⟨_, rfl⟩
 rw [← hXe] at s1 s2 hX hN ⊢
 have hBsub : InSp p n B (B ++ [list]) := InSp.of_sub fun x hx => by simp [hx]
 have hlm : Sp p n (B ++ [list]) fun q => list.getD q 0 := Sp.mem (by simp)
 have hle := leadL_le X
 by_cases hz : leadL X = list.length
 · rw [if_pos hz]
   refine ⟨hR, hT, hBsub, InSp.append (InSp.refl _ _ _) (InSp.of_mem fun x hx => ?_)⟩
   obtain rfl : x = list := by simpa using hx
   refine s1.congr fun q hq => ?_
   rw [leadL_before X q (by omega)]; congr 1; omega
 · rw [if_neg hz]
   obtain ⟨a, ha⟩ : ∃ a, a = leadL X := ⟨_, rfl⟩
   have han : a < n := by omega
   have hXa : X.getD a 0 ≠ 0 := by rw [ha]; exact leadL_at X (by omega)
   have hXb : ∀ q, q < a → X.getD q 0 = 0 := fun q hq => leadL_before X q (by omega)
   have hXr := hN.getD (show 0 < p by omega) a
   obtain ⟨v1, v2, v3⟩ := inv_spec hP (show 0 < X.getD a 0 by omega) hXr.2
   have hinv : X.getD a 0 * invF p (X.getD a 0) % p = 1 := (v3 _ (by omega) v2).2 rfl
   obtain ⟨r, hr⟩ : ∃ r, r = newR p X := ⟨_, rfl⟩
   have hrl : r.length = n := by rw [hr]; unfold newR; rw [scaleL_len]; omega
   have hrn : NumsL p r := by rw [hr]; exact scaleL_nums (by omega) _ _
   have hrat : ∀ q, q < n → r.getD q 0 = X.getD q 0 * invF p (X.getD a 0) % p := fun q hq => by rw [hr, ha]; unfold newR; rw [scaleL_getD _ (by omega)]
   have hra : r.getD a 0 = 1 := by rw [hrat a han]; exact hinv
   have hrb : ∀ q, q < a → r.getD q 0 = 0 := fun q hq => by rw [hrat q (by omega), hXb q hq]; simp
   have hrz : ∀ i, i < B.length → r.getD (ld B i) 0 = 0 := fun i hi => by rw [hrat _ (hR.lt i hi), s2 i hi]; simp
   have hne : ∀ i, i < B.length → ld B i ≠ a := fun i hi e => hXa (by rw [← e]; exact s2 i hi)
   obtain ⟨j, hj, j1, j2⟩ := split_at (ld B) a B.length hR.mono hne
   obtain ⟨q1, q2⟩ := plc_spec p r a B j hj (fun i hi => Nat.le_of_lt (j1 i hi)) j2
   obtain ⟨s, hs⟩ : ∃ s : Nat → List Int, s = fun i => takeR p r a (B.getD i []) := ⟨_, rfl⟩
   have hL : (if (plcL p r a B B.length).2 = true then (plcL p r a B B.length).1 else (plcL p r a B B.length).1 ++ [r]) = insL s r j B.length := by
    unfold insL
    by_cases hjd : j = B.length
    · rw [q1 B.length (by omega), if_neg (by simp), hjd, Nat.sub_self, hs]; simp [tab]
    · have := q2 (B.length - j - 1) (by omega)
      rw [show j + (B.length - j - 1) + 1 = B.length by omega, show B.length - j - 1 + 1 = B.length - j by omega] at this
      rw [this, if_pos rfl, hs]
   rw [← ha, ← hr, hL]
   have hBl : ∀ i, i < B.length → (B.getD i []).length = n := fun i hi => (hT.row hi).1
   have hsl : ∀ i, i < B.length → (s i).length = n := fun i hi => by rw [hs]; exact (takeR_len _ _ _ _).trans (hBl i hi)
   have hsn : ∀ i, i < B.length → NumsL p (s i) := fun i _ => by rw [hs]; exact plusL_nums (by omega) _ _ _
   have hsq : ∀ i q, i < B.length → q < n → (s i).getD q 0 = (ent B i q - ent B i a * r.getD q 0) % p := fun i q hi hq => by
    rw [hs]; exact takeR_at (by rw [hBl i hi]; exact hq) (by rw [hBl i hi, hrl])
   have hsone : ∀ i, i < B.length → (s i).getD (ld B i) 0 = 1 := fun i hi => by
    rw [hsq i _ hi (hR.lt i hi), hR.one i hi, hrz i hi, Int.mul_zero]; exact Int.emod_eq_of_lt (by omega) (by omega)
   have hszero : ∀ i k, i < B.length → k < B.length → k ≠ i → (s k).getD (ld B i) 0 = 0 := fun i k hi hk hki => by
    rw [hsq k _ hk (hR.lt i hi), hR.zero i k hi hk hki, hrz i hi, Int.mul_zero]; rfl
   have hsa : ∀ i, i < B.length → (s i).getD a 0 = 0 := fun i hi => by rw [hsq i a hi han, hra, Int.mul_one, Int.sub_self]; rfl
   have hsb : ∀ i q, i < B.length → q < ld B i → (s i).getD q 0 = 0 := fun i q hi hq => by
    have hln := hR.lt i hi
    rw [hsq i q hi (by omega), hR.before i q hq]
    rcases Nat.lt_or_ge q a with h | h
    · rw [hrb q h]; simp
    · rw [hR.before i a (by omega)]; simp
   have hslead : ∀ i, i < B.length → leadL (s i) = ld B i := fun i hi => leadL_eq _ _ (fun q hq => hsb i q hi hq) (.inr ⟨by rw [hsl i hi]; exact hR.lt i hi, by rw [hsone i hi]; omega⟩)
   have hrlead : leadL r = a := leadL_eq _ _ hrb (.inr ⟨by omega, by rw [hra]; omega⟩)
   have hlen := insL_len s r hj
   -- the three kinds of places
   have kinds : ∀ i, i < B.length + 1 → (i < j ∧ i < B.length ∧ (insL s r j B.length).getD i [] = s i) ∨ (i = j ∧ (insL s r j B.length).getD i [] = r) ∨ ∃ m, i = m + 1 ∧ j ≤ m ∧ m < B.length ∧ (insL s r j B.length).getD i [] = s m := fun i hi => by
    rcases Nat.lt_trichotomy i j with h | h | h
    · exact .inl ⟨h, by omega, insL_lo h⟩
    · exact .inr (.inl ⟨h, by rw [h]; exact insL_at _ _ _ _⟩)
    · exact .inr (.inr ⟨i - 1, by omega, by omega, by omega, by rw [show i = i - 1 + 1 by omega]; exact insL_hi (by omega) (by omega)⟩)
   obtain ⟨L, hLe⟩ : ∃ L, L = insL s r j B.length := ⟨_, rfl⟩
   rw [← hLe] at hlen kinds ⊢
   have hmem : ∀ x ∈ L, x = r ∨ ∃ i, i < B.length ∧ x = s i := fun x hx => by
    obtain ⟨i, hi, rfl⟩ := List.getElem_of_mem hx
    rw [← getD_of_lt [] hi]
    rcases kinds i (by omega) with ⟨_, h, e⟩ | ⟨_, e⟩ | ⟨m, _, _, h, e⟩
    · exact .inr ⟨i, h, e⟩
    · exact .inl e
    · exact .inr ⟨m, h, e⟩
   have hTL : Tab p n L := fun x hx => by
    rcases hmem x hx with rfl | ⟨i, hi, rfl⟩
    · exact ⟨hrl, hrn⟩
    · exact ⟨hsl i hi, hsn i hi⟩
   have hrM : r ∈ L := by rw [← insL_at s r j B.length, ← hLe]; exact getD_mem [] (by omega)
   have hsM : ∀ i, i < B.length → s i ∈ L := fun i hi => by
    rcases Nat.lt_or_ge i j with h | h
    · rw [← insL_lo (s := s) (r := r) (d := B.length) h, ← hLe]; exact getD_mem [] (by omega)
    · rw [← insL_hi (s := s) (r := r) h hi, ← hLe]; exact getD_mem [] (by omega)
   refine ⟨⟨fun i hi => ?_, fun i hi => ?_, fun i k hi hk hki => ?_, fun i k hik hk => ?_⟩, hTL, InSp.of_mem fun x hx => ?_, InSp.append (InSp.of_mem fun x hx => ?_) (InSp.of_mem fun x hx => ?_)⟩
   · unfold ld
     rcases kinds i (by omega) with ⟨_, h, e⟩ | ⟨_, e⟩ | ⟨m, _, _, h, e⟩
     · rw [e, hslead i h]; exact hR.lt i h
     · rw [e, hrlead]; exact han
     · rw [e, hslead m h]; exact hR.lt m h
   · unfold ld ent
     rcases kinds i (by omega) with ⟨_, h, e⟩ | ⟨_, e⟩ | ⟨m, _, _, h, e⟩
     · rw [e, hslead i h]; exact hsone i h
     · rw [e, hrlead]; exact hra
     · rw [e, hslead m h]; exact hsone m h
   · unfold ld ent
     rcases kinds i (by omega) with ⟨h', h, e⟩ | ⟨h', e⟩ | ⟨m, h', h'', h, e⟩
     · rcases kinds k (by omega) with ⟨g', g, f⟩ | ⟨g', f⟩ | ⟨t, g', g'', g, f⟩
       · rw [e, f, hslead i h]; exact hszero i k h g hki
       · rw [e, f, hslead i h]; exact hrz i h
       · rw [e, f, hslead i h]; exact hszero i t h g (by omega)
     · rcases kinds k (by omega) with ⟨g', g, f⟩ | ⟨g', f⟩ | ⟨t, g', g'', g, f⟩
       · rw [e, f, hrlead]; exact hsa k g
       · omega
       · rw [e, f, hrlead]; exact hsa t g
     · rcases kinds k (by omega) with ⟨g', g, f⟩ | ⟨g', f⟩ | ⟨t, g', g'', g, f⟩
       · rw [e, f, hslead m h]; exact hszero m k h g (by omega)
       · rw [e, f, hslead m h]; exact hrz m h
       · rw [e, f, hslead m h]; exact hszero m t h g (by omega)
   · unfold ld
     rcases kinds i (by omega) with ⟨h', h, e⟩ | ⟨h', e⟩ | ⟨m, h', h'', h, e⟩
     · rcases kinds k (by omega) with ⟨g', g, f⟩ | ⟨g', f⟩ | ⟨t, g', g'', g, f⟩
       · rw [e, f, hslead i h, hslead k g]; exact hR.mono i k hik g
       · rw [e, f, hslead i h, hrlead]; exact j1 i h'
       · rw [e, f, hslead i h, hslead t g]; exact hR.mono i t (by omega) g
     · rcases kinds k (by omega) with ⟨g', g, f⟩ | ⟨g', f⟩ | ⟨t, g', g'', g, f⟩
       · omega
       · omega
       · rw [e, f, hrlead, hslead t g]; exact j2 t (by omega) g
     · rcases kinds k (by omega) with ⟨g', g, f⟩ | ⟨g', f⟩ | ⟨t, g', g'', g, f⟩
       · omega
       · omega
       · rw [e, f, hslead m h, hslead t g]; exact hR.mono m t (by omega) g
   · -- what is new is made of the old
     have hXs : Sp p n (B ++ [list]) fun q => X.getD q 0 := (hlm.add ((hBsub.sp s1).mul (-1))).congr fun q _ => by congr 1; omega
     have hrs : Sp p n (B ++ [list]) fun q => r.getD q 0 := (hXs.mul (invF p (X.getD a 0))).congr fun q hq => by rw [hrat q hq, cg_self, Int.mul_comm]
     rcases hmem x hx with rfl | ⟨i, hi, rfl⟩
     · exact hrs
     · refine ((hBsub i hi).add (hrs.mul (-(ent B i a)))).congr fun q hq => ?_
       rw [hsq i q hi hq, cg_self]; congr 1
       rw [Int.neg_mul]; omega
   · obtain ⟨i, hi, rfl⟩ := List.getElem_of_mem hx
     rw [← getD_of_lt [] hi]
     refine ((Sp.mem (p := p) (n := n) (hsM i hi)).add ((Sp.mem (p := p) (n := n) hrM).mul (ent B i a))).congr fun q hq => ?_
     rw [hsq i q hi hq, Int.add_emod, cg_self, ← Int.add_emod]
     show _ = ent B i q % p
     congr 1; omega
   · obtain rfl : x = list := by simpa using hx
     have hB2 : InSp p n B L := InSp.of_mem fun x hx => by
      obtain ⟨i, hi, rfl⟩ := List.getElem_of_mem hx
      rw [← getD_of_lt [] hi]
      refine ((Sp.mem (p := p) (n := n) (hsM i hi)).add ((Sp.mem (p := p) (n := n) hrM).mul (ent B i a))).congr fun q hq => ?_
      rw [hsq i q hi hq, Int.add_emod, cg_self, ← Int.add_emod]
      show _ = ent B i q % p
      congr 1; omega
     refine ((hB2.sp s1).add ((Sp.mem (p := p) (n := n) hrM).mul (X.getD a 0))).congr fun q hq => ?_
     rw [hrat q hq, Int.add_emod, Int.mul_emod, cg_self, ← Int.mul_emod, Int.mul_left_comm, Int.mul_emod (X.getD q 0), hinv, Int.mul_one, cg_self, ← Int.add_emod]
     congr 1; omega
/-- Reduced bases one list at a time are those by columns. -/
theorem redTo_spec {p : Int} (hP : isP p = true) {n : Nat} {m : List (List Int)} (hT : Tab p n m) (k : Nat) (hk : k ≤ m.length) :
    Red n (redTo p m k) ∧ Tab p n (redTo p m k) ∧ InSp p n (redTo p m k) (m.take k) ∧ InSp p n (m.take k) (redTo p m k) := by
 induction k with
 | zero => exact ⟨Red.nil n, Tab.nil p n, InSp.refl _ _ _, InSp.refl _ _ _⟩
 | succ k ih =>
  obtain ⟨a1, a2, a3, a4⟩ := ih (by omega)
  have hk' : k < m.length := by omega
  obtain ⟨h1, h2⟩ := hT.row hk'
  obtain ⟨b1, b2, b3, b4⟩ := put_spec hP a1 a2 h1 h2
  rw [redTo_succ hk']
  refine ⟨b1, b2, b3.trans ?_, InSp.trans ?_ b4⟩
  · rw [List.take_succ_eq_append_getElem hk', ← getD_of_lt [] hk']
    exact InSp.append (a3.trans (InSp.of_sub fun x hx => by simp [hx])) (InSp.of_sub fun x hx => by simp at hx; simp [hx])
  · rw [List.take_succ_eq_append_getElem hk', ← getD_of_lt [] hk']
    exact InSp.append (a4.trans (InSp.of_sub fun x hx => by simp [hx])) (InSp.of_sub fun x hx => by simp at hx; simp [hx])
theorem red_basis {p : Int} (hP : isP p = true) {n : Nat} {m : List (List Int)} (hT : Tab p n m) : redTo p m m.length = basisL p m := by
 have hp : 2 ≤ p := by have := isP_ge hP; omega
 obtain ⟨a1, a2, a3, a4⟩ := redTo_spec hP hT m.length (Nat.le_refl _)
 rw [List.take_length] at a3 a4
 obtain ⟨b1, b2⟩ := basisL_in hP m hT
 exact a1.unique hp (basisL_red hP m hT) a2 (basisL_tab (by omega) m hT) (a3.trans b2) (b1.trans a4)
end Go.Proofs.YtaiegpggccdgoaaGreat
namespace Go.Proofs.YtaiegpggccdgoaaGreat
open Go Go.RowKit
set_option maxHeartbeats 800000 in
set_option maxRecDepth 8000 in
theorem l12First_any (A : Option Addr) (n c : Nat) (xs : List Int) (w : World) (hn : n ≤ 1099511627776) (ha : Rd w A n (ints xs)) :
    Calls Tryz.prog 91 #[.slice A n c] w fun e w' => e = .returned (.int .i64 (leadL xs)) ∧ w = w' := by
 have hxl : xs.length = n := by have := ha.1; rwa [ints_length] at this
 have Hx := Lib.hid hxl; clear hxl
 go_enter Tryz.func91, Tryz.ntmps91
 go_wp2
 go_loop [3] (fun i => ∃ k : Nat, k ≤ n ∧ i = .int .i64 k ∧ k ≤ leadL xs) (fun i => n - (intOf i).toNat)
 case atStart => exact ⟨0, by omega, rfl, by omega⟩
 case round =>
  obtain ⟨k, hk, rfl, ht⟩ := hrel
  have H := Lib.hid ht; clear ht
  by_cases hlt : k < n
  · obtain ⟨g, o, rfl, hx, hcx⟩ := ha.int hlt
    clear ha
    by_cases hi : xs[k] = 0
    · have HI := Lib.hid hi
      rw [hi] at hcx
      clear hi
      go_wp2
      go_round
      case rel => exact ⟨k + 1, by omega, by go_num, leadL_step H.out hx HI.out⟩
      case measure => simp [intOf]; omega
    · have HI := Lib.hid hi
      have e0 : (xs[k] == 0) = false := by simpa using hi
      clear hi
      go_wp2
      go_ret
      exact ⟨ret_int (by rw [leadL_stop H.out hx HI.out]), rfl⟩
  · go_wp2
    go_ret
    have := H.out
    exact ⟨ret_int (by rw [leadL_end this (by rw [Hx.out]; omega), Hx.out, show k = n by omega]), rfl⟩
/-- A row that lies there is appended: the operation alone. -/
theorem wp_appRowO {o : Oper} {a : Act} {K : Act → World → Prop} {Q : Exit → Act → World → Prop} (w0 w1 : World)
    (s x : Operand) (ho : o.op = .call { callee := .builtin .append, args := #[s, x], argTypes := #[32, 32] })
    (A : Option Addr) (n c : Nat) (xss : List (List Int)) (A1 : Option Addr) (m c1 : Nat) (xs : List Int) (hM : MkO w0 w1 A n c xss) (hr : Own w1 0 2 A1 m c1 (ints xs)) (hn : n ≤ 1099511627776) (g : Nat) (hB : Blk w1 g 24 #[.slice A1 m c1])
    (hs : a.eval s = .slice A n c) (hx : a.eval x = .slice (some ⟨g, 0, none⟩) 1 1)
    (h : ∀ A' c' w', MkO w0 w' A' (n + 1) c' (xss ++ [xs]) → w1.grownBy w' (Value.slice A n c).ownBlock → (∃ g, A' = some ⟨g, 0, none⟩ ∧ ((Value.slice A n c).ownBlock = some g ∨ w1.heap.size ≤ g)) → K (a.put o.dst (.slice A' (n + 1) c')) w') : o.wp Tryz.prog a w1 K Q := by
 obtain ⟨rows, hm1, hl, hrow⟩ := hM
 have hml : xs.length = m := by have := hr.len; rwa [ints_length] at this
 subst hml
 obtain ⟨i, hi, h1, h2, h3⟩ := info_parts info_s
 obtain ⟨b1, b2⟩ := bound_of hn
 refine wp_append_lies w1 s x 32 ho w0.heap.size 24 i (.slice none 0 0) 1 24 Tryz.underlying32 hi h1 h2 h3 rfl (by omega) (.slice A n c) n rows hs hm1.2 ⟨g, 0, none⟩ 1 1 [.slice A1 xs.length c1] hx rfl (fun j v hv => ?_)
  (by intro v hv; simp at hv; rw [hv]; rfl) (by omega) b1 (b2 _ (by omega)) hm1.1.size _ rfl (fun g' cap w' hown hg hat _ => h _ _ _ ⟨_, ⟨hm1.1.grown hg hm1.1.size (fun k hk => (hm1.2.lt k hk).1), hown⟩, by simp [hl], fun k hk => ?_⟩ hg ⟨g', rfl, hat.imp id (fun e => by omega)⟩)
 · match j, hv with
   | 0, hv => simp at hv; subst hv; rw [Addr.add_lit]; exact hB.cell 0
 · by_cases hlt : k < xss.length
   · obtain ⟨A2, c2, e, ho2⟩ := hrow k hlt
     simp only [List.getElem_append_left hlt]
     exact ⟨A2, c2, by rw [List.getElem?_append_left (by omega)]; exact e, ho2.grown hg (ho2.ne hm1.2 (by decide))⟩
   · have hk' : k = xss.length := by simp at hk; omega
     subst hk'
     simp only [List.getElem_append_right (Nat.le_refl _), Nat.sub_self, List.getElem_cons_zero]
     exact ⟨A1, c1, by rw [List.getElem?_append_right (by omega), hl, Nat.sub_self]; rfl, hr.grown hg (hr.ne hm1.2 (by decide))⟩
theorem MkO.owned {w0 w : World} {A : Option Addr} {n c : Nat} {xss : List (List Int)} (h : MkO w0 w A n c xss) : ∃ rows, Mk w0 w 24 A n c rows := by
 obtain ⟨rows, hm, _⟩ := h; exact ⟨rows, hm⟩
theorem MkO.keepOwn {w0 w w' : World} {A : Option Addr} {n c : Nat} {xss : List (List Int)} (h : MkO w0 w A n c xss) {R : Option Addr} {m cr : Nat} {us : List Value} (hr : Own w 0 2 R m cr us) (hg : w.grownBy w' (Value.slice A n c).ownBlock) : Own w' 0 2 R m cr us := by
 obtain ⟨rows, hm⟩ := h.owned
 exact hr.grown hg (hr.ne hm.2 (by decide))
set_option maxHeartbeats 1600000 in
set_option maxRecDepth 8000 in
theorem l12Rest_any (p : Int) (A : Option Addr) (r0 c : Nat) (B : List (List Int)) (X : Option Addr) (n cx : Nat) (xs : List Int) (w : World) (hp : 2 ≤ p) (hp2 : p ≤ 13) (hn : n ≤ 65536) (hr0 : r0 ≤ 65536) (ha : RdII w A r0 B) (hT : Tab p n B) (hR : Red n B) (hx : Rd w X n (ints xs)) (hxs : NumsL p xs) :
    Calls Tryz.prog 162 #[.int .i64 p, .slice A r0 c, .slice X n cx] w fun e w' => ∃ A' c', e = .returned (.slice A' n c') ∧ MkI w w' A' n c' (restL p B xs) := by
 have hBl := ha.len
 have hxl := hx.lenI
 have HBL := Lib.hid hBl
 have HT := Lib.hid hT
 have HR := Lib.hid hR
 have HF : Hid (∀ j, j ≤ r0 → (restTo p B xs j).length = n ∧ NumsL p (restTo p B xs j)) := Lib.hid fun j hj => ⟨(restTo_len p B xs j (by omega)).trans hxl, restTo_nums (by omega) B hxs j (by omega)⟩
 have HS : Hid (∀ j (h : j < B.length), restTo p B xs (j + 1) = stepR p (restTo p B xs j) B[j]) := Lib.hid fun j h => by rw [restTo_succ h, getD_of_lt [] h]
 have HE : Hid (restL p B xs = restTo p B xs r0) := Lib.hid (by unfold restL; rw [hBl])
 have hown := l01Own_any X n cx xs w hn hx
 clear hBl hxl hT hR hx hxs
 go_enter Tryz.func162, Tryz.ntmps162
 go_wp2_with fail
 refine hown.mono ?_
 rintro e w1 ⟨A1, c1, rfl, hM1⟩
 clear hown
 go_wp2
 go_loopw [7, 8] (fun out i wr => ∃ (j : Nat) (A' : Option Addr) (c' : Nat), j ≤ r0 ∧ i = .int .i64 j ∧ out = .slice A' n c' ∧ MkI w wr A' n c' (restTo p B xs j)) (fun _ i _ => r0 - (intOf i).toNat)
 case atStart => exact ⟨0, _, _, by omega, rfl, rfl, hM1⟩
 case round =>
  obtain ⟨j, A', c', hj, rfl, rfl, hM⟩ := hrel
  clear hM1
  by_cases hlt : j < r0
  · obtain ⟨g, o, rfl, hxj, Aj, cj, hcj, hrj, hcapj⟩ := (ha.below hM.b).at_ hlt
    obtain ⟨hlj, hnj⟩ := HT.out _ (List.getElem_mem hxj)
    obtain ⟨row, hrow⟩ : ∃ z, z = B[j] := ⟨_, rfl⟩
    have hld : leadL row < n := by have := HR.out.lt j hxj; unfold ld at this; rw [getD_of_lt [] hxj, ← hrow] at this; exact this
    have HST : Hid (restTo p B xs (j + 1) = stepR p (restTo p B xs j) row) := Lib.hid (by rw [HS.out j hxj, hrow])
    rw [← hrow] at hcj hrj hcapj hlj hnj
    rw [hlj] at hcj hrj
    obtain ⟨L, hL⟩ : ∃ L, L = restTo p B xs j := ⟨_, rfl⟩
    obtain ⟨hLl, hLn⟩ := HF.out j hj
    rw [← hL] at hM HST hLl hLn
    obtain ⟨gl, ol, rfl, hxl, hcl⟩ := hM.rd.int hld
    obtain ⟨x, hxe⟩ : ∃ z, z = L[leadL row] := ⟨_, rfl⟩
    obtain ⟨x1, x2⟩ := hLn _ (List.getElem_mem hxl)
    rw [← hxe] at hcl x1 x2
    have HXE : Hid (L.getD (leadL row) 0 = x) := Lib.hid (by rw [hxe, getD_of_lt 0 hxl])
    have HM := Lib.hid hM
    have HRJ := Lib.hid hrj
    have HNJ := Lib.hid hnj
    have HLN := Lib.hid hLn
    have hf := l12First_any Aj n cj row wr (by omega) hrj
    obtain ⟨ld0, hld0⟩ : ∃ z, z = leadL row := ⟨_, rfl⟩
    rw [← hld0] at hf hld hcl HXE
    have HLD := Lib.hid hld0
    clear hM hrj hnj hLn hL hrow hxe hxl hlj hcapj ha hld0
    by_cases h0 : x = 0
    · have HSTE : Hid (restTo p B xs (j + 1) = L) := Lib.hid (by rw [HST.out]; unfold stepR; rw [← HLD.out, HXE.out, if_pos h0])
      subst h0
      clear HST x1 x2
      go_wp2_with fail
      refine hf.mono ?_
      rintro e w3 ⟨rfl, rfl⟩
      go_wp2
      go_roundw
      case rel => exact ⟨j + 1, _, _, by omega, by go_num, rfl, by rw [HSTE.out]; exact HM.out⟩
      case measure => simp [intOf]; omega
    · have HSTE : Hid (restTo p B xs (j + 1) = plusL p L (scaleL p row x) (-1)) := Lib.hid (by rw [HST.out]; unfold stepR; rw [← HLD.out, HXE.out, if_neg h0])
      have h0b : (x == 0) = false := by simpa using h0
      clear HST
      go_wp2_with fail
      refine hf.mono ?_
      rintro e w3 ⟨rfl, rfl⟩
      clear hf
      go_wp2_with fail
      refine (l11Scale_any p x Aj n cj row _ hp hp2 hn HRJ.out HNJ.out x1 (by omega)).mono ?_
      rintro e w4 ⟨A4, c4, rfl, hM4⟩
      go_wp2_with fail
      refine (l11Minus_any p _ n c' L A4 n c4 (scaleL p row x) w4 hp hp2 hn (Nat.le_refl _) (HM.out.below hM4.b).rd HLN.out hM4.rd (scaleL_nums (by omega) _ _)).mono ?_
      rintro e w5 ⟨A5, c5, rfl, hM5⟩
      go_wp2
      go_roundw
      case rel => exact ⟨j + 1, _, _, by omega, by go_num, rfl, by rw [HSTE.out]; exact hM5.after ((HM.out.below hM4.b).b)⟩
      case measure => simp [intOf]; omega
  · obtain rfl : j = r0 := by omega
    go_wp2
    go_ret
    exact ⟨_, _, rfl, by rw [HE.out]; exact hM⟩
set_option maxHeartbeats 6400000 in
set_option maxRecDepth 8000 in
theorem l12Put_any (p : Int) (w0 : World) (A : Option Addr) (d c : Nat) (B : List (List Int)) (X : Option Addr) (n cx : Nat) (xs : List Int) (w : World) (HP : isP p = true) (hn : n ≤ 65535) (hA : MkO w0 w A d c B) (hT : Tab p n B) (hR : Red n B) (hx : Rd w X n (ints xs)) (hxs : NumsL p xs) :
    Calls Tryz.prog 157 #[.int .i64 p, .slice A d c, .slice X n cx] w fun e w' => ∃ A' c', e = .returned (.slice A' (putL p B xs).length c') ∧ MkO w0 w' A' (putL p B xs).length c' (putL p B xs) ∧ Below w.heap.size w w' := by
 obtain ⟨hp3, hp2⟩ := isP_ge HP
 have hp : 2 ≤ p := by omega
 have ha := hA.rd
 have hBl := ha.len
 have hd : d ≤ 65535 := by have := hR.len; omega
 have hxl := hx.lenI
 have hrest := l12Rest_any p A d c B X n cx xs w hp hp2 (by omega) (by omega) ha hT hR hx hxs
 have hRL := (restL_len p B xs).trans hxl
 have hRN := restL_nums (show 0 < p by omega) B hxs
 obtain ⟨Z, hZ⟩ : ∃ Z, Z = putL p B xs := ⟨_, rfl⟩
 rw [← hZ]
 unfold putL at hZ
 rw [hxl, hBl] at hZ
 obtain ⟨R0, hR0⟩ : ∃ R0, R0 = restL p B xs := ⟨_, rfl⟩
 rw [← hR0] at hrest hRL hRN hZ
 obtain ⟨q, hq⟩ : ∃ q, q = leadL R0 := ⟨_, rfl⟩
 have hqn : q ≤ n := by have := leadL_le R0; omega
 have HZ := Lib.hid hZ
 have HT := Lib.hid hT
 have HBL := Lib.hid hBl
 have HRN := Lib.hid hRN
 have HA := Lib.hid hA
 have HQ := Lib.hid hq
 clear hZ hT hBl hR hx hxs hR0 hRN hA hxl ha hq
 by_cases hqz : q = n
 · have HZE : Hid (Z = B) := Lib.hid (by rw [HZ.out, ← HQ.out, if_pos hqz])
   subst hqz
   clear HZ
   go_enter Tryz.func157, Tryz.ntmps157
   go_wp2_with fail
   refine hrest.mono ?_
   rintro e w1 ⟨A1, c1, rfl, hM1⟩
   go_wp2_with fail
   refine (l12First_any A1 q c1 R0 w1 (by omega) hM1.rd).mono ?_
   rw [← HQ.out]
   rintro e w2 ⟨rfl, rfl⟩
   go_wp2
   go_ret
   rw [HZE.out, HBL.out]
   exact ⟨_, _, rfl, HA.out.below hM1.b, hM1.b⟩
 have hqlt : q < n := by omega
 have hne : ((q : Int) == (n : Int)) = false := by simp; omega
 have hne2 : ¬ (q : Int) = (n : Int) := by omega
 obtain ⟨a0, ha0⟩ : ∃ z, z = R0.getD q 0 := ⟨_, rfl⟩
 have ha1 : a0 ≠ 0 := by rw [ha0, HQ.out]; exact leadL_at R0 (by rw [← HQ.out]; omega)
 obtain ⟨ha2, ha3⟩ := HRN.out.getD (show 0 < p by omega) q
 rw [← ha0] at ha2 ha3
 obtain ⟨iv, hiv⟩ : ∃ z, z = invF p a0 := ⟨_, rfl⟩
 obtain ⟨v1, v2, -⟩ := inv_spec HP (show 0 < a0 by omega) ha3
 have hinv := fun w' => l01Inv_any p a0 w' HP (by omega) ha3
 rw [← hiv] at v1 v2 hinv
 obtain ⟨r, hr⟩ : ∃ r, r = scaleL p R0 iv := ⟨_, rfl⟩
 have HRE : Hid (newR p R0 = r) := Lib.hid (by rw [hr, hiv, ha0, HQ.out]; rfl)
 have HRS : Hid (scaleL p R0 iv = r) := Lib.hid hr.symm
 have HRL : Hid (r.length = n) := Lib.hid (by rw [hr, scaleL_len]; exact hRL)
 have HRN2 : Hid (NumsL p r) := Lib.hid (by rw [hr]; exact scaleL_nums (by omega) _ _)
 have HZE : Hid (Z = if (plcL p r q B d).2 = true then (plcL p r q B d).1 else (plcL p r q B d).1 ++ [r]) := Lib.hid (by rw [HZ.out, if_neg (by rw [← HQ.out]; exact hqz), HRE.out, ← HQ.out])
 have HA0 := Lib.hid ha0
 clear hr hiv HP HZ ha0 hRL
 go_enter Tryz.func157, Tryz.ntmps157
 go_wp2_with fail
 refine hrest.mono ?_
 rintro e w1 ⟨A1, c1, rfl, hM1⟩
 clear hrest
 go_wp2_with fail
 refine (l12First_any A1 n c1 R0 w1 (by omega) hM1.rd).mono ?_
 rw [← HQ.out]
 rintro e w2 ⟨rfl, rfl⟩
 obtain ⟨gr, ogr, rfl, hxr, hcr⟩ := hM1.rd.int hqlt
 rw [show R0[q] = a0 by rw [HA0.out, getD_of_lt 0 hxr]] at hcr
 have HM1 := Lib.hid hM1
 clear hM1
 go_wp2_with fail
 refine (hinv _).mono ?_
 rintro e w3 ⟨rfl, rfl⟩
 clear hinv
 go_wp2_with fail
 refine (l11Scale_any p iv _ n c1 R0 w1 hp hp2 (by omega) HM1.out.rd HRN.out (by omega) (by omega)).mono ?_
 rw [HRS.out]
 rintro e w4 ⟨R, cr, rfl, hM4⟩
 have hB4 := HM1.out.b.trans (hM4.b.mono HM1.out.b.size)
 have HRO4 := Lib.hid (hM4.2.base (Nat.zero_le _))
 have hO4 : MkO w (w4.alloc (.cells #[] 24)) (some ⟨w4.heap.size, 0, none⟩) 0 0 [] := (MkII.empty hB4).o
 have HRO5 := Lib.hid (HRO4.out.below (zG.alloc (Nat.le_refl _) (.cells #[] 24)))
 have HRN := HRN2
 clear hM4 HM1 hcr hxr HRO4 HRN2 hB4 HRS
 go_wp2
 go_loopw [9, 10, 11] (fun out pl i wr => ∃ (j on : Nat) (OA : Option Addr) (oc : Nat), j ≤ d ∧ i = .int .i64 j ∧ out = .slice OA on oc ∧ pl = .bool (plcL p r q B j).2 ∧ Hid (Own wr 0 2 R n cr (ints r)) ∧ Hid (MkO w wr OA on oc (plcL p r q B j).1) ∧ Hid ((plcL p r q B j).1.length = on)) (fun _ _ i _ => d - (intOf i).toNat)
 case atStart => exact ⟨0, 0, _, _, by omega, rfl, rfl, rfl, HRO5, Lib.hid hO4, Lib.hid rfl⟩
 case round =>
  obtain ⟨j, on, OA, oc, hj, rfl, rfl, rfl, HRO, HO, HOL⟩ := hrel
  clear hO4 HRO5
  have hon : on ≤ 1000000 := by
   have := HO.out.rd.len
   have h2 := plcL_len p r q B j
   omega
  by_cases hlt : j < d
  · obtain ⟨g, o, rfl, hxj, Aj, cj, hcjw, hrj, hcapj⟩ := HA.out.rd.at_ hlt
    obtain ⟨hlj, hnj⟩ := HT.out _ (List.getElem_mem hxj)
    obtain ⟨row, hrow⟩ : ∃ z, z = B[j] := ⟨_, rfl⟩
    have HPL : Hid (∀ b, plcL p r q B j = b → plcL p r q B (j + 1) = if b.2 = false ∧ q < leadL row then (b.1 ++ [r] ++ [takeR p r q row], true) else (b.1 ++ [takeR p r q row], b.2)) := Lib.hid fun b hb => by
     subst hb
     have : B.getD j [] = row := by rw [getD_of_lt [] hxj, hrow]
     rw [← this]; rfl
    rw [← hrow] at hcjw hrj hcapj hlj hnj
    rw [hlj] at hcjw hrj
    obtain ⟨gj, oj, hAj, hxq, hcxw⟩ := hrj.int hqlt
    obtain ⟨xv, hxe⟩ : ∃ z, z = row[q] := ⟨_, rfl⟩
    obtain ⟨x1, x2⟩ := hnj _ (List.getElem_mem hxq)
    rw [← hxe] at hcxw x1 x2
    subst hAj
    have HTE : Hid (takeR p r q row = plusL p row (scaleL p r xv) (-1)) := Lib.hid (by unfold takeR; rw [hxe, getD_of_lt 0 hxq])
    have HRJw := Lib.hid hrj
    have HNJ := Lib.hid hnj
    have hf := l12First_any (some ⟨gj, oj, none⟩) n cj row wr (by omega) (hrj.below HO.out.b)
    have hcj : wr.cell? ⟨g, o + j, none⟩ = some (.slice (some ⟨gj, oj, none⟩) n cj) := (HO.out.b.cell (World.block_lt_of_cell? _ _ hcjw)).trans hcjw
    have hcx : wr.cell? ⟨gj, oj + q, none⟩ = some (.int .i64 xv) := (HO.out.b.cell (World.block_lt_of_cell? _ _ hcxw)).trans hcxw
    have HCJW := Lib.hid hcjw
    have HCXW := Lib.hid hcxw
    obtain ⟨lr, hlr⟩ : ∃ z, z = leadL row := ⟨_, rfl⟩
    rw [← hlr] at hf HPL
    obtain ⟨pl, hpl⟩ : ∃ z, z = plcL p r q B j := ⟨_, rfl⟩
    rw [← hpl] at HO HOL
    have HPS0 := Lib.hid (HPL.out pl hpl.symm)
    rw [← hpl]
    clear hrj hnj hrow hxe hxq hlj hcapj hlr HPL hpl hcjw hcxw HA HZE HT HBL
    obtain ⟨P1, P2⟩ := pl
    cases P2
    · by_cases hgt : q < lr
      · have HPS : Hid (plcL p r q B (j + 1) = (P1 ++ [r] ++ [takeR p r q row], true)) := Lib.hid (by rw [HPS0.out, if_pos ⟨rfl, hgt⟩])
        clear HPS0
        go_wp2_with fail
        refine hf.mono ?_
        rintro e w3 ⟨rfl, rfl⟩
        clear hf
        go_wp2_with (at_builtin; refine wpList_appRowO w wr rfl _ _ rfl OA on oc _ R n cr r HO.out HRO.out (by omega) rfl rfl ?_; intro A9 c9 w9 hM9 hg9 _)
        clear hcj hcx
        have hcj : w9.cell? ⟨g, o + j, none⟩ = some (.slice (some ⟨gj, oj, none⟩) n cj) := (hM9.b.cell (World.block_lt_of_cell? _ _ HCJW.out)).trans HCJW.out
        have hcx : w9.cell? ⟨gj, oj + q, none⟩ = some (.int .i64 xv) := (hM9.b.cell (World.block_lt_of_cell? _ _ HCXW.out)).trans HCXW.out
        have HRJ := Lib.hid (HRJw.out.below hM9.b)
        have HRO9 := Lib.hid (HO.out.keepOwn HRO.out hg9)
        have HO9 : Hid (MkO w w9 A9 (on + 1) c9 (P1 ++ [r])) := Lib.hid hM9
        have HOL9 : Hid ((P1 ++ [r]).length = on + 1) := Lib.hid (by rw [List.length_append, show P1.length = on from HOL.out]; rfl)
        clear HO HOL HRO hM9 hg9 HRJw HCJW HCXW
        go_wp2
        refine wp_obs 18 [[],[],[],[],[2,3],[2,3,4],[],[],[],[7,8],[7,8,9],[],[7,8,9,10,11],[7,8,9,10,11,12],[],[6,7,8,9,10,11,12,13,14],[1,2,3,4,5,6,7,8,9,10,11,12,13,14,15],[1,2,3,4,5,6,7,8,9,10,11,12,13,14,15,16],[0,1,2,3,4,5,6,7,8,9,10,11,12,13,14,15,16,17],[0,1,2,3,4,5,6,7,8,9,10,11,12,13,14,15,16,17,18]] [VIs (.slice A9 (on + 1) c9), VIs (.int .i64 (p)), VIs (.slice (some ⟨g, o, none⟩) d c), VIs (.int .i64 (j)), VIs (.pointer (some ⟨g, o + j, none⟩)), VIs (.slice (some ⟨gj, oj, none⟩) n cj), VIs (.int .i64 (p)), VIs (.slice (some ⟨g, o, none⟩) d c), VIs (.int .i64 (j)), VIs (.pointer (some ⟨g, o + j, none⟩)), VIs (.slice (some ⟨gj, oj, none⟩) n cj), VIs (.int .i64 (q)), VIs (.pointer (some ⟨gj, oj + q, none⟩)), VIs (.int .i64 (xv)), VIs (.slice R n cr), VSl w9 n (scaleL p r xv), VSl w9 n (takeR p r q row), VNew w9 n (takeR p r q row)] (fun w' => w'.cell? ⟨g, o + j, none⟩ = some (.slice (some ⟨gj, oj, none⟩) n cj) ∧ w'.cell? ⟨gj, oj + q, none⟩ = some (.int .i64 xv) ∧ Below w9.heap.size w9 w') (by kernel_rfl) (by kernel_rfl) (fun _ _ h hb => ⟨(hb.cell (World.block_lt_of_cell? _ _ h.1)).trans h.1, (hb.cell (World.block_lt_of_cell? _ _ h.2.1)).trans h.2.1, h.2.2.trans (hb.mono h.2.2.size)⟩) (⟨hcj, hcx, zG.drew⟩) (fun x => ?_)
        refine zS (fun w' hS hV K hK => ?_) ?_
        · have q1 := hS.1; have q2 := hS.2.1; go_simp; exact zO hK
        refine zS (fun w' hS hV K hK => ?_) ?_
        · have q1 := hS.1; have q2 := hS.2.1; go_simp; exact zO hK
        refine zS (fun w' hS hV K hK => ?_) ?_
        · have q1 := hS.1; have q2 := hS.2.1; go_simp; exact zO hK
        refine zS (fun w' hS hV K hK => ?_) ?_
        · have q1 := hS.1; have q2 := hS.2.1; go_simp; exact zO hK
        refine zS (fun w' hS hV K hK => ?_) ?_
        · have e2 := zQ hV 2; have e3 := zQ hV 3; have q1 := hS.1; have q2 := hS.2.1; go_simp; exact zO hK
        refine zS (fun w' hS hV K hK => ?_) ?_
        · have e4 := zQ hV 4; have q1 := hS.1; have q2 := hS.2.1; go_simp; exact zO hK
        refine zS (fun w' hS hV K hK => ?_) ?_
        · have q1 := hS.1; have q2 := hS.2.1; go_simp; exact zO hK
        refine zS (fun w' hS hV K hK => ?_) ?_
        · have q1 := hS.1; have q2 := hS.2.1; go_simp; exact zO hK
        refine zS (fun w' hS hV K hK => ?_) ?_
        · have q1 := hS.1; have q2 := hS.2.1; go_simp; exact zO hK
        refine zS (fun w' hS hV K hK => ?_) ?_
        · have e7 := zQ hV 7; have e8 := zQ hV 8; have q1 := hS.1; have q2 := hS.2.1; go_simp; exact zO hK
        refine zS (fun w' hS hV K hK => ?_) ?_
        · have e9 := zQ hV 9; have q1 := hS.1; have q2 := hS.2.1; go_simp; exact zO hK
        refine zS (fun w' hS hV K hK => ?_) ?_
        · have q1 := hS.1; have q2 := hS.2.1; go_simp; exact zO hK
        refine zS (fun w' hS hV K hK => ?_) ?_
        · have e10 := zQ hV 10; have e11 := zQ hV 11; have q1 := hS.1; have q2 := hS.2.1; go_simp; exact zO hK
        refine zS (fun w' hS hV K hK => ?_) ?_
        · have e12 := zQ hV 12; have q1 := hS.1; have q2 := hS.2.1; go_simp; exact zO hK
        refine zS (fun w' hS hV K hK => ?_) ?_
        · have q1 := hS.1; have q2 := hS.2.1; go_simp; exact zO hK
        refine zS (fun w' hS hV K hK => ?_) ?_
        · have e6 := zQ hV 6; have e13 := zQ hV 13; have e14 := zQ hV 14; have q1 := hS.1; have q2 := hS.2.1; go_simp; refine (l11Scale_any p xv R n cr r w' hp hp2 (by omega) (HRO9.out.rd.below hS.2.2) HRN.out x1 (by omega)).mono ?_; rintro e v1 ⟨A9, c9, rfl, hM⟩; exact hK.out _ _ _ rfl rfl ⟨_, _, rfl, hM.after hS.2.2⟩ hM.b
        refine zS (fun w' hS hV K hK => ?_) ?_
        · have e1 := zQ hV 1; have e5 := zQ hV 5; obtain ⟨A15, c15, e15, h15⟩ := hV 15 (by decide); have q1 := hS.1; have q2 := hS.2.1; go_simp; refine (l11Minus_any p _ n cj row A15 n c15 (scaleL p r xv) w' hp hp2 (by omega) (Nat.le_refl _) (HRJ.out.below hS.2.2) HNJ.out h15.rd (scaleL_nums (by omega) _ _)).mono ?_; rintro e v1 ⟨A9, c9, rfl, hM⟩; exact hK.out _ _ _ rfl rfl ⟨_, _, rfl, by rw [HTE.out]; exact hM.after hS.2.2⟩ hM.b
        refine zS (fun w' hS hV K hK => ?_) ?_
        · obtain ⟨A15, c15, e15, h15⟩ := hV 15 (by decide); obtain ⟨A16, c16, e16, h16⟩ := hV 16 (by decide); have q1 := hS.1; have q2 := hS.2.1; go_simp; exact hK.out _ _ _ rfl rfl ⟨_, _, _, rfl, Blk.new _ _ _, h16.below (zG.alloc (Nat.le_refl _) _)⟩ (zG.alloc (Nat.le_refl _) _)
        refine fun w' hS hV => ?_
        have e0 := zT hV 0
        have e1 := zT hV 1
        have e2 := zT hV 2
        have e3 := zT hV 3
        have e4 := zT hV 4
        have e5 := zT hV 5
        have e6 := zT hV 6
        have e7 := zT hV 7
        have e8 := zT hV 8
        have e9 := zT hV 9
        have e10 := zT hV 10
        have e11 := zT hV 11
        have e12 := zT hV 12
        have e13 := zT hV 13
        have e14 := zT hV 14
        obtain ⟨A15, c15, e15, h15⟩ := hV 15 (by decide)
        obtain ⟨A16, c16, e16, h16⟩ := hV 16 (by decide)
        obtain ⟨g17, A17, c17, e17, b17, h17⟩ := hV 17 (by decide)
        simp only [e0, e1, e2, e3, e4, e5, e6, e7, e8, e9, e10, e11, e12, e13, e14, e15, e16, e17]
        clear e0 e1 e2 e3 e4 e5 e6 e7 e8 e9 e10 e11 e12 e13 e14 e15 e16 e17
        obtain ⟨-, -, s2⟩ := hS
        refine any_plain (j := 18) (by kernel_rfl) (Eq.trans (by simp only [zA, zB, zC]; exact rfl) rfl) rfl (fun K hK => ?_)
        refine wp_appRowO w w' _ _ rfl A9 (on + 1) c9 _ A17 n c17 _ (HO9.out.below s2) (h17.2.base (Nat.zero_le _)) (by omega) g17 b17 (by rfl) (by rfl) ?_
        intro A20 c20 w20 hM20 hg20 hat20
        refine hK.out _ _ ?_
        simp only [Act.put, zD, zE, zF]
        refine any_one (j := 19) (by kernel_rfl) (Eq.trans (by simp only [zA, zB, zC]; exact rfl) rfl) (fun K hK => ?_)
        go_simp
        refine hK.out _ _ (wpAny_done (by kernel_rfl) ?_ _)
        have HRO2 := Lib.hid ((HO9.out.below s2).keepOwn (HRO9.out.below s2) hg20)
        clear hg20 hat20 HRO9
        go_wp2
        go_roundw
        case rel => exact ⟨j + 1, (on + 1) + 1, A20, c20, by omega, by go_num, rfl, by rw [HPS.out], HRO2, Lib.hid (by rw [HPS.out]; exact hM20), Lib.hid (by rw [HPS.out]; show ((P1 ++ [r]) ++ [_]).length = _; rw [List.length_append, show ((P1 ++ [r])).length = (on + 1) from HOL9.out]; rfl)⟩
        case measure => simp [intOf]; omega
      · have HPS : Hid (plcL p r q B (j + 1) = (P1 ++ [takeR p r q row], false)) := Lib.hid (by rw [HPS0.out, if_neg (fun h => hgt h.2)])
        clear HPS0
        go_wp2_with fail
        refine hf.mono ?_
        rintro e w3 ⟨rfl, rfl⟩
        have HRJ := Lib.hid (HRJw.out.below HO.out.b)
        clear hf HRJw HCJW HCXW
        go_wp2
        refine wp_obs 18 [[],[],[],[],[2,3],[2,3,4],[],[],[],[7,8],[7,8,9],[],[7,8,9,10,11],[7,8,9,10,11,12],[],[6,7,8,9,10,11,12,13,14],[1,2,3,4,5,6,7,8,9,10,11,12,13,14,15],[1,2,3,4,5,6,7,8,9,10,11,12,13,14,15,16],[0,1,2,3,4,5,6,7,8,9,10,11,12,13,14,15,16,17],[0,1,2,3,4,5,6,7,8,9,10,11,12,13,14,15,16,17,18]] [VIs (.slice OA on oc), VIs (.int .i64 (p)), VIs (.slice (some ⟨g, o, none⟩) d c), VIs (.int .i64 (j)), VIs (.pointer (some ⟨g, o + j, none⟩)), VIs (.slice (some ⟨gj, oj, none⟩) n cj), VIs (.int .i64 (p)), VIs (.slice (some ⟨g, o, none⟩) d c), VIs (.int .i64 (j)), VIs (.pointer (some ⟨g, o + j, none⟩)), VIs (.slice (some ⟨gj, oj, none⟩) n cj), VIs (.int .i64 (q)), VIs (.pointer (some ⟨gj, oj + q, none⟩)), VIs (.int .i64 (xv)), VIs (.slice R n cr), VSl wr n (scaleL p r xv), VSl wr n (takeR p r q row), VNew wr n (takeR p r q row)] (fun w' => w'.cell? ⟨g, o + j, none⟩ = some (.slice (some ⟨gj, oj, none⟩) n cj) ∧ w'.cell? ⟨gj, oj + q, none⟩ = some (.int .i64 xv) ∧ Below wr.heap.size wr w') (by kernel_rfl) (by kernel_rfl) (fun _ _ h hb => ⟨(hb.cell (World.block_lt_of_cell? _ _ h.1)).trans h.1, (hb.cell (World.block_lt_of_cell? _ _ h.2.1)).trans h.2.1, h.2.2.trans (hb.mono h.2.2.size)⟩) (⟨hcj, hcx, zG.drew⟩) (fun x => ?_)
        refine zS (fun w' hS hV K hK => ?_) ?_
        · have q1 := hS.1; have q2 := hS.2.1; go_simp; exact zO hK
        refine zS (fun w' hS hV K hK => ?_) ?_
        · have q1 := hS.1; have q2 := hS.2.1; go_simp; exact zO hK
        refine zS (fun w' hS hV K hK => ?_) ?_
        · have q1 := hS.1; have q2 := hS.2.1; go_simp; exact zO hK
        refine zS (fun w' hS hV K hK => ?_) ?_
        · have q1 := hS.1; have q2 := hS.2.1; go_simp; exact zO hK
        refine zS (fun w' hS hV K hK => ?_) ?_
        · have e2 := zQ hV 2; have e3 := zQ hV 3; have q1 := hS.1; have q2 := hS.2.1; go_simp; exact zO hK
        refine zS (fun w' hS hV K hK => ?_) ?_
        · have e4 := zQ hV 4; have q1 := hS.1; have q2 := hS.2.1; go_simp; exact zO hK
        refine zS (fun w' hS hV K hK => ?_) ?_
        · have q1 := hS.1; have q2 := hS.2.1; go_simp; exact zO hK
        refine zS (fun w' hS hV K hK => ?_) ?_
        · have q1 := hS.1; have q2 := hS.2.1; go_simp; exact zO hK
        refine zS (fun w' hS hV K hK => ?_) ?_
        · have q1 := hS.1; have q2 := hS.2.1; go_simp; exact zO hK
        refine zS (fun w' hS hV K hK => ?_) ?_
        · have e7 := zQ hV 7; have e8 := zQ hV 8; have q1 := hS.1; have q2 := hS.2.1; go_simp; exact zO hK
        refine zS (fun w' hS hV K hK => ?_) ?_
        · have e9 := zQ hV 9; have q1 := hS.1; have q2 := hS.2.1; go_simp; exact zO hK
        refine zS (fun w' hS hV K hK => ?_) ?_
        · have q1 := hS.1; have q2 := hS.2.1; go_simp; exact zO hK
        refine zS (fun w' hS hV K hK => ?_) ?_
        · have e10 := zQ hV 10; have e11 := zQ hV 11; have q1 := hS.1; have q2 := hS.2.1; go_simp; exact zO hK
        refine zS (fun w' hS hV K hK => ?_) ?_
        · have e12 := zQ hV 12; have q1 := hS.1; have q2 := hS.2.1; go_simp; exact zO hK
        refine zS (fun w' hS hV K hK => ?_) ?_
        · have q1 := hS.1; have q2 := hS.2.1; go_simp; exact zO hK
        refine zS (fun w' hS hV K hK => ?_) ?_
        · have e6 := zQ hV 6; have e13 := zQ hV 13; have e14 := zQ hV 14; have q1 := hS.1; have q2 := hS.2.1; go_simp; refine (l11Scale_any p xv R n cr r w' hp hp2 (by omega) (HRO.out.rd.below hS.2.2) HRN.out x1 (by omega)).mono ?_; rintro e v1 ⟨A9, c9, rfl, hM⟩; exact hK.out _ _ _ rfl rfl ⟨_, _, rfl, hM.after hS.2.2⟩ hM.b
        refine zS (fun w' hS hV K hK => ?_) ?_
        · have e1 := zQ hV 1; have e5 := zQ hV 5; obtain ⟨A15, c15, e15, h15⟩ := hV 15 (by decide); have q1 := hS.1; have q2 := hS.2.1; go_simp; refine (l11Minus_any p _ n cj row A15 n c15 (scaleL p r xv) w' hp hp2 (by omega) (Nat.le_refl _) (HRJ.out.below hS.2.2) HNJ.out h15.rd (scaleL_nums (by omega) _ _)).mono ?_; rintro e v1 ⟨A9, c9, rfl, hM⟩; exact hK.out _ _ _ rfl rfl ⟨_, _, rfl, by rw [HTE.out]; exact hM.after hS.2.2⟩ hM.b
        refine zS (fun w' hS hV K hK => ?_) ?_
        · obtain ⟨A15, c15, e15, h15⟩ := hV 15 (by decide); obtain ⟨A16, c16, e16, h16⟩ := hV 16 (by decide); have q1 := hS.1; have q2 := hS.2.1; go_simp; exact hK.out _ _ _ rfl rfl ⟨_, _, _, rfl, Blk.new _ _ _, h16.below (zG.alloc (Nat.le_refl _) _)⟩ (zG.alloc (Nat.le_refl _) _)
        refine fun w' hS hV => ?_
        have e0 := zT hV 0
        have e1 := zT hV 1
        have e2 := zT hV 2
        have e3 := zT hV 3
        have e4 := zT hV 4
        have e5 := zT hV 5
        have e6 := zT hV 6
        have e7 := zT hV 7
        have e8 := zT hV 8
        have e9 := zT hV 9
        have e10 := zT hV 10
        have e11 := zT hV 11
        have e12 := zT hV 12
        have e13 := zT hV 13
        have e14 := zT hV 14
        obtain ⟨A15, c15, e15, h15⟩ := hV 15 (by decide)
        obtain ⟨A16, c16, e16, h16⟩ := hV 16 (by decide)
        obtain ⟨g17, A17, c17, e17, b17, h17⟩ := hV 17 (by decide)
        simp only [e0, e1, e2, e3, e4, e5, e6, e7, e8, e9, e10, e11, e12, e13, e14, e15, e16, e17]
        clear e0 e1 e2 e3 e4 e5 e6 e7 e8 e9 e10 e11 e12 e13 e14 e15 e16 e17
        obtain ⟨-, -, s2⟩ := hS
        refine any_plain (j := 18) (by kernel_rfl) (Eq.trans (by simp only [zA, zB, zC]; exact rfl) rfl) rfl (fun K hK => ?_)
        refine wp_appRowO w w' _ _ rfl OA on oc _ A17 n c17 _ (HO.out.below s2) (h17.2.base (Nat.zero_le _)) (by omega) g17 b17 (by rfl) (by rfl) ?_
        intro A20 c20 w20 hM20 hg20 hat20
        refine hK.out _ _ ?_
        simp only [Act.put, zD, zE, zF]
        refine any_one (j := 19) (by kernel_rfl) (Eq.trans (by simp only [zA, zB, zC]; exact rfl) rfl) (fun K hK => ?_)
        go_simp
        refine hK.out _ _ (wpAny_done (by kernel_rfl) ?_ _)
        have HRO2 := Lib.hid ((HO.out.below s2).keepOwn (HRO.out.below s2) hg20)
        clear hg20 hat20 HRO
        go_wp2
        go_roundw
        case rel => exact ⟨j + 1, on + 1, A20, c20, by omega, by go_num, rfl, by rw [HPS.out], HRO2, Lib.hid (by rw [HPS.out]; exact hM20), Lib.hid (by rw [HPS.out]; show (P1 ++ [_]).length = _; rw [List.length_append, show (P1).length = on from HOL.out]; rfl)⟩
        case measure => simp [intOf]; omega
    · have HPS : Hid (plcL p r q B (j + 1) = (P1 ++ [takeR p r q row], true)) := Lib.hid (by rw [HPS0.out, if_neg (fun h => by cases h.1)])
      have HRJ := Lib.hid (HRJw.out.below HO.out.b)
      clear HPS0 hf HRJw HCJW HCXW
      go_wp2
      refine wp_obs 18 [[],[],[],[],[2,3],[2,3,4],[],[],[],[7,8],[7,8,9],[],[7,8,9,10,11],[7,8,9,10,11,12],[],[6,7,8,9,10,11,12,13,14],[1,2,3,4,5,6,7,8,9,10,11,12,13,14,15],[1,2,3,4,5,6,7,8,9,10,11,12,13,14,15,16],[0,1,2,3,4,5,6,7,8,9,10,11,12,13,14,15,16,17],[0,1,2,3,4,5,6,7,8,9,10,11,12,13,14,15,16,17,18]] [VIs (.slice OA on oc), VIs (.int .i64 (p)), VIs (.slice (some ⟨g, o, none⟩) d c), VIs (.int .i64 (j)), VIs (.pointer (some ⟨g, o + j, none⟩)), VIs (.slice (some ⟨gj, oj, none⟩) n cj), VIs (.int .i64 (p)), VIs (.slice (some ⟨g, o, none⟩) d c), VIs (.int .i64 (j)), VIs (.pointer (some ⟨g, o + j, none⟩)), VIs (.slice (some ⟨gj, oj, none⟩) n cj), VIs (.int .i64 (q)), VIs (.pointer (some ⟨gj, oj + q, none⟩)), VIs (.int .i64 (xv)), VIs (.slice R n cr), VSl wr n (scaleL p r xv), VSl wr n (takeR p r q row), VNew wr n (takeR p r q row)] (fun w' => w'.cell? ⟨g, o + j, none⟩ = some (.slice (some ⟨gj, oj, none⟩) n cj) ∧ w'.cell? ⟨gj, oj + q, none⟩ = some (.int .i64 xv) ∧ Below wr.heap.size wr w') (by kernel_rfl) (by kernel_rfl) (fun _ _ h hb => ⟨(hb.cell (World.block_lt_of_cell? _ _ h.1)).trans h.1, (hb.cell (World.block_lt_of_cell? _ _ h.2.1)).trans h.2.1, h.2.2.trans (hb.mono h.2.2.size)⟩) (⟨hcj, hcx, zG.drew⟩) (fun x => ?_)
      refine zS (fun w' hS hV K hK => ?_) ?_
      · have q1 := hS.1; have q2 := hS.2.1; go_simp; exact zO hK
      refine zS (fun w' hS hV K hK => ?_) ?_
      · have q1 := hS.1; have q2 := hS.2.1; go_simp; exact zO hK
      refine zS (fun w' hS hV K hK => ?_) ?_
      · have q1 := hS.1; have q2 := hS.2.1; go_simp; exact zO hK
      refine zS (fun w' hS hV K hK => ?_) ?_
      · have q1 := hS.1; have q2 := hS.2.1; go_simp; exact zO hK
      refine zS (fun w' hS hV K hK => ?_) ?_
      · have e2 := zQ hV 2; have e3 := zQ hV 3; have q1 := hS.1; have q2 := hS.2.1; go_simp; exact zO hK
      refine zS (fun w' hS hV K hK => ?_) ?_
      · have e4 := zQ hV 4; have q1 := hS.1; have q2 := hS.2.1; go_simp; exact zO hK
      refine zS (fun w' hS hV K hK => ?_) ?_
      · have q1 := hS.1; have q2 := hS.2.1; go_simp; exact zO hK
      refine zS (fun w' hS hV K hK => ?_) ?_
      · have q1 := hS.1; have q2 := hS.2.1; go_simp; exact zO hK
      refine zS (fun w' hS hV K hK => ?_) ?_
      · have q1 := hS.1; have q2 := hS.2.1; go_simp; exact zO hK
      refine zS (fun w' hS hV K hK => ?_) ?_
      · have e7 := zQ hV 7; have e8 := zQ hV 8; have q1 := hS.1; have q2 := hS.2.1; go_simp; exact zO hK
      refine zS (fun w' hS hV K hK => ?_) ?_
      · have e9 := zQ hV 9; have q1 := hS.1; have q2 := hS.2.1; go_simp; exact zO hK
      refine zS (fun w' hS hV K hK => ?_) ?_
      · have q1 := hS.1; have q2 := hS.2.1; go_simp; exact zO hK
      refine zS (fun w' hS hV K hK => ?_) ?_
      · have e10 := zQ hV 10; have e11 := zQ hV 11; have q1 := hS.1; have q2 := hS.2.1; go_simp; exact zO hK
      refine zS (fun w' hS hV K hK => ?_) ?_
      · have e12 := zQ hV 12; have q1 := hS.1; have q2 := hS.2.1; go_simp; exact zO hK
      refine zS (fun w' hS hV K hK => ?_) ?_
      · have q1 := hS.1; have q2 := hS.2.1; go_simp; exact zO hK
      refine zS (fun w' hS hV K hK => ?_) ?_
      · have e6 := zQ hV 6; have e13 := zQ hV 13; have e14 := zQ hV 14; have q1 := hS.1; have q2 := hS.2.1; go_simp; refine (l11Scale_any p xv R n cr r w' hp hp2 (by omega) (HRO.out.rd.below hS.2.2) HRN.out x1 (by omega)).mono ?_; rintro e v1 ⟨A9, c9, rfl, hM⟩; exact hK.out _ _ _ rfl rfl ⟨_, _, rfl, hM.after hS.2.2⟩ hM.b
      refine zS (fun w' hS hV K hK => ?_) ?_
      · have e1 := zQ hV 1; have e5 := zQ hV 5; obtain ⟨A15, c15, e15, h15⟩ := hV 15 (by decide); have q1 := hS.1; have q2 := hS.2.1; go_simp; refine (l11Minus_any p _ n cj row A15 n c15 (scaleL p r xv) w' hp hp2 (by omega) (Nat.le_refl _) (HRJ.out.below hS.2.2) HNJ.out h15.rd (scaleL_nums (by omega) _ _)).mono ?_; rintro e v1 ⟨A9, c9, rfl, hM⟩; exact hK.out _ _ _ rfl rfl ⟨_, _, rfl, by rw [HTE.out]; exact hM.after hS.2.2⟩ hM.b
      refine zS (fun w' hS hV K hK => ?_) ?_
      · obtain ⟨A15, c15, e15, h15⟩ := hV 15 (by decide); obtain ⟨A16, c16, e16, h16⟩ := hV 16 (by decide); have q1 := hS.1; have q2 := hS.2.1; go_simp; exact hK.out _ _ _ rfl rfl ⟨_, _, _, rfl, Blk.new _ _ _, h16.below (zG.alloc (Nat.le_refl _) _)⟩ (zG.alloc (Nat.le_refl _) _)
      refine fun w' hS hV => ?_
      have e0 := zT hV 0
      have e1 := zT hV 1
      have e2 := zT hV 2
      have e3 := zT hV 3
      have e4 := zT hV 4
      have e5 := zT hV 5
      have e6 := zT hV 6
      have e7 := zT hV 7
      have e8 := zT hV 8
      have e9 := zT hV 9
      have e10 := zT hV 10
      have e11 := zT hV 11
      have e12 := zT hV 12
      have e13 := zT hV 13
      have e14 := zT hV 14
      obtain ⟨A15, c15, e15, h15⟩ := hV 15 (by decide)
      obtain ⟨A16, c16, e16, h16⟩ := hV 16 (by decide)
      obtain ⟨g17, A17, c17, e17, b17, h17⟩ := hV 17 (by decide)
      simp only [e0, e1, e2, e3, e4, e5, e6, e7, e8, e9, e10, e11, e12, e13, e14, e15, e16, e17]
      clear e0 e1 e2 e3 e4 e5 e6 e7 e8 e9 e10 e11 e12 e13 e14 e15 e16 e17
      obtain ⟨-, -, s2⟩ := hS
      refine any_plain (j := 18) (by kernel_rfl) (Eq.trans (by simp only [zA, zB, zC]; exact rfl) rfl) rfl (fun K hK => ?_)
      refine wp_appRowO w w' _ _ rfl OA on oc _ A17 n c17 _ (HO.out.below s2) (h17.2.base (Nat.zero_le _)) (by omega) g17 b17 (by rfl) (by rfl) ?_
      intro A20 c20 w20 hM20 hg20 hat20
      refine hK.out _ _ ?_
      simp only [Act.put, zD, zE, zF]
      refine any_one (j := 19) (by kernel_rfl) (Eq.trans (by simp only [zA, zB, zC]; exact rfl) rfl) (fun K hK => ?_)
      go_simp
      refine hK.out _ _ (wpAny_done (by kernel_rfl) ?_ _)
      have HRO2 := Lib.hid ((HO.out.below s2).keepOwn (HRO.out.below s2) hg20)
      clear hg20 hat20 HRO
      go_wp2
      go_roundw
      case rel => exact ⟨j + 1, on + 1, A20, c20, by omega, by go_num, rfl, by rw [HPS.out], HRO2, Lib.hid (by rw [HPS.out]; exact hM20), Lib.hid (by rw [HPS.out]; show (P1 ++ [_]).length = _; rw [List.length_append, show (P1).length = on from HOL.out]; rfl)⟩
      case measure => simp [intOf]; omega
  · obtain rfl : j = d := by omega
    obtain ⟨pl, hpl⟩ : ∃ z, z = plcL p r q B j := ⟨_, rfl⟩
    rw [← hpl] at HO HOL HZE ⊢
    obtain ⟨P1, P2⟩ := pl
    have HB4 := Lib.hid HO.out.b
    have HA2 := Lib.hid (HA.out.b)
    clear hpl
    cases P2
    · have HZ2 : Hid (Z = P1 ++ [r]) := Lib.hid (by rw [HZE.out]; rfl)
      go_wp2_with (at_builtin; refine wpList_appRowO w wr rfl _ _ rfl OA on oc _ R n cr r HO.out HRO.out (by omega) rfl rfl ?_; intro A9 c9 w9 hM9 hg9 _)
      go_ret
      refine ⟨A9, c9, ?_, ?_, hM9.b⟩
      · rw [HZ2.out, List.length_append, show P1.length = on from HOL.out]; rfl
      · rw [HZ2.out, List.length_append, show P1.length = on from HOL.out]; exact hM9.after HA2.out
    · have HZ2 : Hid (Z = P1) := Lib.hid (by rw [HZE.out]; rfl)
      go_wp2
      go_ret
      refine ⟨OA, oc, ?_, ?_, HB4.out⟩
      · rw [HZ2.out, show P1.length = on from HOL.out]; rfl
      · rw [HZ2.out, show P1.length = on from HOL.out]; exact HO.out.after HA2.out
set_option maxHeartbeats 1600000 in
set_option maxRecDepth 8000 in
theorem l12Reduced_any (p : Int) (A : Option Addr) (r0 c : Nat) (M : List (List Int)) (n : Nat) (w : World) (HP : isP p = true) (hn : n ≤ 65535) (hr0 : r0 ≤ 1048576) (ha : RdII w A r0 M) (hT : Tab p n M) :
    Calls Tryz.prog 146 #[.int .i64 p, .slice A r0 c] w fun e w' => ∃ A' c', e = .returned (.slice A' (basisL p M).length c') ∧ MkO w w' A' (basisL p M).length c' (basisL p M) := by
 have hMl := ha.len
 have HT := Lib.hid hT
 have HML := Lib.hid hMl
 have HRS : Hid (∀ k, k ≤ r0 → Red n (redTo p M k) ∧ Tab p n (redTo p M k)) := Lib.hid fun k hk => by
  obtain ⟨h1, h2, -⟩ := redTo_spec HP hT k (by omega)
  exact ⟨h1, h2⟩
 have HE : Hid (basisL p M = redTo p M r0) := Lib.hid (by rw [← red_basis HP hT, hMl])
 have hO : MkO w (w.alloc (.cells #[] 24)) (some ⟨w.heap.size, 0, none⟩) 0 0 [] := (MkII.empty zG).o
 clear hMl hT
 go_enter Tryz.func146, Tryz.ntmps146
 go_wp2
 go_loopw [5, 6] (fun out i wr => ∃ (j on : Nat) (OA : Option Addr) (oc : Nat), j ≤ r0 ∧ i = .int .i64 j ∧ out = .slice OA on oc ∧ Hid (MkO w wr OA on oc (redTo p M j)) ∧ Hid ((redTo p M j).length = on)) (fun _ i _ => r0 - (intOf i).toNat)
 case atStart => exact ⟨0, 0, _, _, by omega, rfl, rfl, Lib.hid hO, Lib.hid rfl⟩
 case round =>
  obtain ⟨j, on, OA, oc, hj, rfl, rfl, HO, HOL⟩ := hrel
  clear hO
  by_cases hlt : j < r0
  · obtain ⟨g, o, rfl, hxj, Aj, cj, hcj, hrj, -⟩ := (ha.below HO.out.b).at_ hlt
    obtain ⟨hlj, hnj⟩ := HT.out _ (List.getElem_mem hxj)
    obtain ⟨hR, hTT⟩ := HRS.out j hj
    have hput := l12Put_any p w OA on oc (redTo p M j) Aj n cj M[j] wr HP hn HO.out hTT hR (by rw [hlj] at hrj; exact hrj) hnj
    rw [show putL p (redTo p M j) M[j] = redTo p M (j + 1) by rw [redTo_succ hxj, getD_of_lt [] hxj]] at hput
    rw [hlj] at hcj
    have HPUT := Lib.hid hput
    clear hput hR hTT hrj hnj hlj ha
    go_wp2_with fail
    refine HPUT.out.mono ?_
    rintro e w1 ⟨A1, c1, rfl, hM1, hb1⟩
    go_wp2
    go_roundw
    case rel => exact ⟨j + 1, _, A1, c1, by omega, by go_num, rfl, Lib.hid hM1, Lib.hid rfl⟩
    case measure => simp [intOf]; omega
  · obtain rfl : j = r0 := by omega
    go_wp2
    go_ret
    rw [HE.out, HOL.out]
    exact ⟨_, _, rfl, HO.out⟩
set_option maxHeartbeats 6400000 in
set_option maxRecDepth 8000 in
theorem l12Kernel_any (p : Int) (A : Option Addr) (r0 c : Nat) (M : List (List Int)) (n : Nat) (w : World) (HP : isP p = true) (hn : n ≤ 65535) (hr0 : r0 ≤ 1048576) (ha : RdII w A r0 M) (hT : Tab p n M) :
    Calls Tryz.prog 104 #[.int .i64 p, .int .i64 n, .slice A r0 c] w fun e w' => ∃ A' c', e = .returned (.slice A' (kernL p M n).length c') ∧ MkO w w' A' (kernL p M n).length c' (kernL p M n) := by
 obtain ⟨hp3, hp2⟩ := isP_ge HP
 have hp : 2 ≤ p := by omega
 have hbas := l12Reduced_any p A r0 c M n w HP hn hr0 ha hT
 have hred := basisL_red HP M hT
 have htab := basisL_tab (p := p) (by omega) M hT
 have HKL : Hid (kernL p M n = basisL p (freeTo p (basisL p M) n n)) := Lib.hid rfl
 have hdl := hred.len
 obtain ⟨B, hB⟩ : ∃ B, B = basisL p M := ⟨_, rfl⟩
 rw [← hB] at hbas hred htab hdl HKL
 have HRED := Lib.hid hred
 have HTAB := Lib.hid htab
 have HP' := Lib.hid HP
 obtain ⟨d, hd⟩ : ∃ d, d = B.length := ⟨_, rfl⟩
 rw [← hd] at hbas hdl
 have HD := Lib.hid hd
 clear hB hT ha hred htab HP hd
 go_enter Tryz.func104, Tryz.ntmps104
 go_wp2_with fail
 refine hbas.mono ?_
 rintro e wb ⟨A7, c7, rfl, hM7⟩
 have HB7 := Lib.hid hM7
 clear hM7 hbas
 have hlo : Own ((wb.alloc (.cells #[] 24)).alloc (.cells #[] 2)) wb.heap.size 24 (some ⟨wb.heap.size, 0, none⟩) 0 0 [] := by
  have := (Mk.lit (E := 24) (Below.refl wb.heap.size wb) #[] (by simp)).alloc (.cells #[] 2)
  exact this.2
 have hP0' : MkI wb ((wb.alloc (.cells #[] 24)).alloc (.cells #[] 2)) (some ⟨wb.heap.size + 1, 0, none⟩) 0 0 (tab 0 fun i => ((ld B i : Nat) : Int)) := by
  have := Mk.lit (E := 2) (w0 := wb) (w := wb.alloc (.cells #[] 24)) (zG.alloc (Nat.le_refl _) _) #[] (by simp)
  simpa [MkI, ints, tab] using this
 go_wp2
 obtain ⟨w2, hw2⟩ : ∃ W, W = (wb.alloc (.cells #[] 24)).alloc (.cells #[] 2) := ⟨_, rfl⟩
 rw [← hw2] at hP0' hlo ⊢
 clear hw2
 go_loopw [9, 10] (fun pv i wr => ∃ (j : Nat) (A' : Option Addr) (c' : Nat), j ≤ d ∧ i = .int .i64 j ∧ pv = .slice A' j c' ∧ MkI wb wr A' j c' (tab j fun i => ((ld B i : Nat) : Int)) ∧ Own wr wb.heap.size 24 (some ⟨wb.heap.size, 0, none⟩) 0 0 []) (fun _ i _ => d - (intOf i).toNat)
 case atStart => exact ⟨0, _, _, by omega, rfl, rfl, hP0', hlo⟩
 case round =>
  obtain ⟨j, A', c', hj, rfl, rfl, hM, hlo2⟩ := hrel
  clear hP0' hlo
  have HLO := Lib.hid hlo2
  clear hlo2
  by_cases hlj : j < d
  · obtain ⟨g7, o7, rfl, hxj, Aj, cj, hcj, hrj, -⟩ := (HB7.out.rd.below hM.b).at_ hlj
    have HRJ := Lib.hid (HTAB.out B[j] (List.getElem_mem hxj))
    have hl := HRJ.out.1
    rw [hl] at hcj hrj
    have hlead := l12First_any Aj n cj B[j] wr (by omega) hrj
    rw [show leadL B[j] = ld B j by unfold ld; rw [getD_of_lt [] hxj]] at hlead
    have HV : Hid ((tab (j + 1) fun i => ((ld B i : Nat) : Int)) = (tab j fun i => ((ld B i : Nat) : Int)) ++ [((ld B j : Nat) : Int)]) := Lib.hid (tab_succ _ _)
    obtain ⟨l, hl'⟩ : ∃ l, l = ld B j := ⟨_, rfl⟩
    rw [← hl'] at hlead HV
    have HM := Lib.hid hM
    have hl4 : l ≤ 65535 := by rw [hl']; have := HRED.out.lt j (by rw [← HD.out]; exact hlj); omega
    clear hl hl' hrj hM HRJ
    go_wp2_with (first
     | (go_at_call 91; refine hlead.mono ?_; rintro e w' ⟨rfl, rfl⟩)
     | (at_builtin; refine wpList_app1 wb _ 24 2 _ _ Tryz.underlying24 info_i rfl (by omega) rfl _ _ rfl A' j c' _ _ HM.out (by omega) rfl rfl rfl ?_; intro A4 c4 w4 hM4 hg4 _))
    go_roundw
    case rel => exact ⟨j + 1, A4, c4, by omega, by go_num, rfl, by rw [HV.out]; simpa [MkI, ints] using hM4, HLO.out.grown hg4 (HLO.out.ne HM.out.2 (by decide))⟩
    case measure => simp [intOf]; omega
  · obtain rfl : j = d := by omega
    have HPV := Lib.hid hM
    have HCON : Hid (∀ f : Nat, (tab j fun i => ((ld B i : Nat) : Int)).contains (f : Int) = isLd B f) := Lib.hid (fun f => by rw [HD.out]; exact lds_contains B f)
    have hM0 : MkII wb wr (some ⟨wb.heap.size, 0, none⟩) 0 0 (freeTo p B n 0) := ⟨[], ⟨hM.b, HLO.out⟩, Nest.nil _ _⟩
    have hpo : Own wr wb.heap.size 2 A' j c' (ints (tab j fun i => ((ld B i : Nat) : Int))) := hM.2
    have hmk := make_i (P := Tryz.prog) 24 2 Tryz.underlying24 info_i n (by omega)
    clear hM
    go_wp2
    go_loopw [8, 11] (fun out i wr => ∃ (f q : Nat) (A2 : Option Addr) (c2 : Nat), f ≤ n ∧ q ≤ f ∧ i = .int .i64 f ∧ out = .slice A2 q c2 ∧ MkII wb wr A2 q c2 (freeTo p B n f) ∧ Own wr wb.heap.size 2 A' j c' (ints (tab j fun i => ((ld B i : Nat) : Int)))) (fun _ i _ => n - (intOf i).toNat)
    case atStart => exact ⟨0, 0, _, _, by omega, by omega, rfl, rfl, hM0, hpo⟩
    case round =>
     obtain ⟨f, q, A2, c2, hf, hq, rfl, rfl, hM, hpo2⟩ := hrel
     clear hM0 hpo
     obtain ⟨wo, rfl⟩ : ∃ W, W = wr := ⟨_, rfl⟩
     have HM := Lib.hid hM
     have HPO := Lib.hid hpo2
     clear hM hpo2
     by_cases hlf : f < n
     · cases hlb : isLd B f
       · have hhas := l01Has_b A' j c' (tab j fun i => ((ld B i : Nat) : Int)) (f : Int) wo (by omega) (Own.rd HPO.out) ((HCON.out f).trans hlb)
         have hm1 := Mk.made (E := 2) (n := n) (z := .int .i64 0) (Below.refl wo.heap.size wo) (by simp only [maxLen]; omega)
         rw [ints_replicate] at hm1
         obtain ⟨u1, hc1⟩ := hm1.2.cellI hlf
         have hf1 := hm1.2.frozen_ f
         have hm2 := (hm1.set f (.int .i64 1)).1
         rw [ints_set, World.setCell_alloc_at _ _ _ _ _ rfl] at hm2
         have hm3 := hm2
         rw [show (List.replicate n (0 : Int)).set f 1 = freePart p B n f (leftFrom B 0) from (freePart_start p B n f hlf (leftFrom B 0) (fun k _ hk => leftFrom_zero HRED.out hk)).symm] at hm3
         clear hm1 hm2
         go_wp2_with (go_at_call 147; refine hhas.mono ?_; rintro e w' ⟨rfl, rfl⟩)
         go_loopw [13] (fun i wr => ∃ k : Nat, k ≤ j ∧ i = .int .i64 k ∧ MkI wo wr (some ⟨wo.heap.size, 0, none⟩) n n (freePart p B n f (leftFrom B k))) (fun i _ => j - (intOf i).toNat)
         case atStart => exact ⟨0, by omega, rfl, hm3⟩
         case round =>
          obtain ⟨k, hk, rfl, hmv⟩ := hrel
          clear hm3 hc1 hf1 hhas
          have HMV := Lib.hid hmv
          clear hmv
          by_cases hlk : k < j
          · have hbo := HM.out.b.trans (HMV.out.b.mono HM.out.b.size)
            obtain ⟨g7, o7, rfl, hxl, Ai, ci, hci, hri, -⟩ := (HB7.out.rd.below hbo).at_ hlk
            have HRI := Lib.hid (HTAB.out B[k] (List.getElem_mem hxl))
            have hl := HRI.out.1
            rw [hl] at hci hri
            obtain ⟨gi, oi, rfl, hxe, hce⟩ := hri.int hlf
            have HE : Hid (ent B k f = B[k][f]) := Lib.hid (ent_at hxl hxe)
            obtain ⟨y, hy⟩ : ∃ y, y = B[k][f] := ⟨_, rfl⟩
            have hyb : 0 ≤ y ∧ y < p := hy ▸ HRI.out.2 _ (List.getElem_mem hxe)
            rw [← hy] at hce HE
            have hld := HRED.out.lt k (by rw [← HD.out]; exact hlk)
            obtain ⟨gp, op, rfl, hxp, hcp⟩ := ((Own.rd HPO.out).below HMV.out.b).int hlk
            have hep : (tab j fun i => ((ld B i : Nat) : Int))[k] = ((ld B k : Nat) : Int) := tab_get j _ k hxp
            rw [hep] at hcp
            have HST : Hid ((freePart p B n f (leftFrom B k)).set (ld B k) ((-y) % p) = freePart p B n f (leftFrom B (k + 1))) := Lib.hid (by
             rw [← HE.out, freePart_step HRED.out (by rw [← HD.out]; exact hlk) hlb]
             exact freePart_congr p B n f (fun k' _ => leftFrom_succ HRED.out (by rw [← HD.out]; exact hlk) k'))
            have hwy := i64_small (x := -y) (by omega) (by omega)
            obtain ⟨l, hl'⟩ : ∃ l, l = ld B k := ⟨_, rfl⟩
            rw [← hl'] at hcp HST hld
            have hmod := fun w' => l01Mod_any p (-y) w' (by omega) hp2 (by omega) (by omega)
            obtain ⟨ym, hym⟩ : ∃ z, z = (-y) % p := ⟨_, rfl⟩
            rw [← hym] at hmod HST
            clear hl hl' hy hri HRI hxl hxe hxp hep hbo hym
            go_wp2
            refine wp_obs 16 [[],[],[],[1,2],[1,2,3],[],[],[],[6,7],[6,7,8],[],[6,7,8,9,10],[6,7,8,9,10,11],[6,7,8,9,10,11,12],[5,6,7,8,9,10,11,12,13],[0,1,2,3,4],[0,1,2,3,4,5,6,7,8,9,10,11,12,13,14,15]] [VIs (.slice (some ⟨wo.heap.size, 0, none⟩) n n), VIs (.slice (some ⟨gp, op, none⟩) j c'), VIs (.int .i64 (k)), VIs (.pointer (some ⟨gp, op + k, none⟩)), VIs (.int .i64 (l)), VIs (.int .i64 (p)), VIs (.slice (some ⟨g7, o7, none⟩) j c7), VIs (.int .i64 (k)), VIs (.pointer (some ⟨g7, o7 + k, none⟩)), VIs (.slice (some ⟨gi, oi, none⟩) n ci), VIs (.int .i64 (f)), VIs (.pointer (some ⟨gi, oi + f, none⟩)), VIs (.int .i64 (y)), VIs (.int .i64 (-y)), VIs (.int .i64 (ym)), VIs (.pointer (some ⟨wo.heap.size, l, none⟩))] (fun w' => w'.cell? ⟨gp, op + k, none⟩ = some (.int .i64 l) ∧ w'.cell? ⟨g7, o7 + k, none⟩ = some (.slice (some ⟨gi, oi, none⟩) n ci) ∧ w'.cell? ⟨gi, oi + f, none⟩ = some (.int .i64 y) ∧ Below wr.heap.size wr w') (by kernel_rfl) (by kernel_rfl) (fun _ _ h hb => keepR3 h hb (Nat.le_refl _)) (⟨hcp, hci, hce, zG.drew⟩) (fun x => ?_)
            refine zS (fun w' hS hV K hK => ?_) ?_
            · have q0 := hS.1; have q1 := hS.2.1; have q2 := hS.2.2.1; have q3 := hS.2.2.2; go_simp; exact zO hK
            refine zS (fun w' hS hV K hK => ?_) ?_
            · have q0 := hS.1; have q1 := hS.2.1; have q2 := hS.2.2.1; have q3 := hS.2.2.2; go_simp; exact zO hK
            refine zS (fun w' hS hV K hK => ?_) ?_
            · have q0 := hS.1; have q1 := hS.2.1; have q2 := hS.2.2.1; have q3 := hS.2.2.2; go_simp; exact zO hK
            refine zS (fun w' hS hV K hK => ?_) ?_
            · have e1 := zQ hV 1; have e2 := zQ hV 2; have q0 := hS.1; have q1 := hS.2.1; have q2 := hS.2.2.1; have q3 := hS.2.2.2; go_simp; exact zO hK
            refine zS (fun w' hS hV K hK => ?_) ?_
            · have e3 := zQ hV 3; have q0 := hS.1; have q1 := hS.2.1; have q2 := hS.2.2.1; have q3 := hS.2.2.2; go_simp; exact zO hK
            refine zS (fun w' hS hV K hK => ?_) ?_
            · have q0 := hS.1; have q1 := hS.2.1; have q2 := hS.2.2.1; have q3 := hS.2.2.2; go_simp; exact zO hK
            refine zS (fun w' hS hV K hK => ?_) ?_
            · have q0 := hS.1; have q1 := hS.2.1; have q2 := hS.2.2.1; have q3 := hS.2.2.2; go_simp; exact zO hK
            refine zS (fun w' hS hV K hK => ?_) ?_
            · have q0 := hS.1; have q1 := hS.2.1; have q2 := hS.2.2.1; have q3 := hS.2.2.2; go_simp; exact zO hK
            refine zS (fun w' hS hV K hK => ?_) ?_
            · have e6 := zQ hV 6; have e7 := zQ hV 7; have q0 := hS.1; have q1 := hS.2.1; have q2 := hS.2.2.1; have q3 := hS.2.2.2; go_simp; exact zO hK
            refine zS (fun w' hS hV K hK => ?_) ?_
            · have e8 := zQ hV 8; have q0 := hS.1; have q1 := hS.2.1; have q2 := hS.2.2.1; have q3 := hS.2.2.2; go_simp; exact zO hK
            refine zS (fun w' hS hV K hK => ?_) ?_
            · have q0 := hS.1; have q1 := hS.2.1; have q2 := hS.2.2.1; have q3 := hS.2.2.2; go_simp; exact zO hK
            refine zS (fun w' hS hV K hK => ?_) ?_
            · have e9 := zQ hV 9; have e10 := zQ hV 10; have q0 := hS.1; have q1 := hS.2.1; have q2 := hS.2.2.1; have q3 := hS.2.2.2; go_simp; exact zO hK
            refine zS (fun w' hS hV K hK => ?_) ?_
            · have e11 := zQ hV 11; have q0 := hS.1; have q1 := hS.2.1; have q2 := hS.2.2.1; have q3 := hS.2.2.2; go_simp; exact zO hK
            refine zS (fun w' hS hV K hK => ?_) ?_
            · have e12 := zQ hV 12; have q0 := hS.1; have q1 := hS.2.1; have q2 := hS.2.2.1; have q3 := hS.2.2.2; go_simp; exact zO hK
            refine zS (fun w' hS hV K hK => ?_) ?_
            · have e5 := zQ hV 5; have e13 := zQ hV 13; have q0 := hS.1; have q1 := hS.2.1; have q2 := hS.2.2.1; have q3 := hS.2.2.2; go_simp; refine (hmod w').mono ?_; rintro e v1 ⟨rfl, rfl⟩; exact zO hK
            refine zS (fun w' hS hV K hK => ?_) ?_
            · have e0 := zQ hV 0; have e4 := zQ hV 4; have q0 := hS.1; have q1 := hS.2.1; have q2 := hS.2.2.1; have q3 := hS.2.2.2; go_simp; exact zO hK
            refine fun w' hS hV => ?_
            have e0 := zT hV 0
            have e1 := zT hV 1
            have e2 := zT hV 2
            have e3 := zT hV 3
            have e4 := zT hV 4
            have e5 := zT hV 5
            have e6 := zT hV 6
            have e7 := zT hV 7
            have e8 := zT hV 8
            have e9 := zT hV 9
            have e10 := zT hV 10
            have e11 := zT hV 11
            have e12 := zT hV 12
            have e13 := zT hV 13
            have e14 := zT hV 14
            have e15 := zT hV 15
            simp only [e0, e1, e2, e3, e4, e5, e6, e7, e8, e9, e10, e11, e12, e13, e14, e15]
            clear e0 e1 e2 e3 e4 e5 e6 e7 e8 e9 e10 e11 e12 e13 e14 e15
            obtain ⟨q0, q1, q2, q3⟩ := hS
            have hm5 := HMV.out.below q3
            obtain ⟨hoc, hof⟩ := mkI_at hm5 hld
            refine any_one (j := 16) (by kernel_rfl) (Eq.trans (by simp only [zA, zB, zC]; exact rfl) rfl) (fun K hK => ?_)
            go_simp
            refine hK.out _ _ (wpAny_done (by kernel_rfl) ?_ _)
            have hset := (hm5.set l (.int .i64 ym)).1
            rw [ints_set, HST.out] at hset
            clear q0 q1 q2 q3 hm5 hoc hof hmod
            go_wp2
            go_roundw
            case rel => exact ⟨k + 1, by omega, by go_num, hset⟩
            case measure => simp [intOf]; omega
          · obtain rfl : k = j := by omega
            have HFR : Hid (MkI wo wr (some ⟨wo.heap.size, 0, none⟩) n n (freeRow p B n f)) := Lib.hid (by
             have e : freePart p B n f (leftFrom B k) = freeRow p B n f := freePart_congr p B n f (fun k' _ => by rw [HD.out]; exact leftFrom_end k')
             rw [← e]; exact HMV.out)
            go_wp2_with (at_builtin; refine wpList_appRowG wb wo _ rfl _ _ rfl A2 q c2 _ _ n n _ HM.out HFR.out (by omega) rfl ?_ ?_; (go_simp); intro A6 c6 w6 hM6 hg6 _)
            have hpn := (HPO.out.below HFR.out.b).grown hg6 ((HPO.out.below HFR.out.b).ne (HM.out.outer.choose_spec.below HFR.out.b).2 (by decide))
            go_roundw
            case rel => exact ⟨f + 1, q + 1, A6, c6, by omega, by omega, by go_num, rfl, by rw [freeTo_take hlb]; exact hM6, hpn⟩
            case measure => simp [intOf]; omega
       · have hhas := l01Has_b A' j c' (tab j fun i => ((ld B i : Nat) : Int)) (f : Int) wo (by omega) (Own.rd HPO.out) ((HCON.out f).trans hlb)
         go_wp2_with (go_at_call 147; refine hhas.mono ?_; rintro e w' ⟨rfl, rfl⟩)
         go_roundw
         case rel => exact ⟨f + 1, q, A2, c2, by omega, by omega, by go_num, rfl, by rw [freeTo_skip hlb]; exact HM.out, HPO.out⟩
         case measure => simp [intOf]; omega
     · obtain rfl : f = n := by omega
       have hlast := l12Reduced_any p A2 q c2 (freeTo p B f f) f wo HP'.out hn (by omega) HM.out.rd (freeTo_tab hp B f f)
       rw [← HKL.out] at hlast
       have HBW := Lib.hid (HB7.out.b.trans (HM.out.b.mono HB7.out.b.size))
       go_wp2_with fail
       refine hlast.mono ?_
       rintro e w5 ⟨A5, c5, rfl, hM5⟩
       go_wp2
       go_ret
       exact ⟨_, _, rfl, hM5.after HBW.out⟩
end Go.Proofs.YtaiegpggccdgoaaGreat

/-
  LawFnOrthogonalOrders: part 11 of the texts that the proof needs. No condition.
-/
import Derived.Test.YtmkjdpnoloofjaaGreatR10
namespace Go.Proofs.YtmkjdpnoloofjaaGreat
open Go.RowKit
/-- Equal so far. -/
def eqTo {α : Type} (d : α) (M N : List α) (k : Nat) : Prop := ∀ j, j < k → M.getD j d = N.getD j d
theorem eqTo.next {α : Type} {d : α} {M N : List α} {k : Nat} (h : eqTo d M N k) (e : M.getD k d = N.getD k d) : eqTo d M N (k + 1) := fun j hj => by
 rcases Nat.lt_or_ge j k with h1 | h1
 · exact h j h1
 · obtain rfl : j = k := by omega
   exact e
theorem eqTo.all {α : Type} {d : α} {M N : List α} {k : Nat} (h : eqTo d M N k) (h1 : M.length = k) (h2 : N.length = k) : M = N := list_ext_getD d (by omega) fun i hi => h i (by omega)
set_option maxHeartbeats 1600000 in
set_option maxRecDepth 8000 in
theorem equal_any (A B : Option Addr) (n c d : Nat) (xs ys : List Int) (w : World) (hn : n ≤ 65536) (ha : Rd w A n (ints xs)) (hb : Rd w B n (ints ys)) :
    Calls Tryz.prog 192 #[.slice A n c, .slice B n d] w fun e w' => e = .returned (.bool (decide (xs = ys))) ∧ Below w.heap.size w w' := by
 have t4 : ((n : Int) != (n : Int)) = false := by simp
 have HL : Hid (xs.length = n ∧ ys.length = n) := Lib.hid ⟨ha.lenI, hb.lenI⟩
 obtain ⟨R, hR⟩ : ∃ R, R = decide (xs = ys) := ⟨_, rfl⟩
 rw [← hR]
 have HR := Lib.hid hR
 clear hR
 go_enter Tryz.func192, Tryz.ntmps192
 go_wp2
 go_loopw [13] (fun i wr => ∃ k : Nat, k ≤ n ∧ i = .int .i64 k ∧ Below w.heap.size w wr ∧ Hid (eqTo 0 xs ys k)) (fun i _ => n - (intOf i).toNat)
 case atStart => exact ⟨0, by omega, rfl, Below.refl _ _, Lib.hid fun j hj => absurd hj (by omega)⟩
 case round =>
  obtain ⟨k, hk, rfl, hB, HE⟩ := hrel
  by_cases hlt : k < n
  · obtain ⟨ga, oa, rfl, hxa, hca⟩ := (ha.below hB).int hlt
    obtain ⟨gb, ob, rfl, hxb, hcb⟩ := (hb.below hB).int hlt
    obtain ⟨x0, hx0⟩ : ∃ x, x = xs[k] := ⟨_, rfl⟩
    obtain ⟨y0, hy0⟩ : ∃ x, x = ys[k] := ⟨_, rfl⟩
    rw [← hx0] at hca
    rw [← hy0] at hcb
    obtain ⟨t, ht⟩ : ∃ t, t = (x0 != y0) := ⟨_, rfl⟩
    have ht1 : (x0 != y0) = t := ht.symm
    have HT : Hid ((t = false → eqTo 0 xs ys (k + 1)) ∧ (t = true → R = false)) := Lib.hid ⟨fun e => HE.out.next (by
        rw [getD_of_lt 0 hxa, getD_of_lt 0 hxb, ← hx0, ← hy0]
        rw [e] at ht1; simpa using ht1), fun e => by
        rw [HR.out, decide_eq_false_iff_not]
        rintro rfl
        rw [e] at ht1
        rw [hx0, hy0] at ht1
        simp at ht1⟩
    clear hx0 hy0 ht hxa hxb
    go_wp2
    refine wp_obs 9 [[],[],[0,1],[0,1,2],[],[],[4,5],[4,5,6],[0,1,2,3,4,5,6,7]] [VIs (.slice (some ⟨ga, oa, none⟩) n c), VIs (.int .i64 (k)), VIs (.pointer (some ⟨ga, oa + k, none⟩)), VIs (.int .i64 (x0)), VIs (.slice (some ⟨gb, ob, none⟩) n d), VIs (.int .i64 (k)), VIs (.pointer (some ⟨gb, ob + k, none⟩)), VIs (.int .i64 (y0)), VIs (.bool t)] (fun w' => w'.cell? ⟨ga, oa + k, none⟩ = some (.int .i64 x0) ∧ w'.cell? ⟨gb, ob + k, none⟩ = some (.int .i64 y0) ∧ Below wr.heap.size wr w') (by kernel_rfl) (by kernel_rfl) (fun _ _ h hb => ⟨(hb.cell (World.block_lt_of_cell? _ _ h.1)).trans h.1, (hb.cell (World.block_lt_of_cell? _ _ h.2.1)).trans h.2.1, h.2.2.trans (hb.mono h.2.2.size)⟩) (⟨hca, hcb, zG.drew⟩) (fun x => ?_)
    refine zS (fun w' hS hV K hK => ?_) ?_
    · have q0 := hS.1; have q1 := hS.2.1; go_simp; exact zO hK
    refine zS (fun w' hS hV K hK => ?_) ?_
    · have q0 := hS.1; have q1 := hS.2.1; go_simp; exact zO hK
    refine zS (fun w' hS hV K hK => ?_) ?_
    · have e0 := zQ hV 0; have e1 := zQ hV 1; have q0 := hS.1; have q1 := hS.2.1; go_simp; exact zO hK
    refine zS (fun w' hS hV K hK => ?_) ?_
    · have e2 := zQ hV 2; have q0 := hS.1; have q1 := hS.2.1; go_simp; exact zO hK
    refine zS (fun w' hS hV K hK => ?_) ?_
    · have q0 := hS.1; have q1 := hS.2.1; go_simp; exact zO hK
    refine zS (fun w' hS hV K hK => ?_) ?_
    · have q0 := hS.1; have q1 := hS.2.1; go_simp; exact zO hK
    refine zS (fun w' hS hV K hK => ?_) ?_
    · have e4 := zQ hV 4; have e5 := zQ hV 5; have q0 := hS.1; have q1 := hS.2.1; go_simp; exact zO hK
    refine zS (fun w' hS hV K hK => ?_) ?_
    · have e6 := zQ hV 6; have q0 := hS.1; have q1 := hS.2.1; go_simp; exact zO hK
    refine zS (fun w' hS hV K hK => ?_) ?_
    · have e3 := zQ hV 3; have e7 := zQ hV 7; have q0 := hS.1; have q1 := hS.2.1; go_simp; exact zO hK
    refine fun w' hS hV => ?_
    have e0 := zT hV 0
    have e1 := zT hV 1
    have e2 := zT hV 2
    have e3 := zT hV 3
    have e4 := zT hV 4
    have e5 := zT hV 5
    have e6 := zT hV 6
    have e7 := zT hV 7
    have e8 := zT hV 8
    simp only [e0, e1, e2, e3, e4, e5, e6, e7, e8]
    clear e0 e1 e2 e3 e4 e5 e6 e7 e8
    refine wpAny_done (by kernel_rfl) ?_ _
    have hb6 := hB.trans (hS.2.2.mono hB.size)
    obtain ⟨w7, rfl⟩ : ∃ W, W = w' := ⟨_, rfl⟩
    clear hS hca hcb ht1
    cases t
    · have HN := Lib.hid (HT.out.1 rfl)
      clear HT
      go_wp2
      go_roundw
      case rel => exact ⟨k + 1, by omega, by go_num, hb6, HN⟩
      case measure => simp [intOf]; omega
    · obtain rfl : R = false := HT.out.2 rfl
      clear HT
      go_wp2
      go_ret
      exact ⟨rfl, hb6⟩
  · obtain rfl : k = n := by omega
    obtain rfl : R = true := by rw [HR.out, decide_eq_true_iff]; exact HE.out.all HL.out.1 HL.out.2
    go_wp2
    go_ret
    exact ⟨rfl, hB⟩
set_option maxHeartbeats 1600000 in
set_option maxRecDepth 8000 in
theorem same2_any (A B : Option Addr) (n c d : Nat) (M N : List (List Int)) (q : Nat) (w : World) (hn : n ≤ 1000) (hq : q ≤ 1000) (ha : RdII w A n M) (hb : RdII w B n N) (hM : Rect q M) (hN : Rect q N) :
    Calls Tryz.prog 86 #[.slice A n c, .slice B n d] w fun e w' => e = .returned (.bool (decide (M = N))) ∧ Below w.heap.size w w' := by
 have t4 : ((n : Int) != (n : Int)) = false := by simp
 have HL : Hid (M.length = n ∧ N.length = n) := Lib.hid ⟨ha.len, hb.len⟩
 have HM := Lib.hid hM
 have HN := Lib.hid hN
 obtain ⟨R, hR⟩ : ∃ R, R = decide (M = N) := ⟨_, rfl⟩
 rw [← hR]
 have HR := Lib.hid hR
 clear hR hM hN
 go_enter Tryz.func86, Tryz.ntmps86
 go_wp2
 go_loopw [5] (fun i wr => ∃ k : Nat, k ≤ n ∧ i = .int .i64 k ∧ Below w.heap.size w wr ∧ Hid (eqTo [] M N k)) (fun i _ => n - (intOf i).toNat)
 case atStart => exact ⟨0, by omega, rfl, Below.refl _ _, Lib.hid fun j hj => absurd hj (by omega)⟩
 case round =>
  obtain ⟨k, hk, rfl, hB, HE⟩ := hrel
  by_cases hlt : k < n
  · skip
    obtain ⟨ga, oa, rfl, hxa, A1, c1, hca, hra, -⟩ := (ha.below hB).at_ hlt
    obtain ⟨gb, ob, rfl, hxb, B1, d1, hcb, hrb, -⟩ := (hb.below hB).at_ hlt
    rw [HM.out M[k] (List.getElem_mem hxa)] at hca hra
    rw [HN.out N[k] (List.getElem_mem hxb)] at hcb hrb
    obtain ⟨x0, hx0⟩ : ∃ x, x = M[k] := ⟨_, rfl⟩
    obtain ⟨y0, hy0⟩ : ∃ x, x = N[k] := ⟨_, rfl⟩
    rw [← hx0] at hra
    rw [← hy0] at hrb
    obtain ⟨t, ht⟩ : ∃ t, t = decide (x0 = y0) := ⟨_, rfl⟩
    have HT : Hid ((t = true → eqTo [] M N (k + 1)) ∧ (t = false → R = false)) := Lib.hid ⟨fun e => HE.out.next (by
        rw [getD_of_lt [] hxa, getD_of_lt [] hxb, ← hx0, ← hy0]
        rw [e] at ht; exact of_decide_eq_true ht.symm), fun e => by
        rw [HR.out, decide_eq_false_iff_not]
        rintro rfl
        rw [e] at ht
        exact absurd (hx0.trans hy0.symm) (of_decide_eq_false ht.symm)⟩
    have HCL := Lib.hid fun (w' : World) (h : Below wr.heap.size wr w') => l01Same_any A1 B1 q q c1 d1 x0 y0 w' (by omega) (by omega) (hra.below h) (hrb.below h)
    rw [← ht] at HCL
    clear hx0 hy0 ht hxa hxb hra hrb
    go_wp2
    refine wp_obs 10 [[],[],[0,1],[0,1,2],[],[],[4,5],[4,5,6],[0,1,2,3,4,5,6,7],[0,1,2,3,4,5,6,7,8]] [VIs (.slice (some ⟨ga, oa, none⟩) n c), VIs (.int .i64 (k)), VIs (.pointer (some ⟨ga, oa + k, none⟩)), VIs (.slice A1 q c1), VIs (.slice (some ⟨gb, ob, none⟩) n d), VIs (.int .i64 (k)), VIs (.pointer (some ⟨gb, ob + k, none⟩)), VIs (.slice B1 q d1), VIs (.bool t), VIs (.bool (!t))] (fun w' => w'.cell? ⟨ga, oa + k, none⟩ = some (.slice A1 q c1) ∧ w'.cell? ⟨gb, ob + k, none⟩ = some (.slice B1 q d1) ∧ Below wr.heap.size wr w') (by kernel_rfl) (by kernel_rfl) (fun _ _ h hb => ⟨(hb.cell (World.block_lt_of_cell? _ _ h.1)).trans h.1, (hb.cell (World.block_lt_of_cell? _ _ h.2.1)).trans h.2.1, h.2.2.trans (hb.mono h.2.2.size)⟩) (⟨hca, hcb, zG.drew⟩) (fun x => ?_)
    refine zS (fun w' hS hV K hK => ?_) ?_
    · have q0 := hS.1; have q1 := hS.2.1; go_simp; exact zO hK
    refine zS (fun w' hS hV K hK => ?_) ?_
    · have q0 := hS.1; have q1 := hS.2.1; go_simp; exact zO hK
    refine zS (fun w' hS hV K hK => ?_) ?_
    · have e0 := zQ hV 0; have e1 := zQ hV 1; have q0 := hS.1; have q1 := hS.2.1; go_simp; exact zO hK
    refine zS (fun w' hS hV K hK => ?_) ?_
    · have e2 := zQ hV 2; have q0 := hS.1; have q1 := hS.2.1; go_simp; exact zO hK
    refine zS (fun w' hS hV K hK => ?_) ?_
    · have q0 := hS.1; have q1 := hS.2.1; go_simp; exact zO hK
    refine zS (fun w' hS hV K hK => ?_) ?_
    · have q0 := hS.1; have q1 := hS.2.1; go_simp; exact zO hK
    refine zS (fun w' hS hV K hK => ?_) ?_
    · have e4 := zQ hV 4; have e5 := zQ hV 5; have q0 := hS.1; have q1 := hS.2.1; go_simp; exact zO hK
    refine zS (fun w' hS hV K hK => ?_) ?_
    · have e6 := zQ hV 6; have q0 := hS.1; have q1 := hS.2.1; go_simp; exact zO hK
    refine zS (fun w' hS hV K hK => ?_) ?_
    · have e3 := zQ hV 3; have e7 := zQ hV 7; have q0 := hS.1; have q1 := hS.2.1; go_simp; refine (HCL.out w' hS.2.2).mono ?_; rintro e v1 ⟨rfl, j, rfl⟩; exact hK.out _ _ _ rfl rfl rfl (below_drewN zG j)
    refine zS (fun w' hS hV K hK => ?_) ?_
    · have e8 := zQ hV 8; have q0 := hS.1; have q1 := hS.2.1; go_simp; exact zO hK
    refine fun w' hS hV => ?_
    have e0 := zT hV 0
    have e1 := zT hV 1
    have e2 := zT hV 2
    have e3 := zT hV 3
    have e4 := zT hV 4
    have e5 := zT hV 5
    have e6 := zT hV 6
    have e7 := zT hV 7
    have e8 := zT hV 8
    have e9 := zT hV 9
    simp only [e0, e1, e2, e3, e4, e5, e6, e7, e8, e9]
    clear e0 e1 e2 e3 e4 e5 e6 e7 e8 e9
    refine wpAny_done (by kernel_rfl) ?_ _
    have hb6 := hB.trans (hS.2.2.mono hB.size)
    obtain ⟨w7, rfl⟩ : ∃ W, W = w' := ⟨_, rfl⟩
    clear hS HCL
    clear hca hcb
    cases t
    · obtain rfl : R = false := HT.out.2 rfl
      clear HT
      go_wp2
      go_ret
      exact ⟨rfl, hb6⟩
    · have HNX := Lib.hid (HT.out.1 rfl)
      clear HT
      go_wp2
      go_roundw
      case rel => exact ⟨k + 1, by omega, by go_num, hb6, HNX⟩
      case measure => simp [intOf]; omega
  · obtain rfl : k = n := by omega
    obtain rfl : R = true := by rw [HR.out, decide_eq_true_iff]; exact HE.out.all HL.out.1 HL.out.2
    go_wp2
    go_ret
    exact ⟨rfl, hB⟩
set_option maxHeartbeats 1600000 in
set_option maxRecDepth 8000 in
theorem likeRows5_any (A B : Option Addr) (n c d : Nat) (M N : List (List Int)) (q : Nat) (w : World) (hn : n ≤ 1000) (hq : q ≤ 1000) (ha : RdII w A n M) (hb : RdII w B n N) (hM : Rect q M) (hN : Rect q N) :
    Calls Tryz.prog 14 #[.slice A n c, .slice B n d] w fun e w' => e = .returned (.bool (decide (M = N))) ∧ Below w.heap.size w w' := by
 have t4 : ((n : Int) != (n : Int)) = false := by simp
 have HL : Hid (M.length = n ∧ N.length = n) := Lib.hid ⟨ha.len, hb.len⟩
 have HM := Lib.hid hM
 have HN := Lib.hid hN
 obtain ⟨R, hR⟩ : ∃ R, R = decide (M = N) := ⟨_, rfl⟩
 rw [← hR]
 have HR := Lib.hid hR
 clear hR hM hN
 go_enter Tryz.func14, Tryz.ntmps14
 go_wp2
 go_loopw [5] (fun i wr => ∃ k : Nat, k ≤ n ∧ i = .int .i64 k ∧ Below w.heap.size w wr ∧ Hid (eqTo [] M N k)) (fun i _ => n - (intOf i).toNat)
 case atStart => exact ⟨0, by omega, rfl, Below.refl _ _, Lib.hid fun j hj => absurd hj (by omega)⟩
 case round =>
  obtain ⟨k, hk, rfl, hB, HE⟩ := hrel
  by_cases hlt : k < n
  · skip
    obtain ⟨ga, oa, rfl, hxa, A1, c1, hca, hra, -⟩ := (ha.below hB).at_ hlt
    obtain ⟨gb, ob, rfl, hxb, B1, d1, hcb, hrb, -⟩ := (hb.below hB).at_ hlt
    rw [HM.out M[k] (List.getElem_mem hxa)] at hca hra
    rw [HN.out N[k] (List.getElem_mem hxb)] at hcb hrb
    obtain ⟨x0, hx0⟩ : ∃ x, x = M[k] := ⟨_, rfl⟩
    obtain ⟨y0, hy0⟩ : ∃ x, x = N[k] := ⟨_, rfl⟩
    rw [← hx0] at hra
    rw [← hy0] at hrb
    obtain ⟨t, ht⟩ : ∃ t, t = decide (x0 = y0) := ⟨_, rfl⟩
    have HT : Hid ((t = true → eqTo [] M N (k + 1)) ∧ (t = false → R = false)) := Lib.hid ⟨fun e => HE.out.next (by
        rw [getD_of_lt [] hxa, getD_of_lt [] hxb, ← hx0, ← hy0]
        rw [e] at ht; exact of_decide_eq_true ht.symm), fun e => by
        rw [HR.out, decide_eq_false_iff_not]
        rintro rfl
        rw [e] at ht
        exact absurd (hx0.trans hy0.symm) (of_decide_eq_false ht.symm)⟩
    have HCL := Lib.hid fun (w' : World) (h : Below wr.heap.size wr w') => likeInts_any A1 B1 q q c1 d1 x0 y0 w' (by omega) (by omega) (hra.below h) (hrb.below h)
    rw [← ht] at HCL
    clear hx0 hy0 ht hxa hxb hra hrb
    go_wp2
    refine wp_obs 10 [[],[],[0,1],[0,1,2],[],[],[4,5],[4,5,6],[0,1,2,3,4,5,6,7],[0,1,2,3,4,5,6,7,8]] [VIs (.slice (some ⟨ga, oa, none⟩) n c), VIs (.int .i64 (k)), VIs (.pointer (some ⟨ga, oa + k, none⟩)), VIs (.slice A1 q c1), VIs (.slice (some ⟨gb, ob, none⟩) n d), VIs (.int .i64 (k)), VIs (.pointer (some ⟨gb, ob + k, none⟩)), VIs (.slice B1 q d1), VIs (.bool t), VIs (.bool (!t))] (fun w' => w'.cell? ⟨ga, oa + k, none⟩ = some (.slice A1 q c1) ∧ w'.cell? ⟨gb, ob + k, none⟩ = some (.slice B1 q d1) ∧ Below wr.heap.size wr w') (by kernel_rfl) (by kernel_rfl) (fun _ _ h hb => ⟨(hb.cell (World.block_lt_of_cell? _ _ h.1)).trans h.1, (hb.cell (World.block_lt_of_cell? _ _ h.2.1)).trans h.2.1, h.2.2.trans (hb.mono h.2.2.size)⟩) (⟨hca, hcb, zG.drew⟩) (fun x => ?_)
    refine zS (fun w' hS hV K hK => ?_) ?_
    · have q0 := hS.1; have q1 := hS.2.1; go_simp; exact zO hK
    refine zS (fun w' hS hV K hK => ?_) ?_
    · have q0 := hS.1; have q1 := hS.2.1; go_simp; exact zO hK
    refine zS (fun w' hS hV K hK => ?_) ?_
    · have e0 := zQ hV 0; have e1 := zQ hV 1; have q0 := hS.1; have q1 := hS.2.1; go_simp; exact zO hK
    refine zS (fun w' hS hV K hK => ?_) ?_
    · have e2 := zQ hV 2; have q0 := hS.1; have q1 := hS.2.1; go_simp; exact zO hK
    refine zS (fun w' hS hV K hK => ?_) ?_
    · have q0 := hS.1; have q1 := hS.2.1; go_simp; exact zO hK
    refine zS (fun w' hS hV K hK => ?_) ?_
    · have q0 := hS.1; have q1 := hS.2.1; go_simp; exact zO hK
    refine zS (fun w' hS hV K hK => ?_) ?_
    · have e4 := zQ hV 4; have e5 := zQ hV 5; have q0 := hS.1; have q1 := hS.2.1; go_simp; exact zO hK
    refine zS (fun w' hS hV K hK => ?_) ?_
    · have e6 := zQ hV 6; have q0 := hS.1; have q1 := hS.2.1; go_simp; exact zO hK
    refine zS (fun w' hS hV K hK => ?_) ?_
    · have e3 := zQ hV 3; have e7 := zQ hV 7; have q0 := hS.1; have q1 := hS.2.1; go_simp; refine (HCL.out w' hS.2.2).mono ?_; rintro e v1 ⟨rfl, j, rfl⟩; exact hK.out _ _ _ rfl rfl rfl (below_drewN zG j)
    refine zS (fun w' hS hV K hK => ?_) ?_
    · have e8 := zQ hV 8; have q0 := hS.1; have q1 := hS.2.1; go_simp; exact zO hK
    refine fun w' hS hV => ?_
    have e0 := zT hV 0
    have e1 := zT hV 1
    have e2 := zT hV 2
    have e3 := zT hV 3
    have e4 := zT hV 4
    have e5 := zT hV 5
    have e6 := zT hV 6
    have e7 := zT hV 7
    have e8 := zT hV 8
    have e9 := zT hV 9
    simp only [e0, e1, e2, e3, e4, e5, e6, e7, e8, e9]
    clear e0 e1 e2 e3 e4 e5 e6 e7 e8 e9
    refine wpAny_done (by kernel_rfl) ?_ _
    have hb6 := hB.trans (hS.2.2.mono hB.size)
    obtain ⟨w7, rfl⟩ : ∃ W, W = w' := ⟨_, rfl⟩
    clear hS HCL
    clear hca hcb
    cases t
    · obtain rfl : R = false := HT.out.2 rfl
      clear HT
      go_wp2
      go_ret
      exact ⟨rfl, hb6⟩
    · have HNX := Lib.hid (HT.out.1 rfl)
      clear HT
      go_wp2
      go_roundw
      case rel => exact ⟨k + 1, by omega, by go_num, hb6, HNX⟩
      case measure => simp [intOf]; omega
  · obtain rfl : k = n := by omega
    obtain rfl : R = true := by rw [HR.out, decide_eq_true_iff]; exact HE.out.all HL.out.1 HL.out.2
    go_wp2
    go_ret
    exact ⟨rfl, hB⟩
set_option maxHeartbeats 1600000 in
set_option maxRecDepth 8000 in
theorem equalFunc_any (A B : Option Addr) (n c d : Nat) (M N : List (List Int)) (q : Nat) (w : World) (hn : n ≤ 1000) (hq : q ≤ 1000) (ha : RdII w A n M) (hb : RdII w B n N) (hM : Rect q M) (hN : Rect q N) :
    Calls Tryz.prog 191 #[.slice A n c, .slice B n d, .func (.func 192) #[] #[]] w fun e w' => e = .returned (.bool (decide (M = N))) ∧ Below w.heap.size w w' := by
 have hcf : ∀ (args : Array Value) (w : World), (callFunc 192 args).run Tryz.prog w = .ok (.enter 192 args) w := fun _ _ => by rfl
 have t4 : ((n : Int) != (n : Int)) = false := by simp
 have HL : Hid (M.length = n ∧ N.length = n) := Lib.hid ⟨ha.len, hb.len⟩
 have HM := Lib.hid hM
 have HN := Lib.hid hN
 obtain ⟨R, hR⟩ : ∃ R, R = decide (M = N) := ⟨_, rfl⟩
 rw [← hR]
 have HR := Lib.hid hR
 clear hR hM hN
 go_enter Tryz.func191, Tryz.ntmps191
 go_wp2
 go_loopw [17] (fun i wr => ∃ k : Nat, k ≤ n ∧ i = .int .i64 k ∧ Below w.heap.size w wr ∧ Hid (eqTo [] M N k)) (fun i _ => n - (intOf i).toNat)
 case atStart => exact ⟨0, by omega, rfl, Below.refl _ _, Lib.hid fun j hj => absurd hj (by omega)⟩
 case round =>
  obtain ⟨k, hk, rfl, hB, HE⟩ := hrel
  by_cases hlt : k < n
  · skip
    obtain ⟨ga, oa, rfl, hxa, A1, c1, hca, hra, -⟩ := (ha.below hB).at_ hlt
    obtain ⟨gb, ob, rfl, hxb, B1, d1, hcb, hrb, -⟩ := (hb.below hB).at_ hlt
    rw [HM.out M[k] (List.getElem_mem hxa)] at hca hra
    rw [HN.out N[k] (List.getElem_mem hxb)] at hcb hrb
    obtain ⟨x0, hx0⟩ : ∃ x, x = M[k] := ⟨_, rfl⟩
    obtain ⟨y0, hy0⟩ : ∃ x, x = N[k] := ⟨_, rfl⟩
    rw [← hx0] at hra
    rw [← hy0] at hrb
    obtain ⟨t, ht⟩ : ∃ t, t = decide (x0 = y0) := ⟨_, rfl⟩
    have HT : Hid ((t = true → eqTo [] M N (k + 1)) ∧ (t = false → R = false)) := Lib.hid ⟨fun e => HE.out.next (by
        rw [getD_of_lt [] hxa, getD_of_lt [] hxb, ← hx0, ← hy0]
        rw [e] at ht; exact of_decide_eq_true ht.symm), fun e => by
        rw [HR.out, decide_eq_false_iff_not]
        rintro rfl
        rw [e] at ht
        exact absurd (hx0.trans hy0.symm) (of_decide_eq_false ht.symm)⟩
    have HCL := Lib.hid fun (w' : World) (h : Below wr.heap.size wr w') => equal_any A1 B1 q c1 d1 x0 y0 w' (by omega) (hra.below h) (hrb.below h)
    rw [← ht] at HCL
    clear hx0 hy0 ht hxa hxb hra hrb
    go_wp2_with fail
    refine (HCL.out wr zG).mono ?_
    rintro e w7 ⟨rfl, hb7⟩
    have hb6 := hB.trans (hb7.mono hB.size)
    clear HCL
    clear hca hcb
    cases t
    · obtain rfl : R = false := HT.out.2 rfl
      clear HT
      go_wp2
      go_ret
      exact ⟨rfl, hb6⟩
    · have HNX := Lib.hid (HT.out.1 rfl)
      clear HT
      go_wp2
      go_roundw
      case rel => exact ⟨k + 1, by omega, by go_num, hb6, HNX⟩
      case measure => simp [intOf]; omega
  · obtain rfl : k = n := by omega
    obtain rfl : R = true := by rw [HR.out, decide_eq_true_iff]; exact HE.out.all HL.out.1 HL.out.2
    go_wp2
    go_ret
    exact ⟨rfl, hB⟩
set_option maxHeartbeats 1600000 in
set_option maxRecDepth 8000 in
theorem sameRows_any (A B : Option Addr) (n c d : Nat) (M N : List (List Int)) (q : Nat) (w : World) (hn : n ≤ 1000) (hq : q ≤ 1000) (ha : RdII w A n M) (hb : RdII w B n N) (hM : Rect q M) (hN : Rect q N) :
    Calls Tryz.prog 83 #[.slice A n c, .slice B n d] w fun e w' => e = .returned (.bool (decide (M = N))) ∧ Below w.heap.size w w' := by
 have h := equalFunc_any A B n c d M N q w hn hq ha hb hM hN
 obtain ⟨R, hR⟩ : ∃ R, R = decide (M = N) := ⟨_, rfl⟩
 rw [← hR] at h ⊢
 clear hR hM hN ha hb
 go_enter Tryz.func83, Tryz.ntmps83
 go_wp2_with fail
 refine h.mono ?_
 rintro e w2 ⟨rfl, hb2⟩
 go_wp2
 go_ret
 exact ⟨rfl, hb2⟩
/-- The sum of a matrix and a multiple of another one. -/
def sumL (p : Int) (U M : List (List Int)) (k : Int) : List (List Int) := tab U.length fun i => plusL p (U.getD i []) (M.getD i []) k
theorem sumL_len (p : Int) (U M : List (List Int)) (k : Int) : (sumL p U M k).length = U.length := tab_len _ _
theorem sumL_take {p : Int} {U M : List (List Int)} {k : Nat} {j : Int} (h : k < U.length) : (sumL p U M j).take (k + 1) = (sumL p U M j).take k ++ [plusL p (U.getD k []) (M.getD k []) j] := by
 have hl : k < (sumL p U M j).length := by rw [sumL_len]; exact h
 rw [List.take_succ_eq_append_getElem hl]
 congr 2
 rw [← getD_of_lt [] hl]
 unfold sumL
 rw [tab_getD h]
theorem sumL_less {p : Int} {n : Nat} {M : List (List Int)} (hl : M.length = n) : sumL p M (unitM n) (-1) = lessM p n M := by
 unfold sumL lessM
 rw [hl]
 exact tab_congr fun i hi => by rw [unitM_getD hi]
set_option maxHeartbeats 3200000 in
set_option maxRecDepth 8000 in
theorem sumG_any (p : Int) (U : Option Addr) (n cu : Nat) (U0 : List (List Int)) (A : Option Addr) (c : Nat) (M : List (List Int)) (kk : Int) (w : World) (hp : 2 ≤ p) (hp2 : p ≤ 13) (hn : n ≤ 65536) (hu : RdII w U n U0) (hU : Tab p n U0) (ha : RdII w A n M) (hT : Tab p n M) (hk1 : -1000 ≤ kk) (hk2 : kk ≤ 1000) :
    Calls Tryz.prog 77 #[.int .i64 p, .slice U n cu, .slice A n c, .int .i64 kk] w fun e w' => ∃ (A' : Option Addr) (c' : Nat), e = .returned (.slice A' n c') ∧ MkII w w' A' n c' (sumL p U0 M kk) := by
 have HM := Lib.hid hT
 have HU := Lib.hid hU
 have HOL : Hid ((sumL p U0 M kk).length = n) := Lib.hid ((sumL_len p U0 M kk).trans hu.len)
 obtain ⟨w3, hw3⟩ : ∃ W, W = w.alloc (.cells #[] 24) := ⟨_, rfl⟩
 have hA0 : Below w.heap.size w w3 := by rw [hw3]; exact zG.alloc (Nat.le_refl _) _
 have hO3 : MkII w w3 (some ⟨w.heap.size, 0, none⟩) 0 0 [] := by rw [hw3]; exact MkII.empty zG
 have hE3 : Blk w3 w.heap.size 24 #[] := by rw [hw3]; exact Blk.new _ _ _
 have a3 := ha.below hA0
 have u3 := hu.below hA0
 have hgr0 : Grows w3 w3 w.heap.size (.slice (some ⟨w.heap.size, 0, none⟩) 0 0) := ⟨CK.refl _, Nat.le_refl _, fun gb h => .inl (by simpa [Value.ownBlock] using h.symm)⟩
 clear hT hU ha hu
 go_enter Tryz.func77, Tryz.ntmps77
 go_wp2
 rw [← hw3]
 obtain ⟨g3, hg3⟩ : ∃ g, g = w.heap.size := ⟨_, rfl⟩
 rw [← hg3] at hO3 hE3 hgr0 ⊢
 clear hw3 hg3
 go_loopw [9, 14] (fun out i wr => ∃ (k : Nat) (A' : Option Addr) (c' : Nat), k ≤ n ∧ i = .int .i64 k ∧ out = .slice A' k c' ∧ MkII w wr A' k c' ((sumL p U0 M kk).take k) ∧ Grows w3 wr g3 (.slice A' k c')) (fun _ i _ => n - (intOf i).toNat)
 case atStart => exact ⟨0, _, _, by omega, rfl, rfl, by simpa using hO3, hgr0⟩
 case round =>
  obtain ⟨k, A', c', hk, rfl, rfl, hM, hgr⟩ := hrel
  clear hO3 hgr0
  by_cases hlt : k < n
  · obtain ⟨ga, oa, rfl, hxk, Ak, ck, hck, hrk, hcc⟩ := (a3.ck hgr.1).at_ hlt
    obtain ⟨gu, ou, rfl, hxu, Uk, cu2, hcu, hru, hcuc⟩ := (u3.ck hgr.1).at_ hlt
    have hnk := HM.out M[k] (List.getElem_mem hxk)
    have hnu := HU.out U0[k] (List.getElem_mem hxu)
    rw [hnk.1] at hck hrk hcc
    rw [hnu.1] at hcu hru hcuc
    have HGD : Hid (M.getD k [] = M[k]) := Lib.hid (getD_of_lt [] hxk)
    have HGU : Hid (U0.getD k [] = U0[k]) := Lib.hid (getD_of_lt [] hxu)
    obtain ⟨X, hX⟩ : ∃ X, X = M[k] := ⟨_, rfl⟩
    obtain ⟨V, hV0⟩ : ∃ X, X = U0[k] := ⟨_, rfl⟩
    rw [← hX] at hrk hnk HGD
    rw [← hV0] at hru hnu HGU
    have HXL : Hid (k < U0.length) := Lib.hid hxu
    clear hX hV0 hxk hxu hcc hcuc
    have HPL := Lib.hid fun (w' : World) (h : Below wr.heap.size wr w') => plus_any p Uk n cu2 Ak n ck kk V X w' hp hp2 hn (Nat.le_refl _) (hru.below h) hnu.2 (hrk.below h) hnk.2 hk1 hk2
    obtain ⟨Y, hY⟩ : ∃ Y, Y = plusL p V X kk := ⟨_, rfl⟩
    have HAP : Hid ((sumL p U0 M kk).take (k + 1) = (sumL p U0 M kk).take k ++ [Y]) := Lib.hid (by rw [sumL_take HXL.out, HGU.out, HGD.out, hY])
    rw [← hY] at HPL
    have HMM := Lib.hid hM
    have HGR := Lib.hid hgr
    clear hrk hru hY hM hgr hnk hnu
    go_wp2
    refine wp_obs 13 [[],[],[],[],[2,3],[2,3,4],[],[],[6,7],[6,7,8],[],[1,2,3,4,5,6,7,8,9,10],[1,2,3,4,5,6,7,8,9,10,11],[0,1,2,3,4,5,6,7,8,9,10,11,12],[0,1,2,3,4,5,6,7,8,9,10,11,12,13]] [VIs (.slice A' k c'), VIs (.int .i64 (p)), VIs (.slice (some ⟨gu, ou, none⟩) n cu), VIs (.int .i64 (k)), VIs (.pointer (some ⟨gu, ou + k, none⟩)), VIs (.slice Uk n cu2), VIs (.slice (some ⟨ga, oa, none⟩) n c), VIs (.int .i64 (k)), VIs (.pointer (some ⟨ga, oa + k, none⟩)), VIs (.slice Ak n ck), VIs (.int .i64 (kk)), VSl wr n Y, VNew wr n Y] (fun w' => w'.cell? ⟨gu, ou + k, none⟩ = some (.slice Uk n cu2) ∧ w'.cell? ⟨ga, oa + k, none⟩ = some (.slice Ak n ck) ∧ Below wr.heap.size wr w') (by kernel_rfl) (by kernel_rfl) (fun _ _ h hb => ⟨(hb.cell (World.block_lt_of_cell? _ _ h.1)).trans h.1, (hb.cell (World.block_lt_of_cell? _ _ h.2.1)).trans h.2.1, h.2.2.trans (hb.mono h.2.2.size)⟩) (⟨hcu, hck, zG.drew⟩) (fun x => ?_)
    refine zS (fun w' hS hV K hK => ?_) ?_
    · have q0 := hS.1; have q1 := hS.2.1; go_simp; exact zO hK
    refine zS (fun w' hS hV K hK => ?_) ?_
    · have q0 := hS.1; have q1 := hS.2.1; go_simp; exact zO hK
    refine zS (fun w' hS hV K hK => ?_) ?_
    · have q0 := hS.1; have q1 := hS.2.1; go_simp; exact zO hK
    refine zS (fun w' hS hV K hK => ?_) ?_
    · have q0 := hS.1; have q1 := hS.2.1; go_simp; exact zO hK
    refine zS (fun w' hS hV K hK => ?_) ?_
    · have e2 := zQ hV 2; have e3 := zQ hV 3; have q0 := hS.1; have q1 := hS.2.1; go_simp; exact zO hK
    refine zS (fun w' hS hV K hK => ?_) ?_
    · have e4 := zQ hV 4; have q0 := hS.1; have q1 := hS.2.1; go_simp; exact zO hK
    refine zS (fun w' hS hV K hK => ?_) ?_
    · have q0 := hS.1; have q1 := hS.2.1; go_simp; exact zO hK
    refine zS (fun w' hS hV K hK => ?_) ?_
    · have q0 := hS.1; have q1 := hS.2.1; go_simp; exact zO hK
    refine zS (fun w' hS hV K hK => ?_) ?_
    · have e6 := zQ hV 6; have e7 := zQ hV 7; have q0 := hS.1; have q1 := hS.2.1; go_simp; exact zO hK
    refine zS (fun w' hS hV K hK => ?_) ?_
    · have e8 := zQ hV 8; have q0 := hS.1; have q1 := hS.2.1; go_simp; exact zO hK
    refine zS (fun w' hS hV K hK => ?_) ?_
    · have q0 := hS.1; have q1 := hS.2.1; go_simp; exact zO hK
    refine zS (fun w' hS hV K hK => ?_) ?_
    · have e1 := zQ hV 1; have e5 := zQ hV 5; have e9 := zQ hV 9; have e10 := zQ hV 10; have q0 := hS.1; have q1 := hS.2.1; go_simp; refine (HPL.out _ hS.2.2).mono ?_; rintro e v1 ⟨A9, c9, rfl, hM⟩; exact hK.out _ _ _ rfl rfl ⟨_, _, rfl, hM.after hS.2.2⟩ hM.b
    refine zS (fun w' hS hV K hK => ?_) ?_
    · obtain ⟨A11, c11, e11, h11⟩ := hV 11 (by decide); have q0 := hS.1; have q1 := hS.2.1; go_simp; exact hK.out _ _ _ rfl rfl ⟨_, _, _, rfl, Blk.new _ _ _, h11.below (zG.alloc (Nat.le_refl _) _)⟩ (zG.alloc (Nat.le_refl _) _)
    refine fun w' hS hV => ?_
    have e0 := zT hV 0
    have e1 := zT hV 1
    have e2 := zT hV 2
    have e3 := zT hV 3
    have e4 := zT hV 4
    have e5 := zT hV 5
    have e6 := zT hV 6
    have e7 := zT hV 7
    have e8 := zT hV 8
    have e9 := zT hV 9
    have e10 := zT hV 10
    obtain ⟨A11, c11, e11, h11⟩ := hV 11 (by decide)
    obtain ⟨g12, A12, c12, e12, b12, h12⟩ := hV 12 (by decide)
    simp only [e0, e1, e2, e3, e4, e5, e6, e7, e8, e9, e10, e11, e12]
    clear e0 e1 e2 e3 e4 e5 e6 e7 e8 e9 e10 e11 e12
    obtain ⟨-, -, s2⟩ := hS
    refine any_plain (j := 13) (by kernel_rfl) (Eq.trans (by simp only [zA, zB, zC]; exact rfl) rfl) rfl (fun K hK => ?_)
    refine wp_appRow w wr w' _ _ rfl A' k c' _ A12 n c12 _ HMM.out h12 (by omega) g12 b12 (by rfl) (by rfl) ?_
    intro A20 c20 w20 hM20 hg20 hat20
    refine hK.out _ _ ?_
    simp only [Act.put, zD, zE, zF]
    refine any_one (j := 14) (by kernel_rfl) (Eq.trans (by simp only [zA, zB, zC]; exact rfl) rfl) (fun K hK => ?_)
    go_simp
    refine hK.out _ _ (wpAny_done (by kernel_rfl) ?_ _)
    have hgr7 := HGR.out.step (n' := k + 1) (c' := c20) hE3 s2 hg20 hat20
    clear hg20 hat20 s2
    go_wp2
    go_roundw
    case rel => exact ⟨k + 1, A20, c20, by omega, by go_num, rfl, by rw [HAP.out]; exact hM20, hgr7⟩
    case measure => simp [intOf]; omega
  · obtain rfl : k = n := by omega
    rw [List.take_of_length_le (by rw [HOL.out]; omega)] at hM
    go_wp2
    go_ret
    exact ⟨_, _, rfl, hM⟩
theorem ordS_known {p : Int} {n : Nat} {M : List (List Int)} {k : Nat} (hk : 1 ≤ k) (hk2 : k ≤ 100000) (h : ordS p n M 100000 1 = ordS p n M (100001 - k) k) {t : Bool} (ht : t = decide (powL p n M k = unitM n)) :
    (t = true → ordS p n M 100000 1 = some k) ∧ (t = false → ordS p n M 100000 1 = ordS p n M (100001 - (k + 1)) (k + 1)) := by
 have e : 100001 - k = (100001 - (k + 1)) + 1 := by omega
 refine ⟨fun e1 => ?_, fun e1 => ?_⟩
 · rw [e1] at ht
   rw [h, e, ordS_hit (of_decide_eq_true ht.symm)]
 · rw [e1] at ht
   rw [h, e, ordS_go (of_decide_eq_false ht.symm)]
set_option maxHeartbeats 3200000 in
set_option maxRecDepth 8000 in
theorem OrthogonalOrder_any (P : Int) (A : Option Addr) (n c : Nat) (sq : List Int) (D : Option Addr) (r d : Nat) (M : List (List Int)) (m : Nat) (w : World) (hn : n ≤ 1048576) (hr0 : 0 < r) (hr : r ≤ 16) (hm1 : 1 ≤ m) (hm : m ≤ 16) (ha : Rd w A n (ints sq)) (hd : RdII w D r M) (hM : Rect m M) :
    Calls Tryz.prog 12 #[.agg #[.int .i64 P, .slice A n c], .slice D r d] w fun e w' => e = .returned (.tuple #[.int .i64 (ordR P sq M).1, .int .i64 (ordR P sq M).2]) ∧ Below w.heap.size w w' := by
 have hB0 : Below w.heap.size w (w.alloc (.cells #[.int .i64 P, .slice A n c] 26)) := zG.alloc (Nat.le_refl _) _
 have k0 : Blk (w.alloc (.cells #[.int .i64 P, .slice A n c] 26)) w.heap.size 26 #[.int .i64 P, .slice A n c] := Blk.new _ _ _
 have hck := checkOrthogonal_any P A n c sq D r d M m (w.alloc (.cells #[.int .i64 P, .slice A n c] 26)) hn hr0 hr hm1 hm (ha.below hB0) (hd.below hB0) hM
 obtain ⟨R, hR⟩ : ∃ R, R = ordR P sq M := ⟨_, rfl⟩
 rw [← hR]
 by_cases hc : codeO P sq M = 0
 · rw [hc] at hck
   have hRv := hR
   unfold ordR at hRv
   rw [if_pos hc] at hRv
   obtain ⟨h1, h2, h3⟩ := codeO_zero hc
   have hsl := ha.lenI
   obtain ⟨hl, hT⟩ := isoB_frame h3
   obtain ⟨HP, hd1, hd2, -⟩ := isSp_dim h1
   obtain ⟨hp3, hp2⟩ := isP_ge HP
   rw [hsl] at hl hT hd1 hd2 hRv
   obtain rfl : n = r := by rw [← hl]; exact hd.len
   have HT := Lib.hid hT
   have HML := Lib.hid hl
   have HPP := Lib.hid HP
   have HD := Lib.hid hd
   have HRV := Lib.hid hRv
   clear hc h1 h2 h3 hsl hl hT hM hRv hR HP hd ha
   go_enter Tryz.func12, Tryz.ntmps12
   obtain ⟨q0, q1⟩ := k0.two
   go_wp2_with fail
   refine hck.mono ?_
   rintro e w2 ⟨rfl, hb2⟩
   have hB2 := hB0.trans (hb2.mono hB0.size)
   have k2 := k0.below hb2 k0.lt
   clear q0 q1
   clear hck k0 hB0
   obtain ⟨q0, q1⟩ := k2.two
   go_wp2_with fail
   refine (dim_any P A n c w2).mono ?_
   rintro e w3 ⟨rfl, hb3⟩
   have hB3 := hB2.trans (hb3.mono hB2.size)
   have k3 := k2.below hb3 k2.lt
   go_wp2_with fail
   refine (unit_any n w3 (by omega)).mono ?_
   rintro e w4 ⟨U, cu, rfl, hU⟩
   have hB4 := hB3.trans (hU.b.mono hB3.size)
   have k4 := k3.below hU.b k3.lt
   have hu4 := hU.rd
   have r0 : RdII w4 D n (powL P n M 1) := by rw [powL_one (show 2 ≤ P by omega) hd1 HT.out HML.out]; exact HD.out.below hB4
   clear q0 q1 k2 k3 hb3 hB3 hU hB2 hb2
   go_wp2
   go_loopw [7, 9] (fun pv kv wr => ∃ (k : Nat) (A0 : Option Addr) (c0 : Nat), 1 ≤ k ∧ k ≤ 100001 ∧ kv = .int .i64 k ∧ pv = .slice A0 n c0 ∧ RdII wr A0 n (powL P n M k) ∧ Below w4.heap.size w4 wr ∧ Hid (ordS P n M 100000 1 = ordS P n M (100001 - k) k)) (fun _ kv _ => 100001 - (intOf kv).toNat)
   case atStart => exact ⟨1, D, d, by omega, by omega, rfl, rfl, r0, Below.refl _ _, Lib.hid rfl⟩
   case round =>
    obtain ⟨k, A0, c0, hk1, hk2, rfl, rfl, hr, hbr, HO⟩ := hrel
    clear r0
    by_cases hlt : k ≤ 100000
    · skip
      have hTk := (powL_tab (show 2 ≤ P by omega) hd1 HT.out HML.out k)
      have HTK := Lib.hid hTk
      obtain ⟨t, ht⟩ : ∃ t, t = decide (powL P n M k = unitM n) := ⟨_, rfl⟩
      have HT2 := Lib.hid (ordS_known hk1 hlt HO.out ht)
      have hcall := sameRows_any A0 U n c0 cu (powL P n M k) (unitM n) n wr (by omega) (by omega) hr (hu4.below hbr) (Rect.of_tab hTk.1) (Rect.of_tab (unitM_tab (p := P) (by omega) n))
      rw [← ht] at hcall
      have t1 : decide ((k : Int) ≤ 100000) = true := by simp; omega
      have HR := Lib.hid hr
      clear ht hTk hr HO
      go_wp2_with fail
      refine hcall.mono ?_
      rintro e w5 ⟨rfl, hb5⟩
      have hb6 := hbr.trans (hb5.mono hbr.size)
      have HR5 := Lib.hid (HR.out.below hb5)
      clear hcall HR
      cases t
      · have HO2 := Lib.hid (HT2.out.2 rfl)
        clear HT2
        have k5 := k4.below hb6 k4.lt
        obtain ⟨q0, q1⟩ := k5.two
        go_wp2_with fail
        refine (field_any P A n c w5).mono ?_
        rintro e w6 ⟨rfl, hb7⟩
        have hb8 := hb6.trans (hb7.mono hb6.size)
        have hcall := timesM_any P A0 n c0 (powL P n M k) D d M w6 (by omega) hp2 hd1 (by omega) (HR5.out.below hb7) HTK.out.1 (HD.out.below (hB4.trans (hb8.mono hB4.size))) HT.out
        clear q0 q1
        go_wp2_with fail
        refine hcall.mono ?_
        rintro e w7 ⟨A7, c7, rfl, hM7⟩
        have hb9 := hb8.trans (hM7.b.mono hb8.size)
        have r7 : RdII w7 A7 n (powL P n M (k + 1)) := hM7.rd
        clear hcall hM7 HR5 HTK
        go_wp2
        go_roundw
        case rel => exact ⟨k + 1, A7, c7, by omega, by omega, by go_num, rfl, r7, hb9, HO2⟩
        case measure => simp [intOf]; omega
      · obtain rfl : R = ((k : Int), 0) := by rw [HRV.out, HT2.out.1 rfl]; rfl
        go_wp2
        go_ret2
        exact ⟨rfl, hB4.trans (hb6.mono hB4.size)⟩
    · obtain rfl : k = 100001 := by omega
      have e9 : ordS P n M (100001 - 100001) 100001 = none := by rw [show 100001 - 100001 = 0 by omega]; rfl
      obtain rfl : R = (0, 3) := by rw [HRV.out, HO.out, e9]; rfl
      go_wp2
      go_ret2
      exact ⟨rfl, hB4.trans (hbr.mono hB4.size)⟩
 · skip
   obtain ⟨v, hv⟩ : ∃ v, v = codeO P sq M := ⟨_, rfl⟩
   have hRv := hR
   unfold ordR at hRv
   rw [if_neg hc, ← hv] at hRv
   rw [← hv] at hck
   have b0 : (v != 0) = true := code_ne (by rw [hv]; exact hc)
   have b1 : (v == 0) = false := by
    rw [beq_eq_false_iff_ne]; rw [hv]; exact hc
   subst hRv
   clear hc hv hM ha hd hR
   go_enter Tryz.func12, Tryz.ntmps12
   obtain ⟨q0, q1⟩ := k0.two
   go_wp2_with fail
   refine hck.mono ?_
   rintro e w2 ⟨rfl, hb2⟩
   have hB2 := hB0.trans (hb2.mono hB0.size)
   have k2 := k0.below hb2 k0.lt
   clear q0 q1
   go_wp2
   go_ret2
   exact ⟨rfl, hB2⟩
set_option maxHeartbeats 3200000 in
set_option maxRecDepth 8000 in
theorem specOrthogonalOrder_any (P : Int) (A : Option Addr) (n c : Nat) (sq : List Int) (D : Option Addr) (r d : Nat) (M : List (List Int)) (m : Nat) (w : World) (hn : n ≤ 1048576) (hr0 : 0 < r) (hr : r ≤ 16) (hm1 : 1 ≤ m) (hm : m ≤ 16) (ha : Rd w A n (ints sq)) (hd : RdII w D r M) (hM : Rect m M) :
    Calls Tryz.prog 13 #[.agg #[.int .i64 P, .slice A n c], .slice D r d] w fun e w' => e = .returned (.tuple #[.int .i64 (ordR P sq M).1, .int .i64 (ordR P sq M).2]) ∧ Below w.heap.size w w' := by
 have hB0 : Below w.heap.size w (w.alloc (.cells #[.int .i64 P, .slice A n c] 26)) := zG.alloc (Nat.le_refl _) _
 have k0 : Blk (w.alloc (.cells #[.int .i64 P, .slice A n c] 26)) w.heap.size 26 #[.int .i64 P, .slice A n c] := Blk.new _ _ _
 have hck := l08Code_any P A n c sq D r d M m (w.alloc (.cells #[.int .i64 P, .slice A n c] 26)) hn hr0 hr hm1 hm (ha.below hB0) (hd.below hB0) hM
 obtain ⟨R, hR⟩ : ∃ R, R = ordR P sq M := ⟨_, rfl⟩
 rw [← hR]
 by_cases hc : codeO P sq M = 0
 · rw [hc] at hck
   have hRv := hR
   unfold ordR at hRv
   rw [if_pos hc] at hRv
   obtain ⟨h1, h2, h3⟩ := codeO_zero hc
   have hsl := ha.lenI
   obtain ⟨hl, hT⟩ := isoB_frame h3
   obtain ⟨HP, hd1, hd2, -⟩ := isSp_dim h1
   obtain ⟨hp3, hp2⟩ := isP_ge HP
   rw [hsl] at hl hT hd1 hd2 hRv
   obtain rfl : n = r := by rw [← hl]; exact hd.len
   have HT := Lib.hid hT
   have HML := Lib.hid hl
   have HPP := Lib.hid HP
   have HD := Lib.hid hd
   have HRV := Lib.hid hRv
   clear hc h1 h2 h3 hsl hl hT hM hRv hR HP hd ha
   go_enter Tryz.func13, Tryz.ntmps13
   obtain ⟨q0, q1⟩ := k0.two
   go_wp2_with fail
   refine hck.mono ?_
   rintro e w2 ⟨rfl, hb2⟩
   have hB2 := hB0.trans (hb2.mono hB0.size)
   have k2 := k0.below hb2 k0.lt
   clear q0 q1
   clear hck k0 hB0
   have hmlen := HD.out.len
   go_wp2_with fail
   refine (l02Unit_any n w2 (by omega)).mono ?_
   rintro e w4 ⟨U, cu, rfl, hU⟩
   have hB4 := hB2.trans (hU.b.mono hB2.size)
   have k4 := k2.below hU.b k2.lt
   have hu4 := hU.rd
   have r0 : RdII w4 D n (powL P n M 1) := by rw [powL_one (show 2 ≤ P by omega) hd1 HT.out HML.out]; exact HD.out.below hB4
   clear k2 hU hB2 hb2 hmlen
   go_wp2
   go_loopw [8, 9] (fun pv kv wr => ∃ (k : Nat) (A0 : Option Addr) (c0 : Nat), 1 ≤ k ∧ k ≤ 100000 ∧ kv = .int .i64 k ∧ pv = .slice A0 n c0 ∧ RdII wr A0 n (powL P n M k) ∧ Below w4.heap.size w4 wr ∧ Hid (ordS P n M 100000 1 = ordS P n M (100001 - k) k)) (fun _ kv _ => 100001 - (intOf kv).toNat)
   case atStart => exact ⟨1, D, d, by omega, by omega, rfl, rfl, r0, Below.refl _ _, Lib.hid rfl⟩
   case round =>
    obtain ⟨k, A0, c0, hk1, hlt, rfl, rfl, hr, hbr, HO⟩ := hrel
    clear r0
    have hTk := (powL_tab (show 2 ≤ P by omega) hd1 HT.out HML.out k)
    have HTK := Lib.hid hTk
    obtain ⟨t, ht⟩ : ∃ t, t = decide (powL P n M k = unitM n) := ⟨_, rfl⟩
    have HT2 := Lib.hid (ordS_known hk1 hlt HO.out ht)
    have hcall := same2_any A0 U n c0 cu (powL P n M k) (unitM n) n wr (by omega) (by omega) hr (hu4.below hbr) (Rect.of_tab hTk.1) (Rect.of_tab (unitM_tab (p := P) (by omega) n))
    rw [← ht] at hcall
    have HR := Lib.hid hr
    clear ht hTk hr HO
    go_wp2_with fail
    refine hcall.mono ?_
    rintro e w5 ⟨rfl, hb5⟩
    have hb6 := hbr.trans (hb5.mono hbr.size)
    have HR5 := Lib.hid (HR.out.below hb5)
    clear hcall HR
    cases t
    · have HO2 := Lib.hid (HT2.out.2 rfl)
      clear HT2
      have k5 := k4.below hb6 k4.lt
      obtain ⟨q0, q1⟩ := k5.two
      have hcall := l02Times_any P A0 n c0 (powL P n M k) D d M w5 (by omega) hp2 hd1 (by omega) HR5.out HTK.out.1 (HD.out.below (hB4.trans (hb6.mono hB4.size))) HT.out
      go_wp2_with fail
      refine hcall.mono ?_
      rintro e w7 ⟨A7, c7, rfl, hM7⟩
      have hb9 := hb6.trans (hM7.b.mono hb6.size)
      have r7 : RdII w7 A7 n (powL P n M (k + 1)) := hM7.rd
      have W1 : IntKind.i64.wrap ((k : Int) + 1) = (k : Int) + 1 := i64_fit _ (by omega) (by omega)
      clear hcall hM7 HR5 HTK q0 q1
      by_cases hk9 : k + 1 ≤ 100000
      · have t1 : decide ((100000 : Int) < (k : Int) + 1) = false := by simp; omega
        go_wp2
        go_roundw
        case rel => exact ⟨k + 1, A7, c7, by omega, by omega, by go_num, rfl, r7, hb9, HO2⟩
        case measure => simp [intOf]; omega
      · obtain rfl : k = 100000 := by omega
        have e9 : ordS P n M (100001 - (100000 + 1)) (100000 + 1) = none := by rw [show 100001 - (100000 + 1) = 0 by omega]; rfl
        obtain rfl : R = (0, 3) := by rw [HRV.out, HO2.out, e9]; rfl
        go_wp2
        go_ret2
        exact ⟨rfl, hB4.trans (hb9.mono hB4.size)⟩
    · obtain rfl : R = ((k : Int), 0) := by rw [HRV.out, HT2.out.1 rfl]; rfl
      go_wp2
      go_ret2
      exact ⟨rfl, hB4.trans (hb6.mono hB4.size)⟩
 · skip
   obtain ⟨v, hv⟩ : ∃ v, v = codeO P sq M := ⟨_, rfl⟩
   have hRv := hR
   unfold ordR at hRv
   rw [if_neg hc, ← hv] at hRv
   rw [← hv] at hck
   have b0 : (v != 0) = true := code_ne (by rw [hv]; exact hc)
   have b1 : (v == 0) = false := by
    rw [beq_eq_false_iff_ne]; rw [hv]; exact hc
   subst hRv
   clear hc hv hM ha hd hR
   go_enter Tryz.func13, Tryz.ntmps13
   obtain ⟨q0, q1⟩ := k0.two
   go_wp2_with fail
   refine hck.mono ?_
   rintro e w2 ⟨rfl, hb2⟩
   have hB2 := hB0.trans (hb2.mono hB0.size)
   have k2 := k0.below hb2 k0.lt
   clear q0 q1
   go_wp2
   go_ret2
   exact ⟨rfl, hB2⟩
set_option maxHeartbeats 3200000 in
set_option maxRecDepth 8000 in
theorem FixedVectors_any (P : Int) (A : Option Addr) (n c : Nat) (sq : List Int) (D : Option Addr) (r d : Nat) (M : List (List Int)) (m : Nat) (w : World) (hn : n ≤ 1048576) (hr0 : 0 < r) (hr : r ≤ 16) (hm1 : 1 ≤ m) (hm : m ≤ 16) (ha : Rd w A n (ints sq)) (hd : RdII w D r M) (hM : Rect m M) :
    Calls Tryz.prog 10 #[.agg #[.int .i64 P, .slice A n c], .slice D r d] w fun e w' => ∃ (A' : Option Addr) (k c' : Nat), e = .returned (.tuple #[.slice A' k c', .int .i64 (fixR P sq M).2]) ∧ MkII w w' A' k c' (fixR P sq M).1 := by
 have hB0 : Below w.heap.size w (w.alloc (.cells #[.int .i64 P, .slice A n c] 26)) := zG.alloc (Nat.le_refl _) _
 have k0 : Blk (w.alloc (.cells #[.int .i64 P, .slice A n c] 26)) w.heap.size 26 #[.int .i64 P, .slice A n c] := Blk.new _ _ _
 have hck := checkOrthogonal_any P A n c sq D r d M m (w.alloc (.cells #[.int .i64 P, .slice A n c] 26)) hn hr0 hr hm1 hm (ha.below hB0) (hd.below hB0) hM
 obtain ⟨R, hR⟩ : ∃ R, R = fixR P sq M := ⟨_, rfl⟩
 rw [← hR]
 by_cases hc : codeO P sq M = 0
 · rw [hc] at hck
   have hRv := hR
   unfold fixR at hRv
   rw [if_pos hc] at hRv
   obtain ⟨h1, h2, h3⟩ := codeO_zero hc
   have hsl := ha.lenI
   obtain ⟨hl, hT⟩ := isoB_frame h3
   obtain ⟨HP, hd1, hd2, -⟩ := isSp_dim h1
   obtain ⟨hp3, hp2⟩ := isP_ge HP
   rw [hsl] at hl hT hd1 hd2 hRv
   obtain rfl : n = r := by rw [← hl]; exact hd.len
   have HT := Lib.hid hT
   have HML := Lib.hid hl
   have HPP := Lib.hid HP
   have HD := Lib.hid hd
   have HRV := Lib.hid hRv
   clear hc h1 h2 h3 hsl hl hT hM hRv hR HP hd ha
   go_enter Tryz.func10, Tryz.ntmps10
   obtain ⟨q0, q1⟩ := k0.two
   go_wp2_with fail
   refine hck.mono ?_
   rintro e w2 ⟨rfl, hb2⟩
   have hB2 := hB0.trans (hb2.mono hB0.size)
   have k2 := k0.below hb2 k0.lt
   clear q0 q1
   clear hck k0 hB0
   have HSU := Lib.hid fun (w' : World) (B : Option Addr) (b : Nat) (h : Below w2.heap.size w2 w') (hu : RdII w' B n (unitM n)) => sumG_any P D n d M B b (unitM n) (-1) w' (by omega) hp2 (by omega) (HD.out.below (hB2.trans (h.mono hB2.size))) HT.out hu (unitM_tab (by omega) n) (by omega) (by omega)
   rw [sumL_less HML.out] at HSU
   have HKE := Lib.hid fun (w' : World) (B : Option Addr) (b : Nat) (h : RdII w' B n (lessM P n M)) => kernel_any P B n b (lessM P n M) n w' HPP.out (by omega) (by omega) h (lessM_tab (by omega) HT.out HML.out)
   obtain ⟨KL, hKL⟩ : ∃ X, X = kernL P (lessM P n M) n := ⟨_, rfl⟩
   obtain ⟨kl, hkl⟩ : ∃ X, X = KL.length := ⟨_, rfl⟩
   rw [← hKL, ← hkl] at HKE
   rw [← hKL] at HRV
   obtain rfl : R = (KL, 0) := HRV.out
   clear hKL hkl HRV
   go_wp2
   refine wp_obs 14 [[],[0],[],[2],[],[],[5],[5,6],[2,3,4,5,6,7],[],[9],[0,1,2,3,4,5,6,7,8,9,10],[0,1,2,3,4,5,6,7,8,9,10,11],[]] [VIs (.agg #[.int .i64 P, .slice A n c]), VIs (.int .i64 (P)), VIs (.agg #[.int .i64 P, .slice A n c]), VIs (.int .i64 (P)), VIs (.slice D n d), VIs (.agg #[.int .i64 P, .slice A n c]), VIs (.int .i64 (n)), VMat w2 n (unitM n), VMat w2 n (lessM P n M), VIs (.agg #[.int .i64 P, .slice A n c]), VIs (.int .i64 (n)), VMat w2 kl KL, VMat w2 kl KL, VIs (.int .i64 0)] (fun w' => Blk w' w.heap.size 26 #[.int .i64 P, .slice A n c] ∧ Below w2.heap.size w2 w') (by kernel_rfl) (by kernel_rfl) (fun _ _ h hb => ⟨h.1.below hb h.1.lt, h.2.trans (hb.mono h.2.size)⟩) (⟨k2.drew, zG.drew⟩) (fun x => ?_)
   refine zS (fun w' hS hV K hK => ?_) ?_
   · obtain ⟨q0, q1⟩ := hS.1.two; go_simp; exact zO hK
   refine zS (fun w' hS hV K hK => ?_) ?_
   · have e0 := zQ hV 0; obtain ⟨q0, q1⟩ := hS.1.two; go_simp; refine (field_any P A n c w').mono ?_; rintro e v1 ⟨rfl, hb⟩; exact hK.out _ _ _ rfl rfl rfl hb
   refine zS (fun w' hS hV K hK => ?_) ?_
   · obtain ⟨q0, q1⟩ := hS.1.two; go_simp; exact zO hK
   refine zS (fun w' hS hV K hK => ?_) ?_
   · have e2 := zQ hV 2; obtain ⟨q0, q1⟩ := hS.1.two; go_simp; refine (field_any P A n c w').mono ?_; rintro e v1 ⟨rfl, hb⟩; exact hK.out _ _ _ rfl rfl rfl hb
   refine zS (fun w' hS hV K hK => ?_) ?_
   · obtain ⟨q0, q1⟩ := hS.1.two; go_simp; exact zO hK
   refine zS (fun w' hS hV K hK => ?_) ?_
   · obtain ⟨q0, q1⟩ := hS.1.two; go_simp; exact zO hK
   refine zS (fun w' hS hV K hK => ?_) ?_
   · have e5 := zQ hV 5; obtain ⟨q0, q1⟩ := hS.1.two; go_simp; refine (dim_any P A n c w').mono ?_; rintro e v1 ⟨rfl, hb⟩; exact hK.out _ _ _ rfl rfl rfl hb
   refine zS (fun w' hS hV K hK => ?_) ?_
   · have e6 := zQ hV 6; obtain ⟨q0, q1⟩ := hS.1.two; go_simp; refine (unit_any n w' (by omega)).mono ?_; rintro e v1 ⟨A9, c9, rfl, hM⟩; exact hK.out _ _ _ rfl rfl ⟨_, _, rfl, hM.after hS.2⟩ hM.b
   refine zS (fun w' hS hV K hK => ?_) ?_
   · have e3 := zQ hV 3; have e4 := zQ hV 4; obtain ⟨A7, c7, e7, h7⟩ := hV 7 (by decide); obtain ⟨q0, q1⟩ := hS.1.two; go_simp; refine (HSU.out w' _ _ hS.2 h7.rd).mono ?_; rintro e v1 ⟨A9, c9, rfl, hM⟩; exact hK.out _ _ _ rfl rfl ⟨_, _, rfl, hM.after hS.2⟩ hM.b
   refine zS (fun w' hS hV K hK => ?_) ?_
   · obtain ⟨q0, q1⟩ := hS.1.two; go_simp; exact zO hK
   refine zS (fun w' hS hV K hK => ?_) ?_
   · have e9 := zQ hV 9; obtain ⟨q0, q1⟩ := hS.1.two; go_simp; refine (dim_any P A n c w').mono ?_; rintro e v1 ⟨rfl, hb⟩; exact hK.out _ _ _ rfl rfl rfl hb
   refine zS (fun w' hS hV K hK => ?_) ?_
   · have e1 := zQ hV 1; obtain ⟨A7, c7, e7, h7⟩ := hV 7 (by decide); obtain ⟨A8, c8, e8, h8⟩ := hV 8 (by decide); have e10 := zQ hV 10; obtain ⟨q0, q1⟩ := hS.1.two; go_simp; refine (HKE.out w' _ _ h8.rd).mono ?_; rintro e v1 ⟨A9, c9, rfl, hM⟩; exact hK.out _ _ _ rfl rfl ⟨_, _, rfl, hM.after hS.2⟩ hM.b
   refine zS (fun w' hS hV K hK => ?_) ?_
   · obtain ⟨A7, c7, e7, h7⟩ := hV 7 (by decide); obtain ⟨A8, c8, e8, h8⟩ := hV 8 (by decide); obtain ⟨A11, c11, e11, h11⟩ := hV 11 (by decide); obtain ⟨q0, q1⟩ := hS.1.two; go_simp; exact hK.out _ _ _ rfl rfl ⟨_, _, rfl, h11⟩ zG
   refine zS (fun w' hS hV K hK => ?_) ?_
   · obtain ⟨q0, q1⟩ := hS.1.two; go_simp; exact zO hK
   refine fun w' hS hV => ?_
   have e0 := zT hV 0
   have e1 := zT hV 1
   have e2 := zT hV 2
   have e3 := zT hV 3
   have e4 := zT hV 4
   have e5 := zT hV 5
   have e6 := zT hV 6
   obtain ⟨A7, c7, e7, h7⟩ := hV 7 (by decide)
   obtain ⟨A8, c8, e8, h8⟩ := hV 8 (by decide)
   have e9 := zT hV 9
   have e10 := zT hV 10
   obtain ⟨A11, c11, e11, h11⟩ := hV 11 (by decide)
   obtain ⟨A12, c12, e12, h12⟩ := hV 12 (by decide)
   have e13 := zT hV 13
   simp only [e0, e1, e2, e3, e4, e5, e6, e7, e8, e9, e10, e11, e12, e13]
   clear e0 e1 e2 e3 e4 e5 e6 e7 e8 e9 e10 e11 e12 e13
   refine wpAny_done (by kernel_rfl) ?_ _
   have hM := h12.after hB2
   clear hS
   go_wp2
   go_ret2
   exact ⟨_, _, _, rfl, hM⟩
 · skip
   obtain ⟨v, hv⟩ : ∃ v, v = codeO P sq M := ⟨_, rfl⟩
   have hRv := hR
   unfold fixR at hRv
   rw [if_neg hc, ← hv] at hRv
   rw [← hv] at hck
   have b0 : (v != 0) = true := code_ne (by rw [hv]; exact hc)
   have b1 : (v == 0) = false := by
    rw [beq_eq_false_iff_ne]; rw [hv]; exact hc
   subst hRv
   clear hc hv hM ha hd hR
   go_enter Tryz.func10, Tryz.ntmps10
   obtain ⟨q0, q1⟩ := k0.two
   go_wp2_with fail
   refine hck.mono ?_
   rintro e w2 ⟨rfl, hb2⟩
   have hB2 := hB0.trans (hb2.mono hB0.size)
   have k2 := k0.below hb2 k0.lt
   clear q0 q1
   go_wp2
   go_ret2
   exact ⟨none, 0, 0, rfl, MkII.nil hB2⟩
/-- A space and a list, drawn. -/
def Drew1 (w : World) (e : Ending) (w' : World) : Prop := ∃ (P : Int) (A : Option Addr) (n c : Nat) (sq : List Int) (A1 : Option Addr) (m1 c1 : Nat) (xs : List Int), e = .returned (.tuple #[.agg #[.int .i64 P, .slice A n c], .slice A1 m1 c1]) ∧ P ≤ 17 ∧ n ≤ 7 ∧ m1 ≤ 100 ∧ Own w' w.heap.size 2 A n c (ints sq) ∧ Own w' w.heap.size 2 A1 m1 c1 (ints xs) ∧ Below w.heap.size w w'
/-- The value is a pointer to a row's cell. -/
def VIy (gl ol k : Nat) : VP := ⟨fun v _ => ∃ j : Nat, j < k ∧ v = .pointer (some ⟨gl, ol + j, none⟩), fun _ _ _ h _ => h⟩
/-- The value is a number between two. -/
def VNt (a b : Nat) : VP := ⟨fun v _ => ∃ k : Nat, v = .int .i64 (k : Int) ∧ a ≤ k ∧ k ≤ b, fun _ _ _ h _ => h⟩
/-- The value is a list of lists of one length. -/
def VRm (B : Nat) : VP := ⟨fun v w => ∃ (A : Option Addr) (r c m : Nat) (L : List (List Int)), v = .slice A r c ∧ 0 < r ∧ r ≤ 16 ∧ 1 ≤ m ∧ m ≤ 16 ∧ Rect m L ∧ OwnM w B A r c L, fun _ _ _ ⟨A, r, c, m, L, e, h1, h2, h3, h4, h5, ho⟩ hb => ⟨A, r, c, m, L, e, h1, h2, h3, h4, h5, ho.below hb⟩⟩
theorem VRm.dr {B g : Nat} {T : TypeId} {v : Value} {w w' : World} (h : (VRm B).p v w) (d : Dr g T w w') (h1 : 24 ≠ T) (h2 : 2 ≠ T) : (VRm B).p v w' := by
 obtain ⟨A, r, c, m, L, e, a1, a2, a3, a4, a5, ho⟩ := h
 exact ⟨A, r, c, m, L, e, a1, a2, a3, a4, a5, ho.dr d h1 h2⟩
/-- A list of one list of one number. -/
theorem OwnM.lit1 {w : World} {B b0 b1 : Nat} {x : Int} (h0 : Blk w b0 2 #[.int .i64 x]) (h1 : Blk w b1 24 #[.slice (some ⟨b0, 0, none⟩) 1 1]) (hB0 : B ≤ b0) (hB1 : B ≤ b1) : OwnM w B (some ⟨b1, 0, none⟩) 1 1 [[x]] := by
 refine ⟨[.slice (some ⟨b0, 0, none⟩) 1 1], Own.of_cells (cs := #[.slice (some ⟨b0, 0, none⟩) 1 1]) hB1 h1 (by simp [maxLen]), rfl, fun k hk => ?_, fun i j g hij hi => ?_⟩
 · obtain rfl : k = 0 := by simp at hk; omega
   exact ⟨_, _, rfl, Own.of_cells (cs := #[.int .i64 x]) hB0 h0 (by simp [maxLen])⟩
 · have : j ≠ 0 := by omega
   obtain ⟨j, rfl⟩ : ∃ q, j = q + 1 := ⟨j - 1, by omega⟩
   simp
set_option maxHeartbeats 12800000 in
set_option maxRecDepth 8000 in
theorem l02Draw_any (g : Nat) (p : Int) (rows cols : Nat) (w : World) (hs : Src w g 144) (hp : 2 ≤ p) (hp2 : p ≤ 13) (hr : rows ≤ 100) (hc : cols ≤ 100) :
    Calls Tryz.prog 183 #[.pointer (some ⟨g, 0, none⟩), .int .i64 p, .int .i64 rows, .int .i64 cols] w fun e w' => ∃ (A' : Option Addr) (c' : Nat) (L : List (List Int)), e = .returned (.slice A' rows c') ∧ Tab p cols L ∧ OwnM w' w.heap.size A' rows c' L ∧ Dr g 144 w w' := by
 have d1 := (Dr.refl hs).alloc (.cells #[] 24)
 have l1 := OwnM.empty w (B := w.heap.size) (Nat.le_refl _)
 go_enter Tryz.func183, Tryz.ntmps183
 go_wp2
 go_loopw [9, 10] (fun l i wr => ∃ (k : Nat) (A0 : Option Addr) (c0 : Nat) (L : List (List Int)), k ≤ rows ∧ i = .int .i64 k ∧ l = .slice A0 k c0 ∧ Tab p cols L ∧ OwnM wr w.heap.size A0 k c0 L ∧ Dr g 144 w wr) (fun _ i _ => rows - (intOf i).toNat)
 case atStart => exact ⟨0, _, _, [], by omega, rfl, rfl, (fun u hu => by simp at hu), l1, d1⟩
 case round =>
  obtain ⟨k, A0, c0, L, hk, rfl, rfl, hTL, hL, hD⟩ := hrel
  clear l1 d1
  obtain ⟨wo, rfl⟩ : ∃ W, W = wr := ⟨_, rfl⟩
  have HTL := Lib.hid hTL
  have HL := Lib.hid hL
  have HD := Lib.hid hD
  clear hTL hL
  by_cases hlt : k < rows
  · have hli := nextList_any g p cols wo hD.s' (by omega) (by omega)
    clear hD
    go_wp2_with fail
    refine hli.mono ?_
    rintro e w3 ⟨A1, c1, v, rfl, hvl, hvx, hv, hd3⟩
    have HVL := Lib.hid (show v.length = cols ∧ NumsL p v from ⟨hvl, nums_of (by omega) hvx⟩)
    clear hli hvl hvx
    by_cases hk0 : 0 < k
    · have t1 : decide ((0 : Int) < (k : Int)) = true := by simp; omega
      have hnx := next_any g 4 w3 hd3.s' (by omega)
      go_wp2_with fail
      refine hnx.mono ?_
      rintro e w4 ⟨r8, rfl, _, _, hd8⟩
      have d4 := hd3.trans hd8
      by_cases h8 : r8 = 0
      · have e8 : (r8 == 0) = true := by simp [h8]
        have L4 := HL.out.dr d4 (by decide) (by decide)
        have D4 := HD.out.trans d4
        have D5 := Lib.hid d4
        obtain ⟨gl, ol, hx0, R0, d0, eA, -, -, -⟩ := HL.out.at_ hk0
        subst eA
        clear hnx hd3 hd8 hv HVL hx0 d4
        go_wp2
        refine wp_obsR 23 (Dr g 144) [[], [], [], [], [], [3, 4], [2, 3, 4, 5], [2, 3, 4, 5, 6], [], [], [3, 4, 5, 8, 9], [1, 2, 3, 4, 5, 6, 7, 8, 9, 10], [], [], [], [1, 2, 3, 4, 5, 6, 7, 8, 9, 10, 11, 13, 14], [1, 2, 3, 4, 5, 6, 7, 8, 9, 10, 11, 12, 13, 14, 15], [1, 2, 3, 4, 5, 6, 7, 8, 9, 10, 11, 12, 13, 14, 15, 16], [], [], [1, 2, 3, 4, 5, 6, 7, 8, 9, 10, 11, 13, 14, 15, 18, 19], [0, 1, 2, 3, 4, 5, 6, 7, 8, 9, 10, 11, 12, 13, 14, 15, 16, 17, 18, 19, 20], [0, 1, 2, 3, 4, 5, 6, 7, 8, 9, 10, 11, 12, 13, 14, 15, 16, 17, 18, 19, 20, 21]] [[], [], [], [], [], [99], [], [], [], [], [99], [], [], [], [], [99], [], [], [], [], [99], [], []] (fun x => [VIs (.int .i64 (p)), VIs (.int .i64 (p)), VIs (.slice (some ⟨gl, ol, none⟩) k c0), VIs (.pointer (some ⟨g, 0, none⟩)), VIs (.int .i64 (k)), VIz k, VIy gl ol k, VLs 0 cols p, VIs (.pointer (some ⟨g, 0, none⟩)), VIs (.int .i64 (p)), VIz p, VLs 0 cols p, VIs (.slice (some ⟨gl, ol, none⟩) k c0), VIs (.pointer (some ⟨g, 0, none⟩)), VIs (.int .i64 (k)), VIz k, VIy gl ol k, VLs 0 cols p, VIs (.pointer (some ⟨g, 0, none⟩)), VIs (.int .i64 (p)), VIz p, VLs w4.heap.size cols p, VLs w4.heap.size cols p]) (fun w' => OwnM w' w.heap.size (some ⟨gl, ol, none⟩) k c0 L ∧ Dr g 144 w4 w') (by kernel_rfl) (by kernel_rfl) (fun x x' j hx => by
            rcases j with _ | _ | _ | _ | _ | _ | _ | _ | _ | _ | _ | _ | _ | _ | _ | _ | _ | _ | _ | _ | _ | _ | _ | j
            · rfl
            · rfl
            · rfl
            · rfl
            · rfl
            · rfl
            · rfl
            · rfl
            · rfl
            · rfl
            · rfl
            · rfl
            · rfl
            · rfl
            · rfl
            · rfl
            · rfl
            · rfl
            · rfl
            · rfl
            · rfl
            · rfl
            · rfl
            · rfl)
         (weak_ofR [0, 1, 2, 3, 4, 5, 6, 7, 8, 9, 10, 11, 12, 13, 14, 15, 16, 17, 18, 19, 20, 21, 22] (by decide) (fun k hk x v w w' hp hr => by
          simp only [List.mem_cons, zJ, or_false] at hk
          rcases hk with rfl | rfl | rfl | rfl | rfl | rfl | rfl | rfl | rfl | rfl | rfl | rfl | rfl | rfl | rfl | rfl | rfl | rfl | rfl | rfl | rfl | rfl | rfl
          · exact hp
          · exact hp
          · exact hp
          · exact hp
          · exact hp
          · exact hp
          · exact hp
          · exact VLs.dr hp hr (by decide)
          · exact hp
          · exact hp
          · exact hp
          · exact VLs.dr hp hr (by decide)
          · exact hp
          · exact hp
          · exact hp
          · exact hp
          · exact hp
          · exact VLs.dr hp hr (by decide)
          · exact hp
          · exact hp
          · exact hp
          · exact VLs.dr hp hr (by decide)
          · exact VLs.dr hp hr (by decide))) (fun j _ _ h hb => hb.either (fun hb => ⟨h.1.below hb, h.2.then hb⟩) (fun hr => ⟨h.1.dr hr (by decide) (by decide), h.2.trans hr⟩)) (⟨L4.below zG.drew, (Dr.refl D4.s').then zG.drew⟩) (fun x => ?_)
        refine zSR (fun w' hS hV K hK => ?_) ?_
        · go_simp; exact hK.out _ _ _ rfl rfl rfl zG
        refine zSR (fun w' hS hV K hK => ?_) ?_
        · go_simp; exact hK.out _ _ _ rfl rfl rfl zG
        refine zSR (fun w' hS hV K hK => ?_) ?_
        · go_simp; exact hK.out _ _ _ rfl rfl rfl zG
        refine zSR (fun w' hS hV K hK => ?_) ?_
        · go_simp; exact hK.out _ _ _ rfl rfl rfl zG
        refine zSR (fun w' hS hV K hK => ?_) ?_
        · go_simp; exact hK.out _ _ _ rfl rfl rfl zG
        refine zSR (fun w' hS hV K hK => ?_) ?_
        · have e3 := zQ hV 3; have e4 := zQ hV 4; go_simp; refine (next_any g (k : Int) w' hS.2.s' (by omega)).mono ?_; rintro e v1 ⟨r9, rfl, t8, t9, hd9⟩; exact hK.out _ _ _ rfl rfl ⟨r9, rfl, t8, t9 (by omega)⟩ hd9
        refine zSR (fun w' hS hV K hK => ?_) ?_
        · have e2 := zQ hV 2
          obtain ⟨k5, e5, b5, d5⟩ := hV 5 (by decide)
          obtain ⟨j, rfl⟩ : ∃ j : Nat, k5 = (j : Int) := ⟨k5.toNat, by omega⟩
          have b8 : (0 : Int) ≤ (j : Int) := by omega
          have b9 : (j : Int) < (k : Int) := by omega
          go_simp
          exact hK.out _ _ _ rfl rfl ⟨j, by omega, rfl⟩ zG
        refine zSR (fun w' hS hV K hK => ?_) ?_
        · obtain ⟨k5, e5, b5, d5⟩ := hV 5 (by decide); obtain ⟨j6, b6, e6⟩ := hV 6 (by decide); obtain ⟨g9, o9, hx9, R9, f9, e9, -, hrow9, hr9⟩ := hS.1.at_ b6; cases e9; have hl9 := HTL.out _ (List.getElem_mem hx9); have t9 := hrow9.cell; rw [hl9.1] at t9 hr9; go_simp; exact hK.out _ _ _ rfl rfl ⟨_, _, _, rfl, hl9.1, hl9.2, hr9.base (Nat.zero_le _)⟩ zG
        refine zSR (fun w' hS hV K hK => ?_) ?_
        · go_simp; exact hK.out _ _ _ rfl rfl rfl zG
        refine zSR (fun w' hS hV K hK => ?_) ?_
        · go_simp; exact hK.out _ _ _ rfl rfl rfl zG
        refine zSR (fun w' hS hV K hK => ?_) ?_
        · obtain ⟨k5, e5, b5, d5⟩ := hV 5 (by decide); have e8 := zQ hV 8; have e9 := zQ hV 9; go_simp; refine (next_any g p w' hS.2.s' (by omega)).mono ?_; rintro e v1 ⟨r9, rfl, t8, t9, hd9⟩; exact hK.out _ _ _ rfl rfl ⟨r9, rfl, t8, t9 (by omega)⟩ hd9
        refine zSR (fun w' hS hV K hK => ?_) ?_
        · have e1 := zQ hV 1; obtain ⟨k5, e5, b5, d5⟩ := hV 5 (by decide); obtain ⟨j6, b6, e6⟩ := hV 6 (by decide); obtain ⟨A7, c7, X7, e7, l7, u7, h7⟩ := hV 7 (by decide); obtain ⟨k10, e10, b10, d10⟩ := hV 10 (by decide); go_simp; refine (l02Scale_any p A7 cols c7 k10 X7 w' hp hp2 (by omega) h7.rd u7 (by omega) (by omega)).mono ?_; rintro e v1 ⟨A9, c9, rfl, hM⟩; exact hK.out _ _ _ rfl rfl ⟨_, _, _, rfl, by rw [scaleL_len]; exact l7, scaleL_nums (by omega) _ _, hM.2.base (Nat.zero_le _)⟩ hM.b
        refine zSR (fun w' hS hV K hK => ?_) ?_
        · go_simp; exact hK.out _ _ _ rfl rfl rfl zG
        refine zSR (fun w' hS hV K hK => ?_) ?_
        · go_simp; exact hK.out _ _ _ rfl rfl rfl zG
        refine zSR (fun w' hS hV K hK => ?_) ?_
        · go_simp; exact hK.out _ _ _ rfl rfl rfl zG
        refine zSR (fun w' hS hV K hK => ?_) ?_
        · obtain ⟨k5, e5, b5, d5⟩ := hV 5 (by decide); obtain ⟨j6, b6, e6⟩ := hV 6 (by decide); obtain ⟨A7, c7, X7, e7, l7, u7, h7⟩ := hV 7 (by decide); obtain ⟨k10, e10, b10, d10⟩ := hV 10 (by decide); obtain ⟨A11, c11, X11, e11, l11, u11, h11⟩ := hV 11 (by decide); have e13 := zQ hV 13; have e14 := zQ hV 14; go_simp; refine (next_any g (k : Int) w' hS.2.s' (by omega)).mono ?_; rintro e v1 ⟨r9, rfl, t8, t9, hd9⟩; exact hK.out _ _ _ rfl rfl ⟨r9, rfl, t8, t9 (by omega)⟩ hd9
        refine zSR (fun w' hS hV K hK => ?_) ?_
        · obtain ⟨k5, e5, b5, d5⟩ := hV 5 (by decide)
          obtain ⟨j6, b6, e6⟩ := hV 6 (by decide)
          obtain ⟨A7, c7, X7, e7, l7, u7, h7⟩ := hV 7 (by decide)
          obtain ⟨k10, e10, b10, d10⟩ := hV 10 (by decide)
          obtain ⟨A11, c11, X11, e11, l11, u11, h11⟩ := hV 11 (by decide)
          have e12 := zQ hV 12
          obtain ⟨k15, e15, b15, d15⟩ := hV 15 (by decide)
          obtain ⟨j, rfl⟩ : ∃ j : Nat, k15 = (j : Int) := ⟨k15.toNat, by omega⟩
          have b8 : (0 : Int) ≤ (j : Int) := by omega
          have b9 : (j : Int) < (k : Int) := by omega
          go_simp
          exact hK.out _ _ _ rfl rfl ⟨j, by omega, rfl⟩ zG
        refine zSR (fun w' hS hV K hK => ?_) ?_
        · obtain ⟨k5, e5, b5, d5⟩ := hV 5 (by decide); obtain ⟨j6, b6, e6⟩ := hV 6 (by decide); obtain ⟨A7, c7, X7, e7, l7, u7, h7⟩ := hV 7 (by decide); have e9 := zQ hV 9; obtain ⟨k10, e10, b10, d10⟩ := hV 10 (by decide); obtain ⟨A11, c11, X11, e11, l11, u11, h11⟩ := hV 11 (by decide); obtain ⟨k15, e15, b15, d15⟩ := hV 15 (by decide); obtain ⟨j16, b16, e16⟩ := hV 16 (by decide); obtain ⟨g9, o9, hx9, R9, f9, e9, -, hrow9, hr9⟩ := hS.1.at_ b16; cases e9; have hl9 := HTL.out _ (List.getElem_mem hx9); have t9 := hrow9.cell; rw [hl9.1] at t9 hr9; go_simp; exact hK.out _ _ _ rfl rfl ⟨_, _, _, rfl, hl9.1, hl9.2, hr9.base (Nat.zero_le _)⟩ zG
        refine zSR (fun w' hS hV K hK => ?_) ?_
        · go_simp; exact hK.out _ _ _ rfl rfl rfl zG
        refine zSR (fun w' hS hV K hK => ?_) ?_
        · go_simp; exact hK.out _ _ _ rfl rfl rfl zG
        refine zSR (fun w' hS hV K hK => ?_) ?_
        · obtain ⟨k5, e5, b5, d5⟩ := hV 5 (by decide); obtain ⟨j6, b6, e6⟩ := hV 6 (by decide); obtain ⟨A7, c7, X7, e7, l7, u7, h7⟩ := hV 7 (by decide); obtain ⟨k10, e10, b10, d10⟩ := hV 10 (by decide); obtain ⟨A11, c11, X11, e11, l11, u11, h11⟩ := hV 11 (by decide); obtain ⟨k15, e15, b15, d15⟩ := hV 15 (by decide); have e18 := zQ hV 18; have e19 := zQ hV 19; go_simp; refine (next_any g p w' hS.2.s' (by omega)).mono ?_; rintro e v1 ⟨r9, rfl, t8, t9, hd9⟩; exact hK.out _ _ _ rfl rfl ⟨r9, rfl, t8, t9 (by omega)⟩ hd9
        refine zSR (fun w' hS hV K hK => ?_) ?_
        · have e0 := zQ hV 0; obtain ⟨k5, e5, b5, d5⟩ := hV 5 (by decide); obtain ⟨j6, b6, e6⟩ := hV 6 (by decide); obtain ⟨A7, c7, X7, e7, l7, u7, h7⟩ := hV 7 (by decide); obtain ⟨k10, e10, b10, d10⟩ := hV 10 (by decide); obtain ⟨A11, c11, X11, e11, l11, u11, h11⟩ := hV 11 (by decide); obtain ⟨k15, e15, b15, d15⟩ := hV 15 (by decide); obtain ⟨j16, b16, e16⟩ := hV 16 (by decide); obtain ⟨A17, c17, X17, e17, l17, u17, h17⟩ := hV 17 (by decide); obtain ⟨k20, e20, b20, d20⟩ := hV 20 (by decide); go_simp; refine (l02Plus_any p A11 cols c11 A17 cols c17 k20 X11 X17 w' hp hp2 (by omega) (Nat.le_refl _) h11.rd u11 h17.rd u17 (by omega) (by omega)).mono ?_; rintro e v1 ⟨A9, c9, rfl, hM⟩; exact hK.out _ _ _ rfl rfl ⟨_, _, _, rfl, by rw [plusL_len]; exact l11, plusL_nums (by omega) _ _ _, hM.2.base hS.2.size⟩ hM.b
        refine zSR (fun w' hS hV K hK => ?_) ?_
        · obtain ⟨k5, e5, b5, d5⟩ := hV 5 (by decide); obtain ⟨j6, b6, e6⟩ := hV 6 (by decide); obtain ⟨A7, c7, X7, e7, l7, u7, h7⟩ := hV 7 (by decide); obtain ⟨k10, e10, b10, d10⟩ := hV 10 (by decide); obtain ⟨A11, c11, X11, e11, l11, u11, h11⟩ := hV 11 (by decide); obtain ⟨k15, e15, b15, d15⟩ := hV 15 (by decide); obtain ⟨j16, b16, e16⟩ := hV 16 (by decide); obtain ⟨A17, c17, X17, e17, l17, u17, h17⟩ := hV 17 (by decide); obtain ⟨k20, e20, b20, d20⟩ := hV 20 (by decide); obtain ⟨A21, c21, X21, e21, l21, u21, h21⟩ := hV 21 (by decide); go_simp; exact hK.out _ _ _ rfl rfl ⟨_, _, _, rfl, l21, u21, h21⟩ zG
        refine fun w' hS hV => ?_
        have e0 := zQ hV 0
        have e1 := zQ hV 1
        have e2 := zQ hV 2
        have e3 := zQ hV 3
        have e4 := zQ hV 4
        obtain ⟨k5, e5, b5, d5⟩ := hV 5 (by decide)
        obtain ⟨j6, b6, e6⟩ := hV 6 (by decide)
        obtain ⟨A7, c7, X7, e7, l7, u7, h7⟩ := hV 7 (by decide)
        have e8 := zQ hV 8
        have e9 := zQ hV 9
        obtain ⟨k10, e10, b10, d10⟩ := hV 10 (by decide)
        obtain ⟨A11, c11, X11, e11, l11, u11, h11⟩ := hV 11 (by decide)
        have e12 := zQ hV 12
        have e13 := zQ hV 13
        have e14 := zQ hV 14
        obtain ⟨k15, e15, b15, d15⟩ := hV 15 (by decide)
        obtain ⟨j16, b16, e16⟩ := hV 16 (by decide)
        obtain ⟨A17, c17, X17, e17, l17, u17, h17⟩ := hV 17 (by decide)
        have e18 := zQ hV 18
        have e19 := zQ hV 19
        obtain ⟨k20, e20, b20, d20⟩ := hV 20 (by decide)
        obtain ⟨A21, c21, X21, e21, l21, u21, h21⟩ := hV 21 (by decide)
        obtain ⟨A22, c22, X22, e22, l22, u22, h22⟩ := hV 22 (by decide)
        simp only [e0, e1, e2, e3, e4, e5, e6, e7, e8, e9, e10, e11, e12, e13, e14, e15, e16, e17, e18, e19, e20, e21, e22]
        clear e0 e1 e2 e3 e4 e5 e6 e7 e8 e9 e10 e11 e12 e13 e14 e15 e16 e17 e18 e19 e20 e21 e22
        refine wpAny_done (by kernel_rfl) ?_ _
        obtain ⟨-, d6⟩ := hS
        have D8 := Lib.hid (D5.out.trans d6)
        have V8 := Lib.hid (h22.base (B' := wo.heap.size) D5.out.size)
        have HVL := Lib.hid (show X22.length = cols ∧ NumsL p X22 from ⟨l22, u22⟩)
        clear d6 h22 L4 D4 D5
        obtain ⟨w6, hw6⟩ : ∃ W, W = w' := ⟨_, rfl⟩
        rw [← hw6] at D8 V8 ⊢
        clear hw6
        go_wp2_with (at_builtin; (refine wpList_pushRow w wo w6 g 144 rfl _ _ rfl (some ⟨gl, ol, none⟩) k c0 L A22 cols c22 X22 HL.out HD.out D8.out (by decide) (by decide) V8.out (by omega) rfl ?_ ?_; (go_simp); intro A9 c9 w9 h9 d9 kp))
        have HL9 := Lib.hid h9
        have D9 := Lib.hid d9
        have HT9 := Lib.hid (show Tab p cols (L ++ [X22]) from fun u hu => by
         rcases List.mem_append.1 hu with hu | hu
         · exact HTL.out u hu
         · rw [List.mem_singleton.1 hu]; exact HVL.out)
        clear h9 d9 kp
        go_wp2
        go_roundw
        case rel => exact ⟨k + 1, A9, c9, L ++ [X22], by omega, by go_num, rfl, HT9.out, HL9.out, D9.out⟩
        case measure => simp [intOf]; omega
      · have e8 : (r8 == 0) = false := by simp [h8]
        have D8 := Lib.hid d4
        have V8 := Lib.hid (hv.dr hd8 (by decide))
        clear hnx hd3 hd8 hv d4
        go_wp2_with (at_builtin; (refine wpList_pushRow w wo w4 g 144 rfl _ _ rfl A0 k c0 L A1 cols c1 v HL.out HD.out D8.out (by decide) (by decide) V8.out (by omega) rfl ?_ ?_; (go_simp); intro A9 c9 w9 h9 d9 kp))
        have HL9 := Lib.hid h9
        have D9 := Lib.hid d9
        have HT9 := Lib.hid (show Tab p cols (L ++ [v]) from fun u hu => by
         rcases List.mem_append.1 hu with hu | hu
         · exact HTL.out u hu
         · rw [List.mem_singleton.1 hu]; exact HVL.out)
        clear h9 d9 kp
        go_wp2
        go_roundw
        case rel => exact ⟨k + 1, A9, c9, L ++ [v], by omega, by go_num, rfl, HT9.out, HL9.out, D9.out⟩
        case measure => simp [intOf]; omega
    · have t1 : decide ((0 : Int) < (k : Int)) = false := by simp; omega
      have D8 := Lib.hid hd3
      have V8 := Lib.hid hv
      clear hd3 hv
      go_wp2_with (at_builtin; (refine wpList_pushRow w wo w3 g 144 rfl _ _ rfl A0 k c0 L A1 cols c1 v HL.out HD.out D8.out (by decide) (by decide) V8.out (by omega) rfl ?_ ?_; (go_simp); intro A9 c9 w9 h9 d9 kp))
      have HL9 := Lib.hid h9
      have D9 := Lib.hid d9
      have HT9 := Lib.hid (show Tab p cols (L ++ [v]) from fun u hu => by
       rcases List.mem_append.1 hu with hu | hu
       · exact HTL.out u hu
       · rw [List.mem_singleton.1 hu]; exact HVL.out)
      clear h9 d9 kp
      go_wp2
      go_roundw
      case rel => exact ⟨k + 1, A9, c9, L ++ [v], by omega, by go_num, rfl, HT9.out, HL9.out, D9.out⟩
      case measure => simp [intOf]; omega
  · obtain rfl : k = rows := by omega
    go_wp2
    go_ret
    exact ⟨_, _, _, rfl, HTL.out, HL.out, HD.out⟩
/-- A space and a matrix, drawn. -/
def DrewQ (w : World) (e : Ending) (w' : World) : Prop := ∃ (P : Int) (A : Option Addr) (n c : Nat) (sq : List Int) (AL : Option Addr) (r cl m : Nat) (L : List (List Int)), e = .returned (.tuple #[.agg #[.int .i64 P, .slice A n c], .slice AL r cl]) ∧ P ≤ 17 ∧ n ≤ 7 ∧ 0 < r ∧ r ≤ 16 ∧ 1 ≤ m ∧ m ≤ 16 ∧ Rect m L ∧ Own w' w.heap.size 2 A n c (ints sq) ∧ OwnM w' w.heap.size AL r cl L ∧ Below w.heap.size w w'
/-- A number of a row of a list of lists, and what it is when it is written. -/
theorem OwnM.elem {w : World} {B : Nat} {A : Option Addr} {n c : Nat} {xss : List (List Int)} (h : OwnM w B A n c xss) {k : Nat} (hk : k < n) (h0 : 0 < (xss.getD k []).length) :
    ∃ (gl ol : Nat) (hx : k < xss.length) (g0 c0 : Nat), A = some ⟨gl, ol, none⟩ ∧ ol = 0 ∧ RowAt w ⟨gl, ol + k, none⟩ (.slice (some ⟨g0, 0, none⟩) xss[k].length c0) ∧ Own w B 2 (some ⟨g0, 0, none⟩) xss[k].length c0 (ints xss[k]) ∧
     ∀ (j : Nat) (r : Int), OwnM (w.setCell ⟨g0, j, none⟩ (.int .i64 r)) B A n c (xss.set k (xss[k].set j r)) ∧ w.grownBy (w.setCell ⟨g0, j, none⟩ (.int .i64 r)) (some g0) := by
 obtain ⟨rows, ho, hn⟩ := h
 have hx : k < xss.length := by rw [← hn.len, ho.len]; exact hk
 obtain ⟨A1, c1, e, hr⟩ := hn.row k hx
 rw [getD_of_lt [] hx] at h0
 rcases hr.form with ⟨-, hz⟩ | ⟨g0, rfl, -, -⟩
 · omega
 rcases ho.form with ⟨-, hz⟩ | ⟨gl, rfl, -, -⟩
 · omega
 refine ⟨gl, 0, hx, g0, c1, rfl, rfl, ⟨gl, 0 + k, n, c, rows, rfl, ho.base (Nat.zero_le _), by omega, by rw [Nat.zero_add]; exact e⟩, hr, fun j r => ?_⟩
 obtain ⟨m1, g1⟩ := hr.set_ j (.int .i64 r)
 refine ⟨⟨rows, ho.grown g1 (ho.ne hr (by decide)), by rw [List.length_set]; exact hn.len, fun q hq => ?_, hn.apart⟩, g1⟩
 rw [List.length_set] at hq
 by_cases hqk : k = q
 · subst hqk
   rw [ints_set] at m1
   rw [List.getElem_set_self, List.length_set]
   exact ⟨_, c1, e, m1⟩
 · rw [List.getElem_set_ne hqk]
   obtain ⟨A2, c2, e2, ho2⟩ := hn.row q hq
   refine ⟨A2, c2, e2, ho2.grown g1 ?_⟩
   cases hb : (Value.slice A2 xss[q].length c2).ownBlock with
   | none => exact .inl rfl
   | some g2 =>
    refine .inr fun e3 => ?_
    have h1 : (rows[k]?).bind Value.ownBlock = some g0 := by rw [e]; rfl
    have h2 : (rows[q]?).bind Value.ownBlock = some g0 := by rw [e2]; exact hb.trans e3
    rcases Nat.lt_or_ge k q with h | h
    · exact hn.apart k q g0 h h1 h2
    · exact hn.apart q k g0 (by omega) h2 h1
/-- A space and a matrix, drawn on from a source. -/
def DrewD (g : Nat) (w : World) (e : Ending) (w' : World) : Prop := ∃ (P : Int) (A : Option Addr) (n c : Nat) (sq : List Int) (AL : Option Addr) (r cl m : Nat) (L : List (List Int)), e = .returned (.tuple #[.agg #[.int .i64 P, .slice A n c], .slice AL r cl]) ∧ P ≤ 17 ∧ n ≤ 7 ∧ 0 < r ∧ r ≤ 16 ∧ 1 ≤ m ∧ m ≤ 16 ∧ Rect m L ∧ Own w' w.heap.size 2 A n c (ints sq) ∧ OwnM w' w.heap.size AL r cl L ∧ Dr g 144 w w'
set_option maxHeartbeats 12800000 in
set_option maxRecDepth 8000 in
theorem l08Draw_any (g : Nat) (w : World) (hs : Src w g 144) :
    Calls Tryz.prog 72 #[.pointer (some ⟨g, 0, none⟩)] w (DrewD g w) := by
 have k0 : Blk (w.alloc (.cells #[.int .i64 0, .slice none 0 0] 26)) w.heap.size 26 #[.int .i64 0, .slice none 0 0] := Blk.new _ _ _
 have d0 := (Dr.refl hs).alloc (.cells #[.int .i64 0, .slice none 0 0] 26)
 have hsp := l07Space_any g (w.alloc (.cells #[.int .i64 0, .slice none 0 0] 26)) d0.s'
 go_enter Tryz.func72, Tryz.ntmps72
 go_wp2_with fail
 refine hsp.mono ?_
 rintro e w3 ⟨P, A, n, c, sq, rfl, hP, hn, hO, hd3⟩
 have d4 := (d0.trans hd3).alloc (.cells #[.int .i64 P, .slice A n c] 26)
 have k4 := (k0.dr hd3 (by decide)).alloc (.cells #[.int .i64 P, .slice A n c] 26)
 have kb4 : Blk (w3.alloc (.cells #[.int .i64 P, .slice A n c] 26)) w3.heap.size 26 #[.int .i64 P, .slice A n c] := Blk.new _ _ _
 have hres : w.heap.size < w3.heap.size := Nat.lt_of_lt_of_le (show w.heap.size < (w.alloc (.cells #[.int .i64 0, .slice none 0 0] 26)).heap.size by simp) hd3.size
 have o4 := (hO.base (B' := w.heap.size) (by simp)).below (zG.alloc (Nat.le_refl _) (.cells #[.int .i64 P, .slice A n c] 26))
 have hsl := o4.rd.lenI
 clear hsp k0 hO hd3 d0
 obtain ⟨q0, q1⟩ := kb4.two
 cases h1 : isSp P sq
 · have H1 := Lib.hid h1
   clear h1
   go_wp2_with fail
   refine (l03Is_b _ _ _ _ _ _ (by omega) o4.rd H1.out).mono ?_
   rintro e w5 ⟨rfl, hb⟩
   have d5 := d4.then hb
   have k5 := k4.below hb k4.lt
   have kb5 := kb4.below hb kb4.lt
   have o5 := o4.below hb
   clear hb d4 k4 kb4 o4 q0 q1
   obtain ⟨q0, q1⟩ := kb5.two
   have hsz := d5.size
   have l6 : OwnM ((w5.alloc (.cells #[.int .i64 1] 2)).alloc (.cells #[.slice (some ⟨w5.heap.size, 0, none⟩) 1 1] 24)) w.heap.size (some ⟨w5.heap.size + 1, 0, none⟩) 1 1 [[1]] := OwnM.lit1 ((Blk.new w5 2 #[.int .i64 1]).alloc _) (Blk.newAt3 (by simp)) hsz (by omega)
   have k6 : Blk ((w5.alloc (.cells #[.int .i64 1] 2)).alloc (.cells #[.slice (some ⟨w5.heap.size, 0, none⟩) 1 1] 24)) w.heap.size 26 #[.int .i64 0, .slice none 0 0] := (k5.alloc _).alloc _
   have o6 : Own ((w5.alloc (.cells #[.int .i64 1] 2)).alloc (.cells #[.slice (some ⟨w5.heap.size, 0, none⟩) 1 1] 24)) w.heap.size 2 A n c (ints sq) := (o5.below (zG.alloc (Nat.le_refl _) _)).below (zG.alloc (Nat.le_refl _) _)
   have d6 : Dr g 144 w ((w5.alloc (.cells #[.int .i64 1] 2)).alloc (.cells #[.slice (some ⟨w5.heap.size, 0, none⟩) 1 1] 24)) := (d5.alloc _).alloc _
   obtain ⟨p0, p1⟩ := k6.two
   have f0 := k6.frozen 0
   have f1 := k6.frozen 1
   have hf : ∀ {m d : Nat} {A2 : Option Addr} {xs : List Int}, Own ((w5.alloc (.cells #[.int .i64 1] 2)).alloc (.cells #[.slice (some ⟨w5.heap.size, 0, none⟩) 1 1] 24)) w.heap.size 2 A2 m d (ints xs) → Own ((((w5.alloc (.cells #[.int .i64 1] 2)).alloc (.cells #[.slice (some ⟨w5.heap.size, 0, none⟩) 1 1] 24)).setCell ⟨w.heap.size, 0, none⟩ (.int .i64 P)).setCell ⟨w.heap.size, 1, none⟩ (.slice A n c)) w.heap.size 2 A2 m d (ints xs) := by
    intro m c' A' xs ho
    exact (ho.far k6 (by decide) 0 _).far (k6.set_ 0 (.int .i64 P)) (by decide) 1 _
   have hfM := l6.relB (g := g) (res := w.heap.size) (.inr ⟨0, none, 0, 0, P, A, n, c, k6, rfl⟩)
   have d7 := (d6.setNew (Nat.le_refl _) 0 (.int .i64 P)).setNew (Nat.le_refl _) 1 (.slice A n c)
   go_wp2
   exact bodyPost_ret (v := .tuple #[.agg #[.int .i64 P, .slice A n c], .slice (some ⟨w5.heap.size + 1, 0, none⟩) 1 1]) (by simp [results, Tryz.results72, go_sem, p0, p1]) rfl ⟨P, A, n, c, sq, _, 1, 1, 1, [[1]], rfl, hP, hn, by decide, by decide, by decide, by decide, (fun u hu => by rw [List.mem_singleton.1 hu]; rfl), hf o6, hfM, d7⟩
 · obtain ⟨HP, hn1, hn2, hq⟩ := isSp_dim h1
   obtain ⟨hp3, hp2⟩ := isP_ge HP
   have H1 := Lib.hid h1
   rw [hsl] at hn1 hn2
   have HQ := Lib.hid (nums_numsL hq)
   have HPP := Lib.hid HP
   obtain ⟨z, hz⟩ : ∃ z, z = discT P sq n := ⟨_, rfl⟩
   have hdi := Lib.hid fun w' (h : Below (w3.alloc (.cells #[.int .i64 P, .slice A n c] 26)).heap.size (w3.alloc (.cells #[.int .i64 P, .slice A n c] 26)) w') => l03Disc_any P A n c sq w' (by omega) hp2 (by omega) (o4.below h).rd HQ.out
   rw [← hz] at hdi
   clear h1 hq HP hz
   go_wp2_with fail
   refine (l03Is_b _ _ _ _ _ _ (by omega) o4.rd H1.out).mono ?_
   rintro e w5 ⟨rfl, hb⟩
   have kb2 := kb4.below hb kb4.lt
   clear q0 q1
   obtain ⟨q0, q1⟩ := kb2.two
   go_wp2_with fail
   refine (hdi.out w5 hb).mono ?_
   rintro e w6 ⟨rfl, hb3⟩
   have hb4 := hb.trans (hb3.mono hb.size)
   have d5 := d4.then hb4
   have k5 := k4.below hb4 k4.lt
   have kb5 := kb4.below hb4 kb4.lt
   have o5 := o4.below hb4
   clear q0 q1 kb2 hb hb3 hdi hb4 d4 k4 kb4 o4
   by_cases hz : z = 0
   · have e8 : (z == 0) = true := by simp [hz]
     obtain ⟨q0, q1⟩ := kb5.two
     have hsz := d5.size
     have l6 : OwnM ((w6.alloc (.cells #[.int .i64 1] 2)).alloc (.cells #[.slice (some ⟨w6.heap.size, 0, none⟩) 1 1] 24)) w.heap.size (some ⟨w6.heap.size + 1, 0, none⟩) 1 1 [[1]] := OwnM.lit1 ((Blk.new w6 2 #[.int .i64 1]).alloc _) (Blk.newAt3 (by simp)) hsz (by omega)
     have k6 : Blk ((w6.alloc (.cells #[.int .i64 1] 2)).alloc (.cells #[.slice (some ⟨w6.heap.size, 0, none⟩) 1 1] 24)) w.heap.size 26 #[.int .i64 0, .slice none 0 0] := (k5.alloc _).alloc _
     have o6 : Own ((w6.alloc (.cells #[.int .i64 1] 2)).alloc (.cells #[.slice (some ⟨w6.heap.size, 0, none⟩) 1 1] 24)) w.heap.size 2 A n c (ints sq) := (o5.below (zG.alloc (Nat.le_refl _) _)).below (zG.alloc (Nat.le_refl _) _)
     have d6 : Dr g 144 w ((w6.alloc (.cells #[.int .i64 1] 2)).alloc (.cells #[.slice (some ⟨w6.heap.size, 0, none⟩) 1 1] 24)) := (d5.alloc _).alloc _
     obtain ⟨p0, p1⟩ := k6.two
     have f0 := k6.frozen 0
     have f1 := k6.frozen 1
     have hf : ∀ {m d : Nat} {A2 : Option Addr} {xs : List Int}, Own ((w6.alloc (.cells #[.int .i64 1] 2)).alloc (.cells #[.slice (some ⟨w6.heap.size, 0, none⟩) 1 1] 24)) w.heap.size 2 A2 m d (ints xs) → Own ((((w6.alloc (.cells #[.int .i64 1] 2)).alloc (.cells #[.slice (some ⟨w6.heap.size, 0, none⟩) 1 1] 24)).setCell ⟨w.heap.size, 0, none⟩ (.int .i64 P)).setCell ⟨w.heap.size, 1, none⟩ (.slice A n c)) w.heap.size 2 A2 m d (ints xs) := by
      intro m c' A' xs ho
      exact (ho.far k6 (by decide) 0 _).far (k6.set_ 0 (.int .i64 P)) (by decide) 1 _
     have hfM := l6.relB (g := g) (res := w.heap.size) (.inr ⟨0, none, 0, 0, P, A, n, c, k6, rfl⟩)
     have d7 := (d6.setNew (Nat.le_refl _) 0 (.int .i64 P)).setNew (Nat.le_refl _) 1 (.slice A n c)
     go_wp2
     exact bodyPost_ret (v := .tuple #[.agg #[.int .i64 P, .slice A n c], .slice (some ⟨w6.heap.size + 1, 0, none⟩) 1 1]) (by simp [results, Tryz.results72, go_sem, p0, p1]) rfl ⟨P, A, n, c, sq, _, 1, 1, 1, [[1]], rfl, hP, hn, by decide, by decide, by decide, by decide, (fun u hu => by rw [List.mem_singleton.1 hu]; rfl), hf o6, hfM, d7⟩
   · have e8 : (z == 0) = false := by simp [hz]
     have hun := l02Unit_any n w6 (by omega)
     obtain ⟨q0, q1⟩ := kb5.two
     go_wp2_with fail
     refine hun.mono ?_
     rintro e w7 ⟨A0, c0, rfl, hU⟩
     have l5 := OwnM.of hU
     have HBB := Lib.hid d5.size
     have HSQ := Lib.hid (show ∀ gb, (Value.slice A n c).ownBlock = some gb → gb < w6.heap.size from fun gb hb => (World.ownsRow.lt o5 gb hb).2)
     have hb7 := hU.b
     have HW67 := Lib.hid hU.b.size
     replace d5 := d5.then hb7
     replace k5 := k5.below hb7 k5.lt
     replace kb5 := kb5.below hb7 kb5.lt
     replace o5 := o5.below hb7
     clear hun hU hb7 q0 q1 e8
     have hnx := next_any g 10 w7 d5.s' (by omega)
     obtain ⟨q0, q1⟩ := kb5.two
     go_wp2_with fail
     refine hnx.mono ?_
     rintro e w8 ⟨r8, rfl, _, _, hd8⟩
     replace d5 := d5.trans hd8
     replace k5 := k5.dr hd8 (by decide)
     replace kb5 := kb5.dr hd8 (by decide)
     replace o5 := o5.dr hd8 (by decide)
     replace l5 := l5.dr hd8 (by decide) (by decide)
     have HW68 := Lib.hid (show w6.heap.size ≤ w8.heap.size from Nat.le_trans HW67.out hd8.size)
     clear hnx hd8 q0 q1
     by_cases h8 : r8 = 0
     · have e9 : (r8 == 0) = true := by simp [h8]
       clear l5
       obtain ⟨q0, q1⟩ := kb5.two
       go_wp2
       refine wp_obsR 11 (Dr g 144) [[], [], [], [2], [], [], [], [], [6, 7], [5, 6, 7, 8], [1, 2, 3, 4, 5, 6, 7, 8, 9], [0, 1, 2, 3, 4, 5, 6, 7, 8, 9, 10], [0, 1, 2, 3, 4, 5, 6, 7, 8, 9, 10]] [[], [], [], [], [], [], [], [], [99], [], [99]] (fun x => [VIs (.agg #[.int .i64 P, .slice A n c]), VIs (.pointer (some ⟨g, 0, none⟩)), VIs (.pointer (some ⟨w3.heap.size, 0, none⟩)), VIs (.int .i64 (P)), VIs (.int .i64 (n)), VIs (.int .i64 (n)), VIs (.pointer (some ⟨g, 0, none⟩)), VBs 2 #[.int .i64 0, .int .i64 0, .int .i64 1], VIz 2, VNt 1 7, VRm w.heap.size]) (fun w' => Blk w' w.heap.size 26 #[.int .i64 0, .slice none 0 0] ∧ Blk w' w3.heap.size 26 #[.int .i64 P, .slice A n c] ∧ Own w' w.heap.size 2 A n c (ints sq) ∧ Dr g 144 w w') (by kernel_rfl) (by kernel_rfl) (fun x x' j hx => by
           rcases j with _ | _ | _ | _ | _ | _ | _ | _ | _ | _ | _ | j
           · rfl
           · rfl
           · rfl
           · rfl
           · rfl
           · rfl
           · rfl
           · rfl
           · rfl
           · rfl
           · rfl
           · rfl)
        (weak_ofR [0, 1, 2, 3, 4, 5, 6, 7, 8, 9, 10] (by decide) (fun k hk x v w w' hp hr => by
         simp only [List.mem_cons, zJ, or_false] at hk
         rcases hk with rfl | rfl | rfl | rfl | rfl | rfl | rfl | rfl | rfl | rfl | rfl
         · exact hp
         · exact hp
         · exact hp
         · exact hp
         · exact hp
         · exact hp
         · exact hp
         · obtain ⟨g9, e9, k9⟩ := hp; exact ⟨g9, e9, k9.dr hr (by decide)⟩
         · exact hp
         · exact hp
         · exact VRm.dr hp hr (by decide) (by decide))) (fun j _ _ h hb => hb.either (fun hb => ⟨h.1.below hb h.1.lt, h.2.1.below hb h.2.1.lt, h.2.2.1.below hb, h.2.2.2.then hb⟩) (fun hr => ⟨h.1.dr hr (by decide), h.2.1.dr hr (by decide), h.2.2.1.dr hr (by decide), h.2.2.2.trans hr⟩)) (⟨k5.drew, kb5.drew, o5.below zG.drew, d5.then zG.drew⟩) (fun x => ?_)
       refine zSR (fun w' hS hV K hK => ?_) ?_
       · obtain ⟨q0, q1⟩ := hS.2.1.two; go_simp; exact hK.out _ _ _ rfl rfl rfl zG
       refine zSR (fun w' hS hV K hK => ?_) ?_
       · obtain ⟨q0, q1⟩ := hS.2.1.two; go_simp; exact hK.out _ _ _ rfl rfl rfl zG
       refine zSR (fun w' hS hV K hK => ?_) ?_
       · obtain ⟨q0, q1⟩ := hS.2.1.two; go_simp; exact hK.out _ _ _ rfl rfl rfl zG
       refine zSR (fun w' hS hV K hK => ?_) ?_
       · have e2 := zQ hV 2; obtain ⟨q0, q1⟩ := hS.2.1.two; go_simp; exact hK.out _ _ _ rfl rfl rfl zG
       refine zSR (fun w' hS hV K hK => ?_) ?_
       · obtain ⟨q0, q1⟩ := hS.2.1.two; go_simp; exact hK.out _ _ _ rfl rfl rfl zG
       refine zSR (fun w' hS hV K hK => ?_) ?_
       · obtain ⟨q0, q1⟩ := hS.2.1.two; go_simp; exact hK.out _ _ _ rfl rfl rfl zG
       refine zSR (fun w' hS hV K hK => ?_) ?_
       · obtain ⟨q0, q1⟩ := hS.2.1.two; go_simp; exact hK.out _ _ _ rfl rfl rfl zG
       refine zSR (fun w' hS hV K hK => ?_) ?_
       · obtain ⟨q0, q1⟩ := hS.2.1.two; go_simp; exact hK.out _ _ _ rfl rfl ⟨_, rfl, Blk.new _ _ _⟩ (zG.alloc (Nat.le_refl _) _)
       refine zSR (fun w' hS hV K hK => ?_) ?_
       · have e6 := zQ hV 6; obtain ⟨g7, e7, h7⟩ := hV 7 (by decide); obtain ⟨q0, q1⟩ := hS.2.1.two; go_simp; refine (pick_any g g7 [0, 0, 1] w' hS.2.2.2.s' h7 (by decide) (by decide)).mono ?_; rintro e v1 ⟨r9, hr9, rfl, hd9⟩; exact hK.out _ _ _ rfl rfl ⟨r9, rfl, by simp at hr9; omega, by simp at hr9; omega⟩ hd9
       refine zSR (fun w' hS hV K hK => ?_) ?_
       · have e5 := zQ hV 5; obtain ⟨g7, e7, h7⟩ := hV 7 (by decide); obtain ⟨k8, e8, b8, d8⟩ := hV 8 (by decide); obtain ⟨q0, q1⟩ := hS.2.1.two; obtain ⟨j, rfl⟩ : ∃ j : Nat, k8 = (j : Int) := ⟨k8.toNat, by omega⟩; have W9 : IntKind.i64.wrap ((n : Int) + (j : Int)) = ((n + j : Nat) : Int) := (i64_fit _ (by omega) (by omega)).trans (by omega); go_simp; exact hK.out _ _ _ rfl rfl ⟨n + j, rfl, by omega, by omega⟩ zG
       refine zSR (fun w' hS hV K hK => ?_) ?_
       · have e1 := zQ hV 1; have e3 := zQ hV 3; have e4 := zQ hV 4; obtain ⟨g7, e7, h7⟩ := hV 7 (by decide); obtain ⟨k8, e8, b8, d8⟩ := hV 8 (by decide); obtain ⟨k9, e9, b9, d9⟩ := hV 9 (by decide); obtain ⟨q0, q1⟩ := hS.2.1.two; go_simp; refine (l02Draw_any g P n k9 w' hS.2.2.2.s' (by omega) hp2 (by omega) (by omega)).mono ?_; rintro e v1 ⟨A9, c9, L9, rfl, hT9, ho9, hd9⟩; exact hK.out _ _ _ rfl rfl ⟨_, _, _, k9, _, rfl, by omega, by omega, by omega, by omega, Rect.of_tab hT9, ho9.base hS.2.2.2.size⟩ hd9
       refine fun w' hS hV => ?_
       have e0 := zQ hV 0
       have e1 := zQ hV 1
       have e2 := zQ hV 2
       have e3 := zQ hV 3
       have e4 := zQ hV 4
       have e5 := zQ hV 5
       have e6 := zQ hV 6
       obtain ⟨g7, e7, h7⟩ := hV 7 (by decide)
       obtain ⟨k8, e8, b8, d8⟩ := hV 8 (by decide)
       obtain ⟨k9, e9, b9, d9⟩ := hV 9 (by decide)
       obtain ⟨A10, r10, c10, m10, L10, e10, t10, u10, v10, x10, y10, h10⟩ := hV 10 (by decide)
       simp only [e0, e1, e2, e3, e4, e5, e6, e7, e8, e9, e10]
       clear e0 e1 e2 e3 e4 e5 e6 e7 e8 e9 e10
       clear k5 kb5 o5 d5
       obtain ⟨k5, kb5, o5, d5⟩ := hS
       have l5 := h10
       obtain ⟨w6, rfl⟩ : ∃ W, W = w' := ⟨_, rfl⟩
       clear q0 q1
       obtain ⟨p0, p1⟩ := k5.two
       have f0 := k5.frozen 0
       have f1 := k5.frozen 1
       refine any_one (j := 11) (by kernel_rfl) (Eq.trans (by simp only [zA, zB, zC]; exact rfl) rfl) (fun K hK => ?_)
       go_simp
       refine hK.out _ _ (any_one (j := 12) (by kernel_rfl) (Eq.trans (by simp only [zA, zB, zC]; exact rfl) rfl) (fun K hK => ?_))
       go_simp
       refine hK.out _ _ (wpAny_done (by kernel_rfl) ?_ _)
       obtain ⟨p0, p1⟩ := k5.two
       have f0 := k5.frozen 0
       have f1 := k5.frozen 1
       have hf : ∀ {m d : Nat} {A2 : Option Addr} {xs : List Int}, Own w6 w.heap.size 2 A2 m d (ints xs) → Own ((w6.setCell ⟨w.heap.size, 0, none⟩ (.int .i64 P)).setCell ⟨w.heap.size, 1, none⟩ (.slice A n c)) w.heap.size 2 A2 m d (ints xs) := by
        intro m c' A' xs ho
        exact (ho.far k5 (by decide) 0 _).far (k5.set_ 0 (.int .i64 P)) (by decide) 1 _
       have hfM := l5.relB (g := g) (res := w.heap.size) (.inr ⟨0, none, 0, 0, P, A, n, c, k5, rfl⟩)
       go_wp2
       exact bodyPost_ret (v := .tuple #[.agg #[.int .i64 P, .slice A n c], .slice A10 r10 c10]) (by simp [results, Tryz.results72, go_sem, p0, p1]) rfl ⟨P, A, n, c, sq, A10, r10, c10, m10, L10, rfl, hP, hn, t10, u10, v10, x10, y10, hf o5, hfM, (d5.setNew (Nat.le_refl _) 0 _).setNew (Nat.le_refl _) 1 _⟩
     · have e9 : (r8 == 0) = false := by simp [h8]
       have hus := l07Units_any g P A n c sq 5 w8 d5.s' HPP.out hn2 (o5.base (Nat.zero_le _)) HQ.out (by omega)
       obtain ⟨q0, q1⟩ := kb5.two
       go_wp2_with fail
       refine hus.mono ?_
       rintro e w9 ⟨AU, ml, cu, LU, rfl, hml, hLU, hu9, hd9⟩
       have HLU := Lib.hid hLU
       replace d5 := d5.trans hd9
       replace k5 := k5.dr hd9 (by decide)
       replace kb5 := kb5.dr hd9 (by decide)
       replace o5 := o5.dr hd9 (by decide)
       replace l5 := l5.dr hd9 (by decide) (by decide)
       have u5 := hu9.base (B' := 0) (Nat.zero_le _)
       have HW69 := Lib.hid (show w6.heap.size ≤ w9.heap.size from Nat.le_trans HW68.out hd9.size)
       have HT0 := Lib.hid (unitM_tab (p := P) (show 2 ≤ P by omega) n)
       clear hus hd9 hLU hu9 q0 q1 e9
       go_wp2
       go_loopw [6, 8] (fun mv iv wr => ∃ (i : Nat) (A0 : Option Addr) (c0 : Nat) (M : List (List Int)), i ≤ ml ∧ iv = .int .i64 i ∧ mv = .slice A0 n c0 ∧ Tab P n M ∧ OwnM wr w6.heap.size A0 n c0 M ∧ Below w9.heap.size w9 wr) (fun _ iv _ => ml - (intOf iv).toNat)
       case atStart => exact ⟨0, A0, c0, unitM n, by omega, rfl, rfl, HT0.out, l5, Below.refl _ _⟩
       case round =>
        clear l5 HT0
        obtain ⟨i, A0, c0, M, hi, rfl, rfl, hTM, hL, hbr⟩ := hrel
        have HTM := Lib.hid hTM
        clear hTM
        by_cases hlt : i < ml
        · obtain ⟨gu, ou, hxu, R, f, eA, hou, hrow, hru⟩ := (u5.below hbr).at_ hlt
          subst eA
          have hu3 := HLU.out LU[i] (List.getElem_mem hxu)
          rw [hu3.1] at hrow hru
          obtain ⟨u, hu4⟩ : ∃ u, u = LU[i] := ⟨_, rfl⟩
          rw [← hu4] at hu3 hru
          have HU3 := Lib.hid hu3
          have kk := kb5.below hbr kb5.lt
          have HRF := Lib.hid fun (w' : World) (h : Below wr.heap.size wr w') => l08Reflection_any P A n c sq R f u w' HPP.out hn2 hn1 ((o5.below hbr).below h).rd HQ.out (hru.below h).rd HU3.out.2.1 HU3.out.2.2
          have HTI := Lib.hid fun (w' : World) (B : Option Addr) (d : Nat) (h : Below wr.heap.size wr w') (hb : RdII w' B n (rmatL P sq n u)) => l02Times_any P A0 n c0 M B d (rmatL P sq n u) w' (by omega) hp2 hn1 (by omega) (hL.below h).rd HTM.out hb (rmatL_tab (by omega) sq n u)
          have HTN := Lib.hid (timesM_tab (p := P) (M := M) (by omega) hn1 (rmatL_tab (by omega) sq n u) (rmatL_len (by omega) sq hn1 u))
          have HWB := Lib.hid hL
          have HOU := Lib.hid hou
          clear hu3 hu4 hxu hou hru hL
          go_wp2
          refine wp_obs 10 [[],[0],[],[],[],[],[4,5],[4,5,6],[3,4,5,6,7],[0,1,2,3,4,5,6,7,8],[0,1,2,3,4,5,6,7,8,9]] [VIs (.pointer (some ⟨w3.heap.size, 0, none⟩)), VIs (.int .i64 (P)), VIs (.slice A0 n c0), VIs (.agg #[.int .i64 P, .slice A n c]), VIs (.slice (some ⟨gu, ou, none⟩) ml cu), VIs (.int .i64 (i)), VIs (.pointer (some ⟨gu, ou + i, none⟩)), VIs (.slice R n f), VMat wr n (rmatL P sq n u), VMat wr n (timesM P M (rmatL P sq n u))] (fun w' => RowAt w' ⟨gu, ou + i, none⟩ (.slice R n f) ∧ Blk w' w3.heap.size 26 #[.int .i64 P, .slice A n c] ∧ Below wr.heap.size wr w') (by kernel_rfl) (by kernel_rfl) (fun _ _ h hb => ⟨h.1.below hb, h.2.1.below hb h.2.1.lt, h.2.2.trans (hb.mono h.2.2.size)⟩) (⟨hrow.below zG.drew, kk.drew, zG.drew⟩) (fun x => ?_)
          refine zS (fun w' hS hV K hK => ?_) ?_
          · have t9 := hS.1.cell; obtain ⟨q0, q1⟩ := hS.2.1.two; go_simp; exact zO hK
          refine zS (fun w' hS hV K hK => ?_) ?_
          · have e0 := zQ hV 0; have t9 := hS.1.cell; obtain ⟨q0, q1⟩ := hS.2.1.two; go_simp; exact zO hK
          refine zS (fun w' hS hV K hK => ?_) ?_
          · have t9 := hS.1.cell; obtain ⟨q0, q1⟩ := hS.2.1.two; go_simp; exact zO hK
          refine zS (fun w' hS hV K hK => ?_) ?_
          · have t9 := hS.1.cell; obtain ⟨q0, q1⟩ := hS.2.1.two; go_simp; exact zO hK
          refine zS (fun w' hS hV K hK => ?_) ?_
          · have t9 := hS.1.cell; obtain ⟨q0, q1⟩ := hS.2.1.two; go_simp; exact zO hK
          refine zS (fun w' hS hV K hK => ?_) ?_
          · have t9 := hS.1.cell; obtain ⟨q0, q1⟩ := hS.2.1.two; go_simp; exact zO hK
          refine zS (fun w' hS hV K hK => ?_) ?_
          · have e4 := zQ hV 4; have e5 := zQ hV 5; have t9 := hS.1.cell; obtain ⟨q0, q1⟩ := hS.2.1.two; go_simp; exact zO hK
          refine zS (fun w' hS hV K hK => ?_) ?_
          · have e6 := zQ hV 6; have t9 := hS.1.cell; obtain ⟨q0, q1⟩ := hS.2.1.two; go_simp; exact zO hK
          refine zS (fun w' hS hV K hK => ?_) ?_
          · have e3 := zQ hV 3; have e7 := zQ hV 7; have t9 := hS.1.cell; obtain ⟨q0, q1⟩ := hS.2.1.two; go_simp; refine (HRF.out w' hS.2.2).mono ?_; rintro e v1 ⟨A9, c9, rfl, hM⟩; exact hK.out _ _ _ rfl rfl ⟨_, _, rfl, hM.after hS.2.2⟩ hM.b
          refine zS (fun w' hS hV K hK => ?_) ?_
          · have e1 := zQ hV 1; have e2 := zQ hV 2; obtain ⟨A8, c8, e8, h8⟩ := hV 8 (by decide); have t9 := hS.1.cell; obtain ⟨q0, q1⟩ := hS.2.1.two; go_simp; refine (HTI.out w' _ _ hS.2.2 h8.rd).mono ?_; rintro e v1 ⟨A9, c9, rfl, hM⟩; exact hK.out _ _ _ rfl rfl ⟨_, _, rfl, hM.after hS.2.2⟩ hM.b
          refine fun w' hS hV => ?_
          have e0 := zT hV 0
          have e1 := zT hV 1
          have e2 := zT hV 2
          have e3 := zT hV 3
          have e4 := zT hV 4
          have e5 := zT hV 5
          have e6 := zT hV 6
          have e7 := zT hV 7
          obtain ⟨A8, c8, e8, h8⟩ := hV 8 (by decide)
          obtain ⟨A9, c9, e9, h9⟩ := hV 9 (by decide)
          simp only [e0, e1, e2, e3, e4, e5, e6, e7, e8, e9]
          clear e0 e1 e2 e3 e4 e5 e6 e7 e8 e9
          refine any_one (j := 10) (by kernel_rfl) (Eq.trans (by simp only [zA, zB, zC]; exact rfl) rfl) (fun K hK => ?_)
          go_simp
          refine hK.out _ _ (wpAny_done (by kernel_rfl) ?_ _)
          have hb10 := hbr.trans (hS.2.2.mono hbr.size)
          have l10 := (OwnM.of h9).base (B' := w6.heap.size) (Nat.le_trans HW69.out hbr.size)
          obtain ⟨w10, rfl⟩ : ∃ W, W = w' := ⟨_, rfl⟩
          clear hS HRF HTI h8 h9 hrow kk
          go_wp2
          go_roundw
          case rel => exact ⟨i + 1, _, _, _, by omega, by go_num, rfl, HTN.out, l10, hb10⟩
          case measure => simp [intOf]; omega
        · have l5 := hL
          replace d5 := d5.then hbr
          replace k5 := k5.below hbr k5.lt
          replace kb5 := kb5.below hbr kb5.lt
          replace o5 := o5.below hbr
          have hnx := next_any g 20 wr d5.s' (by omega)
          obtain ⟨q0, q1⟩ := kb5.two
          clear u5 hbr
          go_wp2_with fail
          refine hnx.mono ?_
          rintro e w10 ⟨r9, rfl, _, _, hd8⟩
          replace d5 := d5.trans hd8
          replace k5 := k5.dr hd8 (by decide)
          replace kb5 := kb5.dr hd8 (by decide)
          replace o5 := o5.dr hd8 (by decide)
          replace l5 := l5.dr hd8 (by decide) (by decide)
          clear hnx hd8 q0 q1 hL
          by_cases h9 : r9 = 0
          · have e9 : (r9 == 0) = true := by simp [h9]
            have hML : M.length = n := l5.rd.len
            have hM0 : (M.getD 0 []).length = n := (HTM.out.row (show 0 < M.length by omega)).1
            obtain ⟨gm, om, hxm, g0, f0, eA, hom, hrow, hrw, -⟩ := l5.elem hn1 (by omega)
            subst eA
            have HM0 := Lib.hid hM0
            rw [getD_of_lt [] hxm] at hM0
            rw [hM0] at hrow hrw
            rw [Nat.add_zero] at hrow
            have HOM := Lib.hid hom
            have HML := Lib.hid hML
            have HL5 := Lib.hid l5
            clear hom hM0 hML hxm hrw l5
            have b5 : (0 : Int) < (n : Int) := by omega
            have b6 : 0 < n := hn1
            obtain ⟨q0, q1⟩ := kb5.two
            go_wp2
            refine wp_obsR 9 (Dr g 144) [[], [0], [0, 1], [], [], [4], [4, 5], [3, 4, 5, 6], [0, 1, 2], [0, 1, 2, 3, 4, 5, 6, 7, 8]] [[], [], [], [], [], [], [], [99], []] (fun x => [VIs (.slice (some ⟨gm, om, none⟩) n c0), VIs (.pointer (some ⟨gm, om, none⟩)), VIs (.slice (some ⟨g0, 0, none⟩) n f0), VIs (.pointer (some ⟨g, 0, none⟩)), VIs (.pointer (some ⟨w3.heap.size, 0, none⟩)), VIs (.int .i64 (P)), VBs 2 #[.int .i64 (-1), .int .i64 P, .int .i64 0, .int .i64 1], VNum, VIs (.pointer (some ⟨g0, 0, none⟩))]) (fun w' => RowAt w' ⟨gm, om, none⟩ (.slice (some ⟨g0, 0, none⟩) n f0) ∧ Blk w' w3.heap.size 26 #[.int .i64 P, .slice A n c] ∧ Dr g 144 w10 w') (by kernel_rfl) (by kernel_rfl) (fun x x' j hx => by
                rcases j with _ | _ | _ | _ | _ | _ | _ | _ | _ | j
                · rfl
                · rfl
                · rfl
                · rfl
                · rfl
                · rfl
                · rfl
                · rfl
                · rfl
                · rfl)
             (weak_ofR [0, 1, 2, 3, 4, 5, 6, 7, 8] (by decide) (fun k hk x v w w' hp hr => by
              simp only [List.mem_cons, zJ, or_false] at hk
              rcases hk with rfl | rfl | rfl | rfl | rfl | rfl | rfl | rfl | rfl
              · exact hp
              · exact hp
              · exact hp
              · exact hp
              · exact hp
              · exact hp
              · obtain ⟨g9, e9, k9⟩ := hp; exact ⟨g9, e9, k9.dr hr (by decide)⟩
              · exact hp
              · exact hp)) (fun j _ _ h hb => hb.either (fun hb => ⟨h.1.below hb, h.2.1.below hb h.2.1.lt, h.2.2.then hb⟩) (fun hr => ⟨h.1.dr hr (by decide), h.2.1.dr hr (by decide), h.2.2.trans hr⟩)) (⟨hrow.below zG.drew, kb5.drew, (Dr.refl d5.s').then zG.drew⟩) (fun x => ?_)
            refine zSR (fun w' hS hV K hK => ?_) ?_
            · have t9 := hS.1.cell; obtain ⟨q0, q1⟩ := hS.2.1.two; go_simp; exact hK.out _ _ _ rfl rfl rfl zG
            refine zSR (fun w' hS hV K hK => ?_) ?_
            · have e0 := zQ hV 0; have t9 := hS.1.cell; obtain ⟨q0, q1⟩ := hS.2.1.two; go_simp; exact hK.out _ _ _ rfl rfl rfl zG
            refine zSR (fun w' hS hV K hK => ?_) ?_
            · have e1 := zQ hV 1; have t9 := hS.1.cell; obtain ⟨q0, q1⟩ := hS.2.1.two; go_simp; exact hK.out _ _ _ rfl rfl rfl zG
            refine zSR (fun w' hS hV K hK => ?_) ?_
            · have t9 := hS.1.cell; obtain ⟨q0, q1⟩ := hS.2.1.two; go_simp; exact hK.out _ _ _ rfl rfl rfl zG
            refine zSR (fun w' hS hV K hK => ?_) ?_
            · have t9 := hS.1.cell; obtain ⟨q0, q1⟩ := hS.2.1.two; go_simp; exact hK.out _ _ _ rfl rfl rfl zG
            refine zSR (fun w' hS hV K hK => ?_) ?_
            · have e4 := zQ hV 4; have t9 := hS.1.cell; obtain ⟨q0, q1⟩ := hS.2.1.two; go_simp; exact hK.out _ _ _ rfl rfl rfl zG
            refine zSR (fun w' hS hV K hK => ?_) ?_
            · have e5 := zQ hV 5; have t9 := hS.1.cell; obtain ⟨q0, q1⟩ := hS.2.1.two; go_simp; exact hK.out _ _ _ rfl rfl ⟨_, rfl, Blk.new _ _ _⟩ (zG.alloc (Nat.le_refl _) _)
            refine zSR (fun w' hS hV K hK => ?_) ?_
            · have e3 := zQ hV 3; obtain ⟨g6, e6, h6⟩ := hV 6 (by decide); have t9 := hS.1.cell; obtain ⟨q0, q1⟩ := hS.2.1.two; go_simp; refine (pick_any g g6 [-1, P, 0, 1] w' hS.2.2.s' h6 (Nat.zero_lt_succ _) (by simp)).mono ?_; rintro e v1 ⟨r9, -, rfl, hd9⟩; exact hK.out _ _ _ rfl rfl ⟨r9, rfl⟩ hd9
            refine zSR (fun w' hS hV K hK => ?_) ?_
            · have e2 := zQ hV 2; have t9 := hS.1.cell; obtain ⟨q0, q1⟩ := hS.2.1.two; go_simp; exact hK.out _ _ _ rfl rfl rfl zG
            refine fun w' hS hV => ?_
            have e0 := zQ hV 0
            have e1 := zQ hV 1
            have e2 := zQ hV 2
            have e3 := zQ hV 3
            have e4 := zQ hV 4
            have e5 := zQ hV 5
            obtain ⟨g6, e6, h6⟩ := hV 6 (by decide)
            obtain ⟨k7, e7⟩ := hV 7 (by decide)
            have e8 := zQ hV 8
            simp only [e0, e1, e2, e3, e4, e5, e6, e7, e8]
            clear e0 e1 e2 e3 e4 e5 e6 e7 e8
            obtain ⟨hrow6, -, hd14⟩ := hS
            obtain ⟨w11, rfl⟩ : ∃ W, W = w' := ⟨_, rfl⟩
            have hom := HOM.out
            subst hom
            replace d5 := d5.trans hd14
            replace k5 := k5.dr hd14 (by decide)
            replace kb5 := kb5.dr hd14 (by decide)
            replace o5 := o5.dr hd14 (by decide)
            have l11 := HL5.out.dr hd14 (by decide) (by decide)
            obtain ⟨gm2, om2, hxm, g02, f02, eA, hom2, hrow2, hrw, hset⟩ := l11.elem hn1 (by rw [HM0.out]; exact hn1)
            cases eA
            have e12 := hrow6.cell
            have e13 := hrow2.cell
            rw [Nat.add_zero] at e13
            rw [e12] at e13
            obtain rfl : g0 = g02 := by
             injection e13 with e13
             injection e13 with e13
             injection e13 with e13
             injection e13 with e13
            obtain ⟨u9, -, hc9⟩ := hrw.cell_ (show 0 < M[0].length by rw [← getD_of_lt [] hxm, HM0.out]; exact hn1)
            have hf9 := hrw.frozen_ 0
            obtain ⟨l5, hg9⟩ := hset 0 k7
            have k6 := k5.grown hg9 (hrw.ne_blk k5 (by decide))
            have kb6 := kb5.grown hg9 (hrw.ne_blk kb5 (by decide))
            have o6 := o5.grown hg9 (by
             cases hb : (Value.slice A n c).ownBlock with
             | none => exact .inl rfl
             | some gb =>
              refine .inr fun e => ?_
              have t1 := HSQ.out gb hb
              have t2 := (World.ownsRow.lt hrw g0 rfl).1
              injection e with e
              omega)
            have d6 := d5.grown (hrw.base HBB.out) hg9
            have HR9 := Lib.hid (show Rect n (M.set 0 (M[0].set 0 k7)) from fun u hu => by
             rcases List.mem_or_eq_of_mem_set hu with hu | rfl
             · exact (HTM.out u hu).1
             · rw [List.length_set, ← getD_of_lt [] hxm]; exact HM0.out)
            have l6 := l5.base HBB.out
            obtain ⟨M2, hM2⟩ : ∃ X, X = M.set 0 (M[0].set 0 k7) := ⟨_, rfl⟩
            rw [← hM2] at HR9 l6
            clear hM2 hset l11 l5 hrow6 hrow2 e12 k5 kb5 o5 d5 hg9 hrw hd14
            refine any_one (j := 9) (by kernel_rfl) (Eq.trans (by simp only [zA, zB, zC]; exact rfl) rfl) (fun K hK => ?_)
            go_simp
            refine hK.out _ _ (wpAny_done (by kernel_rfl) ?_ _)
            clear hc9 hf9
            obtain ⟨w12, hw12⟩ : ∃ W, W = w11.setCell ⟨g0, 0, none⟩ (.int .i64 k7) := ⟨_, rfl⟩
            rw [← hw12] at k6 kb6 o6 d6 l6 ⊢
            clear hw12 q0 q1
            have k5 := k6
            have l5 := l6
            have o5 := o6
            have d5 := d6
            clear k6 l6 o6 d6
            obtain ⟨q0, q1⟩ := kb6.two
            obtain ⟨w6', rfl⟩ : ∃ W, W = w12 := ⟨_, rfl⟩
            obtain ⟨p0, p1⟩ := k5.two
            have f0 := k5.frozen 0
            have f1 := k5.frozen 1
            have hf : ∀ {m d : Nat} {A2 : Option Addr} {xs : List Int}, Own w6' w.heap.size 2 A2 m d (ints xs) → Own ((w6'.setCell ⟨w.heap.size, 0, none⟩ (.int .i64 P)).setCell ⟨w.heap.size, 1, none⟩ (.slice A n c)) w.heap.size 2 A2 m d (ints xs) := by
             intro m c' A' xs ho
             exact (ho.far k5 (by decide) 0 _).far (k5.set_ 0 (.int .i64 P)) (by decide) 1 _
            have hfM := l5.relB (g := g) (res := w.heap.size) (.inr ⟨0, none, 0, 0, P, A, n, c, k5, rfl⟩)
            go_wp2
            exact bodyPost_ret (v := .tuple #[.agg #[.int .i64 P, .slice A n c], .slice (some ⟨gm, 0, none⟩) n c0]) (by simp [results, Tryz.results72, go_sem, p0, p1]) rfl ⟨P, A, n, c, sq, (some ⟨gm, 0, none⟩), n, c0, n, M2, rfl, hP, hn, hn1, by omega, hn1, by omega, HR9.out, hf o5, hfM, (d5.setNew (Nat.le_refl _) 0 _).setNew (Nat.le_refl _) 1 _⟩
          · have e9 : (r9 == 0) = false := by simp [h9]
            have hML : M.length = n := l5.rd.len
            obtain ⟨q0, q1⟩ := kb5.two
            replace l5 := l5.base HBB.out
            obtain ⟨w6', rfl⟩ : ∃ W, W = w10 := ⟨_, rfl⟩
            obtain ⟨p0, p1⟩ := k5.two
            have f0 := k5.frozen 0
            have f1 := k5.frozen 1
            have hf : ∀ {m d : Nat} {A2 : Option Addr} {xs : List Int}, Own w6' w.heap.size 2 A2 m d (ints xs) → Own ((w6'.setCell ⟨w.heap.size, 0, none⟩ (.int .i64 P)).setCell ⟨w.heap.size, 1, none⟩ (.slice A n c)) w.heap.size 2 A2 m d (ints xs) := by
             intro m c' A' xs ho
             exact (ho.far k5 (by decide) 0 _).far (k5.set_ 0 (.int .i64 P)) (by decide) 1 _
            have hfM := l5.relB (g := g) (res := w.heap.size) (.inr ⟨0, none, 0, 0, P, A, n, c, k5, rfl⟩)
            go_wp2
            exact bodyPost_ret (v := .tuple #[.agg #[.int .i64 P, .slice A n c], .slice A0 n c0]) (by simp [results, Tryz.results72, go_sem, p0, p1]) rfl ⟨P, A, n, c, sq, A0, n, c0, n, M, rfl, hP, hn, hn1, by omega, hn1, by omega, Rect.of_tab HTM.out, hf o5, hfM, (d5.setNew (Nat.le_refl _) 0 _).setNew (Nat.le_refl _) 1 _⟩
theorem lessM_take {p : Int} {n : Nat} {M : List (List Int)} {k : Nat} (h : k < n) : (lessM p n M).take (k + 1) = (lessM p n M).take k ++ [plusL p (M.getD k []) (unitRow n k) (-1)] := by
 have hl : k < (lessM p n M).length := by rw [lessM_len]; exact h
 rw [List.take_succ_eq_append_getElem hl]
 congr 2
 rw [← getD_of_lt [] hl]
 unfold lessM
 rw [tab_getD h]
theorem less_set {p : Int} {n : Nat} {X : List Int} {k : Nat} (hp : 0 < p) (hX : X.length = n) (hn : NumsL p X) (hk : k < n) : plusL p X (unitRow n k) (-1) = X.set k ((X.getD k 0 + p - 1) % p) := by
 refine list_ext_getD 0 (by rw [plusL_len, List.length_set]) fun i hi => ?_
 rw [plusL_len] at hi
 rw [plusL_getD _ _ hi, unitRow_ent hk (by omega), getD_set]
 have hb := hn.getD hp i
 by_cases h : k = i
 · subst h
   rw [if_pos rfl, if_pos ⟨rfl, hi⟩, show X.getD k 0 + p - 1 = X.getD k 0 + -1 * 1 + p by omega, Int.add_emod_right]
 · rw [if_neg h, if_neg fun e => h e.1, Int.mul_zero, Int.add_zero, Int.emod_eq_of_lt hb.1 hb.2]
set_option maxHeartbeats 3200000 in
set_option maxRecDepth 8000 in
theorem specFixedVectors_any (P : Int) (A : Option Addr) (n c : Nat) (sq : List Int) (D : Option Addr) (r d : Nat) (M : List (List Int)) (m : Nat) (w : World) (hn : n ≤ 1048576) (hr0 : 0 < r) (hr : r ≤ 16) (hm1 : 1 ≤ m) (hm : m ≤ 16) (ha : Rd w A n (ints sq)) (hd : RdII w D r M) (hM : Rect m M) :
    Calls Tryz.prog 11 #[.agg #[.int .i64 P, .slice A n c], .slice D r d] w fun e w' => ∃ (A' : Option Addr) (k c' : Nat), e = .returned (.tuple #[.slice A' k c', .int .i64 (fixR P sq M).2]) ∧ MkII w w' A' k c' (fixR P sq M).1 := by
 have hB0 : Below w.heap.size w (w.alloc (.cells #[.int .i64 P, .slice A n c] 26)) := zG.alloc (Nat.le_refl _) _
 have k0 : Blk (w.alloc (.cells #[.int .i64 P, .slice A n c] 26)) w.heap.size 26 #[.int .i64 P, .slice A n c] := Blk.new _ _ _
 have hck := l08Code_any P A n c sq D r d M m (w.alloc (.cells #[.int .i64 P, .slice A n c] 26)) hn hr0 hr hm1 hm (ha.below hB0) (hd.below hB0) hM
 obtain ⟨R, hR⟩ : ∃ R, R = fixR P sq M := ⟨_, rfl⟩
 rw [← hR]
 by_cases hc : codeO P sq M = 0
 · rw [hc] at hck
   have hRv := hR
   unfold fixR at hRv
   rw [if_pos hc] at hRv
   obtain ⟨h1, h2, h3⟩ := codeO_zero hc
   have hsl := ha.lenI
   obtain ⟨hl, hT⟩ := isoB_frame h3
   obtain ⟨HP, hd1, hd2, -⟩ := isSp_dim h1
   obtain ⟨hp3, hp2⟩ := isP_ge HP
   rw [hsl] at hl hT hd1 hd2 hRv
   obtain rfl : n = r := by rw [← hl]; exact hd.len
   have HT := Lib.hid hT
   have HML := Lib.hid hl
   have HPP := Lib.hid HP
   have HD := Lib.hid hd
   have HRV := Lib.hid hRv
   clear hc h1 h2 h3 hsl hl hT hM hRv hR HP hd ha
   go_enter Tryz.func11, Tryz.ntmps11
   obtain ⟨q0, q1⟩ := k0.two
   go_wp2_with fail
   refine hck.mono ?_
   rintro e w2 ⟨rfl, hb2⟩
   have hB2 := hB0.trans (hb2.mono hB0.size)
   have k2 := k0.below hb2 k0.lt
   clear q0 q1
   clear hck k0 hB0
   have hM0 : MkII w (w2.alloc (.cells #[] 24)) (some ⟨w2.heap.size, 0, none⟩) 0 0 [] := MkII.empty hB2
   have k3 := k2.alloc (.cells #[] 24)
   have HKE := Lib.hid fun (w' : World) (B : Option Addr) (b : Nat) (h : RdII w' B n (lessM P n M)) => l02Kernel_any P B n b (lessM P n M) n w' HPP.out hd1 (by omega) (by omega) h (lessM_tab (by omega) HT.out HML.out)
   obtain ⟨KL, hKL⟩ : ∃ X, X = kernL P (lessM P n M) n := ⟨_, rfl⟩
   rw [← hKL] at HKE HRV
   obtain rfl : R = (KL, 0) := HRV.out
   clear hKL HRV k2 hB2 hb2
   go_wp2
   obtain ⟨w3, hw3⟩ : ∃ W, W = w2.alloc (.cells #[] 24) := ⟨_, rfl⟩
   rw [← hw3] at hM0 k3 ⊢
   clear hw3
   go_loopw [7, 8] (fun lv iv wr => ∃ (k : Nat) (A0 : Option Addr) (c0 : Nat), k ≤ n ∧ iv = .int .i64 k ∧ lv = .slice A0 k c0 ∧ MkII w wr A0 k c0 ((lessM P n M).take k) ∧ Blk wr w.heap.size 26 #[.int .i64 P, .slice A n c]) (fun _ iv _ => n - (intOf iv).toNat)
   case atStart => exact ⟨0, _, _, by omega, rfl, rfl, by simpa using hM0, k3⟩
   case round =>
    obtain ⟨k, A0, c0, hk, rfl, rfl, hM, k4⟩ := hrel
    clear hM0 k3
    by_cases hlt : k < n
    · obtain ⟨gm, om, rfl, hx, Ar, cr, hcr, hrr, -⟩ := (HD.out.below hM.b).at_ hlt
      have hXk := HT.out M[k] (List.getElem_mem hx)
      rw [hXk.1] at hcr hrr
      have HGD : Hid (M.getD k [] = M[k]) := Lib.hid (getD_of_lt [] hx)
      obtain ⟨X, hX⟩ : ∃ X, X = M[k] := ⟨_, rfl⟩
      rw [← hX] at hrr hXk HGD
      have hx0 := hXk.2.getD (show 0 < P by omega) k
      obtain ⟨x0, hx0e⟩ : ∃ x, x = X.getD k 0 := ⟨_, rfl⟩
      rw [← hx0e] at hx0
      obtain ⟨y, hy⟩ : ∃ y, y = (x0 + P - 1) % P := ⟨_, rfl⟩
      have hy2 : 0 ≤ y ∧ y < P := by rw [hy]; exact ⟨Int.emod_nonneg _ (by omega), Int.emod_lt_of_pos _ (by omega)⟩
      have HAP : Hid ((lessM P n M).take (k + 1) = (lessM P n M).take k ++ [X.set k y]) := Lib.hid (by rw [lessM_take hlt, HGD.out, less_set (by omega) hXk.1 hXk.2 hlt, hy, hx0e])
      have HXK := Lib.hid hXk
      have HX0 := Lib.hid hx0e
      have T1 : (x0 + P - 1).tmod P = y := by rw [Int.tmod_eq_emod_of_nonneg (by omega), hy]
      have T2 : (x0 + P - 1) % P = y := hy.symm
      have hcall := l01Own_any Ar n cr X wr (by omega) hrr
      have HM := Lib.hid hM
      clear hX hx hXk hx0e hy hM hrr
      obtain ⟨q0, q1⟩ := k4.two
      go_wp2_with fail
      refine hcall.mono ?_
      rintro e w5 ⟨A5, c5, rfl, hM5⟩
      have k5 := k4.below hM5.b k4.lt
      rcases hM5.2.form with ⟨-, hz⟩ | ⟨gr, rfl, -, -⟩
      · exact absurd hz (by omega)
      obtain ⟨g9, o9, e9, hx9, hc9⟩ := hM5.rd.int hlt
      cases e9
      rw [← getD_of_lt 0 hx9, ← HX0.out, Nat.zero_add] at hc9
      have HM5 := Lib.hid hM5
      have hP0 : ¬ P = 0 := by omega
      have W1 : IntKind.i64.wrap (x0 + P) = x0 + P := i64_fit _ (by omega) (by omega)
      have W2 : IntKind.i64.wrap (x0 + P - 1) = x0 + P - 1 := i64_fit _ (by omega) (by omega)
      have W3 : IntKind.i64.wrap y = y := i64_fit _ (by omega) (by omega)
      clear hcall hM5 q0 q1 hx9 hcr
      obtain ⟨q0, q1⟩ := k5.two
      go_wp2
      refine wp_obs 14 [[],[],[],[],[2,3],[2,3,4],[],[6],[2,3,4,5,6,7],[2,3,4,5,6,7,8],[],[10],[2,3,4,5,6,7,8,9,10,11],[0,1],[0,1,2,3,4,5,6,7,8,9,10,11,12,13]] [VIs (.slice (some ⟨gr, 0, none⟩) n c5), VIs (.int .i64 (k)), VIs (.slice (some ⟨gr, 0, none⟩) n c5), VIs (.int .i64 (k)), VIs (.pointer (some ⟨gr, k, none⟩)), VIs (.int .i64 (x0)), VIs (.pointer (some ⟨w.heap.size, 0, none⟩)), VIs (.int .i64 (P)), VIs (.int .i64 (x0 + P)), VIs (.int .i64 (x0 + P - 1)), VIs (.pointer (some ⟨w.heap.size, 0, none⟩)), VIs (.int .i64 (P)), VIs (.int .i64 (y)), VIs (.pointer (some ⟨gr, k, none⟩))] (fun w' => w'.cell? ⟨gr, k, none⟩ = some (.int .i64 x0) ∧ Blk w' w.heap.size 26 #[.int .i64 P, .slice A n c] ∧ Below w5.heap.size w5 w') (by kernel_rfl) (by kernel_rfl) (fun _ _ h hb => ⟨(hb.cell (World.block_lt_of_cell? _ _ h.1)).trans h.1, h.2.1.below hb h.2.1.lt, h.2.2.trans (hb.mono h.2.2.size)⟩) (⟨hc9, k5.drew, zG.drew⟩) (fun x => ?_)
      refine zS (fun w' hS hV K hK => ?_) ?_
      · have q5 := hS.1; obtain ⟨q0, q1⟩ := hS.2.1.two; go_simp; exact zO hK
      refine zS (fun w' hS hV K hK => ?_) ?_
      · have q5 := hS.1; obtain ⟨q0, q1⟩ := hS.2.1.two; go_simp; exact zO hK
      refine zS (fun w' hS hV K hK => ?_) ?_
      · have q5 := hS.1; obtain ⟨q0, q1⟩ := hS.2.1.two; go_simp; exact zO hK
      refine zS (fun w' hS hV K hK => ?_) ?_
      · have q5 := hS.1; obtain ⟨q0, q1⟩ := hS.2.1.two; go_simp; exact zO hK
      refine zS (fun w' hS hV K hK => ?_) ?_
      · have e2 := zQ hV 2; have e3 := zQ hV 3; have q5 := hS.1; obtain ⟨q0, q1⟩ := hS.2.1.two; go_simp; exact zO hK
      refine zS (fun w' hS hV K hK => ?_) ?_
      · have e4 := zQ hV 4; have q5 := hS.1; obtain ⟨q0, q1⟩ := hS.2.1.two; go_simp; exact zO hK
      refine zS (fun w' hS hV K hK => ?_) ?_
      · have q5 := hS.1; obtain ⟨q0, q1⟩ := hS.2.1.two; go_simp; exact zO hK
      refine zS (fun w' hS hV K hK => ?_) ?_
      · have e6 := zQ hV 6; have q5 := hS.1; obtain ⟨q0, q1⟩ := hS.2.1.two; go_simp; exact zO hK
      refine zS (fun w' hS hV K hK => ?_) ?_
      · have e5 := zQ hV 5; have e7 := zQ hV 7; have q5 := hS.1; obtain ⟨q0, q1⟩ := hS.2.1.two; go_simp; exact zO hK
      refine zS (fun w' hS hV K hK => ?_) ?_
      · have e8 := zQ hV 8; have q5 := hS.1; obtain ⟨q0, q1⟩ := hS.2.1.two; go_simp; exact zO hK
      refine zS (fun w' hS hV K hK => ?_) ?_
      · have q5 := hS.1; obtain ⟨q0, q1⟩ := hS.2.1.two; go_simp; exact zO hK
      refine zS (fun w' hS hV K hK => ?_) ?_
      · have e10 := zQ hV 10; have q5 := hS.1; obtain ⟨q0, q1⟩ := hS.2.1.two; go_simp; exact zO hK
      refine zS (fun w' hS hV K hK => ?_) ?_
      · have e9 := zQ hV 9; have e11 := zQ hV 11; have q5 := hS.1; obtain ⟨q0, q1⟩ := hS.2.1.two; go_simp; exact zO hK
      refine zS (fun w' hS hV K hK => ?_) ?_
      · have e0 := zQ hV 0; have e1 := zQ hV 1; have q5 := hS.1; obtain ⟨q0, q1⟩ := hS.2.1.two; go_simp; exact zO hK
      refine fun w' hS hV => ?_
      have e0 := zT hV 0
      have e1 := zT hV 1
      have e2 := zT hV 2
      have e3 := zT hV 3
      have e4 := zT hV 4
      have e5 := zT hV 5
      have e6 := zT hV 6
      have e7 := zT hV 7
      have e8 := zT hV 8
      have e9 := zT hV 9
      have e10 := zT hV 10
      have e11 := zT hV 11
      have e12 := zT hV 12
      have e13 := zT hV 13
      simp only [e0, e1, e2, e3, e4, e5, e6, e7, e8, e9, e10, e11, e12, e13]
      clear e0 e1 e2 e3 e4 e5 e6 e7 e8 e9 e10 e11 e12 e13
      obtain ⟨hc6, k6, hb6⟩ := hS
      have hM6 := HM5.out.below hb6
      have hf6 := hM6.2.frozen_ k
      obtain ⟨hm2, hg2⟩ := hM6.set k (.int .i64 y)
      have k7 := k6.grown hg2 (hM6.2.ne_blk k6 (by decide))
      rw [ints_set] at hm2
      obtain ⟨w6, rfl⟩ : ∃ W, W = w' := ⟨_, rfl⟩
      refine any_one (j := 14) (by kernel_rfl) (Eq.trans (by simp only [zA, zB, zC]; exact rfl) rfl) (fun K hK => ?_)
      go_simp
      refine hK.out _ _ (wpAny_done (by kernel_rfl) ?_ _)
      have HM2 := Lib.hid hm2
      clear hm2 hM6 hc6 hf6 k6 hb6 T1 T2 W1 W2 W3 q0 q1 hg2
      go_wp2_with (at_builtin; refine wpList_appRowG w wr _ rfl _ _ rfl A0 k c0 _ _ n c5 _ HM.out HM2.out (by omega) rfl ?_ ?_; (go_simp); intro A' c' w' hM' hg20 hat20)
      have k8 := k7.grown hg20 ((HM.out.below HM2.out.b).ne_blk k7 (by decide))
      clear hg20 hat20 k7
      go_roundw
      case rel => exact ⟨k + 1, A', c', by omega, by go_num, rfl, by rw [HAP.out]; exact hM', k8⟩
      case measure => simp [intOf]; omega
    · obtain rfl : k = n := by omega
      rw [List.take_of_length_le (by rw [lessM_len]; omega)] at hM
      have hb4 := hM.b
      have hcall := HKE.out wr A0 c0 hM.rd
      obtain ⟨q0, q1⟩ := k4.two
      clear hM HKE
      go_wp2_with fail
      refine hcall.mono ?_
      rintro e w5 ⟨A5, c5, rfl, hM5⟩
      go_wp2
      go_ret2
      exact ⟨_, _, _, rfl, hM5.after hb4⟩
 · skip
   obtain ⟨v, hv⟩ : ∃ v, v = codeO P sq M := ⟨_, rfl⟩
   have hRv := hR
   unfold fixR at hRv
   rw [if_neg hc, ← hv] at hRv
   rw [← hv] at hck
   have b0 : (v != 0) = true := code_ne (by rw [hv]; exact hc)
   have b1 : (v == 0) = false := by
    rw [beq_eq_false_iff_ne]; rw [hv]; exact hc
   subst hRv
   clear hc hv hM ha hd hR
   go_enter Tryz.func11, Tryz.ntmps11
   obtain ⟨q0, q1⟩ := k0.two
   go_wp2_with fail
   refine hck.mono ?_
   rintro e w2 ⟨rfl, hb2⟩
   have hB2 := hB0.trans (hb2.mono hB0.size)
   have k2 := k0.below hb2 k0.lt
   clear q0 q1
   go_wp2
   go_ret2
   exact ⟨none, 0, 0, rfl, MkII.nil hB2⟩
set_option maxHeartbeats 1600000 in
set_option maxRecDepth 8000 in
theorem ApplyMatrix_ok (p : Int) (A : Option Addr) (n c : Nat) (M : List (List Int)) (B : Option Addr) (d : Nat) (v : List Int) (w : World) (HP : isP p = true) (hn0 : 0 < n) (hn : n ≤ 16) (ha : RdII w A n M) (hM : Tab p n M) (hb : Rd w B n (ints v)) (hv : NumsL p v) :
    Calls Tryz.prog 15 #[.int .i64 p, .slice A n c, .slice B n d] w fun e w' => ∃ (A' : Option Addr) (c' : Nat), e = .returned (.tuple #[.slice A' n c', .int .i64 0]) ∧ MkI w w' A' n c' (applyL p M v) := by
 obtain ⟨hp3, hp2⟩ := isP_ge HP
 have hB : Below w.heap.size w (w.alloc (.cells #[.slice A n c] 27)) := zG.alloc (Nat.le_refl _) _
 have hkn : Blk (w.alloc (.cells #[.slice A n c] 27)) w.heap.size 27 #[.slice A n c] := Blk.new _ _ _
 have hrm : RdM (w.alloc (.cells #[.slice A n c] 27)) w.heap.size 1 p := fun k hk => by
  obtain rfl : k = 0 := by omega
  exact ⟨A, n, c, n, M, by rw [hkn.cell]; rfl, ha.below hB, hM, by omega, hn, by omega, hn⟩
 have hck := checkMatrices_ok p w.heap.size 1 1 (w.alloc (.cells #[.slice A n c] 27)) HP (by omega) hrm
 have his := Lib.hid fun w' (h : Below w.heap.size w w') => is_any p B n d v w' (by omega) (by omega) (by omega) (hb.below h)
 rw [numsL_nums hv] at his
 have hti := Lib.hid fun w' (h : Below w.heap.size w w') => apply_any p A n c M B n d v w' (by omega) hp2 (by omega) (by omega) (ha.below h) hM (hb.below h) hv
 have HM := Lib.hid hM
 clear hrm hkn hv HP hM
 go_enter Tryz.func15, Tryz.ntmps15
 go_wp2_with fail
 refine hck.mono ?_
 rintro e w1 ⟨rfl, hb1⟩
 have hB1 := hB.trans (hb1.mono hB.size)
 obtain ⟨g, o, rfl, hx0, A0, c0, hc0, -, -⟩ := (ha.below hB1).at_ hn0
 rw [(HM.out M[0] (List.getElem_mem hx0)).1, Nat.add_zero] at hc0
 have t4 : ((n : Int) != (n : Int)) = false := by simp
 clear hck ha hb
 go_wp2_with fail
 refine (his.out w1 hB1).mono ?_
 rintro e w2 ⟨rfl, rfl⟩
 go_wp2_with fail
 refine (hti.out w1 hB1).mono ?_
 rintro e w3 ⟨A', c', rfl, hMM⟩
 go_wp2
 go_ret2
 exact ⟨A', c', rfl, hMM.after hB1⟩
set_option maxHeartbeats 3200000 in
set_option maxRecDepth 8000 in
theorem PowerMatrix_ok (p : Int) (A : Option Addr) (n c : Nat) (M : List (List Int)) (K : Nat) (w : World) (HP : isP p = true) (hn0 : 0 < n) (hn : n ≤ 16) (hK : K ≤ 1000) (ha : RdII w A n M) (hM : Tab p n M) (hl : M.length = n) :
    Calls Tryz.prog 17 #[.int .i64 p, .slice A n c, .int .i64 K] w fun e w' => ∃ (A' : Option Addr) (c' : Nat), e = .returned (.tuple #[.slice A' n c', .int .i64 0]) ∧ RdII w' A' n (powL p n M K) ∧ Below w.heap.size w w' := by
 obtain ⟨hp3, hp2⟩ := isP_ge HP
 have hck := checkSquare_ok p A n c M w HP hn0 hn ha hM
 have hin := Lib.hid fun w' => inRange_b (b := true) (K : Int) 0 1000 w' (by unfold inR; simp; omega)
 obtain ⟨x, hx⟩ : ∃ x : Mt p n, x = Mt.mk' (by omega) hM hl := ⟨_, rfl⟩
 have hxl : x.l = M := by rw [hx]; rfl
 have HPOW : Hid ((Mt.pw x K).l = powL p n M K) := Lib.hid (by rw [Mt.pw_l (by omega) hn0, hxl])
 have HTM := Lib.hid fun (w' : World) (B : Option Addr) (b : Nat) (C : Option Addr) (f : Nat) (y z : Mt p n) (hb : RdII w' B n y.l) (hc : RdII w' C n z.l) => timesM_any p B n b y.l C f z.l w' (by omega) hp2 hn0 (by omega) hb y.tab hc z.tab
 have HXL := Lib.hid hxl
 have HA := Lib.hid ha
 have HT := Lib.hid hM
 have HOL : Hid ((Mt.one (p := p) (n := n) (by omega)).l = unitM n) := Lib.hid (Mt.one_l (by omega))
 have HPS : Hid (0 < p) := Lib.hid (by omega)
 have hal := ha.len
 clear hx hxl HP hM
 go_enter Tryz.func17, Tryz.ntmps17
 go_wp2_with fail
 refine hck.mono ?_
 rintro e w1 ⟨rfl, hb1⟩
 go_wp2_with fail
 refine (hin.out w1).mono ?_
 rintro e w2 ⟨rfl, rfl⟩
 go_wp2_with fail
 refine (unit_any n w1 (by omega)).mono ?_
 rintro e w3 ⟨U, cu, rfl, hU⟩
 have hB3 := hb1.trans (hU.b.mono hb1.size)
 have hu3 := hU.rd
 rw [← HOL.out] at hu3
 go_wp2_with fail
 refine (cloneRows_any p A n c M n w3 (by omega) (by omega) (HA.out.below hB3) HT.out).mono ?_
 rintro e w4 ⟨S0, cs, rfl, hS⟩
 have hB4 := hB3.trans (hS.b.mono hB3.size)
 have hu4' := hu3.below hS.b
 have hs4 := hS.rd
 rw [← HXL.out] at hs4
 have HB4 := Lib.hid hB4
 clear hck hU hu3 hS hB3 hb1 ha hB4
 go_wp2
 go_loopw [2, 9, 10] (fun kv ov sv wr => ∃ (j : Nat) (y z : Mt p n) (A1 : Option Addr) (c1 : Nat) (A2 : Option Addr) (c2 : Nat), j ≤ 1000 ∧ kv = .int .i64 j ∧ ov = .slice A1 n c1 ∧ sv = .slice A2 n c2 ∧ RdII wr A1 n y.l ∧ RdII wr A2 n z.l ∧ Below w4.heap.size w4 wr ∧ Hid (y * Mt.pw z j = Mt.pw x K)) (fun kv _ _ _ => (intOf kv).toNat)
 case atStart => exact ⟨K, Mt.one HPS.out, x, U, cu, S0, cs, hK, rfl, rfl, rfl, hu4', hs4, Below.refl _ _, Lib.hid (Mt.one_mul _ _)⟩
 case round =>
  obtain ⟨j, y, z, A1, c1, A2, c2, hj, rfl, rfl, rfl, hy, hz, hbr, HE⟩ := hrel
  clear hu4' hs4
  by_cases hj0 : 0 < j
  · have t1 : decide ((0 : Int) < (j : Int)) = true := by simp; omega
    obtain ⟨h, hh⟩ : ∃ h, h = j / 2 := ⟨_, rfl⟩
    have Q1 : (j : Int).tdiv 2 = (h : Int) := by rw [Int.tdiv_eq_ediv_of_nonneg (by omega)]; omega
    have Q2 : (j : Int) / 2 = (h : Int) := by omega
    have W1 : IntKind.i64.wrap (h : Int) = (h : Int) := i64_fit _ (by omega) (by omega)
    by_cases hodd : j % 2 = 1
    · have HE2 : Hid ((y * z) * Mt.pw (z * z) h = Mt.pw x K) := Lib.hid (by
       have := Mt.pw_bin y z j
       rw [if_pos hodd, HE.out] at this
       rw [hh]; exact this.symm)
      have m1 : (j : Int).tmod 2 = 1 := by rw [Int.tmod_eq_emod_of_nonneg (by omega)]; omega
      have m2 : (j : Int) % 2 = 1 := by omega
      have h2j : h < j := by omega
      have HZ := Lib.hid hz
      have hcall := HTM.out wr A1 c1 A2 c2 y z hy hz
      rw [← Mt.mul_l y z hn0] at hcall
      clear hh HE hy hz
      go_wp2_with fail
      refine hcall.mono ?_
      rintro e w5 ⟨A5, c5, rfl, hM5⟩
      have r5 := hM5.rd
      have z5 := HZ.out.below hM5.b
      have hb5 := hbr.trans (hM5.b.mono hbr.size)
      clear hcall hM5 m1 m2
      have hcall := HTM.out w5 A2 c2 A2 c2 z z z5 z5
      rw [← Mt.mul_l z z hn0] at hcall
      go_wp2_with fail
      refine hcall.mono ?_
      rintro e w6 ⟨A6, c6, rfl, hM6⟩
      have r6 := hM6.rd
      have r7 := r5.below hM6.b
      have hb6 := hb5.trans (hM6.b.mono hb5.size)
      clear hcall hM6 r5 z5
      go_wp2
      go_roundw
      case rel => exact ⟨h, y * z, z * z, A5, c5, A6, c6, by omega, by go_num, rfl, rfl, r7, r6, hb6, HE2⟩
      case measure => simp [intOf]; omega
    · have HE2 : Hid (y * Mt.pw (z * z) h = Mt.pw x K) := Lib.hid (by
       have := Mt.pw_bin y z j
       rw [if_neg hodd, HE.out] at this
       rw [hh]; exact this.symm)
      have m1 : (j : Int).tmod 2 = 0 := by rw [Int.tmod_eq_emod_of_nonneg (by omega)]; omega
      have m2 : (j : Int) % 2 = 0 := by omega
      have h2j : h < j := by omega
      have HY := Lib.hid hy
      have hcall := HTM.out wr A2 c2 A2 c2 z z hz hz
      rw [← Mt.mul_l z z hn0] at hcall
      clear hh HE hy hz
      go_wp2_with fail
      refine hcall.mono ?_
      rintro e w6 ⟨A6, c6, rfl, hM6⟩
      have r6 := hM6.rd
      have r7 := HY.out.below hM6.b
      have hb6 := hbr.trans (hM6.b.mono hbr.size)
      clear hcall hM6 m1 m2
      go_wp2
      go_roundw
      case rel => exact ⟨h, y, z * z, A1, c1, A6, c6, by omega, by go_num, rfl, rfl, r7, r6, hb6, HE2⟩
      case measure => simp [intOf]; omega
  · obtain rfl : j = 0 := by omega
    have hy2 : y = Mt.pw x K := by
     have := HE.out
     rw [show Mt.pw z 0 = Mt.one z.pos from rfl, Mt.mul_one] at this
     exact this
    rw [hy2, HPOW.out] at hy
    go_wp2
    go_ret2
    exact ⟨_, _, rfl, hy, HB4.out.trans (hbr.mono HB4.out.size)⟩
set_option maxHeartbeats 3200000 in
set_option maxRecDepth 8000 in
theorem DrawFixedVectors_any (B : Option Addr) (nb cb : Nat) (bs : List Int) (w : World) (hnb : nb ≤ 4096) (r : Rd w B nb (bs.map (Value.int .u8))) (hbs : ∀ b ∈ bs, 0 ≤ b ∧ b < 256) (hbg : ∀ a, B = some a → a.block < w.heap.size) :
    Calls Tryz.prog 9 #[.slice B nb cb] w (DrewQ w) := by
 have hB0 : Below w.heap.size w (w.alloc (.cells #[.int .i64 0, .slice none 0 0] 26)) := zG.alloc (Nat.le_refl _) _
 have k0 : Blk (w.alloc (.cells #[.int .i64 0, .slice none 0 0] 26)) w.heap.size 26 #[.int .i64 0, .slice none 0 0] := Blk.new _ _ _
 have hfr := from__any B nb cb bs (w.alloc (.cells #[.int .i64 0, .slice none 0 0] 26)) hnb (r.below hB0) hbs (fun a e => by have := hbg a e; simp; omega)
 go_enter Tryz.func9, Tryz.ntmps9
 go_wp2_with fail
 refine hfr.mono ?_
 rintro e w2 ⟨g, rfl, hg, hs2, hb2⟩
 have k2 := k0.below hb2 k0.lt
 have hB2 := hB0.trans (hb2.mono hB0.size)
 have hw := hB2.size
 have hgw : w.heap.size ≤ g := Nat.le_trans hB0.size hg
 have hdr := l08Draw_any g w2 hs2
 clear hfr hb2 k0 hB0 hg
 go_wp2_with fail
 refine hdr.mono ?_
 rintro e w3 ⟨P, A, n, c, sq, AL, q, cl, m, L, rfl, hP, hn, y1, y2, y3, y4, y5, hO, hL, hd3⟩
 have k3 := k2.dr hd3 (by decide)
 have hB3 := hB2.trans (hd3.b.mono hgw)
 have kb4 : Blk (w3.alloc (.cells #[.int .i64 P, .slice A n c] 26)) w3.heap.size 26 #[.int .i64 P, .slice A n c] := Blk.new _ _ _
 have hres : w.heap.size < w3.heap.size := Nat.lt_of_lt_of_le (show w.heap.size < w2.heap.size from k2.lt) hd3.size
 obtain ⟨q0, q1⟩ := kb4.two
 obtain ⟨p0, p1⟩ := k3.two
 have f0 := k3.frozen 0
 have f1 := k3.frozen 1
 have hf : Own (((w3.setCell ⟨w.heap.size, 0, none⟩ (.int .i64 P)).setCell ⟨w.heap.size, 1, none⟩ (.slice A n c)).alloc (.cells #[.int .i64 P, .slice A n c] 26)) w.heap.size 2 A n c (ints sq) :=
  (((hO.base hw).far k3 (by decide) 0 _).far (k3.set_ 0 (.int .i64 P)) (by decide) 1 _).below (zG.alloc (Nat.le_refl _) _)
 have hfM : OwnM (((w3.setCell ⟨w.heap.size, 0, none⟩ (.int .i64 P)).setCell ⟨w.heap.size, 1, none⟩ (.slice A n c)).alloc (.cells #[.int .i64 P, .slice A n c] 26)) w.heap.size AL q cl L :=
  ((hL.base hw).relB (g := g) (res := w.heap.size) (.inr ⟨0, none, 0, 0, P, A, n, c, k3, rfl⟩)).below (zG.alloc (Nat.le_refl _) _)
 have hB5 := (hB3.setCell (p := ⟨w.heap.size, 0, none⟩) (Nat.le_refl _) (.int .i64 P)).setCell (p := ⟨w.heap.size, 1, none⟩) (Nat.le_refl _) (.slice A n c)
 obtain ⟨z0, z1⟩ := ((k3.stored (p' := P) (A' := A) (n' := n) (c' := c)).alloc (.cells #[.int .i64 P, .slice A n c] 26)).two
 clear hdr k2 hO hL hd3 hB3 hB2
 go_wp2
 exact bodyPost_ret (v := .tuple #[.agg #[.int .i64 P, .slice A n c], .slice AL q cl]) (by simp [results, Tryz.results9, go_sem, z0, z1]) rfl ⟨P, A, n, c, sq, AL, q, cl, m, L, rfl, hP, hn, y1, y2, y3, y4, y5, hf, hfM, hB5.alloc (o := .cells #[.int .i64 P, .slice A n c] 26) hB5.size⟩
set_option maxHeartbeats 6400000 in
set_option maxRecDepth 8000 in
theorem l07One_any (B : Option Addr) (nb cb : Nat) (bs : List Int) (w : World) (hnb : nb ≤ 4096) (r : Rd w B nb (bs.map (Value.int .u8))) (hbs : ∀ b ∈ bs, 0 ≤ b ∧ b < 256) (hbg : ∀ a, B = some a → a.block < w.heap.size) :
    Calls Tryz.prog 96 #[.slice B nb cb] w (Drew1 w) := by
 have hB0 : Below w.heap.size w (w.alloc (.cells #[.int .i64 0, .slice none 0 0] 26)) := zG.alloc (Nat.le_refl _) _
 have k0 : Blk (w.alloc (.cells #[.int .i64 0, .slice none 0 0] 26)) w.heap.size 26 #[.int .i64 0, .slice none 0 0] := Blk.new _ _ _
 have hfr := from__any B nb cb bs (w.alloc (.cells #[.int .i64 0, .slice none 0 0] 26)) hnb (r.below hB0) hbs (fun a e => by have := hbg a e; simp; omega)
 go_enter Tryz.func96, Tryz.ntmps96
 go_wp2_with fail
 refine hfr.mono ?_
 rintro e w2 ⟨g, rfl, hg, hs2, hb2⟩
 have k2 := k0.below hb2 k0.lt
 have hB2 := hB0.trans (hb2.mono hB0.size)
 have hw := hB2.size
 have hgw : w.heap.size ≤ g := Nat.le_trans hB0.size hg
 have hsp := l07Space_any g w2 hs2
 clear hfr hb2 k0 hB0 hg
 go_wp2_with fail
 refine hsp.mono ?_
 rintro e w3 ⟨P, A, n, c, sq, rfl, hP, hn, hO, hd3⟩
 have d4 := hd3.alloc (.cells #[.int .i64 P, .slice A n c] 26)
 have k4 := (k2.dr hd3 (by decide)).alloc (.cells #[.int .i64 P, .slice A n c] 26)
 have kb4 : Blk (w3.alloc (.cells #[.int .i64 P, .slice A n c] 26)) w3.heap.size 26 #[.int .i64 P, .slice A n c] := Blk.new _ _ _
 have hres : w.heap.size < w3.heap.size := Nat.lt_of_lt_of_le (show w.heap.size < w2.heap.size from k2.lt) hd3.size
 have o4 := (hO.base (B' := w.heap.size) hw).below (zG.alloc (Nat.le_refl _) (.cells #[.int .i64 P, .slice A n c] 26))
 clear hsp k2 hO hd3
 obtain ⟨q0, q1⟩ := kb4.two
 go_wp2
 refine wp_obsR 4 (Dr g 144) [[], [], [], [1, 2], [0, 1, 2, 3], [0, 1, 2, 3]] [[], [], [], [99]] (fun x => [VIs (.agg #[.int .i64 P, .slice A n c]), VIs (.pointer (some ⟨g, 0, none⟩)), VIs (.agg #[.int .i64 P, .slice A n c]), VLx w.heap.size]) (fun w' => Blk w' w.heap.size 26 #[.int .i64 0, .slice none 0 0] ∧ Blk w' w3.heap.size 26 #[.int .i64 P, .slice A n c] ∧ Own w' w.heap.size 2 A n c (ints sq) ∧ Dr g 144 w2 w') (by kernel_rfl) (by kernel_rfl) (fun x x' j hx => by
     rcases j with _ | _ | _ | _ | j
     · rfl
     · rfl
     · rfl
     · rfl
     · rfl)
  (weak_ofR [0, 1, 2, 3] (by decide) (fun k hk x v w w' hp hr => by
   simp only [List.mem_cons, zJ, or_false] at hk
   rcases hk with rfl | rfl | rfl | rfl
   · exact hp
   · exact hp
   · exact hp
   · exact VLx.dr hp hr (by decide))) (fun j _ _ h hb => hb.either (fun hb => ⟨h.1.below hb h.1.lt, h.2.1.below hb h.2.1.lt, h.2.2.1.below hb, h.2.2.2.then hb⟩) (fun hr => ⟨h.1.dr hr (by decide), h.2.1.dr hr (by decide), h.2.2.1.dr hr (by decide), h.2.2.2.trans hr⟩)) (⟨k4.drew, kb4.drew, o4.below zG.drew, d4.then zG.drew⟩) (fun x => ?_)
 refine zSR (fun w' hS hV K hK => ?_) ?_
 · obtain ⟨q0, q1⟩ := hS.2.1.two; go_simp; exact hK.out _ _ _ rfl rfl rfl zG
 refine zSR (fun w' hS hV K hK => ?_) ?_
 · obtain ⟨q0, q1⟩ := hS.2.1.two; go_simp; exact hK.out _ _ _ rfl rfl rfl zG
 refine zSR (fun w' hS hV K hK => ?_) ?_
 · obtain ⟨q0, q1⟩ := hS.2.1.two; go_simp; exact hK.out _ _ _ rfl rfl rfl zG
 refine zSR (fun w' hS hV K hK => ?_) ?_
 · have e1 := zQ hV 1; have e2 := zQ hV 2; obtain ⟨q0, q1⟩ := hS.2.1.two; go_simp; refine (l07Draw_any g P A n c sq w' hS.2.2.2.s' (by omega) (hS.2.2.1.base (Nat.zero_le _))).mono ?_; rintro e v1 ⟨A9, m9, c9, rfl, hm9, ⟨xs9, ho9⟩, hd9⟩; exact hK.out _ _ _ rfl rfl ⟨_, _, _, xs9, rfl, hm9, ho9.base (Nat.le_trans hw hS.2.2.2.size)⟩ hd9
 refine fun w' hS hV => ?_
 have e0 := zQ hV 0
 have e1 := zQ hV 1
 have e2 := zQ hV 2
 obtain ⟨A3, m3, c3, X3, e3, l3, h3⟩ := hV 3 (by decide)
 simp only [e0, e1, e2, e3]
 clear e0 e1 e2 e3
 obtain ⟨k5, kb5, o5, d5⟩ := hS
 obtain ⟨w6, rfl⟩ : ∃ W, W = w' := ⟨_, rfl⟩
 clear q0 q1 k4 kb4 o4 d4
 obtain ⟨p0, p1⟩ := k5.two
 have f0 := k5.frozen 0
 have f1 := k5.frozen 1
 refine any_one (j := 4) (by kernel_rfl) (Eq.trans (by simp only [zA, zB, zC]; exact rfl) rfl) (fun K hK => ?_)
 go_simp
 refine hK.out _ _ (any_one (j := 5) (by kernel_rfl) (Eq.trans (by simp only [zA, zB, zC]; exact rfl) rfl) (fun K hK => ?_))
 go_simp
 refine hK.out _ _ (wpAny_done (by kernel_rfl) ?_ _)
 have hf : ∀ {m d : Nat} {A2 : Option Addr} {xs : List Int}, Own w6 w.heap.size 2 A2 m d (ints xs) → Own ((w6.setCell ⟨w.heap.size, 0, none⟩ (.int .i64 P)).setCell ⟨w.heap.size, 1, none⟩ (.slice A n c)) w.heap.size 2 A2 m d (ints xs) := by
  intro m c' A' xs ho
  exact (ho.far k5 (by decide) 0 _).far (k5.set_ 0 (.int .i64 P)) (by decide) 1 _
 go_wp2
 exact bodyPost_ret (v := .tuple #[.agg #[.int .i64 P, .slice A n c], .slice A3 m3 c3]) (by simp [results, Tryz.results96, go_sem, p0, p1]) rfl ⟨P, A, n, c, sq, A3, m3, c3, X3, rfl, hP, hn, l3, hf o5, hf h3, hB2.trans (((d5.b.mono hgw).setCell (p := ⟨w.heap.size, 0, none⟩) (Nat.le_refl _) _).setCell (p := ⟨w.heap.size, 1, none⟩) (Nat.le_refl _) _)⟩
set_option maxHeartbeats 3200000 in
set_option maxRecDepth 8000 in
theorem DrawMatrixOfVersor_any (B : Option Addr) (nb cb : Nat) (bs : List Int) (w : World) (hnb : nb ≤ 4096) (r : Rd w B nb (bs.map (Value.int .u8))) (hbs : ∀ b ∈ bs, 0 ≤ b ∧ b < 256) (hbg : ∀ a, B = some a → a.block < w.heap.size) :
    Calls Tryz.prog 20 #[.slice B nb cb] w (Drew1 w) := by
 have hB0 : Below w.heap.size w (w.alloc (.cells #[.int .i64 0, .slice none 0 0] 26)) := zG.alloc (Nat.le_refl _) _
 have k0 : Blk (w.alloc (.cells #[.int .i64 0, .slice none 0 0] 26)) w.heap.size 26 #[.int .i64 0, .slice none 0 0] := Blk.new _ _ _
 have hon := l07One_any B nb cb bs (w.alloc (.cells #[.int .i64 0, .slice none 0 0] 26)) hnb (r.below hB0) hbs (fun a e => by have := hbg a e; simp; omega)
 go_enter Tryz.func20, Tryz.ntmps20
 go_wp2_with fail
 refine hon.mono ?_
 rintro e w3 ⟨P, A, n, c, sq, A1, m1, c1, xs, rfl, hP, hn, hm, hO, hX, hb3⟩
 have hsz : w.heap.size ≤ (w.alloc (.cells #[.int .i64 0, .slice none 0 0] 26)).heap.size := hB0.size
 have k3 := k0.below hb3 k0.lt
 have hB3 := hB0.trans (hb3.mono hsz)
 have kb4 : Blk (w3.alloc (.cells #[.int .i64 P, .slice A n c] 26)) w3.heap.size 26 #[.int .i64 P, .slice A n c] := Blk.new _ _ _
 have hres : w.heap.size < w3.heap.size := Nat.lt_of_lt_of_le k0.lt hb3.size
 obtain ⟨q0, q1⟩ := kb4.two
 obtain ⟨p0, p1⟩ := k3.two
 have f0 := k3.frozen 0
 have f1 := k3.frozen 1
 have hf : ∀ {m d : Nat} {A2 : Option Addr} {ys : List Int}, Own w3 (w.alloc (.cells #[.int .i64 0, .slice none 0 0] 26)).heap.size 2 A2 m d (ints ys) → Own (((w3.setCell ⟨w.heap.size, 0, none⟩ (.int .i64 P)).setCell ⟨w.heap.size, 1, none⟩ (.slice A n c)).alloc (.cells #[.int .i64 P, .slice A n c] 26)) w.heap.size 2 A2 m d (ints ys) := fun h =>
  (((h.base hsz).far k3 (by decide) 0 _).far (k3.set_ 0 (.int .i64 P)) (by decide) 1 _).below (zG.alloc (Nat.le_refl _) _)
 have hf1 := hf hO
 have hf2 := hf hX
 have hB5 := (hB3.setCell (p := ⟨w.heap.size, 0, none⟩) (Nat.le_refl _) (.int .i64 P)).setCell (p := ⟨w.heap.size, 1, none⟩) (Nat.le_refl _) (.slice A n c)
 obtain ⟨z0, z1⟩ := ((k3.stored (p' := P) (A' := A) (n' := n) (c' := c)).alloc (.cells #[.int .i64 P, .slice A n c] 26)).two
 clear hon k0 hb3 hB0 hf
 go_wp2
 exact bodyPost_ret (v := .tuple #[.agg #[.int .i64 P, .slice A n c], .slice A1 m1 c1]) (by simp [results, Tryz.results20, go_sem, z0, z1]) rfl ⟨P, A, n, c, sq, A1, m1, c1, xs, rfl, hP, hn, hm, hf1, hf2, hB5.alloc (o := .cells #[.int .i64 P, .slice A n c] 26) hB5.size⟩
end Go.Proofs.YtmkjdpnoloofjaaGreat

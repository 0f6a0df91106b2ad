/-
  LawFnCayleys: part 7 of the texts that the proof needs. No condition.
-/
import Derived.Test.YtdbibmilicjllaaGreatP6
namespace Go.Proofs.YtdbibmilicjllaaGreat
open Go.RowKit
set_option maxHeartbeats 1600000 in
set_option maxRecDepth 8000 in
theorem isTable_ok (p : Int) (A : Option Addr) (n c : Nat) (M : List (List Int)) (m : Nat) (w : World) (hp0 : 0 < p) (hp1 : p ≤ 13) (hn : n ≤ 16) (hm1 : 1 ≤ m) (hm : m ≤ 16) (ha : RdII w A n M) (hT : Tab p m M) :
    Calls Tryz.prog 252 #[.int .i64 p, .slice A n c] w fun e w' => e = .returned (.bool true) ∧ w = w' := by
  have HT := Lib.hid hT
  have t1 : decide ((16 : Int) < (n : Int)) = false := by simp; omega
  have t2 : decide ((m : Int) < 1) = false := by simp; omega
  have t3 : decide ((16 : Int) < (m : Int)) = false := by simp; omega
  have t4 : ((m : Int) != (m : Int)) = false := by simp
  clear hT
  go_enter Tryz.func252, Tryz.ntmps252
  go_wp2
  go_loopw [12] (fun i wr => ∃ k : Nat, k ≤ n ∧ i = .int .i64 k ∧ wr = w) (fun i _ => n - (intOf i).toNat)
  case atStart => exact ⟨0, by omega, rfl, rfl⟩
  case round =>
    obtain ⟨k, hk, rfl, rfl⟩ := hrel
    by_cases hlt : k < n
    · obtain ⟨g, o, rfl, hxk, A1, c1, hc1, hr1, -⟩ := ha.at_ hlt
      obtain ⟨g0, o0, e0, hx0, A0, c0, hc0, hr0, -⟩ := ha.at_ (show 0 < n by omega)
      cases e0
      obtain ⟨l1, n1⟩ := HT.out M[k] (List.getElem_mem hxk)
      obtain ⟨l0, -⟩ := HT.out M[0] (List.getElem_mem hx0)
      rw [l1] at hc1 hr1
      rw [l0] at hc0
      rw [Nat.add_zero] at hc0
      have his := is_b p A1 m c1 M[k] wr (by omega) (by omega) (by omega) hr1 (List.all_eq_true.2 fun x hx => by have := n1 x hx; simp [inR]; omega)
      clear hr1 hr0 l1 n1 l0 ha
      go_wp2_with fail
      refine his.mono ?_
      rintro e w1 ⟨rfl, rfl⟩
      go_wp2
      go_roundw
      case rel => exact ⟨k + 1, by omega, by go_num, by first | rfl | trivial⟩
      case measure => simp [intOf]; omega
    · go_wp2
      go_ret
      exact ⟨rfl, rfl⟩
set_option maxHeartbeats 800000 in
set_option maxRecDepth 8000 in
theorem isMatrix_ok (p : Int) (A : Option Addr) (n c : Nat) (M : List (List Int)) (m : Nat) (w : World) (hp0 : 0 < p) (hp1 : p ≤ 13) (hn0 : 0 < n) (hn : n ≤ 16) (hm1 : 1 ≤ m) (hm : m ≤ 16) (ha : RdII w A n M) (hT : Tab p m M) :
    Calls Tryz.prog 328 #[.int .i64 p, .slice A n c] w fun e w' => e = .returned (.bool true) ∧ w = w' := by
  have h := isTable_ok p A n c M m w hp0 hp1 hn hm1 hm ha hT
  have t1 : decide ((0 : Int) < (n : Int)) = true := by simp; omega
  clear hT
  go_enter Tryz.func328, Tryz.ntmps328
  go_wp2_with fail
  refine h.mono ?_
  rintro e w1 ⟨rfl, rfl⟩
  go_wp2
  go_ret
  exact ⟨rfl, rfl⟩
set_option maxHeartbeats 1600000 in
set_option maxRecDepth 8000 in
theorem isFrame_ok (P : Int) (A : Option Addr) (n c : Nat) (sq : List Int) (D : Option Addr) (d : Nat) (M : List (List Int)) (w : World) (hp0 : 0 < P) (hp1 : P ≤ 13) (hn0 : 0 < n) (hn : n ≤ 6) (hd : RdII w D n M) (hM : Tab P n M) :
    Calls Tryz.prog 321 #[.agg #[.int .i64 P, .slice A n c], .slice D n d] w fun e w' => e = .returned (.bool true) ∧ Below w.heap.size w w' := by
  have hB0 : Below w.heap.size w (w.alloc (.cells #[.int .i64 P, .slice A n c] 26)) := (Below.refl _ _).alloc (Nat.le_refl _) _
  have k0 : Blk (w.alloc (.cells #[.int .i64 P, .slice A n c] 26)) w.heap.size 26 #[.int .i64 P, .slice A n c] := Blk.new _ _ _
  have HIM := Lib.hid fun w' (h : Below w.heap.size w w') => isMatrix_ok P D n d M n w' hp0 hp1 hn0 (by omega) (by omega) (by omega) (hd.below h) hM
  obtain ⟨g, o, rfl, hx0, A0, c0, hc0, -, -⟩ := (hd.below hB0).at_ hn0
  rw [(hM M[0] (List.getElem_mem hx0)).1, Nat.add_zero] at hc0
  have t4 : ((n : Int) == (n : Int)) = true := by simp
  clear hM hd
  obtain ⟨q0, q1⟩ := k0.two
  go_enter Tryz.func321, Tryz.ntmps321
  go_wp2
  refine wp_obs 21 [[], [0], [], [0, 1, 2], [0, 1, 2, 3], [0, 1, 2, 3, 4], [0, 1, 2, 3, 4, 5], [0, 1, 2, 3, 4], [0, 1, 2, 3, 4, 7], [0, 1, 2, 3, 4, 5, 6, 7, 8], [0, 1, 2, 3, 4, 5, 6, 7, 8, 9], [0, 1, 2, 3, 4, 5, 6, 7, 8, 9, 10], [0, 1, 2, 3, 4, 5, 6, 7, 8, 9, 10, 11], [0, 1, 2, 3, 4, 5, 6, 7, 8, 9, 10, 11, 12], [0, 1, 2, 3, 4, 5, 6, 7, 8, 9, 10, 11, 12, 13], [0, 1, 2, 3, 4, 5, 6, 7, 8, 9, 10, 11, 12, 13, 14], [0, 1, 2, 3, 4, 5, 6, 7, 8, 9, 10, 11], [0, 1, 2, 3, 4, 5, 6, 7, 8, 9, 10, 11, 16], [0, 1, 2, 3, 4, 5, 6, 7, 8, 9, 10, 11, 12, 13, 14, 15, 16, 17], [0, 1, 2, 3, 4, 5, 6, 7, 8, 9, 10, 11, 12, 13, 14, 15, 16, 17, 18], [0, 1, 2, 3, 4, 5, 6, 7, 8, 9, 10, 11, 12, 13, 14, 15, 16, 17, 18, 19]] [VIs (.agg #[.int .i64 P, .slice A n c]), VIs (.int .i64 (P)), VIs (.slice (some ⟨g, o, none⟩) n d), VIs (.bool true), VIs (.bool true), VIs (.slice (some ⟨g, o, none⟩) n d), VIs (.int .i64 (n)), VIs (.agg #[.int .i64 P, .slice A n c]), VIs (.int .i64 (n)), VIs (.bool true), VIs (.bool true), VIs (.bool true), VIs (.slice (some ⟨g, o, none⟩) n d), VIs (.pointer (some ⟨g, o, none⟩)), VIs (.slice A0 n c0), VIs (.int .i64 (n)), VIs (.agg #[.int .i64 P, .slice A n c]), VIs (.int .i64 (n)), VIs (.bool true), VIs (.bool true), VIs (.bool true)] (fun w' => w'.cell? ⟨g, o, none⟩ = some (.slice A0 n c0) ∧ Blk w' w.heap.size 26 #[.int .i64 P, .slice A n c] ∧ Below w.heap.size w w') (by kernel_rfl) (by kernel_rfl) (fun _ _ h hb => ⟨(hb.cell (World.block_lt_of_cell? _ _ h.1)).trans h.1, h.2.1.below hb h.2.1.lt, h.2.2.trans (hb.mono h.2.2.size)⟩) (⟨hc0, k0.drew, hB0.drew⟩) (fun x => ?_)
  refine obs_step (Eq.trans (by simp only [zA, zC]; exact rfl) rfl) rfl (fun w' hS hV K hK => ?_) ?_
  · have q2 := hS.1; obtain ⟨q0, q1⟩ := hS.2.1.two
    go_simp
    exact hK.out _ _ _ rfl rfl rfl (Below.refl _ _)
  simp only [zD, zE, zF]
  refine obs_step (Eq.trans (by simp only [zA, zB, zC]; exact rfl) rfl) rfl (fun w' hS hV K hK => ?_) ?_
  · have e0 : x 0 = (.agg #[.int .i64 P, .slice A n c]) := hV 0 (by decide)
    have q2 := hS.1; obtain ⟨q0, q1⟩ := hS.2.1.two
    go_simp
    refine (field_any _ _ _ _ _).mono ?_
    rintro e v1 ⟨rfl, hb⟩
    exact hK.out _ _ _ rfl rfl rfl hb
  simp only [zD, zE, zF]
  refine obs_step (Eq.trans (by simp only [zA, zB, zC]; exact rfl) rfl) rfl (fun w' hS hV K hK => ?_) ?_
  · have q2 := hS.1; obtain ⟨q0, q1⟩ := hS.2.1.two
    go_simp
    exact hK.out _ _ _ rfl rfl rfl (Below.refl _ _)
  simp only [zD, zE, zF]
  refine obs_step (Eq.trans (by simp only [zA, zB, zC]; exact rfl) rfl) rfl (fun w' hS hV K hK => ?_) ?_
  · have e1 : x 1 = (.int .i64 (P)) := hV 1 (by decide)
    have e2 : x 2 = (.slice (some ⟨g, o, none⟩) n d) := hV 2 (by decide)
    have q2 := hS.1; obtain ⟨q0, q1⟩ := hS.2.1.two
    go_simp
    refine (HIM.out _ hS.2.2).mono ?_
    rintro e v1 ⟨rfl, rfl⟩
    exact hK.out _ _ _ rfl rfl rfl (Below.refl _ _)
  simp only [zD, zE, zF]
  refine obs_step (Eq.trans (by simp only [zA, zB, zC]; exact rfl) rfl) rfl (fun w' hS hV K hK => ?_) ?_
  · have e3 : x 3 = (.bool true) := hV 3 (by decide)
    have q2 := hS.1; obtain ⟨q0, q1⟩ := hS.2.1.two
    go_simp
    exact hK.out _ _ _ rfl rfl rfl (Below.refl _ _)
  simp only [zD, zE, zF]
  refine obs_step (Eq.trans (by simp only [zA, zB, zC]; exact rfl) rfl) rfl (fun w' hS hV K hK => ?_) ?_
  · have e4 : x 4 = (.bool true) := hV 4 (by decide)
    have q2 := hS.1; obtain ⟨q0, q1⟩ := hS.2.1.two
    go_simp
    exact hK.out _ _ _ rfl rfl rfl (Below.refl _ _)
  simp only [zD, zE, zF]
  refine obs_step (Eq.trans (by simp only [zA, zB, zC]; exact rfl) rfl) rfl (fun w' hS hV K hK => ?_) ?_
  · have e4 : x 4 = (.bool true) := hV 4 (by decide)
    have e5 : x 5 = (.slice (some ⟨g, o, none⟩) n d) := hV 5 (by decide)
    have q2 := hS.1; obtain ⟨q0, q1⟩ := hS.2.1.two
    go_simp
    exact hK.out _ _ _ rfl rfl rfl (Below.refl _ _)
  simp only [zD, zE, zF]
  refine obs_step (Eq.trans (by simp only [zA, zB, zC]; exact rfl) rfl) rfl (fun w' hS hV K hK => ?_) ?_
  · have e4 : x 4 = (.bool true) := hV 4 (by decide)
    have q2 := hS.1; obtain ⟨q0, q1⟩ := hS.2.1.two
    go_simp
    exact hK.out _ _ _ rfl rfl rfl (Below.refl _ _)
  simp only [zD, zE, zF]
  refine obs_step (Eq.trans (by simp only [zA, zB, zC]; exact rfl) rfl) rfl (fun w' hS hV K hK => ?_) ?_
  · have e4 : x 4 = (.bool true) := hV 4 (by decide)
    have e7 : x 7 = (.agg #[.int .i64 P, .slice A n c]) := hV 7 (by decide)
    have q2 := hS.1; obtain ⟨q0, q1⟩ := hS.2.1.two
    go_simp
    refine (dim_any _ _ _ _ _).mono ?_
    rintro e v1 ⟨rfl, hb⟩
    exact hK.out _ _ _ rfl rfl rfl hb
  simp only [zD, zE, zF]
  refine obs_step (Eq.trans (by simp only [zA, zB, zC]; exact rfl) rfl) rfl (fun w' hS hV K hK => ?_) ?_
  · have e4 : x 4 = (.bool true) := hV 4 (by decide)
    have e6 : x 6 = (.int .i64 (n)) := hV 6 (by decide)
    have e8 : x 8 = (.int .i64 (n)) := hV 8 (by decide)
    have q2 := hS.1; obtain ⟨q0, q1⟩ := hS.2.1.two
    go_simp
    exact hK.out _ _ _ rfl rfl rfl (Below.refl _ _)
  simp only [zD, zE, zF]
  refine obs_step (Eq.trans (by simp only [zA, zB, zC]; exact rfl) rfl) rfl (fun w' hS hV K hK => ?_) ?_
  · have e4 : x 4 = (.bool true) := hV 4 (by decide)
    have e9 : x 9 = (.bool true) := hV 9 (by decide)
    have q2 := hS.1; obtain ⟨q0, q1⟩ := hS.2.1.two
    go_simp
    exact hK.out _ _ _ rfl rfl rfl (Below.refl _ _)
  simp only [zD, zE, zF]
  refine obs_step (Eq.trans (by simp only [zA, zB, zC]; exact rfl) rfl) rfl (fun w' hS hV K hK => ?_) ?_
  · have e10 : x 10 = (.bool true) := hV 10 (by decide)
    have q2 := hS.1; obtain ⟨q0, q1⟩ := hS.2.1.two
    go_simp
    exact hK.out _ _ _ rfl rfl rfl (Below.refl _ _)
  simp only [zD, zE, zF]
  refine obs_step (Eq.trans (by simp only [zA, zB, zC]; exact rfl) rfl) rfl (fun w' hS hV K hK => ?_) ?_
  · have e11 : x 11 = (.bool true) := hV 11 (by decide)
    have q2 := hS.1; obtain ⟨q0, q1⟩ := hS.2.1.two
    go_simp
    exact hK.out _ _ _ rfl rfl rfl (Below.refl _ _)
  simp only [zD, zE, zF]
  refine obs_step (Eq.trans (by simp only [zA, zB, zC]; exact rfl) rfl) rfl (fun w' hS hV K hK => ?_) ?_
  · have e11 : x 11 = (.bool true) := hV 11 (by decide)
    have e12 : x 12 = (.slice (some ⟨g, o, none⟩) n d) := hV 12 (by decide)
    have q2 := hS.1; obtain ⟨q0, q1⟩ := hS.2.1.two
    go_simp
    exact hK.out _ _ _ rfl rfl rfl (Below.refl _ _)
  simp only [zD, zE, zF]
  refine obs_step (Eq.trans (by simp only [zA, zB, zC]; exact rfl) rfl) rfl (fun w' hS hV K hK => ?_) ?_
  · have e11 : x 11 = (.bool true) := hV 11 (by decide)
    have e13 : x 13 = (.pointer (some ⟨g, o, none⟩)) := hV 13 (by decide)
    have q2 := hS.1; obtain ⟨q0, q1⟩ := hS.2.1.two
    go_simp
    exact hK.out _ _ _ rfl rfl rfl (Below.refl _ _)
  simp only [zD, zE, zF]
  refine obs_step (Eq.trans (by simp only [zA, zB, zC]; exact rfl) rfl) rfl (fun w' hS hV K hK => ?_) ?_
  · have e11 : x 11 = (.bool true) := hV 11 (by decide)
    have e14 : x 14 = (.slice A0 n c0) := hV 14 (by decide)
    have q2 := hS.1; obtain ⟨q0, q1⟩ := hS.2.1.two
    go_simp
    exact hK.out _ _ _ rfl rfl rfl (Below.refl _ _)
  simp only [zD, zE, zF]
  refine obs_step (Eq.trans (by simp only [zA, zB, zC]; exact rfl) rfl) rfl (fun w' hS hV K hK => ?_) ?_
  · have e11 : x 11 = (.bool true) := hV 11 (by decide)
    have q2 := hS.1; obtain ⟨q0, q1⟩ := hS.2.1.two
    go_simp
    exact hK.out _ _ _ rfl rfl rfl (Below.refl _ _)
  simp only [zD, zE, zF]
  refine obs_step (Eq.trans (by simp only [zA, zB, zC]; exact rfl) rfl) rfl (fun w' hS hV K hK => ?_) ?_
  · have e11 : x 11 = (.bool true) := hV 11 (by decide)
    have e16 : x 16 = (.agg #[.int .i64 P, .slice A n c]) := hV 16 (by decide)
    have q2 := hS.1; obtain ⟨q0, q1⟩ := hS.2.1.two
    go_simp
    refine (dim_any _ _ _ _ _).mono ?_
    rintro e v1 ⟨rfl, hb⟩
    exact hK.out _ _ _ rfl rfl rfl hb
  simp only [zD, zE, zF]
  refine obs_step (Eq.trans (by simp only [zA, zB, zC]; exact rfl) rfl) rfl (fun w' hS hV K hK => ?_) ?_
  · have e11 : x 11 = (.bool true) := hV 11 (by decide)
    have e15 : x 15 = (.int .i64 (n)) := hV 15 (by decide)
    have e17 : x 17 = (.int .i64 (n)) := hV 17 (by decide)
    have q2 := hS.1; obtain ⟨q0, q1⟩ := hS.2.1.two
    go_simp
    exact hK.out _ _ _ rfl rfl rfl (Below.refl _ _)
  simp only [zD, zE, zF]
  refine obs_step (Eq.trans (by simp only [zA, zB, zC]; exact rfl) rfl) rfl (fun w' hS hV K hK => ?_) ?_
  · have e11 : x 11 = (.bool true) := hV 11 (by decide)
    have e18 : x 18 = (.bool true) := hV 18 (by decide)
    have q2 := hS.1; obtain ⟨q0, q1⟩ := hS.2.1.two
    go_simp
    exact hK.out _ _ _ rfl rfl rfl (Below.refl _ _)
  simp only [zD, zE, zF]
  refine obs_step (Eq.trans (by simp only [zA, zB, zC]; exact rfl) rfl) rfl (fun w' hS hV K hK => ?_) ?_
  · have e19 : x 19 = (.bool true) := hV 19 (by decide)
    have q2 := hS.1; obtain ⟨q0, q1⟩ := hS.2.1.two
    go_simp
    exact hK.out _ _ _ rfl rfl rfl (Below.refl _ _)
  simp only [zD, zE, zF]
  refine fun w' hS hV => ?_
  have e0 : x 0 = (.agg #[.int .i64 P, .slice A n c]) := hV 0 (by decide)
  have e1 : x 1 = (.int .i64 (P)) := hV 1 (by decide)
  have e2 : x 2 = (.slice (some ⟨g, o, none⟩) n d) := hV 2 (by decide)
  have e3 : x 3 = (.bool true) := hV 3 (by decide)
  have e4 : x 4 = (.bool true) := hV 4 (by decide)
  have e5 : x 5 = (.slice (some ⟨g, o, none⟩) n d) := hV 5 (by decide)
  have e6 : x 6 = (.int .i64 (n)) := hV 6 (by decide)
  have e7 : x 7 = (.agg #[.int .i64 P, .slice A n c]) := hV 7 (by decide)
  have e8 : x 8 = (.int .i64 (n)) := hV 8 (by decide)
  have e9 : x 9 = (.bool true) := hV 9 (by decide)
  have e10 : x 10 = (.bool true) := hV 10 (by decide)
  have e11 : x 11 = (.bool true) := hV 11 (by decide)
  have e12 : x 12 = (.slice (some ⟨g, o, none⟩) n d) := hV 12 (by decide)
  have e13 : x 13 = (.pointer (some ⟨g, o, none⟩)) := hV 13 (by decide)
  have e14 : x 14 = (.slice A0 n c0) := hV 14 (by decide)
  have e15 : x 15 = (.int .i64 (n)) := hV 15 (by decide)
  have e16 : x 16 = (.agg #[.int .i64 P, .slice A n c]) := hV 16 (by decide)
  have e17 : x 17 = (.int .i64 (n)) := hV 17 (by decide)
  have e18 : x 18 = (.bool true) := hV 18 (by decide)
  have e19 : x 19 = (.bool true) := hV 19 (by decide)
  have e20 : x 20 = (.bool true) := hV 20 (by decide)
  simp only [e0, e1, e2, e3, e4, e5, e6, e7, e8, e9, e10, e11, e12, e13, e14, e15, e16, e17, e18, e19, e20]
  clear e0 e1 e2 e3 e4 e5 e6 e7 e8 e9 e10 e11 e12 e13 e14 e15 e16 e17 e18 e19 e20
  refine wpAny_done (by kernel_rfl) ?_ _
  have hb9 := hS.2.2
  go_wp2
  go_ret
  exact ⟨rfl, hb9⟩
set_option maxHeartbeats 1600000 in
set_option maxRecDepth 8000 in
theorem checkFrame_ok (P : Int) (A : Option Addr) (n c : Nat) (sq : List Int) (D : Option Addr) (d : Nat) (M : List (List Int)) (w : World) (hsp : isSp P sq = true) (hreg : regB sq = true) (ha : Rd w A n (ints sq)) (hd : RdII w D n M) (hM : Tab P n M) :
    Calls Tryz.prog 139 #[.agg #[.int .i64 P, .slice A n c], .slice D n d] w fun e w' => e = .returned (.int .i64 0) ∧ Below w.heap.size w w' := by
  have hB0 : Below w.heap.size w (w.alloc (.cells #[.int .i64 P, .slice A n c] 26)) := (Below.refl _ _).alloc (Nat.le_refl _) _
  have k0 : Blk (w.alloc (.cells #[.int .i64 P, .slice A n c] 26)) w.heap.size 26 #[.int .i64 P, .slice A n c] := Blk.new _ _ _
  have hsl := ha.lenI
  obtain ⟨HP, hd1, hd2, hnum⟩ := isSp_dim hsp
  obtain ⟨hp3, hp2⟩ := isP_ge HP
  rw [hsl] at hd1 hd2
  have his := IsSpace_any P A n c sq (w.alloc (.cells #[.int .i64 P, .slice A n c] 26)) (by omega) (ha.below hB0)
  rw [hsp] at his
  have hfr := Lib.hid fun w' (h : Below w.heap.size w w') => isFrame_ok P A n c sq D d M w' (by omega) hp2 (by omega) (by omega) (hd.below h) hM
  have hrg := Lib.hid fun w' (h : Below w.heap.size w w') => regular_any P A n c sq w' (by omega) (ha.below h)
  have HRG := Lib.hid hreg
  obtain ⟨q0, q1⟩ := k0.two
  clear hsp hM hsl hnum HP hreg
  go_enter Tryz.func139, Tryz.ntmps139
  go_wp2_with fail
  refine his.mono ?_
  rintro e w2 ⟨rfl, hb2⟩
  have hB2 := hB0.trans (hb2.mono hB0.size)
  have k2 := k0.below hb2 k0.lt
  have hcall := hfr.out w2 hB2
  clear q0 q1 his
  obtain ⟨q0, q1⟩ := k2.two
  go_wp2_with fail
  refine hcall.mono ?_
  rintro e w3 ⟨rfl, hb3⟩
  have hB3 := hB2.trans (hb3.mono hB2.size)
  have k3 := k2.below hb3 k2.lt
  have hcal2 := hrg.out w3 hB3
  rw [HRG.out] at hcal2
  clear q0 q1 hcall
  obtain ⟨q0, q1⟩ := k3.two
  go_wp2_with fail
  refine hcal2.mono ?_
  rintro e w4 ⟨rfl, hb4⟩
  go_wp2
  go_ret
  exact ⟨rfl, hB3.trans (hb4.mono hB3.size)⟩
set_option maxHeartbeats 3200000 in
set_option maxRecDepth 8000 in
theorem isSkew_ok (P : Int) (A : Option Addr) (n c : Nat) (sq : List Int) (D : Option Addr) (d : Nat) (M : List (List Int)) (w : World) (hp : 2 ≤ P) (hp2 : P ≤ 13) (hn : n ≤ 6) (ha : Rd w A n (ints sq)) (hs : NumsL P sq) (hd : RdII w D n M) (hM : Tab P n M) (hsk : ∀ i k, i < n → k < n → (sq.getD k 0 * ent M k i + sq.getD i 0 * ent M i k) % P = 0) :
    Calls Tryz.prog 141 #[.agg #[.int .i64 P, .slice A n c], .slice D n d] w fun e w' => e = .returned (.bool true) ∧ Below w.heap.size w w' := by
  have hB0 : Below w.heap.size w (w.alloc (.cells #[.int .i64 P, .slice A n c] 26)) := (Below.refl _ _).alloc (Nat.le_refl _) _
  have k0 : Blk (w.alloc (.cells #[.int .i64 P, .slice A n c] 26)) w.heap.size 26 #[.int .i64 P, .slice A n c] := Blk.new _ _ _
  have HM := Lib.hid hM
  have HSN := Lib.hid hs
  have HSK := Lib.hid hsk
  have HSL := Lib.hid ha.lenI
  clear hM hs hsk
  obtain ⟨q0, q1⟩ := k0.two
  go_enter Tryz.func141, Tryz.ntmps141
  go_wp2
  clear q0 q1
  go_loopw [9] (fun i wr => ∃ j : Nat, j ≤ n ∧ i = .int .i64 j ∧ Blk wr w.heap.size 26 #[.int .i64 P, .slice A n c] ∧ Below w.heap.size w wr) (fun i _ => n - (intOf i).toNat)
  case atStart => exact ⟨0, by omega, rfl, k0, hB0⟩
  case round =>
    obtain ⟨i, hi, rfl, k1, hB1⟩ := hrel
    clear k0 hB0
    by_cases hlt : i < n
    · go_wp2
      go_loopw [14] (fun i wr => ∃ j : Nat, j ≤ n ∧ i = .int .i64 j ∧ Blk wr w.heap.size 26 #[.int .i64 P, .slice A n c] ∧ Below w.heap.size w wr) (fun i _ => n - (intOf i).toNat)
      case atStart => exact ⟨0, by omega, rfl, k1, hB1⟩
      case round =>
        obtain ⟨k, hk, rfl, kk, hB⟩ := hrel
        clear k1 hB1
        by_cases hkt : k < n
        · have hcl : ∃ (ga oa g o gk ok gi oi ck ci : Nat) (sk si mki mik : Int), A = some ⟨ga, oa, none⟩ ∧ D = some ⟨g, o, none⟩ ∧ sk = sq.getD k 0 ∧ si = sq.getD i 0 ∧ mki = ent M k i ∧ mik = ent M i k ∧
              Hid (∀ w', Below wr.heap.size wr w' → w'.cell? ⟨ga, oa + k, none⟩ = some (.int .i64 sk) ∧ w'.cell? ⟨g, o + k, none⟩ = some (.slice (some ⟨gk, ok, none⟩) n ck) ∧ w'.cell? ⟨gk, ok + i, none⟩ = some (.int .i64 mki) ∧ w'.cell? ⟨ga, oa + i, none⟩ = some (.int .i64 si) ∧ w'.cell? ⟨g, o + i, none⟩ = some (.slice (some ⟨gi, oi, none⟩) n ci) ∧ w'.cell? ⟨gi, oi + k, none⟩ = some (.int .i64 mik)) := by
            obtain ⟨ga, oa, rfl, hxk, hck⟩ := (ha.below hB).int hkt
            obtain ⟨ga', oa', e1, hxi, hci⟩ := (ha.below hB).int hlt
            cases e1
            obtain ⟨g, o, rfl, hyk, Ak, ck, hdk, hrk, -⟩ := (hd.below hB).at_ hkt
            obtain ⟨g', o', e2, hyi, Ai, ci, hdi, hri, -⟩ := (hd.below hB).at_ hlt
            cases e2
            have lk := (HM.out M[k] (List.getElem_mem hyk)).1
            have li := (HM.out M[i] (List.getElem_mem hyi)).1
            rw [lk] at hdk hrk
            rw [li] at hdi hri
            obtain ⟨gk, ok, rfl, hzk, hek⟩ := hrk.int hlt
            obtain ⟨gi, oi, rfl, hzi, hei⟩ := hri.int hkt
            refine ⟨ga, oa, g, o, gk, ok, gi, oi, ck, ci, sq[k], sq[i], M[k][i], M[i][k], rfl, rfl, (getD_of_lt 0 hxk).symm, (getD_of_lt 0 hxi).symm, (ent_at hyk hzk).symm, (ent_at hyi hzi).symm, Lib.hid fun w' h => ⟨?_, ?_, ?_, ?_, ?_, ?_⟩⟩
            · exact (h.cell (World.block_lt_of_cell? _ _ hck)).trans hck
            · exact (h.cell (World.block_lt_of_cell? _ _ hdk)).trans hdk
            · exact (h.cell (World.block_lt_of_cell? _ _ hek)).trans hek
            · exact (h.cell (World.block_lt_of_cell? _ _ hci)).trans hci
            · exact (h.cell (World.block_lt_of_cell? _ _ hdi)).trans hdi
            · exact (h.cell (World.block_lt_of_cell? _ _ hei)).trans hei
          obtain ⟨ga, oa, g, o, gk, ok, gi, oi, ck, ci, sk, si, mki, mik, rfl, rfl, e1, e2, e3, e4, HC⟩ := hcl
          have b1 : 0 ≤ sk ∧ sk < P := by rw [e1]; exact HSN.out.getD (by omega) k
          have b2 : 0 ≤ si ∧ si < P := by rw [e2]; exact HSN.out.getD (by omega) i
          have b3 : 0 ≤ mki ∧ mki < P := by rw [e3]; exact HM.out.ent (by omega) k i
          have b4 : 0 ≤ mik ∧ mik < P := by rw [e4]; exact HM.out.ent (by omega) i k
          have h0 := HSK.out i k hlt hkt
          rw [← e1, ← e2, ← e3, ← e4] at h0
          have m1 := mul_two_small hp2 b1 b3
          have m2 := mul_two_small hp2 b2 b4
          have W1 := i64_fit (sk * mki) (by omega) (by omega)
          have W2 := i64_fit (si * mik) (by omega) (by omega)
          have W3 := i64_fit (sk * mki + si * mik) (by omega) (by omega)
          have hnum9 := fun w' => num_any P (sk * mki + si * mik) w' (by omega) hp2 (by omega) (by omega)
          rw [h0] at hnum9
          clear e1 e2 e3 e4 h0 m1 m2 b1 b2 b3 b4
          obtain ⟨q0, q1⟩ := kk.two
          go_wp2
          refine wp_obs 31 [[], [0], [], [2], [], [2, 3, 4], [2, 3, 4, 5], [], [], [7, 8], [7, 8, 9], [], [7, 8, 9, 10, 11], [7, 8, 9, 10, 11, 12], [2, 3, 4, 5, 6, 7, 8, 9, 10, 11, 12, 13], [], [15], [], [15, 16, 17], [15, 16, 17, 18], [], [], [20, 21], [20, 21, 22], [], [20, 21, 22, 23, 24], [20, 21, 22, 23, 24, 25], [15, 16, 17, 18, 19, 20, 21, 22, 23, 24, 25, 26], [2, 3, 4, 5, 6, 7, 8, 9, 10, 11, 12, 13, 14, 15, 16, 17, 18, 19, 20, 21, 22, 23, 24, 25, 26, 27], [0, 1, 2, 3, 4, 5, 6, 7, 8, 9, 10, 11, 12, 13, 14, 15, 16, 17, 18, 19, 20, 21, 22, 23, 24, 25, 26, 27, 28], [0, 1, 2, 3, 4, 5, 6, 7, 8, 9, 10, 11, 12, 13, 14, 15, 16, 17, 18, 19, 20, 21, 22, 23, 24, 25, 26, 27, 28, 29]] [VIs (.agg #[.int .i64 P, .slice (some ⟨ga, oa, none⟩) n c]), VIs (.int .i64 (P)), VIs (.pointer (some ⟨w.heap.size, 1, none⟩)), VIs (.slice (some ⟨ga, oa, none⟩) n c), VIs (.int .i64 (k)), VIs (.pointer (some ⟨ga, oa + k, none⟩)), VIs (.int .i64 (sk)), VIs (.slice (some ⟨g, o, none⟩) n d), VIs (.int .i64 (k)), VIs (.pointer (some ⟨g, o + k, none⟩)), VIs (.slice (some ⟨gk, ok, none⟩) n ck), VIs (.int .i64 (i)), VIs (.pointer (some ⟨gk, ok + i, none⟩)), VIs (.int .i64 (mki)), VIs (.int .i64 (sk * mki)), VIs (.pointer (some ⟨w.heap.size, 1, none⟩)), VIs (.slice (some ⟨ga, oa, none⟩) n c), VIs (.int .i64 (i)), VIs (.pointer (some ⟨ga, oa + i, none⟩)), VIs (.int .i64 (si)), VIs (.slice (some ⟨g, o, none⟩) n d), VIs (.int .i64 (i)), VIs (.pointer (some ⟨g, o + i, none⟩)), VIs (.slice (some ⟨gi, oi, none⟩) n ci), VIs (.int .i64 (k)), VIs (.pointer (some ⟨gi, oi + k, none⟩)), VIs (.int .i64 (mik)), VIs (.int .i64 (si * mik)), VIs (.int .i64 (sk * mki + si * mik)), VIs (.int .i64 (0)), VIs (.bool false)] (fun w' => Blk w' w.heap.size 26 #[.int .i64 P, .slice (some ⟨ga, oa, none⟩) n c] ∧ Below wr.heap.size wr w') (by kernel_rfl) (by kernel_rfl) (fun _ _ h hb => ⟨h.1.below hb h.1.lt, h.2.trans (hb.mono h.2.size)⟩) (⟨kk.drew, (Below.refl _ _).drew⟩) (fun x => ?_)
          refine obs_step (Eq.trans (by simp only [zA, zC]; exact rfl) rfl) rfl (fun w' hS hV K hK => ?_) ?_
          · obtain ⟨q0, q1⟩ := hS.1.two; obtain ⟨q2, q3, q4, q5, q6, q7⟩ := HC.out _ hS.2
            go_simp
            exact hK.out _ _ _ rfl rfl rfl (Below.refl _ _)
          simp only [zD, zE, zF]
          refine obs_step (Eq.trans (by simp only [zA, zB, zC]; exact rfl) rfl) rfl (fun w' hS hV K hK => ?_) ?_
          · have e0 : x 0 = (.agg #[.int .i64 P, .slice (some ⟨ga, oa, none⟩) n c]) := hV 0 (by decide)
            obtain ⟨q0, q1⟩ := hS.1.two; obtain ⟨q2, q3, q4, q5, q6, q7⟩ := HC.out _ hS.2
            go_simp
            refine (field_any _ _ _ _ _).mono ?_
            rintro e v1 ⟨rfl, hb⟩
            exact hK.out _ _ _ rfl rfl rfl hb
          simp only [zD, zE, zF]
          refine obs_step (Eq.trans (by simp only [zA, zB, zC]; exact rfl) rfl) rfl (fun w' hS hV K hK => ?_) ?_
          · obtain ⟨q0, q1⟩ := hS.1.two; obtain ⟨q2, q3, q4, q5, q6, q7⟩ := HC.out _ hS.2
            go_simp
            exact hK.out _ _ _ rfl rfl rfl (Below.refl _ _)
          simp only [zD, zE, zF]
          refine obs_step (Eq.trans (by simp only [zA, zB, zC]; exact rfl) rfl) rfl (fun w' hS hV K hK => ?_) ?_
          · have e2 : x 2 = (.pointer (some ⟨w.heap.size, 1, none⟩)) := hV 2 (by decide)
            obtain ⟨q0, q1⟩ := hS.1.two; obtain ⟨q2, q3, q4, q5, q6, q7⟩ := HC.out _ hS.2
            go_simp
            exact hK.out _ _ _ rfl rfl rfl (Below.refl _ _)
          simp only [zD, zE, zF]
          refine obs_step (Eq.trans (by simp only [zA, zB, zC]; exact rfl) rfl) rfl (fun w' hS hV K hK => ?_) ?_
          · obtain ⟨q0, q1⟩ := hS.1.two; obtain ⟨q2, q3, q4, q5, q6, q7⟩ := HC.out _ hS.2
            go_simp
            exact hK.out _ _ _ rfl rfl rfl (Below.refl _ _)
          simp only [zD, zE, zF]
          refine obs_step (Eq.trans (by simp only [zA, zB, zC]; exact rfl) rfl) rfl (fun w' hS hV K hK => ?_) ?_
          · have e3 : x 3 = (.slice (some ⟨ga, oa, none⟩) n c) := hV 3 (by decide)
            have e4 : x 4 = (.int .i64 (k)) := hV 4 (by decide)
            obtain ⟨q0, q1⟩ := hS.1.two; obtain ⟨q2, q3, q4, q5, q6, q7⟩ := HC.out _ hS.2
            go_simp
            exact hK.out _ _ _ rfl rfl rfl (Below.refl _ _)
          simp only [zD, zE, zF]
          refine obs_step (Eq.trans (by simp only [zA, zB, zC]; exact rfl) rfl) rfl (fun w' hS hV K hK => ?_) ?_
          · have e5 : x 5 = (.pointer (some ⟨ga, oa + k, none⟩)) := hV 5 (by decide)
            obtain ⟨q0, q1⟩ := hS.1.two; obtain ⟨q2, q3, q4, q5, q6, q7⟩ := HC.out _ hS.2
            go_simp
            exact hK.out _ _ _ rfl rfl rfl (Below.refl _ _)
          simp only [zD, zE, zF]
          refine obs_step (Eq.trans (by simp only [zA, zB, zC]; exact rfl) rfl) rfl (fun w' hS hV K hK => ?_) ?_
          · obtain ⟨q0, q1⟩ := hS.1.two; obtain ⟨q2, q3, q4, q5, q6, q7⟩ := HC.out _ hS.2
            go_simp
            exact hK.out _ _ _ rfl rfl rfl (Below.refl _ _)
          simp only [zD, zE, zF]
          refine obs_step (Eq.trans (by simp only [zA, zB, zC]; exact rfl) rfl) rfl (fun w' hS hV K hK => ?_) ?_
          · obtain ⟨q0, q1⟩ := hS.1.two; obtain ⟨q2, q3, q4, q5, q6, q7⟩ := HC.out _ hS.2
            go_simp
            exact hK.out _ _ _ rfl rfl rfl (Below.refl _ _)
          simp only [zD, zE, zF]
          refine obs_step (Eq.trans (by simp only [zA, zB, zC]; exact rfl) rfl) rfl (fun w' hS hV K hK => ?_) ?_
          · have e7 : x 7 = (.slice (some ⟨g, o, none⟩) n d) := hV 7 (by decide)
            have e8 : x 8 = (.int .i64 (k)) := hV 8 (by decide)
            obtain ⟨q0, q1⟩ := hS.1.two; obtain ⟨q2, q3, q4, q5, q6, q7⟩ := HC.out _ hS.2
            go_simp
            exact hK.out _ _ _ rfl rfl rfl (Below.refl _ _)
          simp only [zD, zE, zF]
          refine obs_step (Eq.trans (by simp only [zA, zB, zC]; exact rfl) rfl) rfl (fun w' hS hV K hK => ?_) ?_
          · have e9 : x 9 = (.pointer (some ⟨g, o + k, none⟩)) := hV 9 (by decide)
            obtain ⟨q0, q1⟩ := hS.1.two; obtain ⟨q2, q3, q4, q5, q6, q7⟩ := HC.out _ hS.2
            go_simp
            exact hK.out _ _ _ rfl rfl rfl (Below.refl _ _)
          simp only [zD, zE, zF]
          refine obs_step (Eq.trans (by simp only [zA, zB, zC]; exact rfl) rfl) rfl (fun w' hS hV K hK => ?_) ?_
          · obtain ⟨q0, q1⟩ := hS.1.two; obtain ⟨q2, q3, q4, q5, q6, q7⟩ := HC.out _ hS.2
            go_simp
            exact hK.out _ _ _ rfl rfl rfl (Below.refl _ _)
          simp only [zD, zE, zF]
          refine obs_step (Eq.trans (by simp only [zA, zB, zC]; exact rfl) rfl) rfl (fun w' hS hV K hK => ?_) ?_
          · have e10 : x 10 = (.slice (some ⟨gk, ok, none⟩) n ck) := hV 10 (by decide)
            have e11 : x 11 = (.int .i64 (i)) := hV 11 (by decide)
            obtain ⟨q0, q1⟩ := hS.1.two; obtain ⟨q2, q3, q4, q5, q6, q7⟩ := HC.out _ hS.2
            go_simp
            exact hK.out _ _ _ rfl rfl rfl (Below.refl _ _)
          simp only [zD, zE, zF]
          refine obs_step (Eq.trans (by simp only [zA, zB, zC]; exact rfl) rfl) rfl (fun w' hS hV K hK => ?_) ?_
          · have e12 : x 12 = (.pointer (some ⟨gk, ok + i, none⟩)) := hV 12 (by decide)
            obtain ⟨q0, q1⟩ := hS.1.two; obtain ⟨q2, q3, q4, q5, q6, q7⟩ := HC.out _ hS.2
            go_simp
            exact hK.out _ _ _ rfl rfl rfl (Below.refl _ _)
          simp only [zD, zE, zF]
          refine obs_step (Eq.trans (by simp only [zA, zB, zC]; exact rfl) rfl) rfl (fun w' hS hV K hK => ?_) ?_
          · have e6 : x 6 = (.int .i64 (sk)) := hV 6 (by decide)
            have e13 : x 13 = (.int .i64 (mki)) := hV 13 (by decide)
            obtain ⟨q0, q1⟩ := hS.1.two; obtain ⟨q2, q3, q4, q5, q6, q7⟩ := HC.out _ hS.2
            go_simp
            exact hK.out _ _ _ rfl rfl rfl (Below.refl _ _)
          simp only [zD, zE, zF]
          refine obs_step (Eq.trans (by simp only [zA, zB, zC]; exact rfl) rfl) rfl (fun w' hS hV K hK => ?_) ?_
          · obtain ⟨q0, q1⟩ := hS.1.two; obtain ⟨q2, q3, q4, q5, q6, q7⟩ := HC.out _ hS.2
            go_simp
            exact hK.out _ _ _ rfl rfl rfl (Below.refl _ _)
          simp only [zD, zE, zF]
          refine obs_step (Eq.trans (by simp only [zA, zB, zC]; exact rfl) rfl) rfl (fun w' hS hV K hK => ?_) ?_
          · have e15 : x 15 = (.pointer (some ⟨w.heap.size, 1, none⟩)) := hV 15 (by decide)
            obtain ⟨q0, q1⟩ := hS.1.two; obtain ⟨q2, q3, q4, q5, q6, q7⟩ := HC.out _ hS.2
            go_simp
            exact hK.out _ _ _ rfl rfl rfl (Below.refl _ _)
          simp only [zD, zE, zF]
          refine obs_step (Eq.trans (by simp only [zA, zB, zC]; exact rfl) rfl) rfl (fun w' hS hV K hK => ?_) ?_
          · obtain ⟨q0, q1⟩ := hS.1.two; obtain ⟨q2, q3, q4, q5, q6, q7⟩ := HC.out _ hS.2
            go_simp
            exact hK.out _ _ _ rfl rfl rfl (Below.refl _ _)
          simp only [zD, zE, zF]
          refine obs_step (Eq.trans (by simp only [zA, zB, zC]; exact rfl) rfl) rfl (fun w' hS hV K hK => ?_) ?_
          · have e16 : x 16 = (.slice (some ⟨ga, oa, none⟩) n c) := hV 16 (by decide)
            have e17 : x 17 = (.int .i64 (i)) := hV 17 (by decide)
            obtain ⟨q0, q1⟩ := hS.1.two; obtain ⟨q2, q3, q4, q5, q6, q7⟩ := HC.out _ hS.2
            go_simp
            exact hK.out _ _ _ rfl rfl rfl (Below.refl _ _)
          simp only [zD, zE, zF]
          refine obs_step (Eq.trans (by simp only [zA, zB, zC]; exact rfl) rfl) rfl (fun w' hS hV K hK => ?_) ?_
          · have e18 : x 18 = (.pointer (some ⟨ga, oa + i, none⟩)) := hV 18 (by decide)
            obtain ⟨q0, q1⟩ := hS.1.two; obtain ⟨q2, q3, q4, q5, q6, q7⟩ := HC.out _ hS.2
            go_simp
            exact hK.out _ _ _ rfl rfl rfl (Below.refl _ _)
          simp only [zD, zE, zF]
          refine obs_step (Eq.trans (by simp only [zA, zB, zC]; exact rfl) rfl) rfl (fun w' hS hV K hK => ?_) ?_
          · obtain ⟨q0, q1⟩ := hS.1.two; obtain ⟨q2, q3, q4, q5, q6, q7⟩ := HC.out _ hS.2
            go_simp
            exact hK.out _ _ _ rfl rfl rfl (Below.refl _ _)
          simp only [zD, zE, zF]
          refine obs_step (Eq.trans (by simp only [zA, zB, zC]; exact rfl) rfl) rfl (fun w' hS hV K hK => ?_) ?_
          · obtain ⟨q0, q1⟩ := hS.1.two; obtain ⟨q2, q3, q4, q5, q6, q7⟩ := HC.out _ hS.2
            go_simp
            exact hK.out _ _ _ rfl rfl rfl (Below.refl _ _)
          simp only [zD, zE, zF]
          refine obs_step (Eq.trans (by simp only [zA, zB, zC]; exact rfl) rfl) rfl (fun w' hS hV K hK => ?_) ?_
          · have e20 : x 20 = (.slice (some ⟨g, o, none⟩) n d) := hV 20 (by decide)
            have e21 : x 21 = (.int .i64 (i)) := hV 21 (by decide)
            obtain ⟨q0, q1⟩ := hS.1.two; obtain ⟨q2, q3, q4, q5, q6, q7⟩ := HC.out _ hS.2
            go_simp
            exact hK.out _ _ _ rfl rfl rfl (Below.refl _ _)
          simp only [zD, zE, zF]
          refine obs_step (Eq.trans (by simp only [zA, zB, zC]; exact rfl) rfl) rfl (fun w' hS hV K hK => ?_) ?_
          · have e22 : x 22 = (.pointer (some ⟨g, o + i, none⟩)) := hV 22 (by decide)
            obtain ⟨q0, q1⟩ := hS.1.two; obtain ⟨q2, q3, q4, q5, q6, q7⟩ := HC.out _ hS.2
            go_simp
            exact hK.out _ _ _ rfl rfl rfl (Below.refl _ _)
          simp only [zD, zE, zF]
          refine obs_step (Eq.trans (by simp only [zA, zB, zC]; exact rfl) rfl) rfl (fun w' hS hV K hK => ?_) ?_
          · obtain ⟨q0, q1⟩ := hS.1.two; obtain ⟨q2, q3, q4, q5, q6, q7⟩ := HC.out _ hS.2
            go_simp
            exact hK.out _ _ _ rfl rfl rfl (Below.refl _ _)
          simp only [zD, zE, zF]
          refine obs_step (Eq.trans (by simp only [zA, zB, zC]; exact rfl) rfl) rfl (fun w' hS hV K hK => ?_) ?_
          · have e23 : x 23 = (.slice (some ⟨gi, oi, none⟩) n ci) := hV 23 (by decide)
            have e24 : x 24 = (.int .i64 (k)) := hV 24 (by decide)
            obtain ⟨q0, q1⟩ := hS.1.two; obtain ⟨q2, q3, q4, q5, q6, q7⟩ := HC.out _ hS.2
            go_simp
            exact hK.out _ _ _ rfl rfl rfl (Below.refl _ _)
          simp only [zD, zE, zF]
          refine obs_step (Eq.trans (by simp only [zA, zB, zC]; exact rfl) rfl) rfl (fun w' hS hV K hK => ?_) ?_
          · have e25 : x 25 = (.pointer (some ⟨gi, oi + k, none⟩)) := hV 25 (by decide)
            obtain ⟨q0, q1⟩ := hS.1.two; obtain ⟨q2, q3, q4, q5, q6, q7⟩ := HC.out _ hS.2
            go_simp
            exact hK.out _ _ _ rfl rfl rfl (Below.refl _ _)
          simp only [zD, zE, zF]
          refine obs_step (Eq.trans (by simp only [zA, zB, zC]; exact rfl) rfl) rfl (fun w' hS hV K hK => ?_) ?_
          · have e19 : x 19 = (.int .i64 (si)) := hV 19 (by decide)
            have e26 : x 26 = (.int .i64 (mik)) := hV 26 (by decide)
            obtain ⟨q0, q1⟩ := hS.1.two; obtain ⟨q2, q3, q4, q5, q6, q7⟩ := HC.out _ hS.2
            go_simp
            exact hK.out _ _ _ rfl rfl rfl (Below.refl _ _)
          simp only [zD, zE, zF]
          refine obs_step (Eq.trans (by simp only [zA, zB, zC]; exact rfl) rfl) rfl (fun w' hS hV K hK => ?_) ?_
          · have e14 : x 14 = (.int .i64 (sk * mki)) := hV 14 (by decide)
            have e27 : x 27 = (.int .i64 (si * mik)) := hV 27 (by decide)
            obtain ⟨q0, q1⟩ := hS.1.two; obtain ⟨q2, q3, q4, q5, q6, q7⟩ := HC.out _ hS.2
            go_simp
            exact hK.out _ _ _ rfl rfl rfl (Below.refl _ _)
          simp only [zD, zE, zF]
          refine obs_step (Eq.trans (by simp only [zA, zB, zC]; exact rfl) rfl) rfl (fun w' hS hV K hK => ?_) ?_
          · have e1 : x 1 = (.int .i64 (P)) := hV 1 (by decide)
            have e28 : x 28 = (.int .i64 (sk * mki + si * mik)) := hV 28 (by decide)
            obtain ⟨q0, q1⟩ := hS.1.two; obtain ⟨q2, q3, q4, q5, q6, q7⟩ := HC.out _ hS.2
            go_simp
            refine (hnum9 _).mono ?_
            rintro e v1 ⟨rfl, rfl⟩
            exact hK.out _ _ _ rfl rfl rfl (Below.refl _ _)
          simp only [zD, zE, zF]
          refine obs_step (Eq.trans (by simp only [zA, zB, zC]; exact rfl) rfl) rfl (fun w' hS hV K hK => ?_) ?_
          · have e29 : x 29 = (.int .i64 (0)) := hV 29 (by decide)
            obtain ⟨q0, q1⟩ := hS.1.two; obtain ⟨q2, q3, q4, q5, q6, q7⟩ := HC.out _ hS.2
            go_simp
            exact hK.out _ _ _ rfl rfl rfl (Below.refl _ _)
          simp only [zD, zE, zF]
          refine fun w' hS hV => ?_
          have e0 : x 0 = (.agg #[.int .i64 P, .slice (some ⟨ga, oa, none⟩) n c]) := hV 0 (by decide)
          have e1 : x 1 = (.int .i64 (P)) := hV 1 (by decide)
          have e2 : x 2 = (.pointer (some ⟨w.heap.size, 1, none⟩)) := hV 2 (by decide)
          have e3 : x 3 = (.slice (some ⟨ga, oa, none⟩) n c) := hV 3 (by decide)
          have e4 : x 4 = (.int .i64 (k)) := hV 4 (by decide)
          have e5 : x 5 = (.pointer (some ⟨ga, oa + k, none⟩)) := hV 5 (by decide)
          have e6 : x 6 = (.int .i64 (sk)) := hV 6 (by decide)
          have e7 : x 7 = (.slice (some ⟨g, o, none⟩) n d) := hV 7 (by decide)
          have e8 : x 8 = (.int .i64 (k)) := hV 8 (by decide)
          have e9 : x 9 = (.pointer (some ⟨g, o + k, none⟩)) := hV 9 (by decide)
          have e10 : x 10 = (.slice (some ⟨gk, ok, none⟩) n ck) := hV 10 (by decide)
          have e11 : x 11 = (.int .i64 (i)) := hV 11 (by decide)
          have e12 : x 12 = (.pointer (some ⟨gk, ok + i, none⟩)) := hV 12 (by decide)
          have e13 : x 13 = (.int .i64 (mki)) := hV 13 (by decide)
          have e14 : x 14 = (.int .i64 (sk * mki)) := hV 14 (by decide)
          have e15 : x 15 = (.pointer (some ⟨w.heap.size, 1, none⟩)) := hV 15 (by decide)
          have e16 : x 16 = (.slice (some ⟨ga, oa, none⟩) n c) := hV 16 (by decide)
          have e17 : x 17 = (.int .i64 (i)) := hV 17 (by decide)
          have e18 : x 18 = (.pointer (some ⟨ga, oa + i, none⟩)) := hV 18 (by decide)
          have e19 : x 19 = (.int .i64 (si)) := hV 19 (by decide)
          have e20 : x 20 = (.slice (some ⟨g, o, none⟩) n d) := hV 20 (by decide)
          have e21 : x 21 = (.int .i64 (i)) := hV 21 (by decide)
          have e22 : x 22 = (.pointer (some ⟨g, o + i, none⟩)) := hV 22 (by decide)
          have e23 : x 23 = (.slice (some ⟨gi, oi, none⟩) n ci) := hV 23 (by decide)
          have e24 : x 24 = (.int .i64 (k)) := hV 24 (by decide)
          have e25 : x 25 = (.pointer (some ⟨gi, oi + k, none⟩)) := hV 25 (by decide)
          have e26 : x 26 = (.int .i64 (mik)) := hV 26 (by decide)
          have e27 : x 27 = (.int .i64 (si * mik)) := hV 27 (by decide)
          have e28 : x 28 = (.int .i64 (sk * mki + si * mik)) := hV 28 (by decide)
          have e29 : x 29 = (.int .i64 (0)) := hV 29 (by decide)
          have e30 : x 30 = (.bool false) := hV 30 (by decide)
          simp only [e0, e1, e2, e3, e4, e5, e6, e7, e8, e9, e10, e11, e12, e13, e14, e15, e16, e17, e18, e19, e20, e21, e22, e23, e24, e25, e26, e27, e28, e29, e30]
          clear e0 e1 e2 e3 e4 e5 e6 e7 e8 e9 e10 e11 e12 e13 e14 e15 e16 e17 e18 e19 e20 e21 e22 e23 e24 e25 e26 e27 e28 e29 e30
          refine wpAny_done (by kernel_rfl) ?_ _
          have k8 := hS.1
          have hB8 := hB.trans (hS.2.mono hB.size)
          clear hS q0 q1 kk hB
          go_wp2
          go_roundw
          case rel => exact ⟨k + 1, by omega, by go_num, k8, hB8⟩
          case measure => simp [intOf]; omega
        · go_wp2
          go_roundw
          case rel => exact ⟨i + 1, by omega, by go_num, kk, hB⟩
          case measure => simp [intOf]; omega
    · go_wp2
      go_ret
      exact ⟨rfl, hB1⟩
set_option maxHeartbeats 1600000 in
set_option maxRecDepth 8000 in
theorem IsSkewMatrix_ok (P : Int) (A : Option Addr) (n c : Nat) (sq : List Int) (D : Option Addr) (d : Nat) (M : List (List Int)) (w : World) (hsp : isSp P sq = true) (hreg : regB sq = true) (ha : Rd w A n (ints sq)) (hd : RdII w D n M) (hM : Tab P n M) (hsk : ∀ i k, i < n → k < n → (sq.getD k 0 * ent M k i + sq.getD i 0 * ent M i k) % P = 0) :
    Calls Tryz.prog 24 #[.agg #[.int .i64 P, .slice A n c], .slice D n d] w fun e w' => e = .returned (.tuple #[.bool true, .int .i64 0]) ∧ Below w.heap.size w w' := by
  have hB0 : Below w.heap.size w (w.alloc (.cells #[.int .i64 P, .slice A n c] 26)) := (Below.refl _ _).alloc (Nat.le_refl _) _
  have k0 : Blk (w.alloc (.cells #[.int .i64 P, .slice A n c] 26)) w.heap.size 26 #[.int .i64 P, .slice A n c] := Blk.new _ _ _
  have hsl := ha.lenI
  obtain ⟨HP, hd1, hd2, hnum⟩ := isSp_dim hsp
  obtain ⟨hp3, hp2⟩ := isP_ge HP
  rw [hsl] at hd1 hd2
  have hcf := checkFrame_ok P A n c sq D d M (w.alloc (.cells #[.int .i64 P, .slice A n c] 26)) hsp hreg (ha.below hB0) (hd.below hB0) hM
  have hik := Lib.hid fun w' (h : Below w.heap.size w w') => isSkew_ok P A n c sq D d M w' (by omega) hp2 (by omega) (ha.below h) (nums_numsL hnum) (hd.below h) hM hsk
  clear hsp hreg hM hsk hnum hsl HP
  obtain ⟨q0, q1⟩ := k0.two
  go_enter Tryz.func24, Tryz.ntmps24
  go_wp2_with fail
  refine hcf.mono ?_
  rintro e w2 ⟨rfl, hb2⟩
  have hB2 := hB0.trans (hb2.mono hB0.size)
  have k2 := k0.below hb2 k0.lt
  have hcall := hik.out w2 hB2
  clear q0 q1 hcf
  obtain ⟨q0, q1⟩ := k2.two
  go_wp2_with fail
  refine hcall.mono ?_
  rintro e w3 ⟨rfl, hb3⟩
  go_wp2
  go_ret2
  exact ⟨rfl, hB2.trans (hb3.mono hB2.size)⟩
end Go.Proofs.YtdbibmilicjllaaGreat
namespace Go.Proofs.YtdbibmilicjllaaGreat
section
variable {P : Int} {sq : List Int}
theorem regB_at {sq : List Int} {x : Int} (h : regB sq = true) (hx : x ∈ sq) : x ≠ 0 := fun e => by
  subst e
  unfold regB at h
  simp only [Bool.not_eq_true', List.contains_eq_mem, decide_eq_false_iff_not] at h
  exact h hx
end
end Go.Proofs.YtdbibmilicjllaaGreat
namespace Go.Proofs.YtdbibmilicjllaaGreat
/-- Is it a square matrix with n rows of numbers? -/
def frB (P : Int) (n : Nat) (M : List (List Int)) : Bool := M.length == n && M.all fun r => r.length == n && nums P r
theorem frB_iff {P : Int} {n : Nat} {M : List (List Int)} : frB P n M = true ↔ M.length = n ∧ Tab P n M := by
  unfold frB
  rw [Bool.and_eq_true, beq_iff_eq, List.all_eq_true]
  refine and_congr Iff.rfl ⟨fun h x hx => ?_, fun h x hx => ?_⟩
  · have := h x hx
    rw [Bool.and_eq_true, beq_iff_eq] at this
    exact ⟨this.1, nums_numsL this.2⟩
  · obtain ⟨h1, h2⟩ := h x hx
    rw [Bool.and_eq_true, beq_iff_eq]
    exact ⟨h1, List.all_eq_true.2 fun y hy => by have := h2 y hy; simp [inR]; omega⟩
/-- The code of a space and a matrix. -/
def codeF (P : Int) (sq : List Int) (M : List (List Int)) : Int := if isSp P sq then (if frB P sq.length M then (if regB sq then 0 else 5) else 2) else 1
def skewB (P : Int) (sq : List Int) (M : List (List Int)) : Bool := decide (∀ i, i < sq.length → ∀ k, k < sq.length → (sq.getD k 0 * ent M k i + sq.getD i 0 * ent M i k) % P = 0)
def isoB (P : Int) (sq : List Int) (M : List (List Int)) : Bool := frB P sq.length M && (decide (detL P M ≠ 0) && decide (∀ i, i < sq.length → ∀ k, k < sq.length → pairL P sq ((transL M).getD i []) ((transL M).getD k []) = if i = k then sq.getD i 0 else 0))
def cofR (P : Int) (sq : List Int) (M : List (List Int)) : List (List Int) × Int := if codeF P sq M = 0 then (if skewB P sq M && decide (detL P (onePl P M 1) ≠ 0) then (cayL P M, 0) else ([], 5)) else ([], codeF P sq M)
def cobR (P : Int) (sq : List Int) (M : List (List Int)) : List (List Int) × Int := if codeF P sq M = 0 then (if isoB P sq M && decide (detL P (onePl P M 1) ≠ 0) then (cayL P M, 0) else ([], 5)) else ([], codeF P sq M)
theorem codeF_zero {P : Int} {sq : List Int} {M : List (List Int)} (h : codeF P sq M = 0) : isSp P sq = true ∧ regB sq = true ∧ M.length = sq.length ∧ Tab P sq.length M := by
  unfold codeF at h
  by_cases h1 : isSp P sq = true
  · rw [if_pos h1] at h
    by_cases h2 : frB P sq.length M = true
    · rw [if_pos h2] at h
      by_cases h3 : regB sq = true
      · exact ⟨h1, h3, frB_iff.1 h2⟩
      · rw [if_neg h3] at h; omega
    · rw [if_neg h2] at h; omega
  · rw [if_neg h1] at h; omega
theorem codeF_mk {P : Int} {sq : List Int} {M : List (List Int)} (h1 : isSp P sq = true) (h2 : regB sq = true) (h3 : M.length = sq.length) (h4 : Tab P sq.length M) : codeF P sq M = 0 := by
  unfold codeF
  rw [if_pos h1, if_pos (frB_iff.2 ⟨h3, h4⟩), if_pos h2]
section
variable {p : Int} {sq : List Int} {M : List (List Int)}
/-- The squares as a matrix. -/
def Wm (hp : 0 < p) (sq : List Int) : Mt p sq.length := Mt.of hp fun i j => if i = j then sq.getD i 0 else 0
theorem Wm_at (hp : 0 < p) {i j : Nat} (hi : i < sq.length) (hj : j < sq.length) : (Wm hp sq).at i j % p = (if i = j then sq.getD i 0 else 0) % p := Mt.of_cg hp (fun i j => if i = j then sq.getD i 0 else 0) hi hj
theorem Wm_tr (hp : 0 < p) : (Wm hp sq).tr = Wm hp sq := Mt.same fun i j hi hj => by
  rw [Mt.tr_at _ hi hj, Wm_at hp hj hi, Wm_at hp hi hj]
  by_cases h : i = j
  · subst h; rfl
  · rw [if_neg h, if_neg fun e => h e.symm]
theorem Wm_mul (hp : 0 < p) (x : Mt p sq.length) {i j : Nat} (hi : i < sq.length) (hj : j < sq.length) : (Wm hp sq * x).at i j % p = (sq.getD i 0 * x.at i j) % p := by
  rw [Mt.mul_at _ _ hi hj]
  have h : (sumTo sq.length fun k => (Wm hp sq).at i k * x.at k j) % p = (sumTo sq.length fun k => (if i = k then sq.getD i 0 else 0) * x.at k j) % p := sumTo_mod p fun k hk => cg_mul (Wm_at hp hi hk) rfl
  rw [h, sumTo_one i hi fun k _ hne => by rw [if_neg fun e => hne e.symm, Int.zero_mul], if_pos rfl]
theorem mul_Wm (hp : 0 < p) (x : Mt p sq.length) {i j : Nat} (hi : i < sq.length) (hj : j < sq.length) : (x * Wm hp sq).at i j % p = (x.at i j * sq.getD j 0) % p := by
  rw [Mt.mul_at _ _ hi hj]
  have h : (sumTo sq.length fun k => x.at i k * (Wm hp sq).at k j) % p = (sumTo sq.length fun k => x.at i k * (if k = j then sq.getD k 0 else 0)) % p := sumTo_mod p fun k hk => cg_mul rfl (Wm_at hp hk hj)
  rw [h, sumTo_one j hj fun k _ hne => by rw [if_neg hne, Int.mul_zero], if_pos rfl]
theorem Wm_det (hP : isP p = true) (hp : 0 < p) (hn : 0 < sq.length) (hs : NumsL p sq) (hr : regB sq = true) : (Wm hp sq).det % p ≠ 0 := by
  have h3 := isP_ge hP
  have e : Wm hp sq * (Mt.of hp fun i j => if i = j then invF p (sq.getD i 0) else 0) = Mt.one hp := Mt.same fun i j hi hj => by
    rw [Wm_mul hp _ hi hj, Mt.one_at hp hi hj, cg_mul rfl (Mt.of_cg hp (fun i j => if i = j then invF p (sq.getD i 0) else 0) hi hj)]
    by_cases h : i = j
    · subst h
      rw [if_pos rfl, if_pos rfl, inv_one hP (hs.getD hp i) (regB_at hr (getD_mem 0 hi))]
    · rw [if_neg h, if_neg h, Int.mul_zero]
  intro h0
  have h1 := Mt.det_mul hP hn (Wm hp sq) (Mt.of hp fun i j => if i = j then invF p (sq.getD i 0) else 0)
  rw [e, Mt.det_one hP, Int.mul_emod, h0, Int.zero_mul, Int.zero_emod, Int.emod_eq_of_lt (by omega) (by omega)] at h1
  omega
theorem skew_iff (hp : 0 < p) (hT : Tab p sq.length M) (hl : M.length = sq.length) : skewB p sq M = true ↔ Wm hp sq * Mt.mk' hp hT hl = (-1 : Int) * ((Mt.mk' hp hT hl).tr * Wm hp sq) := by
  unfold skewB
  rw [decide_eq_true_iff]
  have key : ∀ {i k : Nat} (hi : i < sq.length) (hk : k < sq.length), (Wm hp sq * Mt.mk' hp hT hl).at k i % p = (sq.getD k 0 * ent M k i) % p ∧ ((-1 : Int) * ((Mt.mk' hp hT hl).tr * Wm hp sq)).at k i % p = (-(sq.getD i 0 * ent M i k)) % p := fun {i k} hi hk => by
    refine ⟨Wm_mul hp _ hk hi, ?_⟩
    rw [Mt.sm_at _ _ hk hi, cg_mul rfl (mul_Wm hp _ hk hi), ← Int.mul_assoc, cg_mul (cg_mul rfl (Mt.tr_at _ hk hi)) rfl]
    congr 1
    show -1 * ent M i k * sq.getD i 0 = _
    grind
  constructor
  · intro h
    refine Mt.same fun k i hk hi => ?_
    obtain ⟨e1, e2⟩ := key hi hk
    rw [e1, e2]
    obtain ⟨t, ht⟩ := cg_wit.1 ((h i hi k hk).trans (Int.zero_emod p).symm)
    exact cg_wit.2 ⟨t, by omega⟩
  · intro h i hi k hk
    obtain ⟨e1, e2⟩ := key hi hk
    rw [h, e2] at e1
    obtain ⟨t, ht⟩ := cg_wit.1 e1
    exact (cg_wit.2 ⟨-t, by grind⟩).trans (Int.zero_emod p)
theorem trans_row (hp : 0 < p) (hT : Tab p sq.length M) (hl : M.length = sq.length) {i : Nat} (hi : i < sq.length) : ((transL M).getD i []).length = sq.length ∧ NumsL p ((transL M).getD i []) := by
  obtain ⟨t1, t2⟩ := trans_ok hp hT hl (by omega)
  exact t1.row (by omega)
theorem pairL_range (hp : 0 < p) (v u : List Int) : 0 ≤ pairL p sq v u ∧ pairL p sq v u < p := by
  unfold pairL dotL
  exact ⟨Int.emod_nonneg _ (by omega), Int.emod_lt_of_pos _ hp⟩
theorem pair_cols (hp : 0 < p) (hT : Tab p sq.length M) (hl : M.length = sq.length) {i k : Nat} (hi : i < sq.length) (hk : k < sq.length) :
    pairL p sq ((transL M).getD i []) ((transL M).getD k []) % p = ((Mt.mk' hp hT hl).tr * Wm hp sq * Mt.mk' hp hT hl).at i k % p := by
  rw [pairL_bil (trans_row hp hT hl hi).1, Mt.mul_at _ _ hi hk]
  unfold bil
  refine sumTo_mod p fun r hr => ?_
  rw [cg_mul ((mul_Wm hp _ hi hr).trans (cg_mul (Mt.tr_at _ hi hr) rfl)) rfl]
  have e1 : ((transL M).getD i []).getD r 0 = ent M r i := trans_at hT hl (by omega) hi hr
  have e2 : ((transL M).getD k []).getD r 0 = ent M r k := trans_at hT hl (by omega) hk hr
  rw [e1, e2]
  show _ = (ent M r i * sq.getD r 0 * ent M r k) % p
  congr 1; grind
theorem iso_iff (hp : 0 < p) (hs : NumsL p sq) (hT : Tab p sq.length M) (hl : M.length = sq.length) : isoB p sq M = true ↔ detL p M ≠ 0 ∧ (Mt.mk' hp hT hl).tr * Wm hp sq * Mt.mk' hp hT hl = Wm hp sq := by
  unfold isoB
  rw [frB_iff.2 ⟨hl, hT⟩, Bool.true_and, Bool.and_eq_true, decide_eq_true_iff, decide_eq_true_iff]
  refine and_congr Iff.rfl ⟨fun h => Mt.same fun i k hi hk => ?_, fun h i hi k hk => ?_⟩
  · rw [← pair_cols hp hT hl hi hk, h i hi k hk, Wm_at hp hi hk]
  · have e := pair_cols hp hT hl hi hk
    rw [h, Wm_at hp hi hk] at e
    refine cg_eq (pairL_range hp _ _) ?_ e
    split
    · exact hs.getD hp i
    · omega
/-- Both directions of the law. -/
theorem cof_law {G : List (List Int)} (hc : codeF p sq M = 0) (hG : cofR p sq M = (G, 0)) : G.length = sq.length ∧ Tab p sq.length G ∧ isoB p sq G = true ∧ detL p G = 1 ∧ cobR p sq G = (M, 0) := by
  obtain ⟨hsp, hrg, hl, hT⟩ := codeF_zero hc
  obtain ⟨hP, hd1, hd2, hnum⟩ := isSp_dim hsp
  have h3 := isP_ge hP
  have hp : 0 < p := by omega
  have hs := nums_numsL hnum
  unfold cofR at hG
  rw [if_pos hc] at hG
  by_cases h : (skewB p sq M && decide (detL p (onePl p M 1) ≠ 0)) = true
  · rw [if_pos h] at hG
    rw [Bool.and_eq_true, decide_eq_true_iff] at h
    obtain ⟨h1, h2⟩ := h
    obtain ⟨g, e1, e2⟩ := cay_eq hP hp hd1 hT hl h2
    obtain rfl : G = g.l := by rw [e1]; exact (Prod.mk.inj hG).1.symm
    have hD : (Mt.plus hp (Mt.mk' hp hT hl)).det % p ≠ 0 := by
      rw [← plus_mk hp hT hl]
      show detL p (onePl p M 1) % p ≠ 0
      have := detL_small (p := p) (by omega) (onePl p M 1)
      rw [Int.emod_eq_of_lt this.1 this.2]; exact h2
    obtain ⟨c1, c2, c3, c4⟩ := cay_skew hP hp hd1 (Wm_tr hp) (Wm_det hP hp hd1 hs hrg) ((skew_iff hp hT hl).1 h1) hD e2
    have hiso : isoB p sq g.l = true := (iso_iff hp hs g.tab g.len).2 ⟨by show g.det ≠ 0; omega, c1⟩
    have hd' : detL p (onePl p g.l 1) ≠ 0 := fun e => c3 (by
      have e9 : Mt.plus hp g = Mt.mk' hp (onePl_tab hp g.tab g.len 1) ((onePl_len p g.l 1).trans g.len) := (plus_mk hp g.tab g.len).symm
      rw [e9]
      show detL p (onePl p g.l 1) % p = 0
      rw [e, Int.zero_emod])
    refine ⟨g.len, g.tab, hiso, c2, ?_⟩
    unfold cobR
    rw [if_pos (codeF_mk hsp hrg g.len g.tab), if_pos (by rw [hiso, Bool.true_and, decide_eq_true_iff]; exact hd')]
    obtain ⟨k, k1, k2⟩ := cay_eq hP hp hd1 g.tab g.len hd'
    have e5 : k = Mt.mk' hp hT hl := Mt.cancel_l hP hd1 c3 (k2.trans c4.symm)
    rw [← k1, e5]; rfl
  · rw [if_neg h] at hG
    exact absurd (Prod.mk.inj hG).2 (by omega)
theorem cob_law {K : List (List Int)} (hc : codeF p sq M = 0) (hK : cobR p sq M = (K, 0)) : K.length = sq.length ∧ Tab p sq.length K ∧ skewB p sq K = true ∧ cofR p sq K = (M, 0) := by
  obtain ⟨hsp, hrg, hl, hT⟩ := codeF_zero hc
  obtain ⟨hP, hd1, hd2, hnum⟩ := isSp_dim hsp
  have h3 := isP_ge hP
  have hp : 0 < p := by omega
  have hs := nums_numsL hnum
  unfold cobR at hK
  rw [if_pos hc] at hK
  by_cases h : (isoB p sq M && decide (detL p (onePl p M 1) ≠ 0)) = true
  · rw [if_pos h] at hK
    rw [Bool.and_eq_true, decide_eq_true_iff] at h
    obtain ⟨h1, h2⟩ := h
    obtain ⟨k, e1, e2⟩ := cay_eq hP hp hd1 hT hl h2
    obtain rfl : K = k.l := by rw [e1]; exact (Prod.mk.inj hK).1.symm
    have hD : (Mt.plus hp (Mt.mk' hp hT hl)).det % p ≠ 0 := by
      rw [← plus_mk hp hT hl]
      show detL p (onePl p M 1) % p ≠ 0
      have := detL_small (p := p) (by omega) (onePl p M 1)
      rw [Int.emod_eq_of_lt this.1 this.2]; exact h2
    obtain ⟨c1, c2, c3⟩ := cay_orth hP hp hd1 ((iso_iff hp hs hT hl).1 h1).2 hD e2
    have hsk : skewB p sq k.l = true := (skew_iff hp k.tab k.len).2 c1
    have hd' : detL p (onePl p k.l 1) ≠ 0 := fun e => c2 (by
      have e9 : Mt.plus hp k = Mt.mk' hp (onePl_tab hp k.tab k.len 1) ((onePl_len p k.l 1).trans k.len) := (plus_mk hp k.tab k.len).symm
      rw [e9]
      show detL p (onePl p k.l 1) % p = 0
      rw [e, Int.zero_emod])
    refine ⟨k.len, k.tab, hsk, ?_⟩
    unfold cofR
    rw [if_pos (codeF_mk hsp hrg k.len k.tab), if_pos (by rw [hsk, Bool.true_and, decide_eq_true_iff]; exact hd')]
    obtain ⟨j, k1, k2⟩ := cay_eq hP hp hd1 k.tab k.len hd'
    have e5 : j = Mt.mk' hp hT hl := Mt.cancel_l hP hd1 c2 (k2.trans c3.symm)
    rw [← k1, e5]; rfl
  · rw [if_neg h] at hK
    exact absurd (Prod.mk.inj hK).2 (by omega)
theorem cofR_bad (h : codeF p sq M ≠ 0) : cofR p sq M = ([], codeF p sq M) := by unfold cofR; rw [if_neg h]
theorem cobR_bad (h : codeF p sq M ≠ 0) : cobR p sq M = ([], codeF p sq M) := by unfold cobR; rw [if_neg h]
end
end Go.Proofs.YtdbibmilicjllaaGreat
namespace Go.Proofs.YtdbibmilicjllaaGreat
open Go.RowKit
theorem mod_less (p y a : Int) : (p * a - y * a) % p = (-(y * a)) % p := by
  rw [show p * a - y * a = -(y * a) + p * a by omega, Int.add_mul_emod_self_left]
set_option maxHeartbeats 6400000 in
set_option maxRecDepth 8000 in
theorem l02Det_any (p : Int) (A : Option Addr) (n c : Nat) (M : List (List Int)) (w : World) (HP : isP p = true) (h0 : 0 < n) (hn : n ≤ 65536) (ha : RdII w A n M) (hT : Tab p n M) :
    Calls Tryz.prog 324 #[.int .i64 p, .slice A n c] w fun e w' => e = .returned (.int .i64 (detL p M)) ∧ Below w.heap.size w w' := by
  have hML := ha.len
  obtain ⟨hp3, hp2⟩ := isP_ge HP
  have hp : 2 ≤ p := by omega
  have HP' := Lib.hid HP
  have hclone := l01Own2_any p A n c M n w hn hn ha hT
  have HST : Hid (detL p M = detF p n M 0 1) := Lib.hid (by unfold detL; rw [hML])
  have HT := Lib.hid (And.intro hT hML)
  clear hT HP ha
  go_enter Tryz.func324, Tryz.ntmps324
  go_wp2_with fail
  refine hclone.mono ?_
  rintro e w1 ⟨A1, c1, rfl, hM1⟩
  clear hclone hML
  obtain ⟨g, rfl, -⟩ := hM1.at_ h0
  go_wp2
  go_loopw [6, 7] (fun o q wr => ∃ (i : Nat) (out : Int) (L : List (List Int)), o = .int .i64 out ∧ q = .int .i64 i ∧ i ≤ n ∧ (0 ≤ out ∧ out < p) ∧ Hid (detL p M = detF p (n - i) L i out) ∧ Hid (Tab p n L ∧ L.length = n) ∧ MkII w wr (some ⟨g, 0, none⟩) n c1 L) (fun _ q _ => n - (intOf q).toNat)
  case atStart => exact ⟨0, 1, M, rfl, rfl, by omega, by omega, Lib.hid (by rw [HST.out]; rfl), HT, hM1⟩
  case round =>
    obtain ⟨i, out, L, rfl, rfl, hin, hob, HD, HT1, hM⟩ := hrel
    clear hM1 HST HT
    have HM := Lib.hid hM
    have HBB := Lib.hid hM.b
    clear hM
    by_cases hli : i < n
    · have HSUC : Hid (detF p (n - i) L i out = detF p ((n - (i + 1)) + 1) L i out) := Lib.hid (by rw [show n - i = (n - (i + 1)) + 1 by omega])
      go_wp2
      go_loop [8] (fun q => ∃ j : Nat, i ≤ j ∧ j ≤ n ∧ q = .int .i64 j ∧ Hid (piv L i (n - j) j = pivOf L i i)) (fun q => n - (intOf q).toNat)
      case atStart => exact ⟨i, by omega, by omega, rfl, Lib.hid (by unfold pivOf; rw [HT1.out.2])⟩
      case round =>
        obtain ⟨j, hj1, hj2, rfl, hj3⟩ := hrel
        by_cases hlj : j < n
        · obtain ⟨g0, e0, hxj, Aj, cj, hcj, hrj⟩ := HM.out.at_ hlj
          injection e0 with e0; injection e0 with e0 _ _; subst e0
          have HRJ := Lib.hid (HT1.out.1 L[j] (List.getElem_mem hxj))
          have hlj2 : L[j].length = n := HRJ.out.1
          rw [hlj2] at hcj hrj
          obtain ⟨gj, oj, rfl, hxe, hce⟩ := hrj.rd.int hli
          have HE : Hid (ent L j i = L[j][i]) := Lib.hid (ent_at' hxj hxe)
          have HPV : Hid (piv L i (n - j) j = if ent L j i = 0 then piv L i (n - (j + 1)) (j + 1) else j) := Lib.hid (by
            rw [show n - j = (n - (j + 1)) + 1 by omega]; rfl)
          have HROW : Hid ((swapL L i j)[i]? = some L[j]) := Lib.hid (by
            rw [swapL_get? L (by rw [HT1.out.2]; exact hli) hxj]
            by_cases hdj : i = j
            · subst hdj; rw [if_pos rfl]; exact List.getElem?_eq_getElem hxj
            · rw [if_neg hdj, if_pos rfl]; exact List.getElem?_eq_getElem hxj)
          have HTS : Hid (Tab p n (swapL L i j) ∧ (swapL L i j).length = n) := Lib.hid ⟨swapL_tab HT1.out.1 (by rw [HT1.out.2]; exact hli) hxj, by rw [swapL_len, HT1.out.2]⟩
          obtain ⟨R, hR⟩ : ∃ R, R = L[j] := ⟨_, rfl⟩
          have HXE : Hid (∀ h : i < R.length, R[i] = L[j][i]) := Lib.hid (fun h => by simp only [hR])
          rw [← hR] at hrj HRJ HROW
          clear hlj2
          obtain ⟨xe, hxe'⟩ : ∃ x, x = L[j][i] := ⟨_, rfl⟩
          rw [← hxe'] at hce HE HXE
          have HX : Hid (0 ≤ xe ∧ xe < p) := Lib.hid (hxe' ▸ ((HT1.out.1 L[j] (List.getElem_mem hxj)).2 _ (List.getElem_mem hxe)))
          clear hxe' hxe hR hxj
          cases hz : (xe == 0)
          · have hne : xe ≠ 0 := by simpa using hz
            have HVP : Hid (pivOf L i i = j) := Lib.hid (by rw [← hj3.out, HPV.out, if_neg (by rw [HE.out]; exact hne)])
            have HEI : Hid (ent (swapL L i j) i i = xe) := Lib.hid (by
              have h1 := HROW.out
              have e1 : (swapL L i j).getD i [] = R := by rw [List.getD_eq_getElem?_getD, h1]; rfl
              have hl : i < R.length := by rw [HRJ.out.1]; exact hli
              unfold ent
              rw [e1, getD_of_lt 0 hl, HXE.out hl])
            have HNX : Hid (detL p M = detF p (n - (i + 1)) (dClr p (swapL L i j) i n) (i + 1) ((if j = i then out else (-out) % p) * xe % p)) := Lib.hid (by
              rw [HD.out, HSUC.out, detF_step (by rw [HVP.out, HT1.out.2]; omega), HVP.out, HEI.out, HT1.out.2])
            have hx1 := HX.out
            have hiv := invF_small hp xe
            have tj : ((j : Int) == (n : Int)) = false := by simp; omega
            by_cases hij : j = i
            · obtain rfl := hij
              have t2 : ((j : Int) != (j : Int)) = false := by simp
              have HSM : Hid (swapL L j j = L) := Lib.hid (swapL_same L (by rw [HT1.out.2]; exact hli))
              have HM2 := Lib.hid (show MkII w wr (some ⟨g, 0, none⟩) n c1 (swapL L j j) by rw [HSM.out]; exact HM.out)
              clear hrj hcj hce HSM
              obtain ⟨N, hN⟩ : ∃ N, N = swapL L j j := ⟨_, rfl⟩
              rw [← hN] at HM2 HTS HEI HNX HROW
              obtain ⟨o2, ho2⟩ : ∃ o2, o2 = out := ⟨_, rfl⟩
              have HO2 : Hid (0 ≤ o2 ∧ o2 < p) := Lib.hid (by rw [ho2]; exact hob)
              have HNXT : Hid (detL p M = detF p (n - (j + 1)) (dClr p N j n) (j + 1) (o2 * xe % p)) := Lib.hid (by rw [HNX.out, if_pos rfl, ho2])
              rw [← ho2]
              clear hN ho2 HNX
              obtain ⟨g0, e0, hxs, As, cs, hcs2, hrs⟩ := HM2.out.at_ hli
              injection e0 with e0; injection e0 with e0 _ _; subst e0
              have hrow : N[j] = R := by have := HROW.out; rw [List.getElem?_eq_getElem hxs] at this; exact Option.some.inj this
              rw [hrow] at hcs2 hrs
              have hRl := HRJ.out.1
              rw [hRl] at hcs2 hrs
              obtain ⟨gs, os, rfl, hxe2, hce2⟩ := hrs.rd.int hli
              rw [HXE.out hxe2] at hce2
              clear hrs hrow hxe2 hxs hRl
              have hob2 := HO2.out
              have hmb := mul_b (a := o2) (b := xe) (by omega) (by omega)
              have hw1 := i64_small (x := o2 * xe) (by omega) (by omega)
              have hP0 : (p == 0) = false := by simp; omega
              have hP1 : (p == -1) = false := by simp; omega
              have hP2 : ¬ p = 0 := by omega
              have htm : (o2 * xe).tmod p = o2 * xe % p := by rw [Int.tmod_eq_emod_of_nonneg hmb.1]
              have hinv := fun w' => l01Inv_any p xe w' HP'.out (by omega) hx1.2
              go_wp2_with fail
              refine (hinv _).mono ?_
              rintro e w5 ⟨rfl, rfl⟩
              clear hinv hce2 hcs2
              have HM3 := Lib.hid (show MkII w wr (some ⟨g, 0, none⟩) n c1 (dClr p N j (j + 1)) by rw [dClr_start]; exact HM2.out)
              have HOX : Hid (0 ≤ o2 * xe % p ∧ o2 * xe % p < p) := Lib.hid ⟨Int.emod_nonneg _ (by omega), Int.emod_lt_of_pos _ (by omega)⟩
              clear HM2 HM
              go_wp2
              go_loopw [11] (fun q w4 => ∃ r : Nat, j + 1 ≤ r ∧ r ≤ n ∧ q = .int .i64 r ∧ MkII w w4 (some ⟨g, 0, none⟩) n c1 (dClr p N j r)) (fun q _ => n - (intOf q).toNat)
              case atStart => exact ⟨j + 1, by omega, by omega, by go_num, HM3.out⟩
              case round =>
                obtain ⟨r, hr1, hr2, rfl, hM4⟩ := hrel
                clear HM3
                by_cases hlr : r < n
                · have hT4 : Tab p n (dClr p N j r) := dClr_tab (by omega) HTS.out.1 j r
                  have hr4 : (dClr p N j r).getD r [] = N.getD r [] := by rw [dClr_getD (by rw [HTS.out.2]; exact hlr), if_neg (by omega)]
                  have hd4 : (dClr p N j r).getD j [] = N.getD j [] := by rw [dClr_getD (by rw [HTS.out.2]; exact hli), if_neg (by omega)]
                  obtain ⟨g0, e0, hxr, Ar, cr, hcr, hrr⟩ := hM4.at_ hlr
                  injection e0 with e0; injection e0 with e0 _ _; subst e0
                  obtain ⟨g0, e0, hxd, Ad2, cd2, hcd2, hrd2⟩ := hM4.at_ hli
                  injection e0 with e0; injection e0 with e0 _ _; subst e0
                  have HR1 := Lib.hid (hT4 _ (List.getElem_mem hxr))
                  have HD1 := Lib.hid (hT4 _ (List.getElem_mem hxd))
                  have hl1 := HR1.out.1
                  have hl2 := HD1.out.1
                  rw [getD_of_lt [] hxr] at hr4
                  rw [getD_of_lt [] hxd] at hd4
                  rw [hl1] at hcr hrr
                  rw [hl2] at hcd2 hrd2
                  rw [hr4] at hrr HR1
                  rw [hd4] at hrd2 HD1
                  obtain ⟨gr, or', rfl, hxy, hcy⟩ := hrr.rd.int hli
                  obtain ⟨gd, od, rfl, hxz, hcz⟩ := hrd2.rd.int hli
                  have hey : ent N r j = (N.getD r [])[j] := by unfold ent; rw [getD_of_lt 0 hxy]
                  have hez : (N.getD j [])[j] = xe := by rw [← HEI.out]; unfold ent; rw [getD_of_lt 0 hxz]
                  obtain ⟨y, hy⟩ : ∃ y, y = (N.getD r [])[j] := ⟨_, rfl⟩
                  have hyb : 0 ≤ y ∧ y < p := hy ▸ HR1.out.2 _ (List.getElem_mem hxy)
                  rw [← hy] at hcy hey
                  rw [hez] at hcz
                  have HDR : Hid (dRow p N j r = plusL p (N.getD r []) (N.getD j []) (-y * invF p xe)) := Lib.hid (by unfold dRow; rw [hey, HEI.out])
                  have HM4 := Lib.hid hM4
                  have HRR := Lib.hid hrr
                  have HRD := Lib.hid hrd2
                  clear hy hT4 hr4 hd4 hl1 hl2 hxr hxd hxy hxz hey hez hM4 hrr hrd2
                  have hmy := mul_b (a := p - y) (b := invF p xe) (by omega) (by omega)
                  have hwy := i64_small (x := p - y) (by omega) (by omega)
                  have hwm := i64_small (x := (p - y) * invF p xe) (by omega) (by omega)
                  have hty : ((p - y) * invF p xe).tmod p = (p - y) * invF p xe % p := by rw [Int.tmod_eq_emod_of_nonneg hmy.1]
                  have hmb2 := emod_small ((p - y) * invF p xe) p (by omega)
                  go_wp2
                  refine wp_obs 26 [[], [], [], [], [], [3, 4], [3, 4, 5], [], [], [7, 8], [7, 8, 9], [], [], [], [12, 13], [12, 13, 14], [], [12, 13, 14, 15, 16], [12, 13, 14, 15, 16, 17], [11, 12, 13, 14, 15, 16, 17, 18], [], [11, 12, 13, 14, 15, 16, 17, 18, 19, 20], [], [11, 12, 13, 14, 15, 16, 17, 18, 19, 20, 21, 22], [2, 3, 4, 5, 6, 7, 8, 9, 10, 11, 12, 13, 14, 15, 16, 17, 18, 19, 20, 21, 22, 23], [0, 1], [0, 1, 2, 3, 4, 5, 6, 7, 8, 9, 10, 11, 12, 13, 14, 15, 16, 17, 18, 19, 20, 21, 22, 23, 24, 25]] [VIs (.slice (some ⟨g, 0, none⟩) n c1), VIs (.int .i64 (r)), VIs (.int .i64 (p)), VIs (.slice (some ⟨g, 0, none⟩) n c1), VIs (.int .i64 (r)), VIs (.pointer (some ⟨g, r, none⟩)), VIs (.slice (some ⟨gr, or', none⟩) n cr), VIs (.slice (some ⟨g, 0, none⟩) n c1), VIs (.int .i64 (j)), VIs (.pointer (some ⟨g, j, none⟩)), VIs (.slice (some ⟨gd, od, none⟩) n cd2), VIs (.int .i64 (p)), VIs (.slice (some ⟨g, 0, none⟩) n c1), VIs (.int .i64 (r)), VIs (.pointer (some ⟨g, r, none⟩)), VIs (.slice (some ⟨gr, or', none⟩) n cr), VIs (.int .i64 (j)), VIs (.pointer (some ⟨gr, or' + j, none⟩)), VIs (.int .i64 (y)), VIs (.int .i64 (p - y)), VIs (.int .i64 (invF p xe)), VIs (.int .i64 ((p - y) * invF p xe)), VIs (.int .i64 (p)), VIs (.int .i64 ((p - y) * invF p xe % p)), VSl wr n (plusL p (N.getD r []) (N.getD j []) ((p - y) * invF p xe % p)), VIs (.pointer (some ⟨g, r, none⟩))] (fun w' => w'.cell? ⟨g, r, none⟩ = some (.slice (some ⟨gr, or', none⟩) n cr) ∧ w'.cell? ⟨g, j, none⟩ = some (.slice (some ⟨gd, od, none⟩) n cd2) ∧ w'.cell? ⟨gr, or' + j, none⟩ = some (.int .i64 y) ∧ Below wr.heap.size wr w') (by kernel_rfl) (by kernel_rfl) (fun _ _ h hb => ⟨(hb.cell (World.block_lt_of_cell? _ _ h.1)).trans h.1, (hb.cell (World.block_lt_of_cell? _ _ h.2.1)).trans h.2.1, (hb.cell (World.block_lt_of_cell? _ _ h.2.2.1)).trans h.2.2.1, h.2.2.2.trans (hb.mono h.2.2.2.size)⟩) (⟨hcr, hcd2, hcy, (Below.refl _ _).drew⟩) (fun x => ?_)
                  refine obs_step (Eq.trans (by simp only [zA, zC]; exact rfl) rfl) rfl (fun w' hS hV K hK => ?_) ?_
                  · have q0 := hS.1; have q1 := hS.2.1; have q2 := hS.2.2.1
                    go_simp
                    exact hK.out _ _ _ rfl rfl rfl (Below.refl _ _)
                  simp only [zD, zE, zF]
                  refine obs_step (Eq.trans (by simp only [zA, zB, zC]; exact rfl) rfl) rfl (fun w' hS hV K hK => ?_) ?_
                  · have q0 := hS.1; have q1 := hS.2.1; have q2 := hS.2.2.1
                    go_simp
                    exact hK.out _ _ _ rfl rfl rfl (Below.refl _ _)
                  simp only [zD, zE, zF]
                  refine obs_step (Eq.trans (by simp only [zA, zB, zC]; exact rfl) rfl) rfl (fun w' hS hV K hK => ?_) ?_
                  · have q0 := hS.1; have q1 := hS.2.1; have q2 := hS.2.2.1
                    go_simp
                    exact hK.out _ _ _ rfl rfl rfl (Below.refl _ _)
                  simp only [zD, zE, zF]
                  refine obs_step (Eq.trans (by simp only [zA, zB, zC]; exact rfl) rfl) rfl (fun w' hS hV K hK => ?_) ?_
                  · have q0 := hS.1; have q1 := hS.2.1; have q2 := hS.2.2.1
                    go_simp
                    exact hK.out _ _ _ rfl rfl rfl (Below.refl _ _)
                  simp only [zD, zE, zF]
                  refine obs_step (Eq.trans (by simp only [zA, zB, zC]; exact rfl) rfl) rfl (fun w' hS hV K hK => ?_) ?_
                  · have q0 := hS.1; have q1 := hS.2.1; have q2 := hS.2.2.1
                    go_simp
                    exact hK.out _ _ _ rfl rfl rfl (Below.refl _ _)
                  simp only [zD, zE, zF]
                  refine obs_step (Eq.trans (by simp only [zA, zB, zC]; exact rfl) rfl) rfl (fun w' hS hV K hK => ?_) ?_
                  · have e3 : x 3 = (.slice (some ⟨g, 0, none⟩) n c1) := hV 3 (by decide)
                    have e4 : x 4 = (.int .i64 (r)) := hV 4 (by decide)
                    have q0 := hS.1; have q1 := hS.2.1; have q2 := hS.2.2.1
                    go_simp
                    exact hK.out _ _ _ rfl rfl rfl (Below.refl _ _)
                  simp only [zD, zE, zF]
                  refine obs_step (Eq.trans (by simp only [zA, zB, zC]; exact rfl) rfl) rfl (fun w' hS hV K hK => ?_) ?_
                  · have e5 : x 5 = (.pointer (some ⟨g, r, none⟩)) := hV 5 (by decide)
                    have q0 := hS.1; have q1 := hS.2.1; have q2 := hS.2.2.1
                    go_simp
                    exact hK.out _ _ _ rfl rfl rfl (Below.refl _ _)
                  simp only [zD, zE, zF]
                  refine obs_step (Eq.trans (by simp only [zA, zB, zC]; exact rfl) rfl) rfl (fun w' hS hV K hK => ?_) ?_
                  · have q0 := hS.1; have q1 := hS.2.1; have q2 := hS.2.2.1
                    go_simp
                    exact hK.out _ _ _ rfl rfl rfl (Below.refl _ _)
                  simp only [zD, zE, zF]
                  refine obs_step (Eq.trans (by simp only [zA, zB, zC]; exact rfl) rfl) rfl (fun w' hS hV K hK => ?_) ?_
                  · have q0 := hS.1; have q1 := hS.2.1; have q2 := hS.2.2.1
                    go_simp
                    exact hK.out _ _ _ rfl rfl rfl (Below.refl _ _)
                  simp only [zD, zE, zF]
                  refine obs_step (Eq.trans (by simp only [zA, zB, zC]; exact rfl) rfl) rfl (fun w' hS hV K hK => ?_) ?_
                  · have e7 : x 7 = (.slice (some ⟨g, 0, none⟩) n c1) := hV 7 (by decide)
                    have e8 : x 8 = (.int .i64 (j)) := hV 8 (by decide)
                    have q0 := hS.1; have q1 := hS.2.1; have q2 := hS.2.2.1
                    go_simp
                    exact hK.out _ _ _ rfl rfl rfl (Below.refl _ _)
                  simp only [zD, zE, zF]
                  refine obs_step (Eq.trans (by simp only [zA, zB, zC]; exact rfl) rfl) rfl (fun w' hS hV K hK => ?_) ?_
                  · have e9 : x 9 = (.pointer (some ⟨g, j, none⟩)) := hV 9 (by decide)
                    have q0 := hS.1; have q1 := hS.2.1; have q2 := hS.2.2.1
                    go_simp
                    exact hK.out _ _ _ rfl rfl rfl (Below.refl _ _)
                  simp only [zD, zE, zF]
                  refine obs_step (Eq.trans (by simp only [zA, zB, zC]; exact rfl) rfl) rfl (fun w' hS hV K hK => ?_) ?_
                  · have q0 := hS.1; have q1 := hS.2.1; have q2 := hS.2.2.1
                    go_simp
                    exact hK.out _ _ _ rfl rfl rfl (Below.refl _ _)
                  simp only [zD, zE, zF]
                  refine obs_step (Eq.trans (by simp only [zA, zB, zC]; exact rfl) rfl) rfl (fun w' hS hV K hK => ?_) ?_
                  · have q0 := hS.1; have q1 := hS.2.1; have q2 := hS.2.2.1
                    go_simp
                    exact hK.out _ _ _ rfl rfl rfl (Below.refl _ _)
                  simp only [zD, zE, zF]
                  refine obs_step (Eq.trans (by simp only [zA, zB, zC]; exact rfl) rfl) rfl (fun w' hS hV K hK => ?_) ?_
                  · have q0 := hS.1; have q1 := hS.2.1; have q2 := hS.2.2.1
                    go_simp
                    exact hK.out _ _ _ rfl rfl rfl (Below.refl _ _)
                  simp only [zD, zE, zF]
                  refine obs_step (Eq.trans (by simp only [zA, zB, zC]; exact rfl) rfl) rfl (fun w' hS hV K hK => ?_) ?_
                  · have e12 : x 12 = (.slice (some ⟨g, 0, none⟩) n c1) := hV 12 (by decide)
                    have e13 : x 13 = (.int .i64 (r)) := hV 13 (by decide)
                    have q0 := hS.1; have q1 := hS.2.1; have q2 := hS.2.2.1
                    go_simp
                    exact hK.out _ _ _ rfl rfl rfl (Below.refl _ _)
                  simp only [zD, zE, zF]
                  refine obs_step (Eq.trans (by simp only [zA, zB, zC]; exact rfl) rfl) rfl (fun w' hS hV K hK => ?_) ?_
                  · have e14 : x 14 = (.pointer (some ⟨g, r, none⟩)) := hV 14 (by decide)
                    have q0 := hS.1; have q1 := hS.2.1; have q2 := hS.2.2.1
                    go_simp
                    exact hK.out _ _ _ rfl rfl rfl (Below.refl _ _)
                  simp only [zD, zE, zF]
                  refine obs_step (Eq.trans (by simp only [zA, zB, zC]; exact rfl) rfl) rfl (fun w' hS hV K hK => ?_) ?_
                  · have q0 := hS.1; have q1 := hS.2.1; have q2 := hS.2.2.1
                    go_simp
                    exact hK.out _ _ _ rfl rfl rfl (Below.refl _ _)
                  simp only [zD, zE, zF]
                  refine obs_step (Eq.trans (by simp only [zA, zB, zC]; exact rfl) rfl) rfl (fun w' hS hV K hK => ?_) ?_
                  · have e15 : x 15 = (.slice (some ⟨gr, or', none⟩) n cr) := hV 15 (by decide)
                    have e16 : x 16 = (.int .i64 (j)) := hV 16 (by decide)
                    have q0 := hS.1; have q1 := hS.2.1; have q2 := hS.2.2.1
                    go_simp
                    exact hK.out _ _ _ rfl rfl rfl (Below.refl _ _)
                  simp only [zD, zE, zF]
                  refine obs_step (Eq.trans (by simp only [zA, zB, zC]; exact rfl) rfl) rfl (fun w' hS hV K hK => ?_) ?_
                  · have e17 : x 17 = (.pointer (some ⟨gr, or' + j, none⟩)) := hV 17 (by decide)
                    have q0 := hS.1; have q1 := hS.2.1; have q2 := hS.2.2.1
                    go_simp
                    exact hK.out _ _ _ rfl rfl rfl (Below.refl _ _)
                  simp only [zD, zE, zF]
                  refine obs_step (Eq.trans (by simp only [zA, zB, zC]; exact rfl) rfl) rfl (fun w' hS hV K hK => ?_) ?_
                  · have e11 : x 11 = (.int .i64 (p)) := hV 11 (by decide)
                    have e18 : x 18 = (.int .i64 (y)) := hV 18 (by decide)
                    have q0 := hS.1; have q1 := hS.2.1; have q2 := hS.2.2.1
                    go_simp
                    exact hK.out _ _ _ rfl rfl rfl (Below.refl _ _)
                  simp only [zD, zE, zF]
                  refine obs_step (Eq.trans (by simp only [zA, zB, zC]; exact rfl) rfl) rfl (fun w' hS hV K hK => ?_) ?_
                  · have q0 := hS.1; have q1 := hS.2.1; have q2 := hS.2.2.1
                    go_simp
                    exact hK.out _ _ _ rfl rfl rfl (Below.refl _ _)
                  simp only [zD, zE, zF]
                  refine obs_step (Eq.trans (by simp only [zA, zB, zC]; exact rfl) rfl) rfl (fun w' hS hV K hK => ?_) ?_
                  · have e19 : x 19 = (.int .i64 (p - y)) := hV 19 (by decide)
                    have e20 : x 20 = (.int .i64 (invF p xe)) := hV 20 (by decide)
                    have q0 := hS.1; have q1 := hS.2.1; have q2 := hS.2.2.1
                    go_simp
                    exact hK.out _ _ _ rfl rfl rfl (Below.refl _ _)
                  simp only [zD, zE, zF]
                  refine obs_step (Eq.trans (by simp only [zA, zB, zC]; exact rfl) rfl) rfl (fun w' hS hV K hK => ?_) ?_
                  · have q0 := hS.1; have q1 := hS.2.1; have q2 := hS.2.2.1
                    go_simp
                    exact hK.out _ _ _ rfl rfl rfl (Below.refl _ _)
                  simp only [zD, zE, zF]
                  refine obs_step (Eq.trans (by simp only [zA, zB, zC]; exact rfl) rfl) rfl (fun w' hS hV K hK => ?_) ?_
                  · have e21 : x 21 = (.int .i64 ((p - y) * invF p xe)) := hV 21 (by decide)
                    have e22 : x 22 = (.int .i64 (p)) := hV 22 (by decide)
                    have q0 := hS.1; have q1 := hS.2.1; have q2 := hS.2.2.1
                    go_simp
                    exact hK.out _ _ _ rfl rfl rfl (Below.refl _ _)
                  simp only [zD, zE, zF]
                  refine obs_step (Eq.trans (by simp only [zA, zB, zC]; exact rfl) rfl) rfl (fun w' hS hV K hK => ?_) ?_
                  · have e2 : x 2 = (.int .i64 (p)) := hV 2 (by decide)
                    have e6 : x 6 = (.slice (some ⟨gr, or', none⟩) n cr) := hV 6 (by decide)
                    have e10 : x 10 = (.slice (some ⟨gd, od, none⟩) n cd2) := hV 10 (by decide)
                    have e23 : x 23 = (.int .i64 ((p - y) * invF p xe % p)) := hV 23 (by decide)
                    have q0 := hS.1; have q1 := hS.2.1; have q2 := hS.2.2.1
                    go_simp
                    refine (l02Plus_any p _ n _ _ n _ ((p - y) * invF p xe % p) _ _ _ hp hp2 hn (Nat.le_refl _) (HRR.out.rd.below hS.2.2.2) HR1.out.2 (HRD.out.rd.below hS.2.2.2) HD1.out.2 (by omega) (by omega)).mono ?_
                    rintro e v1 ⟨A2, c2, rfl, hM⟩
                    exact hK.out _ _ _ rfl rfl ⟨_, _, rfl, hM.after hS.2.2.2⟩ hM.b
                  simp only [zD, zE, zF]
                  refine obs_step (Eq.trans (by simp only [zA, zB, zC]; exact rfl) rfl) rfl (fun w' hS hV K hK => ?_) ?_
                  · have e0 : x 0 = (.slice (some ⟨g, 0, none⟩) n c1) := hV 0 (by decide)
                    have e1 : x 1 = (.int .i64 (r)) := hV 1 (by decide)
                    have q0 := hS.1; have q1 := hS.2.1; have q2 := hS.2.2.1
                    go_simp
                    exact hK.out _ _ _ rfl rfl rfl (Below.refl _ _)
                  simp only [zD, zE, zF]
                  refine fun w' hS hV => ?_
                  have e0 : x 0 = (.slice (some ⟨g, 0, none⟩) n c1) := hV 0 (by decide)
                  have e1 : x 1 = (.int .i64 (r)) := hV 1 (by decide)
                  have e2 : x 2 = (.int .i64 (p)) := hV 2 (by decide)
                  have e3 : x 3 = (.slice (some ⟨g, 0, none⟩) n c1) := hV 3 (by decide)
                  have e4 : x 4 = (.int .i64 (r)) := hV 4 (by decide)
                  have e5 : x 5 = (.pointer (some ⟨g, r, none⟩)) := hV 5 (by decide)
                  have e6 : x 6 = (.slice (some ⟨gr, or', none⟩) n cr) := hV 6 (by decide)
                  have e7 : x 7 = (.slice (some ⟨g, 0, none⟩) n c1) := hV 7 (by decide)
                  have e8 : x 8 = (.int .i64 (j)) := hV 8 (by decide)
                  have e9 : x 9 = (.pointer (some ⟨g, j, none⟩)) := hV 9 (by decide)
                  have e10 : x 10 = (.slice (some ⟨gd, od, none⟩) n cd2) := hV 10 (by decide)
                  have e11 : x 11 = (.int .i64 (p)) := hV 11 (by decide)
                  have e12 : x 12 = (.slice (some ⟨g, 0, none⟩) n c1) := hV 12 (by decide)
                  have e13 : x 13 = (.int .i64 (r)) := hV 13 (by decide)
                  have e14 : x 14 = (.pointer (some ⟨g, r, none⟩)) := hV 14 (by decide)
                  have e15 : x 15 = (.slice (some ⟨gr, or', none⟩) n cr) := hV 15 (by decide)
                  have e16 : x 16 = (.int .i64 (j)) := hV 16 (by decide)
                  have e17 : x 17 = (.pointer (some ⟨gr, or' + j, none⟩)) := hV 17 (by decide)
                  have e18 : x 18 = (.int .i64 (y)) := hV 18 (by decide)
                  have e19 : x 19 = (.int .i64 (p - y)) := hV 19 (by decide)
                  have e20 : x 20 = (.int .i64 (invF p xe)) := hV 20 (by decide)
                  have e21 : x 21 = (.int .i64 ((p - y) * invF p xe)) := hV 21 (by decide)
                  have e22 : x 22 = (.int .i64 (p)) := hV 22 (by decide)
                  have e23 : x 23 = (.int .i64 ((p - y) * invF p xe % p)) := hV 23 (by decide)
                  obtain ⟨A24, c24, e24, h24⟩ := hV 24 (by decide)
                  have e25 : x 25 = (.pointer (some ⟨g, r, none⟩)) := hV 25 (by decide)
                  simp only [e0, e1, e2, e3, e4, e5, e6, e7, e8, e9, e10, e11, e12, e13, e14, e15, e16, e17, e18, e19, e20, e21, e22, e23, e24, e25]
                  clear e0 e1 e2 e3 e4 e5 e6 e7 e8 e9 e10 e11 e12 e13 e14 e15 e16 e17 e18 e19 e20 e21 e22 e23 e24 e25
                  have hbn := hS.2.2.2
                  have q0 := hS.1
                  have ff := (HM4.out.below hbn).frozen_ r
                  refine any_one (j := 26) (by kernel_rfl) (Eq.trans (by simp only [zA, zB, zC]; exact rfl) rfl) (fun K hK => ?_)
                  go_simp
                  refine hK.out _ _ (wpAny_done (by kernel_rfl) ?_ _)
                  have hM5 := HM4.out.setRow h24 r
                  have hM6 : MkII w (w'.setCell ⟨g, r, none⟩ (.slice A24 n c24)) (some ⟨g, 0, none⟩) n c1 (dClr p N j (r + 1)) := by
                    rw [dClr_succ (by rw [HTS.out.2]; exact hlr) (by omega), HDR.out, plusL_mod p _ _ (k' := (p - y) * invF p xe % p) (by rw [Int.emod_emod_of_dvd _ (Int.dvd_refl _), Int.sub_mul, Int.neg_mul]; exact (mod_less p y (invF p xe)).symm)]
                    exact hM5
                  clear q0 ff hM5 h24 hbn hS hV
                  go_wp2
                  go_roundw
                  case rel => exact ⟨r + 1, by omega, by omega, by go_num, hM6⟩
                  case measure => simp [intOf]; omega
                · obtain rfl : r = n := by omega
                  have HM4 := Lib.hid hM4
                  clear hM4
                  go_wp2
                  go_roundw
                  case rel => exact ⟨j + 1, o2 * xe % p, dClr p N j r, rfl, by go_num, by omega, HOX.out, HNXT, Lib.hid ⟨dClr_tab (by omega) HTS.out.1 _ _, by rw [dClr_len, HTS.out.2]⟩, HM4.out⟩
                  case measure => simp [intOf]; omega
            · skip
              have t2 : ((j : Int) != (i : Int)) = true := by simp; omega
              have t3 : decide ((i : Int) < (j : Int)) = true := by simp; omega
              obtain ⟨g0, e0, hxd, Ad, cd, hcd, hrd⟩ := HM.out.at_ hli
              injection e0 with e0; injection e0 with e0 _ _; subst e0
              have hld2 : L[i].length = n := (HT1.out.1 L[i] (List.getElem_mem hxd)).1
              rw [hld2] at hcd hrd
              have fd := HM.out.frozen_ i
              have fj := HM.out.frozen_ j
              have HSW := Lib.hid (HM.out.swap hlj hli hcj hcd)
              obtain ⟨uj, hcs⟩ := HM.out.cellSet j (A1 := Ad) (m := n) (c1 := cd) hli
              have hwn := i64_small (x := p - out) (by omega) (by omega)
              have hP0' : (p == 0) = false := by simp; omega
              have hP1' : (p == -1) = false := by simp; omega
              have hP2' : ¬ p = 0 := by omega
              have htn : (p - out).tmod p = (-out) % p := by rw [Int.tmod_eq_emod_of_nonneg (by omega)]; simp
              clear hrj hrd hld2 hxd
              obtain ⟨w2, hw2⟩ : ∃ W, W = ((wr.setCell ⟨g, j, none⟩ (.slice Ad n cd)).setCell ⟨g, i, none⟩ (.slice (some ⟨gj, oj, none⟩) n cj)) := ⟨_, rfl⟩
              have hM2 : MkII w w2 (some ⟨g, 0, none⟩) n c1 (swapL L i j) := by rw [hw2, swapL_comm L (fun h => hij h.symm)]; exact HSW.out
              have hcc : w2.cell? ⟨g, i, none⟩ = some (.slice (some ⟨gj, oj, none⟩) n cj) := by
                rw [hw2]
                obtain ⟨v', hv'⟩ := cell?_setCell_some (p := ⟨g, j, none⟩) (x := .slice Ad n cd) hcd
                exact World.cell?_setCell_same' _ _ _ (by rw [hv']; rfl)
              have HM2 := Lib.hid hM2
              clear hM2
              obtain ⟨N, hN⟩ : ∃ N, N = swapL L i j := ⟨_, rfl⟩
              rw [← hN] at HM2 HTS HEI HNX HROW
              obtain ⟨o2, ho2⟩ : ∃ o2, o2 = (-out) % p := ⟨_, rfl⟩
              have HO2 : Hid (0 ≤ o2 ∧ o2 < p) := Lib.hid (by rw [ho2]; exact ⟨Int.emod_nonneg _ (by omega), Int.emod_lt_of_pos _ (by omega)⟩)
              have HNXT : Hid (detL p M = detF p (n - (i + 1)) (dClr p N i n) (i + 1) (o2 * xe % p)) := Lib.hid (by rw [HNX.out, if_neg hij, ho2])
              rw [← ho2] at htn
              clear hN ho2 HNX
              obtain ⟨g0, e0, hxs, As, cs, hcs2, hrs⟩ := HM2.out.at_ hli
              injection e0 with e0; injection e0 with e0 _ _; subst e0
              have hrow : N[i] = R := by have := HROW.out; rw [List.getElem?_eq_getElem hxs] at this; exact Option.some.inj this
              rw [hrow] at hcs2 hrs
              have hRl := HRJ.out.1
              rw [hRl] at hcs2 hrs
              rw [hcc] at hcs2
              injection hcs2 with hcs2; injection hcs2 with eA _ eC
              subst eA
              subst eC
              obtain ⟨gs, os, e9, hxe2, hce2⟩ := hrs.rd.int hli
              injection e9 with e9; injection e9 with e9a e9b _
              subst e9a; subst e9b
              have hcs2 := hcc
              clear hcc
              rw [HXE.out hxe2] at hce2
              clear hrs hrow hxe2 hxs hRl
              have hob2 := HO2.out
              have hmb := mul_b (a := o2) (b := xe) (by omega) (by omega)
              have hw1 := i64_small (x := o2 * xe) (by omega) (by omega)
              have hP0 : (p == 0) = false := by simp; omega
              have hP1 : (p == -1) = false := by simp; omega
              have hP2 : ¬ p = 0 := by omega
              have htm : (o2 * xe).tmod p = o2 * xe % p := by rw [Int.tmod_eq_emod_of_nonneg hmb.1]
              have hinv := fun w' => l01Inv_any p xe w' HP'.out (by omega) hx1.2
              have hcs3 := hcs2
              have hce3 := hce2
              rw [hw2] at hcs3 hce3
              have HW2 := Lib.hid hw2
              clear hw2
              go_wp2_with fail
              rw [← HW2.out]
              clear HW2 hcs3 hce3 HSW hcs fd fj hcd hcj hce
              refine (hinv _).mono ?_
              rintro e w5 ⟨rfl, rfl⟩
              clear hinv hce2 hcs2
              have HM3 := Lib.hid (show MkII w w2 (some ⟨g, 0, none⟩) n c1 (dClr p N i (i + 1)) by rw [dClr_start]; exact HM2.out)
              have HOX : Hid (0 ≤ o2 * xe % p ∧ o2 * xe % p < p) := Lib.hid ⟨Int.emod_nonneg _ (by omega), Int.emod_lt_of_pos _ (by omega)⟩
              clear HM2 HM
              go_wp2
              go_loopw [11] (fun q w4 => ∃ r : Nat, i + 1 ≤ r ∧ r ≤ n ∧ q = .int .i64 r ∧ MkII w w4 (some ⟨g, 0, none⟩) n c1 (dClr p N i r)) (fun q _ => n - (intOf q).toNat)
              case atStart => exact ⟨i + 1, by omega, by omega, by go_num, HM3.out⟩
              case round =>
                obtain ⟨r, hr1, hr2, rfl, hM4⟩ := hrel
                clear HM3
                by_cases hlr : r < n
                · have hT4 : Tab p n (dClr p N i r) := dClr_tab (by omega) HTS.out.1 i r
                  have hr4 : (dClr p N i r).getD r [] = N.getD r [] := by rw [dClr_getD (by rw [HTS.out.2]; exact hlr), if_neg (by omega)]
                  have hd4 : (dClr p N i r).getD i [] = N.getD i [] := by rw [dClr_getD (by rw [HTS.out.2]; exact hli), if_neg (by omega)]
                  obtain ⟨g0, e0, hxr, Ar, cr, hcr, hrr⟩ := hM4.at_ hlr
                  injection e0 with e0; injection e0 with e0 _ _; subst e0
                  obtain ⟨g0, e0, hxd, Ad2, cd2, hcd2, hrd2⟩ := hM4.at_ hli
                  injection e0 with e0; injection e0 with e0 _ _; subst e0
                  have HR1 := Lib.hid (hT4 _ (List.getElem_mem hxr))
                  have HD1 := Lib.hid (hT4 _ (List.getElem_mem hxd))
                  have hl1 := HR1.out.1
                  have hl2 := HD1.out.1
                  rw [getD_of_lt [] hxr] at hr4
                  rw [getD_of_lt [] hxd] at hd4
                  rw [hl1] at hcr hrr
                  rw [hl2] at hcd2 hrd2
                  rw [hr4] at hrr HR1
                  rw [hd4] at hrd2 HD1
                  obtain ⟨gr, or', rfl, hxy, hcy⟩ := hrr.rd.int hli
                  obtain ⟨gd, od, rfl, hxz, hcz⟩ := hrd2.rd.int hli
                  have hey : ent N r i = (N.getD r [])[i] := by unfold ent; rw [getD_of_lt 0 hxy]
                  have hez : (N.getD i [])[i] = xe := by rw [← HEI.out]; unfold ent; rw [getD_of_lt 0 hxz]
                  obtain ⟨y, hy⟩ : ∃ y, y = (N.getD r [])[i] := ⟨_, rfl⟩
                  have hyb : 0 ≤ y ∧ y < p := hy ▸ HR1.out.2 _ (List.getElem_mem hxy)
                  rw [← hy] at hcy hey
                  rw [hez] at hcz
                  have HDR : Hid (dRow p N i r = plusL p (N.getD r []) (N.getD i []) (-y * invF p xe)) := Lib.hid (by unfold dRow; rw [hey, HEI.out])
                  have HM4 := Lib.hid hM4
                  have HRR := Lib.hid hrr
                  have HRD := Lib.hid hrd2
                  clear hy hT4 hr4 hd4 hl1 hl2 hxr hxd hxy hxz hey hez hM4 hrr hrd2
                  have hmy := mul_b (a := p - y) (b := invF p xe) (by omega) (by omega)
                  have hwy := i64_small (x := p - y) (by omega) (by omega)
                  have hwm := i64_small (x := (p - y) * invF p xe) (by omega) (by omega)
                  have hty : ((p - y) * invF p xe).tmod p = (p - y) * invF p xe % p := by rw [Int.tmod_eq_emod_of_nonneg hmy.1]
                  have hmb2 := emod_small ((p - y) * invF p xe) p (by omega)
                  go_wp2
                  refine wp_obs 26 [[], [], [], [], [], [3, 4], [3, 4, 5], [], [], [7, 8], [7, 8, 9], [], [], [], [12, 13], [12, 13, 14], [], [12, 13, 14, 15, 16], [12, 13, 14, 15, 16, 17], [11, 12, 13, 14, 15, 16, 17, 18], [], [11, 12, 13, 14, 15, 16, 17, 18, 19, 20], [], [11, 12, 13, 14, 15, 16, 17, 18, 19, 20, 21, 22], [2, 3, 4, 5, 6, 7, 8, 9, 10, 11, 12, 13, 14, 15, 16, 17, 18, 19, 20, 21, 22, 23], [0, 1], [0, 1, 2, 3, 4, 5, 6, 7, 8, 9, 10, 11, 12, 13, 14, 15, 16, 17, 18, 19, 20, 21, 22, 23, 24, 25]] [VIs (.slice (some ⟨g, 0, none⟩) n c1), VIs (.int .i64 (r)), VIs (.int .i64 (p)), VIs (.slice (some ⟨g, 0, none⟩) n c1), VIs (.int .i64 (r)), VIs (.pointer (some ⟨g, r, none⟩)), VIs (.slice (some ⟨gr, or', none⟩) n cr), VIs (.slice (some ⟨g, 0, none⟩) n c1), VIs (.int .i64 (i)), VIs (.pointer (some ⟨g, i, none⟩)), VIs (.slice (some ⟨gd, od, none⟩) n cd2), VIs (.int .i64 (p)), VIs (.slice (some ⟨g, 0, none⟩) n c1), VIs (.int .i64 (r)), VIs (.pointer (some ⟨g, r, none⟩)), VIs (.slice (some ⟨gr, or', none⟩) n cr), VIs (.int .i64 (i)), VIs (.pointer (some ⟨gr, or' + i, none⟩)), VIs (.int .i64 (y)), VIs (.int .i64 (p - y)), VIs (.int .i64 (invF p xe)), VIs (.int .i64 ((p - y) * invF p xe)), VIs (.int .i64 (p)), VIs (.int .i64 ((p - y) * invF p xe % p)), VSl wr n (plusL p (N.getD r []) (N.getD i []) ((p - y) * invF p xe % p)), VIs (.pointer (some ⟨g, r, none⟩))] (fun w' => w'.cell? ⟨g, r, none⟩ = some (.slice (some ⟨gr, or', none⟩) n cr) ∧ w'.cell? ⟨g, i, none⟩ = some (.slice (some ⟨gd, od, none⟩) n cd2) ∧ w'.cell? ⟨gr, or' + i, none⟩ = some (.int .i64 y) ∧ Below wr.heap.size wr w') (by kernel_rfl) (by kernel_rfl) (fun _ _ h hb => ⟨(hb.cell (World.block_lt_of_cell? _ _ h.1)).trans h.1, (hb.cell (World.block_lt_of_cell? _ _ h.2.1)).trans h.2.1, (hb.cell (World.block_lt_of_cell? _ _ h.2.2.1)).trans h.2.2.1, h.2.2.2.trans (hb.mono h.2.2.2.size)⟩) (⟨hcr, hcd2, hcy, (Below.refl _ _).drew⟩) (fun x => ?_)
                  refine obs_step (Eq.trans (by simp only [zA, zC]; exact rfl) rfl) rfl (fun w' hS hV K hK => ?_) ?_
                  · have q0 := hS.1; have q1 := hS.2.1; have q2 := hS.2.2.1
                    go_simp
                    exact hK.out _ _ _ rfl rfl rfl (Below.refl _ _)
                  simp only [zD, zE, zF]
                  refine obs_step (Eq.trans (by simp only [zA, zB, zC]; exact rfl) rfl) rfl (fun w' hS hV K hK => ?_) ?_
                  · have q0 := hS.1; have q1 := hS.2.1; have q2 := hS.2.2.1
                    go_simp
                    exact hK.out _ _ _ rfl rfl rfl (Below.refl _ _)
                  simp only [zD, zE, zF]
                  refine obs_step (Eq.trans (by simp only [zA, zB, zC]; exact rfl) rfl) rfl (fun w' hS hV K hK => ?_) ?_
                  · have q0 := hS.1; have q1 := hS.2.1; have q2 := hS.2.2.1
                    go_simp
                    exact hK.out _ _ _ rfl rfl rfl (Below.refl _ _)
                  simp only [zD, zE, zF]
                  refine obs_step (Eq.trans (by simp only [zA, zB, zC]; exact rfl) rfl) rfl (fun w' hS hV K hK => ?_) ?_
                  · have q0 := hS.1; have q1 := hS.2.1; have q2 := hS.2.2.1
                    go_simp
                    exact hK.out _ _ _ rfl rfl rfl (Below.refl _ _)
                  simp only [zD, zE, zF]
                  refine obs_step (Eq.trans (by simp only [zA, zB, zC]; exact rfl) rfl) rfl (fun w' hS hV K hK => ?_) ?_
                  · have q0 := hS.1; have q1 := hS.2.1; have q2 := hS.2.2.1
                    go_simp
                    exact hK.out _ _ _ rfl rfl rfl (Below.refl _ _)
                  simp only [zD, zE, zF]
                  refine obs_step (Eq.trans (by simp only [zA, zB, zC]; exact rfl) rfl) rfl (fun w' hS hV K hK => ?_) ?_
                  · have e3 : x 3 = (.slice (some ⟨g, 0, none⟩) n c1) := hV 3 (by decide)
                    have e4 : x 4 = (.int .i64 (r)) := hV 4 (by decide)
                    have q0 := hS.1; have q1 := hS.2.1; have q2 := hS.2.2.1
                    go_simp
                    exact hK.out _ _ _ rfl rfl rfl (Below.refl _ _)
                  simp only [zD, zE, zF]
                  refine obs_step (Eq.trans (by simp only [zA, zB, zC]; exact rfl) rfl) rfl (fun w' hS hV K hK => ?_) ?_
                  · have e5 : x 5 = (.pointer (some ⟨g, r, none⟩)) := hV 5 (by decide)
                    have q0 := hS.1; have q1 := hS.2.1; have q2 := hS.2.2.1
                    go_simp
                    exact hK.out _ _ _ rfl rfl rfl (Below.refl _ _)
                  simp only [zD, zE, zF]
                  refine obs_step (Eq.trans (by simp only [zA, zB, zC]; exact rfl) rfl) rfl (fun w' hS hV K hK => ?_) ?_
                  · have q0 := hS.1; have q1 := hS.2.1; have q2 := hS.2.2.1
                    go_simp
                    exact hK.out _ _ _ rfl rfl rfl (Below.refl _ _)
                  simp only [zD, zE, zF]
                  refine obs_step (Eq.trans (by simp only [zA, zB, zC]; exact rfl) rfl) rfl (fun w' hS hV K hK => ?_) ?_
                  · have q0 := hS.1; have q1 := hS.2.1; have q2 := hS.2.2.1
                    go_simp
                    exact hK.out _ _ _ rfl rfl rfl (Below.refl _ _)
                  simp only [zD, zE, zF]
                  refine obs_step (Eq.trans (by simp only [zA, zB, zC]; exact rfl) rfl) rfl (fun w' hS hV K hK => ?_) ?_
                  · have e7 : x 7 = (.slice (some ⟨g, 0, none⟩) n c1) := hV 7 (by decide)
                    have e8 : x 8 = (.int .i64 (i)) := hV 8 (by decide)
                    have q0 := hS.1; have q1 := hS.2.1; have q2 := hS.2.2.1
                    go_simp
                    exact hK.out _ _ _ rfl rfl rfl (Below.refl _ _)
                  simp only [zD, zE, zF]
                  refine obs_step (Eq.trans (by simp only [zA, zB, zC]; exact rfl) rfl) rfl (fun w' hS hV K hK => ?_) ?_
                  · have e9 : x 9 = (.pointer (some ⟨g, i, none⟩)) := hV 9 (by decide)
                    have q0 := hS.1; have q1 := hS.2.1; have q2 := hS.2.2.1
                    go_simp
                    exact hK.out _ _ _ rfl rfl rfl (Below.refl _ _)
                  simp only [zD, zE, zF]
                  refine obs_step (Eq.trans (by simp only [zA, zB, zC]; exact rfl) rfl) rfl (fun w' hS hV K hK => ?_) ?_
                  · have q0 := hS.1; have q1 := hS.2.1; have q2 := hS.2.2.1
                    go_simp
                    exact hK.out _ _ _ rfl rfl rfl (Below.refl _ _)
                  simp only [zD, zE, zF]
                  refine obs_step (Eq.trans (by simp only [zA, zB, zC]; exact rfl) rfl) rfl (fun w' hS hV K hK => ?_) ?_
                  · have q0 := hS.1; have q1 := hS.2.1; have q2 := hS.2.2.1
                    go_simp
                    exact hK.out _ _ _ rfl rfl rfl (Below.refl _ _)
                  simp only [zD, zE, zF]
                  refine obs_step (Eq.trans (by simp only [zA, zB, zC]; exact rfl) rfl) rfl (fun w' hS hV K hK => ?_) ?_
                  · have q0 := hS.1; have q1 := hS.2.1; have q2 := hS.2.2.1
                    go_simp
                    exact hK.out _ _ _ rfl rfl rfl (Below.refl _ _)
                  simp only [zD, zE, zF]
                  refine obs_step (Eq.trans (by simp only [zA, zB, zC]; exact rfl) rfl) rfl (fun w' hS hV K hK => ?_) ?_
                  · have e12 : x 12 = (.slice (some ⟨g, 0, none⟩) n c1) := hV 12 (by decide)
                    have e13 : x 13 = (.int .i64 (r)) := hV 13 (by decide)
                    have q0 := hS.1; have q1 := hS.2.1; have q2 := hS.2.2.1
                    go_simp
                    exact hK.out _ _ _ rfl rfl rfl (Below.refl _ _)
                  simp only [zD, zE, zF]
                  refine obs_step (Eq.trans (by simp only [zA, zB, zC]; exact rfl) rfl) rfl (fun w' hS hV K hK => ?_) ?_
                  · have e14 : x 14 = (.pointer (some ⟨g, r, none⟩)) := hV 14 (by decide)
                    have q0 := hS.1; have q1 := hS.2.1; have q2 := hS.2.2.1
                    go_simp
                    exact hK.out _ _ _ rfl rfl rfl (Below.refl _ _)
                  simp only [zD, zE, zF]
                  refine obs_step (Eq.trans (by simp only [zA, zB, zC]; exact rfl) rfl) rfl (fun w' hS hV K hK => ?_) ?_
                  · have q0 := hS.1; have q1 := hS.2.1; have q2 := hS.2.2.1
                    go_simp
                    exact hK.out _ _ _ rfl rfl rfl (Below.refl _ _)
                  simp only [zD, zE, zF]
                  refine obs_step (Eq.trans (by simp only [zA, zB, zC]; exact rfl) rfl) rfl (fun w' hS hV K hK => ?_) ?_
                  · have e15 : x 15 = (.slice (some ⟨gr, or', none⟩) n cr) := hV 15 (by decide)
                    have e16 : x 16 = (.int .i64 (i)) := hV 16 (by decide)
                    have q0 := hS.1; have q1 := hS.2.1; have q2 := hS.2.2.1
                    go_simp
                    exact hK.out _ _ _ rfl rfl rfl (Below.refl _ _)
                  simp only [zD, zE, zF]
                  refine obs_step (Eq.trans (by simp only [zA, zB, zC]; exact rfl) rfl) rfl (fun w' hS hV K hK => ?_) ?_
                  · have e17 : x 17 = (.pointer (some ⟨gr, or' + i, none⟩)) := hV 17 (by decide)
                    have q0 := hS.1; have q1 := hS.2.1; have q2 := hS.2.2.1
                    go_simp
                    exact hK.out _ _ _ rfl rfl rfl (Below.refl _ _)
                  simp only [zD, zE, zF]
                  refine obs_step (Eq.trans (by simp only [zA, zB, zC]; exact rfl) rfl) rfl (fun w' hS hV K hK => ?_) ?_
                  · have e11 : x 11 = (.int .i64 (p)) := hV 11 (by decide)
                    have e18 : x 18 = (.int .i64 (y)) := hV 18 (by decide)
                    have q0 := hS.1; have q1 := hS.2.1; have q2 := hS.2.2.1
                    go_simp
                    exact hK.out _ _ _ rfl rfl rfl (Below.refl _ _)
                  simp only [zD, zE, zF]
                  refine obs_step (Eq.trans (by simp only [zA, zB, zC]; exact rfl) rfl) rfl (fun w' hS hV K hK => ?_) ?_
                  · have q0 := hS.1; have q1 := hS.2.1; have q2 := hS.2.2.1
                    go_simp
                    exact hK.out _ _ _ rfl rfl rfl (Below.refl _ _)
                  simp only [zD, zE, zF]
                  refine obs_step (Eq.trans (by simp only [zA, zB, zC]; exact rfl) rfl) rfl (fun w' hS hV K hK => ?_) ?_
                  · have e19 : x 19 = (.int .i64 (p - y)) := hV 19 (by decide)
                    have e20 : x 20 = (.int .i64 (invF p xe)) := hV 20 (by decide)
                    have q0 := hS.1; have q1 := hS.2.1; have q2 := hS.2.2.1
                    go_simp
                    exact hK.out _ _ _ rfl rfl rfl (Below.refl _ _)
                  simp only [zD, zE, zF]
                  refine obs_step (Eq.trans (by simp only [zA, zB, zC]; exact rfl) rfl) rfl (fun w' hS hV K hK => ?_) ?_
                  · have q0 := hS.1; have q1 := hS.2.1; have q2 := hS.2.2.1
                    go_simp
                    exact hK.out _ _ _ rfl rfl rfl (Below.refl _ _)
                  simp only [zD, zE, zF]
                  refine obs_step (Eq.trans (by simp only [zA, zB, zC]; exact rfl) rfl) rfl (fun w' hS hV K hK => ?_) ?_
                  · have e21 : x 21 = (.int .i64 ((p - y) * invF p xe)) := hV 21 (by decide)
                    have e22 : x 22 = (.int .i64 (p)) := hV 22 (by decide)
                    have q0 := hS.1; have q1 := hS.2.1; have q2 := hS.2.2.1
                    go_simp
                    exact hK.out _ _ _ rfl rfl rfl (Below.refl _ _)
                  simp only [zD, zE, zF]
                  refine obs_step (Eq.trans (by simp only [zA, zB, zC]; exact rfl) rfl) rfl (fun w' hS hV K hK => ?_) ?_
                  · have e2 : x 2 = (.int .i64 (p)) := hV 2 (by decide)
                    have e6 : x 6 = (.slice (some ⟨gr, or', none⟩) n cr) := hV 6 (by decide)
                    have e10 : x 10 = (.slice (some ⟨gd, od, none⟩) n cd2) := hV 10 (by decide)
                    have e23 : x 23 = (.int .i64 ((p - y) * invF p xe % p)) := hV 23 (by decide)
                    have q0 := hS.1; have q1 := hS.2.1; have q2 := hS.2.2.1
                    go_simp
                    refine (l02Plus_any p _ n _ _ n _ ((p - y) * invF p xe % p) _ _ _ hp hp2 hn (Nat.le_refl _) (HRR.out.rd.below hS.2.2.2) HR1.out.2 (HRD.out.rd.below hS.2.2.2) HD1.out.2 (by omega) (by omega)).mono ?_
                    rintro e v1 ⟨A2, c2, rfl, hM⟩
                    exact hK.out _ _ _ rfl rfl ⟨_, _, rfl, hM.after hS.2.2.2⟩ hM.b
                  simp only [zD, zE, zF]
                  refine obs_step (Eq.trans (by simp only [zA, zB, zC]; exact rfl) rfl) rfl (fun w' hS hV K hK => ?_) ?_
                  · have e0 : x 0 = (.slice (some ⟨g, 0, none⟩) n c1) := hV 0 (by decide)
                    have e1 : x 1 = (.int .i64 (r)) := hV 1 (by decide)
                    have q0 := hS.1; have q1 := hS.2.1; have q2 := hS.2.2.1
                    go_simp
                    exact hK.out _ _ _ rfl rfl rfl (Below.refl _ _)
                  simp only [zD, zE, zF]
                  refine fun w' hS hV => ?_
                  have e0 : x 0 = (.slice (some ⟨g, 0, none⟩) n c1) := hV 0 (by decide)
                  have e1 : x 1 = (.int .i64 (r)) := hV 1 (by decide)
                  have e2 : x 2 = (.int .i64 (p)) := hV 2 (by decide)
                  have e3 : x 3 = (.slice (some ⟨g, 0, none⟩) n c1) := hV 3 (by decide)
                  have e4 : x 4 = (.int .i64 (r)) := hV 4 (by decide)
                  have e5 : x 5 = (.pointer (some ⟨g, r, none⟩)) := hV 5 (by decide)
                  have e6 : x 6 = (.slice (some ⟨gr, or', none⟩) n cr) := hV 6 (by decide)
                  have e7 : x 7 = (.slice (some ⟨g, 0, none⟩) n c1) := hV 7 (by decide)
                  have e8 : x 8 = (.int .i64 (i)) := hV 8 (by decide)
                  have e9 : x 9 = (.pointer (some ⟨g, i, none⟩)) := hV 9 (by decide)
                  have e10 : x 10 = (.slice (some ⟨gd, od, none⟩) n cd2) := hV 10 (by decide)
                  have e11 : x 11 = (.int .i64 (p)) := hV 11 (by decide)
                  have e12 : x 12 = (.slice (some ⟨g, 0, none⟩) n c1) := hV 12 (by decide)
                  have e13 : x 13 = (.int .i64 (r)) := hV 13 (by decide)
                  have e14 : x 14 = (.pointer (some ⟨g, r, none⟩)) := hV 14 (by decide)
                  have e15 : x 15 = (.slice (some ⟨gr, or', none⟩) n cr) := hV 15 (by decide)
                  have e16 : x 16 = (.int .i64 (i)) := hV 16 (by decide)
                  have e17 : x 17 = (.pointer (some ⟨gr, or' + i, none⟩)) := hV 17 (by decide)
                  have e18 : x 18 = (.int .i64 (y)) := hV 18 (by decide)
                  have e19 : x 19 = (.int .i64 (p - y)) := hV 19 (by decide)
                  have e20 : x 20 = (.int .i64 (invF p xe)) := hV 20 (by decide)
                  have e21 : x 21 = (.int .i64 ((p - y) * invF p xe)) := hV 21 (by decide)
                  have e22 : x 22 = (.int .i64 (p)) := hV 22 (by decide)
                  have e23 : x 23 = (.int .i64 ((p - y) * invF p xe % p)) := hV 23 (by decide)
                  obtain ⟨A24, c24, e24, h24⟩ := hV 24 (by decide)
                  have e25 : x 25 = (.pointer (some ⟨g, r, none⟩)) := hV 25 (by decide)
                  simp only [e0, e1, e2, e3, e4, e5, e6, e7, e8, e9, e10, e11, e12, e13, e14, e15, e16, e17, e18, e19, e20, e21, e22, e23, e24, e25]
                  clear e0 e1 e2 e3 e4 e5 e6 e7 e8 e9 e10 e11 e12 e13 e14 e15 e16 e17 e18 e19 e20 e21 e22 e23 e24 e25
                  have hbn := hS.2.2.2
                  have q0 := hS.1
                  have ff := (HM4.out.below hbn).frozen_ r
                  refine any_one (j := 26) (by kernel_rfl) (Eq.trans (by simp only [zA, zB, zC]; exact rfl) rfl) (fun K hK => ?_)
                  go_simp
                  refine hK.out _ _ (wpAny_done (by kernel_rfl) ?_ _)
                  have hM5 := HM4.out.setRow h24 r
                  have hM6 : MkII w (w'.setCell ⟨g, r, none⟩ (.slice A24 n c24)) (some ⟨g, 0, none⟩) n c1 (dClr p N i (r + 1)) := by
                    rw [dClr_succ (by rw [HTS.out.2]; exact hlr) (by omega), HDR.out, plusL_mod p _ _ (k' := (p - y) * invF p xe % p) (by rw [Int.emod_emod_of_dvd _ (Int.dvd_refl _), Int.sub_mul, Int.neg_mul]; exact (mod_less p y (invF p xe)).symm)]
                    exact hM5
                  clear q0 ff hM5 h24 hbn hS hV
                  go_wp2
                  go_roundw
                  case rel => exact ⟨r + 1, by omega, by omega, by go_num, hM6⟩
                  case measure => simp [intOf]; omega
                · obtain rfl : r = n := by omega
                  have HM4 := Lib.hid hM4
                  clear hM4
                  go_wp2
                  go_roundw
                  case rel => exact ⟨i + 1, o2 * xe % p, dClr p N i r, rfl, by go_num, by omega, HOX.out, HNXT, Lib.hid ⟨dClr_tab (by omega) HTS.out.1 _ _, by rw [dClr_len, HTS.out.2]⟩, HM4.out⟩
                  case measure => simp [intOf]; omega
          · have hx0' : xe = 0 := by simpa using hz
            go_wp2
            go_round
            case rel => exact ⟨j + 1, by omega, by omega, by go_num, Lib.hid (by rw [← hj3.out, HPV.out, if_pos (by rw [HE.out]; exact hx0')])⟩
            case measure => simp [intOf]; omega
        · obtain rfl : j = n := by omega
          have HVP : Hid (pivOf L i i = j) := Lib.hid (by rw [← hj3.out, Nat.sub_self]; rfl)
          have HZ : Hid (detL p M = 0) := Lib.hid (by rw [HD.out, HSUC.out, detF_none (by rw [HVP.out, HT1.out.2])])
          go_wp2
          go_ret
          rw [HZ.out]
          exact ⟨rfl, HBB.out⟩
    · obtain rfl : i = n := by omega
      have HZ : Hid (detL p M = out) := Lib.hid (by rw [HD.out, Nat.sub_self]; rfl)
      go_wp2
      go_ret
      rw [HZ.out]
      exact ⟨rfl, HBB.out⟩
end Go.Proofs.YtdbibmilicjllaaGreat

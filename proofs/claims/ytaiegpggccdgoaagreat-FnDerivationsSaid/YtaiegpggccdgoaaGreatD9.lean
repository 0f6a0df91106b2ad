/-
  LawFnDerivations: part 9 of the texts that the proof needs. No condition.
-/
import Derived.Test.YtaiegpggccdgoaaGreatD8
namespace Go.Proofs.YtaiegpggccdgoaaGreat
open Go Go.RowKit
theorem weak_ofJ {m : Nat} {Rel : Nat → World → World → Prop} {R C : List (List Nat)} {V : (Nat → Value) → List VP} (Wk : List Nat)
    (hchk : ((List.range m).all fun i => (C.getD i []).isEmpty || (List.range m).all fun k => k == i || (R.getD k []).contains i || (C.getD i []).contains k || Wk.contains k) = true)
    (hW : ∀ k ∈ Wk, ∀ i x v w w', ((V x).getD k VAny).p v w → Rel i w w' → ((V x).getD k VAny).p v w') :
    ∀ i, i < m → (C.getD i []).isEmpty = false → ∀ k, k < m → k ≠ i → i ∉ R.getD k [] → k ∉ C.getD i [] → ∀ x v w w', ((V x).getD k VAny).p v w → Rel i w w' → ((V x).getD k VAny).p v w' := fun i hi he k hk hne hR hC x v w w' hp hrel =>
 weak_ofR (Rel := Rel i) Wk hchk (fun k hk x v w w' hp hr => hW k hk i x v w w' hp hr) i hi he k hk hne hR hC x v w w' hp hrel
/-- A row made since then has grown. -/
def GrB (B : Nat) (w w' : World) : Prop := ∃ (A : Option Addr) (n c : Nat) (us : List Value), Own w B 2 A n c us ∧ w.grownBy w' (Value.slice A n c).ownBlock
/-- Operation i6 draws, operation i9 appends. -/
def RelJ (g B i6 i9 : Nat) (j : Nat) (w w' : World) : Prop := (j = i6 ∧ Dr g 124 w w') ∨ (j = i9 ∧ GrB B w w')
/-- The boxes, and, until the append, the list. -/
def SJ (g : Nat) (w : World) (box : Nat) (P : Int) (A : Option Addr) (n c : Nat) (xs : List Int) (b : Bool) (w' : World) : Prop :=
 Blk w' w.heap.size 26 #[.int .i64 0, .slice none 0 0] ∧ Blk w' box 26 #[.int .i64 P, .slice A n c] ∧ Dr g 124 w w' ∧ (b = false → Own w' w.heap.size 2 A n c (ints xs))
theorem SJ.step {g : Nat} {w : World} {box : Nat} {P : Int} {A : Option Addr} {n c : Nat} {xs : List Int} {i6 i9 : Nat} {C : List (List Nat)} (hne : i6 ≠ i9) (j : Nat) (b : Bool) (w1 w2 : World) (h : SJ g w box P A n c xs b w1) (hb : StepR C (RelJ g w.heap.size i6 i9 j) j w1 w2) : SJ g w box P A n c xs (b || j == i9) w2 := by
 obtain ⟨h1, h2, h3, h4⟩ := h
 refine hb.either (fun hb => ⟨h1.below hb h1.lt, h2.below hb h2.lt, h3.then hb, fun e => ?_⟩) (fun hr => ?_)
 · rw [Bool.or_eq_false_iff] at e
   exact (h4 e.1).below hb
 · rcases hr with ⟨rfl, hd⟩ | ⟨rfl, A', n', c', us, ho, hg⟩
   · refine ⟨h1.dr hd (by decide), h2.dr hd (by decide), h3.trans hd, fun e => ?_⟩
     rw [Bool.or_eq_false_iff] at e
     exact (h4 e.1).dr hd (by decide)
   · refine ⟨h1.grown hg (ho.ne_blk h1 (by decide)), h2.grown hg (ho.ne_blk h2 (by decide)), h3.grown ho hg, fun e => ?_⟩
     simp at e
/-- The value is the list with one number more. -/
def VAp (B n : Nat) (xs : List Int) : VP := ⟨fun v w => ∃ A c r, v = .slice A (n + 1) c ∧ Own w B 2 A (n + 1) c (ints (xs ++ [r])), fun _ _ _ ⟨A, c, r, e, h⟩ hb => ⟨A, c, r, e, h.below hb⟩⟩
/-- The value is a block with one number. -/
def VNb : VP := ⟨fun v w => ∃ g r, v = .slice (some ⟨g, 0, none⟩) 1 1 ∧ Blk w g 2 #[.int .i64 r], fun _ _ _ ⟨g, r, e, h⟩ hb => ⟨g, r, e, h.below hb h.lt⟩⟩
theorem dbl_back {w wr : World} {g b : Nat} {T : TypeId} {P : Int} {A : Option Addr} {n c : Nat} {xs : List Int} {cs : Array Value} (k : Blk wr b 26 cs) (hb : w.heap.size ≤ b) (hO : Own wr w.heap.size 2 A n c (ints xs)) (hd : Dr g T w wr) :
    Own ((wr.setCell ⟨b, 0, none⟩ (.int .i64 P)).setCell ⟨b, 1, none⟩ (.slice A n c)) w.heap.size 2 A n c (ints xs) ∧ Dr g T w ((wr.setCell ⟨b, 0, none⟩ (.int .i64 P)).setCell ⟨b, 1, none⟩ (.slice A n c)) :=
 ⟨(hO.far k (by decide) 0 _).far (k.set_ 0 (.int .i64 P)) (by decide) 1 _, (hd.setNew hb 0 _).setNew hb 1 _⟩
set_option maxHeartbeats 6400000 in
set_option maxRecDepth 8000 in
theorem l11Draw_any (g : Nat) (most : Int) (w : World) (hs : Src w g 124) (hm1 : 0 ≤ most) (hm2 : most ≤ 100) :
    Calls Tryz.prog 105 #[.pointer (some ⟨g, 0, none⟩), .int .i64 most] w fun e w' => ∃ (P : Int) (A : Option Addr) (n c : Nat) (xs : List Int), e = .returned (.agg #[.int .i64 P, .slice A n c]) ∧ 3 ≤ P ∧ P ≤ 13 ∧ n ≤ 4 ∧ Own w' w.heap.size 2 A n c (ints xs) ∧ Dr g 124 w w' := by
 have hd1 := ((Dr.refl hs).alloc (.cells #[.int .i64 0, .slice none 0 0] 26)).alloc (.cells #[.int .i64 3, .int .i64 5, .int .i64 7, .int .i64 11, .int .i64 13] 2)
 have k1 : Blk ((w.alloc (.cells #[.int .i64 0, .slice none 0 0] 26)).alloc (.cells #[.int .i64 3, .int .i64 5, .int .i64 7, .int .i64 11, .int .i64 13] 2)) w.heap.size 26 #[.int .i64 0, .slice none 0 0] := (Blk.new _ _ _).alloc _
 have hpk := pick_any g (w.alloc (.cells #[.int .i64 0, .slice none 0 0] 26)).heap.size [3, 5, 7, 11, 13] _ hd1.s' (Blk.new _ 2 _) (by decide) (by decide)
 have e1 : (w.alloc (.cells #[.int .i64 0, .slice none 0 0] 26)).heap.size = w.heap.size + 1 := by simp
 have hsz1 : ((w.alloc (.cells #[.int .i64 0, .slice none 0 0] 26)).alloc (.cells #[.int .i64 3, .int .i64 5, .int .i64 7, .int .i64 11, .int .i64 13] 2)).heap.size = w.heap.size + 2 := by simp
 rw [e1] at hpk
 go_enter Tryz.func105, Tryz.ntmps105
 go_wp2_with fail
 refine hpk.mono ?_
 rintro e w2 ⟨p, hpm, rfl, hd2⟩
 have hp1 : 3 ≤ p ∧ p ≤ 13 := by simp at hpm; omega
 have hd2' := hd1.trans hd2
 have k2 := k1.dr hd2 (by decide)
 have hs2 := hd2.size
 have hd3 := (hd2'.alloc (.cells #[.int .i64 p, .slice none 0 0] 26)).alloc (.cells #[.int .i64 0, .int .i64 1, .int .i64 2, .int .i64 2, .int .i64 3, .int .i64 3, .int .i64 3, .int .i64 4] 2)
 have k3 := (k2.alloc (.cells #[.int .i64 p, .slice none 0 0] 26)).alloc (.cells #[.int .i64 0, .int .i64 1, .int .i64 2, .int .i64 2, .int .i64 3, .int .i64 3, .int .i64 3, .int .i64 4] 2)
 have kb3 := (Blk.new w2 26 #[.int .i64 p, .slice none 0 0]).alloc (.cells #[.int .i64 0, .int .i64 1, .int .i64 2, .int .i64 2, .int .i64 3, .int .i64 3, .int .i64 3, .int .i64 4] 2)
 have hpk2 := pick_any g (w2.heap.size + 1) [0, 1, 2, 2, 3, 3, 3, 4] _ hd3.s' (Blk.newAt3 (w := w2.alloc (.cells #[.int .i64 p, .slice none 0 0] 26)) (g := w2.heap.size + 1) (by simp)) (by decide) (by decide)
 have hlt2 : w.heap.size < w2.heap.size := by omega
 clear hpk hd1 k1 hd2 hd2' k2 e1 hsz1 hs2 hpm
 go_wp2_with fail
 refine hpk2.mono ?_
 rintro e w3 ⟨r, hrm, rfl, hd4⟩
 have hr1 : 0 ≤ r ∧ r ≤ 4 := by simp at hrm; omega
 have hd5 := hd3.trans hd4
 have k5 := k3.dr hd4 (by decide)
 have kb5 := kb3.dr hd4 (by decide)
 obtain ⟨N, hN⟩ : ∃ N : Nat, min most r = (N : Int) := ⟨(min most r).toNat, by omega⟩
 have hN4 : N ≤ 4 := by omega
 have hnx2 := fun w' (h : Src w' g 124) => next_any g 2 w' h (by omega)
 have WP : wrap64 (p - 1) = p - 1 := by unfold wrap64; omega
 clear hpk2 hd3 k3 kb3 hd4 hrm
 have hq : (most ≤ r ∧ most = (N : Int)) ∨ (¬ most ≤ r ∧ r = (N : Int)) := by omega
 clear hN
 rcases hq with ⟨hmr, rfl⟩ | ⟨hmr, rfl⟩
 all_goals
  go_wp2
  go_loopw [6] (fun q wr => ∃ (j m : Nat) (A : Option Addr) (c : Nat) (xs : List Int), j + m = N ∧ q = .int .i64 m ∧ Blk wr w.heap.size 26 #[.int .i64 0, .slice none 0 0] ∧ Blk wr w2.heap.size 26 #[.int .i64 p, .slice A j c] ∧ Own wr w.heap.size 2 A j c (ints xs) ∧ Dr g 124 w wr) (fun q _ => (intOf q).toNat)
  case atStart => exact ⟨0, N, none, 0, [], by omega, rfl, k5, kb5, World.ownsRow_nil _ _ _ _, hd5⟩
  case round =>
   obtain ⟨j, m, A, c, xs, hjm, rfl, k4, k6, hO, hd⟩ := hrel
   clear k5 kb5 hd5
   cases m with
   | zero =>
    have hjN : j = N := by omega
    subst hjN
    obtain ⟨q0, q1⟩ := k6.two
    obtain ⟨p0, p1⟩ := k4.two
    have f0 := k4.frozen 0
    have f1 := k4.frozen 1
    go_wp2
    first | exact bodyPost_ret (v := .agg #[.int .i64 p, .slice A j c]) (by simp [results, Tryz.results105, go_sem, p0, p1]) rfl ⟨p, A, j, c, xs, rfl, hp1.1, hp1.2, by omega, (dbl_back k4 (Nat.le_refl _) hO hd).1, (dbl_back k4 (Nat.le_refl _) hO hd).2⟩ | exact bodyPost_ret (v := .agg #[.int .i64 p, .slice A j c]) (by simp [results, Tryz.results105, go_sem, p0, p1]) rfl ⟨p, A, j, c, rfl, hp1.1, hp1.2, by omega, ⟨xs, (dbl_back k4 (Nat.le_refl _) hO hd).1⟩, (dbl_back k4 (Nat.le_refl _) hO hd).2⟩
   | succ m =>
    have d1 : decide (0 < ((m + 1 : Nat) : Int)) = true := by rw [decide_eq_true_eq]; omega
    have WM : wrap64 (((m + 1 : Nat) : Int) - 1) = (m : Int) := by unfold wrap64; omega
    have HO0 := Lib.hid hO
    clear hO
    go_wp2_with fail
    refine (hnx2 _ hd.s').mono ?_
    rintro e wA ⟨ra, rfl, ra1, ra2, hdA⟩
    have HO := Lib.hid (HO0.out.dr hdA (by decide))
    have HD := Lib.hid (hd.trans hdA)
    have k4C := k4.dr hdA (by decide)
    have k6C := k6.dr hdA (by decide)
    obtain ⟨q0, q1⟩ := k6C.two
    clear hd hdA k4 k6 HO0
    by_cases hra : ra = 0
    · have er : (ra == 0) = true := by simp [hra]
      clear hnx2
      go_wp2_with (at_builtin; refine wpList_app1 (cutW wA w.heap.size) wA 24 2 _ _ Tryz.underlying24 info_i rfl (by omega) rfl _ _ rfl A j c _ _ (HO.out.mk_ HD.out.size) (by omega) rfl rfl rfl ?_; intro A8 c8 w8 hM8 hg8 _
                   have k4a := k4C.grown hg8 (HO.out.ne_blk k4C (by decide))
                   have k6a := k6C.grown hg8 (HO.out.ne_blk k6C (by decide))
                   have hO3 := hM8.own_ (cutW_size HD.out.size)
                   have hd3 := HD.out.grown HO.out hg8
                   have f8 := k6a.frozen 1
                   have f9 := k6a.cell 1
                   simp only [zA, zC, zB] at f9)
      have k4b := k4a.far (p := ⟨w2.heap.size, 1, none⟩) (show w.heap.size ≠ w2.heap.size by omega) (.slice A8 (j + 1) c8)
      have k6b := k6a.set_ 1 (.slice A8 (j + 1) c8)
      have hO4 := hO3.far k6a (by decide) 1 (.slice A8 (j + 1) c8)
      have hd4 := hd3.setNew (b := w2.heap.size) (by omega) 1 (.slice A8 (j + 1) c8)
      simp only [zD, zE, zF] at k6b
      clear k4a k6a hO3 hd3 f8 f9 hM8 hg8 k4C k6C
      go_roundw
      case rel => exact ⟨j + 1, m, A8, c8, xs ++ [p - 1], by omega, by go_num, k4b, k6b, by simpa [ints] using hO4, hd4⟩
      case measure => simp [intOf]
    · have er : (ra == 0) = false := by simp [hra]
      have hO := HO.out
      have hd := HD.out
      have k4 := k4C
      have k6 := k6C
      clear HO HD k4C k6C hnx2
      go_wp2
      refine wp_obsJ 11 (RelJ g w.heap.size 6 9) [[], [0], [], [], [3], [3, 4], [2, 3, 4, 5], [2, 3, 4, 5, 6], [2, 3, 4, 5, 6, 7], [0, 1, 2, 3, 4, 5, 6, 7, 8], [], [0, 1, 2, 3, 4, 5, 6, 7, 8, 9, 10]] [[], [], [], [], [], [], [99], [], [], [8], []] (fun x => [VIs (.pointer (some ⟨w2.heap.size, 1, none⟩)), VIs (.slice A j c), VIs (.pointer (some ⟨g, 0, none⟩)), VIs (.pointer (some ⟨w2.heap.size, 0, none⟩)), VIs (.int .i64 (p)), VIs (.int .i64 (p - 1)), VNum, VNum, VNb, VAp w.heap.size j xs, VIs (.pointer (some ⟨w2.heap.size, 1, none⟩))]) 9 (SJ g w (w2.heap.size) p A j c xs) (by kernel_rfl) (by kernel_rfl) (fun x x' j hx => by
          rcases j with _ | _ | _ | _ | _ | _ | _ | _ | _ | _ | _ | j
          · rfl
          · rfl
          · rfl
          · rfl
          · rfl
          · rfl
          · rfl
          · rfl
          · rfl
          · rfl
          · rfl
          · rfl)
       (weak_ofJ [0, 1, 2, 3, 4, 5, 6, 7, 10] (by decide) (fun k hk i x v w w' hp hr => by
        simp only [List.mem_cons, zJ, or_false] at hk
        rcases hk with rfl | rfl | rfl | rfl | rfl | rfl | rfl | rfl | rfl
        · exact hp
        · exact hp
        · exact hp
        · exact hp
        · exact hp
        · exact hp
        · exact hp
        · exact hp
        · exact hp)) (SJ.step (by decide)) (⟨k4.drew, k6.drew, hd.then zG.drew, fun _ => hO.below zG.drew⟩) (fun x => ?_)
      refine obs_stepJ (Eq.trans (by simp only [zA, zC]; exact rfl) rfl) rfl (fun b w' hb0 hS hV K hK => ?_) ?_
      · obtain ⟨s1, s2, s3, s4⟩ := hS; obtain ⟨q0, q1⟩ := s2.two; go_simp; exact hK.out _ _ _ rfl rfl rfl zG
      simp only [zD, zE, zF]
      refine obs_stepJ (Eq.trans (by simp only [zA, zB, zC]; exact rfl) rfl) rfl (fun b w' hb0 hS hV K hK => ?_) ?_
      · have e0 := zQ hV 0; obtain ⟨s1, s2, s3, s4⟩ := hS; obtain ⟨q0, q1⟩ := s2.two; go_simp; exact hK.out _ _ _ rfl rfl rfl zG
      simp only [zD, zE, zF]
      refine obs_stepJ (Eq.trans (by simp only [zA, zB, zC]; exact rfl) rfl) rfl (fun b w' hb0 hS hV K hK => ?_) ?_
      · obtain ⟨s1, s2, s3, s4⟩ := hS; obtain ⟨q0, q1⟩ := s2.two; go_simp; exact hK.out _ _ _ rfl rfl rfl zG
      simp only [zD, zE, zF]
      refine obs_stepJ (Eq.trans (by simp only [zA, zB, zC]; exact rfl) rfl) rfl (fun b w' hb0 hS hV K hK => ?_) ?_
      · obtain ⟨s1, s2, s3, s4⟩ := hS; obtain ⟨q0, q1⟩ := s2.two; go_simp; exact hK.out _ _ _ rfl rfl rfl zG
      simp only [zD, zE, zF]
      refine obs_stepJ (Eq.trans (by simp only [zA, zB, zC]; exact rfl) rfl) rfl (fun b w' hb0 hS hV K hK => ?_) ?_
      · have e3 := zQ hV 3; obtain ⟨s1, s2, s3, s4⟩ := hS; obtain ⟨q0, q1⟩ := s2.two; go_simp; exact hK.out _ _ _ rfl rfl rfl zG
      simp only [zD, zE, zF]
      refine obs_stepJ (Eq.trans (by simp only [zA, zB, zC]; exact rfl) rfl) rfl (fun b w' hb0 hS hV K hK => ?_) ?_
      · have e4 := zQ hV 4; obtain ⟨s1, s2, s3, s4⟩ := hS; obtain ⟨q0, q1⟩ := s2.two; go_simp; exact hK.out _ _ _ rfl rfl (by first | rfl | exact congrArg (Value.int .i64) WP | exact congrArg (Value.int .i64) (i64_fit _ (by omega) (by omega))) zG
      simp only [zD, zE, zF]
      refine obs_stepJ (Eq.trans (by simp only [zA, zB, zC]; exact rfl) rfl) rfl (fun b w' hb0 hS hV K hK => ?_) ?_
      · have e2 := zQ hV 2; have e5 := zQ hV 5; obtain ⟨s1, s2, s3, s4⟩ := hS; obtain ⟨q0, q1⟩ := s2.two; go_simp; refine (next_any g (p - 1) w' s3.s' (by omega)).mono ?_; rintro e v1 ⟨r1, rfl, _, _, hr⟩; exact hK.out _ _ _ rfl rfl ⟨_, rfl⟩ (.inl ⟨rfl, hr⟩)
      simp only [zD, zE, zF]
      refine obs_stepJ (Eq.trans (by simp only [zA, zB, zC]; exact rfl) rfl) rfl (fun b w' hb0 hS hV K hK => ?_) ?_
      · obtain ⟨rv6, e6⟩ := hV 6 (by decide); obtain ⟨s1, s2, s3, s4⟩ := hS; obtain ⟨q0, q1⟩ := s2.two; go_simp; exact hK.out _ _ _ rfl rfl ⟨_, rfl⟩ zG
      simp only [zD, zE, zF]
      refine obs_stepJ (Eq.trans (by simp only [zA, zB, zC]; exact rfl) rfl) rfl (fun b w' hb0 hS hV K hK => ?_) ?_
      · obtain ⟨rv6, e6⟩ := hV 6 (by decide); obtain ⟨rv7, e7⟩ := hV 7 (by decide); obtain ⟨s1, s2, s3, s4⟩ := hS; obtain ⟨q0, q1⟩ := s2.two; go_simp; exact hK.out _ _ _ rfl rfl ⟨_, _, rfl, Blk.new _ _ _⟩ (zG.alloc (Nat.le_refl _) _)
      simp only [zD, zE, zF]
      refine obs_stepJ (Eq.trans (by simp only [zA, zB, zC]; exact rfl) rfl) rfl (fun b w' hb0 hS hV K hK => ?_) ?_
      · have e1 := zQ hV 1; obtain ⟨rv6, e6⟩ := hV 6 (by decide); obtain ⟨rv7, e7⟩ := hV 7 (by decide); obtain ⟨G8, rw8, e8, b8⟩ := hV 8 (by decide); obtain ⟨s1, s2, s3, s4⟩ := hS; obtain ⟨q0, q1⟩ := s2.two; refine wp_app1 (cutW w' w.heap.size) w' 24 2 _ _ Tryz.underlying24 info_i rfl (by omega) _ _ rfl A j c _ _ ((s4 (hb0 rfl)).mk_ s3.size) (by omega) rfl G8 b8 e1 e8 ?_; intro A8 c8 w8 hM8 hg8; exact hK.out _ _ _ rfl rfl ⟨A8, c8, rw8, rfl, by have := hM8.own_ (cutW_size s3.size); simpa [ints] using this⟩ (.inr ⟨rfl, _, _, _, _, s4 (hb0 rfl), hg8⟩)
      simp only [zD, zE, zF]
      refine obs_stepJ (Eq.trans (by simp only [zA, zB, zC]; exact rfl) rfl) rfl (fun b w' hb0 hS hV K hK => ?_) ?_
      · obtain ⟨s1, s2, s3, s4⟩ := hS; obtain ⟨q0, q1⟩ := s2.two; go_simp; exact hK.out _ _ _ rfl rfl rfl zG
      simp only [zD, zE, zF]
      refine fun w' bb hS hV => ?_
      have e0 := zQ hV 0
      have e1 := zQ hV 1
      have e2 := zQ hV 2
      have e3 := zQ hV 3
      have e4 := zQ hV 4
      have e5 := zQ hV 5
      obtain ⟨rv6, e6⟩ := hV 6 (by decide)
      obtain ⟨rv7, e7⟩ := hV 7 (by decide)
      obtain ⟨A9, c9, rw9, e9, o9⟩ := hV 9 (by decide)
      have e10 := zQ hV 10
      simp only [e0, e1, e2, e3, e4, e5, e6, e7, e9, e10]
      clear e0 e1 e2 e3 e4 e5 e6 e7 e9 e10
      obtain ⟨k47, k67, hd7, -⟩ := hS
      have f8 := k67.frozen 1
      obtain ⟨t0, t1⟩ := k67.two
      refine any_one (j := 11) (by kernel_rfl) (Eq.trans (by simp only [zA, zB, zC]; exact rfl) rfl) (fun K hK => ?_)
      go_simp
      refine hK.out _ _ (wpAny_done (by kernel_rfl) ?_ _)
      have k4b := k47.far (p := ⟨w2.heap.size, 1, none⟩) (show w.heap.size ≠ w2.heap.size by omega) (.slice A9 (j + 1) c9)
      have k6b := k67.set_ 1 (.slice A9 (j + 1) c9)
      have hO4 := o9.far k67 (by decide) 1 (.slice A9 (j + 1) c9)
      have hd4 := hd7.setNew (b := w2.heap.size) (by omega) 1 (.slice A9 (j + 1) c9)
      simp only [zD, zE, zF] at k6b
      clear k47 k67 hd7 f8 t0 t1
      go_wp2
      go_roundw
      case rel => exact ⟨j + 1, m, A9, c9, xs ++ [rw9], by omega, by go_num, k4b, k6b, hO4, hd4⟩
      case measure => simp [intOf]
set_option maxHeartbeats 6400000 in
set_option maxRecDepth 8000 in
theorem l11DrawAny_any (g : Nat) (most : Int) (w : World) (hs : Src w g 124) (hm1 : 0 ≤ most) (hm2 : most ≤ 100) :
    Calls Tryz.prog 45 #[.pointer (some ⟨g, 0, none⟩), .int .i64 most] w fun e w' => ∃ (P : Int) (A : Option Addr) (n c : Nat) (xs : List Int), e = .returned (.agg #[.int .i64 P, .slice A n c]) ∧ 0 ≤ P ∧ P ≤ 17 ∧ n ≤ 5 ∧ Own w' w.heap.size 2 A n c (ints xs) ∧ Dr g 124 w w' := by
 have hd1 := (Dr.refl hs).alloc (.cells #[.int .i64 0, .slice none 0 0] 26)
 have k1 : Blk (w.alloc (.cells #[.int .i64 0, .slice none 0 0] 26)) w.heap.size 26 #[.int .i64 0, .slice none 0 0] := Blk.new _ _ _
 have hdr := l11Draw_any g most (w.alloc (.cells #[.int .i64 0, .slice none 0 0] 26)) hd1.s' hm1 hm2
 have hsw : (w.alloc (.cells #[.int .i64 0, .slice none 0 0] 26)).heap.size = w.heap.size + 1 := by simp
 go_enter Tryz.func45, Tryz.ntmps45
 go_wp2_with fail
 refine hdr.mono ?_
 rintro e w2 ⟨P, A, n, c, xs, rfl, hP1, hP2, hn2, hO, hd2⟩
 have hs2 := hd2.size
 have hlt2 : w.heap.size < w2.heap.size := by omega
 have hd3 := (hd1.trans hd2).alloc (.cells #[.int .i64 P, .slice A n c] 26)
 have k3 := (k1.dr hd2 (by decide)).alloc (.cells #[.int .i64 P, .slice A n c] 26)
 have kb3 : Blk (w2.alloc (.cells #[.int .i64 P, .slice A n c] 26)) w2.heap.size 26 #[.int .i64 P, .slice A n c] := Blk.new _ _ _
 have hO3 := (hO.base (B' := w.heap.size) (by omega)).below (zG.alloc (Nat.le_refl _) (.cells #[.int .i64 P, .slice A n c] 26))
 have hnx := next_any g 30 _ hd3.s' (by omega)
 clear hdr hd1 k1 hsw hd2 hs2 hO
 go_wp2_with fail
 refine hnx.mono ?_
 rintro e w3 ⟨r, rfl, hr1, hr2, hd4⟩
 have hd := hd3.trans hd4
 have k4 := k3.dr hd4 (by decide)
 have k6 := kb3.dr hd4 (by decide)
 have hO := hO3.dr hd4 (by decide)
 clear hnx hd3 k3 kb3 hO3 hd4
 by_cases h0 : r = 0
 · have e0 : (r == 0) = true := by simp [h0]
   obtain ⟨q0, q1⟩ := k6.two
   have hd6 := (Dr.refl hd.s').alloc (.cells #[.int .i64 2, .int .i64 9, .int .i64 17, .int .i64 0] 2)
   have hpk := pick_any g w3.heap.size [2, 9, 17, 0] _ hd6.s' (Blk.new w3 2 _) (by decide) (by decide)
   go_wp2_with fail
   refine hpk.mono ?_
   rintro e w4 ⟨P2, hP, rfl, hd7⟩
   have hP3 : 0 ≤ P2 ∧ P2 ≤ 17 := by simp at hP; omega
   have hd67 := hd6.trans hd7
   have k7 := k4.dr hd67 (by decide)
   have kb7 := k6.dr hd67 (by decide)
   have hO7 := hO.dr hd67 (by decide)
   have hd8 := hd.trans hd67
   have g0 := kb7.frozen 0
   have g1 := kb7.cell 0
   have g2 := kb7.cell 1
   simp only [zA, zC, zB] at g1 g2
   have k8 := k7.far (p := ⟨w2.heap.size, 0, none⟩) (show w.heap.size ≠ w2.heap.size by omega) (.int .i64 P2)
   have hO8 := hO7.far kb7 (by decide) 0 (.int .i64 P2)
   have hd9 := hd8.setNew (b := w2.heap.size) (by omega) 0 (.int .i64 P2)
   obtain ⟨p0, p1⟩ := k7.two
   have f0 := k7.frozen 0
   have f1 := k7.frozen 1
   clear hpk hd6 hd7 hd67 k4 k6 hO hd q0 q1 hP
   go_wp2
   obtain ⟨w5, hw5⟩ : ∃ W, W = w4.setCell ⟨w2.heap.size, 0, none⟩ (.int .i64 P2) := ⟨_, rfl⟩
   rw [← hw5] at k8 hO8 hd9 ⊢
   obtain ⟨p0, p1⟩ := k8.two
   first | exact bodyPost_ret (v := .agg #[.int .i64 P2, .slice A n c]) (by simp [results, Tryz.results45, go_sem, p0, p1]) rfl ⟨P2, A, n, c, xs, rfl, by omega, by omega, by omega, (dbl_back k8 (Nat.le_refl _) hO8 hd9).1, (dbl_back k8 (Nat.le_refl _) hO8 hd9).2⟩ | exact bodyPost_ret (v := .agg #[.int .i64 P2, .slice A n c]) (by simp [results, Tryz.results45, go_sem, p0, p1]) rfl ⟨P2, A, n, c, rfl, by omega, by omega, by omega, ⟨xs, (dbl_back k8 (Nat.le_refl _) hO8 hd9).1⟩, (dbl_back k8 (Nat.le_refl _) hO8 hd9).2⟩
 · have e0 : (r == 0) = false := by simp [h0]
   by_cases h1 : r = 1
   · have e1 : (r == 1) = true := by simp [h1]
     obtain ⟨q0, q1⟩ := k6.two
     go_wp2
     refine wp_obsJ 10 (RelJ g w.heap.size 6 8) [[], [0], [], [], [3], [3, 4], [2, 3, 4, 5], [2, 3, 4, 5, 6], [0, 1, 2, 3, 4, 5, 6, 7], [], [0, 1, 2, 3, 4, 5, 6, 7, 8, 9]] [[], [], [], [], [], [], [5], [], [5, 7], []] (fun x => [VIs (.pointer (some ⟨w2.heap.size, 1, none⟩)), VIs (.slice A n c), VIs (.pointer (some ⟨g, 0, none⟩)), VIs (.pointer (some ⟨w2.heap.size, 0, none⟩)), VIs (.int .i64 (P)), VBs 2 #[.int .i64 0, .int .i64 P], VNum, VNb, VAp w.heap.size n xs, VIs (.pointer (some ⟨w2.heap.size, 1, none⟩))]) 8 (SJ g w (w2.heap.size) P A n c xs) (by kernel_rfl) (by kernel_rfl) (fun x x' j hx => by
         rcases j with _ | _ | _ | _ | _ | _ | _ | _ | _ | _ | j
         · rfl
         · rfl
         · rfl
         · rfl
         · rfl
         · rfl
         · rfl
         · rfl
         · rfl
         · rfl
         · rfl)
      (weak_ofJ [0, 1, 2, 3, 4, 6, 9] (by decide) (fun k hk i x v w w' hp hr => by
       simp only [List.mem_cons, zJ, or_false] at hk
       rcases hk with rfl | rfl | rfl | rfl | rfl | rfl | rfl
       · exact hp
       · exact hp
       · exact hp
       · exact hp
       · exact hp
       · exact hp
       · exact hp)) (SJ.step (by decide)) (⟨k4.drew, k6.drew, hd.then zG.drew, fun _ => hO.below zG.drew⟩) (fun x => ?_)
     refine obs_stepJ (Eq.trans (by simp only [zA, zC]; exact rfl) rfl) rfl (fun b w' hb0 hS hV K hK => ?_) ?_
     · obtain ⟨s1, s2, s3, s4⟩ := hS; obtain ⟨q0, q1⟩ := s2.two; go_simp; exact hK.out _ _ _ rfl rfl rfl zG
     simp only [zD, zE, zF]
     refine obs_stepJ (Eq.trans (by simp only [zA, zB, zC]; exact rfl) rfl) rfl (fun b w' hb0 hS hV K hK => ?_) ?_
     · have e0 := zQ hV 0; obtain ⟨s1, s2, s3, s4⟩ := hS; obtain ⟨q0, q1⟩ := s2.two; go_simp; exact hK.out _ _ _ rfl rfl rfl zG
     simp only [zD, zE, zF]
     refine obs_stepJ (Eq.trans (by simp only [zA, zB, zC]; exact rfl) rfl) rfl (fun b w' hb0 hS hV K hK => ?_) ?_
     · obtain ⟨s1, s2, s3, s4⟩ := hS; obtain ⟨q0, q1⟩ := s2.two; go_simp; exact hK.out _ _ _ rfl rfl rfl zG
     simp only [zD, zE, zF]
     refine obs_stepJ (Eq.trans (by simp only [zA, zB, zC]; exact rfl) rfl) rfl (fun b w' hb0 hS hV K hK => ?_) ?_
     · obtain ⟨s1, s2, s3, s4⟩ := hS; obtain ⟨q0, q1⟩ := s2.two; go_simp; exact hK.out _ _ _ rfl rfl rfl zG
     simp only [zD, zE, zF]
     refine obs_stepJ (Eq.trans (by simp only [zA, zB, zC]; exact rfl) rfl) rfl (fun b w' hb0 hS hV K hK => ?_) ?_
     · have e3 := zQ hV 3; obtain ⟨s1, s2, s3, s4⟩ := hS; obtain ⟨q0, q1⟩ := s2.two; go_simp; exact hK.out _ _ _ rfl rfl rfl zG
     simp only [zD, zE, zF]
     refine obs_stepJ (Eq.trans (by simp only [zA, zB, zC]; exact rfl) rfl) rfl (fun b w' hb0 hS hV K hK => ?_) ?_
     · have e4 := zQ hV 4; obtain ⟨s1, s2, s3, s4⟩ := hS; obtain ⟨q0, q1⟩ := s2.two; go_simp; exact hK.out _ _ _ rfl rfl ⟨_, rfl, Blk.new _ _ _⟩ (zG.alloc (Nat.le_refl _) _)
     simp only [zD, zE, zF]
     refine obs_stepJ (Eq.trans (by simp only [zA, zB, zC]; exact rfl) rfl) rfl (fun b w' hb0 hS hV K hK => ?_) ?_
     · have e2 := zQ hV 2; obtain ⟨G5, e5, b5⟩ := hV 5 (by decide); obtain ⟨s1, s2, s3, s4⟩ := hS; obtain ⟨q0, q1⟩ := s2.two; go_simp; refine (pick_any g G5 [0, P] _ s3.s' (by rw [ints2]; exact b5) (by simp) (by simp)).mono ?_; rintro e v1 ⟨r1, _, rfl, hr⟩; exact hK.out _ _ _ rfl rfl ⟨_, rfl⟩ (.inl ⟨rfl, hr⟩)
     simp only [zD, zE, zF]
     refine obs_stepJ (Eq.trans (by simp only [zA, zB, zC]; exact rfl) rfl) rfl (fun b w' hb0 hS hV K hK => ?_) ?_
     · obtain ⟨rv6, e6⟩ := hV 6 (by decide); obtain ⟨s1, s2, s3, s4⟩ := hS; obtain ⟨q0, q1⟩ := s2.two; go_simp; exact hK.out _ _ _ rfl rfl ⟨_, _, rfl, Blk.new _ _ _⟩ (zG.alloc (Nat.le_refl _) _)
     simp only [zD, zE, zF]
     refine obs_stepJ (Eq.trans (by simp only [zA, zB, zC]; exact rfl) rfl) rfl (fun b w' hb0 hS hV K hK => ?_) ?_
     · have e1 := zQ hV 1; obtain ⟨rv6, e6⟩ := hV 6 (by decide); obtain ⟨G7, rw7, e7, b7⟩ := hV 7 (by decide); obtain ⟨s1, s2, s3, s4⟩ := hS; obtain ⟨q0, q1⟩ := s2.two; refine wp_app1 (cutW w' w.heap.size) w' 24 2 _ _ Tryz.underlying24 info_i rfl (by omega) _ _ rfl A n c _ _ ((s4 (hb0 rfl)).mk_ s3.size) (by omega) rfl G7 b7 e1 e7 ?_; intro A8 c8 w8 hM8 hg8; exact hK.out _ _ _ rfl rfl ⟨A8, c8, rw7, rfl, by have := hM8.own_ (cutW_size s3.size); simpa [ints] using this⟩ (.inr ⟨rfl, _, _, _, _, s4 (hb0 rfl), hg8⟩)
     simp only [zD, zE, zF]
     refine obs_stepJ (Eq.trans (by simp only [zA, zB, zC]; exact rfl) rfl) rfl (fun b w' hb0 hS hV K hK => ?_) ?_
     · obtain ⟨s1, s2, s3, s4⟩ := hS; obtain ⟨q0, q1⟩ := s2.two; go_simp; exact hK.out _ _ _ rfl rfl rfl zG
     simp only [zD, zE, zF]
     refine fun w' bb hS hV => ?_
     have e0 := zQ hV 0
     have e1 := zQ hV 1
     have e2 := zQ hV 2
     have e3 := zQ hV 3
     have e4 := zQ hV 4
     obtain ⟨rv6, e6⟩ := hV 6 (by decide)
     obtain ⟨A8, c8, rw8, e8, o8⟩ := hV 8 (by decide)
     have e9 := zQ hV 9
     simp only [e0, e1, e2, e3, e4, e6, e8, e9]
     clear e0 e1 e2 e3 e4 e6 e8 e9
     obtain ⟨k47, k67, hd7, -⟩ := hS
     have f8 := k67.frozen 1
     obtain ⟨t0, t1⟩ := k67.two
     refine any_one (j := 10) (by kernel_rfl) (Eq.trans (by simp only [zA, zB, zC]; exact rfl) rfl) (fun K hK => ?_)
     go_simp
     refine hK.out _ _ (wpAny_done (by kernel_rfl) ?_ _)
     have k4b := k47.far (p := ⟨w2.heap.size, 1, none⟩) (show w.heap.size ≠ w2.heap.size by omega) (.slice A8 (n + 1) c8)
     have k6b := k67.set_ 1 (.slice A8 (n + 1) c8)
     have hO4 := o8.far k67 (by decide) 1 (.slice A8 (n + 1) c8)
     have hd4 := hd7.setNew (b := w2.heap.size) (by omega) 1 (.slice A8 (n + 1) c8)
     simp only [zD, zE, zF] at k6b
     clear k47 k67 hd7 f8 t0 t1
     obtain ⟨p0, p1⟩ := k4b.two
     have f0 := k4b.frozen 0
     have f1 := k4b.frozen 1
     obtain ⟨t2, t3⟩ := k6b.two
     go_wp2
     first | exact bodyPost_ret (v := .agg #[.int .i64 P, .slice A8 (n + 1) c8]) (by simp [results, Tryz.results45, go_sem, p0, p1]) rfl ⟨P, A8, (n + 1), c8, (xs ++ [rw8]), rfl, by omega, by omega, by omega, (dbl_back k4b (Nat.le_refl _) hO4 hd4).1, (dbl_back k4b (Nat.le_refl _) hO4 hd4).2⟩ | exact bodyPost_ret (v := .agg #[.int .i64 P, .slice A8 (n + 1) c8]) (by simp [results, Tryz.results45, go_sem, p0, p1]) rfl ⟨P, A8, (n + 1), c8, rfl, by omega, by omega, by omega, ⟨(xs ++ [rw8]), (dbl_back k4b (Nat.le_refl _) hO4 hd4).1⟩, (dbl_back k4b (Nat.le_refl _) hO4 hd4).2⟩
   · have e1 : (r == 1) = false := by simp [h1]
     by_cases h3 : r = 2
     · have e3 : (r == 2) = true := by simp [h3]
       go_wp2
       go_loopw [] (fun wr => ∃ (j : Nat) (A1 : Option Addr) (c1 : Nat) (xs1 : List Int), j ≤ 5 ∧ Blk wr w.heap.size 26 #[.int .i64 0, .slice none 0 0] ∧ Blk wr w2.heap.size 26 #[.int .i64 P, .slice A1 j c1] ∧ Own wr w.heap.size 2 A1 j c1 (ints xs1) ∧ Dr g 124 w wr) (fun wr => 5 - (match wr.cell? ⟨w2.heap.size, 1, none⟩ with | some (.slice _ l _) => l | _ => 0))
       case atStart => exact ⟨n, A, c, xs, by omega, k4, k6, hO, hd⟩
       case round =>
        obtain ⟨j, A1, c1, xs1, hj, k5, kb6, hO6, hd6⟩ := hrel
        clear k4 k6 hO hd
        obtain ⟨q0, q1⟩ := kb6.two
        by_cases hlt : j < 5
        · have d7 : decide ((j : Int) < 5) = true := by rw [decide_eq_true_eq]; omega
          go_wp2_with (at_builtin; refine wpList_app1 (cutW wr w.heap.size) wr 24 2 _ _ Tryz.underlying24 info_i rfl (by omega) rfl _ _ rfl A1 j c1 _ _ (hO6.mk_ hd6.size) (by omega) rfl rfl rfl ?_; intro A8 c8 w8 hM8 hg8 _
                       have k4a := k5.grown hg8 (hO6.ne_blk k5 (by decide))
                       have k6a := kb6.grown hg8 (hO6.ne_blk kb6 (by decide))
                       have hO7 := hM8.own_ (cutW_size hd6.size)
                       have hd7 := hd6.grown hO6 hg8
                       have f8 := k6a.frozen 1
                       obtain ⟨f9, f10⟩ := k6a.two)
          have k4b := k4a.far (p := ⟨w2.heap.size, 1, none⟩) (show w.heap.size ≠ w2.heap.size by omega) (.slice A8 (j + 1) c8)
          have k6b := k6a.set_ 1 (.slice A8 (j + 1) c8)
          have hO8 := hO7.far k6a (by decide) 1 (.slice A8 (j + 1) c8)
          have hd8 := hd7.setNew (b := w2.heap.size) (by omega) 1 (.slice A8 (j + 1) c8)
          simp only [zD, zE, zF] at k6b
          have hm2 := k6b.two.2
          clear k4a k6a hO7 hd7 f8 f9 f10 hM8 hg8
          go_roundw
          case rel => exact ⟨j + 1, A8, c8, xs1 ++ [1], by omega, k4b, k6b, by simpa [ints] using hO8, hd8⟩
          case measure =>
           simp only [hm2, q1]
           show 5 - (j + 1) < 5 - j
           omega
        · have d7 : decide ((j : Int) < 5) = false := by rw [decide_eq_false_iff_not]; omega
          obtain ⟨p0, p1⟩ := k5.two
          have f0 := k5.frozen 0
          have f1 := k5.frozen 1
          go_wp2
          first | exact bodyPost_ret (v := .agg #[.int .i64 P, .slice A1 j c1]) (by simp [results, Tryz.results45, go_sem, p0, p1]) rfl ⟨P, A1, j, c1, xs1, rfl, by omega, by omega, by omega, (dbl_back k5 (Nat.le_refl _) hO6 hd6).1, (dbl_back k5 (Nat.le_refl _) hO6 hd6).2⟩ | exact bodyPost_ret (v := .agg #[.int .i64 P, .slice A1 j c1]) (by simp [results, Tryz.results45, go_sem, p0, p1]) rfl ⟨P, A1, j, c1, rfl, by omega, by omega, by omega, ⟨xs1, (dbl_back k5 (Nat.le_refl _) hO6 hd6).1⟩, (dbl_back k5 (Nat.le_refl _) hO6 hd6).2⟩
     · have e3 : (r == 2) = false := by simp [h3]
       obtain ⟨p0, p1⟩ := k4.two
       have f0 := k4.frozen 0
       have f1 := k4.frozen 1
       obtain ⟨q0, q1⟩ := k6.two
       go_wp2
       first | exact bodyPost_ret (v := .agg #[.int .i64 P, .slice A n c]) (by simp [results, Tryz.results45, go_sem, p0, p1]) rfl ⟨P, A, n, c, xs, rfl, by omega, by omega, by omega, (dbl_back k4 (Nat.le_refl _) hO hd).1, (dbl_back k4 (Nat.le_refl _) hO hd).2⟩ | exact bodyPost_ret (v := .agg #[.int .i64 P, .slice A n c]) (by simp [results, Tryz.results45, go_sem, p0, p1]) rfl ⟨P, A, n, c, rfl, by omega, by omega, by omega, ⟨xs, (dbl_back k4 (Nat.le_refl _) hO hd).1⟩, (dbl_back k4 (Nat.le_refl _) hO hd).2⟩
/-- A list that is read as long as its owner's block is held. -/
def OwnT (w : World) (B : Nat) (A : Option Addr) (n c : Nat) (xs : List Int) : Prop := n ≤ c ∧ ∃ (A0 : Option Addr) (n0 c0 : Nat) (us : List Value), Own w B 2 A0 n0 c0 us ∧ ∀ w' B', Own w' B' 2 A0 n0 c0 us → Rd w' A n (ints xs)
theorem OwnT.of {w : World} {B : Nat} {A : Option Addr} {n c : Nat} {xs : List Int} (h : Own w B 2 A n c (ints xs)) : OwnT w B A n c xs := ⟨h.cap, A, n, c, ints xs, h, fun _ _ h => h.rd⟩
theorem OwnT.rd {w : World} {B : Nat} {A : Option Addr} {n c : Nat} {xs : List Int} (h : OwnT w B A n c xs) : Rd w A n (ints xs) := by obtain ⟨_, _, _, _, _, ho, hr⟩ := h; exact hr _ _ ho
theorem OwnT.below {w w' : World} {B : Nat} {A : Option Addr} {n c : Nat} {xs : List Int} (h : OwnT w B A n c xs) (hb : Below w.heap.size w w') : OwnT w' B A n c xs := by
 obtain ⟨hc, A0, n0, c0, us, ho, hr⟩ := h; exact ⟨hc, A0, n0, c0, us, ho.below hb, hr⟩
theorem OwnT.base {w : World} {B B' : Nat} {A : Option Addr} {n c : Nat} {xs : List Int} (h : OwnT w B A n c xs) (hB : B' ≤ B) : OwnT w B' A n c xs := by
 obtain ⟨hc, A0, n0, c0, us, ho, hr⟩ := h; exact ⟨hc, A0, n0, c0, us, ho.base hB, hr⟩
theorem OwnT.dr {w w' : World} {g B : Nat} {T : TypeId} {A : Option Addr} {n c : Nat} {xs : List Int} (h : OwnT w B A n c xs) (d : Dr g T w w') (hne : 2 ≠ T) : OwnT w' B A n c xs := by
 obtain ⟨hc, A0, n0, c0, us, ho, hr⟩ := h; exact ⟨hc, A0, n0, c0, us, ho.dr d hne, hr⟩
theorem OwnT.grown {w w' : World} {B B2 : Nat} {E : TypeId} {A A2 : Option Addr} {n c n2 c2 : Nat} {xs : List Int} {us : List Value} (h : OwnT w B A n c xs) (ho2 : Own w B2 E A2 n2 c2 us) (hE : 2 ≠ E) (hg : w.grownBy w' (Value.slice A2 n2 c2).ownBlock) : OwnT w' B A n c xs := by
 obtain ⟨hc, A0, n0, c0, us, ho, hr⟩ := h; exact ⟨hc, A0, n0, c0, us, ho.grown hg (ho.ne ho2 hE), hr⟩
theorem OwnT.tail {w : World} {B g m c : Nat} {xs : List Int} (h : Own w B 2 (some ⟨g, 0, none⟩) (m + 1) c (ints xs)) : OwnT w B (some ⟨g, if c = 1 then 0 else 1, none⟩) m (c - 1) (xs.drop 1) := by
 have hc := h.cap
 have hl : xs.length = m + 1 := by have := h.len; rwa [ints_length] at this
 refine ⟨by omega, _, _, _, _, h, fun w' B' h' => ?_⟩
 by_cases hm : m = 0
 · subst hm
   rw [show xs.drop 1 = [] from List.drop_eq_nil_of_le (by omega)]
   exact Rd.nil _ _
 · rw [if_neg (by omega)]
   obtain ⟨g', o', e, hr⟩ := h'.rd.behind (show 1 < m + 1 by omega)
   injection e with e
   injection e with e1 e2 _
   subst e1; subst e2
   rw [ints_drop] at hr
   simpa using hr
theorem OwnT.none_ (w : World) (B : Nat) (A : Option Addr) (c : Nat) : OwnT w B A 0 c [] := ⟨Nat.zero_le _, none, 0, 0, [], World.ownsRow_nil _ _ _ _, fun _ _ _ => Rd.nil _ _⟩
theorem OwnT.tail1 {w : World} {B g m c : Nat} {xs : List Int} (h : Own w B 2 (some ⟨g, 0, none⟩) (m + 1) c (ints xs)) (hc : ¬ c = 1) : OwnT w B (some ⟨g, 1, none⟩) m (c - 1) (xs.drop 1) := by
 have := OwnT.tail h; rw [if_neg hc] at this; exact this
theorem slice_from1 {g m c : Nat} (w : World) (hk : 1 ≤ m) (hc : m ≤ c) : (Instr.slice 24 (.slice (some ⟨g, 0, none⟩) m c) (some (.int .i64 1)) none none).run Tryz.prog w = .ok (.slice (some ⟨g, if c = 1 then 0 else 1, none⟩) (m - 1) (c - 1)) w := by
 have h := run_slice_l (P := Tryz.prog) (w := w) (t := 24) (a := some ⟨g, 0, none⟩) (len := m) (cap := c) (ht := by kernel_rfl) (kl := .i64) (l := 1) (h0 := by omega) (h1 := by omega)
 rw [h]
 by_cases h1 : c = 1
 · subst h1; simp [go_sem, sliced, Addr.add]
 · simp [go_sem, sliced, h1, Addr.add]
set_option maxHeartbeats 3200000 in
set_option maxRecDepth 8000 in
theorem l11DrawElement_0 (g : Nat) (P : Int) (A : Option Addr) (c : Nat) (w : World) (hs : Src w g 124) (hP0 : 0 ≤ P) (hP17 : P ≤ 17) :
    Calls Tryz.prog 46 #[.pointer (some ⟨g, 0, none⟩), .agg #[.int .i64 P, .slice A 0 c]] w fun e w' => ∃ (A' : Option Addr) (m c' : Nat) (xs : List Int), e = .returned (.slice A' m c') ∧ m ≤ 16 ∧ OwnT w' w.heap.size A' m c' xs ∧ Dr g 124 w w' := by
 have hd1 := ((Dr.refl hs).alloc (.cells #[.int .i64 P, .slice A 0 c] 26)).alloc (.cells #[] 2)
 have k1 : Blk ((w.alloc (.cells #[.int .i64 P, .slice A 0 c] 26)).alloc (.cells #[] 2)) w.heap.size 26 #[.int .i64 P, .slice A 0 c] := (Blk.new _ _ _).alloc _
 have hO1 : Own ((w.alloc (.cells #[.int .i64 P, .slice A 0 c] 26)).alloc (.cells #[] 2)) w.heap.size 2 (some ⟨w.heap.size + 1, 0, none⟩) 0 0 (ints []) := by
  have := (Mk.lit (E := 2) ((Below.refl w.heap.size w).alloc (Nat.le_refl _) (.cells #[.int .i64 P, .slice A 0 c] 26)) #[] (by simp)).2
  simpa [ints] using this
 have hnx := next_any g 4 _ hd1.s' (by omega)
 go_enter Tryz.func46, Tryz.ntmps46
 go_wp2_with fail
 refine hnx.mono ?_
 rintro e w2 ⟨kd, rfl, kd1, kd2, hd2⟩
 have kd3 := kd2 (by omega)
 have k2 := k1.dr hd2 (by decide)
 have HO2 := Lib.hid (hO1.dr hd2 (by decide))
 have HD2 := Lib.hid (hd1.trans hd2)
 clear hnx hd1 k1 hO1 hd2 kd2
 by_cases hP1 : P ≤ 1
 all_goals
  go_wp2
  go_loopw [5, 7] (fun out i wr => ∃ (j : Nat) (A1 : Option Addr) (c1 : Nat) (xs : List Int), j ≤ 1 ∧ i = .int .i64 j ∧ out = .slice A1 j c1 ∧ Hid (Own wr w.heap.size 2 A1 j c1 (ints xs)) ∧ Blk wr w.heap.size 26 #[.int .i64 P, .slice A 0 c] ∧ Hid (Dr g 124 w wr)) (fun _ i _ => 1 - (intOf i).toNat)
  case atStart => exact ⟨0, _, _, [], by omega, rfl, rfl, HO2, k2, HD2⟩
  case round =>
   obtain ⟨j, A1, c1, xs, hj, rfl, rfl, HO, kr, HD⟩ := hrel
   clear k2 HO2 HD2
   obtain ⟨q0, q1⟩ := kr.two
   by_cases hlt : j < 1
   · have hjl : decide ((j : Int) < 1) = true := by rw [decide_eq_true_eq]; omega
     go_wp2_with fail
     refine (next_any g _ _ HD.out.s' (by omega)).mono ?_
     rintro e w3 ⟨r3, rfl, _, _, d3⟩
     replace HO := Lib.hid (HO.out.dr d3 (by decide))
     replace HD := Lib.hid (HD.out.trans d3)
     have k3 := kr.dr d3 (by decide)
     clear q0 q1 kr d3
     by_cases hk0 : kd = 0
     · subst hk0
       go_wp2_with fail
       refine (next_any g 3 _ HD.out.s' (by omega)).mono ?_
       rintro e wA ⟨r4, rfl, _, _, d4⟩
       replace HO := Lib.hid (HO.out.dr d4 (by decide))
       replace HD := Lib.hid (HD.out.trans d4)
       have kA := k3.dr d4 (by decide)
       clear k3 d4
       by_cases hr4 : 0 < r4
       · have hr4b : decide (0 < r4) = true := by simpa using hr4
         go_wp2_with (at_builtin; refine wpList_app1 (cutW wA w.heap.size) wA 24 2 _ _ Tryz.underlying24 info_i rfl (by omega) rfl _ _ rfl A1 j c1 _ _ (HO.out.mk_ HD.out.size) (by omega) rfl rfl rfl ?_; intro A8 c8 w8 hM8 hg8 _)
         have k8 := kA.grown hg8 (HO.out.ne_blk kA (by decide))
         have hO3 := hM8.own_ (cutW_size HD.out.size)
         have hd3 := HD.out.grown HO.out hg8
         clear hM8 hg8 kA
         go_roundw
         case rel => exact ⟨j + 1, A8, c8, xs ++ [0], by omega, by go_num, rfl, Lib.hid (by simpa [ints] using hO3), k8, Lib.hid hd3⟩
         case measure => simp [intOf]; omega
       · have hr4b : decide (0 < r4) = false := by simpa using hr4
         go_wp2_with (at_builtin; refine wpList_app1 (cutW wA w.heap.size) wA 24 2 _ _ Tryz.underlying24 info_i rfl (by omega) rfl _ _ rfl A1 j c1 _ _ (HO.out.mk_ HD.out.size) (by omega) rfl rfl rfl ?_; intro A8 c8 w8 hM8 hg8 _)
         have k8 := kA.grown hg8 (HO.out.ne_blk kA (by decide))
         have hO3 := hM8.own_ (cutW_size HD.out.size)
         have hd3 := HD.out.grown HO.out hg8
         clear hM8 hg8 kA
         go_roundw
         case rel => exact ⟨j + 1, A8, c8, xs ++ [r3], by omega, by go_num, rfl, Lib.hid (by simpa [ints] using hO3), k8, Lib.hid hd3⟩
         case measure => simp [intOf]; omega
     · have hk0b : (kd == 0) = false := by simpa using hk0
       obtain ⟨wA, hwA⟩ : ∃ W, W = w3 := ⟨_, rfl⟩
       rw [← hwA] at HO HD k3 ⊢
       have kA := k3
       clear k3 hwA
       go_wp2_with (at_builtin; refine wpList_app1 (cutW wA w.heap.size) wA 24 2 _ _ Tryz.underlying24 info_i rfl (by omega) rfl _ _ rfl A1 j c1 _ _ (HO.out.mk_ HD.out.size) (by omega) rfl rfl rfl ?_; intro A8 c8 w8 hM8 hg8 _)
       have k8 := kA.grown hg8 (HO.out.ne_blk kA (by decide))
       have hO3 := hM8.own_ (cutW_size HD.out.size)
       have hd3 := HD.out.grown HO.out hg8
       clear hM8 hg8 kA
       go_roundw
       case rel => exact ⟨j + 1, A8, c8, xs ++ [r3], by omega, by go_num, rfl, Lib.hid (by simpa [ints] using hO3), k8, Lib.hid hd3⟩
       case measure => simp [intOf]; omega
   · obtain rfl : j = 1 := by omega
     have hjl : decide (((1 : Nat) : Int) < 1) = false := by simp
     go_wp2_with fail
     refine (next_any g 60 _ HD.out.s' (by omega)).mono ?_
     rintro e w3 ⟨sw, rfl, _, _, d3⟩
     replace HO := Lib.hid (HO.out.dr d3 (by decide))
     replace HD := Lib.hid (HD.out.trans d3)
     have k3 := kr.dr d3 (by decide)
     clear q0 q1 kr d3
     rcases HO.out.form with ⟨_, hz⟩ | ⟨gA, rfl, hg1, hg2⟩
     · omega
     by_cases hs0 : sw = 0
     · have hs0b : (sw == 0) = true := by simp [hs0]
       obtain ⟨q0, q1⟩ := k3.two
       have hd6 := (Dr.refl HD.out.s').alloc (.cells #[.int .i64 (-1), .int .i64 P] 2)
       have hpk := pick_any g w3.heap.size [-1, P] _ hd6.s' (by rw [ints2]; exact Blk.new w3 2 _) (by simp) (by simp)
       go_wp2_with fail
       refine hpk.mono ?_
       rintro e w4 ⟨r4, _, rfl, d4⟩
       replace HO := Lib.hid (HO.out.dr (hd6.trans d4) (by decide))
       replace HD := Lib.hid (HD.out.trans (hd6.trans d4))
       obtain ⟨u0, hc0⟩ := HO.out.cellI (show 0 < 1 by omega)
       have ff := HO.out.frozen_ 0
       obtain ⟨hO7, hg7⟩ := HO.out.set_ 0 (.int .i64 r4)
       rw [ints_set] at hO7
       have hd7 := HD.out.grown HO.out hg7
       clear hpk hd6 d4 k3 q0 q1 hg7
       go_wp2
       go_ret
       first | exact ⟨_, _, _, _, rfl, by omega, OwnT.of hO7, hd7⟩ | exact ⟨_, _, _, rfl, by omega, ⟨_, OwnT.of hO7⟩, hd7⟩
     · have hs0b : (sw == 0) = false := by simpa using hs0
       by_cases hs1 : sw = 1
       · have hs1b : (sw == 1) = true := by simp [hs1]
         have hcp := HO.out.cap
         by_cases hc1 : c1 = 1
         · subst hc1
           have sl := fun w => slice_from1 (g := gA) (m := 1) (c := 1) w (by omega) hcp
           rw [if_pos rfl] at sl
           go_wp2
           go_ret
           first | exact ⟨_, _, _, [], rfl, by omega, OwnT.none_ _ _ _ _, HD.out⟩ | exact ⟨_, _, _, rfl, by omega, ⟨[], OwnT.none_ _ _ _ _⟩, HD.out⟩
         · have sl := fun w => slice_from1 (g := gA) (m := 1) (c := c1) w (by omega) hcp
           rw [if_neg hc1] at sl
           clear hcp
           go_wp2
           go_ret
           first | exact ⟨_, _, _, _, rfl, by omega, OwnT.tail1 (m := 1 - 1) HO.out hc1, HD.out⟩ | exact ⟨_, _, _, rfl, by omega, ⟨_, OwnT.tail1 (m := 1 - 1) HO.out hc1⟩, HD.out⟩
       · have hs1b : (sw == 1) = false := by simpa using hs1
         go_wp2
         go_ret
         first | exact ⟨_, _, _, _, rfl, by omega, OwnT.of HO.out, HD.out⟩ | exact ⟨_, _, _, rfl, by omega, ⟨_, OwnT.of HO.out⟩, HD.out⟩
set_option maxHeartbeats 3200000 in
set_option maxRecDepth 8000 in
theorem l11DrawElement_1 (g : Nat) (P : Int) (A : Option Addr) (c : Nat) (w : World) (hs : Src w g 124) (hP0 : 0 ≤ P) (hP17 : P ≤ 17) :
    Calls Tryz.prog 46 #[.pointer (some ⟨g, 0, none⟩), .agg #[.int .i64 P, .slice A 1 c]] w fun e w' => ∃ (A' : Option Addr) (m c' : Nat) (xs : List Int), e = .returned (.slice A' m c') ∧ m ≤ 16 ∧ OwnT w' w.heap.size A' m c' xs ∧ Dr g 124 w w' := by
 have hd1 := ((Dr.refl hs).alloc (.cells #[.int .i64 P, .slice A 1 c] 26)).alloc (.cells #[] 2)
 have k1 : Blk ((w.alloc (.cells #[.int .i64 P, .slice A 1 c] 26)).alloc (.cells #[] 2)) w.heap.size 26 #[.int .i64 P, .slice A 1 c] := (Blk.new _ _ _).alloc _
 have hO1 : Own ((w.alloc (.cells #[.int .i64 P, .slice A 1 c] 26)).alloc (.cells #[] 2)) w.heap.size 2 (some ⟨w.heap.size + 1, 0, none⟩) 0 0 (ints []) := by
  have := (Mk.lit (E := 2) ((Below.refl w.heap.size w).alloc (Nat.le_refl _) (.cells #[.int .i64 P, .slice A 1 c] 26)) #[] (by simp)).2
  simpa [ints] using this
 have hnx := next_any g 4 _ hd1.s' (by omega)
 go_enter Tryz.func46, Tryz.ntmps46
 go_wp2_with fail
 refine hnx.mono ?_
 rintro e w2 ⟨kd, rfl, kd1, kd2, hd2⟩
 have kd3 := kd2 (by omega)
 have k2 := k1.dr hd2 (by decide)
 have HO2 := Lib.hid (hO1.dr hd2 (by decide))
 have HD2 := Lib.hid (hd1.trans hd2)
 clear hnx hd1 k1 hO1 hd2 kd2
 by_cases hP1 : P ≤ 1
 all_goals
  go_wp2
  go_loopw [5, 7] (fun out i wr => ∃ (j : Nat) (A1 : Option Addr) (c1 : Nat) (xs : List Int), j ≤ 2 ∧ i = .int .i64 j ∧ out = .slice A1 j c1 ∧ Hid (Own wr w.heap.size 2 A1 j c1 (ints xs)) ∧ Blk wr w.heap.size 26 #[.int .i64 P, .slice A 1 c] ∧ Hid (Dr g 124 w wr)) (fun _ i _ => 2 - (intOf i).toNat)
  case atStart => exact ⟨0, _, _, [], by omega, rfl, rfl, HO2, k2, HD2⟩
  case round =>
   obtain ⟨j, A1, c1, xs, hj, rfl, rfl, HO, kr, HD⟩ := hrel
   clear k2 HO2 HD2
   obtain ⟨q0, q1⟩ := kr.two
   by_cases hlt : j < 2
   · have hjl : decide ((j : Int) < 2) = true := by rw [decide_eq_true_eq]; omega
     go_wp2_with fail
     refine (next_any g _ _ HD.out.s' (by omega)).mono ?_
     rintro e w3 ⟨r3, rfl, _, _, d3⟩
     replace HO := Lib.hid (HO.out.dr d3 (by decide))
     replace HD := Lib.hid (HD.out.trans d3)
     have k3 := kr.dr d3 (by decide)
     clear q0 q1 kr d3
     by_cases hk0 : kd = 0
     · subst hk0
       go_wp2_with fail
       refine (next_any g 3 _ HD.out.s' (by omega)).mono ?_
       rintro e wA ⟨r4, rfl, _, _, d4⟩
       replace HO := Lib.hid (HO.out.dr d4 (by decide))
       replace HD := Lib.hid (HD.out.trans d4)
       have kA := k3.dr d4 (by decide)
       clear k3 d4
       by_cases hr4 : 0 < r4
       · have hr4b : decide (0 < r4) = true := by simpa using hr4
         go_wp2_with (at_builtin; refine wpList_app1 (cutW wA w.heap.size) wA 24 2 _ _ Tryz.underlying24 info_i rfl (by omega) rfl _ _ rfl A1 j c1 _ _ (HO.out.mk_ HD.out.size) (by omega) rfl rfl rfl ?_; intro A8 c8 w8 hM8 hg8 _)
         have k8 := kA.grown hg8 (HO.out.ne_blk kA (by decide))
         have hO3 := hM8.own_ (cutW_size HD.out.size)
         have hd3 := HD.out.grown HO.out hg8
         clear hM8 hg8 kA
         go_roundw
         case rel => exact ⟨j + 1, A8, c8, xs ++ [0], by omega, by go_num, rfl, Lib.hid (by simpa [ints] using hO3), k8, Lib.hid hd3⟩
         case measure => simp [intOf]; omega
       · have hr4b : decide (0 < r4) = false := by simpa using hr4
         go_wp2_with (at_builtin; refine wpList_app1 (cutW wA w.heap.size) wA 24 2 _ _ Tryz.underlying24 info_i rfl (by omega) rfl _ _ rfl A1 j c1 _ _ (HO.out.mk_ HD.out.size) (by omega) rfl rfl rfl ?_; intro A8 c8 w8 hM8 hg8 _)
         have k8 := kA.grown hg8 (HO.out.ne_blk kA (by decide))
         have hO3 := hM8.own_ (cutW_size HD.out.size)
         have hd3 := HD.out.grown HO.out hg8
         clear hM8 hg8 kA
         go_roundw
         case rel => exact ⟨j + 1, A8, c8, xs ++ [r3], by omega, by go_num, rfl, Lib.hid (by simpa [ints] using hO3), k8, Lib.hid hd3⟩
         case measure => simp [intOf]; omega
     · have hk0b : (kd == 0) = false := by simpa using hk0
       obtain ⟨wA, hwA⟩ : ∃ W, W = w3 := ⟨_, rfl⟩
       rw [← hwA] at HO HD k3 ⊢
       have kA := k3
       clear k3 hwA
       go_wp2_with (at_builtin; refine wpList_app1 (cutW wA w.heap.size) wA 24 2 _ _ Tryz.underlying24 info_i rfl (by omega) rfl _ _ rfl A1 j c1 _ _ (HO.out.mk_ HD.out.size) (by omega) rfl rfl rfl ?_; intro A8 c8 w8 hM8 hg8 _)
       have k8 := kA.grown hg8 (HO.out.ne_blk kA (by decide))
       have hO3 := hM8.own_ (cutW_size HD.out.size)
       have hd3 := HD.out.grown HO.out hg8
       clear hM8 hg8 kA
       go_roundw
       case rel => exact ⟨j + 1, A8, c8, xs ++ [r3], by omega, by go_num, rfl, Lib.hid (by simpa [ints] using hO3), k8, Lib.hid hd3⟩
       case measure => simp [intOf]; omega
   · obtain rfl : j = 2 := by omega
     have hjl : decide (((2 : Nat) : Int) < 2) = false := by simp
     go_wp2_with fail
     refine (next_any g 60 _ HD.out.s' (by omega)).mono ?_
     rintro e w3 ⟨sw, rfl, _, _, d3⟩
     replace HO := Lib.hid (HO.out.dr d3 (by decide))
     replace HD := Lib.hid (HD.out.trans d3)
     have k3 := kr.dr d3 (by decide)
     clear q0 q1 kr d3
     rcases HO.out.form with ⟨_, hz⟩ | ⟨gA, rfl, hg1, hg2⟩
     · omega
     by_cases hs0 : sw = 0
     · have hs0b : (sw == 0) = true := by simp [hs0]
       obtain ⟨q0, q1⟩ := k3.two
       have hd6 := (Dr.refl HD.out.s').alloc (.cells #[.int .i64 (-1), .int .i64 P] 2)
       have hpk := pick_any g w3.heap.size [-1, P] _ hd6.s' (by rw [ints2]; exact Blk.new w3 2 _) (by simp) (by simp)
       go_wp2_with fail
       refine hpk.mono ?_
       rintro e w4 ⟨r4, _, rfl, d4⟩
       replace HO := Lib.hid (HO.out.dr (hd6.trans d4) (by decide))
       replace HD := Lib.hid (HD.out.trans (hd6.trans d4))
       obtain ⟨u0, hc0⟩ := HO.out.cellI (show 0 < 2 by omega)
       have ff := HO.out.frozen_ 0
       obtain ⟨hO7, hg7⟩ := HO.out.set_ 0 (.int .i64 r4)
       rw [ints_set] at hO7
       have hd7 := HD.out.grown HO.out hg7
       clear hpk hd6 d4 k3 q0 q1 hg7
       go_wp2
       go_ret
       first | exact ⟨_, _, _, _, rfl, by omega, OwnT.of hO7, hd7⟩ | exact ⟨_, _, _, rfl, by omega, ⟨_, OwnT.of hO7⟩, hd7⟩
     · have hs0b : (sw == 0) = false := by simpa using hs0
       by_cases hs1 : sw = 1
       · have hs1b : (sw == 1) = true := by simp [hs1]
         have hcp := HO.out.cap
         by_cases hc1 : c1 = 1
         · subst hc1
           have sl := fun w => slice_from1 (g := gA) (m := 2) (c := 1) w (by omega) hcp
           rw [if_pos rfl] at sl
           omega
         · have sl := fun w => slice_from1 (g := gA) (m := 2) (c := c1) w (by omega) hcp
           rw [if_neg hc1] at sl
           clear hcp
           go_wp2
           go_ret
           first | exact ⟨_, _, _, _, rfl, by omega, OwnT.tail1 (m := 2 - 1) HO.out hc1, HD.out⟩ | exact ⟨_, _, _, rfl, by omega, ⟨_, OwnT.tail1 (m := 2 - 1) HO.out hc1⟩, HD.out⟩
       · have hs1b : (sw == 1) = false := by simpa using hs1
         go_wp2
         go_ret
         first | exact ⟨_, _, _, _, rfl, by omega, OwnT.of HO.out, HD.out⟩ | exact ⟨_, _, _, rfl, by omega, ⟨_, OwnT.of HO.out⟩, HD.out⟩
set_option maxHeartbeats 3200000 in
set_option maxRecDepth 8000 in
theorem l11DrawElement_2 (g : Nat) (P : Int) (A : Option Addr) (c : Nat) (w : World) (hs : Src w g 124) (hP0 : 0 ≤ P) (hP17 : P ≤ 17) :
    Calls Tryz.prog 46 #[.pointer (some ⟨g, 0, none⟩), .agg #[.int .i64 P, .slice A 2 c]] w fun e w' => ∃ (A' : Option Addr) (m c' : Nat) (xs : List Int), e = .returned (.slice A' m c') ∧ m ≤ 16 ∧ OwnT w' w.heap.size A' m c' xs ∧ Dr g 124 w w' := by
 have hd1 := ((Dr.refl hs).alloc (.cells #[.int .i64 P, .slice A 2 c] 26)).alloc (.cells #[] 2)
 have k1 : Blk ((w.alloc (.cells #[.int .i64 P, .slice A 2 c] 26)).alloc (.cells #[] 2)) w.heap.size 26 #[.int .i64 P, .slice A 2 c] := (Blk.new _ _ _).alloc _
 have hO1 : Own ((w.alloc (.cells #[.int .i64 P, .slice A 2 c] 26)).alloc (.cells #[] 2)) w.heap.size 2 (some ⟨w.heap.size + 1, 0, none⟩) 0 0 (ints []) := by
  have := (Mk.lit (E := 2) ((Below.refl w.heap.size w).alloc (Nat.le_refl _) (.cells #[.int .i64 P, .slice A 2 c] 26)) #[] (by simp)).2
  simpa [ints] using this
 have hnx := next_any g 4 _ hd1.s' (by omega)
 go_enter Tryz.func46, Tryz.ntmps46
 go_wp2_with fail
 refine hnx.mono ?_
 rintro e w2 ⟨kd, rfl, kd1, kd2, hd2⟩
 have kd3 := kd2 (by omega)
 have k2 := k1.dr hd2 (by decide)
 have HO2 := Lib.hid (hO1.dr hd2 (by decide))
 have HD2 := Lib.hid (hd1.trans hd2)
 clear hnx hd1 k1 hO1 hd2 kd2
 by_cases hP1 : P ≤ 1
 all_goals
  go_wp2
  go_loopw [5, 7] (fun out i wr => ∃ (j : Nat) (A1 : Option Addr) (c1 : Nat) (xs : List Int), j ≤ 4 ∧ i = .int .i64 j ∧ out = .slice A1 j c1 ∧ Hid (Own wr w.heap.size 2 A1 j c1 (ints xs)) ∧ Blk wr w.heap.size 26 #[.int .i64 P, .slice A 2 c] ∧ Hid (Dr g 124 w wr)) (fun _ i _ => 4 - (intOf i).toNat)
  case atStart => exact ⟨0, _, _, [], by omega, rfl, rfl, HO2, k2, HD2⟩
  case round =>
   obtain ⟨j, A1, c1, xs, hj, rfl, rfl, HO, kr, HD⟩ := hrel
   clear k2 HO2 HD2
   obtain ⟨q0, q1⟩ := kr.two
   by_cases hlt : j < 4
   · have hjl : decide ((j : Int) < 4) = true := by rw [decide_eq_true_eq]; omega
     go_wp2_with fail
     refine (next_any g _ _ HD.out.s' (by omega)).mono ?_
     rintro e w3 ⟨r3, rfl, _, _, d3⟩
     replace HO := Lib.hid (HO.out.dr d3 (by decide))
     replace HD := Lib.hid (HD.out.trans d3)
     have k3 := kr.dr d3 (by decide)
     clear q0 q1 kr d3
     by_cases hk0 : kd = 0
     · subst hk0
       go_wp2_with fail
       refine (next_any g 3 _ HD.out.s' (by omega)).mono ?_
       rintro e wA ⟨r4, rfl, _, _, d4⟩
       replace HO := Lib.hid (HO.out.dr d4 (by decide))
       replace HD := Lib.hid (HD.out.trans d4)
       have kA := k3.dr d4 (by decide)
       clear k3 d4
       by_cases hr4 : 0 < r4
       · have hr4b : decide (0 < r4) = true := by simpa using hr4
         go_wp2_with (at_builtin; refine wpList_app1 (cutW wA w.heap.size) wA 24 2 _ _ Tryz.underlying24 info_i rfl (by omega) rfl _ _ rfl A1 j c1 _ _ (HO.out.mk_ HD.out.size) (by omega) rfl rfl rfl ?_; intro A8 c8 w8 hM8 hg8 _)
         have k8 := kA.grown hg8 (HO.out.ne_blk kA (by decide))
         have hO3 := hM8.own_ (cutW_size HD.out.size)
         have hd3 := HD.out.grown HO.out hg8
         clear hM8 hg8 kA
         go_roundw
         case rel => exact ⟨j + 1, A8, c8, xs ++ [0], by omega, by go_num, rfl, Lib.hid (by simpa [ints] using hO3), k8, Lib.hid hd3⟩
         case measure => simp [intOf]; omega
       · have hr4b : decide (0 < r4) = false := by simpa using hr4
         go_wp2_with (at_builtin; refine wpList_app1 (cutW wA w.heap.size) wA 24 2 _ _ Tryz.underlying24 info_i rfl (by omega) rfl _ _ rfl A1 j c1 _ _ (HO.out.mk_ HD.out.size) (by omega) rfl rfl rfl ?_; intro A8 c8 w8 hM8 hg8 _)
         have k8 := kA.grown hg8 (HO.out.ne_blk kA (by decide))
         have hO3 := hM8.own_ (cutW_size HD.out.size)
         have hd3 := HD.out.grown HO.out hg8
         clear hM8 hg8 kA
         go_roundw
         case rel => exact ⟨j + 1, A8, c8, xs ++ [r3], by omega, by go_num, rfl, Lib.hid (by simpa [ints] using hO3), k8, Lib.hid hd3⟩
         case measure => simp [intOf]; omega
     · have hk0b : (kd == 0) = false := by simpa using hk0
       obtain ⟨wA, hwA⟩ : ∃ W, W = w3 := ⟨_, rfl⟩
       rw [← hwA] at HO HD k3 ⊢
       have kA := k3
       clear k3 hwA
       go_wp2_with (at_builtin; refine wpList_app1 (cutW wA w.heap.size) wA 24 2 _ _ Tryz.underlying24 info_i rfl (by omega) rfl _ _ rfl A1 j c1 _ _ (HO.out.mk_ HD.out.size) (by omega) rfl rfl rfl ?_; intro A8 c8 w8 hM8 hg8 _)
       have k8 := kA.grown hg8 (HO.out.ne_blk kA (by decide))
       have hO3 := hM8.own_ (cutW_size HD.out.size)
       have hd3 := HD.out.grown HO.out hg8
       clear hM8 hg8 kA
       go_roundw
       case rel => exact ⟨j + 1, A8, c8, xs ++ [r3], by omega, by go_num, rfl, Lib.hid (by simpa [ints] using hO3), k8, Lib.hid hd3⟩
       case measure => simp [intOf]; omega
   · obtain rfl : j = 4 := by omega
     have hjl : decide (((4 : Nat) : Int) < 4) = false := by simp
     go_wp2_with fail
     refine (next_any g 60 _ HD.out.s' (by omega)).mono ?_
     rintro e w3 ⟨sw, rfl, _, _, d3⟩
     replace HO := Lib.hid (HO.out.dr d3 (by decide))
     replace HD := Lib.hid (HD.out.trans d3)
     have k3 := kr.dr d3 (by decide)
     clear q0 q1 kr d3
     rcases HO.out.form with ⟨_, hz⟩ | ⟨gA, rfl, hg1, hg2⟩
     · omega
     by_cases hs0 : sw = 0
     · have hs0b : (sw == 0) = true := by simp [hs0]
       obtain ⟨q0, q1⟩ := k3.two
       have hd6 := (Dr.refl HD.out.s').alloc (.cells #[.int .i64 (-1), .int .i64 P] 2)
       have hpk := pick_any g w3.heap.size [-1, P] _ hd6.s' (by rw [ints2]; exact Blk.new w3 2 _) (by simp) (by simp)
       go_wp2_with fail
       refine hpk.mono ?_
       rintro e w4 ⟨r4, _, rfl, d4⟩
       replace HO := Lib.hid (HO.out.dr (hd6.trans d4) (by decide))
       replace HD := Lib.hid (HD.out.trans (hd6.trans d4))
       obtain ⟨u0, hc0⟩ := HO.out.cellI (show 0 < 4 by omega)
       have ff := HO.out.frozen_ 0
       obtain ⟨hO7, hg7⟩ := HO.out.set_ 0 (.int .i64 r4)
       rw [ints_set] at hO7
       have hd7 := HD.out.grown HO.out hg7
       clear hpk hd6 d4 k3 q0 q1 hg7
       go_wp2
       go_ret
       first | exact ⟨_, _, _, _, rfl, by omega, OwnT.of hO7, hd7⟩ | exact ⟨_, _, _, rfl, by omega, ⟨_, OwnT.of hO7⟩, hd7⟩
     · have hs0b : (sw == 0) = false := by simpa using hs0
       by_cases hs1 : sw = 1
       · have hs1b : (sw == 1) = true := by simp [hs1]
         have hcp := HO.out.cap
         by_cases hc1 : c1 = 1
         · subst hc1
           have sl := fun w => slice_from1 (g := gA) (m := 4) (c := 1) w (by omega) hcp
           rw [if_pos rfl] at sl
           omega
         · have sl := fun w => slice_from1 (g := gA) (m := 4) (c := c1) w (by omega) hcp
           rw [if_neg hc1] at sl
           clear hcp
           go_wp2
           go_ret
           first | exact ⟨_, _, _, _, rfl, by omega, OwnT.tail1 (m := 4 - 1) HO.out hc1, HD.out⟩ | exact ⟨_, _, _, rfl, by omega, ⟨_, OwnT.tail1 (m := 4 - 1) HO.out hc1⟩, HD.out⟩
       · have hs1b : (sw == 1) = false := by simpa using hs1
         go_wp2
         go_ret
         first | exact ⟨_, _, _, _, rfl, by omega, OwnT.of HO.out, HD.out⟩ | exact ⟨_, _, _, rfl, by omega, ⟨_, OwnT.of HO.out⟩, HD.out⟩
set_option maxHeartbeats 3200000 in
set_option maxRecDepth 8000 in
theorem l11DrawElement_3 (g : Nat) (P : Int) (A : Option Addr) (c : Nat) (w : World) (hs : Src w g 124) (hP0 : 0 ≤ P) (hP17 : P ≤ 17) :
    Calls Tryz.prog 46 #[.pointer (some ⟨g, 0, none⟩), .agg #[.int .i64 P, .slice A 3 c]] w fun e w' => ∃ (A' : Option Addr) (m c' : Nat) (xs : List Int), e = .returned (.slice A' m c') ∧ m ≤ 16 ∧ OwnT w' w.heap.size A' m c' xs ∧ Dr g 124 w w' := by
 have hd1 := ((Dr.refl hs).alloc (.cells #[.int .i64 P, .slice A 3 c] 26)).alloc (.cells #[] 2)
 have k1 : Blk ((w.alloc (.cells #[.int .i64 P, .slice A 3 c] 26)).alloc (.cells #[] 2)) w.heap.size 26 #[.int .i64 P, .slice A 3 c] := (Blk.new _ _ _).alloc _
 have hO1 : Own ((w.alloc (.cells #[.int .i64 P, .slice A 3 c] 26)).alloc (.cells #[] 2)) w.heap.size 2 (some ⟨w.heap.size + 1, 0, none⟩) 0 0 (ints []) := by
  have := (Mk.lit (E := 2) ((Below.refl w.heap.size w).alloc (Nat.le_refl _) (.cells #[.int .i64 P, .slice A 3 c] 26)) #[] (by simp)).2
  simpa [ints] using this
 have hnx := next_any g 4 _ hd1.s' (by omega)
 go_enter Tryz.func46, Tryz.ntmps46
 go_wp2_with fail
 refine hnx.mono ?_
 rintro e w2 ⟨kd, rfl, kd1, kd2, hd2⟩
 have kd3 := kd2 (by omega)
 have k2 := k1.dr hd2 (by decide)
 have HO2 := Lib.hid (hO1.dr hd2 (by decide))
 have HD2 := Lib.hid (hd1.trans hd2)
 clear hnx hd1 k1 hO1 hd2 kd2
 by_cases hP1 : P ≤ 1
 all_goals
  go_wp2
  go_loopw [5, 7] (fun out i wr => ∃ (j : Nat) (A1 : Option Addr) (c1 : Nat) (xs : List Int), j ≤ 8 ∧ i = .int .i64 j ∧ out = .slice A1 j c1 ∧ Hid (Own wr w.heap.size 2 A1 j c1 (ints xs)) ∧ Blk wr w.heap.size 26 #[.int .i64 P, .slice A 3 c] ∧ Hid (Dr g 124 w wr)) (fun _ i _ => 8 - (intOf i).toNat)
  case atStart => exact ⟨0, _, _, [], by omega, rfl, rfl, HO2, k2, HD2⟩
  case round =>
   obtain ⟨j, A1, c1, xs, hj, rfl, rfl, HO, kr, HD⟩ := hrel
   clear k2 HO2 HD2
   obtain ⟨q0, q1⟩ := kr.two
   by_cases hlt : j < 8
   · have hjl : decide ((j : Int) < 8) = true := by rw [decide_eq_true_eq]; omega
     go_wp2_with fail
     refine (next_any g _ _ HD.out.s' (by omega)).mono ?_
     rintro e w3 ⟨r3, rfl, _, _, d3⟩
     replace HO := Lib.hid (HO.out.dr d3 (by decide))
     replace HD := Lib.hid (HD.out.trans d3)
     have k3 := kr.dr d3 (by decide)
     clear q0 q1 kr d3
     by_cases hk0 : kd = 0
     · subst hk0
       go_wp2_with fail
       refine (next_any g 3 _ HD.out.s' (by omega)).mono ?_
       rintro e wA ⟨r4, rfl, _, _, d4⟩
       replace HO := Lib.hid (HO.out.dr d4 (by decide))
       replace HD := Lib.hid (HD.out.trans d4)
       have kA := k3.dr d4 (by decide)
       clear k3 d4
       by_cases hr4 : 0 < r4
       · have hr4b : decide (0 < r4) = true := by simpa using hr4
         go_wp2_with (at_builtin; refine wpList_app1 (cutW wA w.heap.size) wA 24 2 _ _ Tryz.underlying24 info_i rfl (by omega) rfl _ _ rfl A1 j c1 _ _ (HO.out.mk_ HD.out.size) (by omega) rfl rfl rfl ?_; intro A8 c8 w8 hM8 hg8 _)
         have k8 := kA.grown hg8 (HO.out.ne_blk kA (by decide))
         have hO3 := hM8.own_ (cutW_size HD.out.size)
         have hd3 := HD.out.grown HO.out hg8
         clear hM8 hg8 kA
         go_roundw
         case rel => exact ⟨j + 1, A8, c8, xs ++ [0], by omega, by go_num, rfl, Lib.hid (by simpa [ints] using hO3), k8, Lib.hid hd3⟩
         case measure => simp [intOf]; omega
       · have hr4b : decide (0 < r4) = false := by simpa using hr4
         go_wp2_with (at_builtin; refine wpList_app1 (cutW wA w.heap.size) wA 24 2 _ _ Tryz.underlying24 info_i rfl (by omega) rfl _ _ rfl A1 j c1 _ _ (HO.out.mk_ HD.out.size) (by omega) rfl rfl rfl ?_; intro A8 c8 w8 hM8 hg8 _)
         have k8 := kA.grown hg8 (HO.out.ne_blk kA (by decide))
         have hO3 := hM8.own_ (cutW_size HD.out.size)
         have hd3 := HD.out.grown HO.out hg8
         clear hM8 hg8 kA
         go_roundw
         case rel => exact ⟨j + 1, A8, c8, xs ++ [r3], by omega, by go_num, rfl, Lib.hid (by simpa [ints] using hO3), k8, Lib.hid hd3⟩
         case measure => simp [intOf]; omega
     · have hk0b : (kd == 0) = false := by simpa using hk0
       obtain ⟨wA, hwA⟩ : ∃ W, W = w3 := ⟨_, rfl⟩
       rw [← hwA] at HO HD k3 ⊢
       have kA := k3
       clear k3 hwA
       go_wp2_with (at_builtin; refine wpList_app1 (cutW wA w.heap.size) wA 24 2 _ _ Tryz.underlying24 info_i rfl (by omega) rfl _ _ rfl A1 j c1 _ _ (HO.out.mk_ HD.out.size) (by omega) rfl rfl rfl ?_; intro A8 c8 w8 hM8 hg8 _)
       have k8 := kA.grown hg8 (HO.out.ne_blk kA (by decide))
       have hO3 := hM8.own_ (cutW_size HD.out.size)
       have hd3 := HD.out.grown HO.out hg8
       clear hM8 hg8 kA
       go_roundw
       case rel => exact ⟨j + 1, A8, c8, xs ++ [r3], by omega, by go_num, rfl, Lib.hid (by simpa [ints] using hO3), k8, Lib.hid hd3⟩
       case measure => simp [intOf]; omega
   · obtain rfl : j = 8 := by omega
     have hjl : decide (((8 : Nat) : Int) < 8) = false := by simp
     go_wp2_with fail
     refine (next_any g 60 _ HD.out.s' (by omega)).mono ?_
     rintro e w3 ⟨sw, rfl, _, _, d3⟩
     replace HO := Lib.hid (HO.out.dr d3 (by decide))
     replace HD := Lib.hid (HD.out.trans d3)
     have k3 := kr.dr d3 (by decide)
     clear q0 q1 kr d3
     rcases HO.out.form with ⟨_, hz⟩ | ⟨gA, rfl, hg1, hg2⟩
     · omega
     by_cases hs0 : sw = 0
     · have hs0b : (sw == 0) = true := by simp [hs0]
       obtain ⟨q0, q1⟩ := k3.two
       have hd6 := (Dr.refl HD.out.s').alloc (.cells #[.int .i64 (-1), .int .i64 P] 2)
       have hpk := pick_any g w3.heap.size [-1, P] _ hd6.s' (by rw [ints2]; exact Blk.new w3 2 _) (by simp) (by simp)
       go_wp2_with fail
       refine hpk.mono ?_
       rintro e w4 ⟨r4, _, rfl, d4⟩
       replace HO := Lib.hid (HO.out.dr (hd6.trans d4) (by decide))
       replace HD := Lib.hid (HD.out.trans (hd6.trans d4))
       obtain ⟨u0, hc0⟩ := HO.out.cellI (show 0 < 8 by omega)
       have ff := HO.out.frozen_ 0
       obtain ⟨hO7, hg7⟩ := HO.out.set_ 0 (.int .i64 r4)
       rw [ints_set] at hO7
       have hd7 := HD.out.grown HO.out hg7
       clear hpk hd6 d4 k3 q0 q1 hg7
       go_wp2
       go_ret
       first | exact ⟨_, _, _, _, rfl, by omega, OwnT.of hO7, hd7⟩ | exact ⟨_, _, _, rfl, by omega, ⟨_, OwnT.of hO7⟩, hd7⟩
     · have hs0b : (sw == 0) = false := by simpa using hs0
       by_cases hs1 : sw = 1
       · have hs1b : (sw == 1) = true := by simp [hs1]
         have hcp := HO.out.cap
         by_cases hc1 : c1 = 1
         · subst hc1
           have sl := fun w => slice_from1 (g := gA) (m := 8) (c := 1) w (by omega) hcp
           rw [if_pos rfl] at sl
           omega
         · have sl := fun w => slice_from1 (g := gA) (m := 8) (c := c1) w (by omega) hcp
           rw [if_neg hc1] at sl
           clear hcp
           go_wp2
           go_ret
           first | exact ⟨_, _, _, _, rfl, by omega, OwnT.tail1 (m := 8 - 1) HO.out hc1, HD.out⟩ | exact ⟨_, _, _, rfl, by omega, ⟨_, OwnT.tail1 (m := 8 - 1) HO.out hc1⟩, HD.out⟩
       · have hs1b : (sw == 1) = false := by simpa using hs1
         go_wp2
         go_ret
         first | exact ⟨_, _, _, _, rfl, by omega, OwnT.of HO.out, HD.out⟩ | exact ⟨_, _, _, rfl, by omega, ⟨_, OwnT.of HO.out⟩, HD.out⟩
set_option maxHeartbeats 3200000 in
set_option maxRecDepth 8000 in
theorem l11DrawElement_4 (g : Nat) (P : Int) (A : Option Addr) (c : Nat) (w : World) (hs : Src w g 124) (hP0 : 0 ≤ P) (hP17 : P ≤ 17) :
    Calls Tryz.prog 46 #[.pointer (some ⟨g, 0, none⟩), .agg #[.int .i64 P, .slice A 4 c]] w fun e w' => ∃ (A' : Option Addr) (m c' : Nat) (xs : List Int), e = .returned (.slice A' m c') ∧ m ≤ 16 ∧ OwnT w' w.heap.size A' m c' xs ∧ Dr g 124 w w' := by
 have hd1 := ((Dr.refl hs).alloc (.cells #[.int .i64 P, .slice A 4 c] 26)).alloc (.cells #[] 2)
 have k1 : Blk ((w.alloc (.cells #[.int .i64 P, .slice A 4 c] 26)).alloc (.cells #[] 2)) w.heap.size 26 #[.int .i64 P, .slice A 4 c] := (Blk.new _ _ _).alloc _
 have hO1 : Own ((w.alloc (.cells #[.int .i64 P, .slice A 4 c] 26)).alloc (.cells #[] 2)) w.heap.size 2 (some ⟨w.heap.size + 1, 0, none⟩) 0 0 (ints []) := by
  have := (Mk.lit (E := 2) ((Below.refl w.heap.size w).alloc (Nat.le_refl _) (.cells #[.int .i64 P, .slice A 4 c] 26)) #[] (by simp)).2
  simpa [ints] using this
 have hnx := next_any g 4 _ hd1.s' (by omega)
 go_enter Tryz.func46, Tryz.ntmps46
 go_wp2_with fail
 refine hnx.mono ?_
 rintro e w2 ⟨kd, rfl, kd1, kd2, hd2⟩
 have kd3 := kd2 (by omega)
 have k2 := k1.dr hd2 (by decide)
 have HO2 := Lib.hid (hO1.dr hd2 (by decide))
 have HD2 := Lib.hid (hd1.trans hd2)
 clear hnx hd1 k1 hO1 hd2 kd2
 by_cases hP1 : P ≤ 1
 all_goals
  go_wp2
  go_loopw [5, 7] (fun out i wr => ∃ (j : Nat) (A1 : Option Addr) (c1 : Nat) (xs : List Int), j ≤ 16 ∧ i = .int .i64 j ∧ out = .slice A1 j c1 ∧ Hid (Own wr w.heap.size 2 A1 j c1 (ints xs)) ∧ Blk wr w.heap.size 26 #[.int .i64 P, .slice A 4 c] ∧ Hid (Dr g 124 w wr)) (fun _ i _ => 16 - (intOf i).toNat)
  case atStart => exact ⟨0, _, _, [], by omega, rfl, rfl, HO2, k2, HD2⟩
  case round =>
   obtain ⟨j, A1, c1, xs, hj, rfl, rfl, HO, kr, HD⟩ := hrel
   clear k2 HO2 HD2
   obtain ⟨q0, q1⟩ := kr.two
   by_cases hlt : j < 16
   · have hjl : decide ((j : Int) < 16) = true := by rw [decide_eq_true_eq]; omega
     go_wp2_with fail
     refine (next_any g _ _ HD.out.s' (by omega)).mono ?_
     rintro e w3 ⟨r3, rfl, _, _, d3⟩
     replace HO := Lib.hid (HO.out.dr d3 (by decide))
     replace HD := Lib.hid (HD.out.trans d3)
     have k3 := kr.dr d3 (by decide)
     clear q0 q1 kr d3
     by_cases hk0 : kd = 0
     · subst hk0
       go_wp2_with fail
       refine (next_any g 3 _ HD.out.s' (by omega)).mono ?_
       rintro e wA ⟨r4, rfl, _, _, d4⟩
       replace HO := Lib.hid (HO.out.dr d4 (by decide))
       replace HD := Lib.hid (HD.out.trans d4)
       have kA := k3.dr d4 (by decide)
       clear k3 d4
       by_cases hr4 : 0 < r4
       · have hr4b : decide (0 < r4) = true := by simpa using hr4
         go_wp2_with (at_builtin; refine wpList_app1 (cutW wA w.heap.size) wA 24 2 _ _ Tryz.underlying24 info_i rfl (by omega) rfl _ _ rfl A1 j c1 _ _ (HO.out.mk_ HD.out.size) (by omega) rfl rfl rfl ?_; intro A8 c8 w8 hM8 hg8 _)
         have k8 := kA.grown hg8 (HO.out.ne_blk kA (by decide))
         have hO3 := hM8.own_ (cutW_size HD.out.size)
         have hd3 := HD.out.grown HO.out hg8
         clear hM8 hg8 kA
         go_roundw
         case rel => exact ⟨j + 1, A8, c8, xs ++ [0], by omega, by go_num, rfl, Lib.hid (by simpa [ints] using hO3), k8, Lib.hid hd3⟩
         case measure => simp [intOf]; omega
       · have hr4b : decide (0 < r4) = false := by simpa using hr4
         go_wp2_with (at_builtin; refine wpList_app1 (cutW wA w.heap.size) wA 24 2 _ _ Tryz.underlying24 info_i rfl (by omega) rfl _ _ rfl A1 j c1 _ _ (HO.out.mk_ HD.out.size) (by omega) rfl rfl rfl ?_; intro A8 c8 w8 hM8 hg8 _)
         have k8 := kA.grown hg8 (HO.out.ne_blk kA (by decide))
         have hO3 := hM8.own_ (cutW_size HD.out.size)
         have hd3 := HD.out.grown HO.out hg8
         clear hM8 hg8 kA
         go_roundw
         case rel => exact ⟨j + 1, A8, c8, xs ++ [r3], by omega, by go_num, rfl, Lib.hid (by simpa [ints] using hO3), k8, Lib.hid hd3⟩
         case measure => simp [intOf]; omega
     · have hk0b : (kd == 0) = false := by simpa using hk0
       obtain ⟨wA, hwA⟩ : ∃ W, W = w3 := ⟨_, rfl⟩
       rw [← hwA] at HO HD k3 ⊢
       have kA := k3
       clear k3 hwA
       go_wp2_with (at_builtin; refine wpList_app1 (cutW wA w.heap.size) wA 24 2 _ _ Tryz.underlying24 info_i rfl (by omega) rfl _ _ rfl A1 j c1 _ _ (HO.out.mk_ HD.out.size) (by omega) rfl rfl rfl ?_; intro A8 c8 w8 hM8 hg8 _)
       have k8 := kA.grown hg8 (HO.out.ne_blk kA (by decide))
       have hO3 := hM8.own_ (cutW_size HD.out.size)
       have hd3 := HD.out.grown HO.out hg8
       clear hM8 hg8 kA
       go_roundw
       case rel => exact ⟨j + 1, A8, c8, xs ++ [r3], by omega, by go_num, rfl, Lib.hid (by simpa [ints] using hO3), k8, Lib.hid hd3⟩
       case measure => simp [intOf]; omega
   · obtain rfl : j = 16 := by omega
     have hjl : decide (((16 : Nat) : Int) < 16) = false := by simp
     go_wp2_with fail
     refine (next_any g 60 _ HD.out.s' (by omega)).mono ?_
     rintro e w3 ⟨sw, rfl, _, _, d3⟩
     replace HO := Lib.hid (HO.out.dr d3 (by decide))
     replace HD := Lib.hid (HD.out.trans d3)
     have k3 := kr.dr d3 (by decide)
     clear q0 q1 kr d3
     rcases HO.out.form with ⟨_, hz⟩ | ⟨gA, rfl, hg1, hg2⟩
     · omega
     by_cases hs0 : sw = 0
     · have hs0b : (sw == 0) = true := by simp [hs0]
       obtain ⟨q0, q1⟩ := k3.two
       have hd6 := (Dr.refl HD.out.s').alloc (.cells #[.int .i64 (-1), .int .i64 P] 2)
       have hpk := pick_any g w3.heap.size [-1, P] _ hd6.s' (by rw [ints2]; exact Blk.new w3 2 _) (by simp) (by simp)
       go_wp2_with fail
       refine hpk.mono ?_
       rintro e w4 ⟨r4, _, rfl, d4⟩
       replace HO := Lib.hid (HO.out.dr (hd6.trans d4) (by decide))
       replace HD := Lib.hid (HD.out.trans (hd6.trans d4))
       obtain ⟨u0, hc0⟩ := HO.out.cellI (show 0 < 16 by omega)
       have ff := HO.out.frozen_ 0
       obtain ⟨hO7, hg7⟩ := HO.out.set_ 0 (.int .i64 r4)
       rw [ints_set] at hO7
       have hd7 := HD.out.grown HO.out hg7
       clear hpk hd6 d4 k3 q0 q1 hg7
       go_wp2
       go_ret
       first | exact ⟨_, _, _, _, rfl, by omega, OwnT.of hO7, hd7⟩ | exact ⟨_, _, _, rfl, by omega, ⟨_, OwnT.of hO7⟩, hd7⟩
     · have hs0b : (sw == 0) = false := by simpa using hs0
       by_cases hs1 : sw = 1
       · have hs1b : (sw == 1) = true := by simp [hs1]
         have hcp := HO.out.cap
         by_cases hc1 : c1 = 1
         · subst hc1
           have sl := fun w => slice_from1 (g := gA) (m := 16) (c := 1) w (by omega) hcp
           rw [if_pos rfl] at sl
           omega
         · have sl := fun w => slice_from1 (g := gA) (m := 16) (c := c1) w (by omega) hcp
           rw [if_neg hc1] at sl
           clear hcp
           go_wp2
           go_ret
           first | exact ⟨_, _, _, _, rfl, by omega, OwnT.tail1 (m := 16 - 1) HO.out hc1, HD.out⟩ | exact ⟨_, _, _, rfl, by omega, ⟨_, OwnT.tail1 (m := 16 - 1) HO.out hc1⟩, HD.out⟩
       · have hs1b : (sw == 1) = false := by simpa using hs1
         go_wp2
         go_ret
         first | exact ⟨_, _, _, _, rfl, by omega, OwnT.of HO.out, HD.out⟩ | exact ⟨_, _, _, rfl, by omega, ⟨_, OwnT.of HO.out⟩, HD.out⟩
set_option maxHeartbeats 3200000 in
set_option maxRecDepth 8000 in
theorem l11DrawElement_5 (g : Nat) (P : Int) (A : Option Addr) (c : Nat) (w : World) (hs : Src w g 124) (hP0 : 0 ≤ P) (hP17 : P ≤ 17) :
    Calls Tryz.prog 46 #[.pointer (some ⟨g, 0, none⟩), .agg #[.int .i64 P, .slice A 5 c]] w fun e w' => ∃ (A' : Option Addr) (m c' : Nat) (xs : List Int), e = .returned (.slice A' m c') ∧ m ≤ 16 ∧ OwnT w' w.heap.size A' m c' xs ∧ Dr g 124 w w' := by
 have hd1 := ((Dr.refl hs).alloc (.cells #[.int .i64 P, .slice A 5 c] 26)).alloc (.cells #[] 2)
 have k1 : Blk ((w.alloc (.cells #[.int .i64 P, .slice A 5 c] 26)).alloc (.cells #[] 2)) w.heap.size 26 #[.int .i64 P, .slice A 5 c] := (Blk.new _ _ _).alloc _
 have hO1 : Own ((w.alloc (.cells #[.int .i64 P, .slice A 5 c] 26)).alloc (.cells #[] 2)) w.heap.size 2 (some ⟨w.heap.size + 1, 0, none⟩) 0 0 (ints []) := by
  have := (Mk.lit (E := 2) ((Below.refl w.heap.size w).alloc (Nat.le_refl _) (.cells #[.int .i64 P, .slice A 5 c] 26)) #[] (by simp)).2
  simpa [ints] using this
 have hnx := next_any g 4 _ hd1.s' (by omega)
 go_enter Tryz.func46, Tryz.ntmps46
 go_wp2_with fail
 refine hnx.mono ?_
 rintro e w2 ⟨kd, rfl, kd1, kd2, hd2⟩
 have kd3 := kd2 (by omega)
 have k2 := k1.dr hd2 (by decide)
 have HO2 := Lib.hid (hO1.dr hd2 (by decide))
 have HD2 := Lib.hid (hd1.trans hd2)
 clear hnx hd1 k1 hO1 hd2 kd2
 by_cases hP1 : P ≤ 1
 all_goals
  go_wp2
  go_loopw [5, 7] (fun out i wr => ∃ (j : Nat) (A1 : Option Addr) (c1 : Nat) (xs : List Int), j ≤ 16 ∧ i = .int .i64 j ∧ out = .slice A1 j c1 ∧ Hid (Own wr w.heap.size 2 A1 j c1 (ints xs)) ∧ Blk wr w.heap.size 26 #[.int .i64 P, .slice A 5 c] ∧ Hid (Dr g 124 w wr)) (fun _ i _ => 16 - (intOf i).toNat)
  case atStart => exact ⟨0, _, _, [], by omega, rfl, rfl, HO2, k2, HD2⟩
  case round =>
   obtain ⟨j, A1, c1, xs, hj, rfl, rfl, HO, kr, HD⟩ := hrel
   clear k2 HO2 HD2
   obtain ⟨q0, q1⟩ := kr.two
   by_cases hlt : j < 16
   · have hjl : decide ((j : Int) < 16) = true := by rw [decide_eq_true_eq]; omega
     go_wp2_with fail
     refine (next_any g _ _ HD.out.s' (by omega)).mono ?_
     rintro e w3 ⟨r3, rfl, _, _, d3⟩
     replace HO := Lib.hid (HO.out.dr d3 (by decide))
     replace HD := Lib.hid (HD.out.trans d3)
     have k3 := kr.dr d3 (by decide)
     clear q0 q1 kr d3
     by_cases hk0 : kd = 0
     · subst hk0
       go_wp2_with fail
       refine (next_any g 3 _ HD.out.s' (by omega)).mono ?_
       rintro e wA ⟨r4, rfl, _, _, d4⟩
       replace HO := Lib.hid (HO.out.dr d4 (by decide))
       replace HD := Lib.hid (HD.out.trans d4)
       have kA := k3.dr d4 (by decide)
       clear k3 d4
       by_cases hr4 : 0 < r4
       · have hr4b : decide (0 < r4) = true := by simpa using hr4
         go_wp2_with (at_builtin; refine wpList_app1 (cutW wA w.heap.size) wA 24 2 _ _ Tryz.underlying24 info_i rfl (by omega) rfl _ _ rfl A1 j c1 _ _ (HO.out.mk_ HD.out.size) (by omega) rfl rfl rfl ?_; intro A8 c8 w8 hM8 hg8 _)
         have k8 := kA.grown hg8 (HO.out.ne_blk kA (by decide))
         have hO3 := hM8.own_ (cutW_size HD.out.size)
         have hd3 := HD.out.grown HO.out hg8
         clear hM8 hg8 kA
         go_roundw
         case rel => exact ⟨j + 1, A8, c8, xs ++ [0], by omega, by go_num, rfl, Lib.hid (by simpa [ints] using hO3), k8, Lib.hid hd3⟩
         case measure => simp [intOf]; omega
       · have hr4b : decide (0 < r4) = false := by simpa using hr4
         go_wp2_with (at_builtin; refine wpList_app1 (cutW wA w.heap.size) wA 24 2 _ _ Tryz.underlying24 info_i rfl (by omega) rfl _ _ rfl A1 j c1 _ _ (HO.out.mk_ HD.out.size) (by omega) rfl rfl rfl ?_; intro A8 c8 w8 hM8 hg8 _)
         have k8 := kA.grown hg8 (HO.out.ne_blk kA (by decide))
         have hO3 := hM8.own_ (cutW_size HD.out.size)
         have hd3 := HD.out.grown HO.out hg8
         clear hM8 hg8 kA
         go_roundw
         case rel => exact ⟨j + 1, A8, c8, xs ++ [r3], by omega, by go_num, rfl, Lib.hid (by simpa [ints] using hO3), k8, Lib.hid hd3⟩
         case measure => simp [intOf]; omega
     · have hk0b : (kd == 0) = false := by simpa using hk0
       obtain ⟨wA, hwA⟩ : ∃ W, W = w3 := ⟨_, rfl⟩
       rw [← hwA] at HO HD k3 ⊢
       have kA := k3
       clear k3 hwA
       go_wp2_with (at_builtin; refine wpList_app1 (cutW wA w.heap.size) wA 24 2 _ _ Tryz.underlying24 info_i rfl (by omega) rfl _ _ rfl A1 j c1 _ _ (HO.out.mk_ HD.out.size) (by omega) rfl rfl rfl ?_; intro A8 c8 w8 hM8 hg8 _)
       have k8 := kA.grown hg8 (HO.out.ne_blk kA (by decide))
       have hO3 := hM8.own_ (cutW_size HD.out.size)
       have hd3 := HD.out.grown HO.out hg8
       clear hM8 hg8 kA
       go_roundw
       case rel => exact ⟨j + 1, A8, c8, xs ++ [r3], by omega, by go_num, rfl, Lib.hid (by simpa [ints] using hO3), k8, Lib.hid hd3⟩
       case measure => simp [intOf]; omega
   · obtain rfl : j = 16 := by omega
     have hjl : decide (((16 : Nat) : Int) < 16) = false := by simp
     go_wp2_with fail
     refine (next_any g 60 _ HD.out.s' (by omega)).mono ?_
     rintro e w3 ⟨sw, rfl, _, _, d3⟩
     replace HO := Lib.hid (HO.out.dr d3 (by decide))
     replace HD := Lib.hid (HD.out.trans d3)
     have k3 := kr.dr d3 (by decide)
     clear q0 q1 kr d3
     rcases HO.out.form with ⟨_, hz⟩ | ⟨gA, rfl, hg1, hg2⟩
     · omega
     by_cases hs0 : sw = 0
     · have hs0b : (sw == 0) = true := by simp [hs0]
       obtain ⟨q0, q1⟩ := k3.two
       have hd6 := (Dr.refl HD.out.s').alloc (.cells #[.int .i64 (-1), .int .i64 P] 2)
       have hpk := pick_any g w3.heap.size [-1, P] _ hd6.s' (by rw [ints2]; exact Blk.new w3 2 _) (by simp) (by simp)
       go_wp2_with fail
       refine hpk.mono ?_
       rintro e w4 ⟨r4, _, rfl, d4⟩
       replace HO := Lib.hid (HO.out.dr (hd6.trans d4) (by decide))
       replace HD := Lib.hid (HD.out.trans (hd6.trans d4))
       obtain ⟨u0, hc0⟩ := HO.out.cellI (show 0 < 16 by omega)
       have ff := HO.out.frozen_ 0
       obtain ⟨hO7, hg7⟩ := HO.out.set_ 0 (.int .i64 r4)
       rw [ints_set] at hO7
       have hd7 := HD.out.grown HO.out hg7
       clear hpk hd6 d4 k3 q0 q1 hg7
       go_wp2
       go_ret
       first | exact ⟨_, _, _, _, rfl, by omega, OwnT.of hO7, hd7⟩ | exact ⟨_, _, _, rfl, by omega, ⟨_, OwnT.of hO7⟩, hd7⟩
     · have hs0b : (sw == 0) = false := by simpa using hs0
       by_cases hs1 : sw = 1
       · have hs1b : (sw == 1) = true := by simp [hs1]
         have hcp := HO.out.cap
         by_cases hc1 : c1 = 1
         · subst hc1
           have sl := fun w => slice_from1 (g := gA) (m := 16) (c := 1) w (by omega) hcp
           rw [if_pos rfl] at sl
           omega
         · have sl := fun w => slice_from1 (g := gA) (m := 16) (c := c1) w (by omega) hcp
           rw [if_neg hc1] at sl
           clear hcp
           go_wp2
           go_ret
           first | exact ⟨_, _, _, _, rfl, by omega, OwnT.tail1 (m := 16 - 1) HO.out hc1, HD.out⟩ | exact ⟨_, _, _, rfl, by omega, ⟨_, OwnT.tail1 (m := 16 - 1) HO.out hc1⟩, HD.out⟩
       · have hs1b : (sw == 1) = false := by simpa using hs1
         go_wp2
         go_ret
         first | exact ⟨_, _, _, _, rfl, by omega, OwnT.of HO.out, HD.out⟩ | exact ⟨_, _, _, rfl, by omega, ⟨_, OwnT.of HO.out⟩, HD.out⟩
theorem l11DrawElement_any (g : Nat) (P : Int) (A : Option Addr) (n c : Nat) (w : World) (hs : Src w g 124) (hP0 : 0 ≤ P) (hP17 : P ≤ 17) (hn : n ≤ 5) :
    Calls Tryz.prog 46 #[.pointer (some ⟨g, 0, none⟩), .agg #[.int .i64 P, .slice A n c]] w fun e w' => ∃ (A' : Option Addr) (m c' : Nat) (xs : List Int), e = .returned (.slice A' m c') ∧ m ≤ 16 ∧ OwnT w' w.heap.size A' m c' xs ∧ Dr g 124 w w' := by
 match n, hn with
 | 0, _ => exact l11DrawElement_0 g P A c w hs hP0 hP17
 | 1, _ => exact l11DrawElement_1 g P A c w hs hP0 hP17
 | 2, _ => exact l11DrawElement_2 g P A c w hs hP0 hP17
 | 3, _ => exact l11DrawElement_3 g P A c w hs hP0 hP17
 | 4, _ => exact l11DrawElement_4 g P A c w hs hP0 hP17
 | 5, _ => exact l11DrawElement_5 g P A c w hs hP0 hP17
/-- Rows that are elements drawn. -/
def GoodR (w : World) (B : Nat) (rows : List Value) : Prop := ∀ u ∈ rows, ∃ (A1 : Option Addr) (m1 c1 : Nat) (xs1 : List Int), u = .slice A1 m1 c1 ∧ m1 ≤ 16 ∧ OwnT w B A1 m1 c1 xs1
theorem GoodR.dr {w w' : World} {g B : Nat} {T : TypeId} {rows : List Value} (h : GoodR w B rows) (d : Dr g T w w') (hne : 2 ≠ T) : GoodR w' B rows := fun u hu => by
 obtain ⟨A1, m1, c1, xs1, e, h1, h2⟩ := h u hu; exact ⟨A1, m1, c1, xs1, e, h1, h2.dr d hne⟩
theorem GoodR.snoc {w w' : World} {B B2 : Nat} {rows us : List Value} {A A2 : Option Addr} {m c n2 c2 : Nat} {xs : List Int} (h : GoodR w B rows) (ho : OwnT w B A m c xs) (hm : m ≤ 16) (ho2 : Own w B2 24 A2 n2 c2 us) (hg : w.grownBy w' (Value.slice A2 n2 c2).ownBlock) : GoodR w' B (rows ++ [.slice A m c]) := fun u hu => by
 rcases List.mem_append.1 hu with hu | hu
 · obtain ⟨A1, m1, c1, xs1, e, h1, h2⟩ := h u hu; exact ⟨A1, m1, c1, xs1, e, h1, h2.grown ho2 (by decide) hg⟩
 · obtain rfl : u = .slice A m c := by simpa using hu
   exact ⟨A, m, c, xs, rfl, hm, ho.grown ho2 (by decide) hg⟩
/-- The store of a doubling into the result's cell. -/
def RelD (res : Nat) (w w' : World) : Prop := ∃ (p : Int) (A : Option Addr) (n c : Nat) (p' : Int) (A' : Option Addr) (n' c' : Nat), Blk w res 26 #[.int .i64 p, .slice A n c] ∧ w' = (w.setCell ⟨res, 0, none⟩ (.int .i64 p')).setCell ⟨res, 1, none⟩ (.slice A' n' c')
theorem Own.relD {w w' : World} {res : Nat} {B : Nat} {E : TypeId} {A : Option Addr} {n c : Nat} {us : List Value} (h : Own w B E A n c us) (hE : E ≠ 26) (r : RelD res w w') : Own w' B E A n c us := by
 obtain ⟨p, A1, n1, c1, p', A', n', c', k, rfl⟩ := r
 exact (h.far k hE 0 _).far (k.set_ 0 (.int .i64 p')) hE 1 _
theorem OwnT.relD {w w' : World} {res : Nat} {B : Nat} {A : Option Addr} {n c : Nat} {xs : List Int} (h : OwnT w B A n c xs) (r : RelD res w w') : OwnT w' B A n c xs := by
 obtain ⟨hc, A0, n0, c0, us, ho, hr⟩ := h; exact ⟨hc, A0, n0, c0, us, ho.relD (by decide) r, hr⟩
theorem Blk.relD {w w' : World} {res b : Nat} {t : TypeId} {cs : Array Value} (h : Blk w b t cs) (hne : b ≠ res) (r : RelD res w w') : Blk w' b t cs := by
 obtain ⟨p, A1, n1, c1, p', A', n', c', k, rfl⟩ := r
 exact (h.far hne _).far hne _
theorem below_relD {w0 w w' : World} {B res : Nat} (h : Below B w0 w) (hres : B ≤ res) (r : RelD res w w') : Below B w0 w' := by
 obtain ⟨p, A1, n1, c1, p', A', n', c', k, rfl⟩ := r
 exact (h.setCell (p := ⟨res, 0, none⟩) hres _).setCell (p := ⟨res, 1, none⟩) hres _
def SBd (res : Nat) (w : World) : Prop := ∃ (p : Int) (A : Option Addr) (n c : Nat), Blk w res 26 #[.int .i64 p, .slice A n c]
theorem SBd.below {w w' : World} {res : Nat} (h : SBd res w) (hb : Below w.heap.size w w') : SBd res w' := by obtain ⟨p, A, n, c, k⟩ := h; exact ⟨p, A, n, c, k.below hb k.lt⟩
theorem SBd.relD {w w' : World} {res : Nat} (_h : SBd res w) (r : RelD res w w') : SBd res w' := by
 obtain ⟨p, A1, n1, c1, p', A', n', c', k, rfl⟩ := r
 exact ⟨p', A', n', c', by simpa using (k.set_ 0 (.int .i64 p')).set_ 1 (.slice A' n' c')⟩
theorem own2_cells {w : World} {B g c : Nat} {E : TypeId} {a b : Value} (h : Own w B E (some ⟨g, 0, none⟩) 2 c [a, b]) : w.cell? ⟨g, 0, none⟩ = some a ∧ w.cell? ⟨g, 1, none⟩ = some b := by
 obtain ⟨u, h1, h2⟩ := h.cell_ (k := 0) (by omega)
 obtain ⟨v, h3, h4⟩ := h.cell_ (k := 1) (by omega)
 simp at h1 h3
 rw [h1, h3]
 exact ⟨h2, h4⟩
theorem Blk.storedD {w : World} {res : Nat} {p' : Int} {A' : Option Addr} {n' c' : Nat} {a b : Value} (k : Blk w res 26 #[a, b]) : Blk ((w.setCell ⟨res, 0, none⟩ (.int .i64 p')).setCell ⟨res, 1, none⟩ (.slice A' n' c')) res 26 #[.int .i64 p', .slice A' n' c'] := by
 simpa using (k.set_ 0 (.int .i64 p')).set_ 1 (.slice A' n' c')
/-- What a draw of a doubling leaves. -/
def DrewD (w : World) (e : Ending) (w' : World) : Prop := ∃ (P : Int) (A : Option Addr) (n c : Nat) (st : List Int), e = .returned (.agg #[.int .i64 P, .slice A n c]) ∧ 0 ≤ P ∧ P ≤ 17 ∧ n ≤ 5 ∧ Own w' w.heap.size 2 A n c (ints st) ∧ Below w.heap.size w w'
/-- What a draw of a doubling and two elements leaves. -/
def DrewDE (w : World) (e : Ending) (w' : World) : Prop := ∃ (P : Int) (A : Option Addr) (n c : Nat) (st : List Int) (X : Option Addr) (m cx : Nat) (xs : List Int) (Y : Option Addr) (m2 cy : Nat) (ys : List Int), e = .returned (.tuple #[.agg #[.int .i64 P, .slice A n c], .slice X m cx, .slice Y m2 cy]) ∧ (0 ≤ P ∧ P ≤ 17) ∧ n ≤ 5 ∧ m ≤ 16 ∧ m2 ≤ 16 ∧ Own w' w.heap.size 2 A n c (ints st) ∧ OwnT w' w.heap.size X m cx xs ∧ OwnT w' w.heap.size Y m2 cy ys ∧ Below w.heap.size w w'
set_option maxHeartbeats 3200000 in
set_option maxRecDepth 8000 in
theorem DrawIsDoubling_any (B : Option Addr) (nb cb : Nat) (bs : List Int) (w : World) (hnb : nb ≤ 4096) (r : Rd w B nb (bs.map (Value.int .u8))) (hbs : ∀ b ∈ bs, 0 ≤ b ∧ b < 256) (hbg : ∀ a, B = some a → a.block < w.heap.size) :
    Calls Tryz.prog 40 #[.slice B nb cb] w (DrewD w) := by
 have hB0 : Below w.heap.size w (w.alloc (.cells #[.int .i64 0, .slice none 0 0] 26)) := zG.alloc (Nat.le_refl _) _
 have k0 : Blk (w.alloc (.cells #[.int .i64 0, .slice none 0 0] 26)) w.heap.size 26 #[.int .i64 0, .slice none 0 0] := Blk.new _ _ _
 have hfr := from__any B nb cb bs (w.alloc (.cells #[.int .i64 0, .slice none 0 0] 26)) hnb (r.below hB0) hbs (fun a e => by have := hbg a e; simp; omega)
 go_enter Tryz.func40, Tryz.ntmps40
 go_wp2_with fail
 refine hfr.mono ?_
 rintro e w2 ⟨g, rfl, hg, hs2, hb2⟩
 have k2 := k0.below hb2 k0.lt
 have hB2 := hB0.trans (hb2.mono hB0.size)
 have hgw : w.heap.size ≤ g := Nat.le_trans hB0.size hg
 clear hfr hb2 k0 hB0 hg
 go_wp2_with fail
 refine (l11DrawAny_any g 4 w2 hs2 (by omega) (by omega)).mono ?_
 rintro e w3 ⟨P, A, n, c, st, rfl, hP0, hP, hn, hO, hd3⟩
 have k3 := k2.dr hd3 (by decide)
 have hB3 := hd3.down hB2 hgw
 have hO3 := hO.base (B' := w.heap.size) hB2.size
 obtain ⟨p0, p1⟩ := k3.two
 have f0 := k3.frozen 0
 have f1 := k3.frozen 1
 have hrl : RelD w.heap.size w3 ((w3.setCell ⟨w.heap.size, 0, none⟩ (.int .i64 P)).setCell ⟨w.heap.size, 1, none⟩ (.slice A n c)) := ⟨_, _, _, _, _, _, _, _, k3, rfl⟩
 clear k2 hs2 hd3 hO
 go_wp2
 exact bodyPost_ret (v := .agg #[.int .i64 P, .slice A n c]) (by simp [results, Tryz.results40, go_sem, p0, p1]) rfl ⟨P, A, n, c, st, rfl, hP0, hP, hn, hO3.relD (by decide) hrl, below_relD hB3 (Nat.le_refl _) hrl⟩
set_option maxHeartbeats 3200000 in
set_option maxRecDepth 8000 in
theorem DrawDerivationDimension_any (B : Option Addr) (nb cb : Nat) (bs : List Int) (w : World) (hnb : nb ≤ 4096) (r : Rd w B nb (bs.map (Value.int .u8))) (hbs : ∀ b ∈ bs, 0 ≤ b ∧ b < 256) (hbg : ∀ a, B = some a → a.block < w.heap.size) :
    Calls Tryz.prog 23 #[.slice B nb cb] w (DrewD w) := by
 have hB0 : Below w.heap.size w (w.alloc (.cells #[.int .i64 0, .slice none 0 0] 26)) := zG.alloc (Nat.le_refl _) _
 have k0 : Blk (w.alloc (.cells #[.int .i64 0, .slice none 0 0] 26)) w.heap.size 26 #[.int .i64 0, .slice none 0 0] := Blk.new _ _ _
 have hfr := DrawIsDoubling_any B nb cb bs (w.alloc (.cells #[.int .i64 0, .slice none 0 0] 26)) hnb (r.below hB0) hbs (fun a e => by have := hbg a e; simp; omega)
 go_enter Tryz.func23, Tryz.ntmps23
 go_wp2_with fail
 refine hfr.mono ?_
 rintro e w3 ⟨P, A, n, c, st, rfl, hP0, hP, hn, hO, hb3⟩
 have k3 := k0.below hb3 k0.lt
 have hB3 := hB0.trans (hb3.mono hB0.size)
 have hO3 := hO.base (B' := w.heap.size) hB0.size
 obtain ⟨p0, p1⟩ := k3.two
 have f0 := k3.frozen 0
 have f1 := k3.frozen 1
 have hrl : RelD w.heap.size w3 ((w3.setCell ⟨w.heap.size, 0, none⟩ (.int .i64 P)).setCell ⟨w.heap.size, 1, none⟩ (.slice A n c)) := ⟨_, _, _, _, _, _, _, _, k3, rfl⟩
 clear k0 hb3 hO hfr
 go_wp2
 exact bodyPost_ret (v := .agg #[.int .i64 P, .slice A n c]) (by simp [results, Tryz.results23, go_sem, p0, p1]) rfl ⟨P, A, n, c, st, rfl, hP0, hP, hn, hO3.relD (by decide) hrl, below_relD hB3 (Nat.le_refl _) hrl⟩
set_option maxHeartbeats 6400000 in
set_option maxRecDepth 8000 in
theorem l12Draw_any (B : Option Addr) (nb cb : Nat) (bs : List Int) (w : World) (hnb : nb ≤ 4096) (r : Rd w B nb (bs.map (Value.int .u8))) (hbs : ∀ b ∈ bs, 0 ≤ b ∧ b < 256) (hbg : ∀ a, B = some a → a.block < w.heap.size) (cnt : Nat) (hcnt : cnt ≤ 100) :
    Calls Tryz.prog 120 #[.slice B nb cb, .int .i64 cnt] w fun e w' => ∃ (P : Int) (A : Option Addr) (n c : Nat) (st : List Int) (OA : Option Addr) (oc : Nat) (rows : List Value), e = .returned (.tuple #[.agg #[.int .i64 P, .slice A n c], .slice OA cnt oc]) ∧ (0 ≤ P ∧ P ≤ 17) ∧ n ≤ 5 ∧ Own w' w.heap.size 2 A n c (ints st) ∧ Own w' w.heap.size 24 OA cnt oc rows ∧ GoodR w' w.heap.size rows ∧ Below w.heap.size w w' := by
 have hB0 : Below w.heap.size w (w.alloc (.cells #[.int .i64 0, .slice none 0 0] 26)) := zG.alloc (Nat.le_refl _) _
 have k0 : Blk (w.alloc (.cells #[.int .i64 0, .slice none 0 0] 26)) w.heap.size 26 #[.int .i64 0, .slice none 0 0] := Blk.new _ _ _
 have hfr := from__any B nb cb bs (w.alloc (.cells #[.int .i64 0, .slice none 0 0] 26)) hnb (r.below hB0) hbs (fun a e => by have := hbg a e; simp; omega)
 go_enter Tryz.func120, Tryz.ntmps120
 go_wp2_with fail
 refine hfr.mono ?_
 rintro e w2 ⟨g, rfl, hg, hs2, hb2⟩
 have k2 := k0.below hb2 k0.lt
 have hB2 := hB0.trans (hb2.mono hB0.size)
 have hgw : w.heap.size ≤ g := Nat.le_trans hB0.size hg
 clear hfr hb2 k0 hB0 hg
 go_wp2_with fail
 refine (l11DrawAny_any g 4 w2 hs2 (by omega) (by omega)).mono ?_
 rintro e w3 ⟨P, A, n, c, st, rfl, hP0, hP, hn, hO, hd3⟩
 have hs3 := hd3.size
 have hlt3 : w.heap.size < w3.heap.size := Nat.lt_of_lt_of_le k2.lt hs3
 have hd5 := (hd3.alloc (.cells #[.int .i64 P, .slice A n c] 26)).alloc (.cells #[] 24)
 have k5 := ((k2.dr hd3 (by decide)).alloc (.cells #[.int .i64 P, .slice A n c] 26)).alloc (.cells #[] 24)
 have kb5 := (Blk.new w3 26 #[.int .i64 P, .slice A n c]).alloc (.cells #[] 24)
 have hO5 := ((hO.base (B' := w.heap.size) hB2.size).below (zG.alloc (Nat.le_refl _) (.cells #[.int .i64 P, .slice A n c] 26))).below (zG.alloc (Nat.le_refl _) (.cells #[] 24))
 have hB5 := hd5.down hB2 hgw
 have hL5 : Own ((w3.alloc (.cells #[.int .i64 P, .slice A n c] 26)).alloc (.cells #[] 24)) (g + 1) 24 (some ⟨w3.heap.size + 1, 0, none⟩) 0 0 [] := Own.of_cells (cs := #[]) (by have := hs2.lt; omega) (Blk.newAt3 (w := w3.alloc (.cells #[.int .i64 P, .slice A n c] 26)) (g := w3.heap.size + 1) (by simp)) (by simp [maxLen])
 have hs5 := hd5.s'
 clear k2 hs2 hd3 hO hB2 hs3 hd5
 go_wp2
 go_loopw [8, 1] (fun out q wr => ∃ (j m : Nat) (OA : Option Addr) (oc : Nat) (rows : List Value), j + m = cnt ∧ q = .int .i64 m ∧ out = .slice OA j oc ∧ Blk wr w.heap.size 26 #[.int .i64 0, .slice none 0 0] ∧ Blk wr w3.heap.size 26 #[.int .i64 P, .slice A n c] ∧ Hid (Own wr w.heap.size 2 A n c (ints st)) ∧ Hid (Own wr (g + 1) 24 OA j oc rows) ∧ Hid (GoodR wr w.heap.size rows) ∧ Hid (Src wr g 124) ∧ Hid (Below w.heap.size w wr)) (fun _ q _ => (intOf q).toNat)
 case atStart => exact ⟨0, cnt, _, _, [], by omega, rfl, rfl, k5, kb5, Lib.hid hO5, Lib.hid hL5, Lib.hid (fun u hu => by cases hu), Lib.hid hs5, Lib.hid hB5⟩
 case round =>
  obtain ⟨j, m, OA, oc, rows, hjm, rfl, rfl, k4, k6, HO, HL, HG, HS, HB⟩ := hrel
  clear k5 kb5 hO5 hL5 hs5 hB5
  cases m with
  | zero =>
   obtain rfl : j = cnt := by omega
   obtain ⟨q0, q1⟩ := k6.two
   obtain ⟨p0, p1⟩ := k4.two
   have f0 := k4.frozen 0
   have f1 := k4.frozen 1
   have hrl : RelD w.heap.size wr ((wr.setCell ⟨w.heap.size, 0, none⟩ (.int .i64 P)).setCell ⟨w.heap.size, 1, none⟩ (.slice A n c)) := ⟨_, _, _, _, _, _, _, _, k4, rfl⟩
   have HG2 := Lib.hid (show GoodR ((wr.setCell ⟨w.heap.size, 0, none⟩ (.int .i64 P)).setCell ⟨w.heap.size, 1, none⟩ (.slice A n c)) w.heap.size rows from fun u hu => by
    obtain ⟨A1, m1, c1, xs1, e, h1, h2⟩ := HG.out u hu; exact ⟨A1, m1, c1, xs1, e, h1, h2.relD hrl⟩)
   go_wp2
   first
    | exact bodyPost_ret (v := .tuple #[.agg #[.int .i64 P, .slice A n c], .slice OA j oc]) (by simp [results, Tryz.results120, go_sem, p0, p1]) rfl ⟨P, A, n, c, st, OA, oc, rows, rfl, ⟨hP0, hP⟩, hn, HO.out.relD (by decide) hrl, (HL.out.base (by omega)).relD (by decide) hrl, HG2.out, below_relD HB.out (Nat.le_refl _) hrl⟩
    | exact bodyPost_ret (v := .tuple #[.agg #[.int .i64 P, .slice A n c], .slice OA j oc]) (by simp [results, Tryz.results120, go_sem, p0, p1]) rfl ⟨P, A, n, c, st, OA, oc, rfl, ⟨hP0, hP⟩, hn, HO.out.relD (by decide) hrl, ⟨rows, (HL.out.base (by omega)).relD (by decide) hrl, HG2.out⟩, below_relD HB.out (Nat.le_refl _) hrl⟩
  | succ m =>
   have d1 : decide (0 < ((m + 1 : Nat) : Int)) = true := by rw [decide_eq_true_eq]; omega
   have WM : wrap64 (((m + 1 : Nat) : Int) - 1) = (m : Int) := by unfold wrap64; omega
   obtain ⟨q0, q1⟩ := k6.two
   go_wp2_with fail
   refine (l11DrawElement_any g P A n c wr HS.out hP0 hP hn).mono ?_
   rintro e wA ⟨A3, m3, c3, xs3, rfl, hm3, ho3, d3⟩
   have hsz := HB.out.size
   have HO2 := Lib.hid (HO.out.dr d3 (by decide))
   have HL2 := Lib.hid (HL.out.dr d3 (by decide))
   have HG2 := Lib.hid (HG.out.dr d3 (by decide))
   have HB2 := Lib.hid (d3.down HB.out hgw)
   have HT2 := Lib.hid (ho3.base (B' := w.heap.size) hsz)
   have HS2 := Lib.hid d3.s'
   have k4A := k4.dr d3 (by decide)
   have k6A := k6.dr d3 (by decide)
   clear HO HL HG HS HB k4 k6 q0 q1 d3 ho3 hsz
   go_wp2_with (at_builtin; refine wpList_app1 (cutW wA (g + 1)) wA 32 24 (.slice none 0 0) 24 Tryz.underlying32 info_s rfl (by omega) rfl _ _ rfl OA j oc rows (.slice A3 m3 c3) (HL2.out.mk_ HS2.out.lt) (by omega) rfl rfl rfl ?_; intro A8 c8 w8 hM8 hg8 _)
   have hL8 := hM8.own_ (cutW_size HS2.out.lt)
   have k4B := k4A.grown hg8 (HL2.out.ne_blk k4A (by decide))
   have k6B := k6A.grown hg8 (HL2.out.ne_blk k6A (by decide))
   have hO8 := HO2.out.grown hg8 (HO2.out.ne HL2.out (by decide))
   have hG8 := HG2.out.snoc HT2.out hm3 HL2.out hg8
   have hB8 : Below w.heap.size w w8 := HB2.out.grown hg8 HB2.out.size fun k hk => by have := (World.ownsRow.lt HL2.out k hk).1; omega
   have hS8 : Src w8 g 124 := HS2.out.keep (hg8.block g HS2.out.lt fun e => by have := (World.ownsRow.lt HL2.out g e.symm).1; omega) ((Below.refl g wA).grown hg8 (Nat.le_of_lt HS2.out.lt) fun k hk => by have := (World.ownsRow.lt HL2.out k hk).1; omega)
   clear hM8 hg8 k4A k6A
   go_roundw
   case rel => exact ⟨j + 1, m, A8, c8, _, by omega, by go_num, rfl, k4B, k6B, Lib.hid hO8, Lib.hid hL8, Lib.hid hG8, Lib.hid hS8, Lib.hid hB8⟩
   case measure => simp [intOf]
set_option maxHeartbeats 6400000 in
set_option maxRecDepth 8000 in
theorem DrawCommutatorOf_any (B : Option Addr) (nb cb : Nat) (bs : List Int) (w : World) (hnb : nb ≤ 4096) (r : Rd w B nb (bs.map (Value.int .u8))) (hbs : ∀ b ∈ bs, 0 ≤ b ∧ b < 256) (hbg : ∀ a, B = some a → a.block < w.heap.size) :
    Calls Tryz.prog 69 #[.slice B nb cb] w (DrewDE w) := by
 have hB0 : Below w.heap.size w (w.alloc (.cells #[.int .i64 0, .slice none 0 0] 26)) := zG.alloc (Nat.le_refl _) _
 have k0 : Blk (w.alloc (.cells #[.int .i64 0, .slice none 0 0] 26)) w.heap.size 26 #[.int .i64 0, .slice none 0 0] := Blk.new _ _ _
 have hfr := l12Draw_any B nb cb bs (w.alloc (.cells #[.int .i64 0, .slice none 0 0] 26)) hnb (r.below hB0) hbs (fun a e => by have := hbg a e; simp; omega) 2 (by omega)
 go_enter Tryz.func69, Tryz.ntmps69
 go_wp2_with fail
 refine hfr.mono ?_
 rintro e w2 ⟨P, A, n, c, st, OA, oc, rows, rfl, hP, hn, hO, hL, hG, hb2⟩
 have hlt2 : w.heap.size < w2.heap.size := Nat.lt_of_lt_of_le k0.lt hb2.size
 have k2 := k0.below hb2 k0.lt
 have hB2 := hB0.trans (hb2.mono hB0.size)
 have hrl : rows.length = 2 := hL.len
 obtain ⟨u1, u2, rfl⟩ : ∃ a b, rows = [a, b] := by
  match rows, hrl with
  | [a, b], _ => exact ⟨a, b, rfl⟩
 obtain ⟨X, m, cx, xs, rfl, hm1, hX⟩ := hG u1 (by simp)
 obtain ⟨Y, m2, cy, ys, rfl, hm2, hY⟩ := hG u2 (by simp)
 rcases hL.form with ⟨_, hz⟩ | ⟨gl, rfl, -, -⟩
 · omega
 have hA : Below w2.heap.size w2 (w2.alloc (.cells #[.int .i64 P, .slice A n c] 26)) := zG.alloc (Nat.le_refl _) _
 have k4 := k2.below hA k2.lt
 have kb4 := Blk.new w2 26 #[.int .i64 P, .slice A n c]
 have oL := (hL.base (B' := w.heap.size) hB0.size).below hA
 have oS := (hO.base (B' := w.heap.size) hB0.size).below hA
 have oX := (hX.base (B' := w.heap.size) hB0.size).below hA
 have oY := (hY.base (B' := w.heap.size) hB0.size).below hA
 have hB4 := hB2.trans (hA.mono hB2.size)
 clear hfr k0 hB0 hb2 hrl hL hO hG hX hY k2 hB2 hA
 go_wp2
 refine wp_obsS 10 (RelD w.heap.size) [[], [], [1], [1, 2], [], [4], [4, 5], [0], [1, 2, 3], [4, 5, 6]] [[], [], [], [], [], [], [], [99], [], []] (fun x => [VIs (.agg #[.int .i64 P, .slice A n c]), VIs (.slice (some ⟨gl, 0, none⟩) 2 oc), VIs (.pointer (some ⟨gl, 0, none⟩)), VIs (.slice X m cx), VIs (.slice (some ⟨gl, 0, none⟩) 2 oc), VIs (.pointer (some ⟨gl, 1, none⟩)), VIs (.slice Y m2 cy), VBk w.heap.size 26 #[.int .i64 P, .slice A n c], VIs (.slice X m cx), VIs (.slice Y m2 cy)]) (fun w' => SBd w.heap.size w' ∧ Blk w' w2.heap.size 26 #[.int .i64 P, .slice A n c] ∧ Own w' w.heap.size 24 (some ⟨gl, 0, none⟩) 2 oc [.slice X m cx, .slice Y m2 cy] ∧ Own w' w.heap.size 2 A n c (ints st) ∧ OwnT w' w.heap.size X m cx xs ∧ OwnT w' w.heap.size Y m2 cy ys ∧ Below w.heap.size w w') (by kernel_rfl) (by kernel_rfl) (fun x x' j hx => by
     rcases j with _ | _ | _ | _ | _ | _ | _ | _ | _ | _ | j
     · rfl
     · rfl
     · rfl
     · rfl
     · rfl
     · rfl
     · rfl
     · rfl
     · rfl
     · rfl
     · rfl)
  (weak_ofR [0, 1, 2, 3, 4, 5, 6, 8, 9] (by decide) (fun k hk x v w w' hp hr => by
   simp only [List.mem_cons, zJ, or_false] at hk
   rcases hk with rfl | rfl | rfl | rfl | rfl | rfl | rfl | rfl | rfl
   · exact hp
   · exact hp
   · exact hp
   · exact hp
   · exact hp
   · exact hp
   · exact hp
   · exact hp
   · exact hp)) (fun j _ _ h hb => hb.either (fun hb => ⟨h.1.below hb, h.2.1.below hb h.2.1.lt, h.2.2.1.below hb, h.2.2.2.1.below hb, h.2.2.2.2.1.below hb, h.2.2.2.2.2.1.below hb, h.2.2.2.2.2.2.trans (hb.mono h.2.2.2.2.2.2.size)⟩) (fun hr => ⟨h.1.relD hr, h.2.1.relD (Nat.ne_of_gt hlt2) hr, h.2.2.1.relD (by decide) hr, h.2.2.2.1.relD (by decide) hr, h.2.2.2.2.1.relD hr, h.2.2.2.2.2.1.relD hr, below_relD h.2.2.2.2.2.2 (Nat.le_refl _) hr⟩)) (⟨⟨_, _, _, _, k4.drew⟩, kb4.drew, oL.below zG.drew, oS.below zG.drew, oX.below zG.drew, oY.below zG.drew, hB4.trans (zG.drew)⟩) (fun x => ?_)
 refine obs_stepS (Eq.trans (by simp only [zA, zC]; exact rfl) rfl) rfl (fun w' hS hV K hK => ?_) ?_
 · obtain ⟨q0, q1⟩ := hS.2.1.two; obtain ⟨q2, q3⟩ := own2_cells hS.2.2.1; go_simp; exact hK.out _ _ _ rfl rfl rfl zG
 simp only [zD, zE, zF]
 refine obs_stepS (Eq.trans (by simp only [zA, zB, zC]; exact rfl) rfl) rfl (fun w' hS hV K hK => ?_) ?_
 · obtain ⟨q0, q1⟩ := hS.2.1.two; obtain ⟨q2, q3⟩ := own2_cells hS.2.2.1; go_simp; exact hK.out _ _ _ rfl rfl rfl zG
 simp only [zD, zE, zF]
 refine obs_stepS (Eq.trans (by simp only [zA, zB, zC]; exact rfl) rfl) rfl (fun w' hS hV K hK => ?_) ?_
 · have e1 := zQ hV 1; obtain ⟨q0, q1⟩ := hS.2.1.two; obtain ⟨q2, q3⟩ := own2_cells hS.2.2.1; go_simp; exact hK.out _ _ _ rfl rfl rfl zG
 simp only [zD, zE, zF]
 refine obs_stepS (Eq.trans (by simp only [zA, zB, zC]; exact rfl) rfl) rfl (fun w' hS hV K hK => ?_) ?_
 · have e2 := zQ hV 2; obtain ⟨q0, q1⟩ := hS.2.1.two; obtain ⟨q2, q3⟩ := own2_cells hS.2.2.1; go_simp; exact hK.out _ _ _ rfl rfl rfl zG
 simp only [zD, zE, zF]
 refine obs_stepS (Eq.trans (by simp only [zA, zB, zC]; exact rfl) rfl) rfl (fun w' hS hV K hK => ?_) ?_
 · obtain ⟨q0, q1⟩ := hS.2.1.two; obtain ⟨q2, q3⟩ := own2_cells hS.2.2.1; go_simp; exact hK.out _ _ _ rfl rfl rfl zG
 simp only [zD, zE, zF]
 refine obs_stepS (Eq.trans (by simp only [zA, zB, zC]; exact rfl) rfl) rfl (fun w' hS hV K hK => ?_) ?_
 · have e4 := zQ hV 4; obtain ⟨q0, q1⟩ := hS.2.1.two; obtain ⟨q2, q3⟩ := own2_cells hS.2.2.1; go_simp; exact hK.out _ _ _ rfl rfl rfl zG
 simp only [zD, zE, zF]
 refine obs_stepS (Eq.trans (by simp only [zA, zB, zC]; exact rfl) rfl) rfl (fun w' hS hV K hK => ?_) ?_
 · have e5 := zQ hV 5; obtain ⟨q0, q1⟩ := hS.2.1.two; obtain ⟨q2, q3⟩ := own2_cells hS.2.2.1; go_simp; exact hK.out _ _ _ rfl rfl rfl zG
 simp only [zD, zE, zF]
 refine obs_stepN (Eq.trans (by simp only [zA, zB, zC]; exact rfl) rfl) rfl (fun w' hS hV K hK => ?_) ?_
 · have e0 := zQ hV 0; obtain ⟨q0, q1⟩ := hS.2.1.two; obtain ⟨q2, q3⟩ := own2_cells hS.2.2.1; obtain ⟨p9, A9, n9, c9, k9⟩ := hS.1; obtain ⟨t0, t1⟩ := k9.two; have f0 := k9.frozen 0; have f1 := k9.frozen 1; go_simp; exact hK.out _ _ rfl k9.storedD (StepR.rel rfl ⟨_, _, _, _, _, _, _, _, k9, rfl⟩)
 refine obs_stepS (Eq.trans (by simp only [zA, zB, zC]; exact rfl) rfl) rfl (fun w' hS hV K hK => ?_) ?_
 · have e3 := zQ hV 3; obtain ⟨q0, q1⟩ := hS.2.1.two; obtain ⟨q2, q3⟩ := own2_cells hS.2.2.1; go_simp; exact hK.out _ _ _ rfl rfl rfl zG
 simp only [zD, zE, zF]
 refine obs_stepS (Eq.trans (by simp only [zA, zB, zC]; exact rfl) rfl) rfl (fun w' hS hV K hK => ?_) ?_
 · have e6 := zQ hV 6; obtain ⟨q0, q1⟩ := hS.2.1.two; obtain ⟨q2, q3⟩ := own2_cells hS.2.2.1; go_simp; exact hK.out _ _ _ rfl rfl rfl zG
 simp only [zD, zE, zF]
 refine fun w' hS hV => ?_
 have e0 := zQ hV 0
 have e1 := zQ hV 1
 have e2 := zQ hV 2
 have e3 := zQ hV 3
 have e4 := zQ hV 4
 have e5 := zQ hV 5
 have e6 := zQ hV 6
 have b7 := hV 7 (by decide)
 have e8 := zQ hV 8
 have e9 := zQ hV 9
 simp only [e0, e1, e2, e3, e4, e5, e6, e8, e9]
 clear e0 e1 e2 e3 e4 e5 e6 e8 e9
 refine wpAny_done (by kernel_rfl) ?_ _
 obtain ⟨-, -, -, o6, oX6, oY6, hB6⟩ := hS
 replace b7 : Blk w' w.heap.size 26 #[.int .i64 P, .slice A n c] := b7
 obtain ⟨p0, p1⟩ := b7.two
 go_wp2
 first
  | exact bodyPost_ret (v := .tuple #[.agg #[.int .i64 P, .slice A n c], .slice X m cx, .slice Y m2 cy]) (by simp [results, Tryz.results69, go_sem, p0, p1]) rfl ⟨P, A, n, c, st, X, m, cx, xs, Y, m2, cy, ys, rfl, hP, hn, hm1, hm2, o6, oX6, oY6, hB6⟩
set_option maxHeartbeats 3200000 in
set_option maxRecDepth 8000 in
theorem DrawInnerDerivation_any (B : Option Addr) (nb cb : Nat) (bs : List Int) (w : World) (hnb : nb ≤ 4096) (r : Rd w B nb (bs.map (Value.int .u8))) (hbs : ∀ b ∈ bs, 0 ≤ b ∧ b < 256) (hbg : ∀ a, B = some a → a.block < w.heap.size) :
    Calls Tryz.prog 20 #[.slice B nb cb] w (DrewDE w) := by
 have hB0 : Below w.heap.size w (w.alloc (.cells #[.int .i64 0, .slice none 0 0] 26)) := zG.alloc (Nat.le_refl _) _
 have k0 : Blk (w.alloc (.cells #[.int .i64 0, .slice none 0 0] 26)) w.heap.size 26 #[.int .i64 0, .slice none 0 0] := Blk.new _ _ _
 have hfr := DrawCommutatorOf_any B nb cb bs (w.alloc (.cells #[.int .i64 0, .slice none 0 0] 26)) hnb (r.below hB0) hbs (fun a e => by have := hbg a e; simp; omega)
 go_enter Tryz.func20, Tryz.ntmps20
 go_wp2_with fail
 refine hfr.mono ?_
 rintro e w3 ⟨P, A, n, c, st, X, m, cx, xs, Y, m2, cy, ys, rfl, hP, hn, hm1, hm2, hO, hX, hY, hb3⟩
 have k3 := k0.below hb3 k0.lt
 have hB3 := hB0.trans (hb3.mono hB0.size)
 have hO3 := hO.base (B' := w.heap.size) hB0.size
 have hX3 := hX.base (B' := w.heap.size) hB0.size
 have hY3 := hY.base (B' := w.heap.size) hB0.size
 obtain ⟨p0, p1⟩ := k3.two
 have f0 := k3.frozen 0
 have f1 := k3.frozen 1
 have hrl : RelD w.heap.size w3 ((w3.setCell ⟨w.heap.size, 0, none⟩ (.int .i64 P)).setCell ⟨w.heap.size, 1, none⟩ (.slice A n c)) := ⟨_, _, _, _, _, _, _, _, k3, rfl⟩
 clear k0 hb3 hO hX hY hfr
 go_wp2
 exact bodyPost_ret (v := .tuple #[.agg #[.int .i64 P, .slice A n c], .slice X m cx, .slice Y m2 cy]) (by simp [results, Tryz.results20, go_sem, p0, p1]) rfl ⟨P, A, n, c, st, X, m, cx, xs, Y, m2, cy, ys, rfl, hP, hn, hm1, hm2, hO3.relD (by decide) hrl, hX3.relD hrl, hY3.relD hrl, below_relD hB3 (Nat.le_refl _) hrl⟩
end Go.Proofs.YtaiegpggccdgoaaGreat
namespace Go.Proofs.YtaiegpggccdgoaaGreat
open Go.RowKit
theorem big_any (A : Option Addr) (n c : Nat) (w : World) :
    Calls Tryz.prog 6 #[.slice A n c] w fun e w' => e = .returned (.bool (decide (4096 < n))) ∧ w = w' := by
 go_enter Tryz.func6, Tryz.ntmps6
 by_cases h : 4096 < n
 · have d1 : decide ((4096 : Int) < (n : Int)) = true := by rw [decide_eq_true_eq]; omega
   go_wp2
   go_ret
   exact ⟨ret_bool (by rw [eq_comm, decide_eq_true_eq]; exact h), rfl⟩
 · have d1 : decide ((4096 : Int) < (n : Int)) = false := by rw [decide_eq_false_iff_not]; omega
   go_wp2
   go_ret
   exact ⟨ret_bool (by rw [eq_comm, decide_eq_false_iff_not]; exact h), rfl⟩
end Go.Proofs.YtaiegpggccdgoaaGreat
namespace Go.Proofs.YtaiegpggccdgoaaGreat
open Go Go.RowKit
/-- A pointer to a matrix of a list; such a matrix. -/
def VMq (w7 : World) (n dn : Nat) (F : Nat → List (List Int)) : VP := ⟨fun v _ => ∃ (p : Addr) (A' : Option Addr) (c' i : Nat), v = .pointer (some p) ∧ i < dn ∧ w7.cell? p = some (.slice A' n c') ∧ RdII w7 A' n (F i) ∧ n ≤ c', fun _ _ _ h _ => h⟩
def VMv (w7 : World) (n dn : Nat) (F : Nat → List (List Int)) : VP := ⟨fun v _ => ∃ (A' : Option Addr) (c' i : Nat), v = .slice A' n c' ∧ i < dn ∧ RdII w7 A' n (F i) ∧ n ≤ c', fun _ _ _ h _ => h⟩
theorem sizes_at : ∀ k : Nat, k < 4 → (#[.int .i64 0, .int .i64 0, .int .i64 3, .int .i64 14] : Array Value)[k]? = some (.int .i64 ((derN k : Nat) : Int)) := fun k hk => by
 match k, hk with
 | 0, _ => rfl
 | 1, _ => rfl
 | 2, _ => rfl
 | 3, _ => rfl
theorem ind_sz {p : Int} {st xs ys : List Int} {G : List (List Int)} {z : Int} (h : (G, z) = indR p st xs ys) : G.length ≤ 8 ∧ ∀ x ∈ G, x.length ≤ 8 := by
 unfold indR at h
 split at h
 · rename_i hc
   injection h with h1 _
   obtain ⟨hdb, hk3, -⟩ := codeT_zero hc
   have hp := isP_ge (isDb_facts hdb).1
   have h8 : pw st.length ≤ 8 := pw_le hk3
   rw [h1, innM_len (by omega)]
   exact ⟨h8, fun x hx => by have := (innM_tab (p := p) (by omega) _ _ _ _ x hx).1; omega⟩
 · injection h with h1 _
   rw [h1]; simp
theorem ind_zero {p : Int} {st xs ys : List Int} {G : List (List Int)} {z : Int} (h : (G, z) = indR p st xs ys) (hz : z = 0) : isDb p st = true ∧ st.length ≤ 3 ∧ xs.length = pw st.length ∧ NumsL p xs ∧ ys.length = pw st.length ∧ NumsL p ys ∧ G = innM p st.length st xs ys := by
 unfold indR at h
 split at h
 · rename_i hc
   injection h with h1 _
   obtain ⟨hdb, hk3, hel, -⟩ := codeT_zero hc
   obtain ⟨a1, a2⟩ := hel xs (by simp)
   obtain ⟨b1, b2⟩ := hel ys (by simp)
   exact ⟨hdb, hk3, a1, a2, b1, b2, h1⟩
 · rename_i hc
   injection h with _ h2
   exact absurd (h2.symm.trans hz) hc
theorem ind_bad {p : Int} {st xs ys : List Int} {G : List (List Int)} {z : Int} (h : (G, z) = indR p st xs ys) (hz : ¬ z = 0) : G = [] := by
 unfold indR at h
 split at h
 · injection h with _ h2; exact absurd h2 hz
 · injection h
theorem ddim_zero {p : Int} {st : List Int} {nv zc : Int} (h : (nv, zc) = ddimR p st) (hz : zc = 0) : codeT p st [] [] = 0 ∧ nv = (derN st.length : Nat) := by
 unfold ddimR at h
 split at h
 · rename_i hc
   injection h with h1 _
   exact ⟨hc, h1⟩
 · rename_i hc
   injection h with _ h2
   exact absurd (h2.symm.trans hz) hc
theorem basis_der {p : Int} (hP : isP p = true) {k : Nat} {st : List Int} {i : Nat} (hi : i < (dersL p k st).length) : (rowsL ((dersL p k st).getD i []) (pw k) (pw k)).length = pw k ∧ Tab p (pw k) (rowsL ((dersL p k st).getD i []) (pw k) (pw k)) ∧ DerM p st k (ent (rowsL ((dersL p k st).getD i []) (pw k) (pw k))) := by
 have hp := isP_ge hP
 have hT : Tab p (pw k * pw k) (dersL p k st) := kernL_tab (by omega) _ _
 obtain ⟨h1, h2⟩ := hT.row hi
 have hd := dersL_der hP (getD_mem [] hi)
 refine ⟨rowsL_len _ _ _, rowsL_tab h2 _ _ h1, (DerM.of_eq hd).congr fun a b ha hb => by rw [rowsL_ent ha hb]⟩
set_option maxHeartbeats 12800000 in
set_option maxRecDepth 8000 in
theorem FnDerivations_any (B : Option Addr) (nb cb : Nat) (bs : List Int) (w : World) (r : Rd w B nb (bs.map (Value.int .u8))) (hbs : ∀ b ∈ bs, 0 ≤ b ∧ b < 256) (hbg : ∀ a, B = some a → a.block < w.heap.size) :
    Calls Tryz.prog 4 #[.slice B nb cb] w fun e w' => e = .returned (.bool true) ∧ Below w.heap.size w w' := by
 have hbig := big_any B nb cb w
 by_cases hbb : 4096 < nb
 · rw [decide_eq_true hbb] at hbig
   go_enter Tryz.func4, Tryz.ntmps4
   go_wp2_with fail
   refine hbig.mono ?_
   rintro e w1 ⟨rfl, rfl⟩
   go_wp2
   go_ret
   exact ⟨rfl, Below.refl _ _⟩
 · rw [decide_eq_false hbb] at hbig
   have hdr := DrawInnerDerivation_any B nb cb bs w (by omega) r hbs hbg
   go_enter Tryz.func4, Tryz.ntmps4
   go_wp2_with fail
   refine hbig.mono ?_
   rintro e w1 ⟨rfl, rfl⟩
   clear hbig
   go_wp2_with fail
   refine hdr.mono ?_
   rintro e w2 ⟨P, A, n, c, st, X, m, cx, xs, Y, m2, cy, ys, rfl, hP, hn, hm1, hm2, ho, hX, hY, hb2⟩
   have hA : Below w2.heap.size w2 (w2.alloc (.cells #[.int .i64 P, .slice A n c] 26)) := zG.alloc (Nat.le_refl _) _
   have k3 : Blk (w2.alloc (.cells #[.int .i64 P, .slice A n c] 26)) w2.heap.size 26 #[.int .i64 P, .slice A n c] := Blk.new _ _ _
   have hB3 := hb2.trans (hA.mono hb2.size)
   have hcn := ho.cap
   have hcx := hX.1
   have hcy := hY.1
   have r_s := (ho.below hA).rd
   have r_x := (hX.below hA).rd
   have r_y := (hY.below hA).rd
   obtain ⟨w3, hw3⟩ : ∃ W, W = (w2.alloc (.cells #[.int .i64 P, .slice A n c] 26)) := ⟨_, rfl⟩
   rw [← hw3] at k3 hB3 r_s r_x r_y
   have hb1 := InnerDerivation_any P A n c st X m cx xs Y m2 cy ys w3 (by omega) hcn (by omega) hcx (by omega) hcy r_s r_x r_y
   have hb1s := fun w' (h : Below w3.heap.size w3 w') => specInnerDerivation_any P A n c st X m cx xs Y m2 cy ys w' (by omega) hcn (by omega) hcx (by omega) hcy (r_s.below h) (r_x.below h) (r_y.below h)
   obtain ⟨⟨G, z⟩, hGz⟩ : ∃ R, R = indR P st xs ys := ⟨_, rfl⟩
   have hsz := ind_sz hGz
   obtain ⟨gl, hgl⟩ : ∃ gl, gl = G.length := ⟨_, rfl⟩
   rw [← hGz] at hb1 hb1s
   replace hb1 : Calls Tryz.prog 16 #[.agg #[.int .i64 P, .slice A n c], .slice X m cx, .slice Y m2 cy] w3 fun e w' => ∃ A' c', e = .returned (.tuple #[.slice A' gl c', .int .i64 z]) ∧ MkII w3 w' A' gl c' G := by rw [hgl]; exact hb1
   replace hb1s : ∀ w', Below w3.heap.size w3 w' → Calls Tryz.prog 21 #[.agg #[.int .i64 P, .slice A n c], .slice X m cx, .slice Y m2 cy] w' fun e w'' => ∃ A' c', e = .returned (.tuple #[.slice A' gl c', .int .i64 z]) ∧ MkII w' w'' A' gl c' G := by rw [hgl]; exact hb1s
   have HGZ := Lib.hid hGz
   have HGL := Lib.hid hgl
   have HSZ := Lib.hid hsz
   have HB1S := Lib.hid hb1s
   have HR3 := Lib.hid (r.below hB3)
   have HBS := Lib.hid hbs
   have HBG := Lib.hid hbg
   obtain ⟨q0, q1⟩ := k3.two
   clear hdr ho hX hY hb2 hA hGz hsz hgl hb1s hbs hbg r
   go_wp2_with fail
   rw [← hw3]
   clear hw3
   refine hb1.mono ?_
   rintro e w4 ⟨Ag, cg, rfl, hM4⟩
   have RG4 := Lib.hid hM4.rd
   have k4 := k3.below hM4.b k3.lt
   have hcg : gl ≤ cg := by obtain ⟨us, hm⟩ := hM4.outer; exact hm.2.cap
   have hW4 := hM4.b
   have hb1s := HB1S.out w4 hW4
   clear q0 q1 hb1 hM4 r_x r_y
   obtain ⟨q0, q1⟩ := k4.two
   go_wp2_with fail
   refine hb1s.mono ?_
   rintro e w5 ⟨A5, c5, rfl, hM5⟩
   have hW5 := hW4.trans (hM5.b.mono hW4.size)
   have k5 := k4.below hM5.b k4.lt
   have hs9 := same9_ok Ag A5 gl cg c5 G w5 (by rw [HGL.out]; have := HSZ.out.1; omega) (fun x hx => by have := HSZ.out.2 x hx; omega) (RG4.out.below hM5.b) hM5.rd
   have RG5 := Lib.hid (RG4.out.below hM5.b)
   have e0 : (z != z) = false := by simp
   clear q0 q1 hb1s hM5 k4 hW4 RG4 HB1S
   go_wp2_with fail
   refine hs9.mono ?_
   rintro e w6 ⟨rfl, hb6⟩
   have hW36 := hW5.trans (hb6.mono hW5.size)
   have hW6 := hB3.trans (hW36.mono hB3.size)
   have K6 := Lib.hid (k5.below hb6 k5.lt)
   have RG6 := Lib.hid (RG5.out.below hb6)
   have RST6 := Lib.hid (r_s.below hW36)
   have hdr := DrawDerivationDimension_any B nb cb bs w6 (by omega) (HR3.out.below hW36) HBS.out (fun a e => Nat.lt_of_lt_of_le (HBG.out a e) hW6.size)
   clear hs9 hb6 k5 RG5 hW5 r_s e0 k3
   go_wp2_with fail
   refine hdr.mono ?_
   rintro e w7a ⟨P2, A2, k, c2, st2, rfl, hP20, hP2, hk5, ho2, hb7⟩
   have hA2 : Below w7a.heap.size w7a (w7a.alloc (.cells #[.int .i64 P2, .slice A2 k c2] 26)) := zG.alloc (Nat.le_refl _) _
   have ke0 : Blk (w7a.alloc (.cells #[.int .i64 P2, .slice A2 k c2] 26)) w7a.heap.size 26 #[.int .i64 P2, .slice A2 k c2] := Blk.new _ _ _
   have hX60 := hb7.trans (hA2.mono hb7.size)
   have hck2 := ho2.cap
   have RS20 := (ho2.below hA2).rd
   obtain ⟨we, hwe⟩ : ∃ W, W = (w7a.alloc (.cells #[.int .i64 P2, .slice A2 k c2] 26)) := ⟨_, rfl⟩
   rw [← hwe] at ke0 hX60 RS20
   have hdd := DerivationDimension_any P2 A2 k c2 st2 we (by omega) hck2 RS20
   have hdds := fun w' (h : Below we.heap.size we w') => specDerivationDimension_any P2 A2 k c2 st2 w' (by omega) hck2 (RS20.below h)
   obtain ⟨⟨nv, zc⟩, hDz⟩ : ∃ R, R = ddimR P2 st2 := ⟨_, rfl⟩
   rw [← hDz] at hdd hdds
   have HDZ := Lib.hid hDz
   have HDDS := Lib.hid hdds
   have RS2 := Lib.hid RS20
   obtain ⟨q0, q1⟩ := ke0.two
   clear hdr ho2 hb7 hA2 hdds hDz RS20
   go_wp2_with fail
   rw [← hwe]
   clear hwe
   refine hdd.mono ?_
   rintro e wf ⟨rfl, hbf⟩
   have ke1 := ke0.below hbf ke0.lt
   have hdds := HDDS.out wf hbf
   clear hdd q0 q1 HDDS
   obtain ⟨q0, q1⟩ := ke1.two
   go_wp2_with fail
   refine hdds.mono ?_
   rintro e w7 ⟨rfl, hb7⟩
   have ke := ke1.below hb7 ke1.lt
   have hbe7 := hbf.trans (hb7.mono hbf.size)
   have hX6 := hX60.trans (hbe7.mono hX60.size)
   have RS7 := Lib.hid (RS2.out.below hbe7)
   have e0 : (zc != zc) = false := by simp
   have e1 : (nv != nv) = false := by simp
   clear hdds q0 q1 ke0 ke1 hbf hb7 hX60 hbe7 RS2
   obtain ⟨q0, q1⟩ := ke.two
   by_cases hzc : zc = 0
   · obtain ⟨hcd, hnv⟩ := ddim_zero HDZ.out hzc
     subst hzc
     obtain ⟨hdb, hk3, -, -⟩ := codeT_zero hcd
     have hsl := RS7.out.lenI
     rw [hsl] at hk3 hnv
     obtain ⟨HP, -, hst⟩ := isDb_facts hdb
     obtain ⟨hp3, hp2⟩ := isP_ge HP
     have hun := isDb_unit hdb
     rw [hsl] at hun
     have hdl := dersL_len HP hk3 (st := st2) hun
     have hBB := DerivationBasis_ok P2 A2 k c2 st2 (w7.alloc (.cells #[.int .i64 0, .int .i64 0, .int .i64 3, .int .i64 14] 2)) (by omega) hck2 (RS7.out.below (zG.alloc (Nat.le_refl _) _)) hcd
     rw [hdl] at hBB
     obtain ⟨dn, hdn⟩ : ∃ z, z = derN k := ⟨_, rfl⟩
     have hd14 : dn ≤ 14 := by rw [hdn]; exact derN_le k (by omega)
     rw [← hdn] at hBB hnv hdl
     obtain rfl : nv = (dn : Int) := hnv
     have HFM : Hid (∀ i, i < dn → (rowsL ((dersL P2 k st2).getD i []) (pw k) (pw k)).length = pw k ∧ Tab P2 (pw k) (rowsL ((dersL P2 k st2).getD i []) (pw k) (pw k)) ∧ DerM P2 st2 k (ent (rowsL ((dersL P2 k st2).getD i []) (pw k) (pw k)))) := Lib.hid fun i hi => basis_der HP (by omega)
     obtain ⟨FM, hFM⟩ : ∃ F : Nat → List (List Int), F = fun i => rowsL ((dersL P2 k st2).getD i []) (pw k) (pw k) := ⟨_, rfl⟩
     have HFM2 : Hid (∀ i, i < dn → (FM i).length = pw k ∧ Tab P2 (pw k) (FM i) ∧ DerM P2 st2 k (ent (FM i))) := Lib.hid (by rw [hFM]; exact HFM.out)
     have kS : Blk (w7.alloc (.cells #[.int .i64 0, .int .i64 0, .int .i64 3, .int .i64 14] 2)) w7.heap.size 2 #[.int .i64 0, .int .i64 0, .int .i64 3, .int .i64 14] := Blk.new _ _ _
     have hsc : (#[.int .i64 0, .int .i64 0, .int .i64 3, .int .i64 14] : Array Value)[k]? = some (.int .i64 (dn : Int)) := by
      rw [hdn]
      exact sizes_at k (by omega)
     have HDB := Lib.hid hdb
     have keA := ke.alloc (.cells #[.int .i64 0, .int .i64 0, .int .i64 3, .int .i64 14] 2)
     clear q0 q1
     obtain ⟨q0, q1⟩ := keA.two
     obtain ⟨w8, hw8⟩ : ∃ W, W = w7.alloc (.cells #[.int .i64 0, .int .i64 0, .int .i64 3, .int .i64 14] 2) := ⟨_, rfl⟩
     have hX8 : Below w6.heap.size w6 w8 := hw8 ▸ hX6.alloc hX6.size _
     have RS8 := Lib.hid (show Rd w8 A2 k (ints st2) from hw8 ▸ RS7.out.below (zG.alloc (Nat.le_refl _) _))
     rw [← hw8] at hBB kS keA
     have w7lt : w7.heap.size < w8.heap.size := kS.lt
     clear hcd hdb HP hst hun ke hX6 RS7 HFM hdn
     go_wp2_with fail
     rw [← hw8]
     clear hw8
     refine hBB.mono ?_
     rintro e w9 ⟨AB, cB, rfl, hM9⟩
     have hX9 := hX8.trans (hM9.b.mono hX8.size)
     have k9 := keA.below hM9.b keA.lt
     have kS9 := kS.below hM9.b kS.lt
     have hsc9 : w9.cell? ⟨w7.heap.size, k, none⟩ = some (.int .i64 (dn : Int)) := (kS9.cell k).trans hsc
     have RS9 := Lib.hid (RS8.out.below hM9.b)
     have HBR : Hid (RdM3 w9 AB dn ((dersL P2 k st2).map fun x => rowsL x (pw k) (pw k))) := Lib.hid hM9.rd
     have hk4 : k < 4 := by omega
     have i0 : (0 : Int) ≤ (k : Int) := by omega
     have i1 : (k : Int) < 4 := by omega
     have d0 : ((dn : Int) != (dn : Int)) = false := by simp
     clear hBB hM9 q0 q1 keA kS hX8 RS8 hsc
     obtain ⟨q0, q1⟩ := k9.two
     by_cases hd0 : dn = 0
     · subst hd0
       have kt := K6.out.below hX9 K6.out.lt
       obtain ⟨q0, q1⟩ := kt.two
       by_cases hz : z = 0
       · obtain ⟨hdb, hk3, hxl, hxn, hyl, hyn, hGe⟩ := ind_zero HGZ.out hz
         have hnl := RST6.out.lenI
         rw [hnl] at hk3 hxl hyl hGe
         have hp := (isDb_facts hdb).1
         have hpg := isP_ge hp
         have hTG : Tab P (pw n) G := by rw [hGe]; exact innM_tab (by omega) _ _ _ _
         obtain rfl : gl = pw n := by rw [HGL.out, hGe]; exact innM_len (by omega) _ _ _ _
         have hD1 := IsDerivation_ok P A n c st Ag cg G w9 hdb hk3 hcn (RST6.out.below hX9) (RG6.out.below hX9) hTG hcg (fun i q hi hq => DerM.gap (by omega) (by rw [← HGL.out]) hTG (by rw [hGe]; exact innM_der (by omega) hk3 st hxl hyl) hi hq)
         have hD2 := fun w' (h : Below w9.heap.size w9 w') => IsSkew_ok P A n c st Ag cg G w' hdb hk3 hcn ((RST6.out.below hX9).below h) ((RG6.out.below hX9).below h) hTG hcg (fun i q hi hq => by rw [hGe]; exact innM_skew (by omega) hk3 st hxl hyl hi hq)
         have HD2 := Lib.hid hD2
         clear hD2 hGe hTG hdb hp hpg hxl hyl hxn hyn hk3
         subst hz
         go_wp2_with fail
         refine hD1.mono ?_
         rintro e wt1 ⟨rfl, hbt⟩
         have kt1 := kt.below hbt kt.lt
         have hd2 := HD2.out _ hbt
         have hxt := hX9.trans (hbt.mono hX9.size)
         clear hD1 q0 q1 kt
         obtain ⟨q0, q1⟩ := kt1.two
         go_wp2_with fail
         refine hd2.mono ?_
         rintro e wt2 ⟨rfl, hbt2⟩
         have hxt2 := hxt.trans (hbt2.mono hxt.size)
         clear hd2 hbt hbt2
         go_wp2
         go_ret
         exact ⟨rfl, hW6.trans (hxt2.mono hW6.size)⟩
       · have hzb : (z == 0) = false := by simpa using hz
         obtain rfl : gl = 0 := by rw [HGL.out, ind_bad HGZ.out hz]; rfl
         go_wp2
         go_ret
         exact ⟨rfl, hW6.trans (hX9.mono hW6.size)⟩
     · have hdp : 0 < dn := by omega
       have hdp2 : decide ((0 : Int) < (dn : Int)) = true := by rw [decide_eq_true_eq]; omega
       obtain ⟨gb, ob, rfl, -⟩ := HBR.out.at_ hdp
       have HBM : Hid (∀ i, i < dn → ∃ Aq cq, w9.cell? ⟨gb, ob + i, none⟩ = some (.slice Aq (pw k) cq) ∧ RdII w9 Aq (pw k) (FM i) ∧ pw k ≤ cq) := Lib.hid fun i hi => by
        obtain ⟨g', o', e', hx, Aq, cq, h1, h2, h3⟩ := HBR.out.at_ hi
        injection e' with e'; injection e' with e1 e2 _
        subst e1; subst e2
        have hl : i < (dersL P2 k st2).length := by simpa using hx
        have eM : ((dersL P2 k st2).map fun x => rowsL x (pw k) (pw k))[i] = FM i := by rw [hFM, List.getElem_map]; simp only; rw [getD_of_lt [] hl]
        rw [eM, (HFM2.out i hi).1] at h1
        rw [eM, (HFM2.out i hi).1] at h2
        rw [eM, (HFM2.out i hi).1] at h3
        exact ⟨Aq, cq, h1, h2, h3⟩
       have hro := roll_any B nb cb bs 3015 w9 (by omega) (HR3.out.below (hW36.trans (hX9.mono hW36.size))) HBS.out (fun a e => Nat.lt_of_lt_of_le (HBG.out a e) (hW6.trans (hX9.mono hW6.size)).size)
       clear hFM
       obtain ⟨w7, hw7⟩ : ∃ W, W = w9 := ⟨_, rfl⟩
       go_wp2_with fail
       refine hro.mono ?_
       rintro e w10 ⟨g, rfl, hg8, hs8, hR8⟩
       rw [← hw7] at hg8 hR8 HBM RS9 hX9 k9
       clear hro q0 q1 hsc9 kS9 HBR
       go_wp2
       refine wp_obsR 14 (Dr g 85) [[], [], [], [1, 2], [0, 1, 2, 3], [0, 1, 2, 3, 4], [], [], [], [7, 8], [6, 7, 8, 9], [6, 7, 8, 9, 10], [0, 1, 2, 3, 4, 5], [6, 7, 8, 9, 10, 11]] [[], [], [], [99], [], [], [], [], [], [99], [], [], [], []] (fun x => [VIs (.slice (some ⟨gb, ob, none⟩) dn cB), VIs (.pointer (some ⟨g, 0, none⟩)), VIs (.int .i64 (dn)), VIx dn, VMq w7 (pw k) dn FM, VMv w7 (pw k) dn FM, VIs (.slice (some ⟨gb, ob, none⟩) dn cB), VIs (.pointer (some ⟨g, 0, none⟩)), VIs (.int .i64 (dn)), VIx dn, VMq w7 (pw k) dn FM, VMv w7 (pw k) dn FM, VMv w7 (pw k) dn FM, VMv w7 (pw k) dn FM]) (fun w' => Below w7.heap.size w7 w' ∧ Src w' g 85) (by kernel_rfl) (by kernel_rfl) (fun x x' j hx => by
           rcases j with _ | _ | _ | _ | _ | _ | _ | _ | _ | _ | _ | _ | _ | _ | j
           · rfl
           · rfl
           · rfl
           · rfl
           · rfl
           · rfl
           · rfl
           · rfl
           · rfl
           · rfl
           · rfl
           · rfl
           · rfl
           · rfl
           · rfl)
        (weak_ofR [0, 1, 2, 3, 4, 5, 6, 7, 8, 9, 10, 11, 12, 13] (by decide) (fun k hk x v w w' hp hr => by
         simp only [List.mem_cons, zJ, or_false] at hk
         rcases hk with rfl | rfl | rfl | rfl | rfl | rfl | rfl | rfl | rfl | rfl | rfl | rfl | rfl | rfl
         · exact hp
         · exact hp
         · exact hp
         · exact hp
         · exact hp
         · exact hp
         · exact hp
         · exact hp
         · exact hp
         · exact hp
         · exact hp
         · exact hp
         · exact hp
         · exact hp)) (fun j _ _ h hb => hb.either (fun hb => ⟨h.1.trans (hb.mono h.1.size), h.2.below hb⟩) (fun hr => ⟨hr.down h.1 hg8, hr.s'⟩)) (⟨hR8.trans zG.drew, hs8.below zG.drew⟩) (fun x => ?_)
       refine zSR (fun w' hS hV K hK => ?_) ?_
       · skip; go_simp; exact hK.out _ _ _ rfl rfl rfl zG
       refine zSR (fun w' hS hV K hK => ?_) ?_
       · skip; go_simp; exact hK.out _ _ _ rfl rfl rfl zG
       refine zSR (fun w' hS hV K hK => ?_) ?_
       · skip; go_simp; exact hK.out _ _ _ rfl rfl rfl zG
       refine zSR (fun w' hS hV K hK => ?_) ?_
       · have e1 := zQ hV 1; have e2 := zQ hV 2; skip; go_simp; refine (below_any g (dn : Int) w' hS.2 (by omega)).mono ?_; rintro e v1 ⟨r, rfl, h1, h2, hd⟩; obtain ⟨rn, rfl⟩ : ∃ rn : Nat, r = rn := ⟨r.toNat, by omega⟩; exact hK.out _ _ _ rfl rfl ⟨rn, rfl, by have := h2 (by omega); omega⟩ hd
       refine zSR (fun w' hS hV K hK => ?_) ?_
       · have e0 := zQ hV 0
         obtain ⟨i3, e3, hi3⟩ := hV 3 (by decide)
         skip
         obtain ⟨Aq, cq, hcq, hrq, hccq⟩ := HBM.out i3 hi3
         have hcell : w'.cell? ⟨gb, ob + i3, none⟩ = some (.slice Aq (pw k) cq) := (hS.1.cell (World.block_lt_of_cell? _ _ hcq)).trans hcq
         have b0 : (0 : Int) ≤ (i3 : Int) := by omega
         have b1 : (i3 : Int) < (dn : Int) := by omega
         go_simp
         exact hK.out _ _ _ rfl rfl ⟨_, Aq, cq, i3, rfl, hi3, hcq, hrq, hccq⟩ zG
       refine zSR (fun w' hS hV K hK => ?_) ?_
       · obtain ⟨i3, e3, hi3⟩ := hV 3 (by decide); obtain ⟨p4, A4, c4, i4, e4, hi4, hc4, hr4, hcc4⟩ := hV 4 (by decide); skip; have hcell := (hS.1.cell (World.block_lt_of_cell? _ _ hc4)).trans hc4; go_simp; exact hK.out _ _ _ rfl rfl ⟨A4, c4, i4, rfl, hi4, hr4, hcc4⟩ zG
       refine zSR (fun w' hS hV K hK => ?_) ?_
       · skip; go_simp; exact hK.out _ _ _ rfl rfl rfl zG
       refine zSR (fun w' hS hV K hK => ?_) ?_
       · skip; go_simp; exact hK.out _ _ _ rfl rfl rfl zG
       refine zSR (fun w' hS hV K hK => ?_) ?_
       · skip; go_simp; exact hK.out _ _ _ rfl rfl rfl zG
       refine zSR (fun w' hS hV K hK => ?_) ?_
       · have e7 := zQ hV 7; have e8 := zQ hV 8; skip; go_simp; refine (below_any g (dn : Int) w' hS.2 (by omega)).mono ?_; rintro e v1 ⟨r, rfl, h1, h2, hd⟩; obtain ⟨rn, rfl⟩ : ∃ rn : Nat, r = rn := ⟨r.toNat, by omega⟩; exact hK.out _ _ _ rfl rfl ⟨rn, rfl, by have := h2 (by omega); omega⟩ hd
       refine zSR (fun w' hS hV K hK => ?_) ?_
       · have e6 := zQ hV 6
         obtain ⟨i9, e9, hi9⟩ := hV 9 (by decide)
         skip
         obtain ⟨Aq, cq, hcq, hrq, hccq⟩ := HBM.out i9 hi9
         have hcell : w'.cell? ⟨gb, ob + i9, none⟩ = some (.slice Aq (pw k) cq) := (hS.1.cell (World.block_lt_of_cell? _ _ hcq)).trans hcq
         have b0 : (0 : Int) ≤ (i9 : Int) := by omega
         have b1 : (i9 : Int) < (dn : Int) := by omega
         go_simp
         exact hK.out _ _ _ rfl rfl ⟨_, Aq, cq, i9, rfl, hi9, hcq, hrq, hccq⟩ zG
       refine zSR (fun w' hS hV K hK => ?_) ?_
       · obtain ⟨i9, e9, hi9⟩ := hV 9 (by decide); obtain ⟨p10, A10, c10, i10, e10, hi10, hc10, hr10, hcc10⟩ := hV 10 (by decide); skip; have hcell := (hS.1.cell (World.block_lt_of_cell? _ _ hc10)).trans hc10; go_simp; exact hK.out _ _ _ rfl rfl ⟨A10, c10, i10, rfl, hi10, hr10, hcc10⟩ zG
       refine zSR (fun w' hS hV K hK => ?_) ?_
       · obtain ⟨i3, e3, hi3⟩ := hV 3 (by decide); obtain ⟨p4, A4, c4, i4, e4, hi4, hc4, hr4, hcc4⟩ := hV 4 (by decide); obtain ⟨A5, c5, i5, e5, hi5, hr5, hcc5⟩ := hV 5 (by decide); skip; go_simp; exact hK.out _ _ _ rfl rfl ⟨A5, c5, i5, rfl, hi5, hr5, hcc5⟩ zG
       refine zSR (fun w' hS hV K hK => ?_) ?_
       · obtain ⟨i9, e9, hi9⟩ := hV 9 (by decide); obtain ⟨p10, A10, c10, i10, e10, hi10, hc10, hr10, hcc10⟩ := hV 10 (by decide); obtain ⟨A11, c11, i11, e11, hi11, hr11, hcc11⟩ := hV 11 (by decide); skip; go_simp; exact hK.out _ _ _ rfl rfl ⟨A11, c11, i11, rfl, hi11, hr11, hcc11⟩ zG
       refine fun w' hS hV => ?_
       have e0 := zQ hV 0
       have e1 := zQ hV 1
       have e2 := zQ hV 2
       obtain ⟨i3, e3, hi3⟩ := hV 3 (by decide)
       obtain ⟨p4, A4, c4, i4, e4, hi4, hc4, hr4, hcc4⟩ := hV 4 (by decide)
       obtain ⟨A5, c5, i5, e5, hi5, hr5, hcc5⟩ := hV 5 (by decide)
       have e6 := zQ hV 6
       have e7 := zQ hV 7
       have e8 := zQ hV 8
       obtain ⟨i9, e9, hi9⟩ := hV 9 (by decide)
       obtain ⟨p10, A10, c10, i10, e10, hi10, hc10, hr10, hcc10⟩ := hV 10 (by decide)
       obtain ⟨A11, c11, i11, e11, hi11, hr11, hcc11⟩ := hV 11 (by decide)
       obtain ⟨A12, c12, i12, e12, hi12, hr12, hcc12⟩ := hV 12 (by decide)
       obtain ⟨A13, c13, i13, e13, hi13, hr13, hcc13⟩ := hV 13 (by decide)
       simp only [e0, e1, e2, e3, e4, e5, e6, e7, e8, e9, e10, e11, e12, e13]
       clear e0 e1 e2 e3 e4 e5 e6 e7 e8 e9 e10 e11 e12 e13
       refine wpAny_done (by kernel_rfl) ?_ _
       obtain ⟨hR9, -⟩ := hS
       obtain ⟨w11, hw11⟩ : ∃ W, W = w' := ⟨_, rfl⟩
       rw [← hw11] at hR9 ⊢
       clear hV hw11
       obtain ⟨Xa, hXa⟩ : ∃ z, z = A12 := ⟨_, rfl⟩
       obtain ⟨ca, hca⟩ : ∃ z, z = c12 := ⟨_, rfl⟩
       obtain ⟨Yb, hYb⟩ : ∃ z, z = A13 := ⟨_, rfl⟩
       obtain ⟨cb', hcb⟩ : ∃ z, z = c13 := ⟨_, rfl⟩
       obtain ⟨Ma, hMa⟩ : ∃ z, z = FM i12 := ⟨_, rfl⟩
       obtain ⟨Mb, hMb⟩ : ∃ z, z = FM i13 := ⟨_, rfl⟩
       have hra := hr12
       have hrb := hr13
       have hqa := hcc12
       have hqb := hcc13
       obtain ⟨la, ta, da⟩ := HFM2.out i12 hi12
       obtain ⟨lb, tb, db⟩ := HFM2.out i13 hi13
       rw [← hMa] at hra la ta da
       rw [← hMb] at hrb lb tb db
       rw [← hXa] at hra ⊢
       rw [← hca] at hqa ⊢
       rw [← hYb] at hrb ⊢
       rw [← hcb] at hqb ⊢
       have RA := Lib.hid hra
       have RB := Lib.hid hrb
       have HTA := Lib.hid (And.intro la (And.intro ta da))
       have HTB := Lib.hid (And.intro lb (And.intro tb db))
       have hTC : Tab P2 (pw k) (brMx P2 Ma Mb) := brMx_tab (by omega) (pw_pos k) tb la lb
       have hlC : (brMx P2 Ma Mb).length = pw k := (brMx_len _ _).trans la
       have hdC : DerM P2 st2 k (ent (brMx P2 Ma Mb)) := da.bracket db (fun a b ha hb => brMx_ent (by omega) (pw_pos k) ta tb la lb ha hb)
       have hbr := MatrixBracket_ok P2 A2 k c2 st2 Xa ca Ma Yb cb' Mb w11 HDB.out hk3 hck2 (RS9.out.below hR9) (hra.below hR9) ta hqa (hrb.below hR9) tb hqb
       have hgC : ∀ i q, i < pw k → q < pw k → zeroL (dgapL P2 k st2 (brMx P2 Ma Mb) i q) = true := fun i q hi hq => DerM.gap (by omega) hlC hTC hdC hi hq
       have hgA : ∀ i q, i < pw k → q < pw k → zeroL (dgapL P2 k st2 Ma i q) = true := fun i q hi hq => DerM.gap (by omega) la ta da hi hq
       have hzI : ∀ i, i < pw k → (applyL P2 Ma (unitRow (pw k) 0)).getD i 0 = 0 := fun i hi => der_image (by omega) la ta da hi
       have HTC := Lib.hid hTC
       have HGC := Lib.hid hgC
       have HGA := Lib.hid hgA
       have HZI := Lib.hid hzI
       have k11 := k9.below hR9 k9.lt
       have hX11 := hX9.trans (hR9.mono hX9.size)
       obtain ⟨CM, hCM⟩ : ∃ z, z = brMx P2 Ma Mb := ⟨_, rfl⟩
       rw [← hCM] at hbr HTC HGC
       clear hra hrb la ta da lb tb db hTC hlC hdC hgC hgA hzI hMa hMb hXa hca hYb hcb hCM k9 hX9 hr5 hcc5 hi5 hr11 hcc11 hi11 hr12 hcc12 hi12 hr13 hcc13 hi13
       obtain ⟨q0, q1⟩ := k11.two
       go_wp2_with fail
       refine hbr.mono ?_
       rintro e w12 ⟨AC, cC, rfl, hM12⟩
       have hcC : pw k ≤ cC := by obtain ⟨us, hm⟩ := hM12.outer; exact hm.2.cap
       have hR12 := hR9.trans (hM12.b.mono hR9.size)
       have hX12 := hX11.trans (hM12.b.mono hX11.size)
       have k12 := k11.below hM12.b k11.lt
       have h1 := IsDerivation_ok P2 A2 k c2 st2 AC cC CM w12 HDB.out hk3 hck2 (RS9.out.below hR12) hM12.rd HTC.out hcC HGC.out
       clear hbr q0 q1 k11 hM12 hR9 hX11
       obtain ⟨q0, q1⟩ := k12.two
       go_wp2_with fail
       refine h1.mono ?_
       rintro e w13 ⟨rfl, hb13⟩
       have hR13 := hR12.trans (hb13.mono hR12.size)
       have hX13 := hX12.trans (hb13.mono hX12.size)
       have k13 := k12.below hb13 k12.lt
       have h2 := IsDerivation_ok P2 A2 k c2 st2 Xa ca Ma w13 HDB.out hk3 hck2 (RS9.out.below hR13) (RA.out.below hR13) HTA.out.2.1 hqa HGA.out
       clear h1 q0 q1 k12 hb13 hR12 hX12
       obtain ⟨q0, q1⟩ := k13.two
       go_wp2_with fail
       refine h2.mono ?_
       rintro e w14 ⟨rfl, hb14⟩
       have hR14 := hR13.trans (hb14.mono hR13.size)
       have hX14 := hX13.trans (hb14.mono hX13.size)
       have k14 := k13.below hb14 k13.lt
       have h3 := DoubleUnit_ok P2 A2 k c2 st2 w14 HDB.out hk3 hck2 (RS9.out.below hR14)
       clear h2 q0 q1 k13 hb14 hR13 hX13
       obtain ⟨q0, q1⟩ := k14.two
       go_wp2_with fail
       refine h3.mono ?_
       rintro e w15 ⟨AU, cU, rfl, hM15⟩
       have hcU := hM15.2.cap
       have hR15 := hR14.trans (hM15.b.mono hR14.size)
       have hX15 := hX14.trans (hM15.b.mono hX14.size)
       have k15 := k14.below hM15.b k14.lt
       have h4 := MatrixImage_ok P2 A2 k c2 st2 Xa ca Ma AU cU (unitRow (pw k) 0) w15 HDB.out hk3 hck2 (RS9.out.below hR15) (RA.out.below hR15) HTA.out.2.1 hqa hM15.rd (unitRow_nums (by omega) _ _) hcU
       clear h3 q0 q1 k14 hM15 hR14 hX14
       obtain ⟨q0, q1⟩ := k15.two
       go_wp2_with fail
       refine h4.mono ?_
       rintro e w16 ⟨AI, cI, rfl, hM16⟩
       have hX16 := hX15.trans (hM16.b.mono hX15.size)
       have hpw8 : pw k ≤ 8 := pw_le hk3
       have h5 := zero9_ok AI (pw k) cI _ w16 (by omega) hM16.rd HZI.out
       clear h4 q0 q1 k15 hM16 hR15 hX15
       go_wp2_with fail
       refine h5.mono ?_
       rintro e w17 ⟨rfl, rfl⟩
       clear h5
       have kt := K6.out.below hX16 K6.out.lt
       obtain ⟨q0, q1⟩ := kt.two
       by_cases hz : z = 0
       · obtain ⟨hdb, hk3, hxl, hxn, hyl, hyn, hGe⟩ := ind_zero HGZ.out hz
         have hnl := RST6.out.lenI
         rw [hnl] at hk3 hxl hyl hGe
         have hp := (isDb_facts hdb).1
         have hpg := isP_ge hp
         have hTG : Tab P (pw n) G := by rw [hGe]; exact innM_tab (by omega) _ _ _ _
         obtain rfl : gl = pw n := by rw [HGL.out, hGe]; exact innM_len (by omega) _ _ _ _
         have hD1 := IsDerivation_ok P A n c st Ag cg G w16 hdb hk3 hcn (RST6.out.below hX16) (RG6.out.below hX16) hTG hcg (fun i q hi hq => DerM.gap (by omega) (by rw [← HGL.out]) hTG (by rw [hGe]; exact innM_der (by omega) hk3 st hxl hyl) hi hq)
         have hD2 := fun w' (h : Below w16.heap.size w16 w') => IsSkew_ok P A n c st Ag cg G w' hdb hk3 hcn ((RST6.out.below hX16).below h) ((RG6.out.below hX16).below h) hTG hcg (fun i q hi hq => by rw [hGe]; exact innM_skew (by omega) hk3 st hxl hyl hi hq)
         have HD2 := Lib.hid hD2
         clear hD2 hGe hTG hdb hp hpg hxl hyl hxn hyn hk3
         subst hz
         go_wp2_with fail
         refine hD1.mono ?_
         rintro e wt1 ⟨rfl, hbt⟩
         have kt1 := kt.below hbt kt.lt
         have hd2 := HD2.out _ hbt
         have hxt := hX16.trans (hbt.mono hX16.size)
         clear hD1 q0 q1 kt
         obtain ⟨q0, q1⟩ := kt1.two
         go_wp2_with fail
         refine hd2.mono ?_
         rintro e wt2 ⟨rfl, hbt2⟩
         have hxt2 := hxt.trans (hbt2.mono hxt.size)
         clear hd2 hbt hbt2
         go_wp2
         go_ret
         exact ⟨rfl, hW6.trans (hxt2.mono hW6.size)⟩
       · have hzb : (z == 0) = false := by simpa using hz
         obtain rfl : gl = 0 := by rw [HGL.out, ind_bad HGZ.out hz]; rfl
         go_wp2
         go_ret
         exact ⟨rfl, hW6.trans (hX16.mono hW6.size)⟩
   · have hzcb : (zc == 0) = false := by simpa using hzc
     have kt := K6.out.below hX6 K6.out.lt
     obtain ⟨q0, q1⟩ := kt.two
     by_cases hz : z = 0
     · obtain ⟨hdb, hk3, hxl, hxn, hyl, hyn, hGe⟩ := ind_zero HGZ.out hz
       have hnl := RST6.out.lenI
       rw [hnl] at hk3 hxl hyl hGe
       have hp := (isDb_facts hdb).1
       have hpg := isP_ge hp
       have hTG : Tab P (pw n) G := by rw [hGe]; exact innM_tab (by omega) _ _ _ _
       obtain rfl : gl = pw n := by rw [HGL.out, hGe]; exact innM_len (by omega) _ _ _ _
       have hD1 := IsDerivation_ok P A n c st Ag cg G w7 hdb hk3 hcn (RST6.out.below hX6) (RG6.out.below hX6) hTG hcg (fun i q hi hq => DerM.gap (by omega) (by rw [← HGL.out]) hTG (by rw [hGe]; exact innM_der (by omega) hk3 st hxl hyl) hi hq)
       have hD2 := fun w' (h : Below w7.heap.size w7 w') => IsSkew_ok P A n c st Ag cg G w' hdb hk3 hcn ((RST6.out.below hX6).below h) ((RG6.out.below hX6).below h) hTG hcg (fun i q hi hq => by rw [hGe]; exact innM_skew (by omega) hk3 st hxl hyl hi hq)
       have HD2 := Lib.hid hD2
       clear hD2 hGe hTG hdb hp hpg hxl hyl hxn hyn hk3
       subst hz
       go_wp2_with fail
       refine hD1.mono ?_
       rintro e wt1 ⟨rfl, hbt⟩
       have kt1 := kt.below hbt kt.lt
       have hd2 := HD2.out _ hbt
       have hxt := hX6.trans (hbt.mono hX6.size)
       clear hD1 q0 q1 kt
       obtain ⟨q0, q1⟩ := kt1.two
       go_wp2_with fail
       refine hd2.mono ?_
       rintro e wt2 ⟨rfl, hbt2⟩
       have hxt2 := hxt.trans (hbt2.mono hxt.size)
       clear hd2 hbt hbt2
       go_wp2
       go_ret
       exact ⟨rfl, hW6.trans (hxt2.mono hW6.size)⟩
     · have hzb : (z == 0) = false := by simpa using hz
       obtain rfl : gl = 0 := by rw [HGL.out, ind_bad HGZ.out hz]; rfl
       go_wp2
       go_ret
       exact ⟨rfl, hW6.trans (hX6.mono hW6.size)⟩
end Go.Proofs.YtaiegpggccdgoaaGreat

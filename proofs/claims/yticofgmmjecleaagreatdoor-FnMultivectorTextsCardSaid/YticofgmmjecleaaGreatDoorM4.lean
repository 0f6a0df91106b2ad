/-
  LawFnMultivectorTexts: part 4 of the texts that the proof needs. No condition.
-/
import Derived.Test.YticofgmmjecleaaGreatDoorM3
namespace Go.Proofs.YticofgmmjecleaaGreatDoor
open Go.RowKit
/-- The value is a list of n numbers of the field that was made since the heap had B blocks. -/
def VLs (B n : Nat) (P : Int) : VP := ⟨fun v w => ∃ (A : Option Addr) (c : Nat) (xs : List Int), v = .slice A n c ∧ xs.length = n ∧ NumsL P xs ∧ Own w B 2 A n c (ints xs), fun _ _ _ ⟨A, c, xs, e, hl, hn, ho⟩ hb => ⟨A, c, xs, e, hl, hn, ho.below hb⟩⟩
theorem VLs.dr {B n g : Nat} {P : Int} {T : TypeId} {v : Value} {w w' : World} (h : (VLs B n P).p v w) (d : Dr g T w w') (hT : 2 ≠ T) : (VLs B n P).p v w' := by
  obtain ⟨A, c, xs, e, hl, hn, ho⟩ := h
  refine ⟨A, c, xs, e, ?_, hn, ho.dr d hT⟩
  exact hl
/-- The value is a place. -/
def VIx (n : Nat) : VP := ⟨fun v _ => ∃ i : Nat, v = .int .i64 i ∧ i < n, fun _ _ _ h _ => h⟩
/-- The value is a pointer to the place x of block g. -/
def VPt (g n : Nat) (x : Value) : VP := ⟨fun v _ => ∃ i : Nat, x = .int .i64 i ∧ i < n ∧ v = .pointer (some ⟨g, i, none⟩), fun _ _ _ h _ => h⟩
theorem nums_of {P : Int} {xs : List Int} (hp : 1 ≤ P) (h : ∀ x ∈ xs, 0 ≤ x ∧ (1 ≤ P → x < P)) : NumsL P xs := fun x hx => ⟨(h x hx).1, (h x hx).2 hp⟩
set_option maxHeartbeats 6400000 in
set_option maxRecDepth 8000 in
theorem l04Draw_any (g : Nat) (P : Int) (A : Option Addr) (n c : Nat) (sq : List Int) (w : World) (hs : Src w g 121) (hp : 2 ≤ P) (hp2 : P ≤ 13) (hn : n ≤ 6) (h0 : 0 < n) (ho : Own w 0 2 A n c (ints sq)) (hq : NumsL P sq) :
    Calls Tryz.prog 71 #[.pointer (some ⟨g, 0, none⟩), .agg #[.int .i64 P, .slice A n c]] w fun e w' => ∃ (A' : Option Addr) (c' : Nat), e = .returned (.slice A' (pw n) c') ∧ (∃ xs : List Int, Own w' w.heap.size 2 A' (pw n) c' (ints xs)) ∧ Dr g 121 w w' := by
  have hpw : pw n ≤ 64 := pw_le hn
  have hpn := pw_pos n
  have k0 : Blk (w.alloc (.cells #[.int .i64 P, .slice A n c] 28)) w.heap.size 28 #[.int .i64 P, .slice A n c] := Blk.new _ _ _
  have d0 := (Dr.refl hs).alloc (.cells #[.int .i64 P, .slice A n c] 28)
  have o0 := ho.below ((Below.refl _ _).alloc (Nat.le_refl _) (.cells #[.int .i64 P, .slice A n c] 28))
  have HQ := Lib.hid hq
  have hSQ : ∀ gb, (Value.slice A n c).ownBlock = some gb → gb < w.heap.size := fun gb e => (World.ownsRow.lt ho gb e).2
  obtain ⟨q0, q1⟩ := k0.two
  have hz := l04Zero_any P A n c (w.alloc (.cells #[.int .i64 P, .slice A n c] 28)) (by omega)
  go_enter Tryz.func71, Tryz.ntmps71
  go_wp2_with fail
  refine hz.mono ?_
  rintro e w2 ⟨A2, c2, rfl, hM2⟩
  have d2 := d0.then hM2.b
  have k2 := k0.below hM2.b k0.lt
  have o2 := o0.below hM2.b
  have hO2 := hM2.2.base (B' := w.heap.size) (by simp)
  have hnx := next_any g 5 w2 d2.s' (by omega)
  clear hz q0 q1 k0 d0 o0 hM2 ho
  obtain ⟨q0, q1⟩ := k2.two
  go_wp2_with fail
  refine hnx.mono ?_
  rintro e w3 ⟨r, rfl, hr1, hr2, hd3⟩
  have d3 := d2.trans hd3
  have k3 := k2.dr hd3 (by decide)
  have o3 := o2.dr hd3 (by decide)
  have hO3 := hO2.dr hd3 (by decide)
  clear hnx d2 k2 o2 hd3 hO2 q0 q1 hq
  by_cases h0' : r = 0
  · have e0 : (r == 0) = true := by simp [h0']
    obtain ⟨q0, q1⟩ := k3.two
    go_wp2
    refine wp_obsR 10 (Dr g 121) [[], [], [], [2], [], [4], [4, 5], [1, 2, 3, 4, 5, 6], [0, 1, 2, 3, 4, 5, 6, 7], [0, 1, 2, 3, 4, 5, 6, 7, 8]] [[], [], [], [], [], [], [], [99], [], []] (fun x => [VIs (.agg #[.int .i64 P, .slice A n c]), VIs (.pointer (some ⟨g, 0, none⟩)), VIs (.pointer (some ⟨w.heap.size, 0, none⟩)), VIs (.int .i64 (P)), VIs (.pointer (some ⟨w.heap.size, 1, none⟩)), VIs (.slice A n c), VIs (.int .i64 (n)), VLs w.heap.size (n) P, VLs w.heap.size (pw n) P, VLs w.heap.size (pw n) P]) (fun w' => Blk w' w.heap.size 28 #[.int .i64 P, .slice A n c] ∧ Own w' 0 2 A n c (ints sq) ∧ Dr g 121 w w') (by kernel_rfl) (by kernel_rfl) (fun x x' j hx => by
        rcases j with _ | _ | _ | _ | _ | _ | _ | _ | _ | _ | j
        · rfl
        · rfl
        · rfl
        · rfl
        · rfl
        · rfl
        · rfl
        · rfl
        · rfl
        · rfl
        · rfl)
      (weak_ofR [0, 1, 2, 3, 4, 5, 6, 7, 8, 9] (by decide) (fun k hk x v w w' hp hr => by
        simp only [List.mem_cons, List.not_mem_nil, or_false] at hk
        rcases hk with rfl | rfl | rfl | rfl | rfl | rfl | rfl | rfl | rfl | rfl
        · exact hp
        · exact hp
        · exact hp
        · exact hp
        · exact hp
        · exact hp
        · exact hp
        · exact VLs.dr hp hr (by decide)
        · exact VLs.dr hp hr (by decide)
        · exact VLs.dr hp hr (by decide))) (fun j _ _ h hb => hb.either (fun hb => ⟨h.1.below hb h.1.lt, h.2.1.below hb, h.2.2.then hb⟩) (fun hr => ⟨h.1.dr hr (by decide), h.2.1.dr hr (by decide), h.2.2.trans hr⟩)) (⟨k3.drew, o3.below (Below.refl _ _).drew, d3.then (Below.refl _ _).drew⟩) (fun x => ?_)
    refine obs_stepR (Eq.trans (by simp only [List.getElem?_toArray, List.getElem?_cons_zero]; exact rfl) rfl) rfl (fun w' hS hV K hK => ?_) ?_
    · obtain ⟨q0, q1⟩ := hS.1.two
      go_simp
      exact hK.out _ _ _ rfl rfl rfl (Below.refl _ _)
    simp only [List.setIfInBounds_toArray, List.set_cons_zero, List.set_cons_succ]
    refine obs_stepR (Eq.trans (by simp only [List.getElem?_toArray, List.getElem?_cons_succ, List.getElem?_cons_zero]; exact rfl) rfl) rfl (fun w' hS hV K hK => ?_) ?_
    · obtain ⟨q0, q1⟩ := hS.1.two
      go_simp
      exact hK.out _ _ _ rfl rfl rfl (Below.refl _ _)
    simp only [List.setIfInBounds_toArray, List.set_cons_zero, List.set_cons_succ]
    refine obs_stepR (Eq.trans (by simp only [List.getElem?_toArray, List.getElem?_cons_succ, List.getElem?_cons_zero]; exact rfl) rfl) rfl (fun w' hS hV K hK => ?_) ?_
    · obtain ⟨q0, q1⟩ := hS.1.two
      go_simp
      exact hK.out _ _ _ rfl rfl rfl (Below.refl _ _)
    simp only [List.setIfInBounds_toArray, List.set_cons_zero, List.set_cons_succ]
    refine obs_stepR (Eq.trans (by simp only [List.getElem?_toArray, List.getElem?_cons_succ, List.getElem?_cons_zero]; exact rfl) rfl) rfl (fun w' hS hV K hK => ?_) ?_
    · have e2 : x 2 = (.pointer (some ⟨w.heap.size, 0, none⟩)) := hV 2 (by decide)
      obtain ⟨q0, q1⟩ := hS.1.two
      go_simp
      exact hK.out _ _ _ rfl rfl rfl (Below.refl _ _)
    simp only [List.setIfInBounds_toArray, List.set_cons_zero, List.set_cons_succ]
    refine obs_stepR (Eq.trans (by simp only [List.getElem?_toArray, List.getElem?_cons_succ, List.getElem?_cons_zero]; exact rfl) rfl) rfl (fun w' hS hV K hK => ?_) ?_
    · obtain ⟨q0, q1⟩ := hS.1.two
      go_simp
      exact hK.out _ _ _ rfl rfl rfl (Below.refl _ _)
    simp only [List.setIfInBounds_toArray, List.set_cons_zero, List.set_cons_succ]
    refine obs_stepR (Eq.trans (by simp only [List.getElem?_toArray, List.getElem?_cons_succ, List.getElem?_cons_zero]; exact rfl) rfl) rfl (fun w' hS hV K hK => ?_) ?_
    · have e4 : x 4 = (.pointer (some ⟨w.heap.size, 1, none⟩)) := hV 4 (by decide)
      obtain ⟨q0, q1⟩ := hS.1.two
      go_simp
      exact hK.out _ _ _ rfl rfl rfl (Below.refl _ _)
    simp only [List.setIfInBounds_toArray, List.set_cons_zero, List.set_cons_succ]
    refine obs_stepR (Eq.trans (by simp only [List.getElem?_toArray, List.getElem?_cons_succ, List.getElem?_cons_zero]; exact rfl) rfl) rfl (fun w' hS hV K hK => ?_) ?_
    · have e4 : x 4 = (.pointer (some ⟨w.heap.size, 1, none⟩)) := hV 4 (by decide)
      have e5 : x 5 = (.slice A n c) := hV 5 (by decide)
      obtain ⟨q0, q1⟩ := hS.1.two
      go_simp
      exact hK.out _ _ _ rfl rfl rfl (Below.refl _ _)
    simp only [List.setIfInBounds_toArray, List.set_cons_zero, List.set_cons_succ]
    refine obs_stepR (Eq.trans (by simp only [List.getElem?_toArray, List.getElem?_cons_succ, List.getElem?_cons_zero]; exact rfl) rfl) rfl (fun w' hS hV K hK => ?_) ?_
    · have e1 : x 1 = (.pointer (some ⟨g, 0, none⟩)) := hV 1 (by decide)
      have e2 : x 2 = (.pointer (some ⟨w.heap.size, 0, none⟩)) := hV 2 (by decide)
      have e3 : x 3 = (.int .i64 (P)) := hV 3 (by decide)
      have e4 : x 4 = (.pointer (some ⟨w.heap.size, 1, none⟩)) := hV 4 (by decide)
      have e5 : x 5 = (.slice A n c) := hV 5 (by decide)
      have e6 : x 6 = (.int .i64 (n)) := hV 6 (by decide)
      obtain ⟨q0, q1⟩ := hS.1.two
      go_simp
      refine (nextList_any g P (n) w' hS.2.2.s' (by omega) (by omega)).mono ?_
      rintro e v1 ⟨A9, c9, xs9, rfl, hl9, hx9, ho9, hd9⟩
      exact hK.out _ _ _ rfl rfl ⟨_, _, xs9, rfl, hl9, nums_of (by omega) hx9, ho9.base hS.2.2.size⟩ hd9
    simp only [List.setIfInBounds_toArray, List.set_cons_zero, List.set_cons_succ]
    refine obs_stepR (Eq.trans (by simp only [List.getElem?_toArray, List.getElem?_cons_succ, List.getElem?_cons_zero]; exact rfl) rfl) rfl (fun w' hS hV K hK => ?_) ?_
    · have e0 : x 0 = (.agg #[.int .i64 P, .slice A n c]) := hV 0 (by decide)
      have e1 : x 1 = (.pointer (some ⟨g, 0, none⟩)) := hV 1 (by decide)
      have e2 : x 2 = (.pointer (some ⟨w.heap.size, 0, none⟩)) := hV 2 (by decide)
      have e3 : x 3 = (.int .i64 (P)) := hV 3 (by decide)
      have e4 : x 4 = (.pointer (some ⟨w.heap.size, 1, none⟩)) := hV 4 (by decide)
      have e5 : x 5 = (.slice A n c) := hV 5 (by decide)
      have e6 : x 6 = (.int .i64 (n)) := hV 6 (by decide)
      obtain ⟨A7, c7, X7, e7, l7, n7, h7⟩ := hV 7 (by decide)
      obtain ⟨q0, q1⟩ := hS.1.two
      go_simp
      refine (l04Vector_any P A n c A7 c7 X7 w' (by omega) h7.rd).mono ?_
      rintro e v1 ⟨A9, c9, rfl, hM⟩
      exact hK.out _ _ _ rfl rfl ⟨_, _, _, rfl, vecTo_len _ _ _, vecTo_nums (by omega) n X7 n7 n, hM.2.base hS.2.2.size⟩ hM.b
    simp only [List.setIfInBounds_toArray, List.set_cons_zero, List.set_cons_succ]
    refine obs_stepR (Eq.trans (by simp only [List.getElem?_toArray, List.getElem?_cons_succ, List.getElem?_cons_zero]; exact rfl) rfl) rfl (fun w' hS hV K hK => ?_) ?_
    · have e0 : x 0 = (.agg #[.int .i64 P, .slice A n c]) := hV 0 (by decide)
      have e1 : x 1 = (.pointer (some ⟨g, 0, none⟩)) := hV 1 (by decide)
      have e2 : x 2 = (.pointer (some ⟨w.heap.size, 0, none⟩)) := hV 2 (by decide)
      have e3 : x 3 = (.int .i64 (P)) := hV 3 (by decide)
      have e4 : x 4 = (.pointer (some ⟨w.heap.size, 1, none⟩)) := hV 4 (by decide)
      have e5 : x 5 = (.slice A n c) := hV 5 (by decide)
      have e6 : x 6 = (.int .i64 (n)) := hV 6 (by decide)
      obtain ⟨A7, c7, X7, e7, l7, n7, h7⟩ := hV 7 (by decide)
      obtain ⟨A8, c8, X8, e8, l8, n8, h8⟩ := hV 8 (by decide)
      obtain ⟨q0, q1⟩ := hS.1.two
      go_simp
      exact hK.out _ _ _ rfl rfl ⟨_, _, X8, rfl, l8, n8, h8⟩ (Below.refl _ _)
    simp only [List.setIfInBounds_toArray, List.set_cons_zero, List.set_cons_succ]
    refine fun w' hS hV => ?_
    have e0 : x 0 = (.agg #[.int .i64 P, .slice A n c]) := hV 0 (by decide)
    have e1 : x 1 = (.pointer (some ⟨g, 0, none⟩)) := hV 1 (by decide)
    have e2 : x 2 = (.pointer (some ⟨w.heap.size, 0, none⟩)) := hV 2 (by decide)
    have e3 : x 3 = (.int .i64 (P)) := hV 3 (by decide)
    have e4 : x 4 = (.pointer (some ⟨w.heap.size, 1, none⟩)) := hV 4 (by decide)
    have e5 : x 5 = (.slice A n c) := hV 5 (by decide)
    have e6 : x 6 = (.int .i64 (n)) := hV 6 (by decide)
    obtain ⟨A7, c7, X7, e7, l7, n7, h7⟩ := hV 7 (by decide)
    obtain ⟨A8, c8, X8, e8, l8, n8, h8⟩ := hV 8 (by decide)
    obtain ⟨A9, c9, X9, e9, l9, n9, h9⟩ := hV 9 (by decide)
    simp only [e0, e1, e2, e3, e4, e5, e6, e7, e8, e9]
    clear e0 e1 e2 e3 e4 e5 e6 e7 e8 e9
    refine wpAny_done (by kernel_rfl) ?_ _
    obtain ⟨_, _, d9⟩ := hS
    go_wp2
    go_ret
    exact ⟨_, _, rfl, ⟨X9, h9⟩, d9⟩
  · have e0 : (r == 0) = false := by simp [h0']
    by_cases h1 : r = 1
    · have e1 : (r == 1) = true := by simp [h1]
      obtain ⟨q0, q1⟩ := k3.two
      go_wp2_with fail
      refine (l04One_any P A n c w3 (by omega)).mono ?_
      rintro e w4 ⟨A4, c4, rfl, hM4⟩
      have d4 := d3.then hM4.b
      have k4 := k3.below hM4.b k3.lt
      have o4 := o3.below hM4.b
      have h4 := hM4.2.base (B' := w.heap.size) d3.size
      have hnx := next_any g 4 w4 d4.s' (by omega)
      clear hM4 d3 k3 o3 hO3 q0 q1
      go_wp2_with fail
      refine hnx.mono ?_
      rintro e w5 ⟨rr, rfl, hr3, hr4, hd5⟩
      obtain ⟨rn, rfl⟩ : ∃ rn : Nat, rr = rn := ⟨rr.toNat, by omega⟩
      have d5 := d4.trans hd5
      have k5 := k4.dr hd5 (by decide)
      have o5 := o4.dr hd5 (by decide)
      have h5 := h4.dr hd5 (by decide)
      clear hnx d4 k4 o4 h4 hd5
      have hbn := bladeL_nums hp n 0
      have hbl := bladeL_len n 0
      go_wp2
      go_loopw [5, 6] (fun out q wr => ∃ (m : Nat) (A5 : Option Addr) (c5 : Nat) (X5 : List Int), m ≤ 4 ∧ q = .int .i64 m ∧ out = .slice A5 (pw n) c5 ∧ X5.length = pw n ∧ NumsL P X5 ∧ Own wr w.heap.size 2 A5 (pw n) c5 (ints X5) ∧ Blk wr w.heap.size 28 #[.int .i64 P, .slice A n c] ∧ Own wr 0 2 A n c (ints sq) ∧ Dr g 121 w wr) (fun _ q _ => (intOf q).toNat)
      case atStart => exact ⟨rn, _, _, _, by omega, rfl, rfl, hbl, hbn, h5, k5, o5, d5⟩
      case round =>
        clear h5 k5 o5 d5 hbn hbl
        obtain ⟨m, A5, c5, X5, hm4, rfl, rfl, hl5, hn5, h5, k5, o5, d5⟩ := hrel
        have HN5 := Lib.hid hn5
        have HL5 := Lib.hid hl5
        clear hn5 hl5
        cases m with
        | zero =>
          go_wp2
          go_ret
          exact ⟨_, _, rfl, ⟨X5, h5⟩, d5⟩
        | succ m =>
          have d1 : decide (0 < ((m + 1 : Nat) : Int)) = true := by rw [decide_eq_true_eq]; omega
          have WM : wrap64 (((m + 1 : Nat) : Int) - 1) = (m : Int) := by unfold wrap64; omega
          obtain ⟨q0, q1⟩ := k5.two
          go_wp2
          refine wp_obsR 12 (Dr g 121) [[], [], [], [], [], [4], [], [6], [6, 7], [3, 4, 5, 6, 7, 8], [2, 3, 4, 5, 6, 7, 8, 9], [0, 1, 2, 3, 4, 5, 6, 7, 8, 9, 10], [0, 1, 2, 3, 4, 5, 6, 7, 8, 9, 10, 11]] [[], [], [], [], [], [], [], [], [], [99], [], []] (fun x => [VIs (.agg #[.int .i64 P, .slice A n c]), VIs (.slice A5 (pw n) c5), VIs (.agg #[.int .i64 P, .slice A n c]), VIs (.pointer (some ⟨g, 0, none⟩)), VIs (.pointer (some ⟨w.heap.size, 0, none⟩)), VIs (.int .i64 (P)), VIs (.pointer (some ⟨w.heap.size, 1, none⟩)), VIs (.slice A n c), VIs (.int .i64 (n)), VLs w.heap.size (n) P, VLs w.heap.size (pw n) P, VLs w.heap.size (pw n) P]) (fun w' => Blk w' w.heap.size 28 #[.int .i64 P, .slice A n c] ∧ Own w' 0 2 A n c (ints sq) ∧ Dr g 121 w w' ∧ Own w' w.heap.size 2 A5 (pw n) c5 (ints X5)) (by kernel_rfl) (by kernel_rfl) (fun x x' j hx => by
              rcases j with _ | _ | _ | _ | _ | _ | _ | _ | _ | _ | _ | _ | j
              · rfl
              · rfl
              · rfl
              · rfl
              · rfl
              · rfl
              · rfl
              · rfl
              · rfl
              · rfl
              · rfl
              · rfl
              · rfl)
            (weak_ofR [0, 1, 2, 3, 4, 5, 6, 7, 8, 9, 10, 11] (by decide) (fun k hk x v w w' hp hr => by
              simp only [List.mem_cons, List.not_mem_nil, or_false] at hk
              rcases hk with rfl | rfl | rfl | rfl | rfl | rfl | rfl | rfl | rfl | rfl | rfl | rfl
              · exact hp
              · exact hp
              · exact hp
              · exact hp
              · exact hp
              · exact hp
              · exact hp
              · exact hp
              · exact hp
              · exact VLs.dr hp hr (by decide)
              · exact VLs.dr hp hr (by decide)
              · exact VLs.dr hp hr (by decide))) (fun j _ _ h hb => hb.either (fun hb => ⟨h.1.below hb h.1.lt, h.2.1.below hb, h.2.2.1.then hb, h.2.2.2.below hb⟩) (fun hr => ⟨h.1.dr hr (by decide), h.2.1.dr hr (by decide), h.2.2.1.trans hr, h.2.2.2.dr hr (by decide)⟩)) (⟨k5.drew, o5.below (Below.refl _ _).drew, d5.then (Below.refl _ _).drew, h5.below (Below.refl _ _).drew⟩) (fun x => ?_)
          refine obs_stepR (Eq.trans (by simp only [List.getElem?_toArray, List.getElem?_cons_zero]; exact rfl) rfl) rfl (fun w' hS hV K hK => ?_) ?_
          · obtain ⟨q0, q1⟩ := hS.1.two
            go_simp
            exact hK.out _ _ _ rfl rfl rfl (Below.refl _ _)
          simp only [List.setIfInBounds_toArray, List.set_cons_zero, List.set_cons_succ]
          refine obs_stepR (Eq.trans (by simp only [List.getElem?_toArray, List.getElem?_cons_succ, List.getElem?_cons_zero]; exact rfl) rfl) rfl (fun w' hS hV K hK => ?_) ?_
          · obtain ⟨q0, q1⟩ := hS.1.two
            go_simp
            exact hK.out _ _ _ rfl rfl rfl (Below.refl _ _)
          simp only [List.setIfInBounds_toArray, List.set_cons_zero, List.set_cons_succ]
          refine obs_stepR (Eq.trans (by simp only [List.getElem?_toArray, List.getElem?_cons_succ, List.getElem?_cons_zero]; exact rfl) rfl) rfl (fun w' hS hV K hK => ?_) ?_
          · obtain ⟨q0, q1⟩ := hS.1.two
            go_simp
            exact hK.out _ _ _ rfl rfl rfl (Below.refl _ _)
          simp only [List.setIfInBounds_toArray, List.set_cons_zero, List.set_cons_succ]
          refine obs_stepR (Eq.trans (by simp only [List.getElem?_toArray, List.getElem?_cons_succ, List.getElem?_cons_zero]; exact rfl) rfl) rfl (fun w' hS hV K hK => ?_) ?_
          · obtain ⟨q0, q1⟩ := hS.1.two
            go_simp
            exact hK.out _ _ _ rfl rfl rfl (Below.refl _ _)
          simp only [List.setIfInBounds_toArray, List.set_cons_zero, List.set_cons_succ]
          refine obs_stepR (Eq.trans (by simp only [List.getElem?_toArray, List.getElem?_cons_succ, List.getElem?_cons_zero]; exact rfl) rfl) rfl (fun w' hS hV K hK => ?_) ?_
          · obtain ⟨q0, q1⟩ := hS.1.two
            go_simp
            exact hK.out _ _ _ rfl rfl rfl (Below.refl _ _)
          simp only [List.setIfInBounds_toArray, List.set_cons_zero, List.set_cons_succ]
          refine obs_stepR (Eq.trans (by simp only [List.getElem?_toArray, List.getElem?_cons_succ, List.getElem?_cons_zero]; exact rfl) rfl) rfl (fun w' hS hV K hK => ?_) ?_
          · have e4 : x 4 = (.pointer (some ⟨w.heap.size, 0, none⟩)) := hV 4 (by decide)
            obtain ⟨q0, q1⟩ := hS.1.two
            go_simp
            exact hK.out _ _ _ rfl rfl rfl (Below.refl _ _)
          simp only [List.setIfInBounds_toArray, List.set_cons_zero, List.set_cons_succ]
          refine obs_stepR (Eq.trans (by simp only [List.getElem?_toArray, List.getElem?_cons_succ, List.getElem?_cons_zero]; exact rfl) rfl) rfl (fun w' hS hV K hK => ?_) ?_
          · obtain ⟨q0, q1⟩ := hS.1.two
            go_simp
            exact hK.out _ _ _ rfl rfl rfl (Below.refl _ _)
          simp only [List.setIfInBounds_toArray, List.set_cons_zero, List.set_cons_succ]
          refine obs_stepR (Eq.trans (by simp only [List.getElem?_toArray, List.getElem?_cons_succ, List.getElem?_cons_zero]; exact rfl) rfl) rfl (fun w' hS hV K hK => ?_) ?_
          · have e6 : x 6 = (.pointer (some ⟨w.heap.size, 1, none⟩)) := hV 6 (by decide)
            obtain ⟨q0, q1⟩ := hS.1.two
            go_simp
            exact hK.out _ _ _ rfl rfl rfl (Below.refl _ _)
          simp only [List.setIfInBounds_toArray, List.set_cons_zero, List.set_cons_succ]
          refine obs_stepR (Eq.trans (by simp only [List.getElem?_toArray, List.getElem?_cons_succ, List.getElem?_cons_zero]; exact rfl) rfl) rfl (fun w' hS hV K hK => ?_) ?_
          · have e6 : x 6 = (.pointer (some ⟨w.heap.size, 1, none⟩)) := hV 6 (by decide)
            have e7 : x 7 = (.slice A n c) := hV 7 (by decide)
            obtain ⟨q0, q1⟩ := hS.1.two
            go_simp
            exact hK.out _ _ _ rfl rfl rfl (Below.refl _ _)
          simp only [List.setIfInBounds_toArray, List.set_cons_zero, List.set_cons_succ]
          refine obs_stepR (Eq.trans (by simp only [List.getElem?_toArray, List.getElem?_cons_succ, List.getElem?_cons_zero]; exact rfl) rfl) rfl (fun w' hS hV K hK => ?_) ?_
          · have e3 : x 3 = (.pointer (some ⟨g, 0, none⟩)) := hV 3 (by decide)
            have e4 : x 4 = (.pointer (some ⟨w.heap.size, 0, none⟩)) := hV 4 (by decide)
            have e5 : x 5 = (.int .i64 (P)) := hV 5 (by decide)
            have e6 : x 6 = (.pointer (some ⟨w.heap.size, 1, none⟩)) := hV 6 (by decide)
            have e7 : x 7 = (.slice A n c) := hV 7 (by decide)
            have e8 : x 8 = (.int .i64 (n)) := hV 8 (by decide)
            obtain ⟨q0, q1⟩ := hS.1.two
            go_simp
            refine (nextList_any g P (n) w' hS.2.2.1.s' (by omega) (by omega)).mono ?_
            rintro e v1 ⟨A9, c9, xs9, rfl, hl9, hx9, ho9, hd9⟩
            exact hK.out _ _ _ rfl rfl ⟨_, _, xs9, rfl, hl9, nums_of (by omega) hx9, ho9.base hS.2.2.1.size⟩ hd9
          simp only [List.setIfInBounds_toArray, List.set_cons_zero, List.set_cons_succ]
          refine obs_stepR (Eq.trans (by simp only [List.getElem?_toArray, List.getElem?_cons_succ, List.getElem?_cons_zero]; exact rfl) rfl) rfl (fun w' hS hV K hK => ?_) ?_
          · have e2 : x 2 = (.agg #[.int .i64 P, .slice A n c]) := hV 2 (by decide)
            have e3 : x 3 = (.pointer (some ⟨g, 0, none⟩)) := hV 3 (by decide)
            have e4 : x 4 = (.pointer (some ⟨w.heap.size, 0, none⟩)) := hV 4 (by decide)
            have e5 : x 5 = (.int .i64 (P)) := hV 5 (by decide)
            have e6 : x 6 = (.pointer (some ⟨w.heap.size, 1, none⟩)) := hV 6 (by decide)
            have e7 : x 7 = (.slice A n c) := hV 7 (by decide)
            have e8 : x 8 = (.int .i64 (n)) := hV 8 (by decide)
            obtain ⟨A9, c9, X9, e9, l9, n9, h9⟩ := hV 9 (by decide)
            obtain ⟨q0, q1⟩ := hS.1.two
            go_simp
            refine (l04Vector_any P A n c A9 c9 X9 w' (by omega) h9.rd).mono ?_
            rintro e v1 ⟨A9, c9, rfl, hM⟩
            exact hK.out _ _ _ rfl rfl ⟨_, _, _, rfl, vecTo_len _ _ _, vecTo_nums (by omega) n X9 n9 n, hM.2.base hS.2.2.1.size⟩ hM.b
          simp only [List.setIfInBounds_toArray, List.set_cons_zero, List.set_cons_succ]
          refine obs_stepR (Eq.trans (by simp only [List.getElem?_toArray, List.getElem?_cons_succ, List.getElem?_cons_zero]; exact rfl) rfl) rfl (fun w' hS hV K hK => ?_) ?_
          · have e0 : x 0 = (.agg #[.int .i64 P, .slice A n c]) := hV 0 (by decide)
            have e1 : x 1 = (.slice A5 (pw n) c5) := hV 1 (by decide)
            have e2 : x 2 = (.agg #[.int .i64 P, .slice A n c]) := hV 2 (by decide)
            have e3 : x 3 = (.pointer (some ⟨g, 0, none⟩)) := hV 3 (by decide)
            have e4 : x 4 = (.pointer (some ⟨w.heap.size, 0, none⟩)) := hV 4 (by decide)
            have e5 : x 5 = (.int .i64 (P)) := hV 5 (by decide)
            have e6 : x 6 = (.pointer (some ⟨w.heap.size, 1, none⟩)) := hV 6 (by decide)
            have e7 : x 7 = (.slice A n c) := hV 7 (by decide)
            have e8 : x 8 = (.int .i64 (n)) := hV 8 (by decide)
            obtain ⟨A9, c9, X9, e9, l9, n9, h9⟩ := hV 9 (by decide)
            obtain ⟨A10, c10, X10, e10, l10, n10, h10⟩ := hV 10 (by decide)
            obtain ⟨q0, q1⟩ := hS.1.two
            go_simp
            refine (l04Times_any P A n c sq A5 c5 X5 A10 c10 X10 w' hp hp2 hn hS.2.1.rd HQ.out (hS.2.2.2.rd) HN5.out h10.rd n10).mono ?_
            rintro e v1 ⟨A9, c9, rfl, hM⟩
            exact hK.out _ _ _ rfl rfl ⟨_, _, _, rfl, by rw [prodL_len]; exact HL5.out, prodL_nums sq _ _ _ (by omega), hM.2.base hS.2.2.1.size⟩ hM.b
          simp only [List.setIfInBounds_toArray, List.set_cons_zero, List.set_cons_succ]
          refine fun w' hS hV => ?_
          have e0 : x 0 = (.agg #[.int .i64 P, .slice A n c]) := hV 0 (by decide)
          have e1 : x 1 = (.slice A5 (pw n) c5) := hV 1 (by decide)
          have e2 : x 2 = (.agg #[.int .i64 P, .slice A n c]) := hV 2 (by decide)
          have e3 : x 3 = (.pointer (some ⟨g, 0, none⟩)) := hV 3 (by decide)
          have e4 : x 4 = (.pointer (some ⟨w.heap.size, 0, none⟩)) := hV 4 (by decide)
          have e5 : x 5 = (.int .i64 (P)) := hV 5 (by decide)
          have e6 : x 6 = (.pointer (some ⟨w.heap.size, 1, none⟩)) := hV 6 (by decide)
          have e7 : x 7 = (.slice A n c) := hV 7 (by decide)
          have e8 : x 8 = (.int .i64 (n)) := hV 8 (by decide)
          obtain ⟨A9, c9, X9, e9, l9, n9, h9⟩ := hV 9 (by decide)
          obtain ⟨A10, c10, X10, e10, l10, n10, h10⟩ := hV 10 (by decide)
          obtain ⟨A11, c11, X11, e11, l11, n11, h11⟩ := hV 11 (by decide)
          simp only [e0, e1, e2, e3, e4, e5, e6, e7, e8, e9, e10, e11]
          clear e0 e1 e2 e3 e4 e5 e6 e7 e8 e9 e10 e11
          obtain ⟨k6, o6, d6, _⟩ := hS
          refine any_one (j := 12) (by kernel_rfl) (Eq.trans (by simp only [List.getElem?_toArray, List.getElem?_cons_succ, List.getElem?_cons_zero]; exact rfl) rfl) (fun K hK => ?_)
          go_simp
          refine hK.out _ _ (wpAny_done (by kernel_rfl) ?_ _)
          clear q0 q1 k5 o5 d5 h5
          go_wp2
          go_roundw
          case rel => exact ⟨m, _, _, X11, by omega, by go_num, rfl, l11, n11, h11, k6, o6, d6⟩
          case measure => simp [intOf]
    · have e1 : (r == 1) = false := by simp [h1]
      by_cases h2 : r = 2
      · have e2 : (r == 2) = true := by simp [h2]
        have hnx := next_any g ((n : Int) + 1) w3 d3.s' (by omega)
        have W1 : wrap64 ((n : Int) + 1) = (n : Int) + 1 := by unfold wrap64; omega
        obtain ⟨q0, q1⟩ := k3.two
        go_wp2_with fail
        refine hnx.mono ?_
        rintro e w4 ⟨rr, rfl, hr3, hr4, hd4⟩
        have hr5 := hr4 (by omega)
        obtain ⟨rn, rfl⟩ : ∃ rn : Nat, rr = rn := ⟨rr.toNat, by omega⟩
        have d4 := d3.trans hd4
        have k4 := k3.dr hd4 (by decide)
        have o4 := o3.dr hd4 (by decide)
        clear hnx d3 k3 o3 hd4 q0 q1
        obtain ⟨q0, q1⟩ := k4.two
        go_wp2
        refine wp_obsR 9 (Dr g 121) [[], [], [1], [], [3], [0, 1, 2, 3, 4], [], [0, 1, 2, 3, 4, 5, 6], [0, 1, 2, 3, 4, 5, 6, 7]] [[], [], [], [], [], [99], [], [], []] (fun x => [VIs (.pointer (some ⟨g, 0, none⟩)), VIs (.pointer (some ⟨w.heap.size, 0, none⟩)), VIs (.int .i64 (P)), VIs (.agg #[.int .i64 P, .slice A n c]), VIs (.int .i64 (pw n)), VLs w.heap.size (pw n) P, VIs (.int .i64 (rn)), VLs w.heap.size (pw n) P, VLs w.heap.size (pw n) P]) (fun w' => Blk w' w.heap.size 28 #[.int .i64 P, .slice A n c] ∧ Own w' 0 2 A n c (ints sq) ∧ Dr g 121 w w') (by kernel_rfl) (by kernel_rfl) (fun x x' j hx => by
            rcases j with _ | _ | _ | _ | _ | _ | _ | _ | _ | j
            · rfl
            · rfl
            · rfl
            · rfl
            · rfl
            · rfl
            · rfl
            · rfl
            · rfl
            · rfl)
          (weak_ofR [0, 1, 2, 3, 4, 5, 6, 7, 8] (by decide) (fun k hk x v w w' hp hr => by
            simp only [List.mem_cons, List.not_mem_nil, or_false] at hk
            rcases hk with rfl | rfl | rfl | rfl | rfl | rfl | rfl | rfl | rfl
            · exact hp
            · exact hp
            · exact hp
            · exact hp
            · exact hp
            · exact VLs.dr hp hr (by decide)
            · exact hp
            · exact VLs.dr hp hr (by decide)
            · exact VLs.dr hp hr (by decide))) (fun j _ _ h hb => hb.either (fun hb => ⟨h.1.below hb h.1.lt, h.2.1.below hb, h.2.2.then hb⟩) (fun hr => ⟨h.1.dr hr (by decide), h.2.1.dr hr (by decide), h.2.2.trans hr⟩)) (⟨k4.drew, o4.below (Below.refl _ _).drew, d4.then (Below.refl _ _).drew⟩) (fun x => ?_)
        refine obs_stepR (Eq.trans (by simp only [List.getElem?_toArray, List.getElem?_cons_zero]; exact rfl) rfl) rfl (fun w' hS hV K hK => ?_) ?_
        · obtain ⟨q0, q1⟩ := hS.1.two
          go_simp
          exact hK.out _ _ _ rfl rfl rfl (Below.refl _ _)
        simp only [List.setIfInBounds_toArray, List.set_cons_zero, List.set_cons_succ]
        refine obs_stepR (Eq.trans (by simp only [List.getElem?_toArray, List.getElem?_cons_succ, List.getElem?_cons_zero]; exact rfl) rfl) rfl (fun w' hS hV K hK => ?_) ?_
        · obtain ⟨q0, q1⟩ := hS.1.two
          go_simp
          exact hK.out _ _ _ rfl rfl rfl (Below.refl _ _)
        simp only [List.setIfInBounds_toArray, List.set_cons_zero, List.set_cons_succ]
        refine obs_stepR (Eq.trans (by simp only [List.getElem?_toArray, List.getElem?_cons_succ, List.getElem?_cons_zero]; exact rfl) rfl) rfl (fun w' hS hV K hK => ?_) ?_
        · have e1 : x 1 = (.pointer (some ⟨w.heap.size, 0, none⟩)) := hV 1 (by decide)
          obtain ⟨q0, q1⟩ := hS.1.two
          go_simp
          exact hK.out _ _ _ rfl rfl rfl (Below.refl _ _)
        simp only [List.setIfInBounds_toArray, List.set_cons_zero, List.set_cons_succ]
        refine obs_stepR (Eq.trans (by simp only [List.getElem?_toArray, List.getElem?_cons_succ, List.getElem?_cons_zero]; exact rfl) rfl) rfl (fun w' hS hV K hK => ?_) ?_
        · obtain ⟨q0, q1⟩ := hS.1.two
          go_simp
          exact hK.out _ _ _ rfl rfl rfl (Below.refl _ _)
        simp only [List.setIfInBounds_toArray, List.set_cons_zero, List.set_cons_succ]
        refine obs_stepR (Eq.trans (by simp only [List.getElem?_toArray, List.getElem?_cons_succ, List.getElem?_cons_zero]; exact rfl) rfl) rfl (fun w' hS hV K hK => ?_) ?_
        · have e3 : x 3 = (.agg #[.int .i64 P, .slice A n c]) := hV 3 (by decide)
          obtain ⟨q0, q1⟩ := hS.1.two
          go_simp
          refine (l04Size_any P A n c w' (by omega)).mono ?_
          rintro e v1 ⟨rfl, hb⟩
          exact hK.out _ _ _ rfl rfl rfl hb
        simp only [List.setIfInBounds_toArray, List.set_cons_zero, List.set_cons_succ]
        refine obs_stepR (Eq.trans (by simp only [List.getElem?_toArray, List.getElem?_cons_succ, List.getElem?_cons_zero]; exact rfl) rfl) rfl (fun w' hS hV K hK => ?_) ?_
        · have e0 : x 0 = (.pointer (some ⟨g, 0, none⟩)) := hV 0 (by decide)
          have e1 : x 1 = (.pointer (some ⟨w.heap.size, 0, none⟩)) := hV 1 (by decide)
          have e2 : x 2 = (.int .i64 (P)) := hV 2 (by decide)
          have e3 : x 3 = (.agg #[.int .i64 P, .slice A n c]) := hV 3 (by decide)
          have e4 : x 4 = (.int .i64 (pw n)) := hV 4 (by decide)
          obtain ⟨q0, q1⟩ := hS.1.two
          go_simp
          refine (nextList_any g P (pw n) w' hS.2.2.s' (by omega) (by omega)).mono ?_
          rintro e v1 ⟨A9, c9, xs9, rfl, hl9, hx9, ho9, hd9⟩
          exact hK.out _ _ _ rfl rfl ⟨_, _, xs9, rfl, hl9, nums_of (by omega) hx9, ho9.base hS.2.2.size⟩ hd9
        simp only [List.setIfInBounds_toArray, List.set_cons_zero, List.set_cons_succ]
        refine obs_stepR (Eq.trans (by simp only [List.getElem?_toArray, List.getElem?_cons_succ, List.getElem?_cons_zero]; exact rfl) rfl) rfl (fun w' hS hV K hK => ?_) ?_
        · obtain ⟨q0, q1⟩ := hS.1.two
          go_simp
          exact hK.out _ _ _ rfl rfl rfl (Below.refl _ _)
        simp only [List.setIfInBounds_toArray, List.set_cons_zero, List.set_cons_succ]
        refine obs_stepR (Eq.trans (by simp only [List.getElem?_toArray, List.getElem?_cons_succ, List.getElem?_cons_zero]; exact rfl) rfl) rfl (fun w' hS hV K hK => ?_) ?_
        · have e0 : x 0 = (.pointer (some ⟨g, 0, none⟩)) := hV 0 (by decide)
          have e1 : x 1 = (.pointer (some ⟨w.heap.size, 0, none⟩)) := hV 1 (by decide)
          have e2 : x 2 = (.int .i64 (P)) := hV 2 (by decide)
          have e3 : x 3 = (.agg #[.int .i64 P, .slice A n c]) := hV 3 (by decide)
          have e4 : x 4 = (.int .i64 (pw n)) := hV 4 (by decide)
          obtain ⟨A5, c5, X5, e5, l5, n5, h5⟩ := hV 5 (by decide)
          have e6 : x 6 = (.int .i64 (rn)) := hV 6 (by decide)
          obtain ⟨q0, q1⟩ := hS.1.two
          go_simp
          refine (l04Part_any A5 (pw n) c5 X5 rn w' (by omega) (by omega) h5.rd).mono ?_
          rintro e v1 ⟨A9, c9, rfl, hM⟩
          exact hK.out _ _ _ rfl rfl ⟨_, _, _, rfl, by rw [partG_len]; exact l5, partG_nums (by omega) n5 _, hM.2.base hS.2.2.size⟩ hM.b
        simp only [List.setIfInBounds_toArray, List.set_cons_zero, List.set_cons_succ]
        refine obs_stepR (Eq.trans (by simp only [List.getElem?_toArray, List.getElem?_cons_succ, List.getElem?_cons_zero]; exact rfl) rfl) rfl (fun w' hS hV K hK => ?_) ?_
        · have e0 : x 0 = (.pointer (some ⟨g, 0, none⟩)) := hV 0 (by decide)
          have e1 : x 1 = (.pointer (some ⟨w.heap.size, 0, none⟩)) := hV 1 (by decide)
          have e2 : x 2 = (.int .i64 (P)) := hV 2 (by decide)
          have e3 : x 3 = (.agg #[.int .i64 P, .slice A n c]) := hV 3 (by decide)
          have e4 : x 4 = (.int .i64 (pw n)) := hV 4 (by decide)
          obtain ⟨A5, c5, X5, e5, l5, n5, h5⟩ := hV 5 (by decide)
          have e6 : x 6 = (.int .i64 (rn)) := hV 6 (by decide)
          obtain ⟨A7, c7, X7, e7, l7, n7, h7⟩ := hV 7 (by decide)
          obtain ⟨q0, q1⟩ := hS.1.two
          go_simp
          exact hK.out _ _ _ rfl rfl ⟨_, _, X7, rfl, l7, n7, h7⟩ (Below.refl _ _)
        simp only [List.setIfInBounds_toArray, List.set_cons_zero, List.set_cons_succ]
        refine fun w' hS hV => ?_
        have e0 : x 0 = (.pointer (some ⟨g, 0, none⟩)) := hV 0 (by decide)
        have e1 : x 1 = (.pointer (some ⟨w.heap.size, 0, none⟩)) := hV 1 (by decide)
        have e2 : x 2 = (.int .i64 (P)) := hV 2 (by decide)
        have e3 : x 3 = (.agg #[.int .i64 P, .slice A n c]) := hV 3 (by decide)
        have e4 : x 4 = (.int .i64 (pw n)) := hV 4 (by decide)
        obtain ⟨A5, c5, X5, e5, l5, n5, h5⟩ := hV 5 (by decide)
        have e6 : x 6 = (.int .i64 (rn)) := hV 6 (by decide)
        obtain ⟨A7, c7, X7, e7, l7, n7, h7⟩ := hV 7 (by decide)
        obtain ⟨A8, c8, X8, e8, l8, n8, h8⟩ := hV 8 (by decide)
        simp only [e0, e1, e2, e3, e4, e5, e6, e7, e8]
        clear e0 e1 e2 e3 e4 e5 e6 e7 e8
        refine wpAny_done (by kernel_rfl) ?_ _
        obtain ⟨_, _, d9⟩ := hS
        go_wp2
        go_ret
        exact ⟨_, _, rfl, ⟨X8, h8⟩, d9⟩
      · have e2 : (r == 2) = false := by simp [h2]
        by_cases h3 : r = 3
        · have e3 : (r == 3) = true := by simp [h3]
          rcases hO3.form with ⟨_, hzz⟩ | ⟨g2, rfl, hga, hgb⟩
          · omega
          have hnx := next_any g 4 w3 d3.s' (by omega)
          go_wp2_with fail
          refine hnx.mono ?_
          rintro e w5 ⟨rr, rfl, hr3, hr4, hd5⟩
          obtain ⟨rn, rfl⟩ : ∃ rn : Nat, rr = rn := ⟨rr.toNat, by omega⟩
          have d5 := d3.trans hd5
          have k5 := k3.dr hd5 (by decide)
          have o5 := o3.dr hd5 (by decide)
          have h5 := hO3.dr hd5 (by decide)
          clear hnx d3 k3 o3 hO3 hd5
          go_wp2
          go_loopw [8] (fun q wr => ∃ (m : Nat) (X5 : List Int), m ≤ 4 ∧ q = .int .i64 m ∧ Own wr w.heap.size 2 (some ⟨g2, 0, none⟩) (pw n) c2 (ints X5) ∧ Blk wr w.heap.size 28 #[.int .i64 P, .slice A n c] ∧ Own wr 0 2 A n c (ints sq) ∧ Dr g 121 w wr) (fun q _ => (intOf q).toNat)
          case atStart => exact ⟨rn, _, by omega, rfl, h5, k5, o5, d5⟩
          case round =>
            clear h5 k5 o5 d5
            obtain ⟨m, X5, hm4, rfl, h5, k5, o5, d5⟩ := hrel
            cases m with
            | zero =>
              go_wp2
              go_ret
              exact ⟨_, _, rfl, ⟨X5, h5⟩, d5⟩
            | succ m =>
              have d1 : decide (0 < ((m + 1 : Nat) : Int)) = true := by rw [decide_eq_true_eq]; omega
              have WM : wrap64 (((m + 1 : Nat) : Int) - 1) = (m : Int) := by unfold wrap64; omega
              obtain ⟨q0, q1⟩ := k5.two
              go_wp2
              refine wp_obsR 10 (Dr g 121) [[], [], [], [2], [1, 2, 3], [], [], [6], [1, 2, 3, 4, 5, 6, 7], [0, 1, 2, 3, 4], [0, 1, 2, 3, 4, 5, 6, 7, 8, 9]] [[], [], [], [], [99], [], [], [], [99], []] (fun x => [VIs (.slice (some ⟨g2, 0, none⟩) (pw n) c2), VIs (.pointer (some ⟨g, 0, none⟩)), VIs (.agg #[.int .i64 P, .slice A n c]), VIs (.int .i64 (pw n)), VIx (pw n), VIs (.pointer (some ⟨g, 0, none⟩)), VIs (.pointer (some ⟨w.heap.size, 0, none⟩)), VIs (.int .i64 (P)), VNum, VPt g2 (pw n) (x 4)]) (fun w' => Blk w' w.heap.size 28 #[.int .i64 P, .slice A n c] ∧ Own w' 0 2 A n c (ints sq) ∧ Dr g 121 w w' ∧ Own w' w.heap.size 2 (some ⟨g2, 0, none⟩) (pw n) c2 (ints X5)) (by kernel_rfl) (by kernel_rfl) (fun x x' j hx => by
                  rcases j with _ | _ | _ | _ | _ | _ | _ | _ | _ | _ | j
                  · rfl
                  · rfl
                  · rfl
                  · rfl
                  · rfl
                  · rfl
                  · rfl
                  · rfl
                  · rfl
                  · rw [hx 4 (by decide)]
                  · rfl)
                (weak_ofR [0, 1, 2, 3, 4, 5, 6, 7, 8, 9] (by decide) (fun k hk x v w w' hp hr => by
                  simp only [List.mem_cons, List.not_mem_nil, or_false] at hk
                  rcases hk with rfl | rfl | rfl | rfl | rfl | rfl | rfl | rfl | rfl | rfl
                  · exact hp
                  · exact hp
                  · exact hp
                  · exact hp
                  · exact hp
                  · exact hp
                  · exact hp
                  · exact hp
                  · exact hp
                  · exact hp)) (fun j _ _ h hb => hb.either (fun hb => ⟨h.1.below hb h.1.lt, h.2.1.below hb, h.2.2.1.then hb, h.2.2.2.below hb⟩) (fun hr => ⟨h.1.dr hr (by decide), h.2.1.dr hr (by decide), h.2.2.1.trans hr, h.2.2.2.dr hr (by decide)⟩)) (⟨k5.drew, o5.below (Below.refl _ _).drew, d5.then (Below.refl _ _).drew, h5.below (Below.refl _ _).drew⟩) (fun x => ?_)
              refine obs_stepR (Eq.trans (by simp only [List.getElem?_toArray, List.getElem?_cons_zero]; exact rfl) rfl) rfl (fun w' hS hV K hK => ?_) ?_
              · obtain ⟨q0, q1⟩ := hS.1.two
                go_simp
                exact hK.out _ _ _ rfl rfl rfl (Below.refl _ _)
              simp only [List.setIfInBounds_toArray, List.set_cons_zero, List.set_cons_succ]
              refine obs_stepR (Eq.trans (by simp only [List.getElem?_toArray, List.getElem?_cons_succ, List.getElem?_cons_zero]; exact rfl) rfl) rfl (fun w' hS hV K hK => ?_) ?_
              · obtain ⟨q0, q1⟩ := hS.1.two
                go_simp
                exact hK.out _ _ _ rfl rfl rfl (Below.refl _ _)
              simp only [List.setIfInBounds_toArray, List.set_cons_zero, List.set_cons_succ]
              refine obs_stepR (Eq.trans (by simp only [List.getElem?_toArray, List.getElem?_cons_succ, List.getElem?_cons_zero]; exact rfl) rfl) rfl (fun w' hS hV K hK => ?_) ?_
              · obtain ⟨q0, q1⟩ := hS.1.two
                go_simp
                exact hK.out _ _ _ rfl rfl rfl (Below.refl _ _)
              simp only [List.setIfInBounds_toArray, List.set_cons_zero, List.set_cons_succ]
              refine obs_stepR (Eq.trans (by simp only [List.getElem?_toArray, List.getElem?_cons_succ, List.getElem?_cons_zero]; exact rfl) rfl) rfl (fun w' hS hV K hK => ?_) ?_
              · have e2 : x 2 = (.agg #[.int .i64 P, .slice A n c]) := hV 2 (by decide)
                obtain ⟨q0, q1⟩ := hS.1.two
                go_simp
                refine (l04Size_any P A n c w' (by omega)).mono ?_
                rintro e v1 ⟨rfl, hb⟩
                exact hK.out _ _ _ rfl rfl rfl hb
              simp only [List.setIfInBounds_toArray, List.set_cons_zero, List.set_cons_succ]
              refine obs_stepR (Eq.trans (by simp only [List.getElem?_toArray, List.getElem?_cons_succ, List.getElem?_cons_zero]; exact rfl) rfl) rfl (fun w' hS hV K hK => ?_) ?_
              · have e1 : x 1 = (.pointer (some ⟨g, 0, none⟩)) := hV 1 (by decide)
                have e2 : x 2 = (.agg #[.int .i64 P, .slice A n c]) := hV 2 (by decide)
                have e3 : x 3 = (.int .i64 (pw n)) := hV 3 (by decide)
                obtain ⟨q0, q1⟩ := hS.1.two
                go_simp
                refine (next_any g ((pw n : Nat) : Int) w' hS.2.2.1.s' (by omega)).mono ?_
                rintro e v1 ⟨rr, rfl, t1, t2, hd9⟩
                have t3 := t2 (by omega)
                obtain ⟨rn2, rfl⟩ : ∃ k : Nat, rr = k := ⟨rr.toNat, by omega⟩
                exact hK.out _ _ _ rfl rfl ⟨rn2, rfl, by omega⟩ hd9
              simp only [List.setIfInBounds_toArray, List.set_cons_zero, List.set_cons_succ]
              refine obs_stepR (Eq.trans (by simp only [List.getElem?_toArray, List.getElem?_cons_succ, List.getElem?_cons_zero]; exact rfl) rfl) rfl (fun w' hS hV K hK => ?_) ?_
              · obtain ⟨q0, q1⟩ := hS.1.two
                go_simp
                exact hK.out _ _ _ rfl rfl rfl (Below.refl _ _)
              simp only [List.setIfInBounds_toArray, List.set_cons_zero, List.set_cons_succ]
              refine obs_stepR (Eq.trans (by simp only [List.getElem?_toArray, List.getElem?_cons_succ, List.getElem?_cons_zero]; exact rfl) rfl) rfl (fun w' hS hV K hK => ?_) ?_
              · obtain ⟨q0, q1⟩ := hS.1.two
                go_simp
                exact hK.out _ _ _ rfl rfl rfl (Below.refl _ _)
              simp only [List.setIfInBounds_toArray, List.set_cons_zero, List.set_cons_succ]
              refine obs_stepR (Eq.trans (by simp only [List.getElem?_toArray, List.getElem?_cons_succ, List.getElem?_cons_zero]; exact rfl) rfl) rfl (fun w' hS hV K hK => ?_) ?_
              · have e6 : x 6 = (.pointer (some ⟨w.heap.size, 0, none⟩)) := hV 6 (by decide)
                obtain ⟨q0, q1⟩ := hS.1.two
                go_simp
                exact hK.out _ _ _ rfl rfl rfl (Below.refl _ _)
              simp only [List.setIfInBounds_toArray, List.set_cons_zero, List.set_cons_succ]
              refine obs_stepR (Eq.trans (by simp only [List.getElem?_toArray, List.getElem?_cons_succ, List.getElem?_cons_zero]; exact rfl) rfl) rfl (fun w' hS hV K hK => ?_) ?_
              · have e1 : x 1 = (.pointer (some ⟨g, 0, none⟩)) := hV 1 (by decide)
                have e2 : x 2 = (.agg #[.int .i64 P, .slice A n c]) := hV 2 (by decide)
                have e3 : x 3 = (.int .i64 (pw n)) := hV 3 (by decide)
                obtain ⟨rx, e4, lx⟩ := hV 4 (by decide)
                have e5 : x 5 = (.pointer (some ⟨g, 0, none⟩)) := hV 5 (by decide)
                have e6 : x 6 = (.pointer (some ⟨w.heap.size, 0, none⟩)) := hV 6 (by decide)
                have e7 : x 7 = (.int .i64 (P)) := hV 7 (by decide)
                obtain ⟨q0, q1⟩ := hS.1.two
                go_simp
                refine (next_any g P w' hS.2.2.1.s' (by omega)).mono ?_
                rintro e v1 ⟨rr, rfl, t1, t2, hd9⟩
                exact hK.out _ _ _ rfl rfl ⟨_, rfl⟩ hd9
              simp only [List.setIfInBounds_toArray, List.set_cons_zero, List.set_cons_succ]
              refine obs_stepR (Eq.trans (by simp only [List.getElem?_toArray, List.getElem?_cons_succ, List.getElem?_cons_zero]; exact rfl) rfl) rfl (fun w' hS hV K hK => ?_) ?_
              · have e0 : x 0 = (.slice (some ⟨g2, 0, none⟩) (pw n) c2) := hV 0 (by decide)
                have e1 : x 1 = (.pointer (some ⟨g, 0, none⟩)) := hV 1 (by decide)
                have e2 : x 2 = (.agg #[.int .i64 P, .slice A n c]) := hV 2 (by decide)
                have e3 : x 3 = (.int .i64 (pw n)) := hV 3 (by decide)
                obtain ⟨rx, e4, lx⟩ := hV 4 (by decide)
                obtain ⟨q0, q1⟩ := hS.1.two
                have b1 : (0 : Int) ≤ (rx : Int) := by omega
                have b2 : (rx : Int) < ((pw n : Nat) : Int) := by omega
                go_simp
                exact hK.out _ _ _ rfl rfl ⟨rx, e4, lx, rfl⟩ (Below.refl _ _)
              simp only [List.setIfInBounds_toArray, List.set_cons_zero, List.set_cons_succ]
              refine fun w' hS hV => ?_
              have e0 : x 0 = (.slice (some ⟨g2, 0, none⟩) (pw n) c2) := hV 0 (by decide)
              have e1 : x 1 = (.pointer (some ⟨g, 0, none⟩)) := hV 1 (by decide)
              have e2 : x 2 = (.agg #[.int .i64 P, .slice A n c]) := hV 2 (by decide)
              have e3 : x 3 = (.int .i64 (pw n)) := hV 3 (by decide)
              obtain ⟨rx, e4, lx⟩ := hV 4 (by decide)
              have e5 : x 5 = (.pointer (some ⟨g, 0, none⟩)) := hV 5 (by decide)
              have e6 : x 6 = (.pointer (some ⟨w.heap.size, 0, none⟩)) := hV 6 (by decide)
              have e7 : x 7 = (.int .i64 (P)) := hV 7 (by decide)
              obtain ⟨rv, e8⟩ := hV 8 (by decide)
              obtain ⟨ry, f9, ly, e9⟩ := hV 9 (by decide)
              simp only [e0, e1, e2, e3, e4, e5, e6, e7, e8, e9]
              clear e0 e1 e2 e3 e4 e5 e6 e7 e8 e9
              obtain ⟨k6, o6, d6, h6⟩ := hS
              obtain ⟨w6, rfl⟩ : ∃ W, W = w' := ⟨_, rfl⟩
              obtain ⟨u1, hc1⟩ := h6.cellI ly
              have hf1 := h6.frozen_ ry
              refine any_one (j := 10) (by kernel_rfl) (Eq.trans (by simp only [List.getElem?_toArray, List.getElem?_cons_succ, List.getElem?_cons_zero]; exact rfl) rfl) (fun K hK => ?_)
              go_simp
              refine hK.out _ _ (wpAny_done (by kernel_rfl) ?_ _)
              obtain ⟨h7, hg7⟩ := h6.set_ ry (.int .i64 rv)
              rw [ints_set] at h7
              have k7 := k6.grown hg7 (h6.ne_blk k6 (by decide))
              have d7 := d6.grown h6 hg7
              have o7 := o6.grown hg7 (by
                cases hbk : (Value.slice A n c).ownBlock with
                | none => exact .inl rfl
                | some gb => right; intro e; have := hSQ gb hbk; injection e with e; omega)
              clear k6 o6 d6 h6 hg7 hc1 hf1 k5 o5 d5 h5 q0 q1
              go_wp2
              go_roundw
              case rel => exact ⟨m, _, by omega, by go_num, h7, k7, o7, d7⟩
              case measure => simp [intOf]
        · have e3 : (r == 3) = false := by simp [h3]
          obtain ⟨q0, q1⟩ := k3.two
          go_wp2
          refine wp_obsR 7 (Dr g 121) [[], [], [1], [], [3], [0, 1, 2, 3, 4], [0, 1, 2, 3, 4, 5]] [[], [], [], [], [], [99], []] (fun x => [VIs (.pointer (some ⟨g, 0, none⟩)), VIs (.pointer (some ⟨w.heap.size, 0, none⟩)), VIs (.int .i64 (P)), VIs (.agg #[.int .i64 P, .slice A n c]), VIs (.int .i64 (pw n)), VLs w.heap.size (pw n) P, VLs w.heap.size (pw n) P]) (fun w' => Blk w' w.heap.size 28 #[.int .i64 P, .slice A n c] ∧ Own w' 0 2 A n c (ints sq) ∧ Dr g 121 w w') (by kernel_rfl) (by kernel_rfl) (fun x x' j hx => by
              rcases j with _ | _ | _ | _ | _ | _ | _ | j
              · rfl
              · rfl
              · rfl
              · rfl
              · rfl
              · rfl
              · rfl
              · rfl)
            (weak_ofR [0, 1, 2, 3, 4, 5, 6] (by decide) (fun k hk x v w w' hp hr => by
              simp only [List.mem_cons, List.not_mem_nil, or_false] at hk
              rcases hk with rfl | rfl | rfl | rfl | rfl | rfl | rfl
              · exact hp
              · exact hp
              · exact hp
              · exact hp
              · exact hp
              · exact VLs.dr hp hr (by decide)
              · exact VLs.dr hp hr (by decide))) (fun j _ _ h hb => hb.either (fun hb => ⟨h.1.below hb h.1.lt, h.2.1.below hb, h.2.2.then hb⟩) (fun hr => ⟨h.1.dr hr (by decide), h.2.1.dr hr (by decide), h.2.2.trans hr⟩)) (⟨k3.drew, o3.below (Below.refl _ _).drew, d3.then (Below.refl _ _).drew⟩) (fun x => ?_)
          refine obs_stepR (Eq.trans (by simp only [List.getElem?_toArray, List.getElem?_cons_zero]; exact rfl) rfl) rfl (fun w' hS hV K hK => ?_) ?_
          · obtain ⟨q0, q1⟩ := hS.1.two
            go_simp
            exact hK.out _ _ _ rfl rfl rfl (Below.refl _ _)
          simp only [List.setIfInBounds_toArray, List.set_cons_zero, List.set_cons_succ]
          refine obs_stepR (Eq.trans (by simp only [List.getElem?_toArray, List.getElem?_cons_succ, List.getElem?_cons_zero]; exact rfl) rfl) rfl (fun w' hS hV K hK => ?_) ?_
          · obtain ⟨q0, q1⟩ := hS.1.two
            go_simp
            exact hK.out _ _ _ rfl rfl rfl (Below.refl _ _)
          simp only [List.setIfInBounds_toArray, List.set_cons_zero, List.set_cons_succ]
          refine obs_stepR (Eq.trans (by simp only [List.getElem?_toArray, List.getElem?_cons_succ, List.getElem?_cons_zero]; exact rfl) rfl) rfl (fun w' hS hV K hK => ?_) ?_
          · have e1 : x 1 = (.pointer (some ⟨w.heap.size, 0, none⟩)) := hV 1 (by decide)
            obtain ⟨q0, q1⟩ := hS.1.two
            go_simp
            exact hK.out _ _ _ rfl rfl rfl (Below.refl _ _)
          simp only [List.setIfInBounds_toArray, List.set_cons_zero, List.set_cons_succ]
          refine obs_stepR (Eq.trans (by simp only [List.getElem?_toArray, List.getElem?_cons_succ, List.getElem?_cons_zero]; exact rfl) rfl) rfl (fun w' hS hV K hK => ?_) ?_
          · obtain ⟨q0, q1⟩ := hS.1.two
            go_simp
            exact hK.out _ _ _ rfl rfl rfl (Below.refl _ _)
          simp only [List.setIfInBounds_toArray, List.set_cons_zero, List.set_cons_succ]
          refine obs_stepR (Eq.trans (by simp only [List.getElem?_toArray, List.getElem?_cons_succ, List.getElem?_cons_zero]; exact rfl) rfl) rfl (fun w' hS hV K hK => ?_) ?_
          · have e3 : x 3 = (.agg #[.int .i64 P, .slice A n c]) := hV 3 (by decide)
            obtain ⟨q0, q1⟩ := hS.1.two
            go_simp
            refine (l04Size_any P A n c w' (by omega)).mono ?_
            rintro e v1 ⟨rfl, hb⟩
            exact hK.out _ _ _ rfl rfl rfl hb
          simp only [List.setIfInBounds_toArray, List.set_cons_zero, List.set_cons_succ]
          refine obs_stepR (Eq.trans (by simp only [List.getElem?_toArray, List.getElem?_cons_succ, List.getElem?_cons_zero]; exact rfl) rfl) rfl (fun w' hS hV K hK => ?_) ?_
          · have e0 : x 0 = (.pointer (some ⟨g, 0, none⟩)) := hV 0 (by decide)
            have e1 : x 1 = (.pointer (some ⟨w.heap.size, 0, none⟩)) := hV 1 (by decide)
            have e2 : x 2 = (.int .i64 (P)) := hV 2 (by decide)
            have e3 : x 3 = (.agg #[.int .i64 P, .slice A n c]) := hV 3 (by decide)
            have e4 : x 4 = (.int .i64 (pw n)) := hV 4 (by decide)
            obtain ⟨q0, q1⟩ := hS.1.two
            go_simp
            refine (nextList_any g P (pw n) w' hS.2.2.s' (by omega) (by omega)).mono ?_
            rintro e v1 ⟨A9, c9, xs9, rfl, hl9, hx9, ho9, hd9⟩
            exact hK.out _ _ _ rfl rfl ⟨_, _, xs9, rfl, hl9, nums_of (by omega) hx9, ho9.base hS.2.2.size⟩ hd9
          simp only [List.setIfInBounds_toArray, List.set_cons_zero, List.set_cons_succ]
          refine obs_stepR (Eq.trans (by simp only [List.getElem?_toArray, List.getElem?_cons_succ, List.getElem?_cons_zero]; exact rfl) rfl) rfl (fun w' hS hV K hK => ?_) ?_
          · have e0 : x 0 = (.pointer (some ⟨g, 0, none⟩)) := hV 0 (by decide)
            have e1 : x 1 = (.pointer (some ⟨w.heap.size, 0, none⟩)) := hV 1 (by decide)
            have e2 : x 2 = (.int .i64 (P)) := hV 2 (by decide)
            have e3 : x 3 = (.agg #[.int .i64 P, .slice A n c]) := hV 3 (by decide)
            have e4 : x 4 = (.int .i64 (pw n)) := hV 4 (by decide)
            obtain ⟨A5, c5, X5, e5, l5, n5, h5⟩ := hV 5 (by decide)
            obtain ⟨q0, q1⟩ := hS.1.two
            go_simp
            exact hK.out _ _ _ rfl rfl ⟨_, _, X5, rfl, l5, n5, h5⟩ (Below.refl _ _)
          simp only [List.setIfInBounds_toArray, List.set_cons_zero, List.set_cons_succ]
          refine fun w' hS hV => ?_
          have e0 : x 0 = (.pointer (some ⟨g, 0, none⟩)) := hV 0 (by decide)
          have e1 : x 1 = (.pointer (some ⟨w.heap.size, 0, none⟩)) := hV 1 (by decide)
          have e2 : x 2 = (.int .i64 (P)) := hV 2 (by decide)
          have e3 : x 3 = (.agg #[.int .i64 P, .slice A n c]) := hV 3 (by decide)
          have e4 : x 4 = (.int .i64 (pw n)) := hV 4 (by decide)
          obtain ⟨A5, c5, X5, e5, l5, n5, h5⟩ := hV 5 (by decide)
          obtain ⟨A6, c6, X6, e6, l6, n6, h6⟩ := hV 6 (by decide)
          simp only [e0, e1, e2, e3, e4, e5, e6]
          clear e0 e1 e2 e3 e4 e5 e6
          refine wpAny_done (by kernel_rfl) ?_ _
          obtain ⟨_, _, d9⟩ := hS
          go_wp2
          go_ret
          exact ⟨_, _, rfl, ⟨X6, h6⟩, d9⟩
end Go.Proofs.YticofgmmjecleaaGreatDoor
namespace Go.Proofs.YticofgmmjecleaaGreatDoor
open Go.RowKit
theorem nums_drawn {P : Int} {xs : List Int} (h : nums P xs = true) : NumsL P xs := fun x hx => by
  have := List.all_eq_true.1 h x hx
  simp [inR] at this
  omega
set_option maxHeartbeats 6400000 in
set_option maxRecDepth 8000 in
theorem l04Spoil_any (g : Nat) (P : Int) (A : Option Addr) (n c : Nat) (sq : List Int) (w : World) (hs : Src w g 121) (hn : n ≤ 1048576) (ho : Own w 0 2 A n c (ints sq)) :
    Calls Tryz.prog 95 #[.pointer (some ⟨g, 0, none⟩), .agg #[.int .i64 P, .slice A n c]] w fun e w' => ∃ (A' : Option Addr) (m c' : Nat), e = .returned (.slice A' m c') ∧ m ≤ 100 ∧ (∃ xs : List Int, Own w' w.heap.size 2 A' m c' (ints xs)) ∧ Dr g 121 w w' := by
  have hsl : sq.length = n := ho.rd.lenI
  have k0 : Blk (w.alloc (.cells #[.int .i64 P, .slice A n c] 28)) w.heap.size 28 #[.int .i64 P, .slice A n c] := Blk.new _ _ _
  have d0 := (Dr.refl hs).alloc (.cells #[.int .i64 P, .slice A n c] 28)
  have o0 := ho.below ((Below.refl _ _).alloc (Nat.le_refl _) (.cells #[.int .i64 P, .slice A n c] 28))
  have hSQ : ∀ gb, (Value.slice A n c).ownBlock = some gb → gb < w.heap.size := fun gb e => (World.ownsRow.lt ho gb e).2
  cases h1 : isSp P sq
  · have H1 := Lib.hid h1
    clear h1
    go_enter Tryz.func95, Tryz.ntmps95
    go_wp2_with fail
    refine (l03Is_b _ _ _ _ _ _ (by omega) o0.rd H1.out).mono ?_
    rintro e w2 ⟨rfl, hb⟩
    have d2 := d0.then hb
    have hM := (Mk.lit (E := 2) (Below.refl w2.heap.size w2) #[.int .i64 1, .int .i64 0] (by simp [maxLen])).2.base (B' := w.heap.size) d2.size
    have d3 := d2.alloc (.cells #[.int .i64 1, .int .i64 0] 2)
    clear hb d2 d0 o0 k0
    go_wp2
    go_ret
    exact ⟨_, 2, _, rfl, by omega, ⟨[1, 0], by simpa [ints] using hM⟩, d3⟩
  · obtain ⟨hP, hn1, hn2, hq⟩ := isSp_dim h1
    obtain ⟨hp3, hp2⟩ := isP_ge hP
    have HQ := Lib.hid (nums_drawn hq)
    have H1 := Lib.hid h1
    rw [hsl] at hn1 hn2
    have hpw : pw n ≤ 64 := pw_le hn2
    have hpn := pw_pos n
    clear h1 hP hq
    go_enter Tryz.func95, Tryz.ntmps95
    go_wp2_with fail
    refine (l03Is_b _ _ _ _ _ _ (by omega) o0.rd H1.out).mono ?_
    rintro e w2 ⟨rfl, hb⟩
    have d2 := d0.then hb
    have k2 := k0.below hb k0.lt
    have o2 := o0.below hb
    have hdr := l04Draw_any g P A n c sq w2 d2.s' (by omega) hp2 hn2 hn1 o2 HQ.out
    clear hb d0 o0 k0
    obtain ⟨q0, q1⟩ := k2.two
    go_wp2_with fail
    refine hdr.mono ?_
    rintro e w3 ⟨A2, c2, rfl, ⟨X5, h3⟩, hd3⟩
    have d3 := d2.trans hd3
    have k3 := k2.dr hd3 (by decide)
    have o3 := o2.dr hd3 (by decide)
    have h3' := h3.base (B' := w.heap.size) d2.size
    have hnx := next_any g 30 w3 d3.s' (by omega)
    clear hdr d2 k2 o2 h3 hd3 q0 q1
    go_wp2_with fail
    refine hnx.mono ?_
    rintro e w4 ⟨r, rfl, hr1, hr2, hd4⟩
    have d5 := d3.trans hd4
    have k5 := k3.dr hd4 (by decide)
    have o5 := o3.dr hd4 (by decide)
    have h5 := h3'.dr hd4 (by decide)
    clear hnx d3 k3 o3 h3' hd4
    by_cases h0 : r = 0
    · have e0 : (r == 0) = true := by simp [h0]
      have H5 := Lib.hid h5
      clear h5
      go_wp2_with (first
        | (at_builtin; (refine wpList_app1 (cutW w4 w.heap.size) w4 22 2 _ _ Tryz.underlying22 info_i rfl (by omega) rfl _ _ rfl A2 (pw n) c2 _ _ (H5.out.mk_ d5.size) (by omega) rfl rfl rfl ?_; intro A9 c9 w9 hM9 hg9 _)))
      have hO9 := hM9.own_ (cutW_size d5.size)
      have d9 := d5.grown H5.out hg9
      clear hM9 hg9
      go_wp2
      go_ret
      exact ⟨A9, pw n + 1, c9, rfl, by omega, ⟨X5 ++ [0], by simpa [ints] using hO9⟩, d9⟩
    · have e0 : (r == 0) = false := by simp [h0]
      by_cases h1 : r = 1
      · have e1 : (r == 1) = true := by simp [h1]
        rcases h5.form with ⟨_, hzz⟩ | ⟨g2, rfl, hga, hgb⟩
        · omega
        obtain ⟨q0, q1⟩ := k5.two
        go_wp2
        refine wp_obsR 11 (Dr g 121) [[], [], [], [2], [1, 2, 3], [], [], [6], [6, 7], [1, 2, 3, 4, 5, 6, 7, 8], [0, 1, 2, 3, 4], [0, 1, 2, 3, 4, 5, 6, 7, 8, 9, 10]] [[], [], [], [], [99], [], [], [], [], [8], []] (fun x => [VIs (.slice (some ⟨g2, 0, none⟩) (pw n) c2), VIs (.pointer (some ⟨g, 0, none⟩)), VIs (.agg #[.int .i64 P, .slice A n c]), VIs (.int .i64 (pw n)), VIx (pw n), VIs (.pointer (some ⟨g, 0, none⟩)), VIs (.pointer (some ⟨w.heap.size, 0, none⟩)), VIs (.int .i64 (P)), VBs 2 #[.int .i64 (-1), .int .i64 P], VNum, VPt g2 (pw n) (x 4)]) (fun w' => Blk w' w.heap.size 28 #[.int .i64 P, .slice A n c] ∧ Own w' 0 2 A n c (ints sq) ∧ Dr g 121 w w' ∧ Own w' w.heap.size 2 (some ⟨g2, 0, none⟩) (pw n) c2 (ints X5)) (by kernel_rfl) (by kernel_rfl) (fun x x' j hx => by
            rcases j with _ | _ | _ | _ | _ | _ | _ | _ | _ | _ | _ | j
            · rfl
            · rfl
            · rfl
            · rfl
            · rfl
            · rfl
            · rfl
            · rfl
            · rfl
            · rfl
            · rw [hx 4 (by decide)]
            · rfl)
          (weak_ofR [0, 1, 2, 3, 4, 5, 6, 7, 8, 9, 10] (by decide) (fun k hk x v w w' hp hr => by
            simp only [List.mem_cons, List.not_mem_nil, or_false] at hk
            rcases hk with rfl | rfl | rfl | rfl | rfl | rfl | rfl | rfl | rfl | rfl | rfl
            · exact hp
            · exact hp
            · exact hp
            · exact hp
            · exact hp
            · exact hp
            · exact hp
            · exact hp
            · obtain ⟨G9, e9, b9⟩ := hp; exact ⟨G9, e9, b9.dr hr (by decide)⟩
            · exact hp
            · exact hp)) (fun j _ _ h hb => hb.either (fun hb => ⟨h.1.below hb h.1.lt, h.2.1.below hb, h.2.2.1.then hb, h.2.2.2.below hb⟩) (fun hr => ⟨h.1.dr hr (by decide), h.2.1.dr hr (by decide), h.2.2.1.trans hr, h.2.2.2.dr hr (by decide)⟩)) (⟨k5.drew, o5.below (Below.refl _ _).drew, d5.then (Below.refl _ _).drew, h5.below (Below.refl _ _).drew⟩) (fun x => ?_)
        refine obs_stepR (Eq.trans (by simp only [List.getElem?_toArray, List.getElem?_cons_zero]; exact rfl) rfl) rfl (fun w' hS hV K hK => ?_) ?_
        · obtain ⟨q0, q1⟩ := hS.1.two
          go_simp
          exact hK.out _ _ _ rfl rfl rfl (Below.refl _ _)
        simp only [List.setIfInBounds_toArray, List.set_cons_zero, List.set_cons_succ]
        refine obs_stepR (Eq.trans (by simp only [List.getElem?_toArray, List.getElem?_cons_succ, List.getElem?_cons_zero]; exact rfl) rfl) rfl (fun w' hS hV K hK => ?_) ?_
        · obtain ⟨q0, q1⟩ := hS.1.two
          go_simp
          exact hK.out _ _ _ rfl rfl rfl (Below.refl _ _)
        simp only [List.setIfInBounds_toArray, List.set_cons_zero, List.set_cons_succ]
        refine obs_stepR (Eq.trans (by simp only [List.getElem?_toArray, List.getElem?_cons_succ, List.getElem?_cons_zero]; exact rfl) rfl) rfl (fun w' hS hV K hK => ?_) ?_
        · obtain ⟨q0, q1⟩ := hS.1.two
          go_simp
          exact hK.out _ _ _ rfl rfl rfl (Below.refl _ _)
        simp only [List.setIfInBounds_toArray, List.set_cons_zero, List.set_cons_succ]
        refine obs_stepR (Eq.trans (by simp only [List.getElem?_toArray, List.getElem?_cons_succ, List.getElem?_cons_zero]; exact rfl) rfl) rfl (fun w' hS hV K hK => ?_) ?_
        · have e2 : x 2 = (.agg #[.int .i64 P, .slice A n c]) := hV 2 (by decide)
          obtain ⟨q0, q1⟩ := hS.1.two
          go_simp
          refine (l04Size_any P A n c w' (by omega)).mono ?_
          rintro e v1 ⟨rfl, hb⟩
          exact hK.out _ _ _ rfl rfl rfl hb
        simp only [List.setIfInBounds_toArray, List.set_cons_zero, List.set_cons_succ]
        refine obs_stepR (Eq.trans (by simp only [List.getElem?_toArray, List.getElem?_cons_succ, List.getElem?_cons_zero]; exact rfl) rfl) rfl (fun w' hS hV K hK => ?_) ?_
        · have e1 : x 1 = (.pointer (some ⟨g, 0, none⟩)) := hV 1 (by decide)
          have e2 : x 2 = (.agg #[.int .i64 P, .slice A n c]) := hV 2 (by decide)
          have e3 : x 3 = (.int .i64 (pw n)) := hV 3 (by decide)
          obtain ⟨q0, q1⟩ := hS.1.two
          go_simp
          refine (next_any g ((pw n : Nat) : Int) w' hS.2.2.1.s' (by omega)).mono ?_
          rintro e v1 ⟨rr, rfl, t1, t2, hd9⟩
          have t3 := t2 (by omega)
          obtain ⟨rn2, rfl⟩ : ∃ k : Nat, rr = k := ⟨rr.toNat, by omega⟩
          exact hK.out _ _ _ rfl rfl ⟨rn2, rfl, by omega⟩ hd9
        simp only [List.setIfInBounds_toArray, List.set_cons_zero, List.set_cons_succ]
        refine obs_stepR (Eq.trans (by simp only [List.getElem?_toArray, List.getElem?_cons_succ, List.getElem?_cons_zero]; exact rfl) rfl) rfl (fun w' hS hV K hK => ?_) ?_
        · obtain ⟨q0, q1⟩ := hS.1.two
          go_simp
          exact hK.out _ _ _ rfl rfl rfl (Below.refl _ _)
        simp only [List.setIfInBounds_toArray, List.set_cons_zero, List.set_cons_succ]
        refine obs_stepR (Eq.trans (by simp only [List.getElem?_toArray, List.getElem?_cons_succ, List.getElem?_cons_zero]; exact rfl) rfl) rfl (fun w' hS hV K hK => ?_) ?_
        · obtain ⟨q0, q1⟩ := hS.1.two
          go_simp
          exact hK.out _ _ _ rfl rfl rfl (Below.refl _ _)
        simp only [List.setIfInBounds_toArray, List.set_cons_zero, List.set_cons_succ]
        refine obs_stepR (Eq.trans (by simp only [List.getElem?_toArray, List.getElem?_cons_succ, List.getElem?_cons_zero]; exact rfl) rfl) rfl (fun w' hS hV K hK => ?_) ?_
        · have e6 : x 6 = (.pointer (some ⟨w.heap.size, 0, none⟩)) := hV 6 (by decide)
          obtain ⟨q0, q1⟩ := hS.1.two
          go_simp
          exact hK.out _ _ _ rfl rfl rfl (Below.refl _ _)
        simp only [List.setIfInBounds_toArray, List.set_cons_zero, List.set_cons_succ]
        refine obs_stepR (Eq.trans (by simp only [List.getElem?_toArray, List.getElem?_cons_succ, List.getElem?_cons_zero]; exact rfl) rfl) rfl (fun w' hS hV K hK => ?_) ?_
        · have e6 : x 6 = (.pointer (some ⟨w.heap.size, 0, none⟩)) := hV 6 (by decide)
          have e7 : x 7 = (.int .i64 (P)) := hV 7 (by decide)
          obtain ⟨q0, q1⟩ := hS.1.two
          go_simp
          exact hK.out _ _ _ rfl rfl ⟨_, rfl, Blk.new _ _ _⟩ ((Below.refl _ _).alloc (Nat.le_refl _) _)
        simp only [List.setIfInBounds_toArray, List.set_cons_zero, List.set_cons_succ]
        refine obs_stepR (Eq.trans (by simp only [List.getElem?_toArray, List.getElem?_cons_succ, List.getElem?_cons_zero]; exact rfl) rfl) rfl (fun w' hS hV K hK => ?_) ?_
        · have e1 : x 1 = (.pointer (some ⟨g, 0, none⟩)) := hV 1 (by decide)
          have e2 : x 2 = (.agg #[.int .i64 P, .slice A n c]) := hV 2 (by decide)
          have e3 : x 3 = (.int .i64 (pw n)) := hV 3 (by decide)
          obtain ⟨rx, e4, lx⟩ := hV 4 (by decide)
          have e5 : x 5 = (.pointer (some ⟨g, 0, none⟩)) := hV 5 (by decide)
          have e6 : x 6 = (.pointer (some ⟨w.heap.size, 0, none⟩)) := hV 6 (by decide)
          have e7 : x 7 = (.int .i64 (P)) := hV 7 (by decide)
          obtain ⟨G5, e5, b5⟩ := hV 8 (by decide)
          obtain ⟨q0, q1⟩ := hS.1.two
          go_simp
          refine (pick_any g G5 [-1, P] _ hS.2.2.1.s' (by rw [ints2]; exact b5) (by simp) (by simp)).mono ?_
          rintro e v1 ⟨r1, _, rfl, hr⟩
          exact hK.out _ _ _ rfl rfl ⟨_, rfl⟩ hr
        simp only [List.setIfInBounds_toArray, List.set_cons_zero, List.set_cons_succ]
        refine obs_stepR (Eq.trans (by simp only [List.getElem?_toArray, List.getElem?_cons_succ, List.getElem?_cons_zero]; exact rfl) rfl) rfl (fun w' hS hV K hK => ?_) ?_
        · have e0 : x 0 = (.slice (some ⟨g2, 0, none⟩) (pw n) c2) := hV 0 (by decide)
          have e1 : x 1 = (.pointer (some ⟨g, 0, none⟩)) := hV 1 (by decide)
          have e2 : x 2 = (.agg #[.int .i64 P, .slice A n c]) := hV 2 (by decide)
          have e3 : x 3 = (.int .i64 (pw n)) := hV 3 (by decide)
          obtain ⟨rx, e4, lx⟩ := hV 4 (by decide)
          obtain ⟨q0, q1⟩ := hS.1.two
          have b1 : (0 : Int) ≤ (rx : Int) := by omega
          have b2 : (rx : Int) < ((pw n : Nat) : Int) := by omega
          go_simp
          exact hK.out _ _ _ rfl rfl ⟨rx, e4, lx, rfl⟩ (Below.refl _ _)
        simp only [List.setIfInBounds_toArray, List.set_cons_zero, List.set_cons_succ]
        refine fun w' hS hV => ?_
        have e0 : x 0 = (.slice (some ⟨g2, 0, none⟩) (pw n) c2) := hV 0 (by decide)
        have e1 : x 1 = (.pointer (some ⟨g, 0, none⟩)) := hV 1 (by decide)
        have e2 : x 2 = (.agg #[.int .i64 P, .slice A n c]) := hV 2 (by decide)
        have e3 : x 3 = (.int .i64 (pw n)) := hV 3 (by decide)
        obtain ⟨rx, e4, lx⟩ := hV 4 (by decide)
        have e5 : x 5 = (.pointer (some ⟨g, 0, none⟩)) := hV 5 (by decide)
        have e6 : x 6 = (.pointer (some ⟨w.heap.size, 0, none⟩)) := hV 6 (by decide)
        have e7 : x 7 = (.int .i64 (P)) := hV 7 (by decide)
        obtain ⟨rv, e9⟩ := hV 9 (by decide)
        obtain ⟨ry, f10, ly, e10⟩ := hV 10 (by decide)
        simp only [e0, e1, e2, e3, e4, e5, e6, e7, e9, e10]
        clear e0 e1 e2 e3 e4 e5 e6 e7 e9 e10
        obtain ⟨k6, o6, d6, h6⟩ := hS
        obtain ⟨w6, rfl⟩ : ∃ W, W = w' := ⟨_, rfl⟩
        obtain ⟨u1, hc1⟩ := h6.cellI ly
        have hf1 := h6.frozen_ ry
        refine any_one (j := 11) (by kernel_rfl) (Eq.trans (by simp only [List.getElem?_toArray, List.getElem?_cons_succ, List.getElem?_cons_zero]; exact rfl) rfl) (fun K hK => ?_)
        go_simp
        refine hK.out _ _ (wpAny_done (by kernel_rfl) ?_ _)
        obtain ⟨h7, hg7⟩ := h6.set_ ry (.int .i64 rv)
        rw [ints_set] at h7
        have d7 := d6.grown h6 hg7
        clear k6 o6 d6 h6 hg7 hc1 hf1 k5 o5 d5 h5 q0 q1
        go_wp2
        go_ret
        exact ⟨_, _, _, rfl, by omega, ⟨_, h7⟩, d7⟩
      · have e1 : (r == 1) = false := by simp [h1]
        go_wp2
        go_ret
        exact ⟨A2, pw n, c2, rfl, by omega, ⟨X5, h5⟩, d5⟩
end Go.Proofs.YticofgmmjecleaaGreatDoor
namespace Go.Proofs.YticofgmmjecleaaGreatDoor
open Go.RowKit
/-- The value is a list of at most 100 numbers that was made since the heap had B blocks. -/
def VLx (B : Nat) : VP := ⟨fun v w => ∃ (A : Option Addr) (m c : Nat) (xs : List Int), v = .slice A m c ∧ m ≤ 100 ∧ Own w B 2 A m c (ints xs), fun _ _ _ ⟨A, m, c, xs, e, hm, ho⟩ hb => ⟨A, m, c, xs, e, hm, ho.below hb⟩⟩
theorem VLx.dr {B g : Nat} {T : TypeId} {v : Value} {w w' : World} (h : (VLx B).p v w) (d : Dr g T w w') (hT : 2 ≠ T) : (VLx B).p v w' := by
  obtain ⟨A, m, c, xs, e, hm, ho⟩ := h
  exact ⟨A, m, c, xs, e, hm, ho.dr d hT⟩
end Go.Proofs.YticofgmmjecleaaGreatDoor
namespace Go.Proofs.YticofgmmjecleaaGreatDoor
open Go Go.RowKit
def DrewT (w : World) (e : Ending) (w' : World) : Prop := ∃ (P : Int) (A : Option Addr) (n c : Nat) (sq : List Int) (t : By), e = .returned (.tuple #[.agg #[.int .i64 P, .slice A n c], .string ⟨t.toArray⟩]) ∧ P ≤ 17 ∧ n ≤ 7 ∧ t.length ≤ 288230376151730000 ∧ Own w' w.heap.size 2 A n c (ints sq) ∧ Below w.heap.size w w'
end Go.Proofs.YticofgmmjecleaaGreatDoor
namespace Go.Proofs.YticofgmmjecleaaGreatDoor
open Go Go.RowKit
def DrewX (w : World) (e : Ending) (w' : World) : Prop := ∃ (P : Int) (A : Option Addr) (n c : Nat) (sq : List Int) (A1 : Option Addr) (m1 c1 : Nat) (xs : List Int), e = .returned (.tuple #[.agg #[.int .i64 P, .slice A n c], .slice A1 m1 c1]) ∧ P ≤ 17 ∧ n ≤ 7 ∧ m1 ≤ 100 ∧ Own w' w.heap.size 2 A n c (ints sq) ∧ Own w' w.heap.size 2 A1 m1 c1 (ints xs) ∧ Below w.heap.size w w'
set_option maxHeartbeats 6400000 in
set_option maxRecDepth 8000 in
theorem l04One2_any (B : Option Addr) (nb cb : Nat) (bs : List Int) (w : World) (hnb : nb ≤ 4096) (r : Rd w B nb (bs.map (Value.int .u8))) (hbs : ∀ b ∈ bs, 0 ≤ b ∧ b < 256) (hbg : ∀ a, B = some a → a.block < w.heap.size) :
    Calls Tryz.prog 59 #[.slice B nb cb] w (DrewX w) := by
  have hB0 : Below w.heap.size w (w.alloc (.cells #[.int .i64 0, .slice none 0 0] 28)) := (Below.refl _ _).alloc (Nat.le_refl _) _
  have k0 : Blk (w.alloc (.cells #[.int .i64 0, .slice none 0 0] 28)) w.heap.size 28 #[.int .i64 0, .slice none 0 0] := Blk.new _ _ _
  have hfr := from__any B nb cb bs (w.alloc (.cells #[.int .i64 0, .slice none 0 0] 28)) hnb (r.below hB0) hbs (fun a e => by have := hbg a e; simp; omega)
  go_enter Tryz.func59, Tryz.ntmps59
  go_wp2_with fail
  refine hfr.mono ?_
  rintro e w2 ⟨g, rfl, hg, hs2, hb2⟩
  have k2 := k0.below hb2 k0.lt
  have hB2 := hB0.trans (hb2.mono hB0.size)
  have hw := hB2.size
  have hgw : w.heap.size ≤ g := Nat.le_trans hB0.size hg
  have hsp := l03Spoil_any g w2 hs2
  clear hfr hb2 k0 hB0 hg
  go_wp2_with fail
  refine hsp.mono ?_
  rintro e w3 ⟨P, A, n, c, sq, rfl, hP, hn, hO, hd3⟩
  have d4 := hd3.alloc (.cells #[.int .i64 P, .slice A n c] 28)
  have k4 := (k2.dr hd3 (by decide)).alloc (.cells #[.int .i64 P, .slice A n c] 28)
  have kb4 : Blk (w3.alloc (.cells #[.int .i64 P, .slice A n c] 28)) w3.heap.size 28 #[.int .i64 P, .slice A n c] := Blk.new _ _ _
  have o4 := (hO.base (B' := w.heap.size) hw).below ((Below.refl _ _).alloc (Nat.le_refl _) (.cells #[.int .i64 P, .slice A n c] 28))
  clear hsp k2 hO hd3
  obtain ⟨q0, q1⟩ := kb4.two
  go_wp2
  refine wp_obsR 4 (Dr g 121) [[], [], [], [1, 2], [0, 1, 2, 3], [0, 1, 2, 3]] [[], [], [], [99]] (fun x => [VIs (.agg #[.int .i64 P, .slice A n c]), VIs (.pointer (some ⟨g, 0, none⟩)), VIs (.agg #[.int .i64 P, .slice A n c]), VLx w.heap.size]) (fun w' => Blk w' w.heap.size 28 #[.int .i64 0, .slice none 0 0] ∧ Blk w' w3.heap.size 28 #[.int .i64 P, .slice A n c] ∧ Own w' w.heap.size 2 A n c (ints sq) ∧ Dr g 121 w2 w') (by kernel_rfl) (by kernel_rfl) (fun x x' j hx => by
      rcases j with _ | _ | _ | _ | j
      · rfl
      · rfl
      · rfl
      · rfl
      · rfl)
    (weak_ofR [0, 1, 2, 3] (by decide) (fun k hk x v w w' hp hr => by
      simp only [List.mem_cons, List.not_mem_nil, or_false] at hk
      rcases hk with rfl | rfl | rfl | rfl
      · exact hp
      · exact hp
      · exact hp
      · exact VLx.dr hp hr (by decide))) (fun j _ _ h hb => hb.either (fun hb => ⟨h.1.below hb h.1.lt, h.2.1.below hb h.2.1.lt, h.2.2.1.below hb, h.2.2.2.then hb⟩) (fun hr => ⟨h.1.dr hr (by decide), h.2.1.dr hr (by decide), h.2.2.1.dr hr (by decide), h.2.2.2.trans hr⟩)) (⟨k4.drew, kb4.drew, o4.below (Below.refl _ _).drew, d4.then (Below.refl _ _).drew⟩) (fun x => ?_)
  refine obs_stepR (Eq.trans (by simp only [List.getElem?_toArray, List.getElem?_cons_zero]; exact rfl) rfl) rfl (fun w' hS hV K hK => ?_) ?_
  · obtain ⟨q0, q1⟩ := hS.2.1.two
    go_simp
    exact hK.out _ _ _ rfl rfl rfl (Below.refl _ _)
  simp only [List.setIfInBounds_toArray, List.set_cons_zero, List.set_cons_succ]
  refine obs_stepR (Eq.trans (by simp only [List.getElem?_toArray, List.getElem?_cons_succ, List.getElem?_cons_zero]; exact rfl) rfl) rfl (fun w' hS hV K hK => ?_) ?_
  · obtain ⟨q0, q1⟩ := hS.2.1.two
    go_simp
    exact hK.out _ _ _ rfl rfl rfl (Below.refl _ _)
  simp only [List.setIfInBounds_toArray, List.set_cons_zero, List.set_cons_succ]
  refine obs_stepR (Eq.trans (by simp only [List.getElem?_toArray, List.getElem?_cons_succ, List.getElem?_cons_zero]; exact rfl) rfl) rfl (fun w' hS hV K hK => ?_) ?_
  · obtain ⟨q0, q1⟩ := hS.2.1.two
    go_simp
    exact hK.out _ _ _ rfl rfl rfl (Below.refl _ _)
  simp only [List.setIfInBounds_toArray, List.set_cons_zero, List.set_cons_succ]
  refine obs_stepR (Eq.trans (by simp only [List.getElem?_toArray, List.getElem?_cons_succ, List.getElem?_cons_zero]; exact rfl) rfl) rfl (fun w' hS hV K hK => ?_) ?_
  · have e1 : x 1 = (.pointer (some ⟨g, 0, none⟩)) := hV 1 (by decide)
    have e2 : x 2 = (.agg #[.int .i64 P, .slice A n c]) := hV 2 (by decide)
    obtain ⟨q0, q1⟩ := hS.2.1.two
    go_simp
    refine (l04Spoil_any g P A n c sq w' hS.2.2.2.s' (by omega) (hS.2.2.1.base (Nat.zero_le _))).mono ?_
    rintro e v1 ⟨A9, m9, c9, rfl, hm9, ⟨xs9, ho9⟩, hd9⟩
    exact hK.out _ _ _ rfl rfl ⟨A9, m9, c9, xs9, rfl, hm9, ho9.base (Nat.le_trans hw (hS.2.2.2.size))⟩ hd9
  simp only [List.setIfInBounds_toArray, List.set_cons_zero, List.set_cons_succ]
  refine fun w' hS hV => ?_
  have e0 : x 0 = (.agg #[.int .i64 P, .slice A n c]) := hV 0 (by decide)
  have e1 : x 1 = (.pointer (some ⟨g, 0, none⟩)) := hV 1 (by decide)
  have e2 : x 2 = (.agg #[.int .i64 P, .slice A n c]) := hV 2 (by decide)
  obtain ⟨A3, m3, c3, X3, e3, l3, h3⟩ := hV 3 (by decide)
  simp only [e0, e1, e2, e3]
  clear e0 e1 e2 e3
  obtain ⟨k5, kb5, o5, d5⟩ := hS
  obtain ⟨w6, rfl⟩ : ∃ W, W = w' := ⟨_, rfl⟩
  clear q0 q1 k4 kb4 o4 d4
  obtain ⟨p0, p1⟩ := k5.two
  have f0 := k5.frozen 0
  have f1 := k5.frozen 1
  refine any_one (j := 4) (by kernel_rfl) (Eq.trans (by simp only [List.getElem?_toArray, List.getElem?_cons_succ, List.getElem?_cons_zero]; exact rfl) rfl) (fun K hK => ?_)
  go_simp
  refine hK.out _ _ (any_one (j := 5) (by kernel_rfl) (Eq.trans (by simp only [List.getElem?_toArray, List.getElem?_cons_succ, List.getElem?_cons_zero]; exact rfl) rfl) (fun K hK => ?_))
  go_simp
  refine hK.out _ _ (wpAny_done (by kernel_rfl) ?_ _)
  have hf : ∀ {m d : Nat} {A2 : Option Addr} {xs : List Int}, Own w6 w.heap.size 2 A2 m d (ints xs) → Own ((w6.setCell ⟨w.heap.size, 0, none⟩ (.int .i64 P)).setCell ⟨w.heap.size, 1, none⟩ (.slice A n c)) w.heap.size 2 A2 m d (ints xs) := by
    intro m c' A' xs ho
    exact (ho.far k5 (by decide) 0 _).far (k5.set_ 0 (.int .i64 P)) (by decide) 1 _
  go_wp2
  exact bodyPost_ret (v := .tuple #[.agg #[.int .i64 P, .slice A n c], .slice A3 m3 c3]) (by simp [results, Tryz.results59, go_sem, p0, p1]) rfl ⟨P, A, n, c, sq, A3, m3, c3, X3, rfl, hP, hn, l3, hf o5, hf h3, hB2.trans (((d5.b.mono hgw).setCell (p := ⟨w.heap.size, 0, none⟩) (Nat.le_refl _) _).setCell (p := ⟨w.heap.size, 1, none⟩) (Nat.le_refl _) _)⟩
set_option maxHeartbeats 6400000 in
set_option maxRecDepth 8000 in
theorem DrawMultivectorText_any (B : Option Addr) (nb cb : Nat) (bs : List Int) (w : World) (hnb : nb ≤ 4096) (r : Rd w B nb (bs.map (Value.int .u8))) (hbs : ∀ b ∈ bs, 0 ≤ b ∧ b < 256) (hbg : ∀ a, B = some a → a.block < w.heap.size) :
    Calls Tryz.prog 26 #[.slice B nb cb] w (DrewX w) := by
  have hB0 : Below w.heap.size w (w.alloc (.cells #[.int .i64 0, .slice none 0 0] 28)) := (Below.refl _ _).alloc (Nat.le_refl _) _
  have k0 : Blk (w.alloc (.cells #[.int .i64 0, .slice none 0 0] 28)) w.heap.size 28 #[.int .i64 0, .slice none 0 0] := Blk.new _ _ _
  have hfr := l04One2_any B nb cb bs (w.alloc (.cells #[.int .i64 0, .slice none 0 0] 28)) hnb (r.below hB0) hbs (fun a e => by have := hbg a e; simp; omega)
  go_enter Tryz.func26, Tryz.ntmps26
  go_wp2_with fail
  refine hfr.mono ?_
  rintro e w2 ⟨P, A, n, c, sq, A1, m1, c1, xs, rfl, hP, hn, h1, ho, hx, hb2⟩
  have hw : w.heap.size ≤ (w.alloc (.cells #[.int .i64 0, .slice none 0 0] 28)).heap.size := hB0.size
  have k2 := (k0.below hb2 k0.lt).alloc (.cells #[.int .i64 P, .slice A n c] 28)
  have kb : Blk (w2.alloc (.cells #[.int .i64 P, .slice A n c] 28)) w2.heap.size 28 #[.int .i64 P, .slice A n c] := Blk.new _ _ _
  have hB2 := hB0.trans (hb2.mono hw)
  have hA : Below w2.heap.size w2 (w2.alloc (.cells #[.int .i64 P, .slice A n c] 28)) := (Below.refl _ _).alloc (Nat.le_refl _) _
  have hB3 := hB2.alloc (o := .cells #[.int .i64 P, .slice A n c] 28) hB2.size
  have o3 := (ho.base hw).below hA
  have x3 := (hx.base hw).below hA
  clear hfr hb2 k0 hB0 ho hx hA hB2
  obtain ⟨q0, q1⟩ := kb.two
  obtain ⟨p0, p1⟩ := k2.two
  have f0 := k2.frozen 0
  have f1 := k2.frozen 1
  obtain ⟨w6, hw6⟩ : ∃ W, W = w2.alloc (.cells #[.int .i64 P, .slice A n c] 28) := ⟨_, rfl⟩
  go_wp2
  rw [← hw6] at k2 hB3 o3 x3 p0 p1 f0 f1 ⊢
  have hf : ∀ {m d : Nat} {A2 : Option Addr} {xs : List Int}, Own w6 w.heap.size 2 A2 m d (ints xs) → Own ((w6.setCell ⟨w.heap.size, 0, none⟩ (.int .i64 P)).setCell ⟨w.heap.size, 1, none⟩ (.slice A n c)) w.heap.size 2 A2 m d (ints xs) := by
    intro m c' A' xs ho
    exact (ho.far k2 (by decide) 0 _).far (k2.set_ 0 (.int .i64 P)) (by decide) 1 _
  exact bodyPost_ret (v := .tuple #[.agg #[.int .i64 P, .slice A n c], .slice A1 m1 c1]) (by simp [results, Tryz.results26, go_sem, p0, p1]) rfl ⟨P, A, n, c, sq, A1, m1, c1, xs, rfl, hP, hn, h1, hf o3, hf x3, (hB3.setCell (p := ⟨w.heap.size, 0, none⟩) (Nat.le_refl _) _).setCell (p := ⟨w.heap.size, 1, none⟩) (Nat.le_refl _) _⟩
end Go.Proofs.YticofgmmjecleaaGreatDoor
namespace Go.Proofs.YticofgmmjecleaaGreatDoor
open Go Go.RowKit
/-- A number of the field. -/
def VFp (P : Int) : VP := ⟨fun v _ => ∃ r : Int, v = .int .i64 r ∧ 0 ≤ r ∧ r < P, fun _ _ _ h _ => h⟩
theorem nums_rep0 {P : Int} (hp : 0 < P) (n : Nat) : NumsL P (List.replicate n 0) := fun x hx => by
  rw [(List.mem_replicate.1 hx).2]; exact ⟨Int.le_refl _, hp⟩
theorem nums_set {P : Int} {xs : List Int} (h : NumsL P xs) {v : Int} (h0 : 0 ≤ v) (h1 : v < P) (k : Nat) : NumsL P (xs.set k v) := fun x hx => by
  rcases List.mem_or_eq_of_mem_set hx with e | e
  · exact h x e
  · rw [e]; exact ⟨h0, h1⟩
set_option maxHeartbeats 6400000 in
set_option maxRecDepth 8000 in
theorem l04Draw_mu (g : Nat) (P : Int) (A : Option Addr) (n c : Nat) (sq : List Int) (w : World) (hs : Src w g 121) (hp : 2 ≤ P) (hp2 : P ≤ 13) (hn : n ≤ 6) (h0 : 0 < n) (ho : Own w 0 2 A n c (ints sq)) (hq : NumsL P sq) :
    Calls Tryz.prog 71 #[.pointer (some ⟨g, 0, none⟩), .agg #[.int .i64 P, .slice A n c]] w fun e w' => ∃ (A' : Option Addr) (c' : Nat), e = .returned (.slice A' (pw n) c') ∧ (∃ xs : List Int, Own w' w.heap.size 2 A' (pw n) c' (ints xs) ∧ NumsL P xs) ∧ Dr g 121 w w' := by
  have hpw : pw n ≤ 64 := pw_le hn
  have hpn := pw_pos n
  have k0 : Blk (w.alloc (.cells #[.int .i64 P, .slice A n c] 28)) w.heap.size 28 #[.int .i64 P, .slice A n c] := Blk.new _ _ _
  have d0 := (Dr.refl hs).alloc (.cells #[.int .i64 P, .slice A n c] 28)
  have o0 := ho.below ((Below.refl _ _).alloc (Nat.le_refl _) (.cells #[.int .i64 P, .slice A n c] 28))
  have HQ := Lib.hid hq
  have hSQ : ∀ gb, (Value.slice A n c).ownBlock = some gb → gb < w.heap.size := fun gb e => (World.ownsRow.lt ho gb e).2
  obtain ⟨q0, q1⟩ := k0.two
  have hz := l04Zero_any P A n c (w.alloc (.cells #[.int .i64 P, .slice A n c] 28)) (by omega)
  go_enter Tryz.func71, Tryz.ntmps71
  go_wp2_with fail
  refine hz.mono ?_
  rintro e w2 ⟨A2, c2, rfl, hM2⟩
  have d2 := d0.then hM2.b
  have k2 := k0.below hM2.b k0.lt
  have o2 := o0.below hM2.b
  have hO2 := hM2.2.base (B' := w.heap.size) (by simp)
  have hnx := next_any g 5 w2 d2.s' (by omega)
  clear hz q0 q1 k0 d0 o0 hM2 ho
  obtain ⟨q0, q1⟩ := k2.two
  go_wp2_with fail
  refine hnx.mono ?_
  rintro e w3 ⟨r, rfl, hr1, hr2, hd3⟩
  have d3 := d2.trans hd3
  have k3 := k2.dr hd3 (by decide)
  have o3 := o2.dr hd3 (by decide)
  have hO3 := hO2.dr hd3 (by decide)
  clear hnx d2 k2 o2 hd3 hO2 q0 q1 hq
  by_cases h0' : r = 0
  · have e0 : (r == 0) = true := by simp [h0']
    obtain ⟨q0, q1⟩ := k3.two
    go_wp2
    refine wp_obsR 10 (Dr g 121) [[], [], [], [2], [], [4], [4, 5], [1, 2, 3, 4, 5, 6], [0, 1, 2, 3, 4, 5, 6, 7], [0, 1, 2, 3, 4, 5, 6, 7, 8]] [[], [], [], [], [], [], [], [99], [], []] (fun x => [VIs (.agg #[.int .i64 P, .slice A n c]), VIs (.pointer (some ⟨g, 0, none⟩)), VIs (.pointer (some ⟨w.heap.size, 0, none⟩)), VIs (.int .i64 (P)), VIs (.pointer (some ⟨w.heap.size, 1, none⟩)), VIs (.slice A n c), VIs (.int .i64 (n)), VLs w.heap.size (n) P, VLs w.heap.size (pw n) P, VLs w.heap.size (pw n) P]) (fun w' => Blk w' w.heap.size 28 #[.int .i64 P, .slice A n c] ∧ Own w' 0 2 A n c (ints sq) ∧ Dr g 121 w w') (by kernel_rfl) (by kernel_rfl) (fun x x' j hx => by
        rcases j with _ | _ | _ | _ | _ | _ | _ | _ | _ | _ | j
        · rfl
        · rfl
        · rfl
        · rfl
        · rfl
        · rfl
        · rfl
        · rfl
        · rfl
        · rfl
        · rfl)
      (weak_ofR [0, 1, 2, 3, 4, 5, 6, 7, 8, 9] (by decide) (fun k hk x v w w' hp hr => by
        simp only [List.mem_cons, List.not_mem_nil, or_false] at hk
        rcases hk with rfl | rfl | rfl | rfl | rfl | rfl | rfl | rfl | rfl | rfl
        · exact hp
        · exact hp
        · exact hp
        · exact hp
        · exact hp
        · exact hp
        · exact hp
        · exact VLs.dr hp hr (by decide)
        · exact VLs.dr hp hr (by decide)
        · exact VLs.dr hp hr (by decide))) (fun j _ _ h hb => hb.either (fun hb => ⟨h.1.below hb h.1.lt, h.2.1.below hb, h.2.2.then hb⟩) (fun hr => ⟨h.1.dr hr (by decide), h.2.1.dr hr (by decide), h.2.2.trans hr⟩)) (⟨k3.drew, o3.below (Below.refl _ _).drew, d3.then (Below.refl _ _).drew⟩) (fun x => ?_)
    refine obs_stepR (Eq.trans (by simp only [List.getElem?_toArray, List.getElem?_cons_zero]; exact rfl) rfl) rfl (fun w' hS hV K hK => ?_) ?_
    · obtain ⟨q0, q1⟩ := hS.1.two
      go_simp
      exact hK.out _ _ _ rfl rfl rfl (Below.refl _ _)
    simp only [List.setIfInBounds_toArray, List.set_cons_zero, List.set_cons_succ]
    refine obs_stepR (Eq.trans (by simp only [List.getElem?_toArray, List.getElem?_cons_succ, List.getElem?_cons_zero]; exact rfl) rfl) rfl (fun w' hS hV K hK => ?_) ?_
    · obtain ⟨q0, q1⟩ := hS.1.two
      go_simp
      exact hK.out _ _ _ rfl rfl rfl (Below.refl _ _)
    simp only [List.setIfInBounds_toArray, List.set_cons_zero, List.set_cons_succ]
    refine obs_stepR (Eq.trans (by simp only [List.getElem?_toArray, List.getElem?_cons_succ, List.getElem?_cons_zero]; exact rfl) rfl) rfl (fun w' hS hV K hK => ?_) ?_
    · obtain ⟨q0, q1⟩ := hS.1.two
      go_simp
      exact hK.out _ _ _ rfl rfl rfl (Below.refl _ _)
    simp only [List.setIfInBounds_toArray, List.set_cons_zero, List.set_cons_succ]
    refine obs_stepR (Eq.trans (by simp only [List.getElem?_toArray, List.getElem?_cons_succ, List.getElem?_cons_zero]; exact rfl) rfl) rfl (fun w' hS hV K hK => ?_) ?_
    · have e2 : x 2 = (.pointer (some ⟨w.heap.size, 0, none⟩)) := hV 2 (by decide)
      obtain ⟨q0, q1⟩ := hS.1.two
      go_simp
      exact hK.out _ _ _ rfl rfl rfl (Below.refl _ _)
    simp only [List.setIfInBounds_toArray, List.set_cons_zero, List.set_cons_succ]
    refine obs_stepR (Eq.trans (by simp only [List.getElem?_toArray, List.getElem?_cons_succ, List.getElem?_cons_zero]; exact rfl) rfl) rfl (fun w' hS hV K hK => ?_) ?_
    · obtain ⟨q0, q1⟩ := hS.1.two
      go_simp
      exact hK.out _ _ _ rfl rfl rfl (Below.refl _ _)
    simp only [List.setIfInBounds_toArray, List.set_cons_zero, List.set_cons_succ]
    refine obs_stepR (Eq.trans (by simp only [List.getElem?_toArray, List.getElem?_cons_succ, List.getElem?_cons_zero]; exact rfl) rfl) rfl (fun w' hS hV K hK => ?_) ?_
    · have e4 : x 4 = (.pointer (some ⟨w.heap.size, 1, none⟩)) := hV 4 (by decide)
      obtain ⟨q0, q1⟩ := hS.1.two
      go_simp
      exact hK.out _ _ _ rfl rfl rfl (Below.refl _ _)
    simp only [List.setIfInBounds_toArray, List.set_cons_zero, List.set_cons_succ]
    refine obs_stepR (Eq.trans (by simp only [List.getElem?_toArray, List.getElem?_cons_succ, List.getElem?_cons_zero]; exact rfl) rfl) rfl (fun w' hS hV K hK => ?_) ?_
    · have e4 : x 4 = (.pointer (some ⟨w.heap.size, 1, none⟩)) := hV 4 (by decide)
      have e5 : x 5 = (.slice A n c) := hV 5 (by decide)
      obtain ⟨q0, q1⟩ := hS.1.two
      go_simp
      exact hK.out _ _ _ rfl rfl rfl (Below.refl _ _)
    simp only [List.setIfInBounds_toArray, List.set_cons_zero, List.set_cons_succ]
    refine obs_stepR (Eq.trans (by simp only [List.getElem?_toArray, List.getElem?_cons_succ, List.getElem?_cons_zero]; exact rfl) rfl) rfl (fun w' hS hV K hK => ?_) ?_
    · have e1 : x 1 = (.pointer (some ⟨g, 0, none⟩)) := hV 1 (by decide)
      have e2 : x 2 = (.pointer (some ⟨w.heap.size, 0, none⟩)) := hV 2 (by decide)
      have e3 : x 3 = (.int .i64 (P)) := hV 3 (by decide)
      have e4 : x 4 = (.pointer (some ⟨w.heap.size, 1, none⟩)) := hV 4 (by decide)
      have e5 : x 5 = (.slice A n c) := hV 5 (by decide)
      have e6 : x 6 = (.int .i64 (n)) := hV 6 (by decide)
      obtain ⟨q0, q1⟩ := hS.1.two
      go_simp
      refine (nextList_any g P (n) w' hS.2.2.s' (by omega) (by omega)).mono ?_
      rintro e v1 ⟨A9, c9, xs9, rfl, hl9, hx9, ho9, hd9⟩
      exact hK.out _ _ _ rfl rfl ⟨_, _, xs9, rfl, hl9, nums_of (by omega) hx9, ho9.base hS.2.2.size⟩ hd9
    simp only [List.setIfInBounds_toArray, List.set_cons_zero, List.set_cons_succ]
    refine obs_stepR (Eq.trans (by simp only [List.getElem?_toArray, List.getElem?_cons_succ, List.getElem?_cons_zero]; exact rfl) rfl) rfl (fun w' hS hV K hK => ?_) ?_
    · have e0 : x 0 = (.agg #[.int .i64 P, .slice A n c]) := hV 0 (by decide)
      have e1 : x 1 = (.pointer (some ⟨g, 0, none⟩)) := hV 1 (by decide)
      have e2 : x 2 = (.pointer (some ⟨w.heap.size, 0, none⟩)) := hV 2 (by decide)
      have e3 : x 3 = (.int .i64 (P)) := hV 3 (by decide)
      have e4 : x 4 = (.pointer (some ⟨w.heap.size, 1, none⟩)) := hV 4 (by decide)
      have e5 : x 5 = (.slice A n c) := hV 5 (by decide)
      have e6 : x 6 = (.int .i64 (n)) := hV 6 (by decide)
      obtain ⟨A7, c7, X7, e7, l7, n7, h7⟩ := hV 7 (by decide)
      obtain ⟨q0, q1⟩ := hS.1.two
      go_simp
      refine (l04Vector_any P A n c A7 c7 X7 w' (by omega) h7.rd).mono ?_
      rintro e v1 ⟨A9, c9, rfl, hM⟩
      exact hK.out _ _ _ rfl rfl ⟨_, _, _, rfl, vecTo_len _ _ _, vecTo_nums (by omega) n X7 n7 n, hM.2.base hS.2.2.size⟩ hM.b
    simp only [List.setIfInBounds_toArray, List.set_cons_zero, List.set_cons_succ]
    refine obs_stepR (Eq.trans (by simp only [List.getElem?_toArray, List.getElem?_cons_succ, List.getElem?_cons_zero]; exact rfl) rfl) rfl (fun w' hS hV K hK => ?_) ?_
    · have e0 : x 0 = (.agg #[.int .i64 P, .slice A n c]) := hV 0 (by decide)
      have e1 : x 1 = (.pointer (some ⟨g, 0, none⟩)) := hV 1 (by decide)
      have e2 : x 2 = (.pointer (some ⟨w.heap.size, 0, none⟩)) := hV 2 (by decide)
      have e3 : x 3 = (.int .i64 (P)) := hV 3 (by decide)
      have e4 : x 4 = (.pointer (some ⟨w.heap.size, 1, none⟩)) := hV 4 (by decide)
      have e5 : x 5 = (.slice A n c) := hV 5 (by decide)
      have e6 : x 6 = (.int .i64 (n)) := hV 6 (by decide)
      obtain ⟨A7, c7, X7, e7, l7, n7, h7⟩ := hV 7 (by decide)
      obtain ⟨A8, c8, X8, e8, l8, n8, h8⟩ := hV 8 (by decide)
      obtain ⟨q0, q1⟩ := hS.1.two
      go_simp
      exact hK.out _ _ _ rfl rfl ⟨_, _, X8, rfl, l8, n8, h8⟩ (Below.refl _ _)
    simp only [List.setIfInBounds_toArray, List.set_cons_zero, List.set_cons_succ]
    refine fun w' hS hV => ?_
    have e0 : x 0 = (.agg #[.int .i64 P, .slice A n c]) := hV 0 (by decide)
    have e1 : x 1 = (.pointer (some ⟨g, 0, none⟩)) := hV 1 (by decide)
    have e2 : x 2 = (.pointer (some ⟨w.heap.size, 0, none⟩)) := hV 2 (by decide)
    have e3 : x 3 = (.int .i64 (P)) := hV 3 (by decide)
    have e4 : x 4 = (.pointer (some ⟨w.heap.size, 1, none⟩)) := hV 4 (by decide)
    have e5 : x 5 = (.slice A n c) := hV 5 (by decide)
    have e6 : x 6 = (.int .i64 (n)) := hV 6 (by decide)
    obtain ⟨A7, c7, X7, e7, l7, n7, h7⟩ := hV 7 (by decide)
    obtain ⟨A8, c8, X8, e8, l8, n8, h8⟩ := hV 8 (by decide)
    obtain ⟨A9, c9, X9, e9, l9, n9, h9⟩ := hV 9 (by decide)
    simp only [e0, e1, e2, e3, e4, e5, e6, e7, e8, e9]
    clear e0 e1 e2 e3 e4 e5 e6 e7 e8 e9
    refine wpAny_done (by kernel_rfl) ?_ _
    obtain ⟨_, _, d9⟩ := hS
    go_wp2
    go_ret
    exact ⟨_, _, rfl, ⟨X9, h9, n9⟩, d9⟩
  · have e0 : (r == 0) = false := by simp [h0']
    by_cases h1 : r = 1
    · have e1 : (r == 1) = true := by simp [h1]
      obtain ⟨q0, q1⟩ := k3.two
      go_wp2_with fail
      refine (l04One_any P A n c w3 (by omega)).mono ?_
      rintro e w4 ⟨A4, c4, rfl, hM4⟩
      have d4 := d3.then hM4.b
      have k4 := k3.below hM4.b k3.lt
      have o4 := o3.below hM4.b
      have h4 := hM4.2.base (B' := w.heap.size) d3.size
      have hnx := next_any g 4 w4 d4.s' (by omega)
      clear hM4 d3 k3 o3 hO3 q0 q1
      go_wp2_with fail
      refine hnx.mono ?_
      rintro e w5 ⟨rr, rfl, hr3, hr4, hd5⟩
      obtain ⟨rn, rfl⟩ : ∃ rn : Nat, rr = rn := ⟨rr.toNat, by omega⟩
      have d5 := d4.trans hd5
      have k5 := k4.dr hd5 (by decide)
      have o5 := o4.dr hd5 (by decide)
      have h5 := h4.dr hd5 (by decide)
      clear hnx d4 k4 o4 h4 hd5
      have hbn := bladeL_nums hp n 0
      have hbl := bladeL_len n 0
      go_wp2
      go_loopw [5, 6] (fun out q wr => ∃ (m : Nat) (A5 : Option Addr) (c5 : Nat) (X5 : List Int), m ≤ 4 ∧ q = .int .i64 m ∧ out = .slice A5 (pw n) c5 ∧ X5.length = pw n ∧ NumsL P X5 ∧ Own wr w.heap.size 2 A5 (pw n) c5 (ints X5) ∧ Blk wr w.heap.size 28 #[.int .i64 P, .slice A n c] ∧ Own wr 0 2 A n c (ints sq) ∧ Dr g 121 w wr) (fun _ q _ => (intOf q).toNat)
      case atStart => exact ⟨rn, _, _, _, by omega, rfl, rfl, hbl, hbn, h5, k5, o5, d5⟩
      case round =>
        clear h5 k5 o5 d5 hbn hbl
        obtain ⟨m, A5, c5, X5, hm4, rfl, rfl, hl5, hn5, h5, k5, o5, d5⟩ := hrel
        have HN5 := Lib.hid hn5
        have HL5 := Lib.hid hl5
        clear hn5 hl5
        cases m with
        | zero =>
          go_wp2
          go_ret
          exact ⟨_, _, rfl, ⟨X5, h5, HN5.out⟩, d5⟩
        | succ m =>
          have d1 : decide (0 < ((m + 1 : Nat) : Int)) = true := by rw [decide_eq_true_eq]; omega
          have WM : wrap64 (((m + 1 : Nat) : Int) - 1) = (m : Int) := by unfold wrap64; omega
          obtain ⟨q0, q1⟩ := k5.two
          go_wp2
          refine wp_obsR 12 (Dr g 121) [[], [], [], [], [], [4], [], [6], [6, 7], [3, 4, 5, 6, 7, 8], [2, 3, 4, 5, 6, 7, 8, 9], [0, 1, 2, 3, 4, 5, 6, 7, 8, 9, 10], [0, 1, 2, 3, 4, 5, 6, 7, 8, 9, 10, 11]] [[], [], [], [], [], [], [], [], [], [99], [], []] (fun x => [VIs (.agg #[.int .i64 P, .slice A n c]), VIs (.slice A5 (pw n) c5), VIs (.agg #[.int .i64 P, .slice A n c]), VIs (.pointer (some ⟨g, 0, none⟩)), VIs (.pointer (some ⟨w.heap.size, 0, none⟩)), VIs (.int .i64 (P)), VIs (.pointer (some ⟨w.heap.size, 1, none⟩)), VIs (.slice A n c), VIs (.int .i64 (n)), VLs w.heap.size (n) P, VLs w.heap.size (pw n) P, VLs w.heap.size (pw n) P]) (fun w' => Blk w' w.heap.size 28 #[.int .i64 P, .slice A n c] ∧ Own w' 0 2 A n c (ints sq) ∧ Dr g 121 w w' ∧ Own w' w.heap.size 2 A5 (pw n) c5 (ints X5)) (by kernel_rfl) (by kernel_rfl) (fun x x' j hx => by
              rcases j with _ | _ | _ | _ | _ | _ | _ | _ | _ | _ | _ | _ | j
              · rfl
              · rfl
              · rfl
              · rfl
              · rfl
              · rfl
              · rfl
              · rfl
              · rfl
              · rfl
              · rfl
              · rfl
              · rfl)
            (weak_ofR [0, 1, 2, 3, 4, 5, 6, 7, 8, 9, 10, 11] (by decide) (fun k hk x v w w' hp hr => by
              simp only [List.mem_cons, List.not_mem_nil, or_false] at hk
              rcases hk with rfl | rfl | rfl | rfl | rfl | rfl | rfl | rfl | rfl | rfl | rfl | rfl
              · exact hp
              · exact hp
              · exact hp
              · exact hp
              · exact hp
              · exact hp
              · exact hp
              · exact hp
              · exact hp
              · exact VLs.dr hp hr (by decide)
              · exact VLs.dr hp hr (by decide)
              · exact VLs.dr hp hr (by decide))) (fun j _ _ h hb => hb.either (fun hb => ⟨h.1.below hb h.1.lt, h.2.1.below hb, h.2.2.1.then hb, h.2.2.2.below hb⟩) (fun hr => ⟨h.1.dr hr (by decide), h.2.1.dr hr (by decide), h.2.2.1.trans hr, h.2.2.2.dr hr (by decide)⟩)) (⟨k5.drew, o5.below (Below.refl _ _).drew, d5.then (Below.refl _ _).drew, h5.below (Below.refl _ _).drew⟩) (fun x => ?_)
          refine obs_stepR (Eq.trans (by simp only [List.getElem?_toArray, List.getElem?_cons_zero]; exact rfl) rfl) rfl (fun w' hS hV K hK => ?_) ?_
          · obtain ⟨q0, q1⟩ := hS.1.two
            go_simp
            exact hK.out _ _ _ rfl rfl rfl (Below.refl _ _)
          simp only [List.setIfInBounds_toArray, List.set_cons_zero, List.set_cons_succ]
          refine obs_stepR (Eq.trans (by simp only [List.getElem?_toArray, List.getElem?_cons_succ, List.getElem?_cons_zero]; exact rfl) rfl) rfl (fun w' hS hV K hK => ?_) ?_
          · obtain ⟨q0, q1⟩ := hS.1.two
            go_simp
            exact hK.out _ _ _ rfl rfl rfl (Below.refl _ _)
          simp only [List.setIfInBounds_toArray, List.set_cons_zero, List.set_cons_succ]
          refine obs_stepR (Eq.trans (by simp only [List.getElem?_toArray, List.getElem?_cons_succ, List.getElem?_cons_zero]; exact rfl) rfl) rfl (fun w' hS hV K hK => ?_) ?_
          · obtain ⟨q0, q1⟩ := hS.1.two
            go_simp
            exact hK.out _ _ _ rfl rfl rfl (Below.refl _ _)
          simp only [List.setIfInBounds_toArray, List.set_cons_zero, List.set_cons_succ]
          refine obs_stepR (Eq.trans (by simp only [List.getElem?_toArray, List.getElem?_cons_succ, List.getElem?_cons_zero]; exact rfl) rfl) rfl (fun w' hS hV K hK => ?_) ?_
          · obtain ⟨q0, q1⟩ := hS.1.two
            go_simp
            exact hK.out _ _ _ rfl rfl rfl (Below.refl _ _)
          simp only [List.setIfInBounds_toArray, List.set_cons_zero, List.set_cons_succ]
          refine obs_stepR (Eq.trans (by simp only [List.getElem?_toArray, List.getElem?_cons_succ, List.getElem?_cons_zero]; exact rfl) rfl) rfl (fun w' hS hV K hK => ?_) ?_
          · obtain ⟨q0, q1⟩ := hS.1.two
            go_simp
            exact hK.out _ _ _ rfl rfl rfl (Below.refl _ _)
          simp only [List.setIfInBounds_toArray, List.set_cons_zero, List.set_cons_succ]
          refine obs_stepR (Eq.trans (by simp only [List.getElem?_toArray, List.getElem?_cons_succ, List.getElem?_cons_zero]; exact rfl) rfl) rfl (fun w' hS hV K hK => ?_) ?_
          · have e4 : x 4 = (.pointer (some ⟨w.heap.size, 0, none⟩)) := hV 4 (by decide)
            obtain ⟨q0, q1⟩ := hS.1.two
            go_simp
            exact hK.out _ _ _ rfl rfl rfl (Below.refl _ _)
          simp only [List.setIfInBounds_toArray, List.set_cons_zero, List.set_cons_succ]
          refine obs_stepR (Eq.trans (by simp only [List.getElem?_toArray, List.getElem?_cons_succ, List.getElem?_cons_zero]; exact rfl) rfl) rfl (fun w' hS hV K hK => ?_) ?_
          · obtain ⟨q0, q1⟩ := hS.1.two
            go_simp
            exact hK.out _ _ _ rfl rfl rfl (Below.refl _ _)
          simp only [List.setIfInBounds_toArray, List.set_cons_zero, List.set_cons_succ]
          refine obs_stepR (Eq.trans (by simp only [List.getElem?_toArray, List.getElem?_cons_succ, List.getElem?_cons_zero]; exact rfl) rfl) rfl (fun w' hS hV K hK => ?_) ?_
          · have e6 : x 6 = (.pointer (some ⟨w.heap.size, 1, none⟩)) := hV 6 (by decide)
            obtain ⟨q0, q1⟩ := hS.1.two
            go_simp
            exact hK.out _ _ _ rfl rfl rfl (Below.refl _ _)
          simp only [List.setIfInBounds_toArray, List.set_cons_zero, List.set_cons_succ]
          refine obs_stepR (Eq.trans (by simp only [List.getElem?_toArray, List.getElem?_cons_succ, List.getElem?_cons_zero]; exact rfl) rfl) rfl (fun w' hS hV K hK => ?_) ?_
          · have e6 : x 6 = (.pointer (some ⟨w.heap.size, 1, none⟩)) := hV 6 (by decide)
            have e7 : x 7 = (.slice A n c) := hV 7 (by decide)
            obtain ⟨q0, q1⟩ := hS.1.two
            go_simp
            exact hK.out _ _ _ rfl rfl rfl (Below.refl _ _)
          simp only [List.setIfInBounds_toArray, List.set_cons_zero, List.set_cons_succ]
          refine obs_stepR (Eq.trans (by simp only [List.getElem?_toArray, List.getElem?_cons_succ, List.getElem?_cons_zero]; exact rfl) rfl) rfl (fun w' hS hV K hK => ?_) ?_
          · have e3 : x 3 = (.pointer (some ⟨g, 0, none⟩)) := hV 3 (by decide)
            have e4 : x 4 = (.pointer (some ⟨w.heap.size, 0, none⟩)) := hV 4 (by decide)
            have e5 : x 5 = (.int .i64 (P)) := hV 5 (by decide)
            have e6 : x 6 = (.pointer (some ⟨w.heap.size, 1, none⟩)) := hV 6 (by decide)
            have e7 : x 7 = (.slice A n c) := hV 7 (by decide)
            have e8 : x 8 = (.int .i64 (n)) := hV 8 (by decide)
            obtain ⟨q0, q1⟩ := hS.1.two
            go_simp
            refine (nextList_any g P (n) w' hS.2.2.1.s' (by omega) (by omega)).mono ?_
            rintro e v1 ⟨A9, c9, xs9, rfl, hl9, hx9, ho9, hd9⟩
            exact hK.out _ _ _ rfl rfl ⟨_, _, xs9, rfl, hl9, nums_of (by omega) hx9, ho9.base hS.2.2.1.size⟩ hd9
          simp only [List.setIfInBounds_toArray, List.set_cons_zero, List.set_cons_succ]
          refine obs_stepR (Eq.trans (by simp only [List.getElem?_toArray, List.getElem?_cons_succ, List.getElem?_cons_zero]; exact rfl) rfl) rfl (fun w' hS hV K hK => ?_) ?_
          · have e2 : x 2 = (.agg #[.int .i64 P, .slice A n c]) := hV 2 (by decide)
            have e3 : x 3 = (.pointer (some ⟨g, 0, none⟩)) := hV 3 (by decide)
            have e4 : x 4 = (.pointer (some ⟨w.heap.size, 0, none⟩)) := hV 4 (by decide)
            have e5 : x 5 = (.int .i64 (P)) := hV 5 (by decide)
            have e6 : x 6 = (.pointer (some ⟨w.heap.size, 1, none⟩)) := hV 6 (by decide)
            have e7 : x 7 = (.slice A n c) := hV 7 (by decide)
            have e8 : x 8 = (.int .i64 (n)) := hV 8 (by decide)
            obtain ⟨A9, c9, X9, e9, l9, n9, h9⟩ := hV 9 (by decide)
            obtain ⟨q0, q1⟩ := hS.1.two
            go_simp
            refine (l04Vector_any P A n c A9 c9 X9 w' (by omega) h9.rd).mono ?_
            rintro e v1 ⟨A9, c9, rfl, hM⟩
            exact hK.out _ _ _ rfl rfl ⟨_, _, _, rfl, vecTo_len _ _ _, vecTo_nums (by omega) n X9 n9 n, hM.2.base hS.2.2.1.size⟩ hM.b
          simp only [List.setIfInBounds_toArray, List.set_cons_zero, List.set_cons_succ]
          refine obs_stepR (Eq.trans (by simp only [List.getElem?_toArray, List.getElem?_cons_succ, List.getElem?_cons_zero]; exact rfl) rfl) rfl (fun w' hS hV K hK => ?_) ?_
          · have e0 : x 0 = (.agg #[.int .i64 P, .slice A n c]) := hV 0 (by decide)
            have e1 : x 1 = (.slice A5 (pw n) c5) := hV 1 (by decide)
            have e2 : x 2 = (.agg #[.int .i64 P, .slice A n c]) := hV 2 (by decide)
            have e3 : x 3 = (.pointer (some ⟨g, 0, none⟩)) := hV 3 (by decide)
            have e4 : x 4 = (.pointer (some ⟨w.heap.size, 0, none⟩)) := hV 4 (by decide)
            have e5 : x 5 = (.int .i64 (P)) := hV 5 (by decide)
            have e6 : x 6 = (.pointer (some ⟨w.heap.size, 1, none⟩)) := hV 6 (by decide)
            have e7 : x 7 = (.slice A n c) := hV 7 (by decide)
            have e8 : x 8 = (.int .i64 (n)) := hV 8 (by decide)
            obtain ⟨A9, c9, X9, e9, l9, n9, h9⟩ := hV 9 (by decide)
            obtain ⟨A10, c10, X10, e10, l10, n10, h10⟩ := hV 10 (by decide)
            obtain ⟨q0, q1⟩ := hS.1.two
            go_simp
            refine (l04Times_any P A n c sq A5 c5 X5 A10 c10 X10 w' hp hp2 hn hS.2.1.rd HQ.out (hS.2.2.2.rd) HN5.out h10.rd n10).mono ?_
            rintro e v1 ⟨A9, c9, rfl, hM⟩
            exact hK.out _ _ _ rfl rfl ⟨_, _, _, rfl, by rw [prodL_len]; exact HL5.out, prodL_nums sq _ _ _ (by omega), hM.2.base hS.2.2.1.size⟩ hM.b
          simp only [List.setIfInBounds_toArray, List.set_cons_zero, List.set_cons_succ]
          refine fun w' hS hV => ?_
          have e0 : x 0 = (.agg #[.int .i64 P, .slice A n c]) := hV 0 (by decide)
          have e1 : x 1 = (.slice A5 (pw n) c5) := hV 1 (by decide)
          have e2 : x 2 = (.agg #[.int .i64 P, .slice A n c]) := hV 2 (by decide)
          have e3 : x 3 = (.pointer (some ⟨g, 0, none⟩)) := hV 3 (by decide)
          have e4 : x 4 = (.pointer (some ⟨w.heap.size, 0, none⟩)) := hV 4 (by decide)
          have e5 : x 5 = (.int .i64 (P)) := hV 5 (by decide)
          have e6 : x 6 = (.pointer (some ⟨w.heap.size, 1, none⟩)) := hV 6 (by decide)
          have e7 : x 7 = (.slice A n c) := hV 7 (by decide)
          have e8 : x 8 = (.int .i64 (n)) := hV 8 (by decide)
          obtain ⟨A9, c9, X9, e9, l9, n9, h9⟩ := hV 9 (by decide)
          obtain ⟨A10, c10, X10, e10, l10, n10, h10⟩ := hV 10 (by decide)
          obtain ⟨A11, c11, X11, e11, l11, n11, h11⟩ := hV 11 (by decide)
          simp only [e0, e1, e2, e3, e4, e5, e6, e7, e8, e9, e10, e11]
          clear e0 e1 e2 e3 e4 e5 e6 e7 e8 e9 e10 e11
          obtain ⟨k6, o6, d6, _⟩ := hS
          refine any_one (j := 12) (by kernel_rfl) (Eq.trans (by simp only [List.getElem?_toArray, List.getElem?_cons_succ, List.getElem?_cons_zero]; exact rfl) rfl) (fun K hK => ?_)
          go_simp
          refine hK.out _ _ (wpAny_done (by kernel_rfl) ?_ _)
          clear q0 q1 k5 o5 d5 h5
          go_wp2
          go_roundw
          case rel => exact ⟨m, _, _, X11, by omega, by go_num, rfl, l11, n11, h11, k6, o6, d6⟩
          case measure => simp [intOf]
    · have e1 : (r == 1) = false := by simp [h1]
      by_cases h2 : r = 2
      · have e2 : (r == 2) = true := by simp [h2]
        have hnx := next_any g ((n : Int) + 1) w3 d3.s' (by omega)
        have W1 : wrap64 ((n : Int) + 1) = (n : Int) + 1 := by unfold wrap64; omega
        obtain ⟨q0, q1⟩ := k3.two
        go_wp2_with fail
        refine hnx.mono ?_
        rintro e w4 ⟨rr, rfl, hr3, hr4, hd4⟩
        have hr5 := hr4 (by omega)
        obtain ⟨rn, rfl⟩ : ∃ rn : Nat, rr = rn := ⟨rr.toNat, by omega⟩
        have d4 := d3.trans hd4
        have k4 := k3.dr hd4 (by decide)
        have o4 := o3.dr hd4 (by decide)
        clear hnx d3 k3 o3 hd4 q0 q1
        obtain ⟨q0, q1⟩ := k4.two
        go_wp2
        refine wp_obsR 9 (Dr g 121) [[], [], [1], [], [3], [0, 1, 2, 3, 4], [], [0, 1, 2, 3, 4, 5, 6], [0, 1, 2, 3, 4, 5, 6, 7]] [[], [], [], [], [], [99], [], [], []] (fun x => [VIs (.pointer (some ⟨g, 0, none⟩)), VIs (.pointer (some ⟨w.heap.size, 0, none⟩)), VIs (.int .i64 (P)), VIs (.agg #[.int .i64 P, .slice A n c]), VIs (.int .i64 (pw n)), VLs w.heap.size (pw n) P, VIs (.int .i64 (rn)), VLs w.heap.size (pw n) P, VLs w.heap.size (pw n) P]) (fun w' => Blk w' w.heap.size 28 #[.int .i64 P, .slice A n c] ∧ Own w' 0 2 A n c (ints sq) ∧ Dr g 121 w w') (by kernel_rfl) (by kernel_rfl) (fun x x' j hx => by
            rcases j with _ | _ | _ | _ | _ | _ | _ | _ | _ | j
            · rfl
            · rfl
            · rfl
            · rfl
            · rfl
            · rfl
            · rfl
            · rfl
            · rfl
            · rfl)
          (weak_ofR [0, 1, 2, 3, 4, 5, 6, 7, 8] (by decide) (fun k hk x v w w' hp hr => by
            simp only [List.mem_cons, List.not_mem_nil, or_false] at hk
            rcases hk with rfl | rfl | rfl | rfl | rfl | rfl | rfl | rfl | rfl
            · exact hp
            · exact hp
            · exact hp
            · exact hp
            · exact hp
            · exact VLs.dr hp hr (by decide)
            · exact hp
            · exact VLs.dr hp hr (by decide)
            · exact VLs.dr hp hr (by decide))) (fun j _ _ h hb => hb.either (fun hb => ⟨h.1.below hb h.1.lt, h.2.1.below hb, h.2.2.then hb⟩) (fun hr => ⟨h.1.dr hr (by decide), h.2.1.dr hr (by decide), h.2.2.trans hr⟩)) (⟨k4.drew, o4.below (Below.refl _ _).drew, d4.then (Below.refl _ _).drew⟩) (fun x => ?_)
        refine obs_stepR (Eq.trans (by simp only [List.getElem?_toArray, List.getElem?_cons_zero]; exact rfl) rfl) rfl (fun w' hS hV K hK => ?_) ?_
        · obtain ⟨q0, q1⟩ := hS.1.two
          go_simp
          exact hK.out _ _ _ rfl rfl rfl (Below.refl _ _)
        simp only [List.setIfInBounds_toArray, List.set_cons_zero, List.set_cons_succ]
        refine obs_stepR (Eq.trans (by simp only [List.getElem?_toArray, List.getElem?_cons_succ, List.getElem?_cons_zero]; exact rfl) rfl) rfl (fun w' hS hV K hK => ?_) ?_
        · obtain ⟨q0, q1⟩ := hS.1.two
          go_simp
          exact hK.out _ _ _ rfl rfl rfl (Below.refl _ _)
        simp only [List.setIfInBounds_toArray, List.set_cons_zero, List.set_cons_succ]
        refine obs_stepR (Eq.trans (by simp only [List.getElem?_toArray, List.getElem?_cons_succ, List.getElem?_cons_zero]; exact rfl) rfl) rfl (fun w' hS hV K hK => ?_) ?_
        · have e1 : x 1 = (.pointer (some ⟨w.heap.size, 0, none⟩)) := hV 1 (by decide)
          obtain ⟨q0, q1⟩ := hS.1.two
          go_simp
          exact hK.out _ _ _ rfl rfl rfl (Below.refl _ _)
        simp only [List.setIfInBounds_toArray, List.set_cons_zero, List.set_cons_succ]
        refine obs_stepR (Eq.trans (by simp only [List.getElem?_toArray, List.getElem?_cons_succ, List.getElem?_cons_zero]; exact rfl) rfl) rfl (fun w' hS hV K hK => ?_) ?_
        · obtain ⟨q0, q1⟩ := hS.1.two
          go_simp
          exact hK.out _ _ _ rfl rfl rfl (Below.refl _ _)
        simp only [List.setIfInBounds_toArray, List.set_cons_zero, List.set_cons_succ]
        refine obs_stepR (Eq.trans (by simp only [List.getElem?_toArray, List.getElem?_cons_succ, List.getElem?_cons_zero]; exact rfl) rfl) rfl (fun w' hS hV K hK => ?_) ?_
        · have e3 : x 3 = (.agg #[.int .i64 P, .slice A n c]) := hV 3 (by decide)
          obtain ⟨q0, q1⟩ := hS.1.two
          go_simp
          refine (l04Size_any P A n c w' (by omega)).mono ?_
          rintro e v1 ⟨rfl, hb⟩
          exact hK.out _ _ _ rfl rfl rfl hb
        simp only [List.setIfInBounds_toArray, List.set_cons_zero, List.set_cons_succ]
        refine obs_stepR (Eq.trans (by simp only [List.getElem?_toArray, List.getElem?_cons_succ, List.getElem?_cons_zero]; exact rfl) rfl) rfl (fun w' hS hV K hK => ?_) ?_
        · have e0 : x 0 = (.pointer (some ⟨g, 0, none⟩)) := hV 0 (by decide)
          have e1 : x 1 = (.pointer (some ⟨w.heap.size, 0, none⟩)) := hV 1 (by decide)
          have e2 : x 2 = (.int .i64 (P)) := hV 2 (by decide)
          have e3 : x 3 = (.agg #[.int .i64 P, .slice A n c]) := hV 3 (by decide)
          have e4 : x 4 = (.int .i64 (pw n)) := hV 4 (by decide)
          obtain ⟨q0, q1⟩ := hS.1.two
          go_simp
          refine (nextList_any g P (pw n) w' hS.2.2.s' (by omega) (by omega)).mono ?_
          rintro e v1 ⟨A9, c9, xs9, rfl, hl9, hx9, ho9, hd9⟩
          exact hK.out _ _ _ rfl rfl ⟨_, _, xs9, rfl, hl9, nums_of (by omega) hx9, ho9.base hS.2.2.size⟩ hd9
        simp only [List.setIfInBounds_toArray, List.set_cons_zero, List.set_cons_succ]
        refine obs_stepR (Eq.trans (by simp only [List.getElem?_toArray, List.getElem?_cons_succ, List.getElem?_cons_zero]; exact rfl) rfl) rfl (fun w' hS hV K hK => ?_) ?_
        · obtain ⟨q0, q1⟩ := hS.1.two
          go_simp
          exact hK.out _ _ _ rfl rfl rfl (Below.refl _ _)
        simp only [List.setIfInBounds_toArray, List.set_cons_zero, List.set_cons_succ]
        refine obs_stepR (Eq.trans (by simp only [List.getElem?_toArray, List.getElem?_cons_succ, List.getElem?_cons_zero]; exact rfl) rfl) rfl (fun w' hS hV K hK => ?_) ?_
        · have e0 : x 0 = (.pointer (some ⟨g, 0, none⟩)) := hV 0 (by decide)
          have e1 : x 1 = (.pointer (some ⟨w.heap.size, 0, none⟩)) := hV 1 (by decide)
          have e2 : x 2 = (.int .i64 (P)) := hV 2 (by decide)
          have e3 : x 3 = (.agg #[.int .i64 P, .slice A n c]) := hV 3 (by decide)
          have e4 : x 4 = (.int .i64 (pw n)) := hV 4 (by decide)
          obtain ⟨A5, c5, X5, e5, l5, n5, h5⟩ := hV 5 (by decide)
          have e6 : x 6 = (.int .i64 (rn)) := hV 6 (by decide)
          obtain ⟨q0, q1⟩ := hS.1.two
          go_simp
          refine (l04Part_any A5 (pw n) c5 X5 rn w' (by omega) (by omega) h5.rd).mono ?_
          rintro e v1 ⟨A9, c9, rfl, hM⟩
          exact hK.out _ _ _ rfl rfl ⟨_, _, _, rfl, by rw [partG_len]; exact l5, partG_nums (by omega) n5 _, hM.2.base hS.2.2.size⟩ hM.b
        simp only [List.setIfInBounds_toArray, List.set_cons_zero, List.set_cons_succ]
        refine obs_stepR (Eq.trans (by simp only [List.getElem?_toArray, List.getElem?_cons_succ, List.getElem?_cons_zero]; exact rfl) rfl) rfl (fun w' hS hV K hK => ?_) ?_
        · have e0 : x 0 = (.pointer (some ⟨g, 0, none⟩)) := hV 0 (by decide)
          have e1 : x 1 = (.pointer (some ⟨w.heap.size, 0, none⟩)) := hV 1 (by decide)
          have e2 : x 2 = (.int .i64 (P)) := hV 2 (by decide)
          have e3 : x 3 = (.agg #[.int .i64 P, .slice A n c]) := hV 3 (by decide)
          have e4 : x 4 = (.int .i64 (pw n)) := hV 4 (by decide)
          obtain ⟨A5, c5, X5, e5, l5, n5, h5⟩ := hV 5 (by decide)
          have e6 : x 6 = (.int .i64 (rn)) := hV 6 (by decide)
          obtain ⟨A7, c7, X7, e7, l7, n7, h7⟩ := hV 7 (by decide)
          obtain ⟨q0, q1⟩ := hS.1.two
          go_simp
          exact hK.out _ _ _ rfl rfl ⟨_, _, X7, rfl, l7, n7, h7⟩ (Below.refl _ _)
        simp only [List.setIfInBounds_toArray, List.set_cons_zero, List.set_cons_succ]
        refine fun w' hS hV => ?_
        have e0 : x 0 = (.pointer (some ⟨g, 0, none⟩)) := hV 0 (by decide)
        have e1 : x 1 = (.pointer (some ⟨w.heap.size, 0, none⟩)) := hV 1 (by decide)
        have e2 : x 2 = (.int .i64 (P)) := hV 2 (by decide)
        have e3 : x 3 = (.agg #[.int .i64 P, .slice A n c]) := hV 3 (by decide)
        have e4 : x 4 = (.int .i64 (pw n)) := hV 4 (by decide)
        obtain ⟨A5, c5, X5, e5, l5, n5, h5⟩ := hV 5 (by decide)
        have e6 : x 6 = (.int .i64 (rn)) := hV 6 (by decide)
        obtain ⟨A7, c7, X7, e7, l7, n7, h7⟩ := hV 7 (by decide)
        obtain ⟨A8, c8, X8, e8, l8, n8, h8⟩ := hV 8 (by decide)
        simp only [e0, e1, e2, e3, e4, e5, e6, e7, e8]
        clear e0 e1 e2 e3 e4 e5 e6 e7 e8
        refine wpAny_done (by kernel_rfl) ?_ _
        obtain ⟨_, _, d9⟩ := hS
        go_wp2
        go_ret
        exact ⟨_, _, rfl, ⟨X8, h8, n8⟩, d9⟩
      · have e2 : (r == 2) = false := by simp [h2]
        by_cases h3 : r = 3
        · have e3 : (r == 3) = true := by simp [h3]
          rcases hO3.form with ⟨_, hzz⟩ | ⟨g2, rfl, hga, hgb⟩
          · omega
          have hnx := next_any g 4 w3 d3.s' (by omega)
          go_wp2_with fail
          refine hnx.mono ?_
          rintro e w5 ⟨rr, rfl, hr3, hr4, hd5⟩
          obtain ⟨rn, rfl⟩ : ∃ rn : Nat, rr = rn := ⟨rr.toNat, by omega⟩
          have d5 := d3.trans hd5
          have k5 := k3.dr hd5 (by decide)
          have o5 := o3.dr hd5 (by decide)
          have h5 := hO3.dr hd5 (by decide)
          clear hnx d3 k3 o3 hO3 hd5
          go_wp2
          go_loopw [8] (fun q wr => ∃ (m : Nat) (X5 : List Int), m ≤ 4 ∧ q = .int .i64 m ∧ Hid (NumsL P X5) ∧ Own wr w.heap.size 2 (some ⟨g2, 0, none⟩) (pw n) c2 (ints X5) ∧ Blk wr w.heap.size 28 #[.int .i64 P, .slice A n c] ∧ Own wr 0 2 A n c (ints sq) ∧ Dr g 121 w wr) (fun q _ => (intOf q).toNat)
          case atStart => exact ⟨rn, _, by omega, rfl, Lib.hid (nums_rep0 (by omega) _), h5, k5, o5, d5⟩
          case round =>
            clear h5 k5 o5 d5
            obtain ⟨m, X5, hm4, rfl, HN5, h5, k5, o5, d5⟩ := hrel
            cases m with
            | zero =>
              go_wp2
              go_ret
              exact ⟨_, _, rfl, ⟨X5, h5, HN5.out⟩, d5⟩
            | succ m =>
              have d1 : decide (0 < ((m + 1 : Nat) : Int)) = true := by rw [decide_eq_true_eq]; omega
              have WM : wrap64 (((m + 1 : Nat) : Int) - 1) = (m : Int) := by unfold wrap64; omega
              obtain ⟨q0, q1⟩ := k5.two
              go_wp2
              refine wp_obsR 10 (Dr g 121) [[], [], [], [2], [1, 2, 3], [], [], [6], [1, 2, 3, 4, 5, 6, 7], [0, 1, 2, 3, 4], [0, 1, 2, 3, 4, 5, 6, 7, 8, 9]] [[], [], [], [], [99], [], [], [], [99], []] (fun x => [VIs (.slice (some ⟨g2, 0, none⟩) (pw n) c2), VIs (.pointer (some ⟨g, 0, none⟩)), VIs (.agg #[.int .i64 P, .slice A n c]), VIs (.int .i64 (pw n)), VIx (pw n), VIs (.pointer (some ⟨g, 0, none⟩)), VIs (.pointer (some ⟨w.heap.size, 0, none⟩)), VIs (.int .i64 (P)), VFp P, VPt g2 (pw n) (x 4)]) (fun w' => Blk w' w.heap.size 28 #[.int .i64 P, .slice A n c] ∧ Own w' 0 2 A n c (ints sq) ∧ Dr g 121 w w' ∧ Own w' w.heap.size 2 (some ⟨g2, 0, none⟩) (pw n) c2 (ints X5)) (by kernel_rfl) (by kernel_rfl) (fun x x' j hx => by
                  rcases j with _ | _ | _ | _ | _ | _ | _ | _ | _ | _ | j
                  · rfl
                  · rfl
                  · rfl
                  · rfl
                  · rfl
                  · rfl
                  · rfl
                  · rfl
                  · rfl
                  · rw [hx 4 (by decide)]
                  · rfl)
                (weak_ofR [0, 1, 2, 3, 4, 5, 6, 7, 8, 9] (by decide) (fun k hk x v w w' hp hr => by
                  simp only [List.mem_cons, List.not_mem_nil, or_false] at hk
                  rcases hk with rfl | rfl | rfl | rfl | rfl | rfl | rfl | rfl | rfl | rfl
                  · exact hp
                  · exact hp
                  · exact hp
                  · exact hp
                  · exact hp
                  · exact hp
                  · exact hp
                  · exact hp
                  · exact hp
                  · exact hp)) (fun j _ _ h hb => hb.either (fun hb => ⟨h.1.below hb h.1.lt, h.2.1.below hb, h.2.2.1.then hb, h.2.2.2.below hb⟩) (fun hr => ⟨h.1.dr hr (by decide), h.2.1.dr hr (by decide), h.2.2.1.trans hr, h.2.2.2.dr hr (by decide)⟩)) (⟨k5.drew, o5.below (Below.refl _ _).drew, d5.then (Below.refl _ _).drew, h5.below (Below.refl _ _).drew⟩) (fun x => ?_)
              refine obs_stepR (Eq.trans (by simp only [List.getElem?_toArray, List.getElem?_cons_zero]; exact rfl) rfl) rfl (fun w' hS hV K hK => ?_) ?_
              · obtain ⟨q0, q1⟩ := hS.1.two
                go_simp
                exact hK.out _ _ _ rfl rfl rfl (Below.refl _ _)
              simp only [List.setIfInBounds_toArray, List.set_cons_zero, List.set_cons_succ]
              refine obs_stepR (Eq.trans (by simp only [List.getElem?_toArray, List.getElem?_cons_succ, List.getElem?_cons_zero]; exact rfl) rfl) rfl (fun w' hS hV K hK => ?_) ?_
              · obtain ⟨q0, q1⟩ := hS.1.two
                go_simp
                exact hK.out _ _ _ rfl rfl rfl (Below.refl _ _)
              simp only [List.setIfInBounds_toArray, List.set_cons_zero, List.set_cons_succ]
              refine obs_stepR (Eq.trans (by simp only [List.getElem?_toArray, List.getElem?_cons_succ, List.getElem?_cons_zero]; exact rfl) rfl) rfl (fun w' hS hV K hK => ?_) ?_
              · obtain ⟨q0, q1⟩ := hS.1.two
                go_simp
                exact hK.out _ _ _ rfl rfl rfl (Below.refl _ _)
              simp only [List.setIfInBounds_toArray, List.set_cons_zero, List.set_cons_succ]
              refine obs_stepR (Eq.trans (by simp only [List.getElem?_toArray, List.getElem?_cons_succ, List.getElem?_cons_zero]; exact rfl) rfl) rfl (fun w' hS hV K hK => ?_) ?_
              · have e2 : x 2 = (.agg #[.int .i64 P, .slice A n c]) := hV 2 (by decide)
                obtain ⟨q0, q1⟩ := hS.1.two
                go_simp
                refine (l04Size_any P A n c w' (by omega)).mono ?_
                rintro e v1 ⟨rfl, hb⟩
                exact hK.out _ _ _ rfl rfl rfl hb
              simp only [List.setIfInBounds_toArray, List.set_cons_zero, List.set_cons_succ]
              refine obs_stepR (Eq.trans (by simp only [List.getElem?_toArray, List.getElem?_cons_succ, List.getElem?_cons_zero]; exact rfl) rfl) rfl (fun w' hS hV K hK => ?_) ?_
              · have e1 : x 1 = (.pointer (some ⟨g, 0, none⟩)) := hV 1 (by decide)
                have e2 : x 2 = (.agg #[.int .i64 P, .slice A n c]) := hV 2 (by decide)
                have e3 : x 3 = (.int .i64 (pw n)) := hV 3 (by decide)
                obtain ⟨q0, q1⟩ := hS.1.two
                go_simp
                refine (next_any g ((pw n : Nat) : Int) w' hS.2.2.1.s' (by omega)).mono ?_
                rintro e v1 ⟨rr, rfl, t1, t2, hd9⟩
                have t3 := t2 (by omega)
                obtain ⟨rn2, rfl⟩ : ∃ k : Nat, rr = k := ⟨rr.toNat, by omega⟩
                exact hK.out _ _ _ rfl rfl ⟨rn2, rfl, by omega⟩ hd9
              simp only [List.setIfInBounds_toArray, List.set_cons_zero, List.set_cons_succ]
              refine obs_stepR (Eq.trans (by simp only [List.getElem?_toArray, List.getElem?_cons_succ, List.getElem?_cons_zero]; exact rfl) rfl) rfl (fun w' hS hV K hK => ?_) ?_
              · obtain ⟨q0, q1⟩ := hS.1.two
                go_simp
                exact hK.out _ _ _ rfl rfl rfl (Below.refl _ _)
              simp only [List.setIfInBounds_toArray, List.set_cons_zero, List.set_cons_succ]
              refine obs_stepR (Eq.trans (by simp only [List.getElem?_toArray, List.getElem?_cons_succ, List.getElem?_cons_zero]; exact rfl) rfl) rfl (fun w' hS hV K hK => ?_) ?_
              · obtain ⟨q0, q1⟩ := hS.1.two
                go_simp
                exact hK.out _ _ _ rfl rfl rfl (Below.refl _ _)
              simp only [List.setIfInBounds_toArray, List.set_cons_zero, List.set_cons_succ]
              refine obs_stepR (Eq.trans (by simp only [List.getElem?_toArray, List.getElem?_cons_succ, List.getElem?_cons_zero]; exact rfl) rfl) rfl (fun w' hS hV K hK => ?_) ?_
              · have e6 : x 6 = (.pointer (some ⟨w.heap.size, 0, none⟩)) := hV 6 (by decide)
                obtain ⟨q0, q1⟩ := hS.1.two
                go_simp
                exact hK.out _ _ _ rfl rfl rfl (Below.refl _ _)
              simp only [List.setIfInBounds_toArray, List.set_cons_zero, List.set_cons_succ]
              refine obs_stepR (Eq.trans (by simp only [List.getElem?_toArray, List.getElem?_cons_succ, List.getElem?_cons_zero]; exact rfl) rfl) rfl (fun w' hS hV K hK => ?_) ?_
              · have e1 : x 1 = (.pointer (some ⟨g, 0, none⟩)) := hV 1 (by decide)
                have e2 : x 2 = (.agg #[.int .i64 P, .slice A n c]) := hV 2 (by decide)
                have e3 : x 3 = (.int .i64 (pw n)) := hV 3 (by decide)
                obtain ⟨rx, e4, lx⟩ := hV 4 (by decide)
                have e5 : x 5 = (.pointer (some ⟨g, 0, none⟩)) := hV 5 (by decide)
                have e6 : x 6 = (.pointer (some ⟨w.heap.size, 0, none⟩)) := hV 6 (by decide)
                have e7 : x 7 = (.int .i64 (P)) := hV 7 (by decide)
                obtain ⟨q0, q1⟩ := hS.1.two
                go_simp
                refine (next_any g P w' hS.2.2.1.s' (by omega)).mono ?_
                rintro e v1 ⟨rr, rfl, t1, t2, hd9⟩
                exact hK.out _ _ _ rfl rfl ⟨_, rfl, t1, t2 (by omega)⟩ hd9
              simp only [List.setIfInBounds_toArray, List.set_cons_zero, List.set_cons_succ]
              refine obs_stepR (Eq.trans (by simp only [List.getElem?_toArray, List.getElem?_cons_succ, List.getElem?_cons_zero]; exact rfl) rfl) rfl (fun w' hS hV K hK => ?_) ?_
              · have e0 : x 0 = (.slice (some ⟨g2, 0, none⟩) (pw n) c2) := hV 0 (by decide)
                have e1 : x 1 = (.pointer (some ⟨g, 0, none⟩)) := hV 1 (by decide)
                have e2 : x 2 = (.agg #[.int .i64 P, .slice A n c]) := hV 2 (by decide)
                have e3 : x 3 = (.int .i64 (pw n)) := hV 3 (by decide)
                obtain ⟨rx, e4, lx⟩ := hV 4 (by decide)
                obtain ⟨q0, q1⟩ := hS.1.two
                have b1 : (0 : Int) ≤ (rx : Int) := by omega
                have b2 : (rx : Int) < ((pw n : Nat) : Int) := by omega
                go_simp
                exact hK.out _ _ _ rfl rfl ⟨rx, e4, lx, rfl⟩ (Below.refl _ _)
              simp only [List.setIfInBounds_toArray, List.set_cons_zero, List.set_cons_succ]
              refine fun w' hS hV => ?_
              have e0 : x 0 = (.slice (some ⟨g2, 0, none⟩) (pw n) c2) := hV 0 (by decide)
              have e1 : x 1 = (.pointer (some ⟨g, 0, none⟩)) := hV 1 (by decide)
              have e2 : x 2 = (.agg #[.int .i64 P, .slice A n c]) := hV 2 (by decide)
              have e3 : x 3 = (.int .i64 (pw n)) := hV 3 (by decide)
              obtain ⟨rx, e4, lx⟩ := hV 4 (by decide)
              have e5 : x 5 = (.pointer (some ⟨g, 0, none⟩)) := hV 5 (by decide)
              have e6 : x 6 = (.pointer (some ⟨w.heap.size, 0, none⟩)) := hV 6 (by decide)
              have e7 : x 7 = (.int .i64 (P)) := hV 7 (by decide)
              obtain ⟨rv, e8, rv0, rv1⟩ := hV 8 (by decide)
              obtain ⟨ry, f9, ly, e9⟩ := hV 9 (by decide)
              simp only [e0, e1, e2, e3, e4, e5, e6, e7, e8, e9]
              clear e0 e1 e2 e3 e4 e5 e6 e7 e8 e9
              obtain ⟨k6, o6, d6, h6⟩ := hS
              obtain ⟨w6, rfl⟩ : ∃ W, W = w' := ⟨_, rfl⟩
              obtain ⟨u1, hc1⟩ := h6.cellI ly
              have hf1 := h6.frozen_ ry
              refine any_one (j := 10) (by kernel_rfl) (Eq.trans (by simp only [List.getElem?_toArray, List.getElem?_cons_succ, List.getElem?_cons_zero]; exact rfl) rfl) (fun K hK => ?_)
              go_simp
              refine hK.out _ _ (wpAny_done (by kernel_rfl) ?_ _)
              obtain ⟨h7, hg7⟩ := h6.set_ ry (.int .i64 rv)
              rw [ints_set] at h7
              have HN7 : Hid (NumsL P (X5.set ry rv)) := Lib.hid (nums_set HN5.out rv0 rv1 ry)
              have k7 := k6.grown hg7 (h6.ne_blk k6 (by decide))
              have d7 := d6.grown h6 hg7
              have o7 := o6.grown hg7 (by
                cases hbk : (Value.slice A n c).ownBlock with
                | none => exact .inl rfl
                | some gb => right; intro e; have := hSQ gb hbk; injection e with e; omega)
              clear k6 o6 d6 h6 hg7 hc1 hf1 k5 o5 d5 h5 q0 q1
              go_wp2
              go_roundw
              case rel => exact ⟨m, _, by omega, by go_num, HN7, h7, k7, o7, d7⟩
              case measure => simp [intOf]
        · have e3 : (r == 3) = false := by simp [h3]
          obtain ⟨q0, q1⟩ := k3.two
          go_wp2
          refine wp_obsR 7 (Dr g 121) [[], [], [1], [], [3], [0, 1, 2, 3, 4], [0, 1, 2, 3, 4, 5]] [[], [], [], [], [], [99], []] (fun x => [VIs (.pointer (some ⟨g, 0, none⟩)), VIs (.pointer (some ⟨w.heap.size, 0, none⟩)), VIs (.int .i64 (P)), VIs (.agg #[.int .i64 P, .slice A n c]), VIs (.int .i64 (pw n)), VLs w.heap.size (pw n) P, VLs w.heap.size (pw n) P]) (fun w' => Blk w' w.heap.size 28 #[.int .i64 P, .slice A n c] ∧ Own w' 0 2 A n c (ints sq) ∧ Dr g 121 w w') (by kernel_rfl) (by kernel_rfl) (fun x x' j hx => by
              rcases j with _ | _ | _ | _ | _ | _ | _ | j
              · rfl
              · rfl
              · rfl
              · rfl
              · rfl
              · rfl
              · rfl
              · rfl)
            (weak_ofR [0, 1, 2, 3, 4, 5, 6] (by decide) (fun k hk x v w w' hp hr => by
              simp only [List.mem_cons, List.not_mem_nil, or_false] at hk
              rcases hk with rfl | rfl | rfl | rfl | rfl | rfl | rfl
              · exact hp
              · exact hp
              · exact hp
              · exact hp
              · exact hp
              · exact VLs.dr hp hr (by decide)
              · exact VLs.dr hp hr (by decide))) (fun j _ _ h hb => hb.either (fun hb => ⟨h.1.below hb h.1.lt, h.2.1.below hb, h.2.2.then hb⟩) (fun hr => ⟨h.1.dr hr (by decide), h.2.1.dr hr (by decide), h.2.2.trans hr⟩)) (⟨k3.drew, o3.below (Below.refl _ _).drew, d3.then (Below.refl _ _).drew⟩) (fun x => ?_)
          refine obs_stepR (Eq.trans (by simp only [List.getElem?_toArray, List.getElem?_cons_zero]; exact rfl) rfl) rfl (fun w' hS hV K hK => ?_) ?_
          · obtain ⟨q0, q1⟩ := hS.1.two
            go_simp
            exact hK.out _ _ _ rfl rfl rfl (Below.refl _ _)
          simp only [List.setIfInBounds_toArray, List.set_cons_zero, List.set_cons_succ]
          refine obs_stepR (Eq.trans (by simp only [List.getElem?_toArray, List.getElem?_cons_succ, List.getElem?_cons_zero]; exact rfl) rfl) rfl (fun w' hS hV K hK => ?_) ?_
          · obtain ⟨q0, q1⟩ := hS.1.two
            go_simp
            exact hK.out _ _ _ rfl rfl rfl (Below.refl _ _)
          simp only [List.setIfInBounds_toArray, List.set_cons_zero, List.set_cons_succ]
          refine obs_stepR (Eq.trans (by simp only [List.getElem?_toArray, List.getElem?_cons_succ, List.getElem?_cons_zero]; exact rfl) rfl) rfl (fun w' hS hV K hK => ?_) ?_
          · have e1 : x 1 = (.pointer (some ⟨w.heap.size, 0, none⟩)) := hV 1 (by decide)
            obtain ⟨q0, q1⟩ := hS.1.two
            go_simp
            exact hK.out _ _ _ rfl rfl rfl (Below.refl _ _)
          simp only [List.setIfInBounds_toArray, List.set_cons_zero, List.set_cons_succ]
          refine obs_stepR (Eq.trans (by simp only [List.getElem?_toArray, List.getElem?_cons_succ, List.getElem?_cons_zero]; exact rfl) rfl) rfl (fun w' hS hV K hK => ?_) ?_
          · obtain ⟨q0, q1⟩ := hS.1.two
            go_simp
            exact hK.out _ _ _ rfl rfl rfl (Below.refl _ _)
          simp only [List.setIfInBounds_toArray, List.set_cons_zero, List.set_cons_succ]
          refine obs_stepR (Eq.trans (by simp only [List.getElem?_toArray, List.getElem?_cons_succ, List.getElem?_cons_zero]; exact rfl) rfl) rfl (fun w' hS hV K hK => ?_) ?_
          · have e3 : x 3 = (.agg #[.int .i64 P, .slice A n c]) := hV 3 (by decide)
            obtain ⟨q0, q1⟩ := hS.1.two
            go_simp
            refine (l04Size_any P A n c w' (by omega)).mono ?_
            rintro e v1 ⟨rfl, hb⟩
            exact hK.out _ _ _ rfl rfl rfl hb
          simp only [List.setIfInBounds_toArray, List.set_cons_zero, List.set_cons_succ]
          refine obs_stepR (Eq.trans (by simp only [List.getElem?_toArray, List.getElem?_cons_succ, List.getElem?_cons_zero]; exact rfl) rfl) rfl (fun w' hS hV K hK => ?_) ?_
          · have e0 : x 0 = (.pointer (some ⟨g, 0, none⟩)) := hV 0 (by decide)
            have e1 : x 1 = (.pointer (some ⟨w.heap.size, 0, none⟩)) := hV 1 (by decide)
            have e2 : x 2 = (.int .i64 (P)) := hV 2 (by decide)
            have e3 : x 3 = (.agg #[.int .i64 P, .slice A n c]) := hV 3 (by decide)
            have e4 : x 4 = (.int .i64 (pw n)) := hV 4 (by decide)
            obtain ⟨q0, q1⟩ := hS.1.two
            go_simp
            refine (nextList_any g P (pw n) w' hS.2.2.s' (by omega) (by omega)).mono ?_
            rintro e v1 ⟨A9, c9, xs9, rfl, hl9, hx9, ho9, hd9⟩
            exact hK.out _ _ _ rfl rfl ⟨_, _, xs9, rfl, hl9, nums_of (by omega) hx9, ho9.base hS.2.2.size⟩ hd9
          simp only [List.setIfInBounds_toArray, List.set_cons_zero, List.set_cons_succ]
          refine obs_stepR (Eq.trans (by simp only [List.getElem?_toArray, List.getElem?_cons_succ, List.getElem?_cons_zero]; exact rfl) rfl) rfl (fun w' hS hV K hK => ?_) ?_
          · have e0 : x 0 = (.pointer (some ⟨g, 0, none⟩)) := hV 0 (by decide)
            have e1 : x 1 = (.pointer (some ⟨w.heap.size, 0, none⟩)) := hV 1 (by decide)
            have e2 : x 2 = (.int .i64 (P)) := hV 2 (by decide)
            have e3 : x 3 = (.agg #[.int .i64 P, .slice A n c]) := hV 3 (by decide)
            have e4 : x 4 = (.int .i64 (pw n)) := hV 4 (by decide)
            obtain ⟨A5, c5, X5, e5, l5, n5, h5⟩ := hV 5 (by decide)
            obtain ⟨q0, q1⟩ := hS.1.two
            go_simp
            exact hK.out _ _ _ rfl rfl ⟨_, _, X5, rfl, l5, n5, h5⟩ (Below.refl _ _)
          simp only [List.setIfInBounds_toArray, List.set_cons_zero, List.set_cons_succ]
          refine fun w' hS hV => ?_
          have e0 : x 0 = (.pointer (some ⟨g, 0, none⟩)) := hV 0 (by decide)
          have e1 : x 1 = (.pointer (some ⟨w.heap.size, 0, none⟩)) := hV 1 (by decide)
          have e2 : x 2 = (.int .i64 (P)) := hV 2 (by decide)
          have e3 : x 3 = (.agg #[.int .i64 P, .slice A n c]) := hV 3 (by decide)
          have e4 : x 4 = (.int .i64 (pw n)) := hV 4 (by decide)
          obtain ⟨A5, c5, X5, e5, l5, n5, h5⟩ := hV 5 (by decide)
          obtain ⟨A6, c6, X6, e6, l6, n6, h6⟩ := hV 6 (by decide)
          simp only [e0, e1, e2, e3, e4, e5, e6]
          clear e0 e1 e2 e3 e4 e5 e6
          refine wpAny_done (by kernel_rfl) ?_ _
          obtain ⟨_, _, d9⟩ := hS
          go_wp2
          go_ret
          exact ⟨_, _, rfl, ⟨X6, h6, n6⟩, d9⟩
end Go.Proofs.YticofgmmjecleaaGreatDoor

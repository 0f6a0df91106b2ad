/-
  LawFnProjections: part 11 of the texts that the proof needs. No condition.
-/
import Derived.Test.YtggigolkncckoaaGreatP10
namespace Go.Proofs.YtggigolkncckoaaGreat
open Go.RowKit
/-- The value is a list of n numbers of the field that was made since the heap had B blocks. -/
def VLs (B n : Nat) (P : Int) : VP := ⟨fun v w => ∃ (A : Option Addr) (c : Nat) (xs : List Int), v = .slice A n c ∧ xs.length = n ∧ NumsL P xs ∧ Own w B 2 A n c (ints xs), fun _ _ _ ⟨A, c, xs, e, hl, hn, ho⟩ hb => ⟨A, c, xs, e, hl, hn, ho.below hb⟩⟩
theorem VLs.dr {B n g : Nat} {P : Int} {T : TypeId} {v : Value} {w w' : World} (h : (VLs B n P).p v w) (d : Dr g T w w') (hT : 2 ≠ T) : (VLs B n P).p v w' := by
  obtain ⟨A, c, xs, e, hl, hn, ho⟩ := h
  refine ⟨A, c, xs, e, ?_, hn, ho.dr d hT⟩
  exact hl
/-- The value is a place. -/
def VIx (n : Nat) : VP := ⟨fun v _ => ∃ i : Nat, v = .int .i64 i ∧ i < n, fun _ _ _ h _ => h⟩
/-- The value is a pointer to the place x of block g. -/
def VPt (g n : Nat) (x : Value) : VP := ⟨fun v _ => ∃ i : Nat, x = .int .i64 i ∧ i < n ∧ v = .pointer (some ⟨g, i, none⟩), fun _ _ _ h _ => h⟩
theorem nums_of {P : Int} {xs : List Int} (hp : 1 ≤ P) (h : ∀ x ∈ xs, 0 ≤ x ∧ (1 ≤ P → x < P)) : NumsL P xs := fun x hx => ⟨(h x hx).1, (h x hx).2 hp⟩
set_option maxHeartbeats 6400000 in
set_option maxRecDepth 8000 in
theorem l04Draw_any (g : Nat) (P : Int) (A : Option Addr) (n c : Nat) (sq : List Int) (w : World) (hs : Src w g 143) (hp : 2 ≤ P) (hp2 : P ≤ 13) (hn : n ≤ 6) (h0 : 0 < n) (ho : Own w 0 2 A n c (ints sq)) (hq : NumsL P sq) :
    Calls Tryz.prog 305 #[.pointer (some ⟨g, 0, none⟩), .agg #[.int .i64 P, .slice A n c]] w fun e w' => ∃ (A' : Option Addr) (c' : Nat), e = .returned (.slice A' (pw n) c') ∧ (∃ xs : List Int, Own w' w.heap.size 2 A' (pw n) c' (ints xs)) ∧ Dr g 143 w w' := by
  have hpw : pw n ≤ 64 := pw_le hn
  have hpn := pw_pos n
  have k0 : Blk (w.alloc (.cells #[.int .i64 P, .slice A n c] 26)) w.heap.size 26 #[.int .i64 P, .slice A n c] := Blk.new _ _ _
  have d0 := (Dr.refl hs).alloc (.cells #[.int .i64 P, .slice A n c] 26)
  have o0 := ho.below ((Below.refl _ _).alloc (Nat.le_refl _) (.cells #[.int .i64 P, .slice A n c] 26))
  have HQ := Lib.hid hq
  have hSQ : ∀ gb, (Value.slice A n c).ownBlock = some gb → gb < w.heap.size := fun gb e => (World.ownsRow.lt ho gb e).2
  obtain ⟨q0, q1⟩ := k0.two
  have hz := l04Zero_any P A n c (w.alloc (.cells #[.int .i64 P, .slice A n c] 26)) (by omega)
  go_enter Tryz.func305, Tryz.ntmps305
  go_wp2_with fail
  refine hz.mono ?_
  rintro e w2 ⟨A2, c2, rfl, hM2⟩
  have d2 := d0.then hM2.b
  have k2 := k0.below hM2.b k0.lt
  have o2 := o0.below hM2.b
  have hO2 := hM2.2.base (B' := w.heap.size) (by simp)
  have hnx := next_any g 5 w2 d2.s' (by omega)
  clear hz q0 q1 k0 d0 o0 hM2 ho
  obtain ⟨q0, q1⟩ := k2.two
  go_wp2_with fail
  refine hnx.mono ?_
  rintro e w3 ⟨r, rfl, hr1, hr2, hd3⟩
  have d3 := d2.trans hd3
  have k3 := k2.dr hd3 (by decide)
  have o3 := o2.dr hd3 (by decide)
  have hO3 := hO2.dr hd3 (by decide)
  clear hnx d2 k2 o2 hd3 hO2 q0 q1 hq
  by_cases h0' : r = 0
  · have e0 : (r == 0) = true := by simp [h0']
    obtain ⟨q0, q1⟩ := k3.two
    go_wp2
    refine wp_obsR 10 (Dr g 143) [[], [], [], [2], [], [4], [4, 5], [1, 2, 3, 4, 5, 6], [0, 1, 2, 3, 4, 5, 6, 7], [0, 1, 2, 3, 4, 5, 6, 7, 8]] [[], [], [], [], [], [], [], [99], [], []] (fun x => [VIs (.agg #[.int .i64 P, .slice A n c]), VIs (.pointer (some ⟨g, 0, none⟩)), VIs (.pointer (some ⟨w.heap.size, 0, none⟩)), VIs (.int .i64 (P)), VIs (.pointer (some ⟨w.heap.size, 1, none⟩)), VIs (.slice A n c), VIs (.int .i64 (n)), VLs w.heap.size (n) P, VLs w.heap.size (pw n) P, VLs w.heap.size (pw n) P]) (fun w' => Blk w' w.heap.size 26 #[.int .i64 P, .slice A n c] ∧ Own w' 0 2 A n c (ints sq) ∧ Dr g 143 w w') (by kernel_rfl) (by kernel_rfl) (fun x x' j hx => by
        rcases j with _ | _ | _ | _ | _ | _ | _ | _ | _ | _ | j
        · rfl
        · rfl
        · rfl
        · rfl
        · rfl
        · rfl
        · rfl
        · rfl
        · rfl
        · rfl
        · rfl)
      (weak_ofR [0, 1, 2, 3, 4, 5, 6, 7, 8, 9] (by decide) (fun k hk x v w w' hp hr => by
        simp only [List.mem_cons, List.not_mem_nil, or_false] at hk
        rcases hk with rfl | rfl | rfl | rfl | rfl | rfl | rfl | rfl | rfl | rfl
        · exact hp
        · exact hp
        · exact hp
        · exact hp
        · exact hp
        · exact hp
        · exact hp
        · exact VLs.dr hp hr (by decide)
        · exact VLs.dr hp hr (by decide)
        · exact VLs.dr hp hr (by decide))) (fun j _ _ h hb => hb.either (fun hb => ⟨h.1.below hb h.1.lt, h.2.1.below hb, h.2.2.then hb⟩) (fun hr => ⟨h.1.dr hr (by decide), h.2.1.dr hr (by decide), h.2.2.trans hr⟩)) (⟨k3.drew, o3.below (Below.refl _ _).drew, d3.then (Below.refl _ _).drew⟩) (fun x => ?_)
    refine obs_stepR (Eq.trans (by simp only [List.getElem?_toArray, List.getElem?_cons_zero]; exact rfl) rfl) rfl (fun w' hS hV K hK => ?_) ?_
    · obtain ⟨q0, q1⟩ := hS.1.two
      go_simp
      exact hK.out _ _ _ rfl rfl rfl (Below.refl _ _)
    simp only [List.setIfInBounds_toArray, List.set_cons_zero, List.set_cons_succ]
    refine obs_stepR (Eq.trans (by simp only [List.getElem?_toArray, List.getElem?_cons_succ, List.getElem?_cons_zero]; exact rfl) rfl) rfl (fun w' hS hV K hK => ?_) ?_
    · obtain ⟨q0, q1⟩ := hS.1.two
      go_simp
      exact hK.out _ _ _ rfl rfl rfl (Below.refl _ _)
    simp only [List.setIfInBounds_toArray, List.set_cons_zero, List.set_cons_succ]
    refine obs_stepR (Eq.trans (by simp only [List.getElem?_toArray, List.getElem?_cons_succ, List.getElem?_cons_zero]; exact rfl) rfl) rfl (fun w' hS hV K hK => ?_) ?_
    · obtain ⟨q0, q1⟩ := hS.1.two
      go_simp
      exact hK.out _ _ _ rfl rfl rfl (Below.refl _ _)
    simp only [List.setIfInBounds_toArray, List.set_cons_zero, List.set_cons_succ]
    refine obs_stepR (Eq.trans (by simp only [List.getElem?_toArray, List.getElem?_cons_succ, List.getElem?_cons_zero]; exact rfl) rfl) rfl (fun w' hS hV K hK => ?_) ?_
    · have e2 : x 2 = (.pointer (some ⟨w.heap.size, 0, none⟩)) := hV 2 (by decide)
      obtain ⟨q0, q1⟩ := hS.1.two
      go_simp
      exact hK.out _ _ _ rfl rfl rfl (Below.refl _ _)
    simp only [List.setIfInBounds_toArray, List.set_cons_zero, List.set_cons_succ]
    refine obs_stepR (Eq.trans (by simp only [List.getElem?_toArray, List.getElem?_cons_succ, List.getElem?_cons_zero]; exact rfl) rfl) rfl (fun w' hS hV K hK => ?_) ?_
    · obtain ⟨q0, q1⟩ := hS.1.two
      go_simp
      exact hK.out _ _ _ rfl rfl rfl (Below.refl _ _)
    simp only [List.setIfInBounds_toArray, List.set_cons_zero, List.set_cons_succ]
    refine obs_stepR (Eq.trans (by simp only [List.getElem?_toArray, List.getElem?_cons_succ, List.getElem?_cons_zero]; exact rfl) rfl) rfl (fun w' hS hV K hK => ?_) ?_
    · have e4 : x 4 = (.pointer (some ⟨w.heap.size, 1, none⟩)) := hV 4 (by decide)
      obtain ⟨q0, q1⟩ := hS.1.two
      go_simp
      exact hK.out _ _ _ rfl rfl rfl (Below.refl _ _)
    simp only [List.setIfInBounds_toArray, List.set_cons_zero, List.set_cons_succ]
    refine obs_stepR (Eq.trans (by simp only [List.getElem?_toArray, List.getElem?_cons_succ, List.getElem?_cons_zero]; exact rfl) rfl) rfl (fun w' hS hV K hK => ?_) ?_
    · have e4 : x 4 = (.pointer (some ⟨w.heap.size, 1, none⟩)) := hV 4 (by decide)
      have e5 : x 5 = (.slice A n c) := hV 5 (by decide)
      obtain ⟨q0, q1⟩ := hS.1.two
      go_simp
      exact hK.out _ _ _ rfl rfl rfl (Below.refl _ _)
    simp only [List.setIfInBounds_toArray, List.set_cons_zero, List.set_cons_succ]
    refine obs_stepR (Eq.trans (by simp only [List.getElem?_toArray, List.getElem?_cons_succ, List.getElem?_cons_zero]; exact rfl) rfl) rfl (fun w' hS hV K hK => ?_) ?_
    · have e1 : x 1 = (.pointer (some ⟨g, 0, none⟩)) := hV 1 (by decide)
      have e2 : x 2 = (.pointer (some ⟨w.heap.size, 0, none⟩)) := hV 2 (by decide)
      have e3 : x 3 = (.int .i64 (P)) := hV 3 (by decide)
      have e4 : x 4 = (.pointer (some ⟨w.heap.size, 1, none⟩)) := hV 4 (by decide)
      have e5 : x 5 = (.slice A n c) := hV 5 (by decide)
      have e6 : x 6 = (.int .i64 (n)) := hV 6 (by decide)
      obtain ⟨q0, q1⟩ := hS.1.two
      go_simp
      refine (nextList_any g P (n) w' hS.2.2.s' (by omega) (by omega)).mono ?_
      rintro e v1 ⟨A9, c9, xs9, rfl, hl9, hx9, ho9, hd9⟩
      exact hK.out _ _ _ rfl rfl ⟨_, _, xs9, rfl, hl9, nums_of (by omega) hx9, ho9.base hS.2.2.size⟩ hd9
    simp only [List.setIfInBounds_toArray, List.set_cons_zero, List.set_cons_succ]
    refine obs_stepR (Eq.trans (by simp only [List.getElem?_toArray, List.getElem?_cons_succ, List.getElem?_cons_zero]; exact rfl) rfl) rfl (fun w' hS hV K hK => ?_) ?_
    · have e0 : x 0 = (.agg #[.int .i64 P, .slice A n c]) := hV 0 (by decide)
      have e1 : x 1 = (.pointer (some ⟨g, 0, none⟩)) := hV 1 (by decide)
      have e2 : x 2 = (.pointer (some ⟨w.heap.size, 0, none⟩)) := hV 2 (by decide)
      have e3 : x 3 = (.int .i64 (P)) := hV 3 (by decide)
      have e4 : x 4 = (.pointer (some ⟨w.heap.size, 1, none⟩)) := hV 4 (by decide)
      have e5 : x 5 = (.slice A n c) := hV 5 (by decide)
      have e6 : x 6 = (.int .i64 (n)) := hV 6 (by decide)
      obtain ⟨A7, c7, X7, e7, l7, n7, h7⟩ := hV 7 (by decide)
      obtain ⟨q0, q1⟩ := hS.1.two
      go_simp
      refine (l04Vector_any P A n c A7 c7 X7 w' (by omega) h7.rd).mono ?_
      rintro e v1 ⟨A9, c9, rfl, hM⟩
      exact hK.out _ _ _ rfl rfl ⟨_, _, _, rfl, vecTo_len _ _ _, vecTo_nums (by omega) n X7 n7 n, hM.2.base hS.2.2.size⟩ hM.b
    simp only [List.setIfInBounds_toArray, List.set_cons_zero, List.set_cons_succ]
    refine obs_stepR (Eq.trans (by simp only [List.getElem?_toArray, List.getElem?_cons_succ, List.getElem?_cons_zero]; exact rfl) rfl) rfl (fun w' hS hV K hK => ?_) ?_
    · have e0 : x 0 = (.agg #[.int .i64 P, .slice A n c]) := hV 0 (by decide)
      have e1 : x 1 = (.pointer (some ⟨g, 0, none⟩)) := hV 1 (by decide)
      have e2 : x 2 = (.pointer (some ⟨w.heap.size, 0, none⟩)) := hV 2 (by decide)
      have e3 : x 3 = (.int .i64 (P)) := hV 3 (by decide)
      have e4 : x 4 = (.pointer (some ⟨w.heap.size, 1, none⟩)) := hV 4 (by decide)
      have e5 : x 5 = (.slice A n c) := hV 5 (by decide)
      have e6 : x 6 = (.int .i64 (n)) := hV 6 (by decide)
      obtain ⟨A7, c7, X7, e7, l7, n7, h7⟩ := hV 7 (by decide)
      obtain ⟨A8, c8, X8, e8, l8, n8, h8⟩ := hV 8 (by decide)
      obtain ⟨q0, q1⟩ := hS.1.two
      go_simp
      exact hK.out _ _ _ rfl rfl ⟨_, _, X8, rfl, l8, n8, h8⟩ (Below.refl _ _)
    simp only [List.setIfInBounds_toArray, List.set_cons_zero, List.set_cons_succ]
    refine fun w' hS hV => ?_
    have e0 : x 0 = (.agg #[.int .i64 P, .slice A n c]) := hV 0 (by decide)
    have e1 : x 1 = (.pointer (some ⟨g, 0, none⟩)) := hV 1 (by decide)
    have e2 : x 2 = (.pointer (some ⟨w.heap.size, 0, none⟩)) := hV 2 (by decide)
    have e3 : x 3 = (.int .i64 (P)) := hV 3 (by decide)
    have e4 : x 4 = (.pointer (some ⟨w.heap.size, 1, none⟩)) := hV 4 (by decide)
    have e5 : x 5 = (.slice A n c) := hV 5 (by decide)
    have e6 : x 6 = (.int .i64 (n)) := hV 6 (by decide)
    obtain ⟨A7, c7, X7, e7, l7, n7, h7⟩ := hV 7 (by decide)
    obtain ⟨A8, c8, X8, e8, l8, n8, h8⟩ := hV 8 (by decide)
    obtain ⟨A9, c9, X9, e9, l9, n9, h9⟩ := hV 9 (by decide)
    simp only [e0, e1, e2, e3, e4, e5, e6, e7, e8, e9]
    clear e0 e1 e2 e3 e4 e5 e6 e7 e8 e9
    refine wpAny_done (by kernel_rfl) ?_ _
    obtain ⟨_, _, d9⟩ := hS
    go_wp2
    go_ret
    exact ⟨_, _, rfl, ⟨X9, h9⟩, d9⟩
  · have e0 : (r == 0) = false := by simp [h0']
    by_cases h1 : r = 1
    · have e1 : (r == 1) = true := by simp [h1]
      obtain ⟨q0, q1⟩ := k3.two
      go_wp2_with fail
      refine (l04One_any P A n c w3 (by omega)).mono ?_
      rintro e w4 ⟨A4, c4, rfl, hM4⟩
      have d4 := d3.then hM4.b
      have k4 := k3.below hM4.b k3.lt
      have o4 := o3.below hM4.b
      have h4 := hM4.2.base (B' := w.heap.size) d3.size
      have hnx := next_any g 4 w4 d4.s' (by omega)
      clear hM4 d3 k3 o3 hO3 q0 q1
      go_wp2_with fail
      refine hnx.mono ?_
      rintro e w5 ⟨rr, rfl, hr3, hr4, hd5⟩
      obtain ⟨rn, rfl⟩ : ∃ rn : Nat, rr = rn := ⟨rr.toNat, by omega⟩
      have d5 := d4.trans hd5
      have k5 := k4.dr hd5 (by decide)
      have o5 := o4.dr hd5 (by decide)
      have h5 := h4.dr hd5 (by decide)
      clear hnx d4 k4 o4 h4 hd5
      have hbn := bladeL_nums hp n 0
      have hbl := bladeL_len n 0
      go_wp2
      go_loopw [5, 6] (fun out q wr => ∃ (m : Nat) (A5 : Option Addr) (c5 : Nat) (X5 : List Int), m ≤ 4 ∧ q = .int .i64 m ∧ out = .slice A5 (pw n) c5 ∧ X5.length = pw n ∧ NumsL P X5 ∧ Own wr w.heap.size 2 A5 (pw n) c5 (ints X5) ∧ Blk wr w.heap.size 26 #[.int .i64 P, .slice A n c] ∧ Own wr 0 2 A n c (ints sq) ∧ Dr g 143 w wr) (fun _ q _ => (intOf q).toNat)
      case atStart => exact ⟨rn, _, _, _, by omega, rfl, rfl, hbl, hbn, h5, k5, o5, d5⟩
      case round =>
        clear h5 k5 o5 d5 hbn hbl
        obtain ⟨m, A5, c5, X5, hm4, rfl, rfl, hl5, hn5, h5, k5, o5, d5⟩ := hrel
        have HN5 := Lib.hid hn5
        have HL5 := Lib.hid hl5
        clear hn5 hl5
        cases m with
        | zero =>
          go_wp2
          go_ret
          exact ⟨_, _, rfl, ⟨X5, h5⟩, d5⟩
        | succ m =>
          have d1 : decide (0 < ((m + 1 : Nat) : Int)) = true := by rw [decide_eq_true_eq]; omega
          have WM : wrap64 (((m + 1 : Nat) : Int) - 1) = (m : Int) := by unfold wrap64; omega
          obtain ⟨q0, q1⟩ := k5.two
          go_wp2
          refine wp_obsR 12 (Dr g 143) [[], [], [], [], [], [4], [], [6], [6, 7], [3, 4, 5, 6, 7, 8], [2, 3, 4, 5, 6, 7, 8, 9], [0, 1, 2, 3, 4, 5, 6, 7, 8, 9, 10], [0, 1, 2, 3, 4, 5, 6, 7, 8, 9, 10, 11]] [[], [], [], [], [], [], [], [], [], [99], [], []] (fun x => [VIs (.agg #[.int .i64 P, .slice A n c]), VIs (.slice A5 (pw n) c5), VIs (.agg #[.int .i64 P, .slice A n c]), VIs (.pointer (some ⟨g, 0, none⟩)), VIs (.pointer (some ⟨w.heap.size, 0, none⟩)), VIs (.int .i64 (P)), VIs (.pointer (some ⟨w.heap.size, 1, none⟩)), VIs (.slice A n c), VIs (.int .i64 (n)), VLs w.heap.size (n) P, VLs w.heap.size (pw n) P, VLs w.heap.size (pw n) P]) (fun w' => Blk w' w.heap.size 26 #[.int .i64 P, .slice A n c] ∧ Own w' 0 2 A n c (ints sq) ∧ Dr g 143 w w' ∧ Own w' w.heap.size 2 A5 (pw n) c5 (ints X5)) (by kernel_rfl) (by kernel_rfl) (fun x x' j hx => by
              rcases j with _ | _ | _ | _ | _ | _ | _ | _ | _ | _ | _ | _ | j
              · rfl
              · rfl
              · rfl
              · rfl
              · rfl
              · rfl
              · rfl
              · rfl
              · rfl
              · rfl
              · rfl
              · rfl
              · rfl)
            (weak_ofR [0, 1, 2, 3, 4, 5, 6, 7, 8, 9, 10, 11] (by decide) (fun k hk x v w w' hp hr => by
              simp only [List.mem_cons, List.not_mem_nil, or_false] at hk
              rcases hk with rfl | rfl | rfl | rfl | rfl | rfl | rfl | rfl | rfl | rfl | rfl | rfl
              · exact hp
              · exact hp
              · exact hp
              · exact hp
              · exact hp
              · exact hp
              · exact hp
              · exact hp
              · exact hp
              · exact VLs.dr hp hr (by decide)
              · exact VLs.dr hp hr (by decide)
              · exact VLs.dr hp hr (by decide))) (fun j _ _ h hb => hb.either (fun hb => ⟨h.1.below hb h.1.lt, h.2.1.below hb, h.2.2.1.then hb, h.2.2.2.below hb⟩) (fun hr => ⟨h.1.dr hr (by decide), h.2.1.dr hr (by decide), h.2.2.1.trans hr, h.2.2.2.dr hr (by decide)⟩)) (⟨k5.drew, o5.below (Below.refl _ _).drew, d5.then (Below.refl _ _).drew, h5.below (Below.refl _ _).drew⟩) (fun x => ?_)
          refine obs_stepR (Eq.trans (by simp only [List.getElem?_toArray, List.getElem?_cons_zero]; exact rfl) rfl) rfl (fun w' hS hV K hK => ?_) ?_
          · obtain ⟨q0, q1⟩ := hS.1.two
            go_simp
            exact hK.out _ _ _ rfl rfl rfl (Below.refl _ _)
          simp only [List.setIfInBounds_toArray, List.set_cons_zero, List.set_cons_succ]
          refine obs_stepR (Eq.trans (by simp only [List.getElem?_toArray, List.getElem?_cons_succ, List.getElem?_cons_zero]; exact rfl) rfl) rfl (fun w' hS hV K hK => ?_) ?_
          · obtain ⟨q0, q1⟩ := hS.1.two
            go_simp
            exact hK.out _ _ _ rfl rfl rfl (Below.refl _ _)
          simp only [List.setIfInBounds_toArray, List.set_cons_zero, List.set_cons_succ]
          refine obs_stepR (Eq.trans (by simp only [List.getElem?_toArray, List.getElem?_cons_succ, List.getElem?_cons_zero]; exact rfl) rfl) rfl (fun w' hS hV K hK => ?_) ?_
          · obtain ⟨q0, q1⟩ := hS.1.two
            go_simp
            exact hK.out _ _ _ rfl rfl rfl (Below.refl _ _)
          simp only [List.setIfInBounds_toArray, List.set_cons_zero, List.set_cons_succ]
          refine obs_stepR (Eq.trans (by simp only [List.getElem?_toArray, List.getElem?_cons_succ, List.getElem?_cons_zero]; exact rfl) rfl) rfl (fun w' hS hV K hK => ?_) ?_
          · obtain ⟨q0, q1⟩ := hS.1.two
            go_simp
            exact hK.out _ _ _ rfl rfl rfl (Below.refl _ _)
          simp only [List.setIfInBounds_toArray, List.set_cons_zero, List.set_cons_succ]
          refine obs_stepR (Eq.trans (by simp only [List.getElem?_toArray, List.getElem?_cons_succ, List.getElem?_cons_zero]; exact rfl) rfl) rfl (fun w' hS hV K hK => ?_) ?_
          · obtain ⟨q0, q1⟩ := hS.1.two
            go_simp
            exact hK.out _ _ _ rfl rfl rfl (Below.refl _ _)
          simp only [List.setIfInBounds_toArray, List.set_cons_zero, List.set_cons_succ]
          refine obs_stepR (Eq.trans (by simp only [List.getElem?_toArray, List.getElem?_cons_succ, List.getElem?_cons_zero]; exact rfl) rfl) rfl (fun w' hS hV K hK => ?_) ?_
          · have e4 : x 4 = (.pointer (some ⟨w.heap.size, 0, none⟩)) := hV 4 (by decide)
            obtain ⟨q0, q1⟩ := hS.1.two
            go_simp
            exact hK.out _ _ _ rfl rfl rfl (Below.refl _ _)
          simp only [List.setIfInBounds_toArray, List.set_cons_zero, List.set_cons_succ]
          refine obs_stepR (Eq.trans (by simp only [List.getElem?_toArray, List.getElem?_cons_succ, List.getElem?_cons_zero]; exact rfl) rfl) rfl (fun w' hS hV K hK => ?_) ?_
          · obtain ⟨q0, q1⟩ := hS.1.two
            go_simp
            exact hK.out _ _ _ rfl rfl rfl (Below.refl _ _)
          simp only [List.setIfInBounds_toArray, List.set_cons_zero, List.set_cons_succ]
          refine obs_stepR (Eq.trans (by simp only [List.getElem?_toArray, List.getElem?_cons_succ, List.getElem?_cons_zero]; exact rfl) rfl) rfl (fun w' hS hV K hK => ?_) ?_
          · have e6 : x 6 = (.pointer (some ⟨w.heap.size, 1, none⟩)) := hV 6 (by decide)
            obtain ⟨q0, q1⟩ := hS.1.two
            go_simp
            exact hK.out _ _ _ rfl rfl rfl (Below.refl _ _)
          simp only [List.setIfInBounds_toArray, List.set_cons_zero, List.set_cons_succ]
          refine obs_stepR (Eq.trans (by simp only [List.getElem?_toArray, List.getElem?_cons_succ, List.getElem?_cons_zero]; exact rfl) rfl) rfl (fun w' hS hV K hK => ?_) ?_
          · have e6 : x 6 = (.pointer (some ⟨w.heap.size, 1, none⟩)) := hV 6 (by decide)
            have e7 : x 7 = (.slice A n c) := hV 7 (by decide)
            obtain ⟨q0, q1⟩ := hS.1.two
            go_simp
            exact hK.out _ _ _ rfl rfl rfl (Below.refl _ _)
          simp only [List.setIfInBounds_toArray, List.set_cons_zero, List.set_cons_succ]
          refine obs_stepR (Eq.trans (by simp only [List.getElem?_toArray, List.getElem?_cons_succ, List.getElem?_cons_zero]; exact rfl) rfl) rfl (fun w' hS hV K hK => ?_) ?_
          · have e3 : x 3 = (.pointer (some ⟨g, 0, none⟩)) := hV 3 (by decide)
            have e4 : x 4 = (.pointer (some ⟨w.heap.size, 0, none⟩)) := hV 4 (by decide)
            have e5 : x 5 = (.int .i64 (P)) := hV 5 (by decide)
            have e6 : x 6 = (.pointer (some ⟨w.heap.size, 1, none⟩)) := hV 6 (by decide)
            have e7 : x 7 = (.slice A n c) := hV 7 (by decide)
            have e8 : x 8 = (.int .i64 (n)) := hV 8 (by decide)
            obtain ⟨q0, q1⟩ := hS.1.two
            go_simp
            refine (nextList_any g P (n) w' hS.2.2.1.s' (by omega) (by omega)).mono ?_
            rintro e v1 ⟨A9, c9, xs9, rfl, hl9, hx9, ho9, hd9⟩
            exact hK.out _ _ _ rfl rfl ⟨_, _, xs9, rfl, hl9, nums_of (by omega) hx9, ho9.base hS.2.2.1.size⟩ hd9
          simp only [List.setIfInBounds_toArray, List.set_cons_zero, List.set_cons_succ]
          refine obs_stepR (Eq.trans (by simp only [List.getElem?_toArray, List.getElem?_cons_succ, List.getElem?_cons_zero]; exact rfl) rfl) rfl (fun w' hS hV K hK => ?_) ?_
          · have e2 : x 2 = (.agg #[.int .i64 P, .slice A n c]) := hV 2 (by decide)
            have e3 : x 3 = (.pointer (some ⟨g, 0, none⟩)) := hV 3 (by decide)
            have e4 : x 4 = (.pointer (some ⟨w.heap.size, 0, none⟩)) := hV 4 (by decide)
            have e5 : x 5 = (.int .i64 (P)) := hV 5 (by decide)
            have e6 : x 6 = (.pointer (some ⟨w.heap.size, 1, none⟩)) := hV 6 (by decide)
            have e7 : x 7 = (.slice A n c) := hV 7 (by decide)
            have e8 : x 8 = (.int .i64 (n)) := hV 8 (by decide)
            obtain ⟨A9, c9, X9, e9, l9, n9, h9⟩ := hV 9 (by decide)
            obtain ⟨q0, q1⟩ := hS.1.two
            go_simp
            refine (l04Vector_any P A n c A9 c9 X9 w' (by omega) h9.rd).mono ?_
            rintro e v1 ⟨A9, c9, rfl, hM⟩
            exact hK.out _ _ _ rfl rfl ⟨_, _, _, rfl, vecTo_len _ _ _, vecTo_nums (by omega) n X9 n9 n, hM.2.base hS.2.2.1.size⟩ hM.b
          simp only [List.setIfInBounds_toArray, List.set_cons_zero, List.set_cons_succ]
          refine obs_stepR (Eq.trans (by simp only [List.getElem?_toArray, List.getElem?_cons_succ, List.getElem?_cons_zero]; exact rfl) rfl) rfl (fun w' hS hV K hK => ?_) ?_
          · have e0 : x 0 = (.agg #[.int .i64 P, .slice A n c]) := hV 0 (by decide)
            have e1 : x 1 = (.slice A5 (pw n) c5) := hV 1 (by decide)
            have e2 : x 2 = (.agg #[.int .i64 P, .slice A n c]) := hV 2 (by decide)
            have e3 : x 3 = (.pointer (some ⟨g, 0, none⟩)) := hV 3 (by decide)
            have e4 : x 4 = (.pointer (some ⟨w.heap.size, 0, none⟩)) := hV 4 (by decide)
            have e5 : x 5 = (.int .i64 (P)) := hV 5 (by decide)
            have e6 : x 6 = (.pointer (some ⟨w.heap.size, 1, none⟩)) := hV 6 (by decide)
            have e7 : x 7 = (.slice A n c) := hV 7 (by decide)
            have e8 : x 8 = (.int .i64 (n)) := hV 8 (by decide)
            obtain ⟨A9, c9, X9, e9, l9, n9, h9⟩ := hV 9 (by decide)
            obtain ⟨A10, c10, X10, e10, l10, n10, h10⟩ := hV 10 (by decide)
            obtain ⟨q0, q1⟩ := hS.1.two
            go_simp
            refine (l04Times_any P A n c sq A5 c5 X5 A10 c10 X10 w' hp hp2 hn hS.2.1.rd HQ.out (hS.2.2.2.rd) HN5.out h10.rd n10).mono ?_
            rintro e v1 ⟨A9, c9, rfl, hM⟩
            exact hK.out _ _ _ rfl rfl ⟨_, _, _, rfl, by rw [prodL_len]; exact HL5.out, prodL_nums sq _ _ _ (by omega), hM.2.base hS.2.2.1.size⟩ hM.b
          simp only [List.setIfInBounds_toArray, List.set_cons_zero, List.set_cons_succ]
          refine fun w' hS hV => ?_
          have e0 : x 0 = (.agg #[.int .i64 P, .slice A n c]) := hV 0 (by decide)
          have e1 : x 1 = (.slice A5 (pw n) c5) := hV 1 (by decide)
          have e2 : x 2 = (.agg #[.int .i64 P, .slice A n c]) := hV 2 (by decide)
          have e3 : x 3 = (.pointer (some ⟨g, 0, none⟩)) := hV 3 (by decide)
          have e4 : x 4 = (.pointer (some ⟨w.heap.size, 0, none⟩)) := hV 4 (by decide)
          have e5 : x 5 = (.int .i64 (P)) := hV 5 (by decide)
          have e6 : x 6 = (.pointer (some ⟨w.heap.size, 1, none⟩)) := hV 6 (by decide)
          have e7 : x 7 = (.slice A n c) := hV 7 (by decide)
          have e8 : x 8 = (.int .i64 (n)) := hV 8 (by decide)
          obtain ⟨A9, c9, X9, e9, l9, n9, h9⟩ := hV 9 (by decide)
          obtain ⟨A10, c10, X10, e10, l10, n10, h10⟩ := hV 10 (by decide)
          obtain ⟨A11, c11, X11, e11, l11, n11, h11⟩ := hV 11 (by decide)
          simp only [e0, e1, e2, e3, e4, e5, e6, e7, e8, e9, e10, e11]
          clear e0 e1 e2 e3 e4 e5 e6 e7 e8 e9 e10 e11
          obtain ⟨k6, o6, d6, _⟩ := hS
          refine any_one (j := 12) (by kernel_rfl) (Eq.trans (by simp only [List.getElem?_toArray, List.getElem?_cons_succ, List.getElem?_cons_zero]; exact rfl) rfl) (fun K hK => ?_)
          go_simp
          refine hK.out _ _ (wpAny_done (by kernel_rfl) ?_ _)
          clear q0 q1 k5 o5 d5 h5
          go_wp2
          go_roundw
          case rel => exact ⟨m, _, _, X11, by omega, by go_num, rfl, l11, n11, h11, k6, o6, d6⟩
          case measure => simp [intOf]
    · have e1 : (r == 1) = false := by simp [h1]
      by_cases h2 : r = 2
      · have e2 : (r == 2) = true := by simp [h2]
        have hnx := next_any g ((n : Int) + 1) w3 d3.s' (by omega)
        have W1 : wrap64 ((n : Int) + 1) = (n : Int) + 1 := by unfold wrap64; omega
        obtain ⟨q0, q1⟩ := k3.two
        go_wp2_with fail
        refine hnx.mono ?_
        rintro e w4 ⟨rr, rfl, hr3, hr4, hd4⟩
        have hr5 := hr4 (by omega)
        obtain ⟨rn, rfl⟩ : ∃ rn : Nat, rr = rn := ⟨rr.toNat, by omega⟩
        have d4 := d3.trans hd4
        have k4 := k3.dr hd4 (by decide)
        have o4 := o3.dr hd4 (by decide)
        clear hnx d3 k3 o3 hd4 q0 q1
        obtain ⟨q0, q1⟩ := k4.two
        go_wp2
        refine wp_obsR 9 (Dr g 143) [[], [], [1], [], [3], [0, 1, 2, 3, 4], [], [0, 1, 2, 3, 4, 5, 6], [0, 1, 2, 3, 4, 5, 6, 7]] [[], [], [], [], [], [99], [], [], []] (fun x => [VIs (.pointer (some ⟨g, 0, none⟩)), VIs (.pointer (some ⟨w.heap.size, 0, none⟩)), VIs (.int .i64 (P)), VIs (.agg #[.int .i64 P, .slice A n c]), VIs (.int .i64 (pw n)), VLs w.heap.size (pw n) P, VIs (.int .i64 (rn)), VLs w.heap.size (pw n) P, VLs w.heap.size (pw n) P]) (fun w' => Blk w' w.heap.size 26 #[.int .i64 P, .slice A n c] ∧ Own w' 0 2 A n c (ints sq) ∧ Dr g 143 w w') (by kernel_rfl) (by kernel_rfl) (fun x x' j hx => by
            rcases j with _ | _ | _ | _ | _ | _ | _ | _ | _ | j
            · rfl
            · rfl
            · rfl
            · rfl
            · rfl
            · rfl
            · rfl
            · rfl
            · rfl
            · rfl)
          (weak_ofR [0, 1, 2, 3, 4, 5, 6, 7, 8] (by decide) (fun k hk x v w w' hp hr => by
            simp only [List.mem_cons, List.not_mem_nil, or_false] at hk
            rcases hk with rfl | rfl | rfl | rfl | rfl | rfl | rfl | rfl | rfl
            · exact hp
            · exact hp
            · exact hp
            · exact hp
            · exact hp
            · exact VLs.dr hp hr (by decide)
            · exact hp
            · exact VLs.dr hp hr (by decide)
            · exact VLs.dr hp hr (by decide))) (fun j _ _ h hb => hb.either (fun hb => ⟨h.1.below hb h.1.lt, h.2.1.below hb, h.2.2.then hb⟩) (fun hr => ⟨h.1.dr hr (by decide), h.2.1.dr hr (by decide), h.2.2.trans hr⟩)) (⟨k4.drew, o4.below (Below.refl _ _).drew, d4.then (Below.refl _ _).drew⟩) (fun x => ?_)
        refine obs_stepR (Eq.trans (by simp only [List.getElem?_toArray, List.getElem?_cons_zero]; exact rfl) rfl) rfl (fun w' hS hV K hK => ?_) ?_
        · obtain ⟨q0, q1⟩ := hS.1.two
          go_simp
          exact hK.out _ _ _ rfl rfl rfl (Below.refl _ _)
        simp only [List.setIfInBounds_toArray, List.set_cons_zero, List.set_cons_succ]
        refine obs_stepR (Eq.trans (by simp only [List.getElem?_toArray, List.getElem?_cons_succ, List.getElem?_cons_zero]; exact rfl) rfl) rfl (fun w' hS hV K hK => ?_) ?_
        · obtain ⟨q0, q1⟩ := hS.1.two
          go_simp
          exact hK.out _ _ _ rfl rfl rfl (Below.refl _ _)
        simp only [List.setIfInBounds_toArray, List.set_cons_zero, List.set_cons_succ]
        refine obs_stepR (Eq.trans (by simp only [List.getElem?_toArray, List.getElem?_cons_succ, List.getElem?_cons_zero]; exact rfl) rfl) rfl (fun w' hS hV K hK => ?_) ?_
        · have e1 : x 1 = (.pointer (some ⟨w.heap.size, 0, none⟩)) := hV 1 (by decide)
          obtain ⟨q0, q1⟩ := hS.1.two
          go_simp
          exact hK.out _ _ _ rfl rfl rfl (Below.refl _ _)
        simp only [List.setIfInBounds_toArray, List.set_cons_zero, List.set_cons_succ]
        refine obs_stepR (Eq.trans (by simp only [List.getElem?_toArray, List.getElem?_cons_succ, List.getElem?_cons_zero]; exact rfl) rfl) rfl (fun w' hS hV K hK => ?_) ?_
        · obtain ⟨q0, q1⟩ := hS.1.two
          go_simp
          exact hK.out _ _ _ rfl rfl rfl (Below.refl _ _)
        simp only [List.setIfInBounds_toArray, List.set_cons_zero, List.set_cons_succ]
        refine obs_stepR (Eq.trans (by simp only [List.getElem?_toArray, List.getElem?_cons_succ, List.getElem?_cons_zero]; exact rfl) rfl) rfl (fun w' hS hV K hK => ?_) ?_
        · have e3 : x 3 = (.agg #[.int .i64 P, .slice A n c]) := hV 3 (by decide)
          obtain ⟨q0, q1⟩ := hS.1.two
          go_simp
          refine (l04Size_any P A n c w' (by omega)).mono ?_
          rintro e v1 ⟨rfl, hb⟩
          exact hK.out _ _ _ rfl rfl rfl hb
        simp only [List.setIfInBounds_toArray, List.set_cons_zero, List.set_cons_succ]
        refine obs_stepR (Eq.trans (by simp only [List.getElem?_toArray, List.getElem?_cons_succ, List.getElem?_cons_zero]; exact rfl) rfl) rfl (fun w' hS hV K hK => ?_) ?_
        · have e0 : x 0 = (.pointer (some ⟨g, 0, none⟩)) := hV 0 (by decide)
          have e1 : x 1 = (.pointer (some ⟨w.heap.size, 0, none⟩)) := hV 1 (by decide)
          have e2 : x 2 = (.int .i64 (P)) := hV 2 (by decide)
          have e3 : x 3 = (.agg #[.int .i64 P, .slice A n c]) := hV 3 (by decide)
          have e4 : x 4 = (.int .i64 (pw n)) := hV 4 (by decide)
          obtain ⟨q0, q1⟩ := hS.1.two
          go_simp
          refine (nextList_any g P (pw n) w' hS.2.2.s' (by omega) (by omega)).mono ?_
          rintro e v1 ⟨A9, c9, xs9, rfl, hl9, hx9, ho9, hd9⟩
          exact hK.out _ _ _ rfl rfl ⟨_, _, xs9, rfl, hl9, nums_of (by omega) hx9, ho9.base hS.2.2.size⟩ hd9
        simp only [List.setIfInBounds_toArray, List.set_cons_zero, List.set_cons_succ]
        refine obs_stepR (Eq.trans (by simp only [List.getElem?_toArray, List.getElem?_cons_succ, List.getElem?_cons_zero]; exact rfl) rfl) rfl (fun w' hS hV K hK => ?_) ?_
        · obtain ⟨q0, q1⟩ := hS.1.two
          go_simp
          exact hK.out _ _ _ rfl rfl rfl (Below.refl _ _)
        simp only [List.setIfInBounds_toArray, List.set_cons_zero, List.set_cons_succ]
        refine obs_stepR (Eq.trans (by simp only [List.getElem?_toArray, List.getElem?_cons_succ, List.getElem?_cons_zero]; exact rfl) rfl) rfl (fun w' hS hV K hK => ?_) ?_
        · have e0 : x 0 = (.pointer (some ⟨g, 0, none⟩)) := hV 0 (by decide)
          have e1 : x 1 = (.pointer (some ⟨w.heap.size, 0, none⟩)) := hV 1 (by decide)
          have e2 : x 2 = (.int .i64 (P)) := hV 2 (by decide)
          have e3 : x 3 = (.agg #[.int .i64 P, .slice A n c]) := hV 3 (by decide)
          have e4 : x 4 = (.int .i64 (pw n)) := hV 4 (by decide)
          obtain ⟨A5, c5, X5, e5, l5, n5, h5⟩ := hV 5 (by decide)
          have e6 : x 6 = (.int .i64 (rn)) := hV 6 (by decide)
          obtain ⟨q0, q1⟩ := hS.1.two
          go_simp
          refine (l04Part_any A5 (pw n) c5 X5 rn w' (by omega) (by omega) h5.rd).mono ?_
          rintro e v1 ⟨A9, c9, rfl, hM⟩
          exact hK.out _ _ _ rfl rfl ⟨_, _, _, rfl, by rw [partG_len]; exact l5, partG_nums (by omega) n5 _, hM.2.base hS.2.2.size⟩ hM.b
        simp only [List.setIfInBounds_toArray, List.set_cons_zero, List.set_cons_succ]
        refine obs_stepR (Eq.trans (by simp only [List.getElem?_toArray, List.getElem?_cons_succ, List.getElem?_cons_zero]; exact rfl) rfl) rfl (fun w' hS hV K hK => ?_) ?_
        · have e0 : x 0 = (.pointer (some ⟨g, 0, none⟩)) := hV 0 (by decide)
          have e1 : x 1 = (.pointer (some ⟨w.heap.size, 0, none⟩)) := hV 1 (by decide)
          have e2 : x 2 = (.int .i64 (P)) := hV 2 (by decide)
          have e3 : x 3 = (.agg #[.int .i64 P, .slice A n c]) := hV 3 (by decide)
          have e4 : x 4 = (.int .i64 (pw n)) := hV 4 (by decide)
          obtain ⟨A5, c5, X5, e5, l5, n5, h5⟩ := hV 5 (by decide)
          have e6 : x 6 = (.int .i64 (rn)) := hV 6 (by decide)
          obtain ⟨A7, c7, X7, e7, l7, n7, h7⟩ := hV 7 (by decide)
          obtain ⟨q0, q1⟩ := hS.1.two
          go_simp
          exact hK.out _ _ _ rfl rfl ⟨_, _, X7, rfl, l7, n7, h7⟩ (Below.refl _ _)
        simp only [List.setIfInBounds_toArray, List.set_cons_zero, List.set_cons_succ]
        refine fun w' hS hV => ?_
        have e0 : x 0 = (.pointer (some ⟨g, 0, none⟩)) := hV 0 (by decide)
        have e1 : x 1 = (.pointer (some ⟨w.heap.size, 0, none⟩)) := hV 1 (by decide)
        have e2 : x 2 = (.int .i64 (P)) := hV 2 (by decide)
        have e3 : x 3 = (.agg #[.int .i64 P, .slice A n c]) := hV 3 (by decide)
        have e4 : x 4 = (.int .i64 (pw n)) := hV 4 (by decide)
        obtain ⟨A5, c5, X5, e5, l5, n5, h5⟩ := hV 5 (by decide)
        have e6 : x 6 = (.int .i64 (rn)) := hV 6 (by decide)
        obtain ⟨A7, c7, X7, e7, l7, n7, h7⟩ := hV 7 (by decide)
        obtain ⟨A8, c8, X8, e8, l8, n8, h8⟩ := hV 8 (by decide)
        simp only [e0, e1, e2, e3, e4, e5, e6, e7, e8]
        clear e0 e1 e2 e3 e4 e5 e6 e7 e8
        refine wpAny_done (by kernel_rfl) ?_ _
        obtain ⟨_, _, d9⟩ := hS
        go_wp2
        go_ret
        exact ⟨_, _, rfl, ⟨X8, h8⟩, d9⟩
      · have e2 : (r == 2) = false := by simp [h2]
        by_cases h3 : r = 3
        · have e3 : (r == 3) = true := by simp [h3]
          rcases hO3.form with ⟨_, hzz⟩ | ⟨g2, rfl, hga, hgb⟩
          · omega
          have hnx := next_any g 4 w3 d3.s' (by omega)
          go_wp2_with fail
          refine hnx.mono ?_
          rintro e w5 ⟨rr, rfl, hr3, hr4, hd5⟩
          obtain ⟨rn, rfl⟩ : ∃ rn : Nat, rr = rn := ⟨rr.toNat, by omega⟩
          have d5 := d3.trans hd5
          have k5 := k3.dr hd5 (by decide)
          have o5 := o3.dr hd5 (by decide)
          have h5 := hO3.dr hd5 (by decide)
          clear hnx d3 k3 o3 hO3 hd5
          go_wp2
          go_loopw [8] (fun q wr => ∃ (m : Nat) (X5 : List Int), m ≤ 4 ∧ q = .int .i64 m ∧ Own wr w.heap.size 2 (some ⟨g2, 0, none⟩) (pw n) c2 (ints X5) ∧ Blk wr w.heap.size 26 #[.int .i64 P, .slice A n c] ∧ Own wr 0 2 A n c (ints sq) ∧ Dr g 143 w wr) (fun q _ => (intOf q).toNat)
          case atStart => exact ⟨rn, _, by omega, rfl, h5, k5, o5, d5⟩
          case round =>
            clear h5 k5 o5 d5
            obtain ⟨m, X5, hm4, rfl, h5, k5, o5, d5⟩ := hrel
            cases m with
            | zero =>
              go_wp2
              go_ret
              exact ⟨_, _, rfl, ⟨X5, h5⟩, d5⟩
            | succ m =>
              have d1 : decide (0 < ((m + 1 : Nat) : Int)) = true := by rw [decide_eq_true_eq]; omega
              have WM : wrap64 (((m + 1 : Nat) : Int) - 1) = (m : Int) := by unfold wrap64; omega
              obtain ⟨q0, q1⟩ := k5.two
              go_wp2
              refine wp_obsR 10 (Dr g 143) [[], [], [], [2], [1, 2, 3], [], [], [6], [1, 2, 3, 4, 5, 6, 7], [0, 1, 2, 3, 4], [0, 1, 2, 3, 4, 5, 6, 7, 8, 9]] [[], [], [], [], [99], [], [], [], [99], []] (fun x => [VIs (.slice (some ⟨g2, 0, none⟩) (pw n) c2), VIs (.pointer (some ⟨g, 0, none⟩)), VIs (.agg #[.int .i64 P, .slice A n c]), VIs (.int .i64 (pw n)), VIx (pw n), VIs (.pointer (some ⟨g, 0, none⟩)), VIs (.pointer (some ⟨w.heap.size, 0, none⟩)), VIs (.int .i64 (P)), VNum, VPt g2 (pw n) (x 4)]) (fun w' => Blk w' w.heap.size 26 #[.int .i64 P, .slice A n c] ∧ Own w' 0 2 A n c (ints sq) ∧ Dr g 143 w w' ∧ Own w' w.heap.size 2 (some ⟨g2, 0, none⟩) (pw n) c2 (ints X5)) (by kernel_rfl) (by kernel_rfl) (fun x x' j hx => by
                  rcases j with _ | _ | _ | _ | _ | _ | _ | _ | _ | _ | j
                  · rfl
                  · rfl
                  · rfl
                  · rfl
                  · rfl
                  · rfl
                  · rfl
                  · rfl
                  · rfl
                  · rw [hx 4 (by decide)]
                  · rfl)
                (weak_ofR [0, 1, 2, 3, 4, 5, 6, 7, 8, 9] (by decide) (fun k hk x v w w' hp hr => by
                  simp only [List.mem_cons, List.not_mem_nil, or_false] at hk
                  rcases hk with rfl | rfl | rfl | rfl | rfl | rfl | rfl | rfl | rfl | rfl
                  · exact hp
                  · exact hp
                  · exact hp
                  · exact hp
                  · exact hp
                  · exact hp
                  · exact hp
                  · exact hp
                  · exact hp
                  · exact hp)) (fun j _ _ h hb => hb.either (fun hb => ⟨h.1.below hb h.1.lt, h.2.1.below hb, h.2.2.1.then hb, h.2.2.2.below hb⟩) (fun hr => ⟨h.1.dr hr (by decide), h.2.1.dr hr (by decide), h.2.2.1.trans hr, h.2.2.2.dr hr (by decide)⟩)) (⟨k5.drew, o5.below (Below.refl _ _).drew, d5.then (Below.refl _ _).drew, h5.below (Below.refl _ _).drew⟩) (fun x => ?_)
              refine obs_stepR (Eq.trans (by simp only [List.getElem?_toArray, List.getElem?_cons_zero]; exact rfl) rfl) rfl (fun w' hS hV K hK => ?_) ?_
              · obtain ⟨q0, q1⟩ := hS.1.two
                go_simp
                exact hK.out _ _ _ rfl rfl rfl (Below.refl _ _)
              simp only [List.setIfInBounds_toArray, List.set_cons_zero, List.set_cons_succ]
              refine obs_stepR (Eq.trans (by simp only [List.getElem?_toArray, List.getElem?_cons_succ, List.getElem?_cons_zero]; exact rfl) rfl) rfl (fun w' hS hV K hK => ?_) ?_
              · obtain ⟨q0, q1⟩ := hS.1.two
                go_simp
                exact hK.out _ _ _ rfl rfl rfl (Below.refl _ _)
              simp only [List.setIfInBounds_toArray, List.set_cons_zero, List.set_cons_succ]
              refine obs_stepR (Eq.trans (by simp only [List.getElem?_toArray, List.getElem?_cons_succ, List.getElem?_cons_zero]; exact rfl) rfl) rfl (fun w' hS hV K hK => ?_) ?_
              · obtain ⟨q0, q1⟩ := hS.1.two
                go_simp
                exact hK.out _ _ _ rfl rfl rfl (Below.refl _ _)
              simp only [List.setIfInBounds_toArray, List.set_cons_zero, List.set_cons_succ]
              refine obs_stepR (Eq.trans (by simp only [List.getElem?_toArray, List.getElem?_cons_succ, List.getElem?_cons_zero]; exact rfl) rfl) rfl (fun w' hS hV K hK => ?_) ?_
              · have e2 : x 2 = (.agg #[.int .i64 P, .slice A n c]) := hV 2 (by decide)
                obtain ⟨q0, q1⟩ := hS.1.two
                go_simp
                refine (l04Size_any P A n c w' (by omega)).mono ?_
                rintro e v1 ⟨rfl, hb⟩
                exact hK.out _ _ _ rfl rfl rfl hb
              simp only [List.setIfInBounds_toArray, List.set_cons_zero, List.set_cons_succ]
              refine obs_stepR (Eq.trans (by simp only [List.getElem?_toArray, List.getElem?_cons_succ, List.getElem?_cons_zero]; exact rfl) rfl) rfl (fun w' hS hV K hK => ?_) ?_
              · have e1 : x 1 = (.pointer (some ⟨g, 0, none⟩)) := hV 1 (by decide)
                have e2 : x 2 = (.agg #[.int .i64 P, .slice A n c]) := hV 2 (by decide)
                have e3 : x 3 = (.int .i64 (pw n)) := hV 3 (by decide)
                obtain ⟨q0, q1⟩ := hS.1.two
                go_simp
                refine (next_any g ((pw n : Nat) : Int) w' hS.2.2.1.s' (by omega)).mono ?_
                rintro e v1 ⟨rr, rfl, t1, t2, hd9⟩
                have t3 := t2 (by omega)
                obtain ⟨rn2, rfl⟩ : ∃ k : Nat, rr = k := ⟨rr.toNat, by omega⟩
                exact hK.out _ _ _ rfl rfl ⟨rn2, rfl, by omega⟩ hd9
              simp only [List.setIfInBounds_toArray, List.set_cons_zero, List.set_cons_succ]
              refine obs_stepR (Eq.trans (by simp only [List.getElem?_toArray, List.getElem?_cons_succ, List.getElem?_cons_zero]; exact rfl) rfl) rfl (fun w' hS hV K hK => ?_) ?_
              · obtain ⟨q0, q1⟩ := hS.1.two
                go_simp
                exact hK.out _ _ _ rfl rfl rfl (Below.refl _ _)
              simp only [List.setIfInBounds_toArray, List.set_cons_zero, List.set_cons_succ]
              refine obs_stepR (Eq.trans (by simp only [List.getElem?_toArray, List.getElem?_cons_succ, List.getElem?_cons_zero]; exact rfl) rfl) rfl (fun w' hS hV K hK => ?_) ?_
              · obtain ⟨q0, q1⟩ := hS.1.two
                go_simp
                exact hK.out _ _ _ rfl rfl rfl (Below.refl _ _)
              simp only [List.setIfInBounds_toArray, List.set_cons_zero, List.set_cons_succ]
              refine obs_stepR (Eq.trans (by simp only [List.getElem?_toArray, List.getElem?_cons_succ, List.getElem?_cons_zero]; exact rfl) rfl) rfl (fun w' hS hV K hK => ?_) ?_
              · have e6 : x 6 = (.pointer (some ⟨w.heap.size, 0, none⟩)) := hV 6 (by decide)
                obtain ⟨q0, q1⟩ := hS.1.two
                go_simp
                exact hK.out _ _ _ rfl rfl rfl (Below.refl _ _)
              simp only [List.setIfInBounds_toArray, List.set_cons_zero, List.set_cons_succ]
              refine obs_stepR (Eq.trans (by simp only [List.getElem?_toArray, List.getElem?_cons_succ, List.getElem?_cons_zero]; exact rfl) rfl) rfl (fun w' hS hV K hK => ?_) ?_
              · have e1 : x 1 = (.pointer (some ⟨g, 0, none⟩)) := hV 1 (by decide)
                have e2 : x 2 = (.agg #[.int .i64 P, .slice A n c]) := hV 2 (by decide)
                have e3 : x 3 = (.int .i64 (pw n)) := hV 3 (by decide)
                obtain ⟨rx, e4, lx⟩ := hV 4 (by decide)
                have e5 : x 5 = (.pointer (some ⟨g, 0, none⟩)) := hV 5 (by decide)
                have e6 : x 6 = (.pointer (some ⟨w.heap.size, 0, none⟩)) := hV 6 (by decide)
                have e7 : x 7 = (.int .i64 (P)) := hV 7 (by decide)
                obtain ⟨q0, q1⟩ := hS.1.two
                go_simp
                refine (next_any g P w' hS.2.2.1.s' (by omega)).mono ?_
                rintro e v1 ⟨rr, rfl, t1, t2, hd9⟩
                exact hK.out _ _ _ rfl rfl ⟨_, rfl⟩ hd9
              simp only [List.setIfInBounds_toArray, List.set_cons_zero, List.set_cons_succ]
              refine obs_stepR (Eq.trans (by simp only [List.getElem?_toArray, List.getElem?_cons_succ, List.getElem?_cons_zero]; exact rfl) rfl) rfl (fun w' hS hV K hK => ?_) ?_
              · have e0 : x 0 = (.slice (some ⟨g2, 0, none⟩) (pw n) c2) := hV 0 (by decide)
                have e1 : x 1 = (.pointer (some ⟨g, 0, none⟩)) := hV 1 (by decide)
                have e2 : x 2 = (.agg #[.int .i64 P, .slice A n c]) := hV 2 (by decide)
                have e3 : x 3 = (.int .i64 (pw n)) := hV 3 (by decide)
                obtain ⟨rx, e4, lx⟩ := hV 4 (by decide)
                obtain ⟨q0, q1⟩ := hS.1.two
                have b1 : (0 : Int) ≤ (rx : Int) := by omega
                have b2 : (rx : Int) < ((pw n : Nat) : Int) := by omega
                go_simp
                exact hK.out _ _ _ rfl rfl ⟨rx, e4, lx, rfl⟩ (Below.refl _ _)
              simp only [List.setIfInBounds_toArray, List.set_cons_zero, List.set_cons_succ]
              refine fun w' hS hV => ?_
              have e0 : x 0 = (.slice (some ⟨g2, 0, none⟩) (pw n) c2) := hV 0 (by decide)
              have e1 : x 1 = (.pointer (some ⟨g, 0, none⟩)) := hV 1 (by decide)
              have e2 : x 2 = (.agg #[.int .i64 P, .slice A n c]) := hV 2 (by decide)
              have e3 : x 3 = (.int .i64 (pw n)) := hV 3 (by decide)
              obtain ⟨rx, e4, lx⟩ := hV 4 (by decide)
              have e5 : x 5 = (.pointer (some ⟨g, 0, none⟩)) := hV 5 (by decide)
              have e6 : x 6 = (.pointer (some ⟨w.heap.size, 0, none⟩)) := hV 6 (by decide)
              have e7 : x 7 = (.int .i64 (P)) := hV 7 (by decide)
              obtain ⟨rv, e8⟩ := hV 8 (by decide)
              obtain ⟨ry, f9, ly, e9⟩ := hV 9 (by decide)
              simp only [e0, e1, e2, e3, e4, e5, e6, e7, e8, e9]
              clear e0 e1 e2 e3 e4 e5 e6 e7 e8 e9
              obtain ⟨k6, o6, d6, h6⟩ := hS
              obtain ⟨w6, rfl⟩ : ∃ W, W = w' := ⟨_, rfl⟩
              obtain ⟨u1, hc1⟩ := h6.cellI ly
              have hf1 := h6.frozen_ ry
              refine any_one (j := 10) (by kernel_rfl) (Eq.trans (by simp only [List.getElem?_toArray, List.getElem?_cons_succ, List.getElem?_cons_zero]; exact rfl) rfl) (fun K hK => ?_)
              go_simp
              refine hK.out _ _ (wpAny_done (by kernel_rfl) ?_ _)
              obtain ⟨h7, hg7⟩ := h6.set_ ry (.int .i64 rv)
              rw [ints_set] at h7
              have k7 := k6.grown hg7 (h6.ne_blk k6 (by decide))
              have d7 := d6.grown h6 hg7
              have o7 := o6.grown hg7 (by
                cases hbk : (Value.slice A n c).ownBlock with
                | none => exact .inl rfl
                | some gb => right; intro e; have := hSQ gb hbk; injection e with e; omega)
              clear k6 o6 d6 h6 hg7 hc1 hf1 k5 o5 d5 h5 q0 q1
              go_wp2
              go_roundw
              case rel => exact ⟨m, _, by omega, by go_num, h7, k7, o7, d7⟩
              case measure => simp [intOf]
        · have e3 : (r == 3) = false := by simp [h3]
          obtain ⟨q0, q1⟩ := k3.two
          go_wp2
          refine wp_obsR 7 (Dr g 143) [[], [], [1], [], [3], [0, 1, 2, 3, 4], [0, 1, 2, 3, 4, 5]] [[], [], [], [], [], [99], []] (fun x => [VIs (.pointer (some ⟨g, 0, none⟩)), VIs (.pointer (some ⟨w.heap.size, 0, none⟩)), VIs (.int .i64 (P)), VIs (.agg #[.int .i64 P, .slice A n c]), VIs (.int .i64 (pw n)), VLs w.heap.size (pw n) P, VLs w.heap.size (pw n) P]) (fun w' => Blk w' w.heap.size 26 #[.int .i64 P, .slice A n c] ∧ Own w' 0 2 A n c (ints sq) ∧ Dr g 143 w w') (by kernel_rfl) (by kernel_rfl) (fun x x' j hx => by
              rcases j with _ | _ | _ | _ | _ | _ | _ | j
              · rfl
              · rfl
              · rfl
              · rfl
              · rfl
              · rfl
              · rfl
              · rfl)
            (weak_ofR [0, 1, 2, 3, 4, 5, 6] (by decide) (fun k hk x v w w' hp hr => by
              simp only [List.mem_cons, List.not_mem_nil, or_false] at hk
              rcases hk with rfl | rfl | rfl | rfl | rfl | rfl | rfl
              · exact hp
              · exact hp
              · exact hp
              · exact hp
              · exact hp
              · exact VLs.dr hp hr (by decide)
              · exact VLs.dr hp hr (by decide))) (fun j _ _ h hb => hb.either (fun hb => ⟨h.1.below hb h.1.lt, h.2.1.below hb, h.2.2.then hb⟩) (fun hr => ⟨h.1.dr hr (by decide), h.2.1.dr hr (by decide), h.2.2.trans hr⟩)) (⟨k3.drew, o3.below (Below.refl _ _).drew, d3.then (Below.refl _ _).drew⟩) (fun x => ?_)
          refine obs_stepR (Eq.trans (by simp only [List.getElem?_toArray, List.getElem?_cons_zero]; exact rfl) rfl) rfl (fun w' hS hV K hK => ?_) ?_
          · obtain ⟨q0, q1⟩ := hS.1.two
            go_simp
            exact hK.out _ _ _ rfl rfl rfl (Below.refl _ _)
          simp only [List.setIfInBounds_toArray, List.set_cons_zero, List.set_cons_succ]
          refine obs_stepR (Eq.trans (by simp only [List.getElem?_toArray, List.getElem?_cons_succ, List.getElem?_cons_zero]; exact rfl) rfl) rfl (fun w' hS hV K hK => ?_) ?_
          · obtain ⟨q0, q1⟩ := hS.1.two
            go_simp
            exact hK.out _ _ _ rfl rfl rfl (Below.refl _ _)
          simp only [List.setIfInBounds_toArray, List.set_cons_zero, List.set_cons_succ]
          refine obs_stepR (Eq.trans (by simp only [List.getElem?_toArray, List.getElem?_cons_succ, List.getElem?_cons_zero]; exact rfl) rfl) rfl (fun w' hS hV K hK => ?_) ?_
          · have e1 : x 1 = (.pointer (some ⟨w.heap.size, 0, none⟩)) := hV 1 (by decide)
            obtain ⟨q0, q1⟩ := hS.1.two
            go_simp
            exact hK.out _ _ _ rfl rfl rfl (Below.refl _ _)
          simp only [List.setIfInBounds_toArray, List.set_cons_zero, List.set_cons_succ]
          refine obs_stepR (Eq.trans (by simp only [List.getElem?_toArray, List.getElem?_cons_succ, List.getElem?_cons_zero]; exact rfl) rfl) rfl (fun w' hS hV K hK => ?_) ?_
          · obtain ⟨q0, q1⟩ := hS.1.two
            go_simp
            exact hK.out _ _ _ rfl rfl rfl (Below.refl _ _)
          simp only [List.setIfInBounds_toArray, List.set_cons_zero, List.set_cons_succ]
          refine obs_stepR (Eq.trans (by simp only [List.getElem?_toArray, List.getElem?_cons_succ, List.getElem?_cons_zero]; exact rfl) rfl) rfl (fun w' hS hV K hK => ?_) ?_
          · have e3 : x 3 = (.agg #[.int .i64 P, .slice A n c]) := hV 3 (by decide)
            obtain ⟨q0, q1⟩ := hS.1.two
            go_simp
            refine (l04Size_any P A n c w' (by omega)).mono ?_
            rintro e v1 ⟨rfl, hb⟩
            exact hK.out _ _ _ rfl rfl rfl hb
          simp only [List.setIfInBounds_toArray, List.set_cons_zero, List.set_cons_succ]
          refine obs_stepR (Eq.trans (by simp only [List.getElem?_toArray, List.getElem?_cons_succ, List.getElem?_cons_zero]; exact rfl) rfl) rfl (fun w' hS hV K hK => ?_) ?_
          · have e0 : x 0 = (.pointer (some ⟨g, 0, none⟩)) := hV 0 (by decide)
            have e1 : x 1 = (.pointer (some ⟨w.heap.size, 0, none⟩)) := hV 1 (by decide)
            have e2 : x 2 = (.int .i64 (P)) := hV 2 (by decide)
            have e3 : x 3 = (.agg #[.int .i64 P, .slice A n c]) := hV 3 (by decide)
            have e4 : x 4 = (.int .i64 (pw n)) := hV 4 (by decide)
            obtain ⟨q0, q1⟩ := hS.1.two
            go_simp
            refine (nextList_any g P (pw n) w' hS.2.2.s' (by omega) (by omega)).mono ?_
            rintro e v1 ⟨A9, c9, xs9, rfl, hl9, hx9, ho9, hd9⟩
            exact hK.out _ _ _ rfl rfl ⟨_, _, xs9, rfl, hl9, nums_of (by omega) hx9, ho9.base hS.2.2.size⟩ hd9
          simp only [List.setIfInBounds_toArray, List.set_cons_zero, List.set_cons_succ]
          refine obs_stepR (Eq.trans (by simp only [List.getElem?_toArray, List.getElem?_cons_succ, List.getElem?_cons_zero]; exact rfl) rfl) rfl (fun w' hS hV K hK => ?_) ?_
          · have e0 : x 0 = (.pointer (some ⟨g, 0, none⟩)) := hV 0 (by decide)
            have e1 : x 1 = (.pointer (some ⟨w.heap.size, 0, none⟩)) := hV 1 (by decide)
            have e2 : x 2 = (.int .i64 (P)) := hV 2 (by decide)
            have e3 : x 3 = (.agg #[.int .i64 P, .slice A n c]) := hV 3 (by decide)
            have e4 : x 4 = (.int .i64 (pw n)) := hV 4 (by decide)
            obtain ⟨A5, c5, X5, e5, l5, n5, h5⟩ := hV 5 (by decide)
            obtain ⟨q0, q1⟩ := hS.1.two
            go_simp
            exact hK.out _ _ _ rfl rfl ⟨_, _, X5, rfl, l5, n5, h5⟩ (Below.refl _ _)
          simp only [List.setIfInBounds_toArray, List.set_cons_zero, List.set_cons_succ]
          refine fun w' hS hV => ?_
          have e0 : x 0 = (.pointer (some ⟨g, 0, none⟩)) := hV 0 (by decide)
          have e1 : x 1 = (.pointer (some ⟨w.heap.size, 0, none⟩)) := hV 1 (by decide)
          have e2 : x 2 = (.int .i64 (P)) := hV 2 (by decide)
          have e3 : x 3 = (.agg #[.int .i64 P, .slice A n c]) := hV 3 (by decide)
          have e4 : x 4 = (.int .i64 (pw n)) := hV 4 (by decide)
          obtain ⟨A5, c5, X5, e5, l5, n5, h5⟩ := hV 5 (by decide)
          obtain ⟨A6, c6, X6, e6, l6, n6, h6⟩ := hV 6 (by decide)
          simp only [e0, e1, e2, e3, e4, e5, e6]
          clear e0 e1 e2 e3 e4 e5 e6
          refine wpAny_done (by kernel_rfl) ?_ _
          obtain ⟨_, _, d9⟩ := hS
          go_wp2
          go_ret
          exact ⟨_, _, rfl, ⟨X6, h6⟩, d9⟩
end Go.Proofs.YtggigolkncckoaaGreat
namespace Go.Proofs.YtggigolkncckoaaGreat
open Go.RowKit
theorem nums_drawn {P : Int} {xs : List Int} (h : nums P xs = true) : NumsL P xs := fun x hx => by
  have := List.all_eq_true.1 h x hx
  simp [inR] at this
  omega
set_option maxHeartbeats 6400000 in
set_option maxRecDepth 8000 in
theorem l04Spoil_any (g : Nat) (P : Int) (A : Option Addr) (n c : Nat) (sq : List Int) (w : World) (hs : Src w g 143) (hn : n ≤ 1048576) (ho : Own w 0 2 A n c (ints sq)) :
    Calls Tryz.prog 176 #[.pointer (some ⟨g, 0, none⟩), .agg #[.int .i64 P, .slice A n c]] w fun e w' => ∃ (A' : Option Addr) (m c' : Nat), e = .returned (.slice A' m c') ∧ m ≤ 100 ∧ (∃ xs : List Int, Own w' w.heap.size 2 A' m c' (ints xs)) ∧ Dr g 143 w w' := by
  have hsl : sq.length = n := ho.rd.lenI
  have k0 : Blk (w.alloc (.cells #[.int .i64 P, .slice A n c] 26)) w.heap.size 26 #[.int .i64 P, .slice A n c] := Blk.new _ _ _
  have d0 := (Dr.refl hs).alloc (.cells #[.int .i64 P, .slice A n c] 26)
  have o0 := ho.below ((Below.refl _ _).alloc (Nat.le_refl _) (.cells #[.int .i64 P, .slice A n c] 26))
  have hSQ : ∀ gb, (Value.slice A n c).ownBlock = some gb → gb < w.heap.size := fun gb e => (World.ownsRow.lt ho gb e).2
  cases h1 : isSp P sq
  · have H1 := Lib.hid h1
    clear h1
    go_enter Tryz.func176, Tryz.ntmps176
    go_wp2_with fail
    refine (l03Is_b _ _ _ _ _ _ (by omega) o0.rd H1.out).mono ?_
    rintro e w2 ⟨rfl, hb⟩
    have d2 := d0.then hb
    have hM := (Mk.lit (E := 2) (Below.refl w2.heap.size w2) #[.int .i64 1, .int .i64 0] (by simp [maxLen])).2.base (B' := w.heap.size) d2.size
    have d3 := d2.alloc (.cells #[.int .i64 1, .int .i64 0] 2)
    clear hb d2 d0 o0 k0
    go_wp2
    go_ret
    exact ⟨_, 2, _, rfl, by omega, ⟨[1, 0], by simpa [ints] using hM⟩, d3⟩
  · obtain ⟨hP, hn1, hn2, hq⟩ := isSp_dim h1
    obtain ⟨hp3, hp2⟩ := isP_ge hP
    have HQ := Lib.hid (nums_drawn hq)
    have H1 := Lib.hid h1
    rw [hsl] at hn1 hn2
    have hpw : pw n ≤ 64 := pw_le hn2
    have hpn := pw_pos n
    clear h1 hP hq
    go_enter Tryz.func176, Tryz.ntmps176
    go_wp2_with fail
    refine (l03Is_b _ _ _ _ _ _ (by omega) o0.rd H1.out).mono ?_
    rintro e w2 ⟨rfl, hb⟩
    have d2 := d0.then hb
    have k2 := k0.below hb k0.lt
    have o2 := o0.below hb
    have hdr := l04Draw_any g P A n c sq w2 d2.s' (by omega) hp2 hn2 hn1 o2 HQ.out
    clear hb d0 o0 k0
    obtain ⟨q0, q1⟩ := k2.two
    go_wp2_with fail
    refine hdr.mono ?_
    rintro e w3 ⟨A2, c2, rfl, ⟨X5, h3⟩, hd3⟩
    have d3 := d2.trans hd3
    have k3 := k2.dr hd3 (by decide)
    have o3 := o2.dr hd3 (by decide)
    have h3' := h3.base (B' := w.heap.size) d2.size
    have hnx := next_any g 30 w3 d3.s' (by omega)
    clear hdr d2 k2 o2 h3 hd3 q0 q1
    go_wp2_with fail
    refine hnx.mono ?_
    rintro e w4 ⟨r, rfl, hr1, hr2, hd4⟩
    have d5 := d3.trans hd4
    have k5 := k3.dr hd4 (by decide)
    have o5 := o3.dr hd4 (by decide)
    have h5 := h3'.dr hd4 (by decide)
    clear hnx d3 k3 o3 h3' hd4
    by_cases h0 : r = 0
    · have e0 : (r == 0) = true := by simp [h0]
      have H5 := Lib.hid h5
      clear h5
      go_wp2_with (first
        | (at_builtin; (refine wpList_app1 (cutW w4 w.heap.size) w4 24 2 _ _ Tryz.underlying24 info_i rfl (by omega) rfl _ _ rfl A2 (pw n) c2 _ _ (H5.out.mk_ d5.size) (by omega) rfl rfl rfl ?_; intro A9 c9 w9 hM9 hg9 _)))
      have hO9 := hM9.own_ (cutW_size d5.size)
      have d9 := d5.grown H5.out hg9
      clear hM9 hg9
      go_wp2
      go_ret
      exact ⟨A9, pw n + 1, c9, rfl, by omega, ⟨X5 ++ [0], by simpa [ints] using hO9⟩, d9⟩
    · have e0 : (r == 0) = false := by simp [h0]
      by_cases h1 : r = 1
      · have e1 : (r == 1) = true := by simp [h1]
        rcases h5.form with ⟨_, hzz⟩ | ⟨g2, rfl, hga, hgb⟩
        · omega
        obtain ⟨q0, q1⟩ := k5.two
        go_wp2
        refine wp_obsR 11 (Dr g 143) [[], [], [], [2], [1, 2, 3], [], [], [6], [6, 7], [1, 2, 3, 4, 5, 6, 7, 8], [0, 1, 2, 3, 4], [0, 1, 2, 3, 4, 5, 6, 7, 8, 9, 10]] [[], [], [], [], [99], [], [], [], [], [8], []] (fun x => [VIs (.slice (some ⟨g2, 0, none⟩) (pw n) c2), VIs (.pointer (some ⟨g, 0, none⟩)), VIs (.agg #[.int .i64 P, .slice A n c]), VIs (.int .i64 (pw n)), VIx (pw n), VIs (.pointer (some ⟨g, 0, none⟩)), VIs (.pointer (some ⟨w.heap.size, 0, none⟩)), VIs (.int .i64 (P)), VBs 2 #[.int .i64 (-1), .int .i64 P], VNum, VPt g2 (pw n) (x 4)]) (fun w' => Blk w' w.heap.size 26 #[.int .i64 P, .slice A n c] ∧ Own w' 0 2 A n c (ints sq) ∧ Dr g 143 w w' ∧ Own w' w.heap.size 2 (some ⟨g2, 0, none⟩) (pw n) c2 (ints X5)) (by kernel_rfl) (by kernel_rfl) (fun x x' j hx => by
            rcases j with _ | _ | _ | _ | _ | _ | _ | _ | _ | _ | _ | j
            · rfl
            · rfl
            · rfl
            · rfl
            · rfl
            · rfl
            · rfl
            · rfl
            · rfl
            · rfl
            · rw [hx 4 (by decide)]
            · rfl)
          (weak_ofR [0, 1, 2, 3, 4, 5, 6, 7, 8, 9, 10] (by decide) (fun k hk x v w w' hp hr => by
            simp only [List.mem_cons, List.not_mem_nil, or_false] at hk
            rcases hk with rfl | rfl | rfl | rfl | rfl | rfl | rfl | rfl | rfl | rfl | rfl
            · exact hp
            · exact hp
            · exact hp
            · exact hp
            · exact hp
            · exact hp
            · exact hp
            · exact hp
            · obtain ⟨G9, e9, b9⟩ := hp; exact ⟨G9, e9, b9.dr hr (by decide)⟩
            · exact hp
            · exact hp)) (fun j _ _ h hb => hb.either (fun hb => ⟨h.1.below hb h.1.lt, h.2.1.below hb, h.2.2.1.then hb, h.2.2.2.below hb⟩) (fun hr => ⟨h.1.dr hr (by decide), h.2.1.dr hr (by decide), h.2.2.1.trans hr, h.2.2.2.dr hr (by decide)⟩)) (⟨k5.drew, o5.below (Below.refl _ _).drew, d5.then (Below.refl _ _).drew, h5.below (Below.refl _ _).drew⟩) (fun x => ?_)
        refine obs_stepR (Eq.trans (by simp only [List.getElem?_toArray, List.getElem?_cons_zero]; exact rfl) rfl) rfl (fun w' hS hV K hK => ?_) ?_
        · obtain ⟨q0, q1⟩ := hS.1.two
          go_simp
          exact hK.out _ _ _ rfl rfl rfl (Below.refl _ _)
        simp only [List.setIfInBounds_toArray, List.set_cons_zero, List.set_cons_succ]
        refine obs_stepR (Eq.trans (by simp only [List.getElem?_toArray, List.getElem?_cons_succ, List.getElem?_cons_zero]; exact rfl) rfl) rfl (fun w' hS hV K hK => ?_) ?_
        · obtain ⟨q0, q1⟩ := hS.1.two
          go_simp
          exact hK.out _ _ _ rfl rfl rfl (Below.refl _ _)
        simp only [List.setIfInBounds_toArray, List.set_cons_zero, List.set_cons_succ]
        refine obs_stepR (Eq.trans (by simp only [List.getElem?_toArray, List.getElem?_cons_succ, List.getElem?_cons_zero]; exact rfl) rfl) rfl (fun w' hS hV K hK => ?_) ?_
        · obtain ⟨q0, q1⟩ := hS.1.two
          go_simp
          exact hK.out _ _ _ rfl rfl rfl (Below.refl _ _)
        simp only [List.setIfInBounds_toArray, List.set_cons_zero, List.set_cons_succ]
        refine obs_stepR (Eq.trans (by simp only [List.getElem?_toArray, List.getElem?_cons_succ, List.getElem?_cons_zero]; exact rfl) rfl) rfl (fun w' hS hV K hK => ?_) ?_
        · have e2 : x 2 = (.agg #[.int .i64 P, .slice A n c]) := hV 2 (by decide)
          obtain ⟨q0, q1⟩ := hS.1.two
          go_simp
          refine (l04Size_any P A n c w' (by omega)).mono ?_
          rintro e v1 ⟨rfl, hb⟩
          exact hK.out _ _ _ rfl rfl rfl hb
        simp only [List.setIfInBounds_toArray, List.set_cons_zero, List.set_cons_succ]
        refine obs_stepR (Eq.trans (by simp only [List.getElem?_toArray, List.getElem?_cons_succ, List.getElem?_cons_zero]; exact rfl) rfl) rfl (fun w' hS hV K hK => ?_) ?_
        · have e1 : x 1 = (.pointer (some ⟨g, 0, none⟩)) := hV 1 (by decide)
          have e2 : x 2 = (.agg #[.int .i64 P, .slice A n c]) := hV 2 (by decide)
          have e3 : x 3 = (.int .i64 (pw n)) := hV 3 (by decide)
          obtain ⟨q0, q1⟩ := hS.1.two
          go_simp
          refine (next_any g ((pw n : Nat) : Int) w' hS.2.2.1.s' (by omega)).mono ?_
          rintro e v1 ⟨rr, rfl, t1, t2, hd9⟩
          have t3 := t2 (by omega)
          obtain ⟨rn2, rfl⟩ : ∃ k : Nat, rr = k := ⟨rr.toNat, by omega⟩
          exact hK.out _ _ _ rfl rfl ⟨rn2, rfl, by omega⟩ hd9
        simp only [List.setIfInBounds_toArray, List.set_cons_zero, List.set_cons_succ]
        refine obs_stepR (Eq.trans (by simp only [List.getElem?_toArray, List.getElem?_cons_succ, List.getElem?_cons_zero]; exact rfl) rfl) rfl (fun w' hS hV K hK => ?_) ?_
        · obtain ⟨q0, q1⟩ := hS.1.two
          go_simp
          exact hK.out _ _ _ rfl rfl rfl (Below.refl _ _)
        simp only [List.setIfInBounds_toArray, List.set_cons_zero, List.set_cons_succ]
        refine obs_stepR (Eq.trans (by simp only [List.getElem?_toArray, List.getElem?_cons_succ, List.getElem?_cons_zero]; exact rfl) rfl) rfl (fun w' hS hV K hK => ?_) ?_
        · obtain ⟨q0, q1⟩ := hS.1.two
          go_simp
          exact hK.out _ _ _ rfl rfl rfl (Below.refl _ _)
        simp only [List.setIfInBounds_toArray, List.set_cons_zero, List.set_cons_succ]
        refine obs_stepR (Eq.trans (by simp only [List.getElem?_toArray, List.getElem?_cons_succ, List.getElem?_cons_zero]; exact rfl) rfl) rfl (fun w' hS hV K hK => ?_) ?_
        · have e6 : x 6 = (.pointer (some ⟨w.heap.size, 0, none⟩)) := hV 6 (by decide)
          obtain ⟨q0, q1⟩ := hS.1.two
          go_simp
          exact hK.out _ _ _ rfl rfl rfl (Below.refl _ _)
        simp only [List.setIfInBounds_toArray, List.set_cons_zero, List.set_cons_succ]
        refine obs_stepR (Eq.trans (by simp only [List.getElem?_toArray, List.getElem?_cons_succ, List.getElem?_cons_zero]; exact rfl) rfl) rfl (fun w' hS hV K hK => ?_) ?_
        · have e6 : x 6 = (.pointer (some ⟨w.heap.size, 0, none⟩)) := hV 6 (by decide)
          have e7 : x 7 = (.int .i64 (P)) := hV 7 (by decide)
          obtain ⟨q0, q1⟩ := hS.1.two
          go_simp
          exact hK.out _ _ _ rfl rfl ⟨_, rfl, Blk.new _ _ _⟩ ((Below.refl _ _).alloc (Nat.le_refl _) _)
        simp only [List.setIfInBounds_toArray, List.set_cons_zero, List.set_cons_succ]
        refine obs_stepR (Eq.trans (by simp only [List.getElem?_toArray, List.getElem?_cons_succ, List.getElem?_cons_zero]; exact rfl) rfl) rfl (fun w' hS hV K hK => ?_) ?_
        · have e1 : x 1 = (.pointer (some ⟨g, 0, none⟩)) := hV 1 (by decide)
          have e2 : x 2 = (.agg #[.int .i64 P, .slice A n c]) := hV 2 (by decide)
          have e3 : x 3 = (.int .i64 (pw n)) := hV 3 (by decide)
          obtain ⟨rx, e4, lx⟩ := hV 4 (by decide)
          have e5 : x 5 = (.pointer (some ⟨g, 0, none⟩)) := hV 5 (by decide)
          have e6 : x 6 = (.pointer (some ⟨w.heap.size, 0, none⟩)) := hV 6 (by decide)
          have e7 : x 7 = (.int .i64 (P)) := hV 7 (by decide)
          obtain ⟨G5, e5, b5⟩ := hV 8 (by decide)
          obtain ⟨q0, q1⟩ := hS.1.two
          go_simp
          refine (pick_any g G5 [-1, P] _ hS.2.2.1.s' (by rw [ints2]; exact b5) (by simp) (by simp)).mono ?_
          rintro e v1 ⟨r1, _, rfl, hr⟩
          exact hK.out _ _ _ rfl rfl ⟨_, rfl⟩ hr
        simp only [List.setIfInBounds_toArray, List.set_cons_zero, List.set_cons_succ]
        refine obs_stepR (Eq.trans (by simp only [List.getElem?_toArray, List.getElem?_cons_succ, List.getElem?_cons_zero]; exact rfl) rfl) rfl (fun w' hS hV K hK => ?_) ?_
        · have e0 : x 0 = (.slice (some ⟨g2, 0, none⟩) (pw n) c2) := hV 0 (by decide)
          have e1 : x 1 = (.pointer (some ⟨g, 0, none⟩)) := hV 1 (by decide)
          have e2 : x 2 = (.agg #[.int .i64 P, .slice A n c]) := hV 2 (by decide)
          have e3 : x 3 = (.int .i64 (pw n)) := hV 3 (by decide)
          obtain ⟨rx, e4, lx⟩ := hV 4 (by decide)
          obtain ⟨q0, q1⟩ := hS.1.two
          have b1 : (0 : Int) ≤ (rx : Int) := by omega
          have b2 : (rx : Int) < ((pw n : Nat) : Int) := by omega
          go_simp
          exact hK.out _ _ _ rfl rfl ⟨rx, e4, lx, rfl⟩ (Below.refl _ _)
        simp only [List.setIfInBounds_toArray, List.set_cons_zero, List.set_cons_succ]
        refine fun w' hS hV => ?_
        have e0 : x 0 = (.slice (some ⟨g2, 0, none⟩) (pw n) c2) := hV 0 (by decide)
        have e1 : x 1 = (.pointer (some ⟨g, 0, none⟩)) := hV 1 (by decide)
        have e2 : x 2 = (.agg #[.int .i64 P, .slice A n c]) := hV 2 (by decide)
        have e3 : x 3 = (.int .i64 (pw n)) := hV 3 (by decide)
        obtain ⟨rx, e4, lx⟩ := hV 4 (by decide)
        have e5 : x 5 = (.pointer (some ⟨g, 0, none⟩)) := hV 5 (by decide)
        have e6 : x 6 = (.pointer (some ⟨w.heap.size, 0, none⟩)) := hV 6 (by decide)
        have e7 : x 7 = (.int .i64 (P)) := hV 7 (by decide)
        obtain ⟨rv, e9⟩ := hV 9 (by decide)
        obtain ⟨ry, f10, ly, e10⟩ := hV 10 (by decide)
        simp only [e0, e1, e2, e3, e4, e5, e6, e7, e9, e10]
        clear e0 e1 e2 e3 e4 e5 e6 e7 e9 e10
        obtain ⟨k6, o6, d6, h6⟩ := hS
        obtain ⟨w6, rfl⟩ : ∃ W, W = w' := ⟨_, rfl⟩
        obtain ⟨u1, hc1⟩ := h6.cellI ly
        have hf1 := h6.frozen_ ry
        refine any_one (j := 11) (by kernel_rfl) (Eq.trans (by simp only [List.getElem?_toArray, List.getElem?_cons_succ, List.getElem?_cons_zero]; exact rfl) rfl) (fun K hK => ?_)
        go_simp
        refine hK.out _ _ (wpAny_done (by kernel_rfl) ?_ _)
        obtain ⟨h7, hg7⟩ := h6.set_ ry (.int .i64 rv)
        rw [ints_set] at h7
        have d7 := d6.grown h6 hg7
        clear k6 o6 d6 h6 hg7 hc1 hf1 k5 o5 d5 h5 q0 q1
        go_wp2
        go_ret
        exact ⟨_, _, _, rfl, by omega, ⟨_, h7⟩, d7⟩
      · have e1 : (r == 1) = false := by simp [h1]
        go_wp2
        go_ret
        exact ⟨A2, pw n, c2, rfl, by omega, ⟨X5, h5⟩, d5⟩
end Go.Proofs.YtggigolkncckoaaGreat
namespace Go.Proofs.YtggigolkncckoaaGreat
open Go.RowKit
/-- The value is a list of at most 100 numbers that was made since the heap had B blocks. -/
def VLx (B : Nat) : VP := ⟨fun v w => ∃ (A : Option Addr) (m c : Nat) (xs : List Int), v = .slice A m c ∧ m ≤ 100 ∧ Own w B 2 A m c (ints xs), fun _ _ _ ⟨A, m, c, xs, e, hm, ho⟩ hb => ⟨A, m, c, xs, e, hm, ho.below hb⟩⟩
theorem VLx.dr {B g : Nat} {T : TypeId} {v : Value} {w w' : World} (h : (VLx B).p v w) (d : Dr g T w w') (hT : 2 ≠ T) : (VLx B).p v w' := by
  obtain ⟨A, m, c, xs, e, hm, ho⟩ := h
  exact ⟨A, m, c, xs, e, hm, ho.dr d hT⟩
/-- A space and two lists, drawn. -/
def Drew2 (w : World) (e : Ending) (w' : World) : Prop := ∃ (P : Int) (A : Option Addr) (n c : Nat) (sq : List Int) (A1 : Option Addr) (m1 c1 : Nat) (xs : List Int) (A2 : Option Addr) (m2 c2 : Nat) (ys : List Int), e = .returned (.tuple #[.agg #[.int .i64 P, .slice A n c], .slice A1 m1 c1, .slice A2 m2 c2]) ∧ P ≤ 17 ∧ n ≤ 7 ∧ m1 ≤ 100 ∧ m2 ≤ 100 ∧ Own w' w.heap.size 2 A n c (ints sq) ∧ Own w' w.heap.size 2 A1 m1 c1 (ints xs) ∧ Own w' w.heap.size 2 A2 m2 c2 (ints ys) ∧ Below w.heap.size w w'
end Go.Proofs.YtggigolkncckoaaGreat
namespace Go.Proofs.YtggigolkncckoaaGreat
open Go.RowKit
set_option maxHeartbeats 3200000 in
set_option maxRecDepth 8000 in
theorem l02Vector_any (g : Nat) (p : Int) (n : Nat) (w : World) (hs : Src w g 143) (hp : p ≤ 1048576) (hn : n ≤ 1048576) :
    Calls Tryz.prog 289 #[.pointer (some ⟨g, 0, none⟩), .int .i64 p, .int .i64 n] w fun e w' => ∃ (A : Option Addr) (m c : Nat) (xs : List Int), e = .returned (.slice A m c) ∧ m ≤ n + 1 ∧ Own w' w.heap.size 2 A m c (ints xs) ∧ Dr g 143 w w' := by
  by_cases hp1 : p < 1
  · have d1 : decide (p < 1) = true := by simpa using hp1
    go_enter Tryz.func289, Tryz.ntmps289
    have hli := nextList_any g (3) n w hs (by omega) hn
    go_wp2_with fail
    refine hli.mono ?_
    rintro e w1 ⟨A, c, xs, rfl, hl, hx, hO, hd⟩
    have hnx := next_any g 24 w1 hd.s' (by omega)
    clear hli hx
    go_wp2_with fail
    refine hnx.mono ?_
    rintro e w2 ⟨r, rfl, _, _, hd2⟩
    replace hd := hd.trans hd2
    replace hO := hO.dr hd2 (by decide)
    clear hnx hd2
    by_cases h0 : r = 0
    · have e0 : (r == 0) = true := by simp [h0]
      go_wp2_with (first
        | (at_builtin; (refine wpList_app1 (cutW w2 w.heap.size) w2 24 2 _ _ Tryz.underlying24 info_i rfl (by omega) rfl _ _ rfl A n c _ _ (hO.mk_ hd.size) (by omega) rfl rfl rfl ?_; intro A9 c9 w9 hM9 hg9 _)))
      have hO9 := hM9.own_ (cutW_size hd.size)
      have d9 := hd.grown hO hg9
      clear hM9 hg9
      go_wp2
      go_ret
      exact ⟨A9, n + 1, c9, xs ++ [0], rfl, by omega, by simpa [ints] using hO9, d9⟩
    · have e0 : (r == 0) = false := by simp [h0]
      by_cases h1 : r = 1
      · have e1 : (r == 1) = true := by simp [h1]
        by_cases hn0 : 0 < n
        · have t1 : decide ((0 : Int) < (n : Int)) = true := by simp; omega
          rcases hO.form with ⟨_, hzz⟩ | ⟨g2, rfl, hga, hgb⟩
          · omega
          have hd3 := hd.alloc (.cells #[.int .i64 (-1), .int .i64 (3)] 2)
          have hO3 := hO.below ((Below.refl _ _).alloc (Nat.le_refl _) (.cells #[.int .i64 (-1), .int .i64 (3)] 2))
          have hpk := pick_any g w2.heap.size [-1, 3] _ hd3.s' (by rw [ints2]; exact Blk.new w2 2 _) (by simp) (by simp)
          clear hO hd
          go_wp2_with fail
          refine hpk.mono ?_
          rintro e w3 ⟨r3, _, rfl, hd4⟩
          have hd5 := hd3.trans hd4
          have hO5 := hO3.dr hd4 (by decide)
          obtain ⟨u1, hc1⟩ := hO5.cellI hn0
          have hf1 := hO5.frozen_ 0
          obtain ⟨h7, hg7⟩ := hO5.set_ 0 (.int .i64 r3)
          rw [ints_set] at h7
          have d7 := hd5.grown hO5 hg7
          have i1 : (0 : Int) < (n : Int) := by omega
          clear hpk hd3 hO3 hd4 hd5 hO5 hg7
          go_wp2
          go_ret
          exact ⟨_, n, c, _, rfl, by omega, h7, d7⟩
        · have t1 : decide ((0 : Int) < (n : Int)) = false := by simp; omega
          go_wp2
          go_ret
          exact ⟨A, n, c, xs, rfl, by omega, hO, hd⟩
      · have e1 : (r == 1) = false := by simp [h1]
        go_wp2
        go_ret
        exact ⟨A, n, c, xs, rfl, by omega, hO, hd⟩
  · have d1 : decide (p < 1) = false := by simpa using hp1
    go_enter Tryz.func289, Tryz.ntmps289
    have hli := nextList_any g (p) n w hs (by omega) hn
    go_wp2_with fail
    refine hli.mono ?_
    rintro e w1 ⟨A, c, xs, rfl, hl, hx, hO, hd⟩
    have hnx := next_any g 24 w1 hd.s' (by omega)
    clear hli hx
    go_wp2_with fail
    refine hnx.mono ?_
    rintro e w2 ⟨r, rfl, _, _, hd2⟩
    replace hd := hd.trans hd2
    replace hO := hO.dr hd2 (by decide)
    clear hnx hd2
    by_cases h0 : r = 0
    · have e0 : (r == 0) = true := by simp [h0]
      go_wp2_with (first
        | (at_builtin; (refine wpList_app1 (cutW w2 w.heap.size) w2 24 2 _ _ Tryz.underlying24 info_i rfl (by omega) rfl _ _ rfl A n c _ _ (hO.mk_ hd.size) (by omega) rfl rfl rfl ?_; intro A9 c9 w9 hM9 hg9 _)))
      have hO9 := hM9.own_ (cutW_size hd.size)
      have d9 := hd.grown hO hg9
      clear hM9 hg9
      go_wp2
      go_ret
      exact ⟨A9, n + 1, c9, xs ++ [0], rfl, by omega, by simpa [ints] using hO9, d9⟩
    · have e0 : (r == 0) = false := by simp [h0]
      by_cases h1 : r = 1
      · have e1 : (r == 1) = true := by simp [h1]
        by_cases hn0 : 0 < n
        · have t1 : decide ((0 : Int) < (n : Int)) = true := by simp; omega
          rcases hO.form with ⟨_, hzz⟩ | ⟨g2, rfl, hga, hgb⟩
          · omega
          have hd3 := hd.alloc (.cells #[.int .i64 (-1), .int .i64 (p)] 2)
          have hO3 := hO.below ((Below.refl _ _).alloc (Nat.le_refl _) (.cells #[.int .i64 (-1), .int .i64 (p)] 2))
          have hpk := pick_any g w2.heap.size [-1, p] _ hd3.s' (by rw [ints2]; exact Blk.new w2 2 _) (by simp) (by simp)
          clear hO hd
          go_wp2_with fail
          refine hpk.mono ?_
          rintro e w3 ⟨r3, _, rfl, hd4⟩
          have hd5 := hd3.trans hd4
          have hO5 := hO3.dr hd4 (by decide)
          obtain ⟨u1, hc1⟩ := hO5.cellI hn0
          have hf1 := hO5.frozen_ 0
          obtain ⟨h7, hg7⟩ := hO5.set_ 0 (.int .i64 r3)
          rw [ints_set] at h7
          have d7 := hd5.grown hO5 hg7
          have i1 : (0 : Int) < (n : Int) := by omega
          clear hpk hd3 hO3 hd4 hd5 hO5 hg7
          go_wp2
          go_ret
          exact ⟨_, n, c, _, rfl, by omega, h7, d7⟩
        · have t1 : decide ((0 : Int) < (n : Int)) = false := by simp; omega
          go_wp2
          go_ret
          exact ⟨A, n, c, xs, rfl, by omega, hO, hd⟩
      · have e1 : (r == 1) = false := by simp [h1]
        go_wp2
        go_ret
        exact ⟨A, n, c, xs, rfl, by omega, hO, hd⟩
set_option maxHeartbeats 3200000 in
set_option maxRecDepth 8000 in
theorem l03DrawVector_any (g : Nat) (P : Int) (A : Option Addr) (n c : Nat) (w : World) (hs : Src w g 143) (hp : P ≤ 1048576) (hn : n ≤ 1048576) :
    Calls Tryz.prog 143 #[.pointer (some ⟨g, 0, none⟩), .agg #[.int .i64 P, .slice A n c]] w fun e w' => ∃ (A : Option Addr) (m c : Nat) (xs : List Int), e = .returned (.slice A m c) ∧ m ≤ n + 1 ∧ Own w' w.heap.size 2 A m c (ints xs) ∧ Dr g 143 w w' := by
  have k0 : Blk (w.alloc (.cells #[.int .i64 P, .slice A n c] 26)) w.heap.size 26 #[.int .i64 P, .slice A n c] := Blk.new _ _ _
  have d0 := (Dr.refl hs).alloc (.cells #[.int .i64 P, .slice A n c] 26)
  have hv := l02Vector_any g P n _ d0.s' hp hn
  obtain ⟨q0, q1⟩ := k0.two
  go_enter Tryz.func143, Tryz.ntmps143
  go_wp2_with fail
  refine hv.mono ?_
  rintro e w2 ⟨A2, m, c2, xs, rfl, hm, hO, hd⟩
  go_wp2
  go_ret
  exact ⟨A2, m, c2, xs, rfl, hm, hO.base (by simp), d0.trans hd⟩
end Go.Proofs.YtggigolkncckoaaGreat
namespace Go.Proofs.YtggigolkncckoaaGreat
open Go.RowKit
/-- A list of lists of the call's own, in blocks from B on. -/
def OwnM (w : World) (B : Nat) (A : Option Addr) (n c : Nat) (xss : List (List Int)) : Prop := ∃ rows, Own w B 24 A n c rows ∧ Nest w B rows xss
section
variable {w w' w0 W : World} {B B' g : Nat} {T : TypeId} {A : Option Addr} {n c : Nat} {xss : List (List Int)}
theorem OwnM.dr (h : OwnM w B A n c xss) (d : Dr g T w w') (h1 : 24 ≠ T) (h2 : 2 ≠ T) : OwnM w' B A n c xss := by
  obtain ⟨rows, ho, hn⟩ := h
  exact ⟨rows, ho.dr d h1, hn.len, fun k hk => by obtain ⟨A1, c1, e, h3⟩ := hn.row k hk; exact ⟨A1, c1, e, h3.dr d h2⟩, hn.apart⟩
theorem OwnM.below (h : OwnM w B A n c xss) (hb : Below w.heap.size w w') : OwnM w' B A n c xss := by
  obtain ⟨rows, ho, hn⟩ := h; exact ⟨rows, ho.below hb, hn.below hb⟩
theorem OwnM.base (h : OwnM w B A n c xss) (hB : B' ≤ B) : OwnM w B' A n c xss := by
  obtain ⟨rows, ho, hn⟩ := h; exact ⟨rows, ho.base hB, hn.base hB⟩
theorem OwnM.rd (h : OwnM w B A n c xss) : RdII w A n xss := by
  obtain ⟨rows, ho, hn⟩ := h
  exact ⟨rows, ho.rd, hn.len, fun k hk => by obtain ⟨A', c', e, ho⟩ := hn.row k hk; exact ⟨A', c', e, ho.rd, ho.cap⟩⟩
theorem OwnM.cap (h : OwnM w B A n c xss) : n ≤ c := by obtain ⟨rows, ho, _⟩ := h; exact ho.cap
theorem OwnM.nil (w : World) (B : Nat) : OwnM w B none 0 0 [] := ⟨[], World.ownsRow_nil _ _ _ _, Nest.nil _ _⟩
theorem OwnM.empty (w : World) (hB : B ≤ w.heap.size) : OwnM (w.alloc (.cells #[] 24)) B (some ⟨w.heap.size, 0, none⟩) 0 0 [] := by
  refine ⟨[], ?_, Nest.nil _ _⟩
  have := (Mk.lit (E := 24) (Below.refl w.heap.size w) #[] (by simp)).2
  exact Own.base (by simpa using this) hB
theorem Nest.push {rows : List Value} {A1 : Option Addr} {m c1 K : Nat} {xs : List Int} (h : Nest w B rows xss) (hk : ∀ i g : Nat, (rows[i]?).bind Value.ownBlock = some g → g < K) (hr : Own w K 2 A1 m c1 (ints xs)) (hB : B ≤ K) :
    Nest w B (rows ++ [.slice A1 m c1]) (xss ++ [xs]) := by
  have hn : xs.length = m := by have := hr.len; rwa [ints_length] at this
  subst hn
  refine ⟨by simp [h.len], fun k hk => ?_, fun i j g hij hi => ?_⟩
  · by_cases hlt : k < xss.length
    · obtain ⟨A', c', e, ho⟩ := h.row k hlt
      rw [List.getElem_append_left hlt]
      exact ⟨A', c', by rw [List.getElem?_append_left (by rw [h.len]; exact hlt)]; exact e, ho⟩
    · have hk' : k = xss.length := by simp at hk; omega
      subst hk'
      simp only [List.getElem_append_right (Nat.le_refl _), Nat.sub_self, List.getElem_cons_zero]
      exact ⟨A1, c1, by rw [List.getElem?_append_right (by rw [h.len]; exact Nat.le_refl _), h.len, Nat.sub_self]; rfl, hr.base hB⟩
  · rcases Nat.lt_or_ge j rows.length with hj | hj
    · rw [List.getElem?_append_left (by omega)] at hi
      rw [List.getElem?_append_left hj]
      exact h.apart i j g hij hi
    · rcases Nat.lt_or_ge i rows.length with hil | hil
      · rw [List.getElem?_append_left hil] at hi
        have hg := hk i g hi
        rw [List.getElem?_append_right hj]
        by_cases hj0 : j - rows.length = 0
        · rw [hj0]
          intro he
          have := (World.ownsRow.lt hr g (by simpa using he)).1
          omega
        · rw [List.getElem?_eq_none (by simp; omega)]; simp
      · rw [List.getElem?_append_right hj, List.getElem?_eq_none (by simp; omega)]; simp
end
/-- Other rows of numbers and other blocks are as they were. -/
def KeptR (w w' : World) : Prop := (∀ (B : Nat) (A : Option Addr) (n c : Nat) (us : List Value), Own w B 2 A n c us → Own w' B 2 A n c us) ∧ ∀ (g : Nat) (t : TypeId) (cs : Array Value), Blk w g t cs → 24 ≠ t → Blk w' g t cs
/-- A drawn row is appended. -/
theorem wpList_pushRow {ops : Array Oper} {rest : List Oper} {o : Oper} {a : Act} {Q : Exit → Act → World → Prop} (W w0 w : World) (g : Nat) (T : TypeId)
    (hgd : o.guard = none) (s x : Operand) (ho : o.op = .call { callee := .builtin .append, args := #[s, x], argTypes := #[44, 44] })
    (A : Option Addr) (n c : Nat) (xss : List (List Int)) (A1 : Option Addr) (m c1 : Nat) (xs : List Int) (h : OwnM w0 W.heap.size A n c xss) (dW : Dr g T W w0) (d : Dr g T w0 w) (h1 : 24 ≠ T) (h2 : 2 ≠ T)
    (hr : Own w w0.heap.size 2 A1 m c1 (ints xs)) (hn : n ≤ 1099511627776)
    (hs : a.eval s = .slice A n c) (hx : a.eval x = .slice (some ⟨w.heap.size, 0, none⟩) 1 1)
    (k : ∀ A' c' w', OwnM w' W.heap.size A' (n + 1) c' (xss ++ [xs]) → Dr g T W w' → KeptR w w' → wpList Tryz.prog ops Q rest (a.put o.dst (.slice A' (n + 1) c')) w') :
    wpList Tryz.prog ops Q (o :: rest) a (w.alloc (.cells #[.slice A1 m c1] 24)) := by
  obtain ⟨rows, ho0, hn0⟩ := h
  have hblk := hn0.block
  have ho1 := ho0.dr d h1
  have hn1 : Nest w W.heap.size rows xss := ⟨hn0.len, fun k hk => by obtain ⟨A1, c1, e, h3⟩ := hn0.row k hk; exact ⟨A1, c1, e, h3.dr d h2⟩, hn0.apart⟩
  have hn2 := hn1.push (fun i g hg => (hblk i g hg).2) hr dW.size
  have dd := dW.trans d
  refine wpList_app1 (cutW w W.heap.size) w 44 24 (.slice none 0 0) 24 Tryz.underlying44 info_s rfl (by omega) hgd s x ho A n c rows (.slice A1 m c1) (ho1.mk_ dd.size) hn rfl hs hx ?_
  intro A' c' w' hM' hg _
  exact k A' c' w' ⟨_, hM'.own_ (cutW_size dd.size), hn2.grown ho1 (by decide) hg⟩ (dd.grown ho1 hg) ⟨fun B A2 n2 c2 us h2 => h2.grown hg (h2.ne ho1 (by decide)), fun g2 t cs h2 hne => h2.grown hg (ho1.ne_blk h2 hne)⟩
end Go.Proofs.YtggigolkncckoaaGreat
namespace Go.Proofs.YtggigolkncckoaaGreat
open Go.RowKit
section
variable {w w' : World} {g res : Nat}
/-- The result's cell holds a space. -/
def SB (res : Nat) (w : World) : Prop := ∃ (p : Int) (A : Option Addr) (n c : Nat), Blk w res 26 #[.int .i64 p, .slice A n c]
theorem SB.below (h : SB res w) (hb : Below w.heap.size w w') : SB res w' := by obtain ⟨p, A, n, c, k⟩ := h; exact ⟨p, A, n, c, k.below hb k.lt⟩
theorem Blk.stored {p' : Int} {A' : Option Addr} {n' c' : Nat} {a b : Value} (k : Blk w res 26 #[a, b]) : Blk ((w.setCell ⟨res, 0, none⟩ (.int .i64 p')).setCell ⟨res, 1, none⟩ (.slice A' n' c')) res 26 #[.int .i64 p', .slice A' n' c'] := by
  simpa using (k.set_ 0 (.int .i64 p')).set_ 1 (.slice A' n' c')
end
end Go.Proofs.YtggigolkncckoaaGreat
namespace Go.Proofs.YtggigolkncckoaaGreat
open Go.RowKit
/-- The value is a list of at most 17 lists of at most 8 numbers, made since the heap had B blocks. -/
def VLm (B : Nat) : VP := ⟨fun v w => ∃ (A : Option Addr) (m c : Nat) (L : List (List Int)), v = .slice A m c ∧ m ≤ 17 ∧ (∀ v ∈ L, v.length ≤ 8) ∧ OwnM w B A m c L, fun _ _ _ ⟨A, m, c, L, e, hm, hl, ho⟩ hb => ⟨A, m, c, L, e, hm, hl, ho.below hb⟩⟩
theorem VLm.dr {B g : Nat} {T : TypeId} {v : Value} {w w' : World} (h : (VLm B).p v w) (d : Dr g T w w') (h1 : 24 ≠ T) (h2 : 2 ≠ T) : (VLm B).p v w' := by
  obtain ⟨A, m, c, L, e, hm, hl, ho⟩ := h
  exact ⟨A, m, c, L, e, hm, hl, ho.dr d h1 h2⟩
end Go.Proofs.YtggigolkncckoaaGreat
namespace Go.Proofs.YtggigolkncckoaaGreat
open Go.RowKit
/-- The value is a list of at most 4 vectors, made since the heap had B blocks. -/
def VLu (B n : Nat) (P : Int) : VP := ⟨fun v w => ∃ (A : Option Addr) (m c : Nat) (L : List (List Int)), v = .slice A m c ∧ m ≤ 4 ∧ Tab P n L ∧ OwnM w B A m c L, fun _ _ _ ⟨A, m, c, L, e, hm, hl, ho⟩ hb => ⟨A, m, c, L, e, hm, hl, ho.below hb⟩⟩
theorem VLu.dr {B n g : Nat} {P : Int} {T : TypeId} {v : Value} {w w' : World} (h : (VLu B n P).p v w) (d : Dr g T w w') (h1 : 24 ≠ T) (h2 : 2 ≠ T) : (VLu B n P).p v w' := by
  obtain ⟨A, m, c, L, e, hm, hl, ho⟩ := h
  exact ⟨A, m, c, L, e, hm, hl, ho.dr d h1 h2⟩
/-- The value is a number from 0 to below P. -/
def VIz (P : Int) : VP := ⟨fun v _ => ∃ k : Int, v = .int .i64 k ∧ 0 ≤ k ∧ k < P, fun _ _ _ h _ => h⟩
end Go.Proofs.YtggigolkncckoaaGreat
namespace Go.Proofs.YtggigolkncckoaaGreat
open Go.RowKit
/-- A cell of a list of lists. -/
def RowAt (w : World) (a : Addr) (v : Value) : Prop := ∃ (g k n c : Nat) (us : List Value), a = ⟨g, k, none⟩ ∧ Own w 0 24 (some ⟨g, 0, none⟩) n c us ∧ k < n ∧ us[k]? = some v
section
variable {w w' : World} {a : Addr} {v : Value}
theorem RowAt.cell (h : RowAt w a v) : w.cell? a = some v := by
  obtain ⟨g, k, n, c, us, rfl, ho, hk, e⟩ := h
  obtain ⟨u, e1, e2⟩ := ho.cell_ hk
  rw [e] at e1
  rw [e2, Option.some.inj e1]
theorem RowAt.below (h : RowAt w a v) (hb : Below w.heap.size w w') : RowAt w' a v := by
  obtain ⟨g, k, n, c, us, e, ho, hk, h2⟩ := h
  exact ⟨g, k, n, c, us, e, ho.below hb, hk, h2⟩
theorem RowAt.dr {g : Nat} {T : TypeId} (h : RowAt w a v) (d : Dr g T w w') (h1 : 24 ≠ T) : RowAt w' a v := by
  obtain ⟨g, k, n, c, us, e, ho, hk, h2⟩ := h
  exact ⟨g, k, n, c, us, e, ho.dr d h1, hk, h2⟩
end
theorem OwnM.of {w0 w : World} {A : Option Addr} {n c : Nat} {xss : List (List Int)} (h : MkII w0 w A n c xss) : OwnM w w0.heap.size A n c xss := by
  obtain ⟨rows, hm, hn⟩ := h
  exact ⟨rows, hm.2, hn⟩
/-- A row of a list of lists of the call's own. -/
theorem OwnM.at_ {w : World} {B : Nat} {A : Option Addr} {n c : Nat} {xss : List (List Int)} (h : OwnM w B A n c xss) {k : Nat} (hk : k < n) : ∃ (g o : Nat) (hx : k < xss.length) (A1 : Option Addr) (c1 : Nat), A = some ⟨g, o, none⟩ ∧ o = 0 ∧ RowAt w ⟨g, o + k, none⟩ (.slice A1 xss[k].length c1) ∧ Own w B 2 A1 xss[k].length c1 (ints xss[k]) := by
  obtain ⟨rows, ho, hn⟩ := h
  have hx : k < xss.length := by rw [← hn.len, ho.len]; exact hk
  rcases ho.form with ⟨_, hz⟩ | ⟨g, rfl, _, _⟩
  · omega
  obtain ⟨A1, c1, e, h3⟩ := hn.row k hx
  exact ⟨g, 0, hx, A1, c1, rfl, rfl, ⟨g, k, n, c, rows, by rw [Nat.zero_add], ho.base (Nat.zero_le _), hk, e⟩, h3⟩
set_option maxHeartbeats 6400000 in
set_option maxRecDepth 8000 in
theorem l06Draw_any (g : Nat) (P : Int) (A : Option Addr) (n c : Nat) (sq : List Int) (w : World) (hs : Src w g 143) (hn : n ≤ 1048576) (ho : Own w 0 2 A n c (ints sq)) :
    Calls Tryz.prog 326 #[.pointer (some ⟨g, 0, none⟩), .agg #[.int .i64 P, .slice A n c]] w fun e w' => ∃ (A' : Option Addr) (m c' : Nat), e = .returned (.slice A' m c') ∧ m ≤ 100 ∧ (∃ xs : List Int, Own w' w.heap.size 2 A' m c' (ints xs)) ∧ Dr g 143 w w' := by
  have hsl : sq.length = n := ho.rd.lenI
  have k0 : Blk (w.alloc (.cells #[.int .i64 P, .slice A n c] 26)) w.heap.size 26 #[.int .i64 P, .slice A n c] := Blk.new _ _ _
  have d0 := (Dr.refl hs).alloc (.cells #[.int .i64 P, .slice A n c] 26)
  have o0 := ho.below ((Below.refl _ _).alloc (Nat.le_refl _) (.cells #[.int .i64 P, .slice A n c] 26))
  cases h1 : isSp P sq
  · have H1 := Lib.hid h1
    clear h1
    go_enter Tryz.func326, Tryz.ntmps326
    go_wp2_with fail
    refine (l03Is_b _ _ _ _ _ _ (by omega) o0.rd H1.out).mono ?_
    rintro e w2 ⟨rfl, hb⟩
    have d5 := d0.then hb
    have k5 := k0.below hb k0.lt
    have o5 := o0.below hb
    clear hb d0 o0 k0
    have hsp := l04Spoil_any g P A n c sq w2 d5.s' hn o5
    obtain ⟨q0, q1⟩ := k5.two
    go_wp2_with fail
    refine hsp.mono ?_
    rintro e w9 ⟨A9, m9, c9, rfl, hm9, ⟨xs9, ho9⟩, hd9⟩
    clear hsp q0 q1
    go_wp2
    go_ret
    exact ⟨_, m9, _, rfl, hm9, ⟨xs9, ho9.base d5.size⟩, d5.trans hd9⟩
  · obtain ⟨HP, hn1, hn2, hq⟩ := isSp_dim h1
    obtain ⟨hp3, hp2⟩ := isP_ge HP
    have HQ := Lib.hid (nums_drawn hq)
    have H1 := Lib.hid h1
    rw [hsl] at hn1 hn2
    have hpw : pw n ≤ 64 := pw_le hn2
    clear h1 hq
    go_enter Tryz.func326, Tryz.ntmps326
    go_wp2_with fail
    refine (l03Is_b _ _ _ _ _ _ (by omega) o0.rd H1.out).mono ?_
    rintro e w2 ⟨rfl, hb⟩
    have hnx := next_any g 8 w2 (d0.then hb).s' (by omega)
    go_wp2_with fail
    refine hnx.mono ?_
    rintro e w8 ⟨r8, rfl, _, _, hd8⟩
    have d5 := (d0.then hb).trans hd8
    have k5 := (k0.below hb k0.lt).dr hd8 (by decide)
    have o5 := (o0.below hb).dr hd8 (by decide)
    clear hb d0 o0 k0 hnx hd8
    by_cases h8 : r8 = 0
    · have e8 : (r8 == 0) = true := by simp [h8]
      have hsp := l04Spoil_any g P A n c sq w8 d5.s' hn o5
      obtain ⟨q0, q1⟩ := k5.two
      go_wp2_with fail
      refine hsp.mono ?_
      rintro e w9 ⟨A9, m9, c9, rfl, hm9, ⟨xs9, ho9⟩, hd9⟩
      clear hsp q0 q1
      go_wp2
      go_ret
      exact ⟨_, m9, _, rfl, hm9, ⟨xs9, ho9.base d5.size⟩, d5.trans hd9⟩
    · have e8 : (r8 == 0) = false := by simp [h8]
      have k9 := k5.alloc (.cells #[] 24)
      have d9 := d5.alloc (.cells #[] 24)
      have o9 := o5.below ((Below.refl _ _).alloc (Nat.le_refl _) (.cells #[] 24))
      have l9 := OwnM.empty w8 (B := w.heap.size) d5.size
      have hnx := next_any g ((n : Int) + 1) _ d9.s' (by omega)
      have W9 := i64_fit ((n : Int) + 1) (by omega) (by omega)
      obtain ⟨q0, q1⟩ := k9.two
      clear k5 d5 o5
      go_wp2_with fail
      refine hnx.mono ?_
      rintro e w10 ⟨r, rfl, hr1, hr2, hd10⟩
      obtain ⟨rn, rfl⟩ : ∃ rn : Nat, r = rn := ⟨r.toNat, by omega⟩
      have hr3 := hr2 (by omega)
      have D2 := d9.trans hd10
      have K2 := k9.dr hd10 (by decide)
      have O2 := o9.dr hd10 (by decide)
      have L2 := l9.dr hd10 (by decide) (by decide)
      clear hnx k9 d9 o9 l9 hd10 q0 q1 W9
      go_wp2
      go_loopw [5, 6] (fun l i wr => ∃ (kk m : Nat) (A0 : Option Addr) (c0 : Nat) (L : List (List Int)), m + kk ≤ n ∧ i = .int .i64 kk ∧ l = .slice A0 m c0 ∧ Tab P n L ∧ OwnM wr w.heap.size A0 m c0 L ∧ Dr g 143 w wr ∧ Blk wr w.heap.size 26 #[.int .i64 P, .slice A n c] ∧ Own wr 0 2 A n c (ints sq)) (fun _ i _ => (intOf i).toNat)
      case atStart => exact ⟨rn, 0, _, _, [], by omega, rfl, rfl, Tab.nil _ _, L2, D2, K2, O2⟩
      case round =>
        obtain ⟨kk, m, A0, c0, L, hmk, rfl, rfl, hTL, hL, hD, K, O⟩ := hrel
        clear L2 D2 K2 O2
        obtain ⟨wo, rfl⟩ : ∃ W, W = wr := ⟨_, rfl⟩
        have HTL := Lib.hid hTL
        have HL := Lib.hid hL
        have HD := Lib.hid hD
        clear hTL hL
        by_cases hk0 : 0 < kk
        · have t1 : decide ((0 : Int) < (kk : Int)) = true := by simp; omega
          have W5 : wrap64 ((kk : Int) - 1) = ((kk - 1 : Nat) : Int) := by unfold wrap64; omega
          obtain ⟨q0, q1⟩ := K.two
          have hli := nextList_any g P n wo hD.s' (by omega) (by omega)
          go_wp2_with fail
          refine hli.mono ?_
          rintro e w3 ⟨A1, c1, v, rfl, hvl, hvx, hv, hd3⟩
          have HVN := Lib.hid (nums_of (by omega) hvx)
          have HVL := Lib.hid hvl
          have D8 := Lib.hid hd3
          have K8 := Lib.hid (K.dr hd3 (by decide))
          have O8 := Lib.hid (O.dr hd3 (by decide))
          have V8 := Lib.hid hv
          clear hli hvx q0 q1 K O hD hvl hd3 hv
          go_wp2_with (at_builtin; (refine wpList_pushRow w wo w3 g 143 rfl _ _ rfl A0 m c0 L A1 n c1 v HL.out HD.out D8.out (by decide) (by decide) V8.out (by omega) rfl ?_ ?_; (go_simp); intro A9 c9 w9 h9 d9 kp))
          have HL9 := Lib.hid h9
          have D9 := Lib.hid d9
          have K9 := kp.2 _ _ _ K8.out (by decide)
          have O9 := kp.1 _ _ _ _ _ O8.out
          have HT9 := Lib.hid (show Tab P n (L ++ [v]) from fun u hu => by
            rcases List.mem_append.1 hu with hu | hu
            · exact HTL.out u hu
            · rw [List.mem_singleton.1 hu]; exact ⟨HVL.out, HVN.out⟩)
          clear h9 d9 kp
          go_wp2
          go_roundw
          case rel => exact ⟨kk - 1, m + 1, A9, c9, L ++ [v], by omega, by go_num, rfl, HT9.out, HL9.out, D9.out, K9, O9⟩
          case measure => simp [intOf]; omega
        · have t1 : decide ((0 : Int) < (kk : Int)) = false := by simp; omega
          have W8 := i64_fit (P - 1) (by omega) (by omega)
          have hm6 : m ≤ 6 := by omega
          clear hD
          obtain ⟨q0, q1⟩ := K.two
          go_wp2
          refine wp_obsR 13 (Dr g 143) [[], [0], [], [], [2, 3], [], [], [6], [6, 7], [2, 3, 4, 5, 6, 7, 8], [2, 3, 4, 5, 6, 7, 8, 9], [0, 1, 2, 3, 4, 5, 6, 7, 8, 9, 10], [0, 1, 2, 3, 4, 5, 6, 7, 8, 9, 10, 11]] [[], [], [], [], [], [], [], [], [], [99], [], [], []] (fun x => [VIs (.pointer (some ⟨w.heap.size, 0, none⟩)), VIs (.int .i64 (P)), VIs (.agg #[.int .i64 P, .slice A n c]), VIs (.slice A0 m c0), VLs w.heap.size (pw n) P, VIs (.pointer (some ⟨g, 0, none⟩)), VIs (.pointer (some ⟨w.heap.size, 0, none⟩)), VIs (.int .i64 (P)), VIs (.int .i64 (P - 1)), VIz (P - 1), VIz P, VLs w.heap.size (pw n) P, VLs w.heap.size (pw n) P]) (fun w' => Blk w' w.heap.size 26 #[.int .i64 P, .slice A n c] ∧ Own w' 0 2 A n c (ints sq) ∧ OwnM w' w.heap.size A0 m c0 L ∧ Dr g 143 w w') (by kernel_rfl) (by kernel_rfl) (fun x x' j hx => by
              rcases j with _ | _ | _ | _ | _ | _ | _ | _ | _ | _ | _ | _ | _ | j
              · rfl
              · rfl
              · rfl
              · rfl
              · rfl
              · rfl
              · rfl
              · rfl
              · rfl
              · rfl
              · rfl
              · rfl
              · rfl
              · rfl)
            (weak_ofR [0, 1, 2, 3, 4, 5, 6, 7, 8, 9, 10, 11, 12] (by decide) (fun k hk x v w w' hp hr => by
              simp only [List.mem_cons, List.not_mem_nil, or_false] at hk
              rcases hk with rfl | rfl | rfl | rfl | rfl | rfl | rfl | rfl | rfl | rfl | rfl | rfl | rfl
              · exact hp
              · exact hp
              · exact hp
              · exact hp
              · exact VLs.dr hp hr (by decide)
              · exact hp
              · exact hp
              · exact hp
              · exact hp
              · exact hp
              · exact hp
              · exact VLs.dr hp hr (by decide)
              · exact VLs.dr hp hr (by decide))) (fun j _ _ h hb => hb.either (fun hb => ⟨h.1.below hb h.1.lt, h.2.1.below hb, h.2.2.1.below hb, h.2.2.2.then hb⟩) (fun hr => ⟨h.1.dr hr (by decide), h.2.1.dr hr (by decide), h.2.2.1.dr hr (by decide) (by decide), h.2.2.2.trans hr⟩)) (⟨K.drew, O.below (Below.refl _ _).drew, HL.out.below (Below.refl _ _).drew, HD.out.then (Below.refl _ _).drew⟩) (fun x => ?_)
          refine obs_stepR (Eq.trans (by simp only [List.getElem?_toArray, List.getElem?_cons_zero]; exact rfl) rfl) rfl (fun w' hS hV K hK => ?_) ?_
          · obtain ⟨q0, q1⟩ := hS.1.two
            go_simp
            exact hK.out _ _ _ rfl rfl rfl (Below.refl _ _)
          simp only [List.setIfInBounds_toArray, List.set_cons_zero, List.set_cons_succ]
          refine obs_stepR (Eq.trans (by simp only [List.getElem?_toArray, List.getElem?_cons_succ, List.getElem?_cons_zero]; exact rfl) rfl) rfl (fun w' hS hV K hK => ?_) ?_
          · have e0 : x 0 = (.pointer (some ⟨w.heap.size, 0, none⟩)) := hV 0 (by decide)
            obtain ⟨q0, q1⟩ := hS.1.two
            go_simp
            exact hK.out _ _ _ rfl rfl rfl (Below.refl _ _)
          simp only [List.setIfInBounds_toArray, List.set_cons_zero, List.set_cons_succ]
          refine obs_stepR (Eq.trans (by simp only [List.getElem?_toArray, List.getElem?_cons_succ, List.getElem?_cons_zero]; exact rfl) rfl) rfl (fun w' hS hV K hK => ?_) ?_
          · obtain ⟨q0, q1⟩ := hS.1.two
            go_simp
            exact hK.out _ _ _ rfl rfl rfl (Below.refl _ _)
          simp only [List.setIfInBounds_toArray, List.set_cons_zero, List.set_cons_succ]
          refine obs_stepR (Eq.trans (by simp only [List.getElem?_toArray, List.getElem?_cons_succ, List.getElem?_cons_zero]; exact rfl) rfl) rfl (fun w' hS hV K hK => ?_) ?_
          · obtain ⟨q0, q1⟩ := hS.1.two
            go_simp
            exact hK.out _ _ _ rfl rfl rfl (Below.refl _ _)
          simp only [List.setIfInBounds_toArray, List.set_cons_zero, List.set_cons_succ]
          refine obs_stepR (Eq.trans (by simp only [List.getElem?_toArray, List.getElem?_cons_succ, List.getElem?_cons_zero]; exact rfl) rfl) rfl (fun w' hS hV K hK => ?_) ?_
          · have e2 : x 2 = (.agg #[.int .i64 P, .slice A n c]) := hV 2 (by decide)
            have e3 : x 3 = (.slice A0 m c0) := hV 3 (by decide)
            obtain ⟨q0, q1⟩ := hS.1.two
            go_simp
            refine (l06Blade_any P A n c sq A0 m c0 L w' HP hn2 hn1 (by omega) hS.2.1.rd HQ.out hS.2.2.1.rd HTL.out).mono ?_
            rintro e v1 ⟨A9, c9, rfl, hM⟩
            exact hK.out _ _ _ rfl rfl ⟨_, _, _, rfl, blaL_len _ _ _ _, blaL_nums (by omega) _ _ _, hM.2.base hS.2.2.2.size⟩ hM.b
          simp only [List.setIfInBounds_toArray, List.set_cons_zero, List.set_cons_succ]
          refine obs_stepR (Eq.trans (by simp only [List.getElem?_toArray, List.getElem?_cons_succ, List.getElem?_cons_zero]; exact rfl) rfl) rfl (fun w' hS hV K hK => ?_) ?_
          · obtain ⟨q0, q1⟩ := hS.1.two
            go_simp
            exact hK.out _ _ _ rfl rfl rfl (Below.refl _ _)
          simp only [List.setIfInBounds_toArray, List.set_cons_zero, List.set_cons_succ]
          refine obs_stepR (Eq.trans (by simp only [List.getElem?_toArray, List.getElem?_cons_succ, List.getElem?_cons_zero]; exact rfl) rfl) rfl (fun w' hS hV K hK => ?_) ?_
          · obtain ⟨q0, q1⟩ := hS.1.two
            go_simp
            exact hK.out _ _ _ rfl rfl rfl (Below.refl _ _)
          simp only [List.setIfInBounds_toArray, List.set_cons_zero, List.set_cons_succ]
          refine obs_stepR (Eq.trans (by simp only [List.getElem?_toArray, List.getElem?_cons_succ, List.getElem?_cons_zero]; exact rfl) rfl) rfl (fun w' hS hV K hK => ?_) ?_
          · have e6 : x 6 = (.pointer (some ⟨w.heap.size, 0, none⟩)) := hV 6 (by decide)
            obtain ⟨q0, q1⟩ := hS.1.two
            go_simp
            exact hK.out _ _ _ rfl rfl rfl (Below.refl _ _)
          simp only [List.setIfInBounds_toArray, List.set_cons_zero, List.set_cons_succ]
          refine obs_stepR (Eq.trans (by simp only [List.getElem?_toArray, List.getElem?_cons_succ, List.getElem?_cons_zero]; exact rfl) rfl) rfl (fun w' hS hV K hK => ?_) ?_
          · have e6 : x 6 = (.pointer (some ⟨w.heap.size, 0, none⟩)) := hV 6 (by decide)
            have e7 : x 7 = (.int .i64 (P)) := hV 7 (by decide)
            obtain ⟨q0, q1⟩ := hS.1.two
            go_simp
            exact hK.out _ _ _ rfl rfl rfl (Below.refl _ _)
          simp only [List.setIfInBounds_toArray, List.set_cons_zero, List.set_cons_succ]
          refine obs_stepR (Eq.trans (by simp only [List.getElem?_toArray, List.getElem?_cons_succ, List.getElem?_cons_zero]; exact rfl) rfl) rfl (fun w' hS hV K hK => ?_) ?_
          · have e2 : x 2 = (.agg #[.int .i64 P, .slice A n c]) := hV 2 (by decide)
            have e3 : x 3 = (.slice A0 m c0) := hV 3 (by decide)
            obtain ⟨A4, c4, X4, e4, l4, u4, h4⟩ := hV 4 (by decide)
            have e5 : x 5 = (.pointer (some ⟨g, 0, none⟩)) := hV 5 (by decide)
            have e6 : x 6 = (.pointer (some ⟨w.heap.size, 0, none⟩)) := hV 6 (by decide)
            have e7 : x 7 = (.int .i64 (P)) := hV 7 (by decide)
            have e8 : x 8 = (.int .i64 (P - 1)) := hV 8 (by decide)
            obtain ⟨q0, q1⟩ := hS.1.two
            go_simp
            refine (next_any g (P - 1) w' hS.2.2.2.s' (by omega)).mono ?_
            rintro e v1 ⟨r9, rfl, t1, t2, hd9⟩
            exact hK.out _ _ _ rfl rfl ⟨r9, rfl, t1, t2 (by omega)⟩ hd9
          simp only [List.setIfInBounds_toArray, List.set_cons_zero, List.set_cons_succ]
          refine obs_stepR (Eq.trans (by simp only [List.getElem?_toArray, List.getElem?_cons_succ, List.getElem?_cons_zero]; exact rfl) rfl) rfl (fun w' hS hV K hK => ?_) ?_
          · have e2 : x 2 = (.agg #[.int .i64 P, .slice A n c]) := hV 2 (by decide)
            have e3 : x 3 = (.slice A0 m c0) := hV 3 (by decide)
            obtain ⟨A4, c4, X4, e4, l4, u4, h4⟩ := hV 4 (by decide)
            have e5 : x 5 = (.pointer (some ⟨g, 0, none⟩)) := hV 5 (by decide)
            have e6 : x 6 = (.pointer (some ⟨w.heap.size, 0, none⟩)) := hV 6 (by decide)
            have e7 : x 7 = (.int .i64 (P)) := hV 7 (by decide)
            have e8 : x 8 = (.int .i64 (P - 1)) := hV 8 (by decide)
            obtain ⟨k9, e9, b9, d9⟩ := hV 9 (by decide)
            obtain ⟨q0, q1⟩ := hS.1.two
            have W9 := i64_fit (1 + k9) (by omega) (by omega)
            go_simp
            exact hK.out _ _ _ rfl rfl ⟨_, rfl, by omega, by omega⟩ (Below.refl _ _)
          simp only [List.setIfInBounds_toArray, List.set_cons_zero, List.set_cons_succ]
          refine obs_stepR (Eq.trans (by simp only [List.getElem?_toArray, List.getElem?_cons_succ, List.getElem?_cons_zero]; exact rfl) rfl) rfl (fun w' hS hV K hK => ?_) ?_
          · have e0 : x 0 = (.pointer (some ⟨w.heap.size, 0, none⟩)) := hV 0 (by decide)
            have e1 : x 1 = (.int .i64 (P)) := hV 1 (by decide)
            have e2 : x 2 = (.agg #[.int .i64 P, .slice A n c]) := hV 2 (by decide)
            have e3 : x 3 = (.slice A0 m c0) := hV 3 (by decide)
            obtain ⟨A4, c4, X4, e4, l4, u4, h4⟩ := hV 4 (by decide)
            have e5 : x 5 = (.pointer (some ⟨g, 0, none⟩)) := hV 5 (by decide)
            have e6 : x 6 = (.pointer (some ⟨w.heap.size, 0, none⟩)) := hV 6 (by decide)
            have e7 : x 7 = (.int .i64 (P)) := hV 7 (by decide)
            have e8 : x 8 = (.int .i64 (P - 1)) := hV 8 (by decide)
            obtain ⟨k9, e9, b9, d9⟩ := hV 9 (by decide)
            obtain ⟨k10, e10, b10, d10⟩ := hV 10 (by decide)
            obtain ⟨q0, q1⟩ := hS.1.two
            go_simp
            refine (l02Scale_any P A4 (pw n) c4 k10 X4 w' (by omega) hp2 (by have : pw n ≤ 64 := pw_le hn2; omega) h4.rd u4 (by omega) (by omega)).mono ?_
            rintro e v1 ⟨A9, c9, rfl, hM⟩
            exact hK.out _ _ _ rfl rfl ⟨_, _, _, rfl, by rw [scaleL_len]; exact l4, scaleL_nums (by omega) _ _, hM.2.base hS.2.2.2.size⟩ hM.b
          simp only [List.setIfInBounds_toArray, List.set_cons_zero, List.set_cons_succ]
          refine obs_stepR (Eq.trans (by simp only [List.getElem?_toArray, List.getElem?_cons_succ, List.getElem?_cons_zero]; exact rfl) rfl) rfl (fun w' hS hV K hK => ?_) ?_
          · have e0 : x 0 = (.pointer (some ⟨w.heap.size, 0, none⟩)) := hV 0 (by decide)
            have e1 : x 1 = (.int .i64 (P)) := hV 1 (by decide)
            have e2 : x 2 = (.agg #[.int .i64 P, .slice A n c]) := hV 2 (by decide)
            have e3 : x 3 = (.slice A0 m c0) := hV 3 (by decide)
            obtain ⟨A4, c4, X4, e4, l4, u4, h4⟩ := hV 4 (by decide)
            have e5 : x 5 = (.pointer (some ⟨g, 0, none⟩)) := hV 5 (by decide)
            have e6 : x 6 = (.pointer (some ⟨w.heap.size, 0, none⟩)) := hV 6 (by decide)
            have e7 : x 7 = (.int .i64 (P)) := hV 7 (by decide)
            have e8 : x 8 = (.int .i64 (P - 1)) := hV 8 (by decide)
            obtain ⟨k9, e9, b9, d9⟩ := hV 9 (by decide)
            obtain ⟨k10, e10, b10, d10⟩ := hV 10 (by decide)
            obtain ⟨A11, c11, X11, e11, l11, u11, h11⟩ := hV 11 (by decide)
            obtain ⟨q0, q1⟩ := hS.1.two
            go_simp
            exact hK.out _ _ _ rfl rfl ⟨_, _, _, rfl, l11, u11, h11⟩ (Below.refl _ _)
          simp only [List.setIfInBounds_toArray, List.set_cons_zero, List.set_cons_succ]
          refine fun w' hS hV => ?_
          have e0 : x 0 = (.pointer (some ⟨w.heap.size, 0, none⟩)) := hV 0 (by decide)
          have e1 : x 1 = (.int .i64 (P)) := hV 1 (by decide)
          have e2 : x 2 = (.agg #[.int .i64 P, .slice A n c]) := hV 2 (by decide)
          have e3 : x 3 = (.slice A0 m c0) := hV 3 (by decide)
          obtain ⟨A4, c4, X4, e4, l4, u4, h4⟩ := hV 4 (by decide)
          have e5 : x 5 = (.pointer (some ⟨g, 0, none⟩)) := hV 5 (by decide)
          have e6 : x 6 = (.pointer (some ⟨w.heap.size, 0, none⟩)) := hV 6 (by decide)
          have e7 : x 7 = (.int .i64 (P)) := hV 7 (by decide)
          have e8 : x 8 = (.int .i64 (P - 1)) := hV 8 (by decide)
          obtain ⟨k9, e9, b9, d9⟩ := hV 9 (by decide)
          obtain ⟨k10, e10, b10, d10⟩ := hV 10 (by decide)
          obtain ⟨A11, c11, X11, e11, l11, u11, h11⟩ := hV 11 (by decide)
          obtain ⟨A12, c12, X12, e12, l12, u12, h12⟩ := hV 12 (by decide)
          simp only [e0, e1, e2, e3, e4, e5, e6, e7, e8, e9, e10, e11, e12]
          clear e0 e1 e2 e3 e4 e5 e6 e7 e8 e9 e10 e11 e12
          refine wpAny_done (by kernel_rfl) ?_ _
          obtain ⟨k6, o6, _, d6⟩ := hS
          obtain ⟨w6, rfl⟩ : ∃ W, W = w' := ⟨_, rfl⟩
          go_wp2
          go_ret
          exact ⟨_, _, _, rfl, by omega, ⟨_, h12⟩, d6⟩
set_option maxHeartbeats 6400000 in
set_option maxRecDepth 8000 in
theorem l06One_any (B : Option Addr) (nb cb : Nat) (bs : List Int) (w : World) (hnb : nb ≤ 4096) (r : Rd w B nb (bs.map (Value.int .u8))) (hbs : ∀ b ∈ bs, 0 ≤ b ∧ b < 256) (hbg : ∀ a, B = some a → a.block < w.heap.size) :
    Calls Tryz.prog 237 #[.slice B nb cb] w (Drew2 w) := by
  have hB0 : Below w.heap.size w (w.alloc (.cells #[.int .i64 0, .slice none 0 0] 26)) := (Below.refl _ _).alloc (Nat.le_refl _) _
  have k0 : Blk (w.alloc (.cells #[.int .i64 0, .slice none 0 0] 26)) w.heap.size 26 #[.int .i64 0, .slice none 0 0] := Blk.new _ _ _
  have hfr := from__any B nb cb bs (w.alloc (.cells #[.int .i64 0, .slice none 0 0] 26)) hnb (r.below hB0) hbs (fun a e => by have := hbg a e; simp; omega)
  go_enter Tryz.func237, Tryz.ntmps237
  go_wp2_with fail
  refine hfr.mono ?_
  rintro e w2 ⟨g, rfl, hg, hs2, hb2⟩
  have k2 := k0.below hb2 k0.lt
  have hB2 := hB0.trans (hb2.mono hB0.size)
  have hw := hB2.size
  have hgw : w.heap.size ≤ g := Nat.le_trans hB0.size hg
  have hsp := l03Spoil_any g w2 hs2
  clear hfr hb2 k0 hB0 hg
  go_wp2_with fail
  refine hsp.mono ?_
  rintro e w3 ⟨P, A, n, c, sq, rfl, hP, hn, hO, hd3⟩
  have d4 := hd3.alloc (.cells #[.int .i64 P, .slice A n c] 26)
  have k4 := (k2.dr hd3 (by decide)).alloc (.cells #[.int .i64 P, .slice A n c] 26)
  have kb4 : Blk (w3.alloc (.cells #[.int .i64 P, .slice A n c] 26)) w3.heap.size 26 #[.int .i64 P, .slice A n c] := Blk.new _ _ _
  have hres : w.heap.size < w3.heap.size := Nat.lt_of_lt_of_le (show w.heap.size < w2.heap.size from k2.lt) hd3.size
  have o4 := (hO.base (B' := w.heap.size) hw).below ((Below.refl _ _).alloc (Nat.le_refl _) (.cells #[.int .i64 P, .slice A n c] 26))
  clear hsp k2 hO hd3
  obtain ⟨q0, q1⟩ := kb4.two
  go_wp2
  refine wp_obsR 7 (Dr g 143) [[], [], [], [1, 2], [], [], [1, 2, 3, 4, 5], [0, 1, 2, 3, 4, 5, 6], [0, 1, 2, 3, 4, 5, 6], [0, 1, 2, 3, 4, 5, 6]] [[], [], [], [99], [], [], [99]] (fun x => [VIs (.agg #[.int .i64 P, .slice A n c]), VIs (.pointer (some ⟨g, 0, none⟩)), VIs (.agg #[.int .i64 P, .slice A n c]), VLx w.heap.size, VIs (.pointer (some ⟨g, 0, none⟩)), VIs (.agg #[.int .i64 P, .slice A n c]), VLx w.heap.size]) (fun w' => Blk w' w.heap.size 26 #[.int .i64 0, .slice none 0 0] ∧ Blk w' w3.heap.size 26 #[.int .i64 P, .slice A n c] ∧ Own w' w.heap.size 2 A n c (ints sq) ∧ Dr g 143 w2 w') (by kernel_rfl) (by kernel_rfl) (fun x x' j hx => by
      rcases j with _ | _ | _ | _ | _ | _ | _ | j
      · rfl
      · rfl
      · rfl
      · rfl
      · rfl
      · rfl
      · rfl
      · rfl)
    (weak_ofR [0, 1, 2, 3, 4, 5, 6] (by decide) (fun k hk x v w w' hp hr => by
      simp only [List.mem_cons, List.not_mem_nil, or_false] at hk
      rcases hk with rfl | rfl | rfl | rfl | rfl | rfl | rfl
      · exact hp
      · exact hp
      · exact hp
      · exact VLx.dr hp hr (by decide)
      · exact hp
      · exact hp
      · exact VLx.dr hp hr (by decide))) (fun j _ _ h hb => hb.either (fun hb => ⟨h.1.below hb h.1.lt, h.2.1.below hb h.2.1.lt, h.2.2.1.below hb, h.2.2.2.then hb⟩) (fun hr => ⟨h.1.dr hr (by decide), h.2.1.dr hr (by decide), h.2.2.1.dr hr (by decide), h.2.2.2.trans hr⟩)) (⟨k4.drew, kb4.drew, o4.below (Below.refl _ _).drew, d4.then (Below.refl _ _).drew⟩) (fun x => ?_)
  refine obs_stepR (Eq.trans (by simp only [List.getElem?_toArray, List.getElem?_cons_zero]; exact rfl) rfl) rfl (fun w' hS hV K hK => ?_) ?_
  · obtain ⟨q0, q1⟩ := hS.2.1.two
    go_simp
    exact hK.out _ _ _ rfl rfl rfl (Below.refl _ _)
  simp only [List.setIfInBounds_toArray, List.set_cons_zero, List.set_cons_succ]
  refine obs_stepR (Eq.trans (by simp only [List.getElem?_toArray, List.getElem?_cons_succ, List.getElem?_cons_zero]; exact rfl) rfl) rfl (fun w' hS hV K hK => ?_) ?_
  · obtain ⟨q0, q1⟩ := hS.2.1.two
    go_simp
    exact hK.out _ _ _ rfl rfl rfl (Below.refl _ _)
  simp only [List.setIfInBounds_toArray, List.set_cons_zero, List.set_cons_succ]
  refine obs_stepR (Eq.trans (by simp only [List.getElem?_toArray, List.getElem?_cons_succ, List.getElem?_cons_zero]; exact rfl) rfl) rfl (fun w' hS hV K hK => ?_) ?_
  · obtain ⟨q0, q1⟩ := hS.2.1.two
    go_simp
    exact hK.out _ _ _ rfl rfl rfl (Below.refl _ _)
  simp only [List.setIfInBounds_toArray, List.set_cons_zero, List.set_cons_succ]
  refine obs_stepR (Eq.trans (by simp only [List.getElem?_toArray, List.getElem?_cons_succ, List.getElem?_cons_zero]; exact rfl) rfl) rfl (fun w' hS hV K hK => ?_) ?_
  · have e1 : x 1 = (.pointer (some ⟨g, 0, none⟩)) := hV 1 (by decide)
    have e2 : x 2 = (.agg #[.int .i64 P, .slice A n c]) := hV 2 (by decide)
    obtain ⟨q0, q1⟩ := hS.2.1.two
    go_simp
    refine (l06Draw_any g P A n c sq w' hS.2.2.2.s' (by omega) (hS.2.2.1.base (Nat.zero_le _))).mono ?_
    rintro e v1 ⟨A9, m9, c9, rfl, hm9, ⟨xs9, ho9⟩, hd9⟩
    exact hK.out _ _ _ rfl rfl ⟨_, _, _, xs9, rfl, hm9, ho9.base (Nat.le_trans hw hS.2.2.2.size)⟩ hd9
  simp only [List.setIfInBounds_toArray, List.set_cons_zero, List.set_cons_succ]
  refine obs_stepR (Eq.trans (by simp only [List.getElem?_toArray, List.getElem?_cons_succ, List.getElem?_cons_zero]; exact rfl) rfl) rfl (fun w' hS hV K hK => ?_) ?_
  · obtain ⟨q0, q1⟩ := hS.2.1.two
    go_simp
    exact hK.out _ _ _ rfl rfl rfl (Below.refl _ _)
  simp only [List.setIfInBounds_toArray, List.set_cons_zero, List.set_cons_succ]
  refine obs_stepR (Eq.trans (by simp only [List.getElem?_toArray, List.getElem?_cons_succ, List.getElem?_cons_zero]; exact rfl) rfl) rfl (fun w' hS hV K hK => ?_) ?_
  · obtain ⟨q0, q1⟩ := hS.2.1.two
    go_simp
    exact hK.out _ _ _ rfl rfl rfl (Below.refl _ _)
  simp only [List.setIfInBounds_toArray, List.set_cons_zero, List.set_cons_succ]
  refine obs_stepR (Eq.trans (by simp only [List.getElem?_toArray, List.getElem?_cons_succ, List.getElem?_cons_zero]; exact rfl) rfl) rfl (fun w' hS hV K hK => ?_) ?_
  · have e1 : x 1 = (.pointer (some ⟨g, 0, none⟩)) := hV 1 (by decide)
    have e2 : x 2 = (.agg #[.int .i64 P, .slice A n c]) := hV 2 (by decide)
    obtain ⟨A3, m3, c3, X3, e3, l3, h3⟩ := hV 3 (by decide)
    have e4 : x 4 = (.pointer (some ⟨g, 0, none⟩)) := hV 4 (by decide)
    have e5 : x 5 = (.agg #[.int .i64 P, .slice A n c]) := hV 5 (by decide)
    obtain ⟨q0, q1⟩ := hS.2.1.two
    go_simp
    refine (l03DrawVector_any g P A n c w' hS.2.2.2.s' (by omega) (by omega)).mono ?_
    rintro e v1 ⟨A9, m9, c9, xs9, rfl, hm9, ho9, hd9⟩
    exact hK.out _ _ _ rfl rfl ⟨_, _, _, xs9, rfl, by omega, ho9.base (Nat.le_trans hw hS.2.2.2.size)⟩ hd9
  simp only [List.setIfInBounds_toArray, List.set_cons_zero, List.set_cons_succ]
  refine fun w' hS hV => ?_
  have e0 : x 0 = (.agg #[.int .i64 P, .slice A n c]) := hV 0 (by decide)
  have e1 : x 1 = (.pointer (some ⟨g, 0, none⟩)) := hV 1 (by decide)
  have e2 : x 2 = (.agg #[.int .i64 P, .slice A n c]) := hV 2 (by decide)
  obtain ⟨A3, m3, c3, X3, e3, l3, h3⟩ := hV 3 (by decide)
  have e4 : x 4 = (.pointer (some ⟨g, 0, none⟩)) := hV 4 (by decide)
  have e5 : x 5 = (.agg #[.int .i64 P, .slice A n c]) := hV 5 (by decide)
  obtain ⟨A6, m6, c6, X6, e6, l6, h6⟩ := hV 6 (by decide)
  simp only [e0, e1, e2, e3, e4, e5, e6]
  clear e0 e1 e2 e3 e4 e5 e6
  obtain ⟨k5, kb5, o5, d5⟩ := hS
  obtain ⟨w6, rfl⟩ : ∃ W, W = w' := ⟨_, rfl⟩
  clear q0 q1 k4 kb4 o4 d4
  obtain ⟨p0, p1⟩ := k5.two
  have f0 := k5.frozen 0
  have f1 := k5.frozen 1
  refine any_one (j := 7) (by kernel_rfl) (Eq.trans (by simp only [List.getElem?_toArray, List.getElem?_cons_succ, List.getElem?_cons_zero]; exact rfl) rfl) (fun K hK => ?_)
  go_simp
  refine hK.out _ _ (any_one (j := 8) (by kernel_rfl) (Eq.trans (by simp only [List.getElem?_toArray, List.getElem?_cons_succ, List.getElem?_cons_zero]; exact rfl) rfl) (fun K hK => ?_))
  go_simp
  refine hK.out _ _ (any_one (j := 9) (by kernel_rfl) (Eq.trans (by simp only [List.getElem?_toArray, List.getElem?_cons_succ, List.getElem?_cons_zero]; exact rfl) rfl) (fun K hK => ?_))
  go_simp
  refine hK.out _ _ (wpAny_done (by kernel_rfl) ?_ _)
  have hf : ∀ {m d : Nat} {A2 : Option Addr} {xs : List Int}, Own w6 w.heap.size 2 A2 m d (ints xs) → Own ((w6.setCell ⟨w.heap.size, 0, none⟩ (.int .i64 P)).setCell ⟨w.heap.size, 1, none⟩ (.slice A n c)) w.heap.size 2 A2 m d (ints xs) := by
    intro m c' A' xs ho
    exact (ho.far k5 (by decide) 0 _).far (k5.set_ 0 (.int .i64 P)) (by decide) 1 _
  go_wp2
  exact bodyPost_ret (v := .tuple #[.agg #[.int .i64 P, .slice A n c], .slice A3 m3 c3, .slice A6 m6 c6]) (by simp [results, Tryz.results237, go_sem, p0, p1]) rfl ⟨P, A, n, c, sq, A3, m3, c3, X3, A6, m6, c6, X6, rfl, hP, hn, l3, l6, hf o5, hf h3, hf h6, hB2.trans (((d5.b.mono hgw).setCell (p := ⟨w.heap.size, 0, none⟩) (Nat.le_refl _) _).setCell (p := ⟨w.heap.size, 1, none⟩) (Nat.le_refl _) _)⟩
set_option maxHeartbeats 3200000 in
set_option maxRecDepth 8000 in
theorem DrawProjectOnto_any (B : Option Addr) (nb cb : Nat) (bs : List Int) (w : World) (hnb : nb ≤ 4096) (r : Rd w B nb (bs.map (Value.int .u8))) (hbs : ∀ b ∈ bs, 0 ≤ b ∧ b < 256) (hbg : ∀ a, B = some a → a.block < w.heap.size) :
    Calls Tryz.prog 94 #[.slice B nb cb] w (Drew2 w) := by
  have hB0 : Below w.heap.size w (w.alloc (.cells #[.int .i64 0, .slice none 0 0] 26)) := (Below.refl _ _).alloc (Nat.le_refl _) _
  have k0 : Blk (w.alloc (.cells #[.int .i64 0, .slice none 0 0] 26)) w.heap.size 26 #[.int .i64 0, .slice none 0 0] := Blk.new _ _ _
  have hon := l06One_any B nb cb bs (w.alloc (.cells #[.int .i64 0, .slice none 0 0] 26)) hnb (r.below hB0) hbs (fun a e => by have := hbg a e; simp; omega)
  go_enter Tryz.func94, Tryz.ntmps94
  go_wp2_with fail
  refine hon.mono ?_
  rintro e w3 ⟨P, A, n, c, sq, A1, m1, c1, xs, A2, m2, c2, ys, rfl, hP, hn, hm1, hm2, hO, hX, hY, hb3⟩
  have hsz : w.heap.size ≤ (w.alloc (.cells #[.int .i64 0, .slice none 0 0] 26)).heap.size := hB0.size
  have k3 := k0.below hb3 k0.lt
  have hB3 := hB0.trans (hb3.mono hsz)
  have kb4 : Blk (w3.alloc (.cells #[.int .i64 P, .slice A n c] 26)) w3.heap.size 26 #[.int .i64 P, .slice A n c] := Blk.new _ _ _
  have hres : w.heap.size < w3.heap.size := Nat.lt_of_lt_of_le k0.lt hb3.size
  obtain ⟨q0, q1⟩ := kb4.two
  obtain ⟨p0, p1⟩ := k3.two
  have f0 := k3.frozen 0
  have f1 := k3.frozen 1
  have hf : ∀ {m d : Nat} {A2 : Option Addr} {xs : List Int}, Own w3 w.heap.size 2 A2 m d (ints xs) → Own (((w3.setCell ⟨w.heap.size, 0, none⟩ (.int .i64 P)).setCell ⟨w.heap.size, 1, none⟩ (.slice A n c)).alloc (.cells #[.int .i64 P, .slice A n c] 26)) w.heap.size 2 A2 m d (ints xs) := by
    intro m c' A' xs ho
    exact ((ho.far k3 (by decide) 0 _).far (k3.set_ 0 (.int .i64 P)) (by decide) 1 _).below ((Below.refl _ _).alloc (Nat.le_refl _) _)
  have hB5 := (hB3.setCell (p := ⟨w.heap.size, 0, none⟩) (Nat.le_refl _) (.int .i64 P)).setCell (p := ⟨w.heap.size, 1, none⟩) (Nat.le_refl _) (.slice A n c)
  obtain ⟨z0, z1⟩ := ((k3.stored (p' := P) (A' := A) (n' := n) (c' := c)).alloc (.cells #[.int .i64 P, .slice A n c] 26)).two
  clear hon k0 hb3 hB0
  go_wp2
  exact bodyPost_ret (v := .tuple #[.agg #[.int .i64 P, .slice A n c], .slice A1 m1 c1, .slice A2 m2 c2]) (by simp [results, Tryz.results94, go_sem, z0, z1]) rfl ⟨P, A, n, c, sq, A1, m1, c1, xs, A2, m2, c2, ys, rfl, hP, hn, hm1, hm2, hf (hO.base hsz), hf (hX.base hsz), hf (hY.base hsz), hB5.alloc (o := .cells #[.int .i64 P, .slice A n c] 26) hB5.size⟩
end Go.Proofs.YtggigolkncckoaaGreat
namespace Go.Proofs.YtggigolkncckoaaGreat
open Go.RowKit
theorem mod5_any (p n : Int) (w : World) (hp : 0 < p) (hp2 : p ≤ 13) :
    Calls Tryz.prog 48 #[.int .i64 p, .int .i64 n] w fun e w' => e = .returned (.int .i64 (n % p)) ∧ w = w' := by
  go_enter Tryz.func48, Tryz.ntmps48
  go_wp2
  go_ret
  exact ⟨ret_int (num_math p n hp hp2), rfl⟩
theorem big_any (A : Option Addr) (n c : Nat) (w : World) :
    Calls Tryz.prog 15 #[.slice A n c] w fun e w' => e = .returned (.bool (decide (4096 < n))) ∧ w = w' := by
  go_enter Tryz.func15, Tryz.ntmps15
  by_cases h : 4096 < n
  · have d1 : decide ((4096 : Int) < (n : Int)) = true := by rw [decide_eq_true_eq]; omega
    go_wp2
    go_ret
    exact ⟨ret_bool (by rw [eq_comm, decide_eq_true_eq]; exact h), rfl⟩
  · have d1 : decide ((4096 : Int) < (n : Int)) = false := by rw [decide_eq_false_iff_not]; omega
    go_wp2
    go_ret
    exact ⟨ret_bool (by rw [eq_comm, decide_eq_false_iff_not]; exact h), rfl⟩
end Go.Proofs.YtggigolkncckoaaGreat
namespace Go.Proofs.YtggigolkncckoaaGreat
open Go.RowKit
theorem mul_small5 {k y : Int} (h1 : -1000 ≤ k) (h2 : k ≤ 1000) (y1 : 0 ≤ y) (y2 : y ≤ 13) : -13000 ≤ k * y ∧ k * y ≤ 13000 := by
  rcases Int.le_total 0 k with h | h
  · have a := Int.mul_nonneg h y1
    have b := Int.le_trans (Int.mul_le_mul_of_nonneg_right h2 y1) (show 1000 * y ≤ 13000 by omega)
    omega
  · have a := Int.mul_nonneg (show 0 ≤ -k by omega) y1
    have b := Int.le_trans (Int.mul_le_mul_of_nonneg_right (show -k ≤ 1000 by omega) y1) (show 1000 * y ≤ 13000 by omega)
    rw [Int.neg_mul] at a b
    omega
set_option maxHeartbeats 1600000 in
set_option maxRecDepth 8000 in
theorem plus5_any (p : Int) (A : Option Addr) (n c : Nat) (B : Option Addr) (d : Nat) (k : Int) (xs ys : List Int) (w : World) (hp : 2 ≤ p) (hp2 : p ≤ 13) (hn : n ≤ 65536) (ha : Rd w A n (ints xs)) (hx : NumsL p xs) (hb : Rd w B n (ints ys)) (hy : NumsL p ys) (hk1 : -1000 ≤ k) (hk2 : k ≤ 1000) :
    Calls Tryz.prog 31 #[.int .i64 p, .slice A n c, .slice B n d, .int .i64 k] w fun e w' => ∃ A' c', e = .returned (.slice A' n c') ∧ MkI w w' A' n c' (plusL p xs ys k) := by
  have hxl : xs.length = n := by have := ha.1; rwa [ints_length] at this
  have Hx := Lib.hid hxl; clear hxl
  have hM0 := Mk.lit (E := 2) (Below.refl w.heap.size w) #[] (by simp)
  have hnn : ((n : Int) != (n : Int)) = false := by simp
  go_enter Tryz.func31, Tryz.ntmps31
  go_wp2
  go_loopw [9, 10] (fun out i wr => ∃ (j : Nat) (A' : Option Addr) (c' : Nat), j ≤ n ∧ i = .int .i64 j ∧ out = .slice A' j c' ∧ MkI w wr A' j c' (tab j fun i => (xs.getD i 0 + k * ys.getD i 0) % p)) (fun _ i _ => n - (intOf i).toNat)
  case atStart => exact ⟨0, _, _, by omega, rfl, rfl, by simpa [MkI, ints, tab] using hM0⟩
  case round =>
    obtain ⟨j, A', c', hj, rfl, rfl, hM⟩ := hrel
    clear hM0
    by_cases hlt : j < n
    · obtain ⟨g, o, rfl, hxj, hcx⟩ := (ha.below hM.b).int hlt
      obtain ⟨g2, o2, rfl, hyj, hcy⟩ := (hb.below hM.b).int hlt
      obtain ⟨x1, x2⟩ := hx _ (List.getElem_mem hxj)
      obtain ⟨y1, y2⟩ := hy _ (List.getElem_mem hyj)
      obtain ⟨m1, m2⟩ := mul_small5 hk1 hk2 y1 (show ys[j] ≤ 13 by omega)
      have HV : Hid ((tab (j + 1) fun i => (xs.getD i 0 + k * ys.getD i 0) % p) = (tab j fun i => (xs.getD i 0 + k * ys.getD i 0) % p) ++ [(xs[j] + k * ys[j]) % p]) := Lib.hid (by rw [tab_succ, getD_of_lt 0 hxj, getD_of_lt 0 hyj])
      have W1 := i64_fit (k * ys[j]) (by omega) (by omega)
      have W2 := i64_fit (xs[j] + k * ys[j]) (by omega) (by omega)
      have i1 : (0 : Int) ≤ (j : Int) := by omega
      have i2 : (j : Int) < (n : Int) := by omega
      go_wp2
      refine wp_obs 15 [[], [], [], [], [2, 3], [2, 3, 4], [], [], [], [7, 8], [7, 8, 9], [6, 7, 8, 9, 10], [2, 3, 4, 5, 6, 7, 8, 9, 10, 11], [1, 2, 3, 4, 5, 6, 7, 8, 9, 10, 11, 12], [1, 2, 3, 4, 5, 6, 7, 8, 9, 10, 11, 12, 13], [0, 1, 2, 3, 4, 5, 6, 7, 8, 9, 10, 11, 12, 13, 14], [0, 1, 2, 3, 4, 5, 6, 7, 8, 9, 10, 11, 12, 13, 14, 15]] [VIs (.slice A' j c'), VIs (.int .i64 p), VIs (.slice (some ⟨g, o, none⟩) n c), VIs (.int .i64 j), VIs (.pointer (some ⟨g, o + j, none⟩)), VIs (.int .i64 xs[j]), VIs (.int .i64 k), VIs (.slice (some ⟨g2, o2, none⟩) n d), VIs (.int .i64 j), VIs (.pointer (some ⟨g2, o2 + j, none⟩)), VIs (.int .i64 ys[j]), VIs (.int .i64 (k * ys[j])), VIs (.int .i64 (xs[j] + k * ys[j])), VIs (.int .i64 ((xs[j] + k * ys[j]) % p)), VBs 2 #[.int .i64 ((xs[j] + k * ys[j]) % p)]] (fun w' => MkI w w' A' j c' (tab j fun i => (xs.getD i 0 + k * ys.getD i 0) % p) ∧ w'.cell? ⟨g, o + j, none⟩ = some (.int .i64 xs[j]) ∧ w'.cell? ⟨g2, o2 + j, none⟩ = some (.int .i64 ys[j])) (by kernel_rfl) (by kernel_rfl) (fun _ _ h hb => ⟨h.1.below hb, (hb.cell (World.block_lt_of_cell? _ _ h.2.1)).trans h.2.1, (hb.cell (World.block_lt_of_cell? _ _ h.2.2)).trans h.2.2⟩) (⟨hM.drew, hcx, hcy⟩) (fun x => ?_)
      refine obs_step (Eq.trans (by simp only [List.getElem?_toArray, List.getElem?_cons_zero]; exact rfl) rfl) rfl (fun w' hS hV K hK => ?_) ?_
      · obtain ⟨_, q1, q2⟩ := hS
        go_simp
        exact hK.out _ _ _ rfl rfl rfl (Below.refl _ _)
      simp only [List.setIfInBounds_toArray, List.set_cons_zero, List.set_cons_succ]
      refine obs_step (Eq.trans (by simp only [List.getElem?_toArray, List.getElem?_cons_succ, List.getElem?_cons_zero]; exact rfl) rfl) rfl (fun w' hS hV K hK => ?_) ?_
      · obtain ⟨_, q1, q2⟩ := hS
        go_simp
        exact hK.out _ _ _ rfl rfl rfl (Below.refl _ _)
      simp only [List.setIfInBounds_toArray, List.set_cons_zero, List.set_cons_succ]
      refine obs_step (Eq.trans (by simp only [List.getElem?_toArray, List.getElem?_cons_succ, List.getElem?_cons_zero]; exact rfl) rfl) rfl (fun w' hS hV K hK => ?_) ?_
      · obtain ⟨_, q1, q2⟩ := hS
        go_simp
        exact hK.out _ _ _ rfl rfl rfl (Below.refl _ _)
      simp only [List.setIfInBounds_toArray, List.set_cons_zero, List.set_cons_succ]
      refine obs_step (Eq.trans (by simp only [List.getElem?_toArray, List.getElem?_cons_succ, List.getElem?_cons_zero]; exact rfl) rfl) rfl (fun w' hS hV K hK => ?_) ?_
      · obtain ⟨_, q1, q2⟩ := hS
        go_simp
        exact hK.out _ _ _ rfl rfl rfl (Below.refl _ _)
      simp only [List.setIfInBounds_toArray, List.set_cons_zero, List.set_cons_succ]
      refine obs_step (Eq.trans (by simp only [List.getElem?_toArray, List.getElem?_cons_succ, List.getElem?_cons_zero]; exact rfl) rfl) rfl (fun w' hS hV K hK => ?_) ?_
      · have e2 : x 2 = (.slice (some ⟨g, o, none⟩) n c) := hV 2 (by decide)
        have e3 : x 3 = (.int .i64 j) := hV 3 (by decide)
        obtain ⟨_, q1, q2⟩ := hS
        go_simp
        exact hK.out _ _ _ rfl rfl rfl (Below.refl _ _)
      simp only [List.setIfInBounds_toArray, List.set_cons_zero, List.set_cons_succ]
      refine obs_step (Eq.trans (by simp only [List.getElem?_toArray, List.getElem?_cons_succ, List.getElem?_cons_zero]; exact rfl) rfl) rfl (fun w' hS hV K hK => ?_) ?_
      · have e2 : x 2 = (.slice (some ⟨g, o, none⟩) n c) := hV 2 (by decide)
        have e3 : x 3 = (.int .i64 j) := hV 3 (by decide)
        have e4 : x 4 = (.pointer (some ⟨g, o + j, none⟩)) := hV 4 (by decide)
        obtain ⟨_, q1, q2⟩ := hS
        go_simp
        exact hK.out _ _ _ rfl rfl rfl (Below.refl _ _)
      simp only [List.setIfInBounds_toArray, List.set_cons_zero, List.set_cons_succ]
      refine obs_step (Eq.trans (by simp only [List.getElem?_toArray, List.getElem?_cons_succ, List.getElem?_cons_zero]; exact rfl) rfl) rfl (fun w' hS hV K hK => ?_) ?_
      · obtain ⟨_, q1, q2⟩ := hS
        go_simp
        exact hK.out _ _ _ rfl rfl rfl (Below.refl _ _)
      simp only [List.setIfInBounds_toArray, List.set_cons_zero, List.set_cons_succ]
      refine obs_step (Eq.trans (by simp only [List.getElem?_toArray, List.getElem?_cons_succ, List.getElem?_cons_zero]; exact rfl) rfl) rfl (fun w' hS hV K hK => ?_) ?_
      · obtain ⟨_, q1, q2⟩ := hS
        go_simp
        exact hK.out _ _ _ rfl rfl rfl (Below.refl _ _)
      simp only [List.setIfInBounds_toArray, List.set_cons_zero, List.set_cons_succ]
      refine obs_step (Eq.trans (by simp only [List.getElem?_toArray, List.getElem?_cons_succ, List.getElem?_cons_zero]; exact rfl) rfl) rfl (fun w' hS hV K hK => ?_) ?_
      · obtain ⟨_, q1, q2⟩ := hS
        go_simp
        exact hK.out _ _ _ rfl rfl rfl (Below.refl _ _)
      simp only [List.setIfInBounds_toArray, List.set_cons_zero, List.set_cons_succ]
      refine obs_step (Eq.trans (by simp only [List.getElem?_toArray, List.getElem?_cons_succ, List.getElem?_cons_zero]; exact rfl) rfl) rfl (fun w' hS hV K hK => ?_) ?_
      · have e7 : x 7 = (.slice (some ⟨g2, o2, none⟩) n d) := hV 7 (by decide)
        have e8 : x 8 = (.int .i64 j) := hV 8 (by decide)
        obtain ⟨_, q1, q2⟩ := hS
        go_simp
        exact hK.out _ _ _ rfl rfl rfl (Below.refl _ _)
      simp only [List.setIfInBounds_toArray, List.set_cons_zero, List.set_cons_succ]
      refine obs_step (Eq.trans (by simp only [List.getElem?_toArray, List.getElem?_cons_succ, List.getElem?_cons_zero]; exact rfl) rfl) rfl (fun w' hS hV K hK => ?_) ?_
      · have e7 : x 7 = (.slice (some ⟨g2, o2, none⟩) n d) := hV 7 (by decide)
        have e8 : x 8 = (.int .i64 j) := hV 8 (by decide)
        have e9 : x 9 = (.pointer (some ⟨g2, o2 + j, none⟩)) := hV 9 (by decide)
        obtain ⟨_, q1, q2⟩ := hS
        go_simp
        exact hK.out _ _ _ rfl rfl rfl (Below.refl _ _)
      simp only [List.setIfInBounds_toArray, List.set_cons_zero, List.set_cons_succ]
      refine obs_step (Eq.trans (by simp only [List.getElem?_toArray, List.getElem?_cons_succ, List.getElem?_cons_zero]; exact rfl) rfl) rfl (fun w' hS hV K hK => ?_) ?_
      · have e6 : x 6 = (.int .i64 k) := hV 6 (by decide)
        have e7 : x 7 = (.slice (some ⟨g2, o2, none⟩) n d) := hV 7 (by decide)
        have e8 : x 8 = (.int .i64 j) := hV 8 (by decide)
        have e9 : x 9 = (.pointer (some ⟨g2, o2 + j, none⟩)) := hV 9 (by decide)
        have e10 : x 10 = (.int .i64 ys[j]) := hV 10 (by decide)
        obtain ⟨_, q1, q2⟩ := hS
        go_simp
        exact hK.out _ _ _ rfl rfl rfl (Below.refl _ _)
      simp only [List.setIfInBounds_toArray, List.set_cons_zero, List.set_cons_succ]
      refine obs_step (Eq.trans (by simp only [List.getElem?_toArray, List.getElem?_cons_succ, List.getElem?_cons_zero]; exact rfl) rfl) rfl (fun w' hS hV K hK => ?_) ?_
      · have e2 : x 2 = (.slice (some ⟨g, o, none⟩) n c) := hV 2 (by decide)
        have e3 : x 3 = (.int .i64 j) := hV 3 (by decide)
        have e4 : x 4 = (.pointer (some ⟨g, o + j, none⟩)) := hV 4 (by decide)
        have e5 : x 5 = (.int .i64 xs[j]) := hV 5 (by decide)
        have e6 : x 6 = (.int .i64 k) := hV 6 (by decide)
        have e7 : x 7 = (.slice (some ⟨g2, o2, none⟩) n d) := hV 7 (by decide)
        have e8 : x 8 = (.int .i64 j) := hV 8 (by decide)
        have e9 : x 9 = (.pointer (some ⟨g2, o2 + j, none⟩)) := hV 9 (by decide)
        have e10 : x 10 = (.int .i64 ys[j]) := hV 10 (by decide)
        have e11 : x 11 = (.int .i64 (k * ys[j])) := hV 11 (by decide)
        obtain ⟨_, q1, q2⟩ := hS
        go_simp
        exact hK.out _ _ _ rfl rfl rfl (Below.refl _ _)
      simp only [List.setIfInBounds_toArray, List.set_cons_zero, List.set_cons_succ]
      refine obs_step (Eq.trans (by simp only [List.getElem?_toArray, List.getElem?_cons_succ, List.getElem?_cons_zero]; exact rfl) rfl) rfl (fun w' hS hV K hK => ?_) ?_
      · have e1 : x 1 = (.int .i64 p) := hV 1 (by decide)
        have e2 : x 2 = (.slice (some ⟨g, o, none⟩) n c) := hV 2 (by decide)
        have e3 : x 3 = (.int .i64 j) := hV 3 (by decide)
        have e4 : x 4 = (.pointer (some ⟨g, o + j, none⟩)) := hV 4 (by decide)
        have e5 : x 5 = (.int .i64 xs[j]) := hV 5 (by decide)
        have e6 : x 6 = (.int .i64 k) := hV 6 (by decide)
        have e7 : x 7 = (.slice (some ⟨g2, o2, none⟩) n d) := hV 7 (by decide)
        have e8 : x 8 = (.int .i64 j) := hV 8 (by decide)
        have e9 : x 9 = (.pointer (some ⟨g2, o2 + j, none⟩)) := hV 9 (by decide)
        have e10 : x 10 = (.int .i64 ys[j]) := hV 10 (by decide)
        have e11 : x 11 = (.int .i64 (k * ys[j])) := hV 11 (by decide)
        have e12 : x 12 = (.int .i64 (xs[j] + k * ys[j])) := hV 12 (by decide)
        obtain ⟨_, q1, q2⟩ := hS
        go_simp
        refine (mod5_any p (xs[j] + k * ys[j]) w' (by omega) hp2).mono ?_
        rintro e w1 ⟨rfl, rfl⟩
        exact hK.out _ _ _ rfl rfl rfl (Below.refl _ _)
      simp only [List.setIfInBounds_toArray, List.set_cons_zero, List.set_cons_succ]
      refine obs_step (Eq.trans (by simp only [List.getElem?_toArray, List.getElem?_cons_succ, List.getElem?_cons_zero]; exact rfl) rfl) rfl (fun w' hS hV K hK => ?_) ?_
      · have e1 : x 1 = (.int .i64 p) := hV 1 (by decide)
        have e2 : x 2 = (.slice (some ⟨g, o, none⟩) n c) := hV 2 (by decide)
        have e3 : x 3 = (.int .i64 j) := hV 3 (by decide)
        have e4 : x 4 = (.pointer (some ⟨g, o + j, none⟩)) := hV 4 (by decide)
        have e5 : x 5 = (.int .i64 xs[j]) := hV 5 (by decide)
        have e6 : x 6 = (.int .i64 k) := hV 6 (by decide)
        have e7 : x 7 = (.slice (some ⟨g2, o2, none⟩) n d) := hV 7 (by decide)
        have e8 : x 8 = (.int .i64 j) := hV 8 (by decide)
        have e9 : x 9 = (.pointer (some ⟨g2, o2 + j, none⟩)) := hV 9 (by decide)
        have e10 : x 10 = (.int .i64 ys[j]) := hV 10 (by decide)
        have e11 : x 11 = (.int .i64 (k * ys[j])) := hV 11 (by decide)
        have e12 : x 12 = (.int .i64 (xs[j] + k * ys[j])) := hV 12 (by decide)
        have e13 : x 13 = (.int .i64 ((xs[j] + k * ys[j]) % p)) := hV 13 (by decide)
        obtain ⟨_, q1, q2⟩ := hS
        go_simp
        exact hK.out _ _ _ rfl rfl ⟨_, rfl, Blk.new _ _ _⟩ ((Below.refl _ _).alloc (Nat.le_refl _) _)
      simp only [List.setIfInBounds_toArray, List.set_cons_zero, List.set_cons_succ]
      refine fun w' hS hV => ?_
      have e0 : x 0 = (.slice A' j c') := hV 0 (by decide)
      have e1 : x 1 = (.int .i64 p) := hV 1 (by decide)
      have e2 : x 2 = (.slice (some ⟨g, o, none⟩) n c) := hV 2 (by decide)
      have e3 : x 3 = (.int .i64 j) := hV 3 (by decide)
      have e4 : x 4 = (.pointer (some ⟨g, o + j, none⟩)) := hV 4 (by decide)
      have e5 : x 5 = (.int .i64 xs[j]) := hV 5 (by decide)
      have e6 : x 6 = (.int .i64 k) := hV 6 (by decide)
      have e7 : x 7 = (.slice (some ⟨g2, o2, none⟩) n d) := hV 7 (by decide)
      have e8 : x 8 = (.int .i64 j) := hV 8 (by decide)
      have e9 : x 9 = (.pointer (some ⟨g2, o2 + j, none⟩)) := hV 9 (by decide)
      have e10 : x 10 = (.int .i64 ys[j]) := hV 10 (by decide)
      have e11 : x 11 = (.int .i64 (k * ys[j])) := hV 11 (by decide)
      have e12 : x 12 = (.int .i64 (xs[j] + k * ys[j])) := hV 12 (by decide)
      have e13 : x 13 = (.int .i64 ((xs[j] + k * ys[j]) % p)) := hV 13 (by decide)
      obtain ⟨b14, e14, h14⟩ := hV 14 (by decide)
      simp only [e0, e1, e2, e3, e4, e5, e6, e7, e8, e9, e10, e11, e12, e13, e14]
      clear e0 e1 e2 e3 e4 e5 e6 e7 e8 e9 e10 e11 e12 e13 e14
      obtain ⟨s1, s2, s3⟩ := hS
      refine any_plain (j := 15) (by kernel_rfl) (Eq.trans (by simp only [List.getElem?_toArray, List.getElem?_cons_succ, List.getElem?_cons_zero]; exact rfl) rfl) rfl (fun K hK => ?_)
      refine wp_app1 w w' 24 2 _ _ Tryz.underlying24 info_i rfl (by omega) _ _ rfl A' j c' _ _ s1 (by omega) rfl _ h14 (by rfl) (by rfl) ?_
      intro A2 c2 w2 hM2 hgr
      refine hK.out _ _ ?_
      simp only [Act.put, List.setIfInBounds_toArray, List.set_cons_zero, List.set_cons_succ]
      refine any_one (j := 16) (by kernel_rfl) (Eq.trans (by simp only [List.getElem?_toArray, List.getElem?_cons_succ, List.getElem?_cons_zero]; exact rfl) rfl) (fun K hK => ?_)
      go_simp
      refine hK.out _ _ (wpAny_done (by kernel_rfl) ?_ _)
      clear W1 W2 s2 s3 hM
      go_wp2
      go_roundw
      case rel => exact ⟨j + 1, A2, c2, by omega, by go_num, rfl, by rw [HV.out]; simpa [MkI, ints] using hM2⟩
      case measure => simp [intOf]; omega
    · go_wp2
      go_ret
      obtain rfl : j = n := by omega
      exact ⟨_, _, rfl, by unfold plusL; rw [Hx.out]; exact hM⟩
end Go.Proofs.YtggigolkncckoaaGreat

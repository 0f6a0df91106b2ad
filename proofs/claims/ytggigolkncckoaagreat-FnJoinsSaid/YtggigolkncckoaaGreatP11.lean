/-
  LawFnJoins: part 11 of the texts that the proof needs. No condition.
-/
import Derived.Test.YtggigolkncckoaaGreatP10
namespace Go.Proofs.YtggigolkncckoaaGreat
open Go.RowKit
/-- The value is a list of n numbers of the field that was made since the heap had B blocks. -/
def VLs (B n : Nat) (P : Int) : VP := ⟨fun v w => ∃ (A : Option Addr) (c : Nat) (xs : List Int), v = .slice A n c ∧ xs.length = n ∧ NumsL P xs ∧ Own w B 2 A n c (ints xs), fun _ _ _ ⟨A, c, xs, e, hl, hn, ho⟩ hb => ⟨A, c, xs, e, hl, hn, ho.below hb⟩⟩
theorem VLs.dr {B n g : Nat} {P : Int} {T : TypeId} {v : Value} {w w' : World} (h : (VLs B n P).p v w) (d : Dr g T w w') (hT : 2 ≠ T) : (VLs B n P).p v w' := by
  obtain ⟨A, c, xs, e, hl, hn, ho⟩ := h
  refine ⟨A, c, xs, e, ?_, hn, ho.dr d hT⟩
  exact hl
/-- The value is a place. -/
def VIx (n : Nat) : VP := ⟨fun v _ => ∃ i : Nat, v = .int .i64 i ∧ i < n, fun _ _ _ h _ => h⟩
/-- The value is a pointer to the place x of block g. -/
def VPt (g n : Nat) (x : Value) : VP := ⟨fun v _ => ∃ i : Nat, x = .int .i64 i ∧ i < n ∧ v = .pointer (some ⟨g, i, none⟩), fun _ _ _ h _ => h⟩
theorem nums_of {P : Int} {xs : List Int} (hp : 1 ≤ P) (h : ∀ x ∈ xs, 0 ≤ x ∧ (1 ≤ P → x < P)) : NumsL P xs := fun x hx => ⟨(h x hx).1, (h x hx).2 hp⟩
set_option maxHeartbeats 6400000 in
set_option maxRecDepth 8000 in
theorem l04Draw_any (g : Nat) (P : Int) (A : Option Addr) (n c : Nat) (sq : List Int) (w : World) (hs : Src w g 143) (hp : 2 ≤ P) (hp2 : P ≤ 13) (hn : n ≤ 6) (h0 : 0 < n) (ho : Own w 0 2 A n c (ints sq)) (hq : NumsL P sq) :
    Calls Tryz.prog 305 #[.pointer (some ⟨g, 0, none⟩), .agg #[.int .i64 P, .slice A n c]] w fun e w' => ∃ (A' : Option Addr) (c' : Nat), e = .returned (.slice A' (pw n) c') ∧ (∃ xs : List Int, Own w' w.heap.size 2 A' (pw n) c' (ints xs)) ∧ Dr g 143 w w' := by
  have hpw : pw n ≤ 64 := pw_le hn
  have hpn := pw_pos n
  have k0 : Blk (w.alloc (.cells #[.int .i64 P, .slice A n c] 26)) w.heap.size 26 #[.int .i64 P, .slice A n c] := Blk.new _ _ _
  have d0 := (Dr.refl hs).alloc (.cells #[.int .i64 P, .slice A n c] 26)
  have o0 := ho.below ((Below.refl _ _).alloc (Nat.le_refl _) (.cells #[.int .i64 P, .slice A n c] 26))
  have HQ := Lib.hid hq
  have hSQ : ∀ gb, (Value.slice A n c).ownBlock = some gb → gb < w.heap.size := fun gb e => (World.ownsRow.lt ho gb e).2
  obtain ⟨q0, q1⟩ := k0.two
  have hz := l04Zero_any P A n c (w.alloc (.cells #[.int .i64 P, .slice A n c] 26)) (by omega)
  go_enter Tryz.func305, Tryz.ntmps305
  go_wp2_with fail
  refine hz.mono ?_
  rintro e w2 ⟨A2, c2, rfl, hM2⟩
  have d2 := d0.then hM2.b
  have k2 := k0.below hM2.b k0.lt
  have o2 := o0.below hM2.b
  have hO2 := hM2.2.base (B' := w.heap.size) (by simp)
  have hnx := next_any g 5 w2 d2.s' (by omega)
  clear hz q0 q1 k0 d0 o0 hM2 ho
  obtain ⟨q0, q1⟩ := k2.two
  go_wp2_with fail
  refine hnx.mono ?_
  rintro e w3 ⟨r, rfl, hr1, hr2, hd3⟩
  have d3 := d2.trans hd3
  have k3 := k2.dr hd3 (by decide)
  have o3 := o2.dr hd3 (by decide)
  have hO3 := hO2.dr hd3 (by decide)
  clear hnx d2 k2 o2 hd3 hO2 q0 q1 hq
  by_cases h0' : r = 0
  · have e0 : (r == 0) = true := by simp [h0']
    obtain ⟨q0, q1⟩ := k3.two
    go_wp2
    refine wp_obsR 10 (Dr g 143) [[], [], [], [2], [], [4], [4, 5], [1, 2, 3, 4, 5, 6], [0, 1, 2, 3, 4, 5, 6, 7], [0, 1, 2, 3, 4, 5, 6, 7, 8]] [[], [], [], [], [], [], [], [99], [], []] (fun x => [VIs (.agg #[.int .i64 P, .slice A n c]), VIs (.pointer (some ⟨g, 0, none⟩)), VIs (.pointer (some ⟨w.heap.size, 0, none⟩)), VIs (.int .i64 (P)), VIs (.pointer (some ⟨w.heap.size, 1, none⟩)), VIs (.slice A n c), VIs (.int .i64 (n)), VLs w.heap.size (n) P, VLs w.heap.size (pw n) P, VLs w.heap.size (pw n) P]) (fun w' => Blk w' w.heap.size 26 #[.int .i64 P, .slice A n c] ∧ Own w' 0 2 A n c (ints sq) ∧ Dr g 143 w w') (by kernel_rfl) (by kernel_rfl) (fun x x' j hx => by
        rcases j with _ | _ | _ | _ | _ | _ | _ | _ | _ | _ | j
        · rfl
        · rfl
        · rfl
        · rfl
        · rfl
        · rfl
        · rfl
        · rfl
        · rfl
        · rfl
        · rfl)
      (weak_ofR [0, 1, 2, 3, 4, 5, 6, 7, 8, 9] (by decide) (fun k hk x v w w' hp hr => by
        simp only [List.mem_cons, List.not_mem_nil, or_false] at hk
        rcases hk with rfl | rfl | rfl | rfl | rfl | rfl | rfl | rfl | rfl | rfl
        · exact hp
        · exact hp
        · exact hp
        · exact hp
        · exact hp
        · exact hp
        · exact hp
        · exact VLs.dr hp hr (by decide)
        · exact VLs.dr hp hr (by decide)
        · exact VLs.dr hp hr (by decide))) (fun j _ _ h hb => hb.either (fun hb => ⟨h.1.below hb h.1.lt, h.2.1.below hb, h.2.2.then hb⟩) (fun hr => ⟨h.1.dr hr (by decide), h.2.1.dr hr (by decide), h.2.2.trans hr⟩)) (⟨k3.drew, o3.below (Below.refl _ _).drew, d3.then (Below.refl _ _).drew⟩) (fun x => ?_)
    refine obs_stepR (Eq.trans (by simp only [List.getElem?_toArray, List.getElem?_cons_zero]; exact rfl) rfl) rfl (fun w' hS hV K hK => ?_) ?_
    · obtain ⟨q0, q1⟩ := hS.1.two
      go_simp
      exact hK.out _ _ _ rfl rfl rfl (Below.refl _ _)
    simp only [List.setIfInBounds_toArray, List.set_cons_zero, List.set_cons_succ]
    refine obs_stepR (Eq.trans (by simp only [List.getElem?_toArray, List.getElem?_cons_succ, List.getElem?_cons_zero]; exact rfl) rfl) rfl (fun w' hS hV K hK => ?_) ?_
    · obtain ⟨q0, q1⟩ := hS.1.two
      go_simp
      exact hK.out _ _ _ rfl rfl rfl (Below.refl _ _)
    simp only [List.setIfInBounds_toArray, List.set_cons_zero, List.set_cons_succ]
    refine obs_stepR (Eq.trans (by simp only [List.getElem?_toArray, List.getElem?_cons_succ, List.getElem?_cons_zero]; exact rfl) rfl) rfl (fun w' hS hV K hK => ?_) ?_
    · obtain ⟨q0, q1⟩ := hS.1.two
      go_simp
      exact hK.out _ _ _ rfl rfl rfl (Below.refl _ _)
    simp only [List.setIfInBounds_toArray, List.set_cons_zero, List.set_cons_succ]
    refine obs_stepR (Eq.trans (by simp only [List.getElem?_toArray, List.getElem?_cons_succ, List.getElem?_cons_zero]; exact rfl) rfl) rfl (fun w' hS hV K hK => ?_) ?_
    · have e2 : x 2 = (.pointer (some ⟨w.heap.size, 0, none⟩)) := hV 2 (by decide)
      obtain ⟨q0, q1⟩ := hS.1.two
      go_simp
      exact hK.out _ _ _ rfl rfl rfl (Below.refl _ _)
    simp only [List.setIfInBounds_toArray, List.set_cons_zero, List.set_cons_succ]
    refine obs_stepR (Eq.trans (by simp only [List.getElem?_toArray, List.getElem?_cons_succ, List.getElem?_cons_zero]; exact rfl) rfl) rfl (fun w' hS hV K hK => ?_) ?_
    · obtain ⟨q0, q1⟩ := hS.1.two
      go_simp
      exact hK.out _ _ _ rfl rfl rfl (Below.refl _ _)
    simp only [List.setIfInBounds_toArray, List.set_cons_zero, List.set_cons_succ]
    refine obs_stepR (Eq.trans (by simp only [List.getElem?_toArray, List.getElem?_cons_succ, List.getElem?_cons_zero]; exact rfl) rfl) rfl (fun w' hS hV K hK => ?_) ?_
    · have e4 : x 4 = (.pointer (some ⟨w.heap.size, 1, none⟩)) := hV 4 (by decide)
      obtain ⟨q0, q1⟩ := hS.1.two
      go_simp
      exact hK.out _ _ _ rfl rfl rfl (Below.refl _ _)
    simp only [List.setIfInBounds_toArray, List.set_cons_zero, List.set_cons_succ]
    refine obs_stepR (Eq.trans (by simp only [List.getElem?_toArray, List.getElem?_cons_succ, List.getElem?_cons_zero]; exact rfl) rfl) rfl (fun w' hS hV K hK => ?_) ?_
    · have e4 : x 4 = (.pointer (some ⟨w.heap.size, 1, none⟩)) := hV 4 (by decide)
      have e5 : x 5 = (.slice A n c) := hV 5 (by decide)
      obtain ⟨q0, q1⟩ := hS.1.two
      go_simp
      exact hK.out _ _ _ rfl rfl rfl (Below.refl _ _)
    simp only [List.setIfInBounds_toArray, List.set_cons_zero, List.set_cons_succ]
    refine obs_stepR (Eq.trans (by simp only [List.getElem?_toArray, List.getElem?_cons_succ, List.getElem?_cons_zero]; exact rfl) rfl) rfl (fun w' hS hV K hK => ?_) ?_
    · have e1 : x 1 = (.pointer (some ⟨g, 0, none⟩)) := hV 1 (by decide)
      have e2 : x 2 = (.pointer (some ⟨w.heap.size, 0, none⟩)) := hV 2 (by decide)
      have e3 : x 3 = (.int .i64 (P)) := hV 3 (by decide)
      have e4 : x 4 = (.pointer (some ⟨w.heap.size, 1, none⟩)) := hV 4 (by decide)
      have e5 : x 5 = (.slice A n c) := hV 5 (by decide)
      have e6 : x 6 = (.int .i64 (n)) := hV 6 (by decide)
      obtain ⟨q0, q1⟩ := hS.1.two
      go_simp
      refine (nextList_any g P (n) w' hS.2.2.s' (by omega) (by omega)).mono ?_
      rintro e v1 ⟨A9, c9, xs9, rfl, hl9, hx9, ho9, hd9⟩
      exact hK.out _ _ _ rfl rfl ⟨_, _, xs9, rfl, hl9, nums_of (by omega) hx9, ho9.base hS.2.2.size⟩ hd9
    simp only [List.setIfInBounds_toArray, List.set_cons_zero, List.set_cons_succ]
    refine obs_stepR (Eq.trans (by simp only [List.getElem?_toArray, List.getElem?_cons_succ, List.getElem?_cons_zero]; exact rfl) rfl) rfl (fun w' hS hV K hK => ?_) ?_
    · have e0 : x 0 = (.agg #[.int .i64 P, .slice A n c]) := hV 0 (by decide)
      have e1 : x 1 = (.pointer (some ⟨g, 0, none⟩)) := hV 1 (by decide)
      have e2 : x 2 = (.pointer (some ⟨w.heap.size, 0, none⟩)) := hV 2 (by decide)
      have e3 : x 3 = (.int .i64 (P)) := hV 3 (by decide)
      have e4 : x 4 = (.pointer (some ⟨w.heap.size, 1, none⟩)) := hV 4 (by decide)
      have e5 : x 5 = (.slice A n c) := hV 5 (by decide)
      have e6 : x 6 = (.int .i64 (n)) := hV 6 (by decide)
      obtain ⟨A7, c7, X7, e7, l7, n7, h7⟩ := hV 7 (by decide)
      obtain ⟨q0, q1⟩ := hS.1.two
      go_simp
      refine (l04Vector_any P A n c A7 c7 X7 w' (by omega) h7.rd).mono ?_
      rintro e v1 ⟨A9, c9, rfl, hM⟩
      exact hK.out _ _ _ rfl rfl ⟨_, _, _, rfl, vecTo_len _ _ _, vecTo_nums (by omega) n X7 n7 n, hM.2.base hS.2.2.size⟩ hM.b
    simp only [List.setIfInBounds_toArray, List.set_cons_zero, List.set_cons_succ]
    refine obs_stepR (Eq.trans (by simp only [List.getElem?_toArray, List.getElem?_cons_succ, List.getElem?_cons_zero]; exact rfl) rfl) rfl (fun w' hS hV K hK => ?_) ?_
    · have e0 : x 0 = (.agg #[.int .i64 P, .slice A n c]) := hV 0 (by decide)
      have e1 : x 1 = (.pointer (some ⟨g, 0, none⟩)) := hV 1 (by decide)
      have e2 : x 2 = (.pointer (some ⟨w.heap.size, 0, none⟩)) := hV 2 (by decide)
      have e3 : x 3 = (.int .i64 (P)) := hV 3 (by decide)
      have e4 : x 4 = (.pointer (some ⟨w.heap.size, 1, none⟩)) := hV 4 (by decide)
      have e5 : x 5 = (.slice A n c) := hV 5 (by decide)
      have e6 : x 6 = (.int .i64 (n)) := hV 6 (by decide)
      obtain ⟨A7, c7, X7, e7, l7, n7, h7⟩ := hV 7 (by decide)
      obtain ⟨A8, c8, X8, e8, l8, n8, h8⟩ := hV 8 (by decide)
      obtain ⟨q0, q1⟩ := hS.1.two
      go_simp
      exact hK.out _ _ _ rfl rfl ⟨_, _, X8, rfl, l8, n8, h8⟩ (Below.refl _ _)
    simp only [List.setIfInBounds_toArray, List.set_cons_zero, List.set_cons_succ]
    refine fun w' hS hV => ?_
    have e0 : x 0 = (.agg #[.int .i64 P, .slice A n c]) := hV 0 (by decide)
    have e1 : x 1 = (.pointer (some ⟨g, 0, none⟩)) := hV 1 (by decide)
    have e2 : x 2 = (.pointer (some ⟨w.heap.size, 0, none⟩)) := hV 2 (by decide)
    have e3 : x 3 = (.int .i64 (P)) := hV 3 (by decide)
    have e4 : x 4 = (.pointer (some ⟨w.heap.size, 1, none⟩)) := hV 4 (by decide)
    have e5 : x 5 = (.slice A n c) := hV 5 (by decide)
    have e6 : x 6 = (.int .i64 (n)) := hV 6 (by decide)
    obtain ⟨A7, c7, X7, e7, l7, n7, h7⟩ := hV 7 (by decide)
    obtain ⟨A8, c8, X8, e8, l8, n8, h8⟩ := hV 8 (by decide)
    obtain ⟨A9, c9, X9, e9, l9, n9, h9⟩ := hV 9 (by decide)
    simp only [e0, e1, e2, e3, e4, e5, e6, e7, e8, e9]
    clear e0 e1 e2 e3 e4 e5 e6 e7 e8 e9
    refine wpAny_done (by kernel_rfl) ?_ _
    obtain ⟨_, _, d9⟩ := hS
    go_wp2
    go_ret
    exact ⟨_, _, rfl, ⟨X9, h9⟩, d9⟩
  · have e0 : (r == 0) = false := by simp [h0']
    by_cases h1 : r = 1
    · have e1 : (r == 1) = true := by simp [h1]
      obtain ⟨q0, q1⟩ := k3.two
      go_wp2_with fail
      refine (l04One_any P A n c w3 (by omega)).mono ?_
      rintro e w4 ⟨A4, c4, rfl, hM4⟩
      have d4 := d3.then hM4.b
      have k4 := k3.below hM4.b k3.lt
      have o4 := o3.below hM4.b
      have h4 := hM4.2.base (B' := w.heap.size) d3.size
      have hnx := next_any g 4 w4 d4.s' (by omega)
      clear hM4 d3 k3 o3 hO3 q0 q1
      go_wp2_with fail
      refine hnx.mono ?_
      rintro e w5 ⟨rr, rfl, hr3, hr4, hd5⟩
      obtain ⟨rn, rfl⟩ : ∃ rn : Nat, rr = rn := ⟨rr.toNat, by omega⟩
      have d5 := d4.trans hd5
      have k5 := k4.dr hd5 (by decide)
      have o5 := o4.dr hd5 (by decide)
      have h5 := h4.dr hd5 (by decide)
      clear hnx d4 k4 o4 h4 hd5
      have hbn := bladeL_nums hp n 0
      have hbl := bladeL_len n 0
      go_wp2
      go_loopw [5, 6] (fun out q wr => ∃ (m : Nat) (A5 : Option Addr) (c5 : Nat) (X5 : List Int), m ≤ 4 ∧ q = .int .i64 m ∧ out = .slice A5 (pw n) c5 ∧ X5.length = pw n ∧ NumsL P X5 ∧ Own wr w.heap.size 2 A5 (pw n) c5 (ints X5) ∧ Blk wr w.heap.size 26 #[.int .i64 P, .slice A n c] ∧ Own wr 0 2 A n c (ints sq) ∧ Dr g 143 w wr) (fun _ q _ => (intOf q).toNat)
      case atStart => exact ⟨rn, _, _, _, by omega, rfl, rfl, hbl, hbn, h5, k5, o5, d5⟩
      case round =>
        clear h5 k5 o5 d5 hbn hbl
        obtain ⟨m, A5, c5, X5, hm4, rfl, rfl, hl5, hn5, h5, k5, o5, d5⟩ := hrel
        have HN5 := Lib.hid hn5
        have HL5 := Lib.hid hl5
        clear hn5 hl5
        cases m with
        | zero =>
          go_wp2
          go_ret
          exact ⟨_, _, rfl, ⟨X5, h5⟩, d5⟩
        | succ m =>
          have d1 : decide (0 < ((m + 1 : Nat) : Int)) = true := by rw [decide_eq_true_eq]; omega
          have WM : wrap64 (((m + 1 : Nat) : Int) - 1) = (m : Int) := by unfold wrap64; omega
          obtain ⟨q0, q1⟩ := k5.two
          go_wp2
          refine wp_obsR 12 (Dr g 143) [[], [], [], [], [], [4], [], [6], [6, 7], [3, 4, 5, 6, 7, 8], [2, 3, 4, 5, 6, 7, 8, 9], [0, 1, 2, 3, 4, 5, 6, 7, 8, 9, 10], [0, 1, 2, 3, 4, 5, 6, 7, 8, 9, 10, 11]] [[], [], [], [], [], [], [], [], [], [99], [], []] (fun x => [VIs (.agg #[.int .i64 P, .slice A n c]), VIs (.slice A5 (pw n) c5), VIs (.agg #[.int .i64 P, .slice A n c]), VIs (.pointer (some ⟨g, 0, none⟩)), VIs (.pointer (some ⟨w.heap.size, 0, none⟩)), VIs (.int .i64 (P)), VIs (.pointer (some ⟨w.heap.size, 1, none⟩)), VIs (.slice A n c), VIs (.int .i64 (n)), VLs w.heap.size (n) P, VLs w.heap.size (pw n) P, VLs w.heap.size (pw n) P]) (fun w' => Blk w' w.heap.size 26 #[.int .i64 P, .slice A n c] ∧ Own w' 0 2 A n c (ints sq) ∧ Dr g 143 w w' ∧ Own w' w.heap.size 2 A5 (pw n) c5 (ints X5)) (by kernel_rfl) (by kernel_rfl) (fun x x' j hx => by
              rcases j with _ | _ | _ | _ | _ | _ | _ | _ | _ | _ | _ | _ | j
              · rfl
              · rfl
              · rfl
              · rfl
              · rfl
              · rfl
              · rfl
              · rfl
              · rfl
              · rfl
              · rfl
              · rfl
              · rfl)
            (weak_ofR [0, 1, 2, 3, 4, 5, 6, 7, 8, 9, 10, 11] (by decide) (fun k hk x v w w' hp hr => by
              simp only [List.mem_cons, List.not_mem_nil, or_false] at hk
              rcases hk with rfl | rfl | rfl | rfl | rfl | rfl | rfl | rfl | rfl | rfl | rfl | rfl
              · exact hp
              · exact hp
              · exact hp
              · exact hp
              · exact hp
              · exact hp
              · exact hp
              · exact hp
              · exact hp
              · exact VLs.dr hp hr (by decide)
              · exact VLs.dr hp hr (by decide)
              · exact VLs.dr hp hr (by decide))) (fun j _ _ h hb => hb.either (fun hb => ⟨h.1.below hb h.1.lt, h.2.1.below hb, h.2.2.1.then hb, h.2.2.2.below hb⟩) (fun hr => ⟨h.1.dr hr (by decide), h.2.1.dr hr (by decide), h.2.2.1.trans hr, h.2.2.2.dr hr (by decide)⟩)) (⟨k5.drew, o5.below (Below.refl _ _).drew, d5.then (Below.refl _ _).drew, h5.below (Below.refl _ _).drew⟩) (fun x => ?_)
          refine obs_stepR (Eq.trans (by simp only [List.getElem?_toArray, List.getElem?_cons_zero]; exact rfl) rfl) rfl (fun w' hS hV K hK => ?_) ?_
          · obtain ⟨q0, q1⟩ := hS.1.two
            go_simp
            exact hK.out _ _ _ rfl rfl rfl (Below.refl _ _)
          simp only [List.setIfInBounds_toArray, List.set_cons_zero, List.set_cons_succ]
          refine obs_stepR (Eq.trans (by simp only [List.getElem?_toArray, List.getElem?_cons_succ, List.getElem?_cons_zero]; exact rfl) rfl) rfl (fun w' hS hV K hK => ?_) ?_
          · obtain ⟨q0, q1⟩ := hS.1.two
            go_simp
            exact hK.out _ _ _ rfl rfl rfl (Below.refl _ _)
          simp only [List.setIfInBounds_toArray, List.set_cons_zero, List.set_cons_succ]
          refine obs_stepR (Eq.trans (by simp only [List.getElem?_toArray, List.getElem?_cons_succ, List.getElem?_cons_zero]; exact rfl) rfl) rfl (fun w' hS hV K hK => ?_) ?_
          · obtain ⟨q0, q1⟩ := hS.1.two
            go_simp
            exact hK.out _ _ _ rfl rfl rfl (Below.refl _ _)
          simp only [List.setIfInBounds_toArray, List.set_cons_zero, List.set_cons_succ]
          refine obs_stepR (Eq.trans (by simp only [List.getElem?_toArray, List.getElem?_cons_succ, List.getElem?_cons_zero]; exact rfl) rfl) rfl (fun w' hS hV K hK => ?_) ?_
          · obtain ⟨q0, q1⟩ := hS.1.two
            go_simp
            exact hK.out _ _ _ rfl rfl rfl (Below.refl _ _)
          simp only [List.setIfInBounds_toArray, List.set_cons_zero, List.set_cons_succ]
          refine obs_stepR (Eq.trans (by simp only [List.getElem?_toArray, List.getElem?_cons_succ, List.getElem?_cons_zero]; exact rfl) rfl) rfl (fun w' hS hV K hK => ?_) ?_
          · obtain ⟨q0, q1⟩ := hS.1.two
            go_simp
            exact hK.out _ _ _ rfl rfl rfl (Below.refl _ _)
          simp only [List.setIfInBounds_toArray, List.set_cons_zero, List.set_cons_succ]
          refine obs_stepR (Eq.trans (by simp only [List.getElem?_toArray, List.getElem?_cons_succ, List.getElem?_cons_zero]; exact rfl) rfl) rfl (fun w' hS hV K hK => ?_) ?_
          · have e4 : x 4 = (.pointer (some ⟨w.heap.size, 0, none⟩)) := hV 4 (by decide)
            obtain ⟨q0, q1⟩ := hS.1.two
            go_simp
            exact hK.out _ _ _ rfl rfl rfl (Below.refl _ _)
          simp only [List.setIfInBounds_toArray, List.set_cons_zero, List.set_cons_succ]
          refine obs_stepR (Eq.trans (by simp only [List.getElem?_toArray, List.getElem?_cons_succ, List.getElem?_cons_zero]; exact rfl) rfl) rfl (fun w' hS hV K hK => ?_) ?_
          · obtain ⟨q0, q1⟩ := hS.1.two
            go_simp
            exact hK.out _ _ _ rfl rfl rfl (Below.refl _ _)
          simp only [List.setIfInBounds_toArray, List.set_cons_zero, List.set_cons_succ]
          refine obs_stepR (Eq.trans (by simp only [List.getElem?_toArray, List.getElem?_cons_succ, List.getElem?_cons_zero]; exact rfl) rfl) rfl (fun w' hS hV K hK => ?_) ?_
          · have e6 : x 6 = (.pointer (some ⟨w.heap.size, 1, none⟩)) := hV 6 (by decide)
            obtain ⟨q0, q1⟩ := hS.1.two
            go_simp
            exact hK.out _ _ _ rfl rfl rfl (Below.refl _ _)
          simp only [List.setIfInBounds_toArray, List.set_cons_zero, List.set_cons_succ]
          refine obs_stepR (Eq.trans (by simp only [List.getElem?_toArray, List.getElem?_cons_succ, List.getElem?_cons_zero]; exact rfl) rfl) rfl (fun w' hS hV K hK => ?_) ?_
          · have e6 : x 6 = (.pointer (some ⟨w.heap.size, 1, none⟩)) := hV 6 (by decide)
            have e7 : x 7 = (.slice A n c) := hV 7 (by decide)
            obtain ⟨q0, q1⟩ := hS.1.two
            go_simp
            exact hK.out _ _ _ rfl rfl rfl (Below.refl _ _)
          simp only [List.setIfInBounds_toArray, List.set_cons_zero, List.set_cons_succ]
          refine obs_stepR (Eq.trans (by simp only [List.getElem?_toArray, List.getElem?_cons_succ, List.getElem?_cons_zero]; exact rfl) rfl) rfl (fun w' hS hV K hK => ?_) ?_
          · have e3 : x 3 = (.pointer (some ⟨g, 0, none⟩)) := hV 3 (by decide)
            have e4 : x 4 = (.pointer (some ⟨w.heap.size, 0, none⟩)) := hV 4 (by decide)
            have e5 : x 5 = (.int .i64 (P)) := hV 5 (by decide)
            have e6 : x 6 = (.pointer (some ⟨w.heap.size, 1, none⟩)) := hV 6 (by decide)
            have e7 : x 7 = (.slice A n c) := hV 7 (by decide)
            have e8 : x 8 = (.int .i64 (n)) := hV 8 (by decide)
            obtain ⟨q0, q1⟩ := hS.1.two
            go_simp
            refine (nextList_any g P (n) w' hS.2.2.1.s' (by omega) (by omega)).mono ?_
            rintro e v1 ⟨A9, c9, xs9, rfl, hl9, hx9, ho9, hd9⟩
            exact hK.out _ _ _ rfl rfl ⟨_, _, xs9, rfl, hl9, nums_of (by omega) hx9, ho9.base hS.2.2.1.size⟩ hd9
          simp only [List.setIfInBounds_toArray, List.set_cons_zero, List.set_cons_succ]
          refine obs_stepR (Eq.trans (by simp only [List.getElem?_toArray, List.getElem?_cons_succ, List.getElem?_cons_zero]; exact rfl) rfl) rfl (fun w' hS hV K hK => ?_) ?_
          · have e2 : x 2 = (.agg #[.int .i64 P, .slice A n c]) := hV 2 (by decide)
            have e3 : x 3 = (.pointer (some ⟨g, 0, none⟩)) := hV 3 (by decide)
            have e4 : x 4 = (.pointer (some ⟨w.heap.size, 0, none⟩)) := hV 4 (by decide)
            have e5 : x 5 = (.int .i64 (P)) := hV 5 (by decide)
            have e6 : x 6 = (.pointer (some ⟨w.heap.size, 1, none⟩)) := hV 6 (by decide)
            have e7 : x 7 = (.slice A n c) := hV 7 (by decide)
            have e8 : x 8 = (.int .i64 (n)) := hV 8 (by decide)
            obtain ⟨A9, c9, X9, e9, l9, n9, h9⟩ := hV 9 (by decide)
            obtain ⟨q0, q1⟩ := hS.1.two
            go_simp
            refine (l04Vector_any P A n c A9 c9 X9 w' (by omega) h9.rd).mono ?_
            rintro e v1 ⟨A9, c9, rfl, hM⟩
            exact hK.out _ _ _ rfl rfl ⟨_, _, _, rfl, vecTo_len _ _ _, vecTo_nums (by omega) n X9 n9 n, hM.2.base hS.2.2.1.size⟩ hM.b
          simp only [List.setIfInBounds_toArray, List.set_cons_zero, List.set_cons_succ]
          refine obs_stepR (Eq.trans (by simp only [List.getElem?_toArray, List.getElem?_cons_succ, List.getElem?_cons_zero]; exact rfl) rfl) rfl (fun w' hS hV K hK => ?_) ?_
          · have e0 : x 0 = (.agg #[.int .i64 P, .slice A n c]) := hV 0 (by decide)
            have e1 : x 1 = (.slice A5 (pw n) c5) := hV 1 (by decide)
            have e2 : x 2 = (.agg #[.int .i64 P, .slice A n c]) := hV 2 (by decide)
            have e3 : x 3 = (.pointer (some ⟨g, 0, none⟩)) := hV 3 (by decide)
            have e4 : x 4 = (.pointer (some ⟨w.heap.size, 0, none⟩)) := hV 4 (by decide)
            have e5 : x 5 = (.int .i64 (P)) := hV 5 (by decide)
            have e6 : x 6 = (.pointer (some ⟨w.heap.size, 1, none⟩)) := hV 6 (by decide)
            have e7 : x 7 = (.slice A n c) := hV 7 (by decide)
            have e8 : x 8 = (.int .i64 (n)) := hV 8 (by decide)
            obtain ⟨A9, c9, X9, e9, l9, n9, h9⟩ := hV 9 (by decide)
            obtain ⟨A10, c10, X10, e10, l10, n10, h10⟩ := hV 10 (by decide)
            obtain ⟨q0, q1⟩ := hS.1.two
            go_simp
            refine (l04Times_any P A n c sq A5 c5 X5 A10 c10 X10 w' hp hp2 hn hS.2.1.rd HQ.out (hS.2.2.2.rd) HN5.out h10.rd n10).mono ?_
            rintro e v1 ⟨A9, c9, rfl, hM⟩
            exact hK.out _ _ _ rfl rfl ⟨_, _, _, rfl, by rw [prodL_len]; exact HL5.out, prodL_nums sq _ _ _ (by omega), hM.2.base hS.2.2.1.size⟩ hM.b
          simp only [List.setIfInBounds_toArray, List.set_cons_zero, List.set_cons_succ]
          refine fun w' hS hV => ?_
          have e0 : x 0 = (.agg #[.int .i64 P, .slice A n c]) := hV 0 (by decide)
          have e1 : x 1 = (.slice A5 (pw n) c5) := hV 1 (by decide)
          have e2 : x 2 = (.agg #[.int .i64 P, .slice A n c]) := hV 2 (by decide)
          have e3 : x 3 = (.pointer (some ⟨g, 0, none⟩)) := hV 3 (by decide)
          have e4 : x 4 = (.pointer (some ⟨w.heap.size, 0, none⟩)) := hV 4 (by decide)
          have e5 : x 5 = (.int .i64 (P)) := hV 5 (by decide)
          have e6 : x 6 = (.pointer (some ⟨w.heap.size, 1, none⟩)) := hV 6 (by decide)
          have e7 : x 7 = (.slice A n c) := hV 7 (by decide)
          have e8 : x 8 = (.int .i64 (n)) := hV 8 (by decide)
          obtain ⟨A9, c9, X9, e9, l9, n9, h9⟩ := hV 9 (by decide)
          obtain ⟨A10, c10, X10, e10, l10, n10, h10⟩ := hV 10 (by decide)
          obtain ⟨A11, c11, X11, e11, l11, n11, h11⟩ := hV 11 (by decide)
          simp only [e0, e1, e2, e3, e4, e5, e6, e7, e8, e9, e10, e11]
          clear e0 e1 e2 e3 e4 e5 e6 e7 e8 e9 e10 e11
          obtain ⟨k6, o6, d6, _⟩ := hS
          refine any_one (j := 12) (by kernel_rfl) (Eq.trans (by simp only [List.getElem?_toArray, List.getElem?_cons_succ, List.getElem?_cons_zero]; exact rfl) rfl) (fun K hK => ?_)
          go_simp
          refine hK.out _ _ (wpAny_done (by kernel_rfl) ?_ _)
          clear q0 q1 k5 o5 d5 h5
          go_wp2
          go_roundw
          case rel => exact ⟨m, _, _, X11, by omega, by go_num, rfl, l11, n11, h11, k6, o6, d6⟩
          case measure => simp [intOf]
    · have e1 : (r == 1) = false := by simp [h1]
      by_cases h2 : r = 2
      · have e2 : (r == 2) = true := by simp [h2]
        have hnx := next_any g ((n : Int) + 1) w3 d3.s' (by omega)
        have W1 : wrap64 ((n : Int) + 1) = (n : Int) + 1 := by unfold wrap64; omega
        obtain ⟨q0, q1⟩ := k3.two
        go_wp2_with fail
        refine hnx.mono ?_
        rintro e w4 ⟨rr, rfl, hr3, hr4, hd4⟩
        have hr5 := hr4 (by omega)
        obtain ⟨rn, rfl⟩ : ∃ rn : Nat, rr = rn := ⟨rr.toNat, by omega⟩
        have d4 := d3.trans hd4
        have k4 := k3.dr hd4 (by decide)
        have o4 := o3.dr hd4 (by decide)
        clear hnx d3 k3 o3 hd4 q0 q1
        obtain ⟨q0, q1⟩ := k4.two
        go_wp2
        refine wp_obsR 9 (Dr g 143) [[], [], [1], [], [3], [0, 1, 2, 3, 4], [], [0, 1, 2, 3, 4, 5, 6], [0, 1, 2, 3, 4, 5, 6, 7]] [[], [], [], [], [], [99], [], [], []] (fun x => [VIs (.pointer (some ⟨g, 0, none⟩)), VIs (.pointer (some ⟨w.heap.size, 0, none⟩)), VIs (.int .i64 (P)), VIs (.agg #[.int .i64 P, .slice A n c]), VIs (.int .i64 (pw n)), VLs w.heap.size (pw n) P, VIs (.int .i64 (rn)), VLs w.heap.size (pw n) P, VLs w.heap.size (pw n) P]) (fun w' => Blk w' w.heap.size 26 #[.int .i64 P, .slice A n c] ∧ Own w' 0 2 A n c (ints sq) ∧ Dr g 143 w w') (by kernel_rfl) (by kernel_rfl) (fun x x' j hx => by
            rcases j with _ | _ | _ | _ | _ | _ | _ | _ | _ | j
            · rfl
            · rfl
            · rfl
            · rfl
            · rfl
            · rfl
            · rfl
            · rfl
            · rfl
            · rfl)
          (weak_ofR [0, 1, 2, 3, 4, 5, 6, 7, 8] (by decide) (fun k hk x v w w' hp hr => by
            simp only [List.mem_cons, List.not_mem_nil, or_false] at hk
            rcases hk with rfl | rfl | rfl | rfl | rfl | rfl | rfl | rfl | rfl
            · exact hp
            · exact hp
            · exact hp
            · exact hp
            · exact hp
            · exact VLs.dr hp hr (by decide)
            · exact hp
            · exact VLs.dr hp hr (by decide)
            · exact VLs.dr hp hr (by decide))) (fun j _ _ h hb => hb.either (fun hb => ⟨h.1.below hb h.1.lt, h.2.1.below hb, h.2.2.then hb⟩) (fun hr => ⟨h.1.dr hr (by decide), h.2.1.dr hr (by decide), h.2.2.trans hr⟩)) (⟨k4.drew, o4.below (Below.refl _ _).drew, d4.then (Below.refl _ _).drew⟩) (fun x => ?_)
        refine obs_stepR (Eq.trans (by simp only [List.getElem?_toArray, List.getElem?_cons_zero]; exact rfl) rfl) rfl (fun w' hS hV K hK => ?_) ?_
        · obtain ⟨q0, q1⟩ := hS.1.two
          go_simp
          exact hK.out _ _ _ rfl rfl rfl (Below.refl _ _)
        simp only [List.setIfInBounds_toArray, List.set_cons_zero, List.set_cons_succ]
        refine obs_stepR (Eq.trans (by simp only [List.getElem?_toArray, List.getElem?_cons_succ, List.getElem?_cons_zero]; exact rfl) rfl) rfl (fun w' hS hV K hK => ?_) ?_
        · obtain ⟨q0, q1⟩ := hS.1.two
          go_simp
          exact hK.out _ _ _ rfl rfl rfl (Below.refl _ _)
        simp only [List.setIfInBounds_toArray, List.set_cons_zero, List.set_cons_succ]
        refine obs_stepR (Eq.trans (by simp only [List.getElem?_toArray, List.getElem?_cons_succ, List.getElem?_cons_zero]; exact rfl) rfl) rfl (fun w' hS hV K hK => ?_) ?_
        · have e1 : x 1 = (.pointer (some ⟨w.heap.size, 0, none⟩)) := hV 1 (by decide)
          obtain ⟨q0, q1⟩ := hS.1.two
          go_simp
          exact hK.out _ _ _ rfl rfl rfl (Below.refl _ _)
        simp only [List.setIfInBounds_toArray, List.set_cons_zero, List.set_cons_succ]
        refine obs_stepR (Eq.trans (by simp only [List.getElem?_toArray, List.getElem?_cons_succ, List.getElem?_cons_zero]; exact rfl) rfl) rfl (fun w' hS hV K hK => ?_) ?_
        · obtain ⟨q0, q1⟩ := hS.1.two
          go_simp
          exact hK.out _ _ _ rfl rfl rfl (Below.refl _ _)
        simp only [List.setIfInBounds_toArray, List.set_cons_zero, List.set_cons_succ]
        refine obs_stepR (Eq.trans (by simp only [List.getElem?_toArray, List.getElem?_cons_succ, List.getElem?_cons_zero]; exact rfl) rfl) rfl (fun w' hS hV K hK => ?_) ?_
        · have e3 : x 3 = (.agg #[.int .i64 P, .slice A n c]) := hV 3 (by decide)
          obtain ⟨q0, q1⟩ := hS.1.two
          go_simp
          refine (l04Size_any P A n c w' (by omega)).mono ?_
          rintro e v1 ⟨rfl, hb⟩
          exact hK.out _ _ _ rfl rfl rfl hb
        simp only [List.setIfInBounds_toArray, List.set_cons_zero, List.set_cons_succ]
        refine obs_stepR (Eq.trans (by simp only [List.getElem?_toArray, List.getElem?_cons_succ, List.getElem?_cons_zero]; exact rfl) rfl) rfl (fun w' hS hV K hK => ?_) ?_
        · have e0 : x 0 = (.pointer (some ⟨g, 0, none⟩)) := hV 0 (by decide)
          have e1 : x 1 = (.pointer (some ⟨w.heap.size, 0, none⟩)) := hV 1 (by decide)
          have e2 : x 2 = (.int .i64 (P)) := hV 2 (by decide)
          have e3 : x 3 = (.agg #[.int .i64 P, .slice A n c]) := hV 3 (by decide)
          have e4 : x 4 = (.int .i64 (pw n)) := hV 4 (by decide)
          obtain ⟨q0, q1⟩ := hS.1.two
          go_simp
          refine (nextList_any g P (pw n) w' hS.2.2.s' (by omega) (by omega)).mono ?_
          rintro e v1 ⟨A9, c9, xs9, rfl, hl9, hx9, ho9, hd9⟩
          exact hK.out _ _ _ rfl rfl ⟨_, _, xs9, rfl, hl9, nums_of (by omega) hx9, ho9.base hS.2.2.size⟩ hd9
        simp only [List.setIfInBounds_toArray, List.set_cons_zero, List.set_cons_succ]
        refine obs_stepR (Eq.trans (by simp only [List.getElem?_toArray, List.getElem?_cons_succ, List.getElem?_cons_zero]; exact rfl) rfl) rfl (fun w' hS hV K hK => ?_) ?_
        · obtain ⟨q0, q1⟩ := hS.1.two
          go_simp
          exact hK.out _ _ _ rfl rfl rfl (Below.refl _ _)
        simp only [List.setIfInBounds_toArray, List.set_cons_zero, List.set_cons_succ]
        refine obs_stepR (Eq.trans (by simp only [List.getElem?_toArray, List.getElem?_cons_succ, List.getElem?_cons_zero]; exact rfl) rfl) rfl (fun w' hS hV K hK => ?_) ?_
        · have e0 : x 0 = (.pointer (some ⟨g, 0, none⟩)) := hV 0 (by decide)
          have e1 : x 1 = (.pointer (some ⟨w.heap.size, 0, none⟩)) := hV 1 (by decide)
          have e2 : x 2 = (.int .i64 (P)) := hV 2 (by decide)
          have e3 : x 3 = (.agg #[.int .i64 P, .slice A n c]) := hV 3 (by decide)
          have e4 : x 4 = (.int .i64 (pw n)) := hV 4 (by decide)
          obtain ⟨A5, c5, X5, e5, l5, n5, h5⟩ := hV 5 (by decide)
          have e6 : x 6 = (.int .i64 (rn)) := hV 6 (by decide)
          obtain ⟨q0, q1⟩ := hS.1.two
          go_simp
          refine (l04Part_any A5 (pw n) c5 X5 rn w' (by omega) (by omega) h5.rd).mono ?_
          rintro e v1 ⟨A9, c9, rfl, hM⟩
          exact hK.out _ _ _ rfl rfl ⟨_, _, _, rfl, by rw [partG_len]; exact l5, partG_nums (by omega) n5 _, hM.2.base hS.2.2.size⟩ hM.b
        simp only [List.setIfInBounds_toArray, List.set_cons_zero, List.set_cons_succ]
        refine obs_stepR (Eq.trans (by simp only [List.getElem?_toArray, List.getElem?_cons_succ, List.getElem?_cons_zero]; exact rfl) rfl) rfl (fun w' hS hV K hK => ?_) ?_
        · have e0 : x 0 = (.pointer (some ⟨g, 0, none⟩)) := hV 0 (by decide)
          have e1 : x 1 = (.pointer (some ⟨w.heap.size, 0, none⟩)) := hV 1 (by decide)
          have e2 : x 2 = (.int .i64 (P)) := hV 2 (by decide)
          have e3 : x 3 = (.agg #[.int .i64 P, .slice A n c]) := hV 3 (by decide)
          have e4 : x 4 = (.int .i64 (pw n)) := hV 4 (by decide)
          obtain ⟨A5, c5, X5, e5, l5, n5, h5⟩ := hV 5 (by decide)
          have e6 : x 6 = (.int .i64 (rn)) := hV 6 (by decide)
          obtain ⟨A7, c7, X7, e7, l7, n7, h7⟩ := hV 7 (by decide)
          obtain ⟨q0, q1⟩ := hS.1.two
          go_simp
          exact hK.out _ _ _ rfl rfl ⟨_, _, X7, rfl, l7, n7, h7⟩ (Below.refl _ _)
        simp only [List.setIfInBounds_toArray, List.set_cons_zero, List.set_cons_succ]
        refine fun w' hS hV => ?_
        have e0 : x 0 = (.pointer (some ⟨g, 0, none⟩)) := hV 0 (by decide)
        have e1 : x 1 = (.pointer (some ⟨w.heap.size, 0, none⟩)) := hV 1 (by decide)
        have e2 : x 2 = (.int .i64 (P)) := hV 2 (by decide)
        have e3 : x 3 = (.agg #[.int .i64 P, .slice A n c]) := hV 3 (by decide)
        have e4 : x 4 = (.int .i64 (pw n)) := hV 4 (by decide)
        obtain ⟨A5, c5, X5, e5, l5, n5, h5⟩ := hV 5 (by decide)
        have e6 : x 6 = (.int .i64 (rn)) := hV 6 (by decide)
        obtain ⟨A7, c7, X7, e7, l7, n7, h7⟩ := hV 7 (by decide)
        obtain ⟨A8, c8, X8, e8, l8, n8, h8⟩ := hV 8 (by decide)
        simp only [e0, e1, e2, e3, e4, e5, e6, e7, e8]
        clear e0 e1 e2 e3 e4 e5 e6 e7 e8
        refine wpAny_done (by kernel_rfl) ?_ _
        obtain ⟨_, _, d9⟩ := hS
        go_wp2
        go_ret
        exact ⟨_, _, rfl, ⟨X8, h8⟩, d9⟩
      · have e2 : (r == 2) = false := by simp [h2]
        by_cases h3 : r = 3
        · have e3 : (r == 3) = true := by simp [h3]
          rcases hO3.form with ⟨_, hzz⟩ | ⟨g2, rfl, hga, hgb⟩
          · omega
          have hnx := next_any g 4 w3 d3.s' (by omega)
          go_wp2_with fail
          refine hnx.mono ?_
          rintro e w5 ⟨rr, rfl, hr3, hr4, hd5⟩
          obtain ⟨rn, rfl⟩ : ∃ rn : Nat, rr = rn := ⟨rr.toNat, by omega⟩
          have d5 := d3.trans hd5
          have k5 := k3.dr hd5 (by decide)
          have o5 := o3.dr hd5 (by decide)
          have h5 := hO3.dr hd5 (by decide)
          clear hnx d3 k3 o3 hO3 hd5
          go_wp2
          go_loopw [8] (fun q wr => ∃ (m : Nat) (X5 : List Int), m ≤ 4 ∧ q = .int .i64 m ∧ Own wr w.heap.size 2 (some ⟨g2, 0, none⟩) (pw n) c2 (ints X5) ∧ Blk wr w.heap.size 26 #[.int .i64 P, .slice A n c] ∧ Own wr 0 2 A n c (ints sq) ∧ Dr g 143 w wr) (fun q _ => (intOf q).toNat)
          case atStart => exact ⟨rn, _, by omega, rfl, h5, k5, o5, d5⟩
          case round =>
            clear h5 k5 o5 d5
            obtain ⟨m, X5, hm4, rfl, h5, k5, o5, d5⟩ := hrel
            cases m with
            | zero =>
              go_wp2
              go_ret
              exact ⟨_, _, rfl, ⟨X5, h5⟩, d5⟩
            | succ m =>
              have d1 : decide (0 < ((m + 1 : Nat) : Int)) = true := by rw [decide_eq_true_eq]; omega
              have WM : wrap64 (((m + 1 : Nat) : Int) - 1) = (m : Int) := by unfold wrap64; omega
              obtain ⟨q0, q1⟩ := k5.two
              go_wp2
              refine wp_obsR 10 (Dr g 143) [[], [], [], [2], [1, 2, 3], [], [], [6], [1, 2, 3, 4, 5, 6, 7], [0, 1, 2, 3, 4], [0, 1, 2, 3, 4, 5, 6, 7, 8, 9]] [[], [], [], [], [99], [], [], [], [99], []] (fun x => [VIs (.slice (some ⟨g2, 0, none⟩) (pw n) c2), VIs (.pointer (some ⟨g, 0, none⟩)), VIs (.agg #[.int .i64 P, .slice A n c]), VIs (.int .i64 (pw n)), VIx (pw n), VIs (.pointer (some ⟨g, 0, none⟩)), VIs (.pointer (some ⟨w.heap.size, 0, none⟩)), VIs (.int .i64 (P)), VNum, VPt g2 (pw n) (x 4)]) (fun w' => Blk w' w.heap.size 26 #[.int .i64 P, .slice A n c] ∧ Own w' 0 2 A n c (ints sq) ∧ Dr g 143 w w' ∧ Own w' w.heap.size 2 (some ⟨g2, 0, none⟩) (pw n) c2 (ints X5)) (by kernel_rfl) (by kernel_rfl) (fun x x' j hx => by
                  rcases j with _ | _ | _ | _ | _ | _ | _ | _ | _ | _ | j
                  · rfl
                  · rfl
                  · rfl
                  · rfl
                  · rfl
                  · rfl
                  · rfl
                  · rfl
                  · rfl
                  · rw [hx 4 (by decide)]
                  · rfl)
                (weak_ofR [0, 1, 2, 3, 4, 5, 6, 7, 8, 9] (by decide) (fun k hk x v w w' hp hr => by
                  simp only [List.mem_cons, List.not_mem_nil, or_false] at hk
                  rcases hk with rfl | rfl | rfl | rfl | rfl | rfl | rfl | rfl | rfl | rfl
                  · exact hp
                  · exact hp
                  · exact hp
                  · exact hp
                  · exact hp
                  · exact hp
                  · exact hp
                  · exact hp
                  · exact hp
                  · exact hp)) (fun j _ _ h hb => hb.either (fun hb => ⟨h.1.below hb h.1.lt, h.2.1.below hb, h.2.2.1.then hb, h.2.2.2.below hb⟩) (fun hr => ⟨h.1.dr hr (by decide), h.2.1.dr hr (by decide), h.2.2.1.trans hr, h.2.2.2.dr hr (by decide)⟩)) (⟨k5.drew, o5.below (Below.refl _ _).drew, d5.then (Below.refl _ _).drew, h5.below (Below.refl _ _).drew⟩) (fun x => ?_)
              refine obs_stepR (Eq.trans (by simp only [List.getElem?_toArray, List.getElem?_cons_zero]; exact rfl) rfl) rfl (fun w' hS hV K hK => ?_) ?_
              · obtain ⟨q0, q1⟩ := hS.1.two
                go_simp
                exact hK.out _ _ _ rfl rfl rfl (Below.refl _ _)
              simp only [List.setIfInBounds_toArray, List.set_cons_zero, List.set_cons_succ]
              refine obs_stepR (Eq.trans (by simp only [List.getElem?_toArray, List.getElem?_cons_succ, List.getElem?_cons_zero]; exact rfl) rfl) rfl (fun w' hS hV K hK => ?_) ?_
              · obtain ⟨q0, q1⟩ := hS.1.two
                go_simp
                exact hK.out _ _ _ rfl rfl rfl (Below.refl _ _)
              simp only [List.setIfInBounds_toArray, List.set_cons_zero, List.set_cons_succ]
              refine obs_stepR (Eq.trans (by simp only [List.getElem?_toArray, List.getElem?_cons_succ, List.getElem?_cons_zero]; exact rfl) rfl) rfl (fun w' hS hV K hK => ?_) ?_
              · obtain ⟨q0, q1⟩ := hS.1.two
                go_simp
                exact hK.out _ _ _ rfl rfl rfl (Below.refl _ _)
              simp only [List.setIfInBounds_toArray, List.set_cons_zero, List.set_cons_succ]
              refine obs_stepR (Eq.trans (by simp only [List.getElem?_toArray, List.getElem?_cons_succ, List.getElem?_cons_zero]; exact rfl) rfl) rfl (fun w' hS hV K hK => ?_) ?_
              · have e2 : x 2 = (.agg #[.int .i64 P, .slice A n c]) := hV 2 (by decide)
                obtain ⟨q0, q1⟩ := hS.1.two
                go_simp
                refine (l04Size_any P A n c w' (by omega)).mono ?_
                rintro e v1 ⟨rfl, hb⟩
                exact hK.out _ _ _ rfl rfl rfl hb
              simp only [List.setIfInBounds_toArray, List.set_cons_zero, List.set_cons_succ]
              refine obs_stepR (Eq.trans (by simp only [List.getElem?_toArray, List.getElem?_cons_succ, List.getElem?_cons_zero]; exact rfl) rfl) rfl (fun w' hS hV K hK => ?_) ?_
              · have e1 : x 1 = (.pointer (some ⟨g, 0, none⟩)) := hV 1 (by decide)
                have e2 : x 2 = (.agg #[.int .i64 P, .slice A n c]) := hV 2 (by decide)
                have e3 : x 3 = (.int .i64 (pw n)) := hV 3 (by decide)
                obtain ⟨q0, q1⟩ := hS.1.two
                go_simp
                refine (next_any g ((pw n : Nat) : Int) w' hS.2.2.1.s' (by omega)).mono ?_
                rintro e v1 ⟨rr, rfl, t1, t2, hd9⟩
                have t3 := t2 (by omega)
                obtain ⟨rn2, rfl⟩ : ∃ k : Nat, rr = k := ⟨rr.toNat, by omega⟩
                exact hK.out _ _ _ rfl rfl ⟨rn2, rfl, by omega⟩ hd9
              simp only [List.setIfInBounds_toArray, List.set_cons_zero, List.set_cons_succ]
              refine obs_stepR (Eq.trans (by simp only [List.getElem?_toArray, List.getElem?_cons_succ, List.getElem?_cons_zero]; exact rfl) rfl) rfl (fun w' hS hV K hK => ?_) ?_
              · obtain ⟨q0, q1⟩ := hS.1.two
                go_simp
                exact hK.out _ _ _ rfl rfl rfl (Below.refl _ _)
              simp only [List.setIfInBounds_toArray, List.set_cons_zero, List.set_cons_succ]
              refine obs_stepR (Eq.trans (by simp only [List.getElem?_toArray, List.getElem?_cons_succ, List.getElem?_cons_zero]; exact rfl) rfl) rfl (fun w' hS hV K hK => ?_) ?_
              · obtain ⟨q0, q1⟩ := hS.1.two
                go_simp
                exact hK.out _ _ _ rfl rfl rfl (Below.refl _ _)
              simp only [List.setIfInBounds_toArray, List.set_cons_zero, List.set_cons_succ]
              refine obs_stepR (Eq.trans (by simp only [List.getElem?_toArray, List.getElem?_cons_succ, List.getElem?_cons_zero]; exact rfl) rfl) rfl (fun w' hS hV K hK => ?_) ?_
              · have e6 : x 6 = (.pointer (some ⟨w.heap.size, 0, none⟩)) := hV 6 (by decide)
                obtain ⟨q0, q1⟩ := hS.1.two
                go_simp
                exact hK.out _ _ _ rfl rfl rfl (Below.refl _ _)
              simp only [List.setIfInBounds_toArray, List.set_cons_zero, List.set_cons_succ]
              refine obs_stepR (Eq.trans (by simp only [List.getElem?_toArray, List.getElem?_cons_succ, List.getElem?_cons_zero]; exact rfl) rfl) rfl (fun w' hS hV K hK => ?_) ?_
              · have e1 : x 1 = (.pointer (some ⟨g, 0, none⟩)) := hV 1 (by decide)
                have e2 : x 2 = (.agg #[.int .i64 P, .slice A n c]) := hV 2 (by decide)
                have e3 : x 3 = (.int .i64 (pw n)) := hV 3 (by decide)
                obtain ⟨rx, e4, lx⟩ := hV 4 (by decide)
                have e5 : x 5 = (.pointer (some ⟨g, 0, none⟩)) := hV 5 (by decide)
                have e6 : x 6 = (.pointer (some ⟨w.heap.size, 0, none⟩)) := hV 6 (by decide)
                have e7 : x 7 = (.int .i64 (P)) := hV 7 (by decide)
                obtain ⟨q0, q1⟩ := hS.1.two
                go_simp
                refine (next_any g P w' hS.2.2.1.s' (by omega)).mono ?_
                rintro e v1 ⟨rr, rfl, t1, t2, hd9⟩
                exact hK.out _ _ _ rfl rfl ⟨_, rfl⟩ hd9
              simp only [List.setIfInBounds_toArray, List.set_cons_zero, List.set_cons_succ]
              refine obs_stepR (Eq.trans (by simp only [List.getElem?_toArray, List.getElem?_cons_succ, List.getElem?_cons_zero]; exact rfl) rfl) rfl (fun w' hS hV K hK => ?_) ?_
              · have e0 : x 0 = (.slice (some ⟨g2, 0, none⟩) (pw n) c2) := hV 0 (by decide)
                have e1 : x 1 = (.pointer (some ⟨g, 0, none⟩)) := hV 1 (by decide)
                have e2 : x 2 = (.agg #[.int .i64 P, .slice A n c]) := hV 2 (by decide)
                have e3 : x 3 = (.int .i64 (pw n)) := hV 3 (by decide)
                obtain ⟨rx, e4, lx⟩ := hV 4 (by decide)
                obtain ⟨q0, q1⟩ := hS.1.two
                have b1 : (0 : Int) ≤ (rx : Int) := by omega
                have b2 : (rx : Int) < ((pw n : Nat) : Int) := by omega
                go_simp
                exact hK.out _ _ _ rfl rfl ⟨rx, e4, lx, rfl⟩ (Below.refl _ _)
              simp only [List.setIfInBounds_toArray, List.set_cons_zero, List.set_cons_succ]
              refine fun w' hS hV => ?_
              have e0 : x 0 = (.slice (some ⟨g2, 0, none⟩) (pw n) c2) := hV 0 (by decide)
              have e1 : x 1 = (.pointer (some ⟨g, 0, none⟩)) := hV 1 (by decide)
              have e2 : x 2 = (.agg #[.int .i64 P, .slice A n c]) := hV 2 (by decide)
              have e3 : x 3 = (.int .i64 (pw n)) := hV 3 (by decide)
              obtain ⟨rx, e4, lx⟩ := hV 4 (by decide)
              have e5 : x 5 = (.pointer (some ⟨g, 0, none⟩)) := hV 5 (by decide)
              have e6 : x 6 = (.pointer (some ⟨w.heap.size, 0, none⟩)) := hV 6 (by decide)
              have e7 : x 7 = (.int .i64 (P)) := hV 7 (by decide)
              obtain ⟨rv, e8⟩ := hV 8 (by decide)
              obtain ⟨ry, f9, ly, e9⟩ := hV 9 (by decide)
              simp only [e0, e1, e2, e3, e4, e5, e6, e7, e8, e9]
              clear e0 e1 e2 e3 e4 e5 e6 e7 e8 e9
              obtain ⟨k6, o6, d6, h6⟩ := hS
              obtain ⟨w6, rfl⟩ : ∃ W, W = w' := ⟨_, rfl⟩
              obtain ⟨u1, hc1⟩ := h6.cellI ly
              have hf1 := h6.frozen_ ry
              refine any_one (j := 10) (by kernel_rfl) (Eq.trans (by simp only [List.getElem?_toArray, List.getElem?_cons_succ, List.getElem?_cons_zero]; exact rfl) rfl) (fun K hK => ?_)
              go_simp
              refine hK.out _ _ (wpAny_done (by kernel_rfl) ?_ _)
              obtain ⟨h7, hg7⟩ := h6.set_ ry (.int .i64 rv)
              rw [ints_set] at h7
              have k7 := k6.grown hg7 (h6.ne_blk k6 (by decide))
              have d7 := d6.grown h6 hg7
              have o7 := o6.grown hg7 (by
                cases hbk : (Value.slice A n c).ownBlock with
                | none => exact .inl rfl
                | some gb => right; intro e; have := hSQ gb hbk; injection e with e; omega)
              clear k6 o6 d6 h6 hg7 hc1 hf1 k5 o5 d5 h5 q0 q1
              go_wp2
              go_roundw
              case rel => exact ⟨m, _, by omega, by go_num, h7, k7, o7, d7⟩
              case measure => simp [intOf]
        · have e3 : (r == 3) = false := by simp [h3]
          obtain ⟨q0, q1⟩ := k3.two
          go_wp2
          refine wp_obsR 7 (Dr g 143) [[], [], [1], [], [3], [0, 1, 2, 3, 4], [0, 1, 2, 3, 4, 5]] [[], [], [], [], [], [99], []] (fun x => [VIs (.pointer (some ⟨g, 0, none⟩)), VIs (.pointer (some ⟨w.heap.size, 0, none⟩)), VIs (.int .i64 (P)), VIs (.agg #[.int .i64 P, .slice A n c]), VIs (.int .i64 (pw n)), VLs w.heap.size (pw n) P, VLs w.heap.size (pw n) P]) (fun w' => Blk w' w.heap.size 26 #[.int .i64 P, .slice A n c] ∧ Own w' 0 2 A n c (ints sq) ∧ Dr g 143 w w') (by kernel_rfl) (by kernel_rfl) (fun x x' j hx => by
              rcases j with _ | _ | _ | _ | _ | _ | _ | j
              · rfl
              · rfl
              · rfl
              · rfl
              · rfl
              · rfl
              · rfl
              · rfl)
            (weak_ofR [0, 1, 2, 3, 4, 5, 6] (by decide) (fun k hk x v w w' hp hr => by
              simp only [List.mem_cons, List.not_mem_nil, or_false] at hk
              rcases hk with rfl | rfl | rfl | rfl | rfl | rfl | rfl
              · exact hp
              · exact hp
              · exact hp
              · exact hp
              · exact hp
              · exact VLs.dr hp hr (by decide)
              · exact VLs.dr hp hr (by decide))) (fun j _ _ h hb => hb.either (fun hb => ⟨h.1.below hb h.1.lt, h.2.1.below hb, h.2.2.then hb⟩) (fun hr => ⟨h.1.dr hr (by decide), h.2.1.dr hr (by decide), h.2.2.trans hr⟩)) (⟨k3.drew, o3.below (Below.refl _ _).drew, d3.then (Below.refl _ _).drew⟩) (fun x => ?_)
          refine obs_stepR (Eq.trans (by simp only [List.getElem?_toArray, List.getElem?_cons_zero]; exact rfl) rfl) rfl (fun w' hS hV K hK => ?_) ?_
          · obtain ⟨q0, q1⟩ := hS.1.two
            go_simp
            exact hK.out _ _ _ rfl rfl rfl (Below.refl _ _)
          simp only [List.setIfInBounds_toArray, List.set_cons_zero, List.set_cons_succ]
          refine obs_stepR (Eq.trans (by simp only [List.getElem?_toArray, List.getElem?_cons_succ, List.getElem?_cons_zero]; exact rfl) rfl) rfl (fun w' hS hV K hK => ?_) ?_
          · obtain ⟨q0, q1⟩ := hS.1.two
            go_simp
            exact hK.out _ _ _ rfl rfl rfl (Below.refl _ _)
          simp only [List.setIfInBounds_toArray, List.set_cons_zero, List.set_cons_succ]
          refine obs_stepR (Eq.trans (by simp only [List.getElem?_toArray, List.getElem?_cons_succ, List.getElem?_cons_zero]; exact rfl) rfl) rfl (fun w' hS hV K hK => ?_) ?_
          · have e1 : x 1 = (.pointer (some ⟨w.heap.size, 0, none⟩)) := hV 1 (by decide)
            obtain ⟨q0, q1⟩ := hS.1.two
            go_simp
            exact hK.out _ _ _ rfl rfl rfl (Below.refl _ _)
          simp only [List.setIfInBounds_toArray, List.set_cons_zero, List.set_cons_succ]
          refine obs_stepR (Eq.trans (by simp only [List.getElem?_toArray, List.getElem?_cons_succ, List.getElem?_cons_zero]; exact rfl) rfl) rfl (fun w' hS hV K hK => ?_) ?_
          · obtain ⟨q0, q1⟩ := hS.1.two
            go_simp
            exact hK.out _ _ _ rfl rfl rfl (Below.refl _ _)
          simp only [List.setIfInBounds_toArray, List.set_cons_zero, List.set_cons_succ]
          refine obs_stepR (Eq.trans (by simp only [List.getElem?_toArray, List.getElem?_cons_succ, List.getElem?_cons_zero]; exact rfl) rfl) rfl (fun w' hS hV K hK => ?_) ?_
          · have e3 : x 3 = (.agg #[.int .i64 P, .slice A n c]) := hV 3 (by decide)
            obtain ⟨q0, q1⟩ := hS.1.two
            go_simp
            refine (l04Size_any P A n c w' (by omega)).mono ?_
            rintro e v1 ⟨rfl, hb⟩
            exact hK.out _ _ _ rfl rfl rfl hb
          simp only [List.setIfInBounds_toArray, List.set_cons_zero, List.set_cons_succ]
          refine obs_stepR (Eq.trans (by simp only [List.getElem?_toArray, List.getElem?_cons_succ, List.getElem?_cons_zero]; exact rfl) rfl) rfl (fun w' hS hV K hK => ?_) ?_
          · have e0 : x 0 = (.pointer (some ⟨g, 0, none⟩)) := hV 0 (by decide)
            have e1 : x 1 = (.pointer (some ⟨w.heap.size, 0, none⟩)) := hV 1 (by decide)
            have e2 : x 2 = (.int .i64 (P)) := hV 2 (by decide)
            have e3 : x 3 = (.agg #[.int .i64 P, .slice A n c]) := hV 3 (by decide)
            have e4 : x 4 = (.int .i64 (pw n)) := hV 4 (by decide)
            obtain ⟨q0, q1⟩ := hS.1.two
            go_simp
            refine (nextList_any g P (pw n) w' hS.2.2.s' (by omega) (by omega)).mono ?_
            rintro e v1 ⟨A9, c9, xs9, rfl, hl9, hx9, ho9, hd9⟩
            exact hK.out _ _ _ rfl rfl ⟨_, _, xs9, rfl, hl9, nums_of (by omega) hx9, ho9.base hS.2.2.size⟩ hd9
          simp only [List.setIfInBounds_toArray, List.set_cons_zero, List.set_cons_succ]
          refine obs_stepR (Eq.trans (by simp only [List.getElem?_toArray, List.getElem?_cons_succ, List.getElem?_cons_zero]; exact rfl) rfl) rfl (fun w' hS hV K hK => ?_) ?_
          · have e0 : x 0 = (.pointer (some ⟨g, 0, none⟩)) := hV 0 (by decide)
            have e1 : x 1 = (.pointer (some ⟨w.heap.size, 0, none⟩)) := hV 1 (by decide)
            have e2 : x 2 = (.int .i64 (P)) := hV 2 (by decide)
            have e3 : x 3 = (.agg #[.int .i64 P, .slice A n c]) := hV 3 (by decide)
            have e4 : x 4 = (.int .i64 (pw n)) := hV 4 (by decide)
            obtain ⟨A5, c5, X5, e5, l5, n5, h5⟩ := hV 5 (by decide)
            obtain ⟨q0, q1⟩ := hS.1.two
            go_simp
            exact hK.out _ _ _ rfl rfl ⟨_, _, X5, rfl, l5, n5, h5⟩ (Below.refl _ _)
          simp only [List.setIfInBounds_toArray, List.set_cons_zero, List.set_cons_succ]
          refine fun w' hS hV => ?_
          have e0 : x 0 = (.pointer (some ⟨g, 0, none⟩)) := hV 0 (by decide)
          have e1 : x 1 = (.pointer (some ⟨w.heap.size, 0, none⟩)) := hV 1 (by decide)
          have e2 : x 2 = (.int .i64 (P)) := hV 2 (by decide)
          have e3 : x 3 = (.agg #[.int .i64 P, .slice A n c]) := hV 3 (by decide)
          have e4 : x 4 = (.int .i64 (pw n)) := hV 4 (by decide)
          obtain ⟨A5, c5, X5, e5, l5, n5, h5⟩ := hV 5 (by decide)
          obtain ⟨A6, c6, X6, e6, l6, n6, h6⟩ := hV 6 (by decide)
          simp only [e0, e1, e2, e3, e4, e5, e6]
          clear e0 e1 e2 e3 e4 e5 e6
          refine wpAny_done (by kernel_rfl) ?_ _
          obtain ⟨_, _, d9⟩ := hS
          go_wp2
          go_ret
          exact ⟨_, _, rfl, ⟨X6, h6⟩, d9⟩
end Go.Proofs.YtggigolkncckoaaGreat
namespace Go.Proofs.YtggigolkncckoaaGreat
open Go.RowKit
theorem nums_drawn {P : Int} {xs : List Int} (h : nums P xs = true) : NumsL P xs := fun x hx => by
  have := List.all_eq_true.1 h x hx
  simp [inR] at this
  omega
set_option maxHeartbeats 6400000 in
set_option maxRecDepth 8000 in
theorem l04Spoil_any (g : Nat) (P : Int) (A : Option Addr) (n c : Nat) (sq : List Int) (w : World) (hs : Src w g 143) (hn : n ≤ 1048576) (ho : Own w 0 2 A n c (ints sq)) :
    Calls Tryz.prog 176 #[.pointer (some ⟨g, 0, none⟩), .agg #[.int .i64 P, .slice A n c]] w fun e w' => ∃ (A' : Option Addr) (m c' : Nat), e = .returned (.slice A' m c') ∧ m ≤ 100 ∧ (∃ xs : List Int, Own w' w.heap.size 2 A' m c' (ints xs)) ∧ Dr g 143 w w' := by
  have hsl : sq.length = n := ho.rd.lenI
  have k0 : Blk (w.alloc (.cells #[.int .i64 P, .slice A n c] 26)) w.heap.size 26 #[.int .i64 P, .slice A n c] := Blk.new _ _ _
  have d0 := (Dr.refl hs).alloc (.cells #[.int .i64 P, .slice A n c] 26)
  have o0 := ho.below ((Below.refl _ _).alloc (Nat.le_refl _) (.cells #[.int .i64 P, .slice A n c] 26))
  have hSQ : ∀ gb, (Value.slice A n c).ownBlock = some gb → gb < w.heap.size := fun gb e => (World.ownsRow.lt ho gb e).2
  cases h1 : isSp P sq
  · have H1 := Lib.hid h1
    clear h1
    go_enter Tryz.func176, Tryz.ntmps176
    go_wp2_with fail
    refine (l03Is_b _ _ _ _ _ _ (by omega) o0.rd H1.out).mono ?_
    rintro e w2 ⟨rfl, hb⟩
    have d2 := d0.then hb
    have hM := (Mk.lit (E := 2) (Below.refl w2.heap.size w2) #[.int .i64 1, .int .i64 0] (by simp [maxLen])).2.base (B' := w.heap.size) d2.size
    have d3 := d2.alloc (.cells #[.int .i64 1, .int .i64 0] 2)
    clear hb d2 d0 o0 k0
    go_wp2
    go_ret
    exact ⟨_, 2, _, rfl, by omega, ⟨[1, 0], by simpa [ints] using hM⟩, d3⟩
  · obtain ⟨hP, hn1, hn2, hq⟩ := isSp_dim h1
    obtain ⟨hp3, hp2⟩ := isP_ge hP
    have HQ := Lib.hid (nums_drawn hq)
    have H1 := Lib.hid h1
    rw [hsl] at hn1 hn2
    have hpw : pw n ≤ 64 := pw_le hn2
    have hpn := pw_pos n
    clear h1 hP hq
    go_enter Tryz.func176, Tryz.ntmps176
    go_wp2_with fail
    refine (l03Is_b _ _ _ _ _ _ (by omega) o0.rd H1.out).mono ?_
    rintro e w2 ⟨rfl, hb⟩
    have d2 := d0.then hb
    have k2 := k0.below hb k0.lt
    have o2 := o0.below hb
    have hdr := l04Draw_any g P A n c sq w2 d2.s' (by omega) hp2 hn2 hn1 o2 HQ.out
    clear hb d0 o0 k0
    obtain ⟨q0, q1⟩ := k2.two
    go_wp2_with fail
    refine hdr.mono ?_
    rintro e w3 ⟨A2, c2, rfl, ⟨X5, h3⟩, hd3⟩
    have d3 := d2.trans hd3
    have k3 := k2.dr hd3 (by decide)
    have o3 := o2.dr hd3 (by decide)
    have h3' := h3.base (B' := w.heap.size) d2.size
    have hnx := next_any g 30 w3 d3.s' (by omega)
    clear hdr d2 k2 o2 h3 hd3 q0 q1
    go_wp2_with fail
    refine hnx.mono ?_
    rintro e w4 ⟨r, rfl, hr1, hr2, hd4⟩
    have d5 := d3.trans hd4
    have k5 := k3.dr hd4 (by decide)
    have o5 := o3.dr hd4 (by decide)
    have h5 := h3'.dr hd4 (by decide)
    clear hnx d3 k3 o3 h3' hd4
    by_cases h0 : r = 0
    · have e0 : (r == 0) = true := by simp [h0]
      have H5 := Lib.hid h5
      clear h5
      go_wp2_with (first
        | (at_builtin; (refine wpList_app1 (cutW w4 w.heap.size) w4 24 2 _ _ Tryz.underlying24 info_i rfl (by omega) rfl _ _ rfl A2 (pw n) c2 _ _ (H5.out.mk_ d5.size) (by omega) rfl rfl rfl ?_; intro A9 c9 w9 hM9 hg9 _)))
      have hO9 := hM9.own_ (cutW_size d5.size)
      have d9 := d5.grown H5.out hg9
      clear hM9 hg9
      go_wp2
      go_ret
      exact ⟨A9, pw n + 1, c9, rfl, by omega, ⟨X5 ++ [0], by simpa [ints] using hO9⟩, d9⟩
    · have e0 : (r == 0) = false := by simp [h0]
      by_cases h1 : r = 1
      · have e1 : (r == 1) = true := by simp [h1]
        rcases h5.form with ⟨_, hzz⟩ | ⟨g2, rfl, hga, hgb⟩
        · omega
        obtain ⟨q0, q1⟩ := k5.two
        go_wp2
        refine wp_obsR 11 (Dr g 143) [[], [], [], [2], [1, 2, 3], [], [], [6], [6, 7], [1, 2, 3, 4, 5, 6, 7, 8], [0, 1, 2, 3, 4], [0, 1, 2, 3, 4, 5, 6, 7, 8, 9, 10]] [[], [], [], [], [99], [], [], [], [], [8], []] (fun x => [VIs (.slice (some ⟨g2, 0, none⟩) (pw n) c2), VIs (.pointer (some ⟨g, 0, none⟩)), VIs (.agg #[.int .i64 P, .slice A n c]), VIs (.int .i64 (pw n)), VIx (pw n), VIs (.pointer (some ⟨g, 0, none⟩)), VIs (.pointer (some ⟨w.heap.size, 0, none⟩)), VIs (.int .i64 (P)), VBs 2 #[.int .i64 (-1), .int .i64 P], VNum, VPt g2 (pw n) (x 4)]) (fun w' => Blk w' w.heap.size 26 #[.int .i64 P, .slice A n c] ∧ Own w' 0 2 A n c (ints sq) ∧ Dr g 143 w w' ∧ Own w' w.heap.size 2 (some ⟨g2, 0, none⟩) (pw n) c2 (ints X5)) (by kernel_rfl) (by kernel_rfl) (fun x x' j hx => by
            rcases j with _ | _ | _ | _ | _ | _ | _ | _ | _ | _ | _ | j
            · rfl
            · rfl
            · rfl
            · rfl
            · rfl
            · rfl
            · rfl
            · rfl
            · rfl
            · rfl
            · rw [hx 4 (by decide)]
            · rfl)
          (weak_ofR [0, 1, 2, 3, 4, 5, 6, 7, 8, 9, 10] (by decide) (fun k hk x v w w' hp hr => by
            simp only [List.mem_cons, List.not_mem_nil, or_false] at hk
            rcases hk with rfl | rfl | rfl | rfl | rfl | rfl | rfl | rfl | rfl | rfl | rfl
            · exact hp
            · exact hp
            · exact hp
            · exact hp
            · exact hp
            · exact hp
            · exact hp
            · exact hp
            · obtain ⟨G9, e9, b9⟩ := hp; exact ⟨G9, e9, b9.dr hr (by decide)⟩
            · exact hp
            · exact hp)) (fun j _ _ h hb => hb.either (fun hb => ⟨h.1.below hb h.1.lt, h.2.1.below hb, h.2.2.1.then hb, h.2.2.2.below hb⟩) (fun hr => ⟨h.1.dr hr (by decide), h.2.1.dr hr (by decide), h.2.2.1.trans hr, h.2.2.2.dr hr (by decide)⟩)) (⟨k5.drew, o5.below (Below.refl _ _).drew, d5.then (Below.refl _ _).drew, h5.below (Below.refl _ _).drew⟩) (fun x => ?_)
        refine obs_stepR (Eq.trans (by simp only [List.getElem?_toArray, List.getElem?_cons_zero]; exact rfl) rfl) rfl (fun w' hS hV K hK => ?_) ?_
        · obtain ⟨q0, q1⟩ := hS.1.two
          go_simp
          exact hK.out _ _ _ rfl rfl rfl (Below.refl _ _)
        simp only [List.setIfInBounds_toArray, List.set_cons_zero, List.set_cons_succ]
        refine obs_stepR (Eq.trans (by simp only [List.getElem?_toArray, List.getElem?_cons_succ, List.getElem?_cons_zero]; exact rfl) rfl) rfl (fun w' hS hV K hK => ?_) ?_
        · obtain ⟨q0, q1⟩ := hS.1.two
          go_simp
          exact hK.out _ _ _ rfl rfl rfl (Below.refl _ _)
        simp only [List.setIfInBounds_toArray, List.set_cons_zero, List.set_cons_succ]
        refine obs_stepR (Eq.trans (by simp only [List.getElem?_toArray, List.getElem?_cons_succ, List.getElem?_cons_zero]; exact rfl) rfl) rfl (fun w' hS hV K hK => ?_) ?_
        · obtain ⟨q0, q1⟩ := hS.1.two
          go_simp
          exact hK.out _ _ _ rfl rfl rfl (Below.refl _ _)
        simp only [List.setIfInBounds_toArray, List.set_cons_zero, List.set_cons_succ]
        refine obs_stepR (Eq.trans (by simp only [List.getElem?_toArray, List.getElem?_cons_succ, List.getElem?_cons_zero]; exact rfl) rfl) rfl (fun w' hS hV K hK => ?_) ?_
        · have e2 : x 2 = (.agg #[.int .i64 P, .slice A n c]) := hV 2 (by decide)
          obtain ⟨q0, q1⟩ := hS.1.two
          go_simp
          refine (l04Size_any P A n c w' (by omega)).mono ?_
          rintro e v1 ⟨rfl, hb⟩
          exact hK.out _ _ _ rfl rfl rfl hb
        simp only [List.setIfInBounds_toArray, List.set_cons_zero, List.set_cons_succ]
        refine obs_stepR (Eq.trans (by simp only [List.getElem?_toArray, List.getElem?_cons_succ, List.getElem?_cons_zero]; exact rfl) rfl) rfl (fun w' hS hV K hK => ?_) ?_
        · have e1 : x 1 = (.pointer (some ⟨g, 0, none⟩)) := hV 1 (by decide)
          have e2 : x 2 = (.agg #[.int .i64 P, .slice A n c]) := hV 2 (by decide)
          have e3 : x 3 = (.int .i64 (pw n)) := hV 3 (by decide)
          obtain ⟨q0, q1⟩ := hS.1.two
          go_simp
          refine (next_any g ((pw n : Nat) : Int) w' hS.2.2.1.s' (by omega)).mono ?_
          rintro e v1 ⟨rr, rfl, t1, t2, hd9⟩
          have t3 := t2 (by omega)
          obtain ⟨rn2, rfl⟩ : ∃ k : Nat, rr = k := ⟨rr.toNat, by omega⟩
          exact hK.out _ _ _ rfl rfl ⟨rn2, rfl, by omega⟩ hd9
        simp only [List.setIfInBounds_toArray, List.set_cons_zero, List.set_cons_succ]
        refine obs_stepR (Eq.trans (by simp only [List.getElem?_toArray, List.getElem?_cons_succ, List.getElem?_cons_zero]; exact rfl) rfl) rfl (fun w' hS hV K hK => ?_) ?_
        · obtain ⟨q0, q1⟩ := hS.1.two
          go_simp
          exact hK.out _ _ _ rfl rfl rfl (Below.refl _ _)
        simp only [List.setIfInBounds_toArray, List.set_cons_zero, List.set_cons_succ]
        refine obs_stepR (Eq.trans (by simp only [List.getElem?_toArray, List.getElem?_cons_succ, List.getElem?_cons_zero]; exact rfl) rfl) rfl (fun w' hS hV K hK => ?_) ?_
        · obtain ⟨q0, q1⟩ := hS.1.two
          go_simp
          exact hK.out _ _ _ rfl rfl rfl (Below.refl _ _)
        simp only [List.setIfInBounds_toArray, List.set_cons_zero, List.set_cons_succ]
        refine obs_stepR (Eq.trans (by simp only [List.getElem?_toArray, List.getElem?_cons_succ, List.getElem?_cons_zero]; exact rfl) rfl) rfl (fun w' hS hV K hK => ?_) ?_
        · have e6 : x 6 = (.pointer (some ⟨w.heap.size, 0, none⟩)) := hV 6 (by decide)
          obtain ⟨q0, q1⟩ := hS.1.two
          go_simp
          exact hK.out _ _ _ rfl rfl rfl (Below.refl _ _)
        simp only [List.setIfInBounds_toArray, List.set_cons_zero, List.set_cons_succ]
        refine obs_stepR (Eq.trans (by simp only [List.getElem?_toArray, List.getElem?_cons_succ, List.getElem?_cons_zero]; exact rfl) rfl) rfl (fun w' hS hV K hK => ?_) ?_
        · have e6 : x 6 = (.pointer (some ⟨w.heap.size, 0, none⟩)) := hV 6 (by decide)
          have e7 : x 7 = (.int .i64 (P)) := hV 7 (by decide)
          obtain ⟨q0, q1⟩ := hS.1.two
          go_simp
          exact hK.out _ _ _ rfl rfl ⟨_, rfl, Blk.new _ _ _⟩ ((Below.refl _ _).alloc (Nat.le_refl _) _)
        simp only [List.setIfInBounds_toArray, List.set_cons_zero, List.set_cons_succ]
        refine obs_stepR (Eq.trans (by simp only [List.getElem?_toArray, List.getElem?_cons_succ, List.getElem?_cons_zero]; exact rfl) rfl) rfl (fun w' hS hV K hK => ?_) ?_
        · have e1 : x 1 = (.pointer (some ⟨g, 0, none⟩)) := hV 1 (by decide)
          have e2 : x 2 = (.agg #[.int .i64 P, .slice A n c]) := hV 2 (by decide)
          have e3 : x 3 = (.int .i64 (pw n)) := hV 3 (by decide)
          obtain ⟨rx, e4, lx⟩ := hV 4 (by decide)
          have e5 : x 5 = (.pointer (some ⟨g, 0, none⟩)) := hV 5 (by decide)
          have e6 : x 6 = (.pointer (some ⟨w.heap.size, 0, none⟩)) := hV 6 (by decide)
          have e7 : x 7 = (.int .i64 (P)) := hV 7 (by decide)
          obtain ⟨G5, e5, b5⟩ := hV 8 (by decide)
          obtain ⟨q0, q1⟩ := hS.1.two
          go_simp
          refine (pick_any g G5 [-1, P] _ hS.2.2.1.s' (by rw [ints2]; exact b5) (by simp) (by simp)).mono ?_
          rintro e v1 ⟨r1, _, rfl, hr⟩
          exact hK.out _ _ _ rfl rfl ⟨_, rfl⟩ hr
        simp only [List.setIfInBounds_toArray, List.set_cons_zero, List.set_cons_succ]
        refine obs_stepR (Eq.trans (by simp only [List.getElem?_toArray, List.getElem?_cons_succ, List.getElem?_cons_zero]; exact rfl) rfl) rfl (fun w' hS hV K hK => ?_) ?_
        · have e0 : x 0 = (.slice (some ⟨g2, 0, none⟩) (pw n) c2) := hV 0 (by decide)
          have e1 : x 1 = (.pointer (some ⟨g, 0, none⟩)) := hV 1 (by decide)
          have e2 : x 2 = (.agg #[.int .i64 P, .slice A n c]) := hV 2 (by decide)
          have e3 : x 3 = (.int .i64 (pw n)) := hV 3 (by decide)
          obtain ⟨rx, e4, lx⟩ := hV 4 (by decide)
          obtain ⟨q0, q1⟩ := hS.1.two
          have b1 : (0 : Int) ≤ (rx : Int) := by omega
          have b2 : (rx : Int) < ((pw n : Nat) : Int) := by omega
          go_simp
          exact hK.out _ _ _ rfl rfl ⟨rx, e4, lx, rfl⟩ (Below.refl _ _)
        simp only [List.setIfInBounds_toArray, List.set_cons_zero, List.set_cons_succ]
        refine fun w' hS hV => ?_
        have e0 : x 0 = (.slice (some ⟨g2, 0, none⟩) (pw n) c2) := hV 0 (by decide)
        have e1 : x 1 = (.pointer (some ⟨g, 0, none⟩)) := hV 1 (by decide)
        have e2 : x 2 = (.agg #[.int .i64 P, .slice A n c]) := hV 2 (by decide)
        have e3 : x 3 = (.int .i64 (pw n)) := hV 3 (by decide)
        obtain ⟨rx, e4, lx⟩ := hV 4 (by decide)
        have e5 : x 5 = (.pointer (some ⟨g, 0, none⟩)) := hV 5 (by decide)
        have e6 : x 6 = (.pointer (some ⟨w.heap.size, 0, none⟩)) := hV 6 (by decide)
        have e7 : x 7 = (.int .i64 (P)) := hV 7 (by decide)
        obtain ⟨rv, e9⟩ := hV 9 (by decide)
        obtain ⟨ry, f10, ly, e10⟩ := hV 10 (by decide)
        simp only [e0, e1, e2, e3, e4, e5, e6, e7, e9, e10]
        clear e0 e1 e2 e3 e4 e5 e6 e7 e9 e10
        obtain ⟨k6, o6, d6, h6⟩ := hS
        obtain ⟨w6, rfl⟩ : ∃ W, W = w' := ⟨_, rfl⟩
        obtain ⟨u1, hc1⟩ := h6.cellI ly
        have hf1 := h6.frozen_ ry
        refine any_one (j := 11) (by kernel_rfl) (Eq.trans (by simp only [List.getElem?_toArray, List.getElem?_cons_succ, List.getElem?_cons_zero]; exact rfl) rfl) (fun K hK => ?_)
        go_simp
        refine hK.out _ _ (wpAny_done (by kernel_rfl) ?_ _)
        obtain ⟨h7, hg7⟩ := h6.set_ ry (.int .i64 rv)
        rw [ints_set] at h7
        have d7 := d6.grown h6 hg7
        clear k6 o6 d6 h6 hg7 hc1 hf1 k5 o5 d5 h5 q0 q1
        go_wp2
        go_ret
        exact ⟨_, _, _, rfl, by omega, ⟨_, h7⟩, d7⟩
      · have e1 : (r == 1) = false := by simp [h1]
        go_wp2
        go_ret
        exact ⟨A2, pw n, c2, rfl, by omega, ⟨X5, h5⟩, d5⟩
end Go.Proofs.YtggigolkncckoaaGreat
namespace Go.Proofs.YtggigolkncckoaaGreat
open Go.RowKit
/-- The value is a list of at most 100 numbers that was made since the heap had B blocks. -/
def VLx (B : Nat) : VP := ⟨fun v w => ∃ (A : Option Addr) (m c : Nat) (xs : List Int), v = .slice A m c ∧ m ≤ 100 ∧ Own w B 2 A m c (ints xs), fun _ _ _ ⟨A, m, c, xs, e, hm, ho⟩ hb => ⟨A, m, c, xs, e, hm, ho.below hb⟩⟩
theorem VLx.dr {B g : Nat} {T : TypeId} {v : Value} {w w' : World} (h : (VLx B).p v w) (d : Dr g T w w') (hT : 2 ≠ T) : (VLx B).p v w' := by
  obtain ⟨A, m, c, xs, e, hm, ho⟩ := h
  exact ⟨A, m, c, xs, e, hm, ho.dr d hT⟩
/-- A space and two lists, drawn. -/
def Drew2 (w : World) (e : Ending) (w' : World) : Prop := ∃ (P : Int) (A : Option Addr) (n c : Nat) (sq : List Int) (A1 : Option Addr) (m1 c1 : Nat) (xs : List Int) (A2 : Option Addr) (m2 c2 : Nat) (ys : List Int), e = .returned (.tuple #[.agg #[.int .i64 P, .slice A n c], .slice A1 m1 c1, .slice A2 m2 c2]) ∧ P ≤ 17 ∧ n ≤ 7 ∧ m1 ≤ 100 ∧ m2 ≤ 100 ∧ Own w' w.heap.size 2 A n c (ints sq) ∧ Own w' w.heap.size 2 A1 m1 c1 (ints xs) ∧ Own w' w.heap.size 2 A2 m2 c2 (ints ys) ∧ Below w.heap.size w w'
end Go.Proofs.YtggigolkncckoaaGreat
namespace Go.Proofs.YtggigolkncckoaaGreat
open Go.RowKit
/-- A list of lists of the call's own, in blocks from B on. -/
def OwnM (w : World) (B : Nat) (A : Option Addr) (n c : Nat) (xss : List (List Int)) : Prop := ∃ rows, Own w B 24 A n c rows ∧ Nest w B rows xss
section
variable {w w' w0 W : World} {B B' g : Nat} {T : TypeId} {A : Option Addr} {n c : Nat} {xss : List (List Int)}
theorem OwnM.dr (h : OwnM w B A n c xss) (d : Dr g T w w') (h1 : 24 ≠ T) (h2 : 2 ≠ T) : OwnM w' B A n c xss := by
  obtain ⟨rows, ho, hn⟩ := h
  exact ⟨rows, ho.dr d h1, hn.len, fun k hk => by obtain ⟨A1, c1, e, h3⟩ := hn.row k hk; exact ⟨A1, c1, e, h3.dr d h2⟩, hn.apart⟩
theorem OwnM.below (h : OwnM w B A n c xss) (hb : Below w.heap.size w w') : OwnM w' B A n c xss := by
  obtain ⟨rows, ho, hn⟩ := h; exact ⟨rows, ho.below hb, hn.below hb⟩
theorem OwnM.base (h : OwnM w B A n c xss) (hB : B' ≤ B) : OwnM w B' A n c xss := by
  obtain ⟨rows, ho, hn⟩ := h; exact ⟨rows, ho.base hB, hn.base hB⟩
theorem OwnM.rd (h : OwnM w B A n c xss) : RdII w A n xss := by
  obtain ⟨rows, ho, hn⟩ := h
  exact ⟨rows, ho.rd, hn.len, fun k hk => by obtain ⟨A', c', e, ho⟩ := hn.row k hk; exact ⟨A', c', e, ho.rd, ho.cap⟩⟩
theorem OwnM.cap (h : OwnM w B A n c xss) : n ≤ c := by obtain ⟨rows, ho, _⟩ := h; exact ho.cap
theorem OwnM.nil (w : World) (B : Nat) : OwnM w B none 0 0 [] := ⟨[], World.ownsRow_nil _ _ _ _, Nest.nil _ _⟩
theorem OwnM.empty (w : World) (hB : B ≤ w.heap.size) : OwnM (w.alloc (.cells #[] 24)) B (some ⟨w.heap.size, 0, none⟩) 0 0 [] := by
  refine ⟨[], ?_, Nest.nil _ _⟩
  have := (Mk.lit (E := 24) (Below.refl w.heap.size w) #[] (by simp)).2
  exact Own.base (by simpa using this) hB
theorem Nest.push {rows : List Value} {A1 : Option Addr} {m c1 K : Nat} {xs : List Int} (h : Nest w B rows xss) (hk : ∀ i g : Nat, (rows[i]?).bind Value.ownBlock = some g → g < K) (hr : Own w K 2 A1 m c1 (ints xs)) (hB : B ≤ K) :
    Nest w B (rows ++ [.slice A1 m c1]) (xss ++ [xs]) := by
  have hn : xs.length = m := by have := hr.len; rwa [ints_length] at this
  subst hn
  refine ⟨by simp [h.len], fun k hk => ?_, fun i j g hij hi => ?_⟩
  · by_cases hlt : k < xss.length
    · obtain ⟨A', c', e, ho⟩ := h.row k hlt
      rw [List.getElem_append_left hlt]
      exact ⟨A', c', by rw [List.getElem?_append_left (by rw [h.len]; exact hlt)]; exact e, ho⟩
    · have hk' : k = xss.length := by simp at hk; omega
      subst hk'
      simp only [List.getElem_append_right (Nat.le_refl _), Nat.sub_self, List.getElem_cons_zero]
      exact ⟨A1, c1, by rw [List.getElem?_append_right (by rw [h.len]; exact Nat.le_refl _), h.len, Nat.sub_self]; rfl, hr.base hB⟩
  · rcases Nat.lt_or_ge j rows.length with hj | hj
    · rw [List.getElem?_append_left (by omega)] at hi
      rw [List.getElem?_append_left hj]
      exact h.apart i j g hij hi
    · rcases Nat.lt_or_ge i rows.length with hil | hil
      · rw [List.getElem?_append_left hil] at hi
        have hg := hk i g hi
        rw [List.getElem?_append_right hj]
        by_cases hj0 : j - rows.length = 0
        · rw [hj0]
          intro he
          have := (World.ownsRow.lt hr g (by simpa using he)).1
          omega
        · rw [List.getElem?_eq_none (by simp; omega)]; simp
      · rw [List.getElem?_append_right hj, List.getElem?_eq_none (by simp; omega)]; simp
end
/-- Other rows of numbers and other blocks are as they were. -/
def KeptR (w w' : World) : Prop := (∀ (B : Nat) (A : Option Addr) (n c : Nat) (us : List Value), Own w B 2 A n c us → Own w' B 2 A n c us) ∧ ∀ (g : Nat) (t : TypeId) (cs : Array Value), Blk w g t cs → 24 ≠ t → Blk w' g t cs
/-- A drawn row is appended. -/
theorem wpList_pushRow {ops : Array Oper} {rest : List Oper} {o : Oper} {a : Act} {Q : Exit → Act → World → Prop} (W w0 w : World) (g : Nat) (T : TypeId)
    (hgd : o.guard = none) (s x : Operand) (ho : o.op = .call { callee := .builtin .append, args := #[s, x], argTypes := #[44, 44] })
    (A : Option Addr) (n c : Nat) (xss : List (List Int)) (A1 : Option Addr) (m c1 : Nat) (xs : List Int) (h : OwnM w0 W.heap.size A n c xss) (dW : Dr g T W w0) (d : Dr g T w0 w) (h1 : 24 ≠ T) (h2 : 2 ≠ T)
    (hr : Own w w0.heap.size 2 A1 m c1 (ints xs)) (hn : n ≤ 1099511627776)
    (hs : a.eval s = .slice A n c) (hx : a.eval x = .slice (some ⟨w.heap.size, 0, none⟩) 1 1)
    (k : ∀ A' c' w', OwnM w' W.heap.size A' (n + 1) c' (xss ++ [xs]) → Dr g T W w' → KeptR w w' → wpList Tryz.prog ops Q rest (a.put o.dst (.slice A' (n + 1) c')) w') :
    wpList Tryz.prog ops Q (o :: rest) a (w.alloc (.cells #[.slice A1 m c1] 24)) := by
  obtain ⟨rows, ho0, hn0⟩ := h
  have hblk := hn0.block
  have ho1 := ho0.dr d h1
  have hn1 : Nest w W.heap.size rows xss := ⟨hn0.len, fun k hk => by obtain ⟨A1, c1, e, h3⟩ := hn0.row k hk; exact ⟨A1, c1, e, h3.dr d h2⟩, hn0.apart⟩
  have hn2 := hn1.push (fun i g hg => (hblk i g hg).2) hr dW.size
  have dd := dW.trans d
  refine wpList_app1 (cutW w W.heap.size) w 44 24 (.slice none 0 0) 24 Tryz.underlying44 info_s rfl (by omega) hgd s x ho A n c rows (.slice A1 m c1) (ho1.mk_ dd.size) hn rfl hs hx ?_
  intro A' c' w' hM' hg _
  exact k A' c' w' ⟨_, hM'.own_ (cutW_size dd.size), hn2.grown ho1 (by decide) hg⟩ (dd.grown ho1 hg) ⟨fun B A2 n2 c2 us h2 => h2.grown hg (h2.ne ho1 (by decide)), fun g2 t cs h2 hne => h2.grown hg (ho1.ne_blk h2 hne)⟩
end Go.Proofs.YtggigolkncckoaaGreat
namespace Go.Proofs.YtggigolkncckoaaGreat
open Go.RowKit
/-- May the first m operations of the region go in the text's order? R: those that each waits for, directly or through others. -/
def tasksOkS (ops : Array Oper) (m sz : Nat) (R : List (List Nat)) : Bool :=
  Region.noSelect ops && m ≤ ops.size &&
  (List.range ops.size).all (fun j => match ops[j]? with
    | none => false
    | some o => (R.getD j []).all (fun i => o.after.toList.any fun e => Region.binds .any e && (decide (e.on < j)) && (e.on == i || (R.getD e.on []).contains i)) &&
      if j < m then
        (o.after.toList.all fun e => !Region.binds .any e || decide (e.on < j)) &&
        (match o.dst with
          | none => true
          | some d => decide (d < sz) && (List.range m).all fun i => i == j || dstOf ops i != some d) &&
        (o.looksAt ops).all (fun t => (List.range m).all fun i => dstOf ops i != some t || (R.getD j []).contains i)
      else (List.range m).all fun i => (R.getD j []).contains i)
section
variable {P : Program} {ops : Array Oper} {Q : Exit → Act → World → Prop}
theorem listed_reachS {ops : Array Oper} {m sz : Nat} {R : List (List Nat)} (hok : tasksOkS ops m sz R = true) (L : Nat → Bool)
    (hL : ∀ (j : Nat) (o : Oper), ops[j]? = some o → L j = true → ∀ e ∈ o.after, Region.binds .any e = true → L e.on = true) :
    ∀ (j : Nat) (o : Oper), ops[j]? = some o → (∀ e ∈ o.after, Region.binds .any e = true → L e.on = true) → ∀ i ∈ R.getD j [], L i = true := by
  intro j
  induction j using Nat.strongRecOn with
  | ind j ih =>
    intro o ho hal i hi
    have hlt : j < ops.size := (Array.getElem?_eq_some_iff.1 ho).1
    unfold tasksOkS at hok
    simp only [Bool.and_eq_true] at hok
    have h1 := List.all_eq_true.1 hok.2 j (by simpa using hlt)
    rw [ho] at h1
    simp only [Bool.and_eq_true] at h1
    have h2 := List.all_eq_true.1 h1.1 i hi
    obtain ⟨e, he, hc⟩ := List.any_eq_true.1 h2
    replace he : e ∈ o.after := by simpa using he
    simp only [Bool.and_eq_true, Bool.or_eq_true, decide_eq_true_eq, beq_iff_eq, List.contains_iff_mem] at hc
    obtain ⟨⟨hb, hej⟩, hc⟩ := hc
    have hle := hal e he hb
    rcases hc with rfl | hc
    · exact hle
    · have hes : e.on < ops.size := by omega
      exact ih e.on hej _ (Array.getElem?_eq_getElem hes) (fun e' he' hb' => hL e.on _ (Array.getElem?_eq_getElem hes) hle e' he' hb') i hc
theorem reach_ltS {ops : Array Oper} {m sz : Nat} {R : List (List Nat)} (hok : tasksOkS ops m sz R = true) : ∀ j, j < ops.size → ∀ i ∈ R.getD j [], i < j := by
  intro j
  induction j using Nat.strongRecOn with
  | ind j ih =>
    intro hlt i hi
    unfold tasksOkS at hok
    simp only [Bool.and_eq_true] at hok
    have h1 := List.all_eq_true.1 hok.2 j (by simpa using hlt)
    rw [Array.getElem?_eq_getElem hlt] at h1
    simp only [Bool.and_eq_true] at h1
    have h2 := List.all_eq_true.1 h1.1 i hi
    obtain ⟨e, he, hc⟩ := List.any_eq_true.1 h2
    simp only [Bool.and_eq_true, Bool.or_eq_true, decide_eq_true_eq, beq_iff_eq, List.contains_iff_mem] at hc
    obtain ⟨⟨hb, hej⟩, hc⟩ := hc
    rcases hc with rfl | hc
    · exact hej
    · have := ih e.on hej (by omega) i hc
      omega
theorem tasks_specS {ops : Array Oper} {m sz : Nat} {R : List (List Nat)} (hok : tasksOkS ops m sz R = true) :
    m ≤ ops.size ∧ (∀ (j : Nat) (o : Oper), ops[j]? = some o → j < m → (∀ e ∈ o.after, Region.binds .any e = true → e.on < j) ∧ (∀ d, o.dst = some d → d < sz ∧ ∀ i, i < m → i ≠ j → dstOf ops i ≠ some d) ∧
      ∀ t ∈ o.looksAt ops, ∀ i, i < m → dstOf ops i = some t → i ∈ R.getD j []) ∧ (∀ (j : Nat), j < ops.size → m ≤ j → ∀ i, i < m → i ∈ R.getD j []) := by
  unfold tasksOkS at hok
  simp only [Bool.and_eq_true, decide_eq_true_eq] at hok
  obtain ⟨⟨_, hm⟩, hall⟩ := hok
  refine ⟨hm, fun j o ho hj => ?_, fun j hlt hj i hi => ?_⟩
  · have hlt : j < ops.size := (Array.getElem?_eq_some_iff.1 ho).1
    have h1 := List.all_eq_true.1 hall j (by simpa using hlt)
    rw [ho] at h1
    simp only [Bool.and_eq_true, if_pos hj] at h1
    obtain ⟨_, ⟨h2, h3⟩, h4⟩ := h1
    refine ⟨fun e he hb => ?_, fun d hd => ?_, fun t ht i hi hd => ?_⟩
    · have := List.all_eq_true.1 h2 e (by simpa using he)
      simpa [hb] using this
    · rw [hd] at h3
      simp only [Bool.and_eq_true, decide_eq_true_eq] at h3
      refine ⟨h3.1, fun i hi hne => ?_⟩
      have := List.all_eq_true.1 h3.2 i (by simpa using hi)
      simpa [hne] using this
    · have := List.all_eq_true.1 (List.all_eq_true.1 h4 t ht) i (by simpa using hi)
      simpa [hd] using this
  · have h1 := List.all_eq_true.1 hall j (by simpa using hlt)
    rw [Array.getElem?_eq_getElem hlt] at h1
    simp only [Bool.and_eq_true, if_neg (Nat.not_lt.2 hj)] at h1
    have := List.all_eq_true.1 h1.2 i (by simpa using hi)
    simpa using this
theorem wp_moveS {o : Oper} {a1 a2 : Act} {w : World} {R : Value → World → Prop} (he : execOp a2.eval o = execOp a1.eval o) (hs : ∀ d, o.dst = some d → d < a1.tmps.size)
    (h : o.wp P a1 w (fun a' w' => ∃ v, (∀ d, o.dst = some d → a'.tmps[d]? = some v) ∧ a'.defers = a1.defers ∧ R v w') NoWay) : o.wp P a2 w (fun a' w' => ∃ v, a' = a2.put o.dst v ∧ R v w') Q := by
  have key : ∀ (u : Value) (w' : World), (∃ v, (∀ d, o.dst = some d → (a1.put o.dst u).tmps[d]? = some v) ∧ (a1.put o.dst u).defers = a1.defers ∧ R v w') → ∃ v, a2.put o.dst u = a2.put o.dst v ∧ R v w' := by
    rintro u w' ⟨v, hv, _, hR⟩
    cases hd : o.dst with
    | none => exact ⟨v, rfl, hR⟩
    | some d =>
      refine ⟨u, rfl, ?_⟩
      have h1 := hv d hd
      have h2 := hs d hd
      rw [hd] at h1
      simp [Act.put, h2] at h1
      exact h1 ▸ hR
  unfold Oper.wp at *
  rw [he]
  generalize (execOp a1.eval o).run P w = r at *
  cases r with
  | ok n w' =>
    cases n <;> simp only [Oper.upon] at h ⊢
    case value u => exact key _ _ h
    case skip => exact key _ _ h
    case defer dd =>
      obtain ⟨v, _, h, _⟩ := h
      have h1 := congrArg List.length h
      cases hd : o.dst <;> simp [Act.put, hd] at h1
    case enter f args =>
      refine Calls.mono h fun e w'' he => ?_
      cases e with
      | returned u => exact key _ _ he
      | panicked c => exact absurd he id
      | outgrown => exact absurd he NoWay.lets
    case row row args => exact Rows.mono h fun u w'' he => key _ _ he
  | halt x w' =>
    cases x <;> simp only [Oper.upon] at h ⊢
    case panic u => exact absurd h id
/-- What is to be shown of operation j. -/
def ObS (P : Program) (ops : Array Oper) (S : World → Prop) (R C : List (List Nat)) (Rel : World → World → Prop) (m : Nat) (V : (Nat → Value) → List VP) (x : Nat → Value) (a0 : Act) (j : Nat) : Prop :=
  ∀ w, S w → (∀ i ∈ availR R C m j, ((V x).getD i VAny).p (x i) w) →
    wpOp P ops NoWay j (fun a' w' => ∃ v, (∀ d, dstOf ops j = some d → a'.tmps[d]? = some v) ∧ a'.defers = a0.defers ∧ ((V x).getD j VAny).p v w' ∧ StepR C Rel j w w') (putS ops x a0 j) w
theorem tasks_goS {m : Nat} {Rel : World → World → Prop} {R C : List (List Nat)} {V : (Nat → Value) → List VP} {S : World → Prop} {a0 : Act} (hok : tasksOkS ops m a0.tmps.size R = true)
    (hdep : ∀ x x' j, (∀ i ∈ R.getD j [], x i = x' i) → (V x).getD j VAny = (V x').getD j VAny) (hweak : ∀ i, i < m → (C.getD i []).isEmpty = false → ∀ k, k < m → k ≠ i → i ∉ R.getD k [] → k ∉ C.getD i [] → ∀ x v w w', ((V x).getD k VAny).p v w → Rel w w' → ((V x).getD k VAny).p v w') (hSt : ∀ j w w', S w → StepR C Rel j w w' → S w') (hob : ∀ x j, j < m → ObS P ops S R C Rel m V x a0 j)
    (hend : ∀ x w', S w' → (∀ i ∈ endR C m, ((V x).getD i VAny).p (x i) w') → wpAny P .any ops Q (ops.size - m) (listedTo ops.size m) (putS ops x a0 m) w') :
    ∀ (c : Nat) (U : List Nat) (listed : Array Bool) (w : World) (x : Nat → Value), U.length = c → U.Nodup → (∀ i, i ∈ U ↔ i < m ∧ listed.getD i false = false) → listed.size = ops.size →
      (∀ i, m ≤ i → i < ops.size → listed.getD i false = false) → (∀ (j : Nat) (o : Oper), ops[j]? = some o → listed.getD j false = true → ∀ e ∈ o.after, Region.binds .any e = true → listed.getD e.on false = true) →
      S w → (∀ i, i < m → listed.getD i false = true → (∀ j, j < m → i ∈ C.getD j [] → listed.getD j false = false) → ((V x).getD i VAny).p (x i) w) → wpAny P .any ops Q (ops.size - m + c) listed (putD ops (fun i => listed.getD i false) x a0 m) w := by
  obtain ⟨hmn, hspec, htail⟩ := tasks_specS hok
  have hsel : Region.noSelect ops = true := by unfold tasksOkS at hok; simp only [Bool.and_eq_true] at hok; exact hok.1.1
  intro c
  induction c with
  | zero =>
    intro U listed w x hU hnd hmem hsz hun hcl hS hV
    obtain rfl : U = [] := List.eq_nil_of_length_eq_zero hU
    have hall : ∀ i, i < m → listed.getD i false = true := fun i hi => by
      cases h : listed.getD i false
      · exact absurd ((hmem i).2 ⟨hi, h⟩) (by simp)
      · rfl
    have hl : listed = listedTo ops.size m := by
      apply Array.ext
      · simp [listedTo, hsz]
      · intro i h1 h2
        have e : listed.getD i false = listed[i] := by simp [Array.getD, h1]
        by_cases hi : i < m
        · have := hall i hi
          rw [e] at this
          simp [listedTo, this, hi]
        · have := hun i (by omega) (by omega)
          rw [e] at this
          simp [listedTo, this, hi]
    rw [Nat.add_zero, putD_congr (ops := ops) _ (fun _ => true) x x a0 m (fun i hi => ⟨hall i hi, fun _ => rfl⟩), hl]
    exact hend x w hS (fun i hi => hV i (endR_spec.1 hi).1 (hall i (endR_spec.1 hi).1) (fun j hj hc => absurd hc ((endR_spec.1 hi).2 j hj)))
  | succ c ih =>
    intro U listed w x hU hnd hmem hsz hun hcl hS hV
    have hne : U ≠ [] := fun e => by rw [e] at hU; simp at hU
    show (_ → _) ∧ _
    refine ⟨fun hr => ?_, fun i hi => ?_⟩
    · exfalso
      obtain ⟨i, hiU, hmin⟩ := min_mem U hne
      obtain ⟨him, hil⟩ := (hmem i).1 hiU
      have hlt : i < ops.size := by omega
      have : i ∈ Region.ready .any ops listed := mem_ready.2 ⟨by simpa [Array.getD, hsz, hlt] using hil, _, Array.getElem?_eq_getElem hlt, fun e he hb => by
        have hlti := (hspec i _ (Array.getElem?_eq_getElem hlt) him).1 e he hb
        cases h : listed.getD e.on false
        · have := hmin e.on ((hmem _).2 ⟨by omega, h⟩); omega
        · rfl⟩
      rw [hr] at this
      cases this
    · obtain ⟨hil, o, ho, hdeps⟩ := mem_ready.1 hi
      have hlt : i < ops.size := (Array.getElem?_eq_some_iff.1 ho).1
      have hil' : listed.getD i false = false := by simpa [Array.getD, hsz, hlt] using hil
      have hreach := listed_reachS hok (fun i => listed.getD i false) hcl i o ho hdeps
      have him : i < m := by
        rcases Nat.lt_or_ge i m with h | h
        · exact h
        · exfalso
          obtain ⟨k, hk⟩ := List.exists_mem_of_ne_nil U hne
          obtain ⟨hkm, hkl⟩ := (hmem k).1 hk
          have := hreach k (htail i hlt h k hkm)
          rw [hkl] at this; cases this
      obtain ⟨_, hdd, hlook⟩ := hspec i o ho him
      have hdst : dstOf ops i = o.dst := by simp [dstOf, ho]
      have hso : ∀ cs b, o.op ≠ .select cs b := fun cs b => Region.noSelect_spec hsel i o cs b ho
      -- the two frames agree on what o looks at
      have hagree : ∀ t ∈ o.looksAt ops, (putD ops (fun i => listed.getD i false) x a0 m).tmps[t]? = (putS ops x a0 i).tmps[t]? := fun t ht => by
        by_cases hex : ∃ k, k < m ∧ dstOf ops k = some t
        · obtain ⟨k, hkm, hkd⟩ := hex
          have hkR := hlook t ht k hkm hkd
          have hki := reach_ltS hok i hlt k hkR
          have hkl := hreach k hkR
          have hks : k < ops.size := by omega
          have hkd' : ops[k].dst = some t := by
            have h0 := hkd
            simp only [dstOf, Array.getElem?_eq_getElem hks, Option.bind_some] at h0
            exact h0
          obtain ⟨hdsz', hu'⟩ := (hspec k _ (Array.getElem?_eq_getElem hks) hkm).2.1 t hkd'
          rw [putD_at _ _ _ _ k hkd hkl hdsz' m hkm (fun l hl hlk => hu' l hl hlk)]
          unfold putS
          rw [putD_at _ _ _ _ k hkd rfl hdsz' i hki (fun l hl hlk => hu' l (by omega) hlk)]
        · rw [putD_other _ _ _ _ m (fun k hk hkd => absurd ⟨k, hk, hkd⟩ hex)]
          unfold putS
          rw [putD_other _ _ _ _ i (fun k hk hkd => absurd ⟨k, by omega, hkd⟩ hex)]
      have hob' := hob x i him w hS (fun k hk => by
        obtain ⟨hkR, hkC⟩ := availR_spec.1 hk
        refine hV k (by have := reach_ltS hok i hlt k hkR; omega) (hreach k hkR) (fun j hj hc => ?_)
        rcases hkC j hj hc with rfl | hij
        · exact hil'
        · cases hjl : listed.getD j false
          · rfl
          · have hjs : j < ops.size := by omega
            have := listed_reachS hok (fun i => listed.getD i false) hcl j _ (Array.getElem?_eq_getElem hjs) (hcl j _ (Array.getElem?_eq_getElem hjs) hjl) i hij
            rw [hil'] at this; cases this)
      have hsz1 := putD_size (ops := ops) (fun _ => true) x a0 i
      -- what comes behind
      have next : ∀ v w', ((V x).getD i VAny).p v w' → StepR C Rel i w w' → wpAny P .any ops Q (ops.size - m + c) (listed.setIfInBounds i true) ((putD ops (fun i => listed.getD i false) x a0 m).put o.dst v) w' := fun v w' hv hb => by
        have hput := putD_put (ops := ops) (fun k => listed.getD k false) (fun k => (listed.setIfInBounds i true).getD k false) x (fun k => if k = i then v else x k) a0 i hil'
          (by simp [hsz, hlt]) (fun k hk => ⟨by rw [getD_set_ne _ (Ne.symm hk)], by simp [hk]⟩) m him
          (fun d' k hk hki hd' => (hdd d' (hdst ▸ hd')).2 k hk hki)
        simp only [if_true] at hput
        rw [← hdst, hput]
        refine ih (U.erase i) _ _ _ ?_ (hnd.erase _) (fun k => ?_) (by simpa using hsz) (fun k h1 h2 => ?_) (fun j oj hoj hj e he hb' => ?_) (hSt i _ _ hS hb) (fun k hk hkl hcons => ?_)
        · rw [List.length_erase_of_mem ((hmem i).2 ⟨him, hil'⟩), hU]; rfl
        · rw [hnd.mem_erase_iff, hmem]
          by_cases hk : k = i
          · subst hk; simp [hsz, hlt]
          · rw [getD_set_ne _ (Ne.symm hk)]; simp [hk]
        · rw [getD_set_ne _ (by omega)]; exact hun k h1 h2
        · by_cases hji : j = i
          · subst hji
            rw [ho] at hoj; injection hoj with hoj; subst hoj
            exact getD_set_true (hdeps e he hb')
          · rw [getD_set_ne _ (Ne.symm hji)] at hj
            exact getD_set_true (hcl j oj hoj hj e he hb')
        · by_cases hki : k = i
          · subst hki
            rw [hdep _ x k (fun l hl => by have := reach_ltS hok k hlt l hl; simp only [show l ≠ k by omega, if_false])]
            simpa using hv
          · rw [getD_set_ne _ (Ne.symm hki)] at hkl
            have hks : k < ops.size := by omega
            have hdk : (V fun l => if l = i then v else x l).getD k VAny = (V x).getD k VAny := hdep _ x k (fun l hl => by
              have hll := listed_reachS hok (fun i => listed.getD i false) hcl k _ (Array.getElem?_eq_getElem hks) (hcl k _ (Array.getElem?_eq_getElem hks) hkl) l hl
              have hne : l ≠ i := fun e => by rw [e] at hll; rw [hil'] at hll; cases hll
              simp only [hne, if_false])
            simp only [hki, if_false]
            rw [hdk]
            have hb0 : ∀ j, j < m → k ∈ C.getD j [] → listed.getD j false = false := fun j hj hc => by
              have h1 := hcons j hj hc
              by_cases hji : j = i
              · rw [hji]; exact hil'
              · rwa [getD_set_ne _ (Ne.symm hji)] at h1
            have hkC : k ∉ C.getD i [] := fun hc => by
              have h1 := hcons i him hc
              simp [hsz, hlt] at h1
            have hiR : i ∉ R.getD k [] := fun hik => by
              have := listed_reachS hok (fun i => listed.getD i false) hcl k _ (Array.getElem?_eq_getElem hks) (hcl k _ (Array.getElem?_eq_getElem hks) hkl) i hik
              rw [hil'] at this; cases this
            cases he : (C.getD i []).isEmpty
            · replace hb : Rel w w' := by unfold StepR at hb; rw [he] at hb; exact hb
              exact hweak i him he k hk hki hiR hkC x _ _ _ (hV k hk hkl hb0) hb
            · replace hb : Below w.heap.size w w' := by unfold StepR at hb; rw [he] at hb; exact hb
              exact ((V x).getD k VAny).st _ _ _ (hV k hk hkl hb0) hb
      unfold wpOp at hob' ⊢
      simp only [ho] at hob' ⊢
      rw [wanted_same hagree]
      split
      · rename_i hw
        rw [if_pos hw] at hob'
        rcases hob' with h | ⟨_, h⟩
        case inr => exact absurd h NoWay.lets
        refine .inl (Oper.wp_mono ?_ (wp_moveS (Q := Q) (R := fun v w' => ((V x).getD i VAny).p v w' ∧ StepR C Rel i w w') (exec_same hso hagree) (fun d hd => by unfold putS; rw [hsz1.1]; exact (hdd d hd).1)
          (Oper.wp_mono (fun a' w' ⟨v, h1, h2, h3, h4⟩ => ⟨v, fun d hd => h1 d (hdst.trans hd), by unfold putS; rw [hsz1.2]; exact h2, h3, h4⟩) h)))
        rintro a' w' ⟨v, rfl, hv, hb⟩
        exact next v w' hv hb
      · rename_i hw
        rw [if_neg hw] at hob'
        obtain ⟨v, h1, _, h3, h4⟩ := hob'
        cases hd : o.dst with
        | none =>
          have hn := next v w h3 h4
          rw [hd] at hn
          exact hn
        | some d =>
          have hvu : v = undef := by
            have := h1 d (hdst.trans hd)
            rw [hd] at this
            simp [Act.put, putS, hsz1.1, (hdd d hd).1] at this
            exact this.symm
          have hn := next undef w (hvu ▸ h3) h4
          rw [hd] at hn
          exact hn
/-- **A region that draws its order**: each of its first m operations is shown once; what is left behind them goes on. -/
theorem wp_tasksS {id m : Nat} {Rel : World → World → Prop} (R C : List (List Nat)) (V : (Nat → Value) → List VP) (S : World → Prop) {a0 : Act} {w : World} (hm : P.follows .mixedOrders = true) (hok : tasksOkS ops m a0.tmps.size R = true)
    (hdep : ∀ x x' j, (∀ i ∈ R.getD j [], x i = x' i) → (V x).getD j VAny = (V x').getD j VAny) (hweak : ∀ i, i < m → (C.getD i []).isEmpty = false → ∀ k, k < m → k ≠ i → i ∉ R.getD k [] → k ∉ C.getD i [] → ∀ x v w w', ((V x).getD k VAny).p v w → Rel w w' → ((V x).getD k VAny).p v w') (hS0 : S w.drew) (hSt : ∀ j w w', S w → StepR C Rel j w w' → S w') (hob : ∀ x j, j < m → ObS P ops S R C Rel m V x a0 j)
    (hend : ∀ x w', S w' → (∀ i ∈ endR C m, ((V x).getD i VAny).p (x i) w') → wpAny P .any ops Q (ops.size - m) (listedTo ops.size m) (putS ops x a0 m) w') : (Code.region id ops true).wp P Q a0 w := by
  have hmn := (tasks_specS hok).1
  have hf : ∀ i, (Array.replicate ops.size false).getD i false = false := fun i => by simp [Array.getD]
  have h := tasks_goS (Q := Q) hok hdep hweak hSt hob hend m (List.range m) (Array.replicate ops.size false) w.drew (fun _ => undef) (by simp) List.nodup_range (fun i => by rw [hf]; simp) (by simp) (fun i _ _ => hf i) (fun j o _ hj => by rw [hf] at hj; cases hj) hS0
    (fun i _ hi => by rw [hf] at hi; cases hi)
  refine wp_region_any hm ?_
  rw [show ops.size - m + m = ops.size by omega, putD_congr (ops := ops) _ (fun _ => false) _ (fun _ => undef) a0 m (fun i _ => ⟨hf i, fun _ => rfl⟩)] at h
  have e : ∀ n, putD ops (fun _ => false) (fun _ => undef) a0 n = a0 := fun n => by
    induction n with
    | zero => rfl
    | succ n ih => unfold putD; simpa using ih
  rw [e] at h
  exact h
/-- What is to be shown, operation by operation, in the text's order; the frame goes along. -/
def ObsS (P : Program) (ops : Array Oper) (Q : Exit → Act → World → Prop) (S : World → Prop) (R C : List (List Nat)) (Rel : World → World → Prop) (m : Nat) (V : (Nat → Value) → List VP) (x : Nat → Value) : Nat → Nat → Act → Prop
  | 0, j, a => ∀ w, S w → (∀ i ∈ endR C m, ((V x).getD i VAny).p (x i) w) → wpAny P .any ops Q (ops.size - j) (listedTo ops.size j) a w
  | r + 1, j, a => (∀ w, S w → (∀ i ∈ availR R C m j, ((V x).getD i VAny).p (x i) w) →
      wpOp P ops NoWay j (fun a' w' => ∃ v, (∀ d, dstOf ops j = some d → a'.tmps[d]? = some v) ∧ a'.defers = a.defers ∧ ((V x).getD j VAny).p v w' ∧ StepR C Rel j w w') a w) ∧
    ObsS P ops Q S R C Rel m V x r (j + 1) (a.put (dstOf ops j) (x j))
theorem obs_allS {S : World → Prop} {R C : List (List Nat)} {Rel : World → World → Prop} {m : Nat} {V : (Nat → Value) → List VP} {x : Nat → Value} {a0 : Act} : ∀ (r j : Nat), ObsS P ops Q S R C Rel m V x r j (putS ops x a0 j) →
    (∀ k, j ≤ k → k < j + r → ObS P ops S R C Rel m V x a0 k) ∧ ∀ w, S w → (∀ i ∈ endR C m, ((V x).getD i VAny).p (x i) w) → wpAny P .any ops Q (ops.size - (j + r)) (listedTo ops.size (j + r)) (putS ops x a0 (j + r)) w := by
  intro r
  induction r with
  | zero => intro j h; exact ⟨fun k h1 h2 => by omega, h⟩
  | succ r ih =>
    intro j h
    obtain ⟨h1, h2⟩ := h
    have h2' : ObsS P ops Q S R C Rel m V x r (j + 1) (putS ops x a0 (j + 1)) := h2
    obtain ⟨h3, h4⟩ := ih (j + 1) h2'
    refine ⟨fun k hk1 hk2 => ?_, by rw [show j + (r + 1) = j + 1 + r by omega]; exact h4⟩
    by_cases hk : k = j
    · subst hk
      intro w hS hV
      have h := h1 w hS hV
      rw [show (putS ops x a0 k).defers = a0.defers from (putD_size _ _ _ _).2] at h
      exact h
    · exact h3 k (by omega) (by omega)
theorem wp_obsS {id : Nat} (m : Nat) (Rel : World → World → Prop) (R C : List (List Nat)) (V : (Nat → Value) → List VP) (S : World → Prop) {a0 : Act} {w : World} (hm : P.follows .mixedOrders = true) (hok : tasksOkS ops m a0.tmps.size R = true)
    (hdep : ∀ x x' j, (∀ i ∈ R.getD j [], x i = x' i) → (V x).getD j VAny = (V x').getD j VAny) (hweak : ∀ i, i < m → (C.getD i []).isEmpty = false → ∀ k, k < m → k ≠ i → i ∉ R.getD k [] → k ∉ C.getD i [] → ∀ x v w w', ((V x).getD k VAny).p v w → Rel w w' → ((V x).getD k VAny).p v w') (hSt : ∀ j w w', S w → StepR C Rel j w w' → S w') (hS0 : S w.drew) (h : ∀ x, ObsS P ops Q S R C Rel m V x m 0 a0) : (Code.region id ops true).wp P Q a0 w :=
  wp_tasksS (m := m) (Rel := Rel) R C V S hm hok hdep hweak hS0 hSt (fun x j hj => (obs_allS m 0 (h x)).1 j (by omega) (by omega)) (fun x w' hS hV => by
    have := (obs_allS m 0 (h x)).2 w' hS (hV)
    rwa [Nat.zero_add] at this)
theorem obs_stepS {S : World → Prop} {R C : List (List Nat)} {Rel : World → World → Prop} {m : Nat} {V : (Nat → Value) → List VP} {x : Nat → Value} {r j : Nat} {a : Act} {o : Oper} {d : Tmp} (ho : ops[j]? = some o) (hd : o.dst = some d)
    (h : ∀ w, S w → (∀ i ∈ availR R C m j, ((V x).getD i VAny).p (x i) w) → ∀ K : Act → World → Prop, Shut (∀ a' w' v, a'.tmps[d]? = some v → a'.defers = a.defers → ((V x).getD j VAny).p v w' → StepR C Rel j w w' → K a' w') →
      if Region.wanted o (yielded ops a.tmps) = true then Oper.wp P o a w K NoWay else K (a.put o.dst undef) w)
    (hr : ObsS P ops Q S R C Rel m V x r (j + 1) { a with tmps := a.tmps.setIfInBounds d (x j) }) : ObsS P ops Q S R C Rel m V x (r + 1) j a := by
  have hdst : dstOf ops j = some d := by simp [dstOf, ho, hd]
  refine ⟨fun w hS hV => wpOp_step ho (fun K hK => ?_), by rw [hdst]; exact hr⟩
  exact h w hS hV K (fun a' w' v h1 h2 h3 h4 => hK a' w' ⟨v, fun d' hd' => by rw [hdst] at hd'; injection hd' with hd'; exact hd' ▸ h1, h2, h3, h4⟩)
/-- An operation that yields nothing (a store). -/
theorem obs_stepN {S : World → Prop} {R C : List (List Nat)} {Rel : World → World → Prop} {m : Nat} {V : (Nat → Value) → List VP} {x : Nat → Value} {r j : Nat} {a : Act} {o : Oper} (ho : ops[j]? = some o) (hd : o.dst = none)
    (h : ∀ w, S w → (∀ i ∈ availR R C m j, ((V x).getD i VAny).p (x i) w) → ∀ K : Act → World → Prop, Shut (∀ a' w', a'.defers = a.defers → ((V x).getD j VAny).p undef w' → StepR C Rel j w w' → K a' w') →
      if Region.wanted o (yielded ops a.tmps) = true then Oper.wp P o a w K NoWay else K (a.put o.dst undef) w)
    (hr : ObsS P ops Q S R C Rel m V x r (j + 1) a) : ObsS P ops Q S R C Rel m V x (r + 1) j a := by
  have hdst : dstOf ops j = none := by simp [dstOf, ho, hd]
  refine ⟨fun w hS hV => wpOp_step ho (fun K hK => ?_), by rw [hdst]; exact hr⟩
  exact h w hS hV K (fun a' w' h2 hv h4 => hK a' w' ⟨undef, fun d' hd' => absurd (hdst.symm.trans hd') (by simp), h2, hv, h4⟩)
end
end Go.Proofs.YtggigolkncckoaaGreat
namespace Go.Proofs.YtggigolkncckoaaGreat
open Go.RowKit
/-- The value is nothing; the block is known. -/
def VBk (g : Nat) (t : TypeId) (cs : Array Value) : VP := ⟨fun _ w => Blk w g t cs, fun _ _ _ h hb => h.below hb h.lt⟩
/-- What drawing, or the store of a space into the result's cell, does. -/
def RelB (g res : Nat) (w w' : World) : Prop := Dr g 143 w w' ∨ ∃ (p : Int) (A : Option Addr) (n c : Nat) (p' : Int) (A' : Option Addr) (n' c' : Nat), Blk w res 26 #[.int .i64 p, .slice A n c] ∧ w' = (w.setCell ⟨res, 0, none⟩ (.int .i64 p')).setCell ⟨res, 1, none⟩ (.slice A' n' c')
section
variable {w w' : World} {g res : Nat}
theorem Own.relB {B : Nat} {A : Option Addr} {n c : Nat} {us : List Value} (h : Own w B 2 A n c us) (r : RelB g res w w') : Own w' B 2 A n c us := by
  rcases r with d | ⟨p, A1, n1, c1, p', A', n', c', k, rfl⟩
  · exact h.dr d (by decide)
  · exact (h.far k (by decide) 0 _).far (k.set_ 0 (.int .i64 p')) (by decide) 1 _
theorem OwnM.relB {B : Nat} {A : Option Addr} {n c : Nat} {xss : List (List Int)} (h : OwnM w B A n c xss) (r : RelB g res w w') : OwnM w' B A n c xss := by
  obtain ⟨rows, ho, hn⟩ := h
  refine ⟨rows, ?_, hn.len, fun k hk => by obtain ⟨A1, c1, e, h3⟩ := hn.row k hk; exact ⟨A1, c1, e, h3.relB r⟩, hn.apart⟩
  rcases r with d | ⟨p, A1, n1, c1, p', A', n', c', k, rfl⟩
  · exact ho.dr d (by decide)
  · exact (ho.far k (by decide) 0 _).far (k.set_ 0 (.int .i64 p')) (by decide) 1 _
theorem Blk.relB {b : Nat} {cs : Array Value} (h : Blk w b 26 cs) (hne : b ≠ res) (r : RelB g res w w') : Blk w' b 26 cs := by
  rcases r with d | ⟨p, A1, n1, c1, p', A', n', c', k, rfl⟩
  · exact h.dr d (by decide)
  · exact (h.far hne _).far hne _
theorem Src.farSet {p : Int} {A : Option Addr} {n c : Nat} {i : Nat} {u : Value} (h : Src w g 143) (k : Blk w res 26 #[.int .i64 p, .slice A n c]) : Src (w.setCell ⟨res, i, none⟩ u) g 143 := by
  obtain ⟨B, nb, cb, bs, pl, h0, kg, r, h1, h2, h3, h4⟩ := h
  have hne : g ≠ res := fun e => by
    subst e
    unfold Blk at kg k
    rw [kg] at k
    injection k with k
    injection k with _ k
    exact absurd k (by decide)
  refine ⟨B, nb, cb, bs, pl, h0, kg.far hne u, ⟨r.1, fun hn0 => ?_⟩, h1, h2, h3, h4⟩
  obtain ⟨gb, ob, e, hc⟩ := r.2 hn0
  refine ⟨gb, ob, e, fun j v hv => ?_⟩
  have hcell := hc j v hv
  have hgb : gb ≠ res := fun e => by
    subst e
    rw [k.cell] at hcell
    obtain ⟨b, _, rfl⟩ := List.mem_map.1 (List.mem_of_getElem? hv)
    match ob + j, hcell with
    | 0, hcell => simp at hcell
    | 1, hcell => simp at hcell
    | _ + 2, hcell => simp at hcell
  rw [World.cell?_setCell_far _ _ _ _ (fun e => hgb e.symm)]
  exact hcell
theorem Src.relB (h : Src w g 143) (r : RelB g res w w') : Src w' g 143 := by
  rcases r with d | ⟨p, A1, n1, c1, p', A', n', c', k, rfl⟩
  · exact d.s'
  · exact (h.farSet k).farSet (p := p') (A := A1) (n := n1) (c := c1) (k.set_ 0 (.int .i64 p'))
theorem below_relB {w0 : World} {B : Nat} (h : Below B w0 w) (hg : B ≤ g) (hres : B ≤ res) (r : RelB g res w w') : Below B w0 w' := by
  rcases r with d | ⟨p, A1, n1, c1, p', A', n', c', k, rfl⟩
  · exact h.trans (d.b.mono hg)
  · exact (h.setCell (p := ⟨res, 0, none⟩) hres _).setCell (p := ⟨res, 1, none⟩) hres _
/-- The result's cell holds a space. -/
def SB (res : Nat) (w : World) : Prop := ∃ (p : Int) (A : Option Addr) (n c : Nat), Blk w res 26 #[.int .i64 p, .slice A n c]
theorem SB.below (h : SB res w) (hb : Below w.heap.size w w') : SB res w' := by obtain ⟨p, A, n, c, k⟩ := h; exact ⟨p, A, n, c, k.below hb k.lt⟩
theorem Blk.stored {p' : Int} {A' : Option Addr} {n' c' : Nat} {a b : Value} (k : Blk w res 26 #[a, b]) : Blk ((w.setCell ⟨res, 0, none⟩ (.int .i64 p')).setCell ⟨res, 1, none⟩ (.slice A' n' c')) res 26 #[.int .i64 p', .slice A' n' c'] := by
  simpa using (k.set_ 0 (.int .i64 p')).set_ 1 (.slice A' n' c')
theorem SB.relB (h : SB res w) (r : RelB g res w w') : SB res w' := by
  rcases r with d | ⟨p, A1, n1, c1, p', A', n', c', k, rfl⟩
  · obtain ⟨p, A, n, c, k⟩ := h; exact ⟨p, A, n, c, k.dr d (by decide)⟩
  · exact ⟨p', A', n', c', k.stored⟩
end
end Go.Proofs.YtggigolkncckoaaGreat
namespace Go.Proofs.YtggigolkncckoaaGreat
open Go.RowKit
/-- The value is a list of at most 17 lists of at most 8 numbers, made since the heap had B blocks. -/
def VLm (B : Nat) : VP := ⟨fun v w => ∃ (A : Option Addr) (m c : Nat) (L : List (List Int)), v = .slice A m c ∧ m ≤ 17 ∧ (∀ v ∈ L, v.length ≤ 8) ∧ OwnM w B A m c L, fun _ _ _ ⟨A, m, c, L, e, hm, hl, ho⟩ hb => ⟨A, m, c, L, e, hm, hl, ho.below hb⟩⟩
theorem VLm.dr {B g : Nat} {T : TypeId} {v : Value} {w w' : World} (h : (VLm B).p v w) (d : Dr g T w w') (h1 : 24 ≠ T) (h2 : 2 ≠ T) : (VLm B).p v w' := by
  obtain ⟨A, m, c, L, e, hm, hl, ho⟩ := h
  exact ⟨A, m, c, L, e, hm, hl, ho.dr d h1 h2⟩
end Go.Proofs.YtggigolkncckoaaGreat
namespace Go.Proofs.YtggigolkncckoaaGreat
open Go.RowKit
/-- The value is a list of at most 4 vectors, made since the heap had B blocks. -/
def VLu (B n : Nat) (P : Int) : VP := ⟨fun v w => ∃ (A : Option Addr) (m c : Nat) (L : List (List Int)), v = .slice A m c ∧ m ≤ 4 ∧ Tab P n L ∧ OwnM w B A m c L, fun _ _ _ ⟨A, m, c, L, e, hm, hl, ho⟩ hb => ⟨A, m, c, L, e, hm, hl, ho.below hb⟩⟩
theorem VLu.dr {B n g : Nat} {P : Int} {T : TypeId} {v : Value} {w w' : World} (h : (VLu B n P).p v w) (d : Dr g T w w') (h1 : 24 ≠ T) (h2 : 2 ≠ T) : (VLu B n P).p v w' := by
  obtain ⟨A, m, c, L, e, hm, hl, ho⟩ := h
  exact ⟨A, m, c, L, e, hm, hl, ho.dr d h1 h2⟩
/-- The value is a number from 0 to below P. -/
def VIz (P : Int) : VP := ⟨fun v _ => ∃ k : Int, v = .int .i64 k ∧ 0 ≤ k ∧ k < P, fun _ _ _ h _ => h⟩
end Go.Proofs.YtggigolkncckoaaGreat
namespace Go.Proofs.YtggigolkncckoaaGreat
open Go.RowKit
/-- A cell of a list of lists. -/
def RowAt (w : World) (a : Addr) (v : Value) : Prop := ∃ (g k n c : Nat) (us : List Value), a = ⟨g, k, none⟩ ∧ Own w 0 24 (some ⟨g, 0, none⟩) n c us ∧ k < n ∧ us[k]? = some v
section
variable {w w' : World} {a : Addr} {v : Value}
theorem RowAt.cell (h : RowAt w a v) : w.cell? a = some v := by
  obtain ⟨g, k, n, c, us, rfl, ho, hk, e⟩ := h
  obtain ⟨u, e1, e2⟩ := ho.cell_ hk
  rw [e] at e1
  rw [e2, Option.some.inj e1]
theorem RowAt.below (h : RowAt w a v) (hb : Below w.heap.size w w') : RowAt w' a v := by
  obtain ⟨g, k, n, c, us, e, ho, hk, h2⟩ := h
  exact ⟨g, k, n, c, us, e, ho.below hb, hk, h2⟩
theorem RowAt.dr {g : Nat} {T : TypeId} (h : RowAt w a v) (d : Dr g T w w') (h1 : 24 ≠ T) : RowAt w' a v := by
  obtain ⟨g, k, n, c, us, e, ho, hk, h2⟩ := h
  exact ⟨g, k, n, c, us, e, ho.dr d h1, hk, h2⟩
end
theorem OwnM.of {w0 w : World} {A : Option Addr} {n c : Nat} {xss : List (List Int)} (h : MkII w0 w A n c xss) : OwnM w w0.heap.size A n c xss := by
  obtain ⟨rows, hm, hn⟩ := h
  exact ⟨rows, hm.2, hn⟩
/-- A row of a list of lists of the call's own. -/
theorem OwnM.at_ {w : World} {B : Nat} {A : Option Addr} {n c : Nat} {xss : List (List Int)} (h : OwnM w B A n c xss) {k : Nat} (hk : k < n) : ∃ (g o : Nat) (hx : k < xss.length) (A1 : Option Addr) (c1 : Nat), A = some ⟨g, o, none⟩ ∧ o = 0 ∧ RowAt w ⟨g, o + k, none⟩ (.slice A1 xss[k].length c1) ∧ Own w B 2 A1 xss[k].length c1 (ints xss[k]) := by
  obtain ⟨rows, ho, hn⟩ := h
  have hx : k < xss.length := by rw [← hn.len, ho.len]; exact hk
  rcases ho.form with ⟨_, hz⟩ | ⟨g, rfl, _, _⟩
  · omega
  obtain ⟨A1, c1, e, h3⟩ := hn.row k hx
  exact ⟨g, 0, hx, A1, c1, rfl, rfl, ⟨g, k, n, c, rows, by rw [Nat.zero_add], ho.base (Nat.zero_le _), hk, e⟩, h3⟩
set_option maxHeartbeats 6400000 in
set_option maxRecDepth 8000 in
theorem l06Draw_any (g : Nat) (P : Int) (A : Option Addr) (n c : Nat) (sq : List Int) (w : World) (hs : Src w g 143) (hn : n ≤ 1048576) (ho : Own w 0 2 A n c (ints sq)) :
    Calls Tryz.prog 326 #[.pointer (some ⟨g, 0, none⟩), .agg #[.int .i64 P, .slice A n c]] w fun e w' => ∃ (A' : Option Addr) (m c' : Nat), e = .returned (.slice A' m c') ∧ m ≤ 100 ∧ (∃ xs : List Int, Own w' w.heap.size 2 A' m c' (ints xs)) ∧ Dr g 143 w w' := by
  have hsl : sq.length = n := ho.rd.lenI
  have k0 : Blk (w.alloc (.cells #[.int .i64 P, .slice A n c] 26)) w.heap.size 26 #[.int .i64 P, .slice A n c] := Blk.new _ _ _
  have d0 := (Dr.refl hs).alloc (.cells #[.int .i64 P, .slice A n c] 26)
  have o0 := ho.below ((Below.refl _ _).alloc (Nat.le_refl _) (.cells #[.int .i64 P, .slice A n c] 26))
  cases h1 : isSp P sq
  · have H1 := Lib.hid h1
    clear h1
    go_enter Tryz.func326, Tryz.ntmps326
    go_wp2_with fail
    refine (l03Is_b _ _ _ _ _ _ (by omega) o0.rd H1.out).mono ?_
    rintro e w2 ⟨rfl, hb⟩
    have d5 := d0.then hb
    have k5 := k0.below hb k0.lt
    have o5 := o0.below hb
    clear hb d0 o0 k0
    have hsp := l04Spoil_any g P A n c sq w2 d5.s' hn o5
    obtain ⟨q0, q1⟩ := k5.two
    go_wp2_with fail
    refine hsp.mono ?_
    rintro e w9 ⟨A9, m9, c9, rfl, hm9, ⟨xs9, ho9⟩, hd9⟩
    clear hsp q0 q1
    go_wp2
    go_ret
    exact ⟨_, m9, _, rfl, hm9, ⟨xs9, ho9.base d5.size⟩, d5.trans hd9⟩
  · obtain ⟨HP, hn1, hn2, hq⟩ := isSp_dim h1
    obtain ⟨hp3, hp2⟩ := isP_ge HP
    have HQ := Lib.hid (nums_drawn hq)
    have H1 := Lib.hid h1
    rw [hsl] at hn1 hn2
    have hpw : pw n ≤ 64 := pw_le hn2
    clear h1 hq
    go_enter Tryz.func326, Tryz.ntmps326
    go_wp2_with fail
    refine (l03Is_b _ _ _ _ _ _ (by omega) o0.rd H1.out).mono ?_
    rintro e w2 ⟨rfl, hb⟩
    have hnx := next_any g 8 w2 (d0.then hb).s' (by omega)
    go_wp2_with fail
    refine hnx.mono ?_
    rintro e w8 ⟨r8, rfl, _, _, hd8⟩
    have d5 := (d0.then hb).trans hd8
    have k5 := (k0.below hb k0.lt).dr hd8 (by decide)
    have o5 := (o0.below hb).dr hd8 (by decide)
    clear hb d0 o0 k0 hnx hd8
    by_cases h8 : r8 = 0
    · have e8 : (r8 == 0) = true := by simp [h8]
      have hsp := l04Spoil_any g P A n c sq w8 d5.s' hn o5
      obtain ⟨q0, q1⟩ := k5.two
      go_wp2_with fail
      refine hsp.mono ?_
      rintro e w9 ⟨A9, m9, c9, rfl, hm9, ⟨xs9, ho9⟩, hd9⟩
      clear hsp q0 q1
      go_wp2
      go_ret
      exact ⟨_, m9, _, rfl, hm9, ⟨xs9, ho9.base d5.size⟩, d5.trans hd9⟩
    · have e8 : (r8 == 0) = false := by simp [h8]
      have k9 := k5.alloc (.cells #[] 24)
      have d9 := d5.alloc (.cells #[] 24)
      have o9 := o5.below ((Below.refl _ _).alloc (Nat.le_refl _) (.cells #[] 24))
      have l9 := OwnM.empty w8 (B := w.heap.size) d5.size
      have hnx := next_any g ((n : Int) + 1) _ d9.s' (by omega)
      have W9 := i64_fit ((n : Int) + 1) (by omega) (by omega)
      obtain ⟨q0, q1⟩ := k9.two
      clear k5 d5 o5
      go_wp2_with fail
      refine hnx.mono ?_
      rintro e w10 ⟨r, rfl, hr1, hr2, hd10⟩
      obtain ⟨rn, rfl⟩ : ∃ rn : Nat, r = rn := ⟨r.toNat, by omega⟩
      have hr3 := hr2 (by omega)
      have D2 := d9.trans hd10
      have K2 := k9.dr hd10 (by decide)
      have O2 := o9.dr hd10 (by decide)
      have L2 := l9.dr hd10 (by decide) (by decide)
      clear hnx k9 d9 o9 l9 hd10 q0 q1 W9
      go_wp2
      go_loopw [5, 6] (fun l i wr => ∃ (kk m : Nat) (A0 : Option Addr) (c0 : Nat) (L : List (List Int)), m + kk ≤ n ∧ i = .int .i64 kk ∧ l = .slice A0 m c0 ∧ Tab P n L ∧ OwnM wr w.heap.size A0 m c0 L ∧ Dr g 143 w wr ∧ Blk wr w.heap.size 26 #[.int .i64 P, .slice A n c] ∧ Own wr 0 2 A n c (ints sq)) (fun _ i _ => (intOf i).toNat)
      case atStart => exact ⟨rn, 0, _, _, [], by omega, rfl, rfl, Tab.nil _ _, L2, D2, K2, O2⟩
      case round =>
        obtain ⟨kk, m, A0, c0, L, hmk, rfl, rfl, hTL, hL, hD, K, O⟩ := hrel
        clear L2 D2 K2 O2
        obtain ⟨wo, rfl⟩ : ∃ W, W = wr := ⟨_, rfl⟩
        have HTL := Lib.hid hTL
        have HL := Lib.hid hL
        have HD := Lib.hid hD
        clear hTL hL
        by_cases hk0 : 0 < kk
        · have t1 : decide ((0 : Int) < (kk : Int)) = true := by simp; omega
          have W5 : wrap64 ((kk : Int) - 1) = ((kk - 1 : Nat) : Int) := by unfold wrap64; omega
          obtain ⟨q0, q1⟩ := K.two
          have hli := nextList_any g P n wo hD.s' (by omega) (by omega)
          go_wp2_with fail
          refine hli.mono ?_
          rintro e w3 ⟨A1, c1, v, rfl, hvl, hvx, hv, hd3⟩
          have HVN := Lib.hid (nums_of (by omega) hvx)
          have HVL := Lib.hid hvl
          have D8 := Lib.hid hd3
          have K8 := Lib.hid (K.dr hd3 (by decide))
          have O8 := Lib.hid (O.dr hd3 (by decide))
          have V8 := Lib.hid hv
          clear hli hvx q0 q1 K O hD hvl hd3 hv
          go_wp2_with (at_builtin; (refine wpList_pushRow w wo w3 g 143 rfl _ _ rfl A0 m c0 L A1 n c1 v HL.out HD.out D8.out (by decide) (by decide) V8.out (by omega) rfl ?_ ?_; (go_simp); intro A9 c9 w9 h9 d9 kp))
          have HL9 := Lib.hid h9
          have D9 := Lib.hid d9
          have K9 := kp.2 _ _ _ K8.out (by decide)
          have O9 := kp.1 _ _ _ _ _ O8.out
          have HT9 := Lib.hid (show Tab P n (L ++ [v]) from fun u hu => by
            rcases List.mem_append.1 hu with hu | hu
            · exact HTL.out u hu
            · rw [List.mem_singleton.1 hu]; exact ⟨HVL.out, HVN.out⟩)
          clear h9 d9 kp
          go_wp2
          go_roundw
          case rel => exact ⟨kk - 1, m + 1, A9, c9, L ++ [v], by omega, by go_num, rfl, HT9.out, HL9.out, D9.out, K9, O9⟩
          case measure => simp [intOf]; omega
        · have t1 : decide ((0 : Int) < (kk : Int)) = false := by simp; omega
          have W8 := i64_fit (P - 1) (by omega) (by omega)
          have hm6 : m ≤ 6 := by omega
          clear hD
          obtain ⟨q0, q1⟩ := K.two
          go_wp2
          refine wp_obsR 13 (Dr g 143) [[], [0], [], [], [2, 3], [], [], [6], [6, 7], [2, 3, 4, 5, 6, 7, 8], [2, 3, 4, 5, 6, 7, 8, 9], [0, 1, 2, 3, 4, 5, 6, 7, 8, 9, 10], [0, 1, 2, 3, 4, 5, 6, 7, 8, 9, 10, 11]] [[], [], [], [], [], [], [], [], [], [99], [], [], []] (fun x => [VIs (.pointer (some ⟨w.heap.size, 0, none⟩)), VIs (.int .i64 (P)), VIs (.agg #[.int .i64 P, .slice A n c]), VIs (.slice A0 m c0), VLs w.heap.size (pw n) P, VIs (.pointer (some ⟨g, 0, none⟩)), VIs (.pointer (some ⟨w.heap.size, 0, none⟩)), VIs (.int .i64 (P)), VIs (.int .i64 (P - 1)), VIz (P - 1), VIz P, VLs w.heap.size (pw n) P, VLs w.heap.size (pw n) P]) (fun w' => Blk w' w.heap.size 26 #[.int .i64 P, .slice A n c] ∧ Own w' 0 2 A n c (ints sq) ∧ OwnM w' w.heap.size A0 m c0 L ∧ Dr g 143 w w') (by kernel_rfl) (by kernel_rfl) (fun x x' j hx => by
              rcases j with _ | _ | _ | _ | _ | _ | _ | _ | _ | _ | _ | _ | _ | j
              · rfl
              · rfl
              · rfl
              · rfl
              · rfl
              · rfl
              · rfl
              · rfl
              · rfl
              · rfl
              · rfl
              · rfl
              · rfl
              · rfl)
            (weak_ofR [0, 1, 2, 3, 4, 5, 6, 7, 8, 9, 10, 11, 12] (by decide) (fun k hk x v w w' hp hr => by
              simp only [List.mem_cons, List.not_mem_nil, or_false] at hk
              rcases hk with rfl | rfl | rfl | rfl | rfl | rfl | rfl | rfl | rfl | rfl | rfl | rfl | rfl
              · exact hp
              · exact hp
              · exact hp
              · exact hp
              · exact VLs.dr hp hr (by decide)
              · exact hp
              · exact hp
              · exact hp
              · exact hp
              · exact hp
              · exact hp
              · exact VLs.dr hp hr (by decide)
              · exact VLs.dr hp hr (by decide))) (fun j _ _ h hb => hb.either (fun hb => ⟨h.1.below hb h.1.lt, h.2.1.below hb, h.2.2.1.below hb, h.2.2.2.then hb⟩) (fun hr => ⟨h.1.dr hr (by decide), h.2.1.dr hr (by decide), h.2.2.1.dr hr (by decide) (by decide), h.2.2.2.trans hr⟩)) (⟨K.drew, O.below (Below.refl _ _).drew, HL.out.below (Below.refl _ _).drew, HD.out.then (Below.refl _ _).drew⟩) (fun x => ?_)
          refine obs_stepR (Eq.trans (by simp only [List.getElem?_toArray, List.getElem?_cons_zero]; exact rfl) rfl) rfl (fun w' hS hV K hK => ?_) ?_
          · obtain ⟨q0, q1⟩ := hS.1.two
            go_simp
            exact hK.out _ _ _ rfl rfl rfl (Below.refl _ _)
          simp only [List.setIfInBounds_toArray, List.set_cons_zero, List.set_cons_succ]
          refine obs_stepR (Eq.trans (by simp only [List.getElem?_toArray, List.getElem?_cons_succ, List.getElem?_cons_zero]; exact rfl) rfl) rfl (fun w' hS hV K hK => ?_) ?_
          · have e0 : x 0 = (.pointer (some ⟨w.heap.size, 0, none⟩)) := hV 0 (by decide)
            obtain ⟨q0, q1⟩ := hS.1.two
            go_simp
            exact hK.out _ _ _ rfl rfl rfl (Below.refl _ _)
          simp only [List.setIfInBounds_toArray, List.set_cons_zero, List.set_cons_succ]
          refine obs_stepR (Eq.trans (by simp only [List.getElem?_toArray, List.getElem?_cons_succ, List.getElem?_cons_zero]; exact rfl) rfl) rfl (fun w' hS hV K hK => ?_) ?_
          · obtain ⟨q0, q1⟩ := hS.1.two
            go_simp
            exact hK.out _ _ _ rfl rfl rfl (Below.refl _ _)
          simp only [List.setIfInBounds_toArray, List.set_cons_zero, List.set_cons_succ]
          refine obs_stepR (Eq.trans (by simp only [List.getElem?_toArray, List.getElem?_cons_succ, List.getElem?_cons_zero]; exact rfl) rfl) rfl (fun w' hS hV K hK => ?_) ?_
          · obtain ⟨q0, q1⟩ := hS.1.two
            go_simp
            exact hK.out _ _ _ rfl rfl rfl (Below.refl _ _)
          simp only [List.setIfInBounds_toArray, List.set_cons_zero, List.set_cons_succ]
          refine obs_stepR (Eq.trans (by simp only [List.getElem?_toArray, List.getElem?_cons_succ, List.getElem?_cons_zero]; exact rfl) rfl) rfl (fun w' hS hV K hK => ?_) ?_
          · have e2 : x 2 = (.agg #[.int .i64 P, .slice A n c]) := hV 2 (by decide)
            have e3 : x 3 = (.slice A0 m c0) := hV 3 (by decide)
            obtain ⟨q0, q1⟩ := hS.1.two
            go_simp
            refine (l06Blade_any P A n c sq A0 m c0 L w' HP hn2 hn1 (by omega) hS.2.1.rd HQ.out hS.2.2.1.rd HTL.out).mono ?_
            rintro e v1 ⟨A9, c9, rfl, hM⟩
            exact hK.out _ _ _ rfl rfl ⟨_, _, _, rfl, blaL_len _ _ _ _, blaL_nums (by omega) _ _ _, hM.2.base hS.2.2.2.size⟩ hM.b
          simp only [List.setIfInBounds_toArray, List.set_cons_zero, List.set_cons_succ]
          refine obs_stepR (Eq.trans (by simp only [List.getElem?_toArray, List.getElem?_cons_succ, List.getElem?_cons_zero]; exact rfl) rfl) rfl (fun w' hS hV K hK => ?_) ?_
          · obtain ⟨q0, q1⟩ := hS.1.two
            go_simp
            exact hK.out _ _ _ rfl rfl rfl (Below.refl _ _)
          simp only [List.setIfInBounds_toArray, List.set_cons_zero, List.set_cons_succ]
          refine obs_stepR (Eq.trans (by simp only [List.getElem?_toArray, List.getElem?_cons_succ, List.getElem?_cons_zero]; exact rfl) rfl) rfl (fun w' hS hV K hK => ?_) ?_
          · obtain ⟨q0, q1⟩ := hS.1.two
            go_simp
            exact hK.out _ _ _ rfl rfl rfl (Below.refl _ _)
          simp only [List.setIfInBounds_toArray, List.set_cons_zero, List.set_cons_succ]
          refine obs_stepR (Eq.trans (by simp only [List.getElem?_toArray, List.getElem?_cons_succ, List.getElem?_cons_zero]; exact rfl) rfl) rfl (fun w' hS hV K hK => ?_) ?_
          · have e6 : x 6 = (.pointer (some ⟨w.heap.size, 0, none⟩)) := hV 6 (by decide)
            obtain ⟨q0, q1⟩ := hS.1.two
            go_simp
            exact hK.out _ _ _ rfl rfl rfl (Below.refl _ _)
          simp only [List.setIfInBounds_toArray, List.set_cons_zero, List.set_cons_succ]
          refine obs_stepR (Eq.trans (by simp only [List.getElem?_toArray, List.getElem?_cons_succ, List.getElem?_cons_zero]; exact rfl) rfl) rfl (fun w' hS hV K hK => ?_) ?_
          · have e6 : x 6 = (.pointer (some ⟨w.heap.size, 0, none⟩)) := hV 6 (by decide)
            have e7 : x 7 = (.int .i64 (P)) := hV 7 (by decide)
            obtain ⟨q0, q1⟩ := hS.1.two
            go_simp
            exact hK.out _ _ _ rfl rfl rfl (Below.refl _ _)
          simp only [List.setIfInBounds_toArray, List.set_cons_zero, List.set_cons_succ]
          refine obs_stepR (Eq.trans (by simp only [List.getElem?_toArray, List.getElem?_cons_succ, List.getElem?_cons_zero]; exact rfl) rfl) rfl (fun w' hS hV K hK => ?_) ?_
          · have e2 : x 2 = (.agg #[.int .i64 P, .slice A n c]) := hV 2 (by decide)
            have e3 : x 3 = (.slice A0 m c0) := hV 3 (by decide)
            obtain ⟨A4, c4, X4, e4, l4, u4, h4⟩ := hV 4 (by decide)
            have e5 : x 5 = (.pointer (some ⟨g, 0, none⟩)) := hV 5 (by decide)
            have e6 : x 6 = (.pointer (some ⟨w.heap.size, 0, none⟩)) := hV 6 (by decide)
            have e7 : x 7 = (.int .i64 (P)) := hV 7 (by decide)
            have e8 : x 8 = (.int .i64 (P - 1)) := hV 8 (by decide)
            obtain ⟨q0, q1⟩ := hS.1.two
            go_simp
            refine (next_any g (P - 1) w' hS.2.2.2.s' (by omega)).mono ?_
            rintro e v1 ⟨r9, rfl, t1, t2, hd9⟩
            exact hK.out _ _ _ rfl rfl ⟨r9, rfl, t1, t2 (by omega)⟩ hd9
          simp only [List.setIfInBounds_toArray, List.set_cons_zero, List.set_cons_succ]
          refine obs_stepR (Eq.trans (by simp only [List.getElem?_toArray, List.getElem?_cons_succ, List.getElem?_cons_zero]; exact rfl) rfl) rfl (fun w' hS hV K hK => ?_) ?_
          · have e2 : x 2 = (.agg #[.int .i64 P, .slice A n c]) := hV 2 (by decide)
            have e3 : x 3 = (.slice A0 m c0) := hV 3 (by decide)
            obtain ⟨A4, c4, X4, e4, l4, u4, h4⟩ := hV 4 (by decide)
            have e5 : x 5 = (.pointer (some ⟨g, 0, none⟩)) := hV 5 (by decide)
            have e6 : x 6 = (.pointer (some ⟨w.heap.size, 0, none⟩)) := hV 6 (by decide)
            have e7 : x 7 = (.int .i64 (P)) := hV 7 (by decide)
            have e8 : x 8 = (.int .i64 (P - 1)) := hV 8 (by decide)
            obtain ⟨k9, e9, b9, d9⟩ := hV 9 (by decide)
            obtain ⟨q0, q1⟩ := hS.1.two
            have W9 := i64_fit (1 + k9) (by omega) (by omega)
            go_simp
            exact hK.out _ _ _ rfl rfl ⟨_, rfl, by omega, by omega⟩ (Below.refl _ _)
          simp only [List.setIfInBounds_toArray, List.set_cons_zero, List.set_cons_succ]
          refine obs_stepR (Eq.trans (by simp only [List.getElem?_toArray, List.getElem?_cons_succ, List.getElem?_cons_zero]; exact rfl) rfl) rfl (fun w' hS hV K hK => ?_) ?_
          · have e0 : x 0 = (.pointer (some ⟨w.heap.size, 0, none⟩)) := hV 0 (by decide)
            have e1 : x 1 = (.int .i64 (P)) := hV 1 (by decide)
            have e2 : x 2 = (.agg #[.int .i64 P, .slice A n c]) := hV 2 (by decide)
            have e3 : x 3 = (.slice A0 m c0) := hV 3 (by decide)
            obtain ⟨A4, c4, X4, e4, l4, u4, h4⟩ := hV 4 (by decide)
            have e5 : x 5 = (.pointer (some ⟨g, 0, none⟩)) := hV 5 (by decide)
            have e6 : x 6 = (.pointer (some ⟨w.heap.size, 0, none⟩)) := hV 6 (by decide)
            have e7 : x 7 = (.int .i64 (P)) := hV 7 (by decide)
            have e8 : x 8 = (.int .i64 (P - 1)) := hV 8 (by decide)
            obtain ⟨k9, e9, b9, d9⟩ := hV 9 (by decide)
            obtain ⟨k10, e10, b10, d10⟩ := hV 10 (by decide)
            obtain ⟨q0, q1⟩ := hS.1.two
            go_simp
            refine (l02Scale_any P A4 (pw n) c4 k10 X4 w' (by omega) hp2 (by have : pw n ≤ 64 := pw_le hn2; omega) h4.rd u4 (by omega) (by omega)).mono ?_
            rintro e v1 ⟨A9, c9, rfl, hM⟩
            exact hK.out _ _ _ rfl rfl ⟨_, _, _, rfl, by rw [scaleL_len]; exact l4, scaleL_nums (by omega) _ _, hM.2.base hS.2.2.2.size⟩ hM.b
          simp only [List.setIfInBounds_toArray, List.set_cons_zero, List.set_cons_succ]
          refine obs_stepR (Eq.trans (by simp only [List.getElem?_toArray, List.getElem?_cons_succ, List.getElem?_cons_zero]; exact rfl) rfl) rfl (fun w' hS hV K hK => ?_) ?_
          · have e0 : x 0 = (.pointer (some ⟨w.heap.size, 0, none⟩)) := hV 0 (by decide)
            have e1 : x 1 = (.int .i64 (P)) := hV 1 (by decide)
            have e2 : x 2 = (.agg #[.int .i64 P, .slice A n c]) := hV 2 (by decide)
            have e3 : x 3 = (.slice A0 m c0) := hV 3 (by decide)
            obtain ⟨A4, c4, X4, e4, l4, u4, h4⟩ := hV 4 (by decide)
            have e5 : x 5 = (.pointer (some ⟨g, 0, none⟩)) := hV 5 (by decide)
            have e6 : x 6 = (.pointer (some ⟨w.heap.size, 0, none⟩)) := hV 6 (by decide)
            have e7 : x 7 = (.int .i64 (P)) := hV 7 (by decide)
            have e8 : x 8 = (.int .i64 (P - 1)) := hV 8 (by decide)
            obtain ⟨k9, e9, b9, d9⟩ := hV 9 (by decide)
            obtain ⟨k10, e10, b10, d10⟩ := hV 10 (by decide)
            obtain ⟨A11, c11, X11, e11, l11, u11, h11⟩ := hV 11 (by decide)
            obtain ⟨q0, q1⟩ := hS.1.two
            go_simp
            exact hK.out _ _ _ rfl rfl ⟨_, _, _, rfl, l11, u11, h11⟩ (Below.refl _ _)
          simp only [List.setIfInBounds_toArray, List.set_cons_zero, List.set_cons_succ]
          refine fun w' hS hV => ?_
          have e0 : x 0 = (.pointer (some ⟨w.heap.size, 0, none⟩)) := hV 0 (by decide)
          have e1 : x 1 = (.int .i64 (P)) := hV 1 (by decide)
          have e2 : x 2 = (.agg #[.int .i64 P, .slice A n c]) := hV 2 (by decide)
          have e3 : x 3 = (.slice A0 m c0) := hV 3 (by decide)
          obtain ⟨A4, c4, X4, e4, l4, u4, h4⟩ := hV 4 (by decide)
          have e5 : x 5 = (.pointer (some ⟨g, 0, none⟩)) := hV 5 (by decide)
          have e6 : x 6 = (.pointer (some ⟨w.heap.size, 0, none⟩)) := hV 6 (by decide)
          have e7 : x 7 = (.int .i64 (P)) := hV 7 (by decide)
          have e8 : x 8 = (.int .i64 (P - 1)) := hV 8 (by decide)
          obtain ⟨k9, e9, b9, d9⟩ := hV 9 (by decide)
          obtain ⟨k10, e10, b10, d10⟩ := hV 10 (by decide)
          obtain ⟨A11, c11, X11, e11, l11, u11, h11⟩ := hV 11 (by decide)
          obtain ⟨A12, c12, X12, e12, l12, u12, h12⟩ := hV 12 (by decide)
          simp only [e0, e1, e2, e3, e4, e5, e6, e7, e8, e9, e10, e11, e12]
          clear e0 e1 e2 e3 e4 e5 e6 e7 e8 e9 e10 e11 e12
          refine wpAny_done (by kernel_rfl) ?_ _
          obtain ⟨k6, o6, _, d6⟩ := hS
          obtain ⟨w6, rfl⟩ : ∃ W, W = w' := ⟨_, rfl⟩
          go_wp2
          go_ret
          exact ⟨_, _, _, rfl, by omega, ⟨_, h12⟩, d6⟩
end Go.Proofs.YtggigolkncckoaaGreat
namespace Go.Proofs.YtggigolkncckoaaGreat
open Go.RowKit
/-- A list of lists of the call's own; rows may lie in one block. -/
def OwnU (w : World) (B : Nat) (A : Option Addr) (n c : Nat) (xss : List (List Int)) : Prop := ∃ rows, Own w B 24 A n c rows ∧ rows.length = xss.length ∧ ∀ (k : Nat) (h : k < xss.length), ∃ A1 c1, rows[k]? = some (.slice A1 xss[k].length c1) ∧ Own w B 2 A1 xss[k].length c1 (ints xss[k])
section
variable {w w' : World} {B g : Nat} {T : TypeId} {A : Option Addr} {n c : Nat} {xss : List (List Int)}
theorem OwnM.u (h : OwnM w B A n c xss) : OwnU w B A n c xss := by obtain ⟨rows, ho, hn⟩ := h; exact ⟨rows, ho, hn.len, hn.row⟩
theorem OwnU.dr (h : OwnU w B A n c xss) (d : Dr g T w w') (h1 : 24 ≠ T) (h2 : 2 ≠ T) : OwnU w' B A n c xss := by
  obtain ⟨rows, ho, hl, hr⟩ := h
  exact ⟨rows, ho.dr d h1, hl, fun k hk => by obtain ⟨A1, c1, e, h3⟩ := hr k hk; exact ⟨A1, c1, e, h3.dr d h2⟩⟩
theorem OwnU.below (h : OwnU w B A n c xss) (hb : Below w.heap.size w w') : OwnU w' B A n c xss := by
  obtain ⟨rows, ho, hl, hr⟩ := h
  exact ⟨rows, ho.below hb, hl, fun k hk => by obtain ⟨A1, c1, e, h3⟩ := hr k hk; exact ⟨A1, c1, e, h3.below hb⟩⟩
theorem OwnU.base {B' : Nat} (h : OwnU w B A n c xss) (hB : B' ≤ B) : OwnU w B' A n c xss := by
  obtain ⟨rows, ho, hl, hr⟩ := h
  exact ⟨rows, ho.base hB, hl, fun k hk => by obtain ⟨A1, c1, e, h3⟩ := hr k hk; exact ⟨A1, c1, e, h3.base hB⟩⟩
theorem OwnU.len (h : OwnU w B A n c xss) : xss.length = n := by obtain ⟨rows, ho, hl, _⟩ := h; rw [← hl]; exact ho.len
theorem OwnU.cap (h : OwnU w B A n c xss) : n ≤ c := by obtain ⟨rows, ho, _⟩ := h; exact ho.cap
end
theorem OwnU.relB {w w' : World} {g res B : Nat} {A : Option Addr} {n c : Nat} {xss : List (List Int)} (h : OwnU w B A n c xss) (r : RelB g res w w') : OwnU w' B A n c xss := by
  obtain ⟨rows, ho, hl, hr⟩ := h
  refine ⟨rows, ?_, hl, fun k hk => by obtain ⟨A1, c1, e, h3⟩ := hr k hk; exact ⟨A1, c1, e, h3.relB r⟩⟩
  rcases r with d | ⟨p, A1, n1, c1, p', A', n', c', k, rfl⟩
  · exact ho.dr d (by decide)
  · exact (ho.far k (by decide) 0 _).far (k.set_ 0 (.int .i64 p')) (by decide) 1 _
/-- What is left of a list behind its first k. -/
def slV (A : Option Addr) (m c k : Nat) : Value := .slice (if c = k then A else A.map (·.add k)) (m - k) (c - k)
def VSc (A : Option Addr) (m c : Nat) : VP := ⟨fun v _ => ∃ k : Nat, k ≤ m ∧ v = slV A m c k, fun _ _ _ h _ => h⟩
theorem OwnU.drop {w : World} {B : Nat} {A : Option Addr} {m c : Nat} {L : List (List Int)} (h : OwnU w B A m c L) {k : Nat} (hk : k ≤ m) : ∃ A', slV A m c k = .slice A' (m - k) (c - k) ∧ RdII w A' (m - k) (L.drop k) := by
  have hlen := h.len
  have hcap := h.cap
  obtain ⟨rows, ho, hl, hr⟩ := h
  unfold slV
  refine ⟨_, rfl, ?_⟩
  by_cases hmk : m = k
  · subst hmk
    rw [Nat.sub_self, List.drop_eq_nil_of_le (by omega)]
    exact ⟨[], Rd.nil _ _, rfl, fun k h => absurd h (by simp)⟩
  · rw [if_neg (by omega)]
    obtain ⟨g, o', rfl, hc⟩ := ho.rd.2 (by omega)
    refine ⟨rows.drop k, ⟨by rw [List.length_drop, ho.len], fun _ => ⟨g, o' + k, by rw [Option.map_some, Addr.add_lit], fun j u hu => ?_⟩⟩, by rw [List.length_drop, List.length_drop, hl], fun j hj => ?_⟩
    · rw [List.getElem?_drop] at hu
      rw [Nat.add_assoc]
      exact hc _ _ hu
    · have hj' : k + j < L.length := by rw [List.length_drop] at hj; omega
      obtain ⟨A1, c1, e, h3⟩ := hr (k + j) hj'
      rw [List.getElem_drop]
      exact ⟨A1, c1, by rw [List.getElem?_drop]; exact e, h3.rd, h3.cap⟩
/-- A row is appended. -/
theorem wp_pushU {o : Oper} {a : Act} {K : Act → World → Prop} {Q : Exit → Act → World → Prop} (W w : World) (g : Nat) (T : TypeId)
    (s x : Operand) (ho : o.op = .call { callee := .builtin .append, args := #[s, x], argTypes := #[44, 44] })
    (A : Option Addr) (n c : Nat) (xss : List (List Int)) (A1 : Option Addr) (m c1 : Nat) (xs : List Int) (hM : OwnU w W.heap.size A n c xss) (d : Dr g T W w) (hr : Own w W.heap.size 2 A1 m c1 (ints xs)) (hn : n ≤ 1000000)
    (hs : a.eval s = .slice A n c) (hx : a.eval x = .slice (some ⟨w.heap.size, 0, none⟩) 1 1)
    (k : ∀ A' c' w', OwnU w' W.heap.size A' (n + 1) c' (xss ++ [xs]) → Dr g T W w' → KeptR w w' → K (a.put o.dst (.slice A' (n + 1) c')) w') : o.wp Tryz.prog a (w.alloc (.cells #[.slice A1 m c1] 24)) K Q := by
  obtain ⟨rows, hm, hl, hrow⟩ := hM
  obtain ⟨i, hi, h1, h2, h3⟩ := info_parts info_s
  obtain ⟨b1, b2⟩ := bound_of (show n + 1 - 1 ≤ 1099511627776 by omega)
  have hm2 := hm.below ((Below.refl w.heap.size w).alloc (Nat.le_refl _) (.cells #[.slice A1 m c1] 24))
  obtain ⟨g', cap, w', hrun, hown, hg, _, _⟩ := run_append_lies (P := Tryz.prog) (w := w.alloc (.cells #[.slice A1 m c1] 24)) 44 o.type W.heap.size 24 i (.slice none 0 0) 1 24 Tryz.underlying44 hi h1 h2 h3 rfl (by omega) (.slice A n c) n rows hm2 ⟨w.heap.size, 0, none⟩ 1 1 [.slice A1 m c1] (by first | omega | (simp only [maxLen]; omega) | simp)
        (fun j u hu => cell_one_new _ _ _ j u hu) (by intro v hv; simp at hv; rw [hv]; rfl) (by first | omega | (simp only [maxLen] at *; omega) | simp) (by first | omega | (simp only [maxLen]; omega) | simp) (by first | omega | (simp only [maxLen] at *; omega) | simp) (by have := d.size; simp; omega) _ rfl
  have hg' : w.grownBy w' (Value.slice A n c).ownBlock := World.grownBy.trans (World.grownBy_alloc w _ _) hg
  unfold Oper.wp execOp
  simp only [ho, resolve, invoke, builtin, Sem.run_bind, Sem.run_pure, Result.andThen_ok, List.map_toArray, List.map_cons, List.map_nil, hs, hx, hrun]
  have hn' : xs.length = m := by have := hr.len; rwa [ints_length] at this
  refine k _ _ _ ⟨(rows ++ [Value.slice A1 m c1] : List Value), hown, by simp [hl], fun j hj => ?_⟩ (d.grown hm hg') ⟨fun B A2 n2 c2 us h2 => h2.grown hg' (h2.ne hm (by decide)), fun g2 t cs h2 hne => h2.grown hg' (hm.ne_blk h2 hne)⟩
  by_cases h : j < xss.length
  · obtain ⟨A2, c2, e, h4⟩ := hrow j h
    rw [List.getElem_append_left h]
    exact ⟨A2, c2, by rw [List.getElem?_append_left (by omega)]; exact e, h4.grown hg' (h4.ne hm (by decide))⟩
  · obtain rfl : j = xss.length := by simp at hj; omega
    rw [List.getElem_append_right (Nat.le_refl _)]
    simp only [Nat.sub_self, List.getElem_cons_zero]
    rw [hn']
    exact ⟨A1, c1, by rw [← hl, List.getElem?_append_right (Nat.le_refl _)]; simp, hr.grown hg' (hr.ne hm (by decide))⟩
/-- The value is a list of vectors of the call's own, L. -/
def VUs (B m : Nat) (L : List (List Int)) : VP := ⟨fun v w => ∃ (A : Option Addr) (c : Nat), v = .slice A m c ∧ OwnU w B A m c L, fun _ _ _ ⟨A, c, e, ho⟩ hb => ⟨A, c, e, ho.below hb⟩⟩
theorem VUs.dr {B m g : Nat} {L : List (List Int)} {T : TypeId} {v : Value} {w w' : World} (h : (VUs B m L).p v w) (d : Dr g T w w') (h1 : 24 ≠ T) (h2 : 2 ≠ T) : (VUs B m L).p v w' := by
  obtain ⟨A, c, e, ho⟩ := h
  exact ⟨A, c, e, ho.dr d h1 h2⟩
theorem slice_tail {A : Option Addr} {c m k : Nat} (w : World) (hk : k ≤ m) : (Instr.slice 44 (.slice A m c) (some (.int .i64 (k : Int))) none none).run Tryz.prog w = .ok (slV A m c k) w := by
  have h := run_slice_l (P := Tryz.prog) (w := w) (t := 44) (a := A) (len := m) (cap := c) (ht := by kernel_rfl) (kl := .i64) (l := (k : Int)) (h0 := by omega) (h1 := by omega)
  rw [h]
  simp [go_sem, sliced, slV]
end Go.Proofs.YtggigolkncckoaaGreat

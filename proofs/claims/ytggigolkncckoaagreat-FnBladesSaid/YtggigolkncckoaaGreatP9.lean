/-
  LawFnBlades: part 9 of the texts that the proof needs. No condition.
-/
import Derived.Test.YtggigolkncckoaaGreatP8
namespace Go.Proofs.YtggigolkncckoaaGreat
open Go.RowKit
/-- The value is a list of n numbers of the field that was made since the heap had B blocks. -/
def VLs (B n : Nat) (P : Int) : VP := ⟨fun v w => ∃ (A : Option Addr) (c : Nat) (xs : List Int), v = .slice A n c ∧ xs.length = n ∧ NumsL P xs ∧ Own w B 2 A n c (ints xs), fun _ _ _ ⟨A, c, xs, e, hl, hn, ho⟩ hb => ⟨A, c, xs, e, hl, hn, ho.below hb⟩⟩
theorem VLs.dr {B n g : Nat} {P : Int} {T : TypeId} {v : Value} {w w' : World} (h : (VLs B n P).p v w) (d : Dr g T w w') (hT : 2 ≠ T) : (VLs B n P).p v w' := by
  obtain ⟨A, c, xs, e, hl, hn, ho⟩ := h
  refine ⟨A, c, xs, e, ?_, hn, ho.dr d hT⟩
  exact hl
/-- The value is a place. -/
def VIx (n : Nat) : VP := ⟨fun v _ => ∃ i : Nat, v = .int .i64 i ∧ i < n, fun _ _ _ h _ => h⟩
/-- The value is a pointer to the place x of block g. -/
def VPt (g n : Nat) (x : Value) : VP := ⟨fun v _ => ∃ i : Nat, x = .int .i64 i ∧ i < n ∧ v = .pointer (some ⟨g, i, none⟩), fun _ _ _ h _ => h⟩
theorem nums_of {P : Int} {xs : List Int} (hp : 1 ≤ P) (h : ∀ x ∈ xs, 0 ≤ x ∧ (1 ≤ P → x < P)) : NumsL P xs := fun x hx => ⟨(h x hx).1, (h x hx).2 hp⟩
set_option maxHeartbeats 6400000 in
set_option maxRecDepth 8000 in
theorem l04Draw_any (g : Nat) (P : Int) (A : Option Addr) (n c : Nat) (sq : List Int) (w : World) (hs : Src w g 143) (hp : 2 ≤ P) (hp2 : P ≤ 13) (hn : n ≤ 6) (h0 : 0 < n) (ho : Own w 0 2 A n c (ints sq)) (hq : NumsL P sq) :
    Calls Tryz.prog 305 #[.pointer (some ⟨g, 0, none⟩), .agg #[.int .i64 P, .slice A n c]] w fun e w' => ∃ (A' : Option Addr) (c' : Nat), e = .returned (.slice A' (pw n) c') ∧ (∃ xs : List Int, Own w' w.heap.size 2 A' (pw n) c' (ints xs)) ∧ Dr g 143 w w' := by
  have hpw : pw n ≤ 64 := pw_le hn
  have hpn := pw_pos n
  have k0 : Blk (w.alloc (.cells #[.int .i64 P, .slice A n c] 26)) w.heap.size 26 #[.int .i64 P, .slice A n c] := Blk.new _ _ _
  have d0 := (Dr.refl hs).alloc (.cells #[.int .i64 P, .slice A n c] 26)
  have o0 := ho.below ((Below.refl _ _).alloc (Nat.le_refl _) (.cells #[.int .i64 P, .slice A n c] 26))
  have HQ := Lib.hid hq
  have hSQ : ∀ gb, (Value.slice A n c).ownBlock = some gb → gb < w.heap.size := fun gb e => (World.ownsRow.lt ho gb e).2
  obtain ⟨q0, q1⟩ := k0.two
  have hz := l04Zero_any P A n c (w.alloc (.cells #[.int .i64 P, .slice A n c] 26)) (by omega)
  go_enter Tryz.func305, Tryz.ntmps305
  go_wp2_with fail
  refine hz.mono ?_
  rintro e w2 ⟨A2, c2, rfl, hM2⟩
  have d2 := d0.then hM2.b
  have k2 := k0.below hM2.b k0.lt
  have o2 := o0.below hM2.b
  have hO2 := hM2.2.base (B' := w.heap.size) (by simp)
  have hnx := next_any g 5 w2 d2.s' (by omega)
  clear hz q0 q1 k0 d0 o0 hM2 ho
  obtain ⟨q0, q1⟩ := k2.two
  go_wp2_with fail
  refine hnx.mono ?_
  rintro e w3 ⟨r, rfl, hr1, hr2, hd3⟩
  have d3 := d2.trans hd3
  have k3 := k2.dr hd3 (by decide)
  have o3 := o2.dr hd3 (by decide)
  have hO3 := hO2.dr hd3 (by decide)
  clear hnx d2 k2 o2 hd3 hO2 q0 q1 hq
  by_cases h0' : r = 0
  · have e0 : (r == 0) = true := by simp [h0']
    obtain ⟨q0, q1⟩ := k3.two
    go_wp2
    refine wp_obsR 10 (Dr g 143) [[], [], [], [2], [], [4], [4, 5], [1, 2, 3, 4, 5, 6], [0, 1, 2, 3, 4, 5, 6, 7], [0, 1, 2, 3, 4, 5, 6, 7, 8]] [[], [], [], [], [], [], [], [99], [], []] (fun x => [VIs (.agg #[.int .i64 P, .slice A n c]), VIs (.pointer (some ⟨g, 0, none⟩)), VIs (.pointer (some ⟨w.heap.size, 0, none⟩)), VIs (.int .i64 (P)), VIs (.pointer (some ⟨w.heap.size, 1, none⟩)), VIs (.slice A n c), VIs (.int .i64 (n)), VLs w.heap.size (n) P, VLs w.heap.size (pw n) P, VLs w.heap.size (pw n) P]) (fun w' => Blk w' w.heap.size 26 #[.int .i64 P, .slice A n c] ∧ Own w' 0 2 A n c (ints sq) ∧ Dr g 143 w w') (by kernel_rfl) (by kernel_rfl) (fun x x' j hx => by
        rcases j with _ | _ | _ | _ | _ | _ | _ | _ | _ | _ | j
        · rfl
        · rfl
        · rfl
        · rfl
        · rfl
        · rfl
        · rfl
        · rfl
        · rfl
        · rfl
        · rfl)
      (weak_ofR [0, 1, 2, 3, 4, 5, 6, 7, 8, 9] (by decide) (fun k hk x v w w' hp hr => by
        simp only [List.mem_cons, List.not_mem_nil, or_false] at hk
        rcases hk with rfl | rfl | rfl | rfl | rfl | rfl | rfl | rfl | rfl | rfl
        · exact hp
        · exact hp
        · exact hp
        · exact hp
        · exact hp
        · exact hp
        · exact hp
        · exact VLs.dr hp hr (by decide)
        · exact VLs.dr hp hr (by decide)
        · exact VLs.dr hp hr (by decide))) (fun j _ _ h hb => hb.either (fun hb => ⟨h.1.below hb h.1.lt, h.2.1.below hb, h.2.2.then hb⟩) (fun hr => ⟨h.1.dr hr (by decide), h.2.1.dr hr (by decide), h.2.2.trans hr⟩)) (⟨k3.drew, o3.below (Below.refl _ _).drew, d3.then (Below.refl _ _).drew⟩) (fun x => ?_)
    refine obs_stepR (Eq.trans (by simp only [List.getElem?_toArray, List.getElem?_cons_zero]; exact rfl) rfl) rfl (fun w' hS hV K hK => ?_) ?_
    · obtain ⟨q0, q1⟩ := hS.1.two
      go_simp
      exact hK.out _ _ _ rfl rfl rfl (Below.refl _ _)
    simp only [List.setIfInBounds_toArray, List.set_cons_zero, List.set_cons_succ]
    refine obs_stepR (Eq.trans (by simp only [List.getElem?_toArray, List.getElem?_cons_succ, List.getElem?_cons_zero]; exact rfl) rfl) rfl (fun w' hS hV K hK => ?_) ?_
    · obtain ⟨q0, q1⟩ := hS.1.two
      go_simp
      exact hK.out _ _ _ rfl rfl rfl (Below.refl _ _)
    simp only [List.setIfInBounds_toArray, List.set_cons_zero, List.set_cons_succ]
    refine obs_stepR (Eq.trans (by simp only [List.getElem?_toArray, List.getElem?_cons_succ, List.getElem?_cons_zero]; exact rfl) rfl) rfl (fun w' hS hV K hK => ?_) ?_
    · obtain ⟨q0, q1⟩ := hS.1.two
      go_simp
      exact hK.out _ _ _ rfl rfl rfl (Below.refl _ _)
    simp only [List.setIfInBounds_toArray, List.set_cons_zero, List.set_cons_succ]
    refine obs_stepR (Eq.trans (by simp only [List.getElem?_toArray, List.getElem?_cons_succ, List.getElem?_cons_zero]; exact rfl) rfl) rfl (fun w' hS hV K hK => ?_) ?_
    · have e2 : x 2 = (.pointer (some ⟨w.heap.size, 0, none⟩)) := hV 2 (by decide)
      obtain ⟨q0, q1⟩ := hS.1.two
      go_simp
      exact hK.out _ _ _ rfl rfl rfl (Below.refl _ _)
    simp only [List.setIfInBounds_toArray, List.set_cons_zero, List.set_cons_succ]
    refine obs_stepR (Eq.trans (by simp only [List.getElem?_toArray, List.getElem?_cons_succ, List.getElem?_cons_zero]; exact rfl) rfl) rfl (fun w' hS hV K hK => ?_) ?_
    · obtain ⟨q0, q1⟩ := hS.1.two
      go_simp
      exact hK.out _ _ _ rfl rfl rfl (Below.refl _ _)
    simp only [List.setIfInBounds_toArray, List.set_cons_zero, List.set_cons_succ]
    refine obs_stepR (Eq.trans (by simp only [List.getElem?_toArray, List.getElem?_cons_succ, List.getElem?_cons_zero]; exact rfl) rfl) rfl (fun w' hS hV K hK => ?_) ?_
    · have e4 : x 4 = (.pointer (some ⟨w.heap.size, 1, none⟩)) := hV 4 (by decide)
      obtain ⟨q0, q1⟩ := hS.1.two
      go_simp
      exact hK.out _ _ _ rfl rfl rfl (Below.refl _ _)
    simp only [List.setIfInBounds_toArray, List.set_cons_zero, List.set_cons_succ]
    refine obs_stepR (Eq.trans (by simp only [List.getElem?_toArray, List.getElem?_cons_succ, List.getElem?_cons_zero]; exact rfl) rfl) rfl (fun w' hS hV K hK => ?_) ?_
    · have e4 : x 4 = (.pointer (some ⟨w.heap.size, 1, none⟩)) := hV 4 (by decide)
      have e5 : x 5 = (.slice A n c) := hV 5 (by decide)
      obtain ⟨q0, q1⟩ := hS.1.two
      go_simp
      exact hK.out _ _ _ rfl rfl rfl (Below.refl _ _)
    simp only [List.setIfInBounds_toArray, List.set_cons_zero, List.set_cons_succ]
    refine obs_stepR (Eq.trans (by simp only [List.getElem?_toArray, List.getElem?_cons_succ, List.getElem?_cons_zero]; exact rfl) rfl) rfl (fun w' hS hV K hK => ?_) ?_
    · have e1 : x 1 = (.pointer (some ⟨g, 0, none⟩)) := hV 1 (by decide)
      have e2 : x 2 = (.pointer (some ⟨w.heap.size, 0, none⟩)) := hV 2 (by decide)
      have e3 : x 3 = (.int .i64 (P)) := hV 3 (by decide)
      have e4 : x 4 = (.pointer (some ⟨w.heap.size, 1, none⟩)) := hV 4 (by decide)
      have e5 : x 5 = (.slice A n c) := hV 5 (by decide)
      have e6 : x 6 = (.int .i64 (n)) := hV 6 (by decide)
      obtain ⟨q0, q1⟩ := hS.1.two
      go_simp
      refine (nextList_any g P (n) w' hS.2.2.s' (by omega) (by omega)).mono ?_
      rintro e v1 ⟨A9, c9, xs9, rfl, hl9, hx9, ho9, hd9⟩
      exact hK.out _ _ _ rfl rfl ⟨_, _, xs9, rfl, hl9, nums_of (by omega) hx9, ho9.base hS.2.2.size⟩ hd9
    simp only [List.setIfInBounds_toArray, List.set_cons_zero, List.set_cons_succ]
    refine obs_stepR (Eq.trans (by simp only [List.getElem?_toArray, List.getElem?_cons_succ, List.getElem?_cons_zero]; exact rfl) rfl) rfl (fun w' hS hV K hK => ?_) ?_
    · have e0 : x 0 = (.agg #[.int .i64 P, .slice A n c]) := hV 0 (by decide)
      have e1 : x 1 = (.pointer (some ⟨g, 0, none⟩)) := hV 1 (by decide)
      have e2 : x 2 = (.pointer (some ⟨w.heap.size, 0, none⟩)) := hV 2 (by decide)
      have e3 : x 3 = (.int .i64 (P)) := hV 3 (by decide)
      have e4 : x 4 = (.pointer (some ⟨w.heap.size, 1, none⟩)) := hV 4 (by decide)
      have e5 : x 5 = (.slice A n c) := hV 5 (by decide)
      have e6 : x 6 = (.int .i64 (n)) := hV 6 (by decide)
      obtain ⟨A7, c7, X7, e7, l7, n7, h7⟩ := hV 7 (by decide)
      obtain ⟨q0, q1⟩ := hS.1.two
      go_simp
      refine (l04Vector_any P A n c A7 c7 X7 w' (by omega) h7.rd).mono ?_
      rintro e v1 ⟨A9, c9, rfl, hM⟩
      exact hK.out _ _ _ rfl rfl ⟨_, _, _, rfl, vecTo_len _ _ _, vecTo_nums (by omega) n X7 n7 n, hM.2.base hS.2.2.size⟩ hM.b
    simp only [List.setIfInBounds_toArray, List.set_cons_zero, List.set_cons_succ]
    refine obs_stepR (Eq.trans (by simp only [List.getElem?_toArray, List.getElem?_cons_succ, List.getElem?_cons_zero]; exact rfl) rfl) rfl (fun w' hS hV K hK => ?_) ?_
    · have e0 : x 0 = (.agg #[.int .i64 P, .slice A n c]) := hV 0 (by decide)
      have e1 : x 1 = (.pointer (some ⟨g, 0, none⟩)) := hV 1 (by decide)
      have e2 : x 2 = (.pointer (some ⟨w.heap.size, 0, none⟩)) := hV 2 (by decide)
      have e3 : x 3 = (.int .i64 (P)) := hV 3 (by decide)
      have e4 : x 4 = (.pointer (some ⟨w.heap.size, 1, none⟩)) := hV 4 (by decide)
      have e5 : x 5 = (.slice A n c) := hV 5 (by decide)
      have e6 : x 6 = (.int .i64 (n)) := hV 6 (by decide)
      obtain ⟨A7, c7, X7, e7, l7, n7, h7⟩ := hV 7 (by decide)
      obtain ⟨A8, c8, X8, e8, l8, n8, h8⟩ := hV 8 (by decide)
      obtain ⟨q0, q1⟩ := hS.1.two
      go_simp
      exact hK.out _ _ _ rfl rfl ⟨_, _, X8, rfl, l8, n8, h8⟩ (Below.refl _ _)
    simp only [List.setIfInBounds_toArray, List.set_cons_zero, List.set_cons_succ]
    refine fun w' hS hV => ?_
    have e0 : x 0 = (.agg #[.int .i64 P, .slice A n c]) := hV 0 (by decide)
    have e1 : x 1 = (.pointer (some ⟨g, 0, none⟩)) := hV 1 (by decide)
    have e2 : x 2 = (.pointer (some ⟨w.heap.size, 0, none⟩)) := hV 2 (by decide)
    have e3 : x 3 = (.int .i64 (P)) := hV 3 (by decide)
    have e4 : x 4 = (.pointer (some ⟨w.heap.size, 1, none⟩)) := hV 4 (by decide)
    have e5 : x 5 = (.slice A n c) := hV 5 (by decide)
    have e6 : x 6 = (.int .i64 (n)) := hV 6 (by decide)
    obtain ⟨A7, c7, X7, e7, l7, n7, h7⟩ := hV 7 (by decide)
    obtain ⟨A8, c8, X8, e8, l8, n8, h8⟩ := hV 8 (by decide)
    obtain ⟨A9, c9, X9, e9, l9, n9, h9⟩ := hV 9 (by decide)
    simp only [e0, e1, e2, e3, e4, e5, e6, e7, e8, e9]
    clear e0 e1 e2 e3 e4 e5 e6 e7 e8 e9
    refine wpAny_done (by kernel_rfl) ?_ _
    obtain ⟨_, _, d9⟩ := hS
    go_wp2
    go_ret
    exact ⟨_, _, rfl, ⟨X9, h9⟩, d9⟩
  · have e0 : (r == 0) = false := by simp [h0']
    by_cases h1 : r = 1
    · have e1 : (r == 1) = true := by simp [h1]
      obtain ⟨q0, q1⟩ := k3.two
      go_wp2_with fail
      refine (l04One_any P A n c w3 (by omega)).mono ?_
      rintro e w4 ⟨A4, c4, rfl, hM4⟩
      have d4 := d3.then hM4.b
      have k4 := k3.below hM4.b k3.lt
      have o4 := o3.below hM4.b
      have h4 := hM4.2.base (B' := w.heap.size) d3.size
      have hnx := next_any g 4 w4 d4.s' (by omega)
      clear hM4 d3 k3 o3 hO3 q0 q1
      go_wp2_with fail
      refine hnx.mono ?_
      rintro e w5 ⟨rr, rfl, hr3, hr4, hd5⟩
      obtain ⟨rn, rfl⟩ : ∃ rn : Nat, rr = rn := ⟨rr.toNat, by omega⟩
      have d5 := d4.trans hd5
      have k5 := k4.dr hd5 (by decide)
      have o5 := o4.dr hd5 (by decide)
      have h5 := h4.dr hd5 (by decide)
      clear hnx d4 k4 o4 h4 hd5
      have hbn := bladeL_nums hp n 0
      have hbl := bladeL_len n 0
      go_wp2
      go_loopw [5, 6] (fun out q wr => ∃ (m : Nat) (A5 : Option Addr) (c5 : Nat) (X5 : List Int), m ≤ 4 ∧ q = .int .i64 m ∧ out = .slice A5 (pw n) c5 ∧ X5.length = pw n ∧ NumsL P X5 ∧ Own wr w.heap.size 2 A5 (pw n) c5 (ints X5) ∧ Blk wr w.heap.size 26 #[.int .i64 P, .slice A n c] ∧ Own wr 0 2 A n c (ints sq) ∧ Dr g 143 w wr) (fun _ q _ => (intOf q).toNat)
      case atStart => exact ⟨rn, _, _, _, by omega, rfl, rfl, hbl, hbn, h5, k5, o5, d5⟩
      case round =>
        clear h5 k5 o5 d5 hbn hbl
        obtain ⟨m, A5, c5, X5, hm4, rfl, rfl, hl5, hn5, h5, k5, o5, d5⟩ := hrel
        have HN5 := Lib.hid hn5
        have HL5 := Lib.hid hl5
        clear hn5 hl5
        cases m with
        | zero =>
          go_wp2
          go_ret
          exact ⟨_, _, rfl, ⟨X5, h5⟩, d5⟩
        | succ m =>
          have d1 : decide (0 < ((m + 1 : Nat) : Int)) = true := by rw [decide_eq_true_eq]; omega
          have WM : wrap64 (((m + 1 : Nat) : Int) - 1) = (m : Int) := by unfold wrap64; omega
          obtain ⟨q0, q1⟩ := k5.two
          go_wp2
          refine wp_obsR 12 (Dr g 143) [[], [], [], [], [], [4], [], [6], [6, 7], [3, 4, 5, 6, 7, 8], [2, 3, 4, 5, 6, 7, 8, 9], [0, 1, 2, 3, 4, 5, 6, 7, 8, 9, 10], [0, 1, 2, 3, 4, 5, 6, 7, 8, 9, 10, 11]] [[], [], [], [], [], [], [], [], [], [99], [], []] (fun x => [VIs (.agg #[.int .i64 P, .slice A n c]), VIs (.slice A5 (pw n) c5), VIs (.agg #[.int .i64 P, .slice A n c]), VIs (.pointer (some ⟨g, 0, none⟩)), VIs (.pointer (some ⟨w.heap.size, 0, none⟩)), VIs (.int .i64 (P)), VIs (.pointer (some ⟨w.heap.size, 1, none⟩)), VIs (.slice A n c), VIs (.int .i64 (n)), VLs w.heap.size (n) P, VLs w.heap.size (pw n) P, VLs w.heap.size (pw n) P]) (fun w' => Blk w' w.heap.size 26 #[.int .i64 P, .slice A n c] ∧ Own w' 0 2 A n c (ints sq) ∧ Dr g 143 w w' ∧ Own w' w.heap.size 2 A5 (pw n) c5 (ints X5)) (by kernel_rfl) (by kernel_rfl) (fun x x' j hx => by
              rcases j with _ | _ | _ | _ | _ | _ | _ | _ | _ | _ | _ | _ | j
              · rfl
              · rfl
              · rfl
              · rfl
              · rfl
              · rfl
              · rfl
              · rfl
              · rfl
              · rfl
              · rfl
              · rfl
              · rfl)
            (weak_ofR [0, 1, 2, 3, 4, 5, 6, 7, 8, 9, 10, 11] (by decide) (fun k hk x v w w' hp hr => by
              simp only [List.mem_cons, List.not_mem_nil, or_false] at hk
              rcases hk with rfl | rfl | rfl | rfl | rfl | rfl | rfl | rfl | rfl | rfl | rfl | rfl
              · exact hp
              · exact hp
              · exact hp
              · exact hp
              · exact hp
              · exact hp
              · exact hp
              · exact hp
              · exact hp
              · exact VLs.dr hp hr (by decide)
              · exact VLs.dr hp hr (by decide)
              · exact VLs.dr hp hr (by decide))) (fun j _ _ h hb => hb.either (fun hb => ⟨h.1.below hb h.1.lt, h.2.1.below hb, h.2.2.1.then hb, h.2.2.2.below hb⟩) (fun hr => ⟨h.1.dr hr (by decide), h.2.1.dr hr (by decide), h.2.2.1.trans hr, h.2.2.2.dr hr (by decide)⟩)) (⟨k5.drew, o5.below (Below.refl _ _).drew, d5.then (Below.refl _ _).drew, h5.below (Below.refl _ _).drew⟩) (fun x => ?_)
          refine obs_stepR (Eq.trans (by simp only [List.getElem?_toArray, List.getElem?_cons_zero]; exact rfl) rfl) rfl (fun w' hS hV K hK => ?_) ?_
          · obtain ⟨q0, q1⟩ := hS.1.two
            go_simp
            exact hK.out _ _ _ rfl rfl rfl (Below.refl _ _)
          simp only [List.setIfInBounds_toArray, List.set_cons_zero, List.set_cons_succ]
          refine obs_stepR (Eq.trans (by simp only [List.getElem?_toArray, List.getElem?_cons_succ, List.getElem?_cons_zero]; exact rfl) rfl) rfl (fun w' hS hV K hK => ?_) ?_
          · obtain ⟨q0, q1⟩ := hS.1.two
            go_simp
            exact hK.out _ _ _ rfl rfl rfl (Below.refl _ _)
          simp only [List.setIfInBounds_toArray, List.set_cons_zero, List.set_cons_succ]
          refine obs_stepR (Eq.trans (by simp only [List.getElem?_toArray, List.getElem?_cons_succ, List.getElem?_cons_zero]; exact rfl) rfl) rfl (fun w' hS hV K hK => ?_) ?_
          · obtain ⟨q0, q1⟩ := hS.1.two
            go_simp
            exact hK.out _ _ _ rfl rfl rfl (Below.refl _ _)
          simp only [List.setIfInBounds_toArray, List.set_cons_zero, List.set_cons_succ]
          refine obs_stepR (Eq.trans (by simp only [List.getElem?_toArray, List.getElem?_cons_succ, List.getElem?_cons_zero]; exact rfl) rfl) rfl (fun w' hS hV K hK => ?_) ?_
          · obtain ⟨q0, q1⟩ := hS.1.two
            go_simp
            exact hK.out _ _ _ rfl rfl rfl (Below.refl _ _)
          simp only [List.setIfInBounds_toArray, List.set_cons_zero, List.set_cons_succ]
          refine obs_stepR (Eq.trans (by simp only [List.getElem?_toArray, List.getElem?_cons_succ, List.getElem?_cons_zero]; exact rfl) rfl) rfl (fun w' hS hV K hK => ?_) ?_
          · obtain ⟨q0, q1⟩ := hS.1.two
            go_simp
            exact hK.out _ _ _ rfl rfl rfl (Below.refl _ _)
          simp only [List.setIfInBounds_toArray, List.set_cons_zero, List.set_cons_succ]
          refine obs_stepR (Eq.trans (by simp only [List.getElem?_toArray, List.getElem?_cons_succ, List.getElem?_cons_zero]; exact rfl) rfl) rfl (fun w' hS hV K hK => ?_) ?_
          · have e4 : x 4 = (.pointer (some ⟨w.heap.size, 0, none⟩)) := hV 4 (by decide)
            obtain ⟨q0, q1⟩ := hS.1.two
            go_simp
            exact hK.out _ _ _ rfl rfl rfl (Below.refl _ _)
          simp only [List.setIfInBounds_toArray, List.set_cons_zero, List.set_cons_succ]
          refine obs_stepR (Eq.trans (by simp only [List.getElem?_toArray, List.getElem?_cons_succ, List.getElem?_cons_zero]; exact rfl) rfl) rfl (fun w' hS hV K hK => ?_) ?_
          · obtain ⟨q0, q1⟩ := hS.1.two
            go_simp
            exact hK.out _ _ _ rfl rfl rfl (Below.refl _ _)
          simp only [List.setIfInBounds_toArray, List.set_cons_zero, List.set_cons_succ]
          refine obs_stepR (Eq.trans (by simp only [List.getElem?_toArray, List.getElem?_cons_succ, List.getElem?_cons_zero]; exact rfl) rfl) rfl (fun w' hS hV K hK => ?_) ?_
          · have e6 : x 6 = (.pointer (some ⟨w.heap.size, 1, none⟩)) := hV 6 (by decide)
            obtain ⟨q0, q1⟩ := hS.1.two
            go_simp
            exact hK.out _ _ _ rfl rfl rfl (Below.refl _ _)
          simp only [List.setIfInBounds_toArray, List.set_cons_zero, List.set_cons_succ]
          refine obs_stepR (Eq.trans (by simp only [List.getElem?_toArray, List.getElem?_cons_succ, List.getElem?_cons_zero]; exact rfl) rfl) rfl (fun w' hS hV K hK => ?_) ?_
          · have e6 : x 6 = (.pointer (some ⟨w.heap.size, 1, none⟩)) := hV 6 (by decide)
            have e7 : x 7 = (.slice A n c) := hV 7 (by decide)
            obtain ⟨q0, q1⟩ := hS.1.two
            go_simp
            exact hK.out _ _ _ rfl rfl rfl (Below.refl _ _)
          simp only [List.setIfInBounds_toArray, List.set_cons_zero, List.set_cons_succ]
          refine obs_stepR (Eq.trans (by simp only [List.getElem?_toArray, List.getElem?_cons_succ, List.getElem?_cons_zero]; exact rfl) rfl) rfl (fun w' hS hV K hK => ?_) ?_
          · have e3 : x 3 = (.pointer (some ⟨g, 0, none⟩)) := hV 3 (by decide)
            have e4 : x 4 = (.pointer (some ⟨w.heap.size, 0, none⟩)) := hV 4 (by decide)
            have e5 : x 5 = (.int .i64 (P)) := hV 5 (by decide)
            have e6 : x 6 = (.pointer (some ⟨w.heap.size, 1, none⟩)) := hV 6 (by decide)
            have e7 : x 7 = (.slice A n c) := hV 7 (by decide)
            have e8 : x 8 = (.int .i64 (n)) := hV 8 (by decide)
            obtain ⟨q0, q1⟩ := hS.1.two
            go_simp
            refine (nextList_any g P (n) w' hS.2.2.1.s' (by omega) (by omega)).mono ?_
            rintro e v1 ⟨A9, c9, xs9, rfl, hl9, hx9, ho9, hd9⟩
            exact hK.out _ _ _ rfl rfl ⟨_, _, xs9, rfl, hl9, nums_of (by omega) hx9, ho9.base hS.2.2.1.size⟩ hd9
          simp only [List.setIfInBounds_toArray, List.set_cons_zero, List.set_cons_succ]
          refine obs_stepR (Eq.trans (by simp only [List.getElem?_toArray, List.getElem?_cons_succ, List.getElem?_cons_zero]; exact rfl) rfl) rfl (fun w' hS hV K hK => ?_) ?_
          · have e2 : x 2 = (.agg #[.int .i64 P, .slice A n c]) := hV 2 (by decide)
            have e3 : x 3 = (.pointer (some ⟨g, 0, none⟩)) := hV 3 (by decide)
            have e4 : x 4 = (.pointer (some ⟨w.heap.size, 0, none⟩)) := hV 4 (by decide)
            have e5 : x 5 = (.int .i64 (P)) := hV 5 (by decide)
            have e6 : x 6 = (.pointer (some ⟨w.heap.size, 1, none⟩)) := hV 6 (by decide)
            have e7 : x 7 = (.slice A n c) := hV 7 (by decide)
            have e8 : x 8 = (.int .i64 (n)) := hV 8 (by decide)
            obtain ⟨A9, c9, X9, e9, l9, n9, h9⟩ := hV 9 (by decide)
            obtain ⟨q0, q1⟩ := hS.1.two
            go_simp
            refine (l04Vector_any P A n c A9 c9 X9 w' (by omega) h9.rd).mono ?_
            rintro e v1 ⟨A9, c9, rfl, hM⟩
            exact hK.out _ _ _ rfl rfl ⟨_, _, _, rfl, vecTo_len _ _ _, vecTo_nums (by omega) n X9 n9 n, hM.2.base hS.2.2.1.size⟩ hM.b
          simp only [List.setIfInBounds_toArray, List.set_cons_zero, List.set_cons_succ]
          refine obs_stepR (Eq.trans (by simp only [List.getElem?_toArray, List.getElem?_cons_succ, List.getElem?_cons_zero]; exact rfl) rfl) rfl (fun w' hS hV K hK => ?_) ?_
          · have e0 : x 0 = (.agg #[.int .i64 P, .slice A n c]) := hV 0 (by decide)
            have e1 : x 1 = (.slice A5 (pw n) c5) := hV 1 (by decide)
            have e2 : x 2 = (.agg #[.int .i64 P, .slice A n c]) := hV 2 (by decide)
            have e3 : x 3 = (.pointer (some ⟨g, 0, none⟩)) := hV 3 (by decide)
            have e4 : x 4 = (.pointer (some ⟨w.heap.size, 0, none⟩)) := hV 4 (by decide)
            have e5 : x 5 = (.int .i64 (P)) := hV 5 (by decide)
            have e6 : x 6 = (.pointer (some ⟨w.heap.size, 1, none⟩)) := hV 6 (by decide)
            have e7 : x 7 = (.slice A n c) := hV 7 (by decide)
            have e8 : x 8 = (.int .i64 (n)) := hV 8 (by decide)
            obtain ⟨A9, c9, X9, e9, l9, n9, h9⟩ := hV 9 (by decide)
            obtain ⟨A10, c10, X10, e10, l10, n10, h10⟩ := hV 10 (by decide)
            obtain ⟨q0, q1⟩ := hS.1.two
            go_simp
            refine (l04Times_any P A n c sq A5 c5 X5 A10 c10 X10 w' hp hp2 hn hS.2.1.rd HQ.out (hS.2.2.2.rd) HN5.out h10.rd n10).mono ?_
            rintro e v1 ⟨A9, c9, rfl, hM⟩
            exact hK.out _ _ _ rfl rfl ⟨_, _, _, rfl, by rw [prodL_len]; exact HL5.out, prodL_nums sq _ _ _ (by omega), hM.2.base hS.2.2.1.size⟩ hM.b
          simp only [List.setIfInBounds_toArray, List.set_cons_zero, List.set_cons_succ]
          refine fun w' hS hV => ?_
          have e0 : x 0 = (.agg #[.int .i64 P, .slice A n c]) := hV 0 (by decide)
          have e1 : x 1 = (.slice A5 (pw n) c5) := hV 1 (by decide)
          have e2 : x 2 = (.agg #[.int .i64 P, .slice A n c]) := hV 2 (by decide)
          have e3 : x 3 = (.pointer (some ⟨g, 0, none⟩)) := hV 3 (by decide)
          have e4 : x 4 = (.pointer (some ⟨w.heap.size, 0, none⟩)) := hV 4 (by decide)
          have e5 : x 5 = (.int .i64 (P)) := hV 5 (by decide)
          have e6 : x 6 = (.pointer (some ⟨w.heap.size, 1, none⟩)) := hV 6 (by decide)
          have e7 : x 7 = (.slice A n c) := hV 7 (by decide)
          have e8 : x 8 = (.int .i64 (n)) := hV 8 (by decide)
          obtain ⟨A9, c9, X9, e9, l9, n9, h9⟩ := hV 9 (by decide)
          obtain ⟨A10, c10, X10, e10, l10, n10, h10⟩ := hV 10 (by decide)
          obtain ⟨A11, c11, X11, e11, l11, n11, h11⟩ := hV 11 (by decide)
          simp only [e0, e1, e2, e3, e4, e5, e6, e7, e8, e9, e10, e11]
          clear e0 e1 e2 e3 e4 e5 e6 e7 e8 e9 e10 e11
          obtain ⟨k6, o6, d6, _⟩ := hS
          refine any_one (j := 12) (by kernel_rfl) (Eq.trans (by simp only [List.getElem?_toArray, List.getElem?_cons_succ, List.getElem?_cons_zero]; exact rfl) rfl) (fun K hK => ?_)
          go_simp
          refine hK.out _ _ (wpAny_done (by kernel_rfl) ?_ _)
          clear q0 q1 k5 o5 d5 h5
          go_wp2
          go_roundw
          case rel => exact ⟨m, _, _, X11, by omega, by go_num, rfl, l11, n11, h11, k6, o6, d6⟩
          case measure => simp [intOf]
    · have e1 : (r == 1) = false := by simp [h1]
      by_cases h2 : r = 2
      · have e2 : (r == 2) = true := by simp [h2]
        have hnx := next_any g ((n : Int) + 1) w3 d3.s' (by omega)
        have W1 : wrap64 ((n : Int) + 1) = (n : Int) + 1 := by unfold wrap64; omega
        obtain ⟨q0, q1⟩ := k3.two
        go_wp2_with fail
        refine hnx.mono ?_
        rintro e w4 ⟨rr, rfl, hr3, hr4, hd4⟩
        have hr5 := hr4 (by omega)
        obtain ⟨rn, rfl⟩ : ∃ rn : Nat, rr = rn := ⟨rr.toNat, by omega⟩
        have d4 := d3.trans hd4
        have k4 := k3.dr hd4 (by decide)
        have o4 := o3.dr hd4 (by decide)
        clear hnx d3 k3 o3 hd4 q0 q1
        obtain ⟨q0, q1⟩ := k4.two
        go_wp2
        refine wp_obsR 9 (Dr g 143) [[], [], [1], [], [3], [0, 1, 2, 3, 4], [], [0, 1, 2, 3, 4, 5, 6], [0, 1, 2, 3, 4, 5, 6, 7]] [[], [], [], [], [], [99], [], [], []] (fun x => [VIs (.pointer (some ⟨g, 0, none⟩)), VIs (.pointer (some ⟨w.heap.size, 0, none⟩)), VIs (.int .i64 (P)), VIs (.agg #[.int .i64 P, .slice A n c]), VIs (.int .i64 (pw n)), VLs w.heap.size (pw n) P, VIs (.int .i64 (rn)), VLs w.heap.size (pw n) P, VLs w.heap.size (pw n) P]) (fun w' => Blk w' w.heap.size 26 #[.int .i64 P, .slice A n c] ∧ Own w' 0 2 A n c (ints sq) ∧ Dr g 143 w w') (by kernel_rfl) (by kernel_rfl) (fun x x' j hx => by
            rcases j with _ | _ | _ | _ | _ | _ | _ | _ | _ | j
            · rfl
            · rfl
            · rfl
            · rfl
            · rfl
            · rfl
            · rfl
            · rfl
            · rfl
            · rfl)
          (weak_ofR [0, 1, 2, 3, 4, 5, 6, 7, 8] (by decide) (fun k hk x v w w' hp hr => by
            simp only [List.mem_cons, List.not_mem_nil, or_false] at hk
            rcases hk with rfl | rfl | rfl | rfl | rfl | rfl | rfl | rfl | rfl
            · exact hp
            · exact hp
            · exact hp
            · exact hp
            · exact hp
            · exact VLs.dr hp hr (by decide)
            · exact hp
            · exact VLs.dr hp hr (by decide)
            · exact VLs.dr hp hr (by decide))) (fun j _ _ h hb => hb.either (fun hb => ⟨h.1.below hb h.1.lt, h.2.1.below hb, h.2.2.then hb⟩) (fun hr => ⟨h.1.dr hr (by decide), h.2.1.dr hr (by decide), h.2.2.trans hr⟩)) (⟨k4.drew, o4.below (Below.refl _ _).drew, d4.then (Below.refl _ _).drew⟩) (fun x => ?_)
        refine obs_stepR (Eq.trans (by simp only [List.getElem?_toArray, List.getElem?_cons_zero]; exact rfl) rfl) rfl (fun w' hS hV K hK => ?_) ?_
        · obtain ⟨q0, q1⟩ := hS.1.two
          go_simp
          exact hK.out _ _ _ rfl rfl rfl (Below.refl _ _)
        simp only [List.setIfInBounds_toArray, List.set_cons_zero, List.set_cons_succ]
        refine obs_stepR (Eq.trans (by simp only [List.getElem?_toArray, List.getElem?_cons_succ, List.getElem?_cons_zero]; exact rfl) rfl) rfl (fun w' hS hV K hK => ?_) ?_
        · obtain ⟨q0, q1⟩ := hS.1.two
          go_simp
          exact hK.out _ _ _ rfl rfl rfl (Below.refl _ _)
        simp only [List.setIfInBounds_toArray, List.set_cons_zero, List.set_cons_succ]
        refine obs_stepR (Eq.trans (by simp only [List.getElem?_toArray, List.getElem?_cons_succ, List.getElem?_cons_zero]; exact rfl) rfl) rfl (fun w' hS hV K hK => ?_) ?_
        · have e1 : x 1 = (.pointer (some ⟨w.heap.size, 0, none⟩)) := hV 1 (by decide)
          obtain ⟨q0, q1⟩ := hS.1.two
          go_simp
          exact hK.out _ _ _ rfl rfl rfl (Below.refl _ _)
        simp only [List.setIfInBounds_toArray, List.set_cons_zero, List.set_cons_succ]
        refine obs_stepR (Eq.trans (by simp only [List.getElem?_toArray, List.getElem?_cons_succ, List.getElem?_cons_zero]; exact rfl) rfl) rfl (fun w' hS hV K hK => ?_) ?_
        · obtain ⟨q0, q1⟩ := hS.1.two
          go_simp
          exact hK.out _ _ _ rfl rfl rfl (Below.refl _ _)
        simp only [List.setIfInBounds_toArray, List.set_cons_zero, List.set_cons_succ]
        refine obs_stepR (Eq.trans (by simp only [List.getElem?_toArray, List.getElem?_cons_succ, List.getElem?_cons_zero]; exact rfl) rfl) rfl (fun w' hS hV K hK => ?_) ?_
        · have e3 : x 3 = (.agg #[.int .i64 P, .slice A n c]) := hV 3 (by decide)
          obtain ⟨q0, q1⟩ := hS.1.two
          go_simp
          refine (l04Size_any P A n c w' (by omega)).mono ?_
          rintro e v1 ⟨rfl, hb⟩
          exact hK.out _ _ _ rfl rfl rfl hb
        simp only [List.setIfInBounds_toArray, List.set_cons_zero, List.set_cons_succ]
        refine obs_stepR (Eq.trans (by simp only [List.getElem?_toArray, List.getElem?_cons_succ, List.getElem?_cons_zero]; exact rfl) rfl) rfl (fun w' hS hV K hK => ?_) ?_
        · have e0 : x 0 = (.pointer (some ⟨g, 0, none⟩)) := hV 0 (by decide)
          have e1 : x 1 = (.pointer (some ⟨w.heap.size, 0, none⟩)) := hV 1 (by decide)
          have e2 : x 2 = (.int .i64 (P)) := hV 2 (by decide)
          have e3 : x 3 = (.agg #[.int .i64 P, .slice A n c]) := hV 3 (by decide)
          have e4 : x 4 = (.int .i64 (pw n)) := hV 4 (by decide)
          obtain ⟨q0, q1⟩ := hS.1.two
          go_simp
          refine (nextList_any g P (pw n) w' hS.2.2.s' (by omega) (by omega)).mono ?_
          rintro e v1 ⟨A9, c9, xs9, rfl, hl9, hx9, ho9, hd9⟩
          exact hK.out _ _ _ rfl rfl ⟨_, _, xs9, rfl, hl9, nums_of (by omega) hx9, ho9.base hS.2.2.size⟩ hd9
        simp only [List.setIfInBounds_toArray, List.set_cons_zero, List.set_cons_succ]
        refine obs_stepR (Eq.trans (by simp only [List.getElem?_toArray, List.getElem?_cons_succ, List.getElem?_cons_zero]; exact rfl) rfl) rfl (fun w' hS hV K hK => ?_) ?_
        · obtain ⟨q0, q1⟩ := hS.1.two
          go_simp
          exact hK.out _ _ _ rfl rfl rfl (Below.refl _ _)
        simp only [List.setIfInBounds_toArray, List.set_cons_zero, List.set_cons_succ]
        refine obs_stepR (Eq.trans (by simp only [List.getElem?_toArray, List.getElem?_cons_succ, List.getElem?_cons_zero]; exact rfl) rfl) rfl (fun w' hS hV K hK => ?_) ?_
        · have e0 : x 0 = (.pointer (some ⟨g, 0, none⟩)) := hV 0 (by decide)
          have e1 : x 1 = (.pointer (some ⟨w.heap.size, 0, none⟩)) := hV 1 (by decide)
          have e2 : x 2 = (.int .i64 (P)) := hV 2 (by decide)
          have e3 : x 3 = (.agg #[.int .i64 P, .slice A n c]) := hV 3 (by decide)
          have e4 : x 4 = (.int .i64 (pw n)) := hV 4 (by decide)
          obtain ⟨A5, c5, X5, e5, l5, n5, h5⟩ := hV 5 (by decide)
          have e6 : x 6 = (.int .i64 (rn)) := hV 6 (by decide)
          obtain ⟨q0, q1⟩ := hS.1.two
          go_simp
          refine (l04Part_any A5 (pw n) c5 X5 rn w' (by omega) (by omega) h5.rd).mono ?_
          rintro e v1 ⟨A9, c9, rfl, hM⟩
          exact hK.out _ _ _ rfl rfl ⟨_, _, _, rfl, by rw [partG_len]; exact l5, partG_nums (by omega) n5 _, hM.2.base hS.2.2.size⟩ hM.b
        simp only [List.setIfInBounds_toArray, List.set_cons_zero, List.set_cons_succ]
        refine obs_stepR (Eq.trans (by simp only [List.getElem?_toArray, List.getElem?_cons_succ, List.getElem?_cons_zero]; exact rfl) rfl) rfl (fun w' hS hV K hK => ?_) ?_
        · have e0 : x 0 = (.pointer (some ⟨g, 0, none⟩)) := hV 0 (by decide)
          have e1 : x 1 = (.pointer (some ⟨w.heap.size, 0, none⟩)) := hV 1 (by decide)
          have e2 : x 2 = (.int .i64 (P)) := hV 2 (by decide)
          have e3 : x 3 = (.agg #[.int .i64 P, .slice A n c]) := hV 3 (by decide)
          have e4 : x 4 = (.int .i64 (pw n)) := hV 4 (by decide)
          obtain ⟨A5, c5, X5, e5, l5, n5, h5⟩ := hV 5 (by decide)
          have e6 : x 6 = (.int .i64 (rn)) := hV 6 (by decide)
          obtain ⟨A7, c7, X7, e7, l7, n7, h7⟩ := hV 7 (by decide)
          obtain ⟨q0, q1⟩ := hS.1.two
          go_simp
          exact hK.out _ _ _ rfl rfl ⟨_, _, X7, rfl, l7, n7, h7⟩ (Below.refl _ _)
        simp only [List.setIfInBounds_toArray, List.set_cons_zero, List.set_cons_succ]
        refine fun w' hS hV => ?_
        have e0 : x 0 = (.pointer (some ⟨g, 0, none⟩)) := hV 0 (by decide)
        have e1 : x 1 = (.pointer (some ⟨w.heap.size, 0, none⟩)) := hV 1 (by decide)
        have e2 : x 2 = (.int .i64 (P)) := hV 2 (by decide)
        have e3 : x 3 = (.agg #[.int .i64 P, .slice A n c]) := hV 3 (by decide)
        have e4 : x 4 = (.int .i64 (pw n)) := hV 4 (by decide)
        obtain ⟨A5, c5, X5, e5, l5, n5, h5⟩ := hV 5 (by decide)
        have e6 : x 6 = (.int .i64 (rn)) := hV 6 (by decide)
        obtain ⟨A7, c7, X7, e7, l7, n7, h7⟩ := hV 7 (by decide)
        obtain ⟨A8, c8, X8, e8, l8, n8, h8⟩ := hV 8 (by decide)
        simp only [e0, e1, e2, e3, e4, e5, e6, e7, e8]
        clear e0 e1 e2 e3 e4 e5 e6 e7 e8
        refine wpAny_done (by kernel_rfl) ?_ _
        obtain ⟨_, _, d9⟩ := hS
        go_wp2
        go_ret
        exact ⟨_, _, rfl, ⟨X8, h8⟩, d9⟩
      · have e2 : (r == 2) = false := by simp [h2]
        by_cases h3 : r = 3
        · have e3 : (r == 3) = true := by simp [h3]
          rcases hO3.form with ⟨_, hzz⟩ | ⟨g2, rfl, hga, hgb⟩
          · omega
          have hnx := next_any g 4 w3 d3.s' (by omega)
          go_wp2_with fail
          refine hnx.mono ?_
          rintro e w5 ⟨rr, rfl, hr3, hr4, hd5⟩
          obtain ⟨rn, rfl⟩ : ∃ rn : Nat, rr = rn := ⟨rr.toNat, by omega⟩
          have d5 := d3.trans hd5
          have k5 := k3.dr hd5 (by decide)
          have o5 := o3.dr hd5 (by decide)
          have h5 := hO3.dr hd5 (by decide)
          clear hnx d3 k3 o3 hO3 hd5
          go_wp2
          go_loopw [8] (fun q wr => ∃ (m : Nat) (X5 : List Int), m ≤ 4 ∧ q = .int .i64 m ∧ Own wr w.heap.size 2 (some ⟨g2, 0, none⟩) (pw n) c2 (ints X5) ∧ Blk wr w.heap.size 26 #[.int .i64 P, .slice A n c] ∧ Own wr 0 2 A n c (ints sq) ∧ Dr g 143 w wr) (fun q _ => (intOf q).toNat)
          case atStart => exact ⟨rn, _, by omega, rfl, h5, k5, o5, d5⟩
          case round =>
            clear h5 k5 o5 d5
            obtain ⟨m, X5, hm4, rfl, h5, k5, o5, d5⟩ := hrel
            cases m with
            | zero =>
              go_wp2
              go_ret
              exact ⟨_, _, rfl, ⟨X5, h5⟩, d5⟩
            | succ m =>
              have d1 : decide (0 < ((m + 1 : Nat) : Int)) = true := by rw [decide_eq_true_eq]; omega
              have WM : wrap64 (((m + 1 : Nat) : Int) - 1) = (m : Int) := by unfold wrap64; omega
              obtain ⟨q0, q1⟩ := k5.two
              go_wp2
              refine wp_obsR 10 (Dr g 143) [[], [], [], [2], [1, 2, 3], [], [], [6], [1, 2, 3, 4, 5, 6, 7], [0, 1, 2, 3, 4], [0, 1, 2, 3, 4, 5, 6, 7, 8, 9]] [[], [], [], [], [99], [], [], [], [99], []] (fun x => [VIs (.slice (some ⟨g2, 0, none⟩) (pw n) c2), VIs (.pointer (some ⟨g, 0, none⟩)), VIs (.agg #[.int .i64 P, .slice A n c]), VIs (.int .i64 (pw n)), VIx (pw n), VIs (.pointer (some ⟨g, 0, none⟩)), VIs (.pointer (some ⟨w.heap.size, 0, none⟩)), VIs (.int .i64 (P)), VNum, VPt g2 (pw n) (x 4)]) (fun w' => Blk w' w.heap.size 26 #[.int .i64 P, .slice A n c] ∧ Own w' 0 2 A n c (ints sq) ∧ Dr g 143 w w' ∧ Own w' w.heap.size 2 (some ⟨g2, 0, none⟩) (pw n) c2 (ints X5)) (by kernel_rfl) (by kernel_rfl) (fun x x' j hx => by
                  rcases j with _ | _ | _ | _ | _ | _ | _ | _ | _ | _ | j
                  · rfl
                  · rfl
                  · rfl
                  · rfl
                  · rfl
                  · rfl
                  · rfl
                  · rfl
                  · rfl
                  · rw [hx 4 (by decide)]
                  · rfl)
                (weak_ofR [0, 1, 2, 3, 4, 5, 6, 7, 8, 9] (by decide) (fun k hk x v w w' hp hr => by
                  simp only [List.mem_cons, List.not_mem_nil, or_false] at hk
                  rcases hk with rfl | rfl | rfl | rfl | rfl | rfl | rfl | rfl | rfl | rfl
                  · exact hp
                  · exact hp
                  · exact hp
                  · exact hp
                  · exact hp
                  · exact hp
                  · exact hp
                  · exact hp
                  · exact hp
                  · exact hp)) (fun j _ _ h hb => hb.either (fun hb => ⟨h.1.below hb h.1.lt, h.2.1.below hb, h.2.2.1.then hb, h.2.2.2.below hb⟩) (fun hr => ⟨h.1.dr hr (by decide), h.2.1.dr hr (by decide), h.2.2.1.trans hr, h.2.2.2.dr hr (by decide)⟩)) (⟨k5.drew, o5.below (Below.refl _ _).drew, d5.then (Below.refl _ _).drew, h5.below (Below.refl _ _).drew⟩) (fun x => ?_)
              refine obs_stepR (Eq.trans (by simp only [List.getElem?_toArray, List.getElem?_cons_zero]; exact rfl) rfl) rfl (fun w' hS hV K hK => ?_) ?_
              · obtain ⟨q0, q1⟩ := hS.1.two
                go_simp
                exact hK.out _ _ _ rfl rfl rfl (Below.refl _ _)
              simp only [List.setIfInBounds_toArray, List.set_cons_zero, List.set_cons_succ]
              refine obs_stepR (Eq.trans (by simp only [List.getElem?_toArray, List.getElem?_cons_succ, List.getElem?_cons_zero]; exact rfl) rfl) rfl (fun w' hS hV K hK => ?_) ?_
              · obtain ⟨q0, q1⟩ := hS.1.two
                go_simp
                exact hK.out _ _ _ rfl rfl rfl (Below.refl _ _)
              simp only [List.setIfInBounds_toArray, List.set_cons_zero, List.set_cons_succ]
              refine obs_stepR (Eq.trans (by simp only [List.getElem?_toArray, List.getElem?_cons_succ, List.getElem?_cons_zero]; exact rfl) rfl) rfl (fun w' hS hV K hK => ?_) ?_
              · obtain ⟨q0, q1⟩ := hS.1.two
                go_simp
                exact hK.out _ _ _ rfl rfl rfl (Below.refl _ _)
              simp only [List.setIfInBounds_toArray, List.set_cons_zero, List.set_cons_succ]
              refine obs_stepR (Eq.trans (by simp only [List.getElem?_toArray, List.getElem?_cons_succ, List.getElem?_cons_zero]; exact rfl) rfl) rfl (fun w' hS hV K hK => ?_) ?_
              · have e2 : x 2 = (.agg #[.int .i64 P, .slice A n c]) := hV 2 (by decide)
                obtain ⟨q0, q1⟩ := hS.1.two
                go_simp
                refine (l04Size_any P A n c w' (by omega)).mono ?_
                rintro e v1 ⟨rfl, hb⟩
                exact hK.out _ _ _ rfl rfl rfl hb
              simp only [List.setIfInBounds_toArray, List.set_cons_zero, List.set_cons_succ]
              refine obs_stepR (Eq.trans (by simp only [List.getElem?_toArray, List.getElem?_cons_succ, List.getElem?_cons_zero]; exact rfl) rfl) rfl (fun w' hS hV K hK => ?_) ?_
              · have e1 : x 1 = (.pointer (some ⟨g, 0, none⟩)) := hV 1 (by decide)
                have e2 : x 2 = (.agg #[.int .i64 P, .slice A n c]) := hV 2 (by decide)
                have e3 : x 3 = (.int .i64 (pw n)) := hV 3 (by decide)
                obtain ⟨q0, q1⟩ := hS.1.two
                go_simp
                refine (next_any g ((pw n : Nat) : Int) w' hS.2.2.1.s' (by omega)).mono ?_
                rintro e v1 ⟨rr, rfl, t1, t2, hd9⟩
                have t3 := t2 (by omega)
                obtain ⟨rn2, rfl⟩ : ∃ k : Nat, rr = k := ⟨rr.toNat, by omega⟩
                exact hK.out _ _ _ rfl rfl ⟨rn2, rfl, by omega⟩ hd9
              simp only [List.setIfInBounds_toArray, List.set_cons_zero, List.set_cons_succ]
              refine obs_stepR (Eq.trans (by simp only [List.getElem?_toArray, List.getElem?_cons_succ, List.getElem?_cons_zero]; exact rfl) rfl) rfl (fun w' hS hV K hK => ?_) ?_
              · obtain ⟨q0, q1⟩ := hS.1.two
                go_simp
                exact hK.out _ _ _ rfl rfl rfl (Below.refl _ _)
              simp only [List.setIfInBounds_toArray, List.set_cons_zero, List.set_cons_succ]
              refine obs_stepR (Eq.trans (by simp only [List.getElem?_toArray, List.getElem?_cons_succ, List.getElem?_cons_zero]; exact rfl) rfl) rfl (fun w' hS hV K hK => ?_) ?_
              · obtain ⟨q0, q1⟩ := hS.1.two
                go_simp
                exact hK.out _ _ _ rfl rfl rfl (Below.refl _ _)
              simp only [List.setIfInBounds_toArray, List.set_cons_zero, List.set_cons_succ]
              refine obs_stepR (Eq.trans (by simp only [List.getElem?_toArray, List.getElem?_cons_succ, List.getElem?_cons_zero]; exact rfl) rfl) rfl (fun w' hS hV K hK => ?_) ?_
              · have e6 : x 6 = (.pointer (some ⟨w.heap.size, 0, none⟩)) := hV 6 (by decide)
                obtain ⟨q0, q1⟩ := hS.1.two
                go_simp
                exact hK.out _ _ _ rfl rfl rfl (Below.refl _ _)
              simp only [List.setIfInBounds_toArray, List.set_cons_zero, List.set_cons_succ]
              refine obs_stepR (Eq.trans (by simp only [List.getElem?_toArray, List.getElem?_cons_succ, List.getElem?_cons_zero]; exact rfl) rfl) rfl (fun w' hS hV K hK => ?_) ?_
              · have e1 : x 1 = (.pointer (some ⟨g, 0, none⟩)) := hV 1 (by decide)
                have e2 : x 2 = (.agg #[.int .i64 P, .slice A n c]) := hV 2 (by decide)
                have e3 : x 3 = (.int .i64 (pw n)) := hV 3 (by decide)
                obtain ⟨rx, e4, lx⟩ := hV 4 (by decide)
                have e5 : x 5 = (.pointer (some ⟨g, 0, none⟩)) := hV 5 (by decide)
                have e6 : x 6 = (.pointer (some ⟨w.heap.size, 0, none⟩)) := hV 6 (by decide)
                have e7 : x 7 = (.int .i64 (P)) := hV 7 (by decide)
                obtain ⟨q0, q1⟩ := hS.1.two
                go_simp
                refine (next_any g P w' hS.2.2.1.s' (by omega)).mono ?_
                rintro e v1 ⟨rr, rfl, t1, t2, hd9⟩
                exact hK.out _ _ _ rfl rfl ⟨_, rfl⟩ hd9
              simp only [List.setIfInBounds_toArray, List.set_cons_zero, List.set_cons_succ]
              refine obs_stepR (Eq.trans (by simp only [List.getElem?_toArray, List.getElem?_cons_succ, List.getElem?_cons_zero]; exact rfl) rfl) rfl (fun w' hS hV K hK => ?_) ?_
              · have e0 : x 0 = (.slice (some ⟨g2, 0, none⟩) (pw n) c2) := hV 0 (by decide)
                have e1 : x 1 = (.pointer (some ⟨g, 0, none⟩)) := hV 1 (by decide)
                have e2 : x 2 = (.agg #[.int .i64 P, .slice A n c]) := hV 2 (by decide)
                have e3 : x 3 = (.int .i64 (pw n)) := hV 3 (by decide)
                obtain ⟨rx, e4, lx⟩ := hV 4 (by decide)
                obtain ⟨q0, q1⟩ := hS.1.two
                have b1 : (0 : Int) ≤ (rx : Int) := by omega
                have b2 : (rx : Int) < ((pw n : Nat) : Int) := by omega
                go_simp
                exact hK.out _ _ _ rfl rfl ⟨rx, e4, lx, rfl⟩ (Below.refl _ _)
              simp only [List.setIfInBounds_toArray, List.set_cons_zero, List.set_cons_succ]
              refine fun w' hS hV => ?_
              have e0 : x 0 = (.slice (some ⟨g2, 0, none⟩) (pw n) c2) := hV 0 (by decide)
              have e1 : x 1 = (.pointer (some ⟨g, 0, none⟩)) := hV 1 (by decide)
              have e2 : x 2 = (.agg #[.int .i64 P, .slice A n c]) := hV 2 (by decide)
              have e3 : x 3 = (.int .i64 (pw n)) := hV 3 (by decide)
              obtain ⟨rx, e4, lx⟩ := hV 4 (by decide)
              have e5 : x 5 = (.pointer (some ⟨g, 0, none⟩)) := hV 5 (by decide)
              have e6 : x 6 = (.pointer (some ⟨w.heap.size, 0, none⟩)) := hV 6 (by decide)
              have e7 : x 7 = (.int .i64 (P)) := hV 7 (by decide)
              obtain ⟨rv, e8⟩ := hV 8 (by decide)
              obtain ⟨ry, f9, ly, e9⟩ := hV 9 (by decide)
              simp only [e0, e1, e2, e3, e4, e5, e6, e7, e8, e9]
              clear e0 e1 e2 e3 e4 e5 e6 e7 e8 e9
              obtain ⟨k6, o6, d6, h6⟩ := hS
              obtain ⟨w6, rfl⟩ : ∃ W, W = w' := ⟨_, rfl⟩
              obtain ⟨u1, hc1⟩ := h6.cellI ly
              have hf1 := h6.frozen_ ry
              refine any_one (j := 10) (by kernel_rfl) (Eq.trans (by simp only [List.getElem?_toArray, List.getElem?_cons_succ, List.getElem?_cons_zero]; exact rfl) rfl) (fun K hK => ?_)
              go_simp
              refine hK.out _ _ (wpAny_done (by kernel_rfl) ?_ _)
              obtain ⟨h7, hg7⟩ := h6.set_ ry (.int .i64 rv)
              rw [ints_set] at h7
              have k7 := k6.grown hg7 (h6.ne_blk k6 (by decide))
              have d7 := d6.grown h6 hg7
              have o7 := o6.grown hg7 (by
                cases hbk : (Value.slice A n c).ownBlock with
                | none => exact .inl rfl
                | some gb => right; intro e; have := hSQ gb hbk; injection e with e; omega)
              clear k6 o6 d6 h6 hg7 hc1 hf1 k5 o5 d5 h5 q0 q1
              go_wp2
              go_roundw
              case rel => exact ⟨m, _, by omega, by go_num, h7, k7, o7, d7⟩
              case measure => simp [intOf]
        · have e3 : (r == 3) = false := by simp [h3]
          obtain ⟨q0, q1⟩ := k3.two
          go_wp2
          refine wp_obsR 7 (Dr g 143) [[], [], [1], [], [3], [0, 1, 2, 3, 4], [0, 1, 2, 3, 4, 5]] [[], [], [], [], [], [99], []] (fun x => [VIs (.pointer (some ⟨g, 0, none⟩)), VIs (.pointer (some ⟨w.heap.size, 0, none⟩)), VIs (.int .i64 (P)), VIs (.agg #[.int .i64 P, .slice A n c]), VIs (.int .i64 (pw n)), VLs w.heap.size (pw n) P, VLs w.heap.size (pw n) P]) (fun w' => Blk w' w.heap.size 26 #[.int .i64 P, .slice A n c] ∧ Own w' 0 2 A n c (ints sq) ∧ Dr g 143 w w') (by kernel_rfl) (by kernel_rfl) (fun x x' j hx => by
              rcases j with _ | _ | _ | _ | _ | _ | _ | j
              · rfl
              · rfl
              · rfl
              · rfl
              · rfl
              · rfl
              · rfl
              · rfl)
            (weak_ofR [0, 1, 2, 3, 4, 5, 6] (by decide) (fun k hk x v w w' hp hr => by
              simp only [List.mem_cons, List.not_mem_nil, or_false] at hk
              rcases hk with rfl | rfl | rfl | rfl | rfl | rfl | rfl
              · exact hp
              · exact hp
              · exact hp
              · exact hp
              · exact hp
              · exact VLs.dr hp hr (by decide)
              · exact VLs.dr hp hr (by decide))) (fun j _ _ h hb => hb.either (fun hb => ⟨h.1.below hb h.1.lt, h.2.1.below hb, h.2.2.then hb⟩) (fun hr => ⟨h.1.dr hr (by decide), h.2.1.dr hr (by decide), h.2.2.trans hr⟩)) (⟨k3.drew, o3.below (Below.refl _ _).drew, d3.then (Below.refl _ _).drew⟩) (fun x => ?_)
          refine obs_stepR (Eq.trans (by simp only [List.getElem?_toArray, List.getElem?_cons_zero]; exact rfl) rfl) rfl (fun w' hS hV K hK => ?_) ?_
          · obtain ⟨q0, q1⟩ := hS.1.two
            go_simp
            exact hK.out _ _ _ rfl rfl rfl (Below.refl _ _)
          simp only [List.setIfInBounds_toArray, List.set_cons_zero, List.set_cons_succ]
          refine obs_stepR (Eq.trans (by simp only [List.getElem?_toArray, List.getElem?_cons_succ, List.getElem?_cons_zero]; exact rfl) rfl) rfl (fun w' hS hV K hK => ?_) ?_
          · obtain ⟨q0, q1⟩ := hS.1.two
            go_simp
            exact hK.out _ _ _ rfl rfl rfl (Below.refl _ _)
          simp only [List.setIfInBounds_toArray, List.set_cons_zero, List.set_cons_succ]
          refine obs_stepR (Eq.trans (by simp only [List.getElem?_toArray, List.getElem?_cons_succ, List.getElem?_cons_zero]; exact rfl) rfl) rfl (fun w' hS hV K hK => ?_) ?_
          · have e1 : x 1 = (.pointer (some ⟨w.heap.size, 0, none⟩)) := hV 1 (by decide)
            obtain ⟨q0, q1⟩ := hS.1.two
            go_simp
            exact hK.out _ _ _ rfl rfl rfl (Below.refl _ _)
          simp only [List.setIfInBounds_toArray, List.set_cons_zero, List.set_cons_succ]
          refine obs_stepR (Eq.trans (by simp only [List.getElem?_toArray, List.getElem?_cons_succ, List.getElem?_cons_zero]; exact rfl) rfl) rfl (fun w' hS hV K hK => ?_) ?_
          · obtain ⟨q0, q1⟩ := hS.1.two
            go_simp
            exact hK.out _ _ _ rfl rfl rfl (Below.refl _ _)
          simp only [List.setIfInBounds_toArray, List.set_cons_zero, List.set_cons_succ]
          refine obs_stepR (Eq.trans (by simp only [List.getElem?_toArray, List.getElem?_cons_succ, List.getElem?_cons_zero]; exact rfl) rfl) rfl (fun w' hS hV K hK => ?_) ?_
          · have e3 : x 3 = (.agg #[.int .i64 P, .slice A n c]) := hV 3 (by decide)
            obtain ⟨q0, q1⟩ := hS.1.two
            go_simp
            refine (l04Size_any P A n c w' (by omega)).mono ?_
            rintro e v1 ⟨rfl, hb⟩
            exact hK.out _ _ _ rfl rfl rfl hb
          simp only [List.setIfInBounds_toArray, List.set_cons_zero, List.set_cons_succ]
          refine obs_stepR (Eq.trans (by simp only [List.getElem?_toArray, List.getElem?_cons_succ, List.getElem?_cons_zero]; exact rfl) rfl) rfl (fun w' hS hV K hK => ?_) ?_
          · have e0 : x 0 = (.pointer (some ⟨g, 0, none⟩)) := hV 0 (by decide)
            have e1 : x 1 = (.pointer (some ⟨w.heap.size, 0, none⟩)) := hV 1 (by decide)
            have e2 : x 2 = (.int .i64 (P)) := hV 2 (by decide)
            have e3 : x 3 = (.agg #[.int .i64 P, .slice A n c]) := hV 3 (by decide)
            have e4 : x 4 = (.int .i64 (pw n)) := hV 4 (by decide)
            obtain ⟨q0, q1⟩ := hS.1.two
            go_simp
            refine (nextList_any g P (pw n) w' hS.2.2.s' (by omega) (by omega)).mono ?_
            rintro e v1 ⟨A9, c9, xs9, rfl, hl9, hx9, ho9, hd9⟩
            exact hK.out _ _ _ rfl rfl ⟨_, _, xs9, rfl, hl9, nums_of (by omega) hx9, ho9.base hS.2.2.size⟩ hd9
          simp only [List.setIfInBounds_toArray, List.set_cons_zero, List.set_cons_succ]
          refine obs_stepR (Eq.trans (by simp only [List.getElem?_toArray, List.getElem?_cons_succ, List.getElem?_cons_zero]; exact rfl) rfl) rfl (fun w' hS hV K hK => ?_) ?_
          · have e0 : x 0 = (.pointer (some ⟨g, 0, none⟩)) := hV 0 (by decide)
            have e1 : x 1 = (.pointer (some ⟨w.heap.size, 0, none⟩)) := hV 1 (by decide)
            have e2 : x 2 = (.int .i64 (P)) := hV 2 (by decide)
            have e3 : x 3 = (.agg #[.int .i64 P, .slice A n c]) := hV 3 (by decide)
            have e4 : x 4 = (.int .i64 (pw n)) := hV 4 (by decide)
            obtain ⟨A5, c5, X5, e5, l5, n5, h5⟩ := hV 5 (by decide)
            obtain ⟨q0, q1⟩ := hS.1.two
            go_simp
            exact hK.out _ _ _ rfl rfl ⟨_, _, X5, rfl, l5, n5, h5⟩ (Below.refl _ _)
          simp only [List.setIfInBounds_toArray, List.set_cons_zero, List.set_cons_succ]
          refine fun w' hS hV => ?_
          have e0 : x 0 = (.pointer (some ⟨g, 0, none⟩)) := hV 0 (by decide)
          have e1 : x 1 = (.pointer (some ⟨w.heap.size, 0, none⟩)) := hV 1 (by decide)
          have e2 : x 2 = (.int .i64 (P)) := hV 2 (by decide)
          have e3 : x 3 = (.agg #[.int .i64 P, .slice A n c]) := hV 3 (by decide)
          have e4 : x 4 = (.int .i64 (pw n)) := hV 4 (by decide)
          obtain ⟨A5, c5, X5, e5, l5, n5, h5⟩ := hV 5 (by decide)
          obtain ⟨A6, c6, X6, e6, l6, n6, h6⟩ := hV 6 (by decide)
          simp only [e0, e1, e2, e3, e4, e5, e6]
          clear e0 e1 e2 e3 e4 e5 e6
          refine wpAny_done (by kernel_rfl) ?_ _
          obtain ⟨_, _, d9⟩ := hS
          go_wp2
          go_ret
          exact ⟨_, _, rfl, ⟨X6, h6⟩, d9⟩
end Go.Proofs.YtggigolkncckoaaGreat
namespace Go.Proofs.YtggigolkncckoaaGreat
open Go.RowKit
theorem nums_drawn {P : Int} {xs : List Int} (h : nums P xs = true) : NumsL P xs := fun x hx => by
  have := List.all_eq_true.1 h x hx
  simp [inR] at this
  omega
set_option maxHeartbeats 6400000 in
set_option maxRecDepth 8000 in
theorem l04Spoil_any (g : Nat) (P : Int) (A : Option Addr) (n c : Nat) (sq : List Int) (w : World) (hs : Src w g 143) (hn : n ≤ 1048576) (ho : Own w 0 2 A n c (ints sq)) :
    Calls Tryz.prog 176 #[.pointer (some ⟨g, 0, none⟩), .agg #[.int .i64 P, .slice A n c]] w fun e w' => ∃ (A' : Option Addr) (m c' : Nat), e = .returned (.slice A' m c') ∧ m ≤ 100 ∧ (∃ xs : List Int, Own w' w.heap.size 2 A' m c' (ints xs)) ∧ Dr g 143 w w' := by
  have hsl : sq.length = n := ho.rd.lenI
  have k0 : Blk (w.alloc (.cells #[.int .i64 P, .slice A n c] 26)) w.heap.size 26 #[.int .i64 P, .slice A n c] := Blk.new _ _ _
  have d0 := (Dr.refl hs).alloc (.cells #[.int .i64 P, .slice A n c] 26)
  have o0 := ho.below ((Below.refl _ _).alloc (Nat.le_refl _) (.cells #[.int .i64 P, .slice A n c] 26))
  have hSQ : ∀ gb, (Value.slice A n c).ownBlock = some gb → gb < w.heap.size := fun gb e => (World.ownsRow.lt ho gb e).2
  cases h1 : isSp P sq
  · have H1 := Lib.hid h1
    clear h1
    go_enter Tryz.func176, Tryz.ntmps176
    go_wp2_with fail
    refine (l03Is_b _ _ _ _ _ _ (by omega) o0.rd H1.out).mono ?_
    rintro e w2 ⟨rfl, hb⟩
    have d2 := d0.then hb
    have hM := (Mk.lit (E := 2) (Below.refl w2.heap.size w2) #[.int .i64 1, .int .i64 0] (by simp [maxLen])).2.base (B' := w.heap.size) d2.size
    have d3 := d2.alloc (.cells #[.int .i64 1, .int .i64 0] 2)
    clear hb d2 d0 o0 k0
    go_wp2
    go_ret
    exact ⟨_, 2, _, rfl, by omega, ⟨[1, 0], by simpa [ints] using hM⟩, d3⟩
  · obtain ⟨hP, hn1, hn2, hq⟩ := isSp_dim h1
    obtain ⟨hp3, hp2⟩ := isP_ge hP
    have HQ := Lib.hid (nums_drawn hq)
    have H1 := Lib.hid h1
    rw [hsl] at hn1 hn2
    have hpw : pw n ≤ 64 := pw_le hn2
    have hpn := pw_pos n
    clear h1 hP hq
    go_enter Tryz.func176, Tryz.ntmps176
    go_wp2_with fail
    refine (l03Is_b _ _ _ _ _ _ (by omega) o0.rd H1.out).mono ?_
    rintro e w2 ⟨rfl, hb⟩
    have d2 := d0.then hb
    have k2 := k0.below hb k0.lt
    have o2 := o0.below hb
    have hdr := l04Draw_any g P A n c sq w2 d2.s' (by omega) hp2 hn2 hn1 o2 HQ.out
    clear hb d0 o0 k0
    obtain ⟨q0, q1⟩ := k2.two
    go_wp2_with fail
    refine hdr.mono ?_
    rintro e w3 ⟨A2, c2, rfl, ⟨X5, h3⟩, hd3⟩
    have d3 := d2.trans hd3
    have k3 := k2.dr hd3 (by decide)
    have o3 := o2.dr hd3 (by decide)
    have h3' := h3.base (B' := w.heap.size) d2.size
    have hnx := next_any g 30 w3 d3.s' (by omega)
    clear hdr d2 k2 o2 h3 hd3 q0 q1
    go_wp2_with fail
    refine hnx.mono ?_
    rintro e w4 ⟨r, rfl, hr1, hr2, hd4⟩
    have d5 := d3.trans hd4
    have k5 := k3.dr hd4 (by decide)
    have o5 := o3.dr hd4 (by decide)
    have h5 := h3'.dr hd4 (by decide)
    clear hnx d3 k3 o3 h3' hd4
    by_cases h0 : r = 0
    · have e0 : (r == 0) = true := by simp [h0]
      have H5 := Lib.hid h5
      clear h5
      go_wp2_with (first
        | (at_builtin; (refine wpList_app1 (cutW w4 w.heap.size) w4 24 2 _ _ Tryz.underlying24 info_i rfl (by omega) rfl _ _ rfl A2 (pw n) c2 _ _ (H5.out.mk_ d5.size) (by omega) rfl rfl rfl ?_; intro A9 c9 w9 hM9 hg9 _)))
      have hO9 := hM9.own_ (cutW_size d5.size)
      have d9 := d5.grown H5.out hg9
      clear hM9 hg9
      go_wp2
      go_ret
      exact ⟨A9, pw n + 1, c9, rfl, by omega, ⟨X5 ++ [0], by simpa [ints] using hO9⟩, d9⟩
    · have e0 : (r == 0) = false := by simp [h0]
      by_cases h1 : r = 1
      · have e1 : (r == 1) = true := by simp [h1]
        rcases h5.form with ⟨_, hzz⟩ | ⟨g2, rfl, hga, hgb⟩
        · omega
        obtain ⟨q0, q1⟩ := k5.two
        go_wp2
        refine wp_obsR 11 (Dr g 143) [[], [], [], [2], [1, 2, 3], [], [], [6], [6, 7], [1, 2, 3, 4, 5, 6, 7, 8], [0, 1, 2, 3, 4], [0, 1, 2, 3, 4, 5, 6, 7, 8, 9, 10]] [[], [], [], [], [99], [], [], [], [], [8], []] (fun x => [VIs (.slice (some ⟨g2, 0, none⟩) (pw n) c2), VIs (.pointer (some ⟨g, 0, none⟩)), VIs (.agg #[.int .i64 P, .slice A n c]), VIs (.int .i64 (pw n)), VIx (pw n), VIs (.pointer (some ⟨g, 0, none⟩)), VIs (.pointer (some ⟨w.heap.size, 0, none⟩)), VIs (.int .i64 (P)), VBs 2 #[.int .i64 (-1), .int .i64 P], VNum, VPt g2 (pw n) (x 4)]) (fun w' => Blk w' w.heap.size 26 #[.int .i64 P, .slice A n c] ∧ Own w' 0 2 A n c (ints sq) ∧ Dr g 143 w w' ∧ Own w' w.heap.size 2 (some ⟨g2, 0, none⟩) (pw n) c2 (ints X5)) (by kernel_rfl) (by kernel_rfl) (fun x x' j hx => by
            rcases j with _ | _ | _ | _ | _ | _ | _ | _ | _ | _ | _ | j
            · rfl
            · rfl
            · rfl
            · rfl
            · rfl
            · rfl
            · rfl
            · rfl
            · rfl
            · rfl
            · rw [hx 4 (by decide)]
            · rfl)
          (weak_ofR [0, 1, 2, 3, 4, 5, 6, 7, 8, 9, 10] (by decide) (fun k hk x v w w' hp hr => by
            simp only [List.mem_cons, List.not_mem_nil, or_false] at hk
            rcases hk with rfl | rfl | rfl | rfl | rfl | rfl | rfl | rfl | rfl | rfl | rfl
            · exact hp
            · exact hp
            · exact hp
            · exact hp
            · exact hp
            · exact hp
            · exact hp
            · exact hp
            · obtain ⟨G9, e9, b9⟩ := hp; exact ⟨G9, e9, b9.dr hr (by decide)⟩
            · exact hp
            · exact hp)) (fun j _ _ h hb => hb.either (fun hb => ⟨h.1.below hb h.1.lt, h.2.1.below hb, h.2.2.1.then hb, h.2.2.2.below hb⟩) (fun hr => ⟨h.1.dr hr (by decide), h.2.1.dr hr (by decide), h.2.2.1.trans hr, h.2.2.2.dr hr (by decide)⟩)) (⟨k5.drew, o5.below (Below.refl _ _).drew, d5.then (Below.refl _ _).drew, h5.below (Below.refl _ _).drew⟩) (fun x => ?_)
        refine obs_stepR (Eq.trans (by simp only [List.getElem?_toArray, List.getElem?_cons_zero]; exact rfl) rfl) rfl (fun w' hS hV K hK => ?_) ?_
        · obtain ⟨q0, q1⟩ := hS.1.two
          go_simp
          exact hK.out _ _ _ rfl rfl rfl (Below.refl _ _)
        simp only [List.setIfInBounds_toArray, List.set_cons_zero, List.set_cons_succ]
        refine obs_stepR (Eq.trans (by simp only [List.getElem?_toArray, List.getElem?_cons_succ, List.getElem?_cons_zero]; exact rfl) rfl) rfl (fun w' hS hV K hK => ?_) ?_
        · obtain ⟨q0, q1⟩ := hS.1.two
          go_simp
          exact hK.out _ _ _ rfl rfl rfl (Below.refl _ _)
        simp only [List.setIfInBounds_toArray, List.set_cons_zero, List.set_cons_succ]
        refine obs_stepR (Eq.trans (by simp only [List.getElem?_toArray, List.getElem?_cons_succ, List.getElem?_cons_zero]; exact rfl) rfl) rfl (fun w' hS hV K hK => ?_) ?_
        · obtain ⟨q0, q1⟩ := hS.1.two
          go_simp
          exact hK.out _ _ _ rfl rfl rfl (Below.refl _ _)
        simp only [List.setIfInBounds_toArray, List.set_cons_zero, List.set_cons_succ]
        refine obs_stepR (Eq.trans (by simp only [List.getElem?_toArray, List.getElem?_cons_succ, List.getElem?_cons_zero]; exact rfl) rfl) rfl (fun w' hS hV K hK => ?_) ?_
        · have e2 : x 2 = (.agg #[.int .i64 P, .slice A n c]) := hV 2 (by decide)
          obtain ⟨q0, q1⟩ := hS.1.two
          go_simp
          refine (l04Size_any P A n c w' (by omega)).mono ?_
          rintro e v1 ⟨rfl, hb⟩
          exact hK.out _ _ _ rfl rfl rfl hb
        simp only [List.setIfInBounds_toArray, List.set_cons_zero, List.set_cons_succ]
        refine obs_stepR (Eq.trans (by simp only [List.getElem?_toArray, List.getElem?_cons_succ, List.getElem?_cons_zero]; exact rfl) rfl) rfl (fun w' hS hV K hK => ?_) ?_
        · have e1 : x 1 = (.pointer (some ⟨g, 0, none⟩)) := hV 1 (by decide)
          have e2 : x 2 = (.agg #[.int .i64 P, .slice A n c]) := hV 2 (by decide)
          have e3 : x 3 = (.int .i64 (pw n)) := hV 3 (by decide)
          obtain ⟨q0, q1⟩ := hS.1.two
          go_simp
          refine (next_any g ((pw n : Nat) : Int) w' hS.2.2.1.s' (by omega)).mono ?_
          rintro e v1 ⟨rr, rfl, t1, t2, hd9⟩
          have t3 := t2 (by omega)
          obtain ⟨rn2, rfl⟩ : ∃ k : Nat, rr = k := ⟨rr.toNat, by omega⟩
          exact hK.out _ _ _ rfl rfl ⟨rn2, rfl, by omega⟩ hd9
        simp only [List.setIfInBounds_toArray, List.set_cons_zero, List.set_cons_succ]
        refine obs_stepR (Eq.trans (by simp only [List.getElem?_toArray, List.getElem?_cons_succ, List.getElem?_cons_zero]; exact rfl) rfl) rfl (fun w' hS hV K hK => ?_) ?_
        · obtain ⟨q0, q1⟩ := hS.1.two
          go_simp
          exact hK.out _ _ _ rfl rfl rfl (Below.refl _ _)
        simp only [List.setIfInBounds_toArray, List.set_cons_zero, List.set_cons_succ]
        refine obs_stepR (Eq.trans (by simp only [List.getElem?_toArray, List.getElem?_cons_succ, List.getElem?_cons_zero]; exact rfl) rfl) rfl (fun w' hS hV K hK => ?_) ?_
        · obtain ⟨q0, q1⟩ := hS.1.two
          go_simp
          exact hK.out _ _ _ rfl rfl rfl (Below.refl _ _)
        simp only [List.setIfInBounds_toArray, List.set_cons_zero, List.set_cons_succ]
        refine obs_stepR (Eq.trans (by simp only [List.getElem?_toArray, List.getElem?_cons_succ, List.getElem?_cons_zero]; exact rfl) rfl) rfl (fun w' hS hV K hK => ?_) ?_
        · have e6 : x 6 = (.pointer (some ⟨w.heap.size, 0, none⟩)) := hV 6 (by decide)
          obtain ⟨q0, q1⟩ := hS.1.two
          go_simp
          exact hK.out _ _ _ rfl rfl rfl (Below.refl _ _)
        simp only [List.setIfInBounds_toArray, List.set_cons_zero, List.set_cons_succ]
        refine obs_stepR (Eq.trans (by simp only [List.getElem?_toArray, List.getElem?_cons_succ, List.getElem?_cons_zero]; exact rfl) rfl) rfl (fun w' hS hV K hK => ?_) ?_
        · have e6 : x 6 = (.pointer (some ⟨w.heap.size, 0, none⟩)) := hV 6 (by decide)
          have e7 : x 7 = (.int .i64 (P)) := hV 7 (by decide)
          obtain ⟨q0, q1⟩ := hS.1.two
          go_simp
          exact hK.out _ _ _ rfl rfl ⟨_, rfl, Blk.new _ _ _⟩ ((Below.refl _ _).alloc (Nat.le_refl _) _)
        simp only [List.setIfInBounds_toArray, List.set_cons_zero, List.set_cons_succ]
        refine obs_stepR (Eq.trans (by simp only [List.getElem?_toArray, List.getElem?_cons_succ, List.getElem?_cons_zero]; exact rfl) rfl) rfl (fun w' hS hV K hK => ?_) ?_
        · have e1 : x 1 = (.pointer (some ⟨g, 0, none⟩)) := hV 1 (by decide)
          have e2 : x 2 = (.agg #[.int .i64 P, .slice A n c]) := hV 2 (by decide)
          have e3 : x 3 = (.int .i64 (pw n)) := hV 3 (by decide)
          obtain ⟨rx, e4, lx⟩ := hV 4 (by decide)
          have e5 : x 5 = (.pointer (some ⟨g, 0, none⟩)) := hV 5 (by decide)
          have e6 : x 6 = (.pointer (some ⟨w.heap.size, 0, none⟩)) := hV 6 (by decide)
          have e7 : x 7 = (.int .i64 (P)) := hV 7 (by decide)
          obtain ⟨G5, e5, b5⟩ := hV 8 (by decide)
          obtain ⟨q0, q1⟩ := hS.1.two
          go_simp
          refine (pick_any g G5 [-1, P] _ hS.2.2.1.s' (by rw [ints2]; exact b5) (by simp) (by simp)).mono ?_
          rintro e v1 ⟨r1, _, rfl, hr⟩
          exact hK.out _ _ _ rfl rfl ⟨_, rfl⟩ hr
        simp only [List.setIfInBounds_toArray, List.set_cons_zero, List.set_cons_succ]
        refine obs_stepR (Eq.trans (by simp only [List.getElem?_toArray, List.getElem?_cons_succ, List.getElem?_cons_zero]; exact rfl) rfl) rfl (fun w' hS hV K hK => ?_) ?_
        · have e0 : x 0 = (.slice (some ⟨g2, 0, none⟩) (pw n) c2) := hV 0 (by decide)
          have e1 : x 1 = (.pointer (some ⟨g, 0, none⟩)) := hV 1 (by decide)
          have e2 : x 2 = (.agg #[.int .i64 P, .slice A n c]) := hV 2 (by decide)
          have e3 : x 3 = (.int .i64 (pw n)) := hV 3 (by decide)
          obtain ⟨rx, e4, lx⟩ := hV 4 (by decide)
          obtain ⟨q0, q1⟩ := hS.1.two
          have b1 : (0 : Int) ≤ (rx : Int) := by omega
          have b2 : (rx : Int) < ((pw n : Nat) : Int) := by omega
          go_simp
          exact hK.out _ _ _ rfl rfl ⟨rx, e4, lx, rfl⟩ (Below.refl _ _)
        simp only [List.setIfInBounds_toArray, List.set_cons_zero, List.set_cons_succ]
        refine fun w' hS hV => ?_
        have e0 : x 0 = (.slice (some ⟨g2, 0, none⟩) (pw n) c2) := hV 0 (by decide)
        have e1 : x 1 = (.pointer (some ⟨g, 0, none⟩)) := hV 1 (by decide)
        have e2 : x 2 = (.agg #[.int .i64 P, .slice A n c]) := hV 2 (by decide)
        have e3 : x 3 = (.int .i64 (pw n)) := hV 3 (by decide)
        obtain ⟨rx, e4, lx⟩ := hV 4 (by decide)
        have e5 : x 5 = (.pointer (some ⟨g, 0, none⟩)) := hV 5 (by decide)
        have e6 : x 6 = (.pointer (some ⟨w.heap.size, 0, none⟩)) := hV 6 (by decide)
        have e7 : x 7 = (.int .i64 (P)) := hV 7 (by decide)
        obtain ⟨rv, e9⟩ := hV 9 (by decide)
        obtain ⟨ry, f10, ly, e10⟩ := hV 10 (by decide)
        simp only [e0, e1, e2, e3, e4, e5, e6, e7, e9, e10]
        clear e0 e1 e2 e3 e4 e5 e6 e7 e9 e10
        obtain ⟨k6, o6, d6, h6⟩ := hS
        obtain ⟨w6, rfl⟩ : ∃ W, W = w' := ⟨_, rfl⟩
        obtain ⟨u1, hc1⟩ := h6.cellI ly
        have hf1 := h6.frozen_ ry
        refine any_one (j := 11) (by kernel_rfl) (Eq.trans (by simp only [List.getElem?_toArray, List.getElem?_cons_succ, List.getElem?_cons_zero]; exact rfl) rfl) (fun K hK => ?_)
        go_simp
        refine hK.out _ _ (wpAny_done (by kernel_rfl) ?_ _)
        obtain ⟨h7, hg7⟩ := h6.set_ ry (.int .i64 rv)
        rw [ints_set] at h7
        have d7 := d6.grown h6 hg7
        clear k6 o6 d6 h6 hg7 hc1 hf1 k5 o5 d5 h5 q0 q1
        go_wp2
        go_ret
        exact ⟨_, _, _, rfl, by omega, ⟨_, h7⟩, d7⟩
      · have e1 : (r == 1) = false := by simp [h1]
        go_wp2
        go_ret
        exact ⟨A2, pw n, c2, rfl, by omega, ⟨X5, h5⟩, d5⟩
end Go.Proofs.YtggigolkncckoaaGreat
namespace Go.Proofs.YtggigolkncckoaaGreat
open Go.RowKit
/-- The value is a list of at most 100 numbers that was made since the heap had B blocks. -/
def VLx (B : Nat) : VP := ⟨fun v w => ∃ (A : Option Addr) (m c : Nat) (xs : List Int), v = .slice A m c ∧ m ≤ 100 ∧ Own w B 2 A m c (ints xs), fun _ _ _ ⟨A, m, c, xs, e, hm, ho⟩ hb => ⟨A, m, c, xs, e, hm, ho.below hb⟩⟩
theorem VLx.dr {B g : Nat} {T : TypeId} {v : Value} {w w' : World} (h : (VLx B).p v w) (d : Dr g T w w') (hT : 2 ≠ T) : (VLx B).p v w' := by
  obtain ⟨A, m, c, xs, e, hm, ho⟩ := h
  exact ⟨A, m, c, xs, e, hm, ho.dr d hT⟩
/-- A space and two lists, drawn. -/
def Drew2 (w : World) (e : Ending) (w' : World) : Prop := ∃ (P : Int) (A : Option Addr) (n c : Nat) (sq : List Int) (A1 : Option Addr) (m1 c1 : Nat) (xs : List Int) (A2 : Option Addr) (m2 c2 : Nat) (ys : List Int), e = .returned (.tuple #[.agg #[.int .i64 P, .slice A n c], .slice A1 m1 c1, .slice A2 m2 c2]) ∧ P ≤ 17 ∧ n ≤ 7 ∧ m1 ≤ 100 ∧ m2 ≤ 100 ∧ Own w' w.heap.size 2 A n c (ints sq) ∧ Own w' w.heap.size 2 A1 m1 c1 (ints xs) ∧ Own w' w.heap.size 2 A2 m2 c2 (ints ys) ∧ Below w.heap.size w w'
end Go.Proofs.YtggigolkncckoaaGreat
namespace Go.Proofs.YtggigolkncckoaaGreat
open Go.RowKit
set_option maxHeartbeats 3200000 in
set_option maxRecDepth 8000 in
theorem l02Vector_any (g : Nat) (p : Int) (n : Nat) (w : World) (hs : Src w g 143) (hp : p ≤ 1048576) (hn : n ≤ 1048576) :
    Calls Tryz.prog 289 #[.pointer (some ⟨g, 0, none⟩), .int .i64 p, .int .i64 n] w fun e w' => ∃ (A : Option Addr) (m c : Nat) (xs : List Int), e = .returned (.slice A m c) ∧ m ≤ n + 1 ∧ Own w' w.heap.size 2 A m c (ints xs) ∧ Dr g 143 w w' := by
  by_cases hp1 : p < 1
  · have d1 : decide (p < 1) = true := by simpa using hp1
    go_enter Tryz.func289, Tryz.ntmps289
    have hli := nextList_any g (3) n w hs (by omega) hn
    go_wp2_with fail
    refine hli.mono ?_
    rintro e w1 ⟨A, c, xs, rfl, hl, hx, hO, hd⟩
    have hnx := next_any g 24 w1 hd.s' (by omega)
    clear hli hx
    go_wp2_with fail
    refine hnx.mono ?_
    rintro e w2 ⟨r, rfl, _, _, hd2⟩
    replace hd := hd.trans hd2
    replace hO := hO.dr hd2 (by decide)
    clear hnx hd2
    by_cases h0 : r = 0
    · have e0 : (r == 0) = true := by simp [h0]
      go_wp2_with (first
        | (at_builtin; (refine wpList_app1 (cutW w2 w.heap.size) w2 24 2 _ _ Tryz.underlying24 info_i rfl (by omega) rfl _ _ rfl A n c _ _ (hO.mk_ hd.size) (by omega) rfl rfl rfl ?_; intro A9 c9 w9 hM9 hg9 _)))
      have hO9 := hM9.own_ (cutW_size hd.size)
      have d9 := hd.grown hO hg9
      clear hM9 hg9
      go_wp2
      go_ret
      exact ⟨A9, n + 1, c9, xs ++ [0], rfl, by omega, by simpa [ints] using hO9, d9⟩
    · have e0 : (r == 0) = false := by simp [h0]
      by_cases h1 : r = 1
      · have e1 : (r == 1) = true := by simp [h1]
        by_cases hn0 : 0 < n
        · have t1 : decide ((0 : Int) < (n : Int)) = true := by simp; omega
          rcases hO.form with ⟨_, hzz⟩ | ⟨g2, rfl, hga, hgb⟩
          · omega
          have hd3 := hd.alloc (.cells #[.int .i64 (-1), .int .i64 (3)] 2)
          have hO3 := hO.below ((Below.refl _ _).alloc (Nat.le_refl _) (.cells #[.int .i64 (-1), .int .i64 (3)] 2))
          have hpk := pick_any g w2.heap.size [-1, 3] _ hd3.s' (by rw [ints2]; exact Blk.new w2 2 _) (by simp) (by simp)
          clear hO hd
          go_wp2_with fail
          refine hpk.mono ?_
          rintro e w3 ⟨r3, _, rfl, hd4⟩
          have hd5 := hd3.trans hd4
          have hO5 := hO3.dr hd4 (by decide)
          obtain ⟨u1, hc1⟩ := hO5.cellI hn0
          have hf1 := hO5.frozen_ 0
          obtain ⟨h7, hg7⟩ := hO5.set_ 0 (.int .i64 r3)
          rw [ints_set] at h7
          have d7 := hd5.grown hO5 hg7
          have i1 : (0 : Int) < (n : Int) := by omega
          clear hpk hd3 hO3 hd4 hd5 hO5 hg7
          go_wp2
          go_ret
          exact ⟨_, n, c, _, rfl, by omega, h7, d7⟩
        · have t1 : decide ((0 : Int) < (n : Int)) = false := by simp; omega
          go_wp2
          go_ret
          exact ⟨A, n, c, xs, rfl, by omega, hO, hd⟩
      · have e1 : (r == 1) = false := by simp [h1]
        go_wp2
        go_ret
        exact ⟨A, n, c, xs, rfl, by omega, hO, hd⟩
  · have d1 : decide (p < 1) = false := by simpa using hp1
    go_enter Tryz.func289, Tryz.ntmps289
    have hli := nextList_any g (p) n w hs (by omega) hn
    go_wp2_with fail
    refine hli.mono ?_
    rintro e w1 ⟨A, c, xs, rfl, hl, hx, hO, hd⟩
    have hnx := next_any g 24 w1 hd.s' (by omega)
    clear hli hx
    go_wp2_with fail
    refine hnx.mono ?_
    rintro e w2 ⟨r, rfl, _, _, hd2⟩
    replace hd := hd.trans hd2
    replace hO := hO.dr hd2 (by decide)
    clear hnx hd2
    by_cases h0 : r = 0
    · have e0 : (r == 0) = true := by simp [h0]
      go_wp2_with (first
        | (at_builtin; (refine wpList_app1 (cutW w2 w.heap.size) w2 24 2 _ _ Tryz.underlying24 info_i rfl (by omega) rfl _ _ rfl A n c _ _ (hO.mk_ hd.size) (by omega) rfl rfl rfl ?_; intro A9 c9 w9 hM9 hg9 _)))
      have hO9 := hM9.own_ (cutW_size hd.size)
      have d9 := hd.grown hO hg9
      clear hM9 hg9
      go_wp2
      go_ret
      exact ⟨A9, n + 1, c9, xs ++ [0], rfl, by omega, by simpa [ints] using hO9, d9⟩
    · have e0 : (r == 0) = false := by simp [h0]
      by_cases h1 : r = 1
      · have e1 : (r == 1) = true := by simp [h1]
        by_cases hn0 : 0 < n
        · have t1 : decide ((0 : Int) < (n : Int)) = true := by simp; omega
          rcases hO.form with ⟨_, hzz⟩ | ⟨g2, rfl, hga, hgb⟩
          · omega
          have hd3 := hd.alloc (.cells #[.int .i64 (-1), .int .i64 (p)] 2)
          have hO3 := hO.below ((Below.refl _ _).alloc (Nat.le_refl _) (.cells #[.int .i64 (-1), .int .i64 (p)] 2))
          have hpk := pick_any g w2.heap.size [-1, p] _ hd3.s' (by rw [ints2]; exact Blk.new w2 2 _) (by simp) (by simp)
          clear hO hd
          go_wp2_with fail
          refine hpk.mono ?_
          rintro e w3 ⟨r3, _, rfl, hd4⟩
          have hd5 := hd3.trans hd4
          have hO5 := hO3.dr hd4 (by decide)
          obtain ⟨u1, hc1⟩ := hO5.cellI hn0
          have hf1 := hO5.frozen_ 0
          obtain ⟨h7, hg7⟩ := hO5.set_ 0 (.int .i64 r3)
          rw [ints_set] at h7
          have d7 := hd5.grown hO5 hg7
          have i1 : (0 : Int) < (n : Int) := by omega
          clear hpk hd3 hO3 hd4 hd5 hO5 hg7
          go_wp2
          go_ret
          exact ⟨_, n, c, _, rfl, by omega, h7, d7⟩
        · have t1 : decide ((0 : Int) < (n : Int)) = false := by simp; omega
          go_wp2
          go_ret
          exact ⟨A, n, c, xs, rfl, by omega, hO, hd⟩
      · have e1 : (r == 1) = false := by simp [h1]
        go_wp2
        go_ret
        exact ⟨A, n, c, xs, rfl, by omega, hO, hd⟩
set_option maxHeartbeats 3200000 in
set_option maxRecDepth 8000 in
theorem l03DrawVector_any (g : Nat) (P : Int) (A : Option Addr) (n c : Nat) (w : World) (hs : Src w g 143) (hp : P ≤ 1048576) (hn : n ≤ 1048576) :
    Calls Tryz.prog 143 #[.pointer (some ⟨g, 0, none⟩), .agg #[.int .i64 P, .slice A n c]] w fun e w' => ∃ (A : Option Addr) (m c : Nat) (xs : List Int), e = .returned (.slice A m c) ∧ m ≤ n + 1 ∧ Own w' w.heap.size 2 A m c (ints xs) ∧ Dr g 143 w w' := by
  have k0 : Blk (w.alloc (.cells #[.int .i64 P, .slice A n c] 26)) w.heap.size 26 #[.int .i64 P, .slice A n c] := Blk.new _ _ _
  have d0 := (Dr.refl hs).alloc (.cells #[.int .i64 P, .slice A n c] 26)
  have hv := l02Vector_any g P n _ d0.s' hp hn
  obtain ⟨q0, q1⟩ := k0.two
  go_enter Tryz.func143, Tryz.ntmps143
  go_wp2_with fail
  refine hv.mono ?_
  rintro e w2 ⟨A2, m, c2, xs, rfl, hm, hO, hd⟩
  go_wp2
  go_ret
  exact ⟨A2, m, c2, xs, rfl, hm, hO.base (by simp), d0.trans hd⟩
end Go.Proofs.YtggigolkncckoaaGreat
namespace Go.Proofs.YtggigolkncckoaaGreat
open Go.RowKit
/-- A list of lists of the call's own, in blocks from B on. -/
def OwnM (w : World) (B : Nat) (A : Option Addr) (n c : Nat) (xss : List (List Int)) : Prop := ∃ rows, Own w B 24 A n c rows ∧ Nest w B rows xss
section
variable {w w' w0 W : World} {B B' g : Nat} {T : TypeId} {A : Option Addr} {n c : Nat} {xss : List (List Int)}
theorem OwnM.dr (h : OwnM w B A n c xss) (d : Dr g T w w') (h1 : 24 ≠ T) (h2 : 2 ≠ T) : OwnM w' B A n c xss := by
  obtain ⟨rows, ho, hn⟩ := h
  exact ⟨rows, ho.dr d h1, hn.len, fun k hk => by obtain ⟨A1, c1, e, h3⟩ := hn.row k hk; exact ⟨A1, c1, e, h3.dr d h2⟩, hn.apart⟩
theorem OwnM.below (h : OwnM w B A n c xss) (hb : Below w.heap.size w w') : OwnM w' B A n c xss := by
  obtain ⟨rows, ho, hn⟩ := h; exact ⟨rows, ho.below hb, hn.below hb⟩
theorem OwnM.base (h : OwnM w B A n c xss) (hB : B' ≤ B) : OwnM w B' A n c xss := by
  obtain ⟨rows, ho, hn⟩ := h; exact ⟨rows, ho.base hB, hn.base hB⟩
theorem OwnM.rd (h : OwnM w B A n c xss) : RdII w A n xss := by
  obtain ⟨rows, ho, hn⟩ := h
  exact ⟨rows, ho.rd, hn.len, fun k hk => by obtain ⟨A', c', e, ho⟩ := hn.row k hk; exact ⟨A', c', e, ho.rd, ho.cap⟩⟩
theorem OwnM.cap (h : OwnM w B A n c xss) : n ≤ c := by obtain ⟨rows, ho, _⟩ := h; exact ho.cap
theorem OwnM.nil (w : World) (B : Nat) : OwnM w B none 0 0 [] := ⟨[], World.ownsRow_nil _ _ _ _, Nest.nil _ _⟩
theorem OwnM.empty (w : World) (hB : B ≤ w.heap.size) : OwnM (w.alloc (.cells #[] 24)) B (some ⟨w.heap.size, 0, none⟩) 0 0 [] := by
  refine ⟨[], ?_, Nest.nil _ _⟩
  have := (Mk.lit (E := 24) (Below.refl w.heap.size w) #[] (by simp)).2
  exact Own.base (by simpa using this) hB
theorem Nest.push {rows : List Value} {A1 : Option Addr} {m c1 K : Nat} {xs : List Int} (h : Nest w B rows xss) (hk : ∀ i g : Nat, (rows[i]?).bind Value.ownBlock = some g → g < K) (hr : Own w K 2 A1 m c1 (ints xs)) (hB : B ≤ K) :
    Nest w B (rows ++ [.slice A1 m c1]) (xss ++ [xs]) := by
  have hn : xs.length = m := by have := hr.len; rwa [ints_length] at this
  subst hn
  refine ⟨by simp [h.len], fun k hk => ?_, fun i j g hij hi => ?_⟩
  · by_cases hlt : k < xss.length
    · obtain ⟨A', c', e, ho⟩ := h.row k hlt
      rw [List.getElem_append_left hlt]
      exact ⟨A', c', by rw [List.getElem?_append_left (by rw [h.len]; exact hlt)]; exact e, ho⟩
    · have hk' : k = xss.length := by simp at hk; omega
      subst hk'
      simp only [List.getElem_append_right (Nat.le_refl _), Nat.sub_self, List.getElem_cons_zero]
      exact ⟨A1, c1, by rw [List.getElem?_append_right (by rw [h.len]; exact Nat.le_refl _), h.len, Nat.sub_self]; rfl, hr.base hB⟩
  · rcases Nat.lt_or_ge j rows.length with hj | hj
    · rw [List.getElem?_append_left (by omega)] at hi
      rw [List.getElem?_append_left hj]
      exact h.apart i j g hij hi
    · rcases Nat.lt_or_ge i rows.length with hil | hil
      · rw [List.getElem?_append_left hil] at hi
        have hg := hk i g hi
        rw [List.getElem?_append_right hj]
        by_cases hj0 : j - rows.length = 0
        · rw [hj0]
          intro he
          have := (World.ownsRow.lt hr g (by simpa using he)).1
          omega
        · rw [List.getElem?_eq_none (by simp; omega)]; simp
      · rw [List.getElem?_append_right hj, List.getElem?_eq_none (by simp; omega)]; simp
end
/-- Other rows of numbers and other blocks are as they were. -/
def KeptR (w w' : World) : Prop := (∀ (B : Nat) (A : Option Addr) (n c : Nat) (us : List Value), Own w B 2 A n c us → Own w' B 2 A n c us) ∧ ∀ (g : Nat) (t : TypeId) (cs : Array Value), Blk w g t cs → 24 ≠ t → Blk w' g t cs
/-- A drawn row is appended. -/
theorem wpList_pushRow {ops : Array Oper} {rest : List Oper} {o : Oper} {a : Act} {Q : Exit → Act → World → Prop} (W w0 w : World) (g : Nat) (T : TypeId)
    (hgd : o.guard = none) (s x : Operand) (ho : o.op = .call { callee := .builtin .append, args := #[s, x], argTypes := #[44, 44] })
    (A : Option Addr) (n c : Nat) (xss : List (List Int)) (A1 : Option Addr) (m c1 : Nat) (xs : List Int) (h : OwnM w0 W.heap.size A n c xss) (dW : Dr g T W w0) (d : Dr g T w0 w) (h1 : 24 ≠ T) (h2 : 2 ≠ T)
    (hr : Own w w0.heap.size 2 A1 m c1 (ints xs)) (hn : n ≤ 1099511627776)
    (hs : a.eval s = .slice A n c) (hx : a.eval x = .slice (some ⟨w.heap.size, 0, none⟩) 1 1)
    (k : ∀ A' c' w', OwnM w' W.heap.size A' (n + 1) c' (xss ++ [xs]) → Dr g T W w' → KeptR w w' → wpList Tryz.prog ops Q rest (a.put o.dst (.slice A' (n + 1) c')) w') :
    wpList Tryz.prog ops Q (o :: rest) a (w.alloc (.cells #[.slice A1 m c1] 24)) := by
  obtain ⟨rows, ho0, hn0⟩ := h
  have hblk := hn0.block
  have ho1 := ho0.dr d h1
  have hn1 : Nest w W.heap.size rows xss := ⟨hn0.len, fun k hk => by obtain ⟨A1, c1, e, h3⟩ := hn0.row k hk; exact ⟨A1, c1, e, h3.dr d h2⟩, hn0.apart⟩
  have hn2 := hn1.push (fun i g hg => (hblk i g hg).2) hr dW.size
  have dd := dW.trans d
  refine wpList_app1 (cutW w W.heap.size) w 44 24 (.slice none 0 0) 24 Tryz.underlying44 info_s rfl (by omega) hgd s x ho A n c rows (.slice A1 m c1) (ho1.mk_ dd.size) hn rfl hs hx ?_
  intro A' c' w' hM' hg _
  exact k A' c' w' ⟨_, hM'.own_ (cutW_size dd.size), hn2.grown ho1 (by decide) hg⟩ (dd.grown ho1 hg) ⟨fun B A2 n2 c2 us h2 => h2.grown hg (h2.ne ho1 (by decide)), fun g2 t cs h2 hne => h2.grown hg (ho1.ne_blk h2 hne)⟩
end Go.Proofs.YtggigolkncckoaaGreat
namespace Go.Proofs.YtggigolkncckoaaGreat
open Go.RowKit
theorem isVe_spec4 {P : Int} {sq ys : List Int} (h : isVe P sq ys = true) : ys.length = sq.length ∧ NumsL P ys := by
  unfold isVe at h
  simp only [Bool.and_eq_true, beq_iff_eq] at h
  exact ⟨by have := h.1; omega, nums_numsL h.2⟩
/-- What drawing, or the store of a space into the result's cell, does. -/
def RelB (g res : Nat) (w w' : World) : Prop := Dr g 143 w w' ∨ ∃ (p : Int) (A : Option Addr) (n c : Nat) (p' : Int) (A' : Option Addr) (n' c' : Nat), Blk w res 26 #[.int .i64 p, .slice A n c] ∧ w' = (w.setCell ⟨res, 0, none⟩ (.int .i64 p')).setCell ⟨res, 1, none⟩ (.slice A' n' c')
section
variable {w w' : World} {g res : Nat}
theorem Own.relB {B : Nat} {A : Option Addr} {n c : Nat} {us : List Value} (h : Own w B 2 A n c us) (r : RelB g res w w') : Own w' B 2 A n c us := by
  rcases r with d | ⟨p, A1, n1, c1, p', A', n', c', k, rfl⟩
  · exact h.dr d (by decide)
  · exact (h.far k (by decide) 0 _).far (k.set_ 0 (.int .i64 p')) (by decide) 1 _
theorem OwnM.relB {B : Nat} {A : Option Addr} {n c : Nat} {xss : List (List Int)} (h : OwnM w B A n c xss) (r : RelB g res w w') : OwnM w' B A n c xss := by
  obtain ⟨rows, ho, hn⟩ := h
  refine ⟨rows, ?_, hn.len, fun k hk => by obtain ⟨A1, c1, e, h3⟩ := hn.row k hk; exact ⟨A1, c1, e, h3.relB r⟩, hn.apart⟩
  rcases r with d | ⟨p, A1, n1, c1, p', A', n', c', k, rfl⟩
  · exact ho.dr d (by decide)
  · exact (ho.far k (by decide) 0 _).far (k.set_ 0 (.int .i64 p')) (by decide) 1 _
theorem Blk.relB {b : Nat} {cs : Array Value} (h : Blk w b 26 cs) (hne : b ≠ res) (r : RelB g res w w') : Blk w' b 26 cs := by
  rcases r with d | ⟨p, A1, n1, c1, p', A', n', c', k, rfl⟩
  · exact h.dr d (by decide)
  · exact (h.far hne _).far hne _
theorem Src.farSet {p : Int} {A : Option Addr} {n c : Nat} {i : Nat} {u : Value} (h : Src w g 143) (k : Blk w res 26 #[.int .i64 p, .slice A n c]) : Src (w.setCell ⟨res, i, none⟩ u) g 143 := by
  obtain ⟨B, nb, cb, bs, pl, h0, kg, r, h1, h2, h3, h4⟩ := h
  have hne : g ≠ res := fun e => by
    subst e
    unfold Blk at kg k
    rw [kg] at k
    injection k with k
    injection k with _ k
    exact absurd k (by decide)
  refine ⟨B, nb, cb, bs, pl, h0, kg.far hne u, ⟨r.1, fun hn0 => ?_⟩, h1, h2, h3, h4⟩
  obtain ⟨gb, ob, e, hc⟩ := r.2 hn0
  refine ⟨gb, ob, e, fun j v hv => ?_⟩
  have hcell := hc j v hv
  have hgb : gb ≠ res := fun e => by
    subst e
    rw [k.cell] at hcell
    obtain ⟨b, _, rfl⟩ := List.mem_map.1 (List.mem_of_getElem? hv)
    match ob + j, hcell with
    | 0, hcell => simp at hcell
    | 1, hcell => simp at hcell
    | _ + 2, hcell => simp at hcell
  rw [World.cell?_setCell_far _ _ _ _ (fun e => hgb e.symm)]
  exact hcell
theorem Src.relB (h : Src w g 143) (r : RelB g res w w') : Src w' g 143 := by
  rcases r with d | ⟨p, A1, n1, c1, p', A', n', c', k, rfl⟩
  · exact d.s'
  · exact (h.farSet k).farSet (p := p') (A := A1) (n := n1) (c := c1) (k.set_ 0 (.int .i64 p'))
/-- The result's cell holds a space. -/
def SB (res : Nat) (w : World) : Prop := ∃ (p : Int) (A : Option Addr) (n c : Nat), Blk w res 26 #[.int .i64 p, .slice A n c]
theorem SB.below (h : SB res w) (hb : Below w.heap.size w w') : SB res w' := by obtain ⟨p, A, n, c, k⟩ := h; exact ⟨p, A, n, c, k.below hb k.lt⟩
theorem Blk.stored {p' : Int} {A' : Option Addr} {n' c' : Nat} {a b : Value} (k : Blk w res 26 #[a, b]) : Blk ((w.setCell ⟨res, 0, none⟩ (.int .i64 p')).setCell ⟨res, 1, none⟩ (.slice A' n' c')) res 26 #[.int .i64 p', .slice A' n' c'] := by
  simpa using (k.set_ 0 (.int .i64 p')).set_ 1 (.slice A' n' c')
theorem SB.relB (h : SB res w) (r : RelB g res w w') : SB res w' := by
  rcases r with d | ⟨p, A1, n1, c1, p', A', n', c', k, rfl⟩
  · obtain ⟨p, A, n, c, k⟩ := h; exact ⟨p, A, n, c, k.dr d (by decide)⟩
  · exact ⟨p', A', n', c', k.stored⟩
end
end Go.Proofs.YtggigolkncckoaaGreat
namespace Go.Proofs.YtggigolkncckoaaGreat
open Go.RowKit
/-- The length of a slice. -/
def lenV : Value → Nat
  | .slice _ n _ => n
  | _ => 0
set_option maxHeartbeats 6400000 in
set_option maxRecDepth 8000 in
theorem l03DrawList_any (g : Nat) (P : Int) (A : Option Addr) (n c : Nat) (most : Nat) (w : World) (hs : Src w g 143) (hp : P ≤ 1048576) (hn : n ≤ 1000) (hm : most ≤ 16) :
    Calls Tryz.prog 166 #[.pointer (some ⟨g, 0, none⟩), .agg #[.int .i64 P, .slice A n c], .int .i64 most] w fun e w' => ∃ (A' : Option Addr) (m c' : Nat) (L : List (List Int)), e = .returned (.slice A' m c') ∧ m ≤ 17 ∧ (∀ v ∈ L, v.length ≤ n + 1) ∧ OwnM w' w.heap.size A' m c' L ∧ Dr g 143 w w' := by
  have k0 : Blk (w.alloc (.cells #[.int .i64 P, .slice A n c] 26)) w.heap.size 26 #[.int .i64 P, .slice A n c] := Blk.new _ _ _
  have d0 := (Dr.refl hs).alloc (.cells #[.int .i64 P, .slice A n c] 26)
  have k1 := k0.alloc (.cells #[] 24)
  have d1 := d0.alloc (.cells #[] 24)
  have l1 := OwnM.empty (w.alloc (.cells #[.int .i64 P, .slice A n c] 26)) (B := w.heap.size) (by simp)
  have e9 : (w.alloc (.cells #[.int .i64 P, .slice A n c] 26)).heap.size = w.heap.size + 1 := by simp
  rw [e9] at l1
  have hnx := next_any g ((most : Int) + 1) _ d1.s' (by omega)
  have hmk := make_i (P := Tryz.prog) 24 2 Tryz.underlying24 info_i n (by omega)
  clear k0 d0
  go_enter Tryz.func166, Tryz.ntmps166
  go_wp2_with fail
  refine hnx.mono ?_
  rintro e w2 ⟨r, rfl, hr1, hr2, hd2⟩
  obtain ⟨rn, rfl⟩ : ∃ rn : Nat, r = rn := ⟨r.toNat, by omega⟩
  have hr3 := hr2 (by omega)
  have D2 := d1.trans hd2
  have K2 := k1.dr hd2 (by decide)
  have L2 := l1.dr hd2 (by decide) (by decide)
  clear hnx d1 k1 l1 hd2
  go_wp2
  go_loopw [7, 8] (fun l i wr => ∃ (kk m : Nat) (A0 : Option Addr) (c0 : Nat) (L : List (List Int)), m + kk ≤ most ∧ i = .int .i64 kk ∧ l = .slice A0 m c0 ∧ (∀ v ∈ L, v.length ≤ n + 1) ∧ OwnM wr w.heap.size A0 m c0 L ∧ Dr g 143 w wr ∧ Blk wr w.heap.size 26 #[.int .i64 P, .slice A n c]) (fun _ i _ => (intOf i).toNat)
  case atStart => exact ⟨rn, 0, _, _, [], by omega, rfl, rfl, by simp, L2, D2, K2⟩
  case round =>
    obtain ⟨kk, m, A0, c0, L, hmk2, rfl, rfl, hTL, hL, hD, hK⟩ := hrel
    clear L2 D2 K2
    obtain ⟨wo, rfl⟩ : ∃ W, W = wr := ⟨_, rfl⟩
    have HTL := Lib.hid hTL
    have HL := Lib.hid hL
    have HD := Lib.hid hD
    clear hTL hL
    by_cases hk0 : 0 < kk
    · have t1 : decide ((0 : Int) < (kk : Int)) = true := by simp; omega
      have W5 : wrap64 ((kk : Int) - 1) = ((kk - 1 : Nat) : Int) := by unfold wrap64; omega
      obtain ⟨q0, q1⟩ := hK.two
      have hdv := l03DrawVector_any g P A n c wo hD.s' hp (by omega)
      clear hmk
      go_wp2_with fail
      refine hdv.mono ?_
      rintro e w3 ⟨A1, m1, c1, v, rfl, hm1, hv, hd3⟩
      have D8 := Lib.hid hd3
      have K8 := Lib.hid (hK.dr hd3 (by decide))
      have V8 := Lib.hid hv
      have HVL := Lib.hid (show v.length ≤ n + 1 by rw [hv.rd.lenI]; exact hm1)
      clear hdv hd3 hK hv q0 q1 hD
      go_wp2_with (at_builtin; (refine wpList_pushRow w wo w3 g 143 rfl _ _ rfl A0 m c0 L A1 m1 c1 v HL.out HD.out D8.out (by decide) (by decide) V8.out (by omega) rfl ?_ ?_; (go_simp); intro A9 c9 w9 h9 d9 kp))
      have HL9 := Lib.hid h9
      have D9 := Lib.hid d9
      have K9 := kp.2 _ _ _ K8.out (by decide)
      have HT9 := Lib.hid (show ∀ u ∈ L ++ [v], u.length ≤ n + 1 from fun u hu => by
        rcases List.mem_append.1 hu with hu | hu
        · exact HTL.out u hu
        · rw [List.mem_singleton.1 hu]; exact HVL.out)
      clear h9 d9 kp
      go_wp2
      go_roundw
      case rel => exact ⟨kk - 1, m + 1, A9, c9, L ++ [v], by omega, by go_num, rfl, HT9.out, HL9.out, D9.out, K9⟩
      case measure => simp [intOf]; omega
    · have t1 : decide ((0 : Int) < (kk : Int)) = false := by simp; omega
      have hnx := next_any g 40 wo hD.s' (by omega)
      go_wp2_with fail
      refine hnx.mono ?_
      rintro e w3 ⟨r9, rfl, _, _, hd3⟩
      have K3 := hK.dr hd3 (by decide)
      have L3 := HL.out.dr hd3 (by decide) (by decide)
      have D3 := hD.trans hd3
      clear hnx hd3 hK hD HL HD
      by_cases h9 : r9 = 0
      · have e9 : (r9 == 0) = true := by simp [h9]
        go_wp2
        go_loopw [7] (fun l wr => ∃ (m : Nat) (A0 : Option Addr) (c0 : Nat) (L : List (List Int)), m ≤ 17 ∧ l = .slice A0 m c0 ∧ (∀ v ∈ L, v.length ≤ n + 1) ∧ OwnM wr w.heap.size A0 m c0 L ∧ Dr g 143 w wr ∧ Blk wr w.heap.size 26 #[.int .i64 P, .slice A n c]) (fun l _ => 17 - (lenV l))
        case atStart => exact ⟨m, A0, c0, L, by omega, rfl, HTL.out, L3, D3, K3⟩
        case round =>
          clear HTL L3 D3 K3
          obtain ⟨m, A0, c0, L, hm17, rfl, hTL, hL, hD, hK⟩ := hrel
          obtain ⟨wo, rfl⟩ : ∃ W, W = wr := ⟨_, rfl⟩
          have HTL := Lib.hid hTL
          have HL := Lib.hid hL
          have HD := Lib.hid hD
          clear hTL hL
          by_cases hlt : m < 17
          · have t2 : decide ((m : Int) < 17) = true := by simp; omega
            obtain ⟨q0, q1⟩ := hK.two
            have hM := Mk.made (E := 2) (n := n) (z := .int .i64 0) (Below.refl wo.heap.size wo) (by simp only [maxLen]; omega)
            rw [ints_replicate] at hM
            have V8 := Lib.hid hM.2
            have D8 := Lib.hid (Dr.of_below hD.s' hM.1)
            have K8 := Lib.hid (hK.below hM.1 hK.lt)
            clear hM hK hD
            go_wp2_with (at_builtin; (refine wpList_pushRow w wo _ g 143 rfl _ _ rfl A0 m c0 L _ n n (List.replicate n 0) HL.out HD.out D8.out (by decide) (by decide) V8.out (by omega) rfl ?_ ?_; (go_simp); intro A9 c9 w9 h9 d9 kp))
            have HL9 := Lib.hid h9
            have D9 := Lib.hid d9
            have K9 := kp.2 _ _ _ K8.out (by decide)
            have HT9 := Lib.hid (show ∀ u ∈ L ++ [List.replicate n 0], u.length ≤ n + 1 from fun u hu => by
              rcases List.mem_append.1 hu with hu | hu
              · exact HTL.out u hu
              · rw [List.mem_singleton.1 hu, List.length_replicate]; omega)
            clear h9 d9 kp
            go_wp2
            go_roundw
            case rel => exact ⟨m + 1, A9, c9, _, by omega, rfl, HT9.out, HL9.out, D9.out, K9⟩
            case measure => simp [lenV]; omega
          · have t2 : decide ((m : Int) < 17) = false := by simp; omega
            go_wp2
            go_ret
            exact ⟨A0, m, c0, L, rfl, hm17, HTL.out, HL.out, hD⟩
      · have e9 : (r9 == 0) = false := by simp [h9]
        go_wp2
        go_ret
        exact ⟨A0, m, c0, L, rfl, by omega, HTL.out, L3, D3⟩
/-- A space and a list of vectors, drawn. -/
def DrewM (w : World) (e : Ending) (w' : World) : Prop := ∃ (P : Int) (A : Option Addr) (n c : Nat) (sq : List Int) (AL : Option Addr) (m cl : Nat) (L : List (List Int)), e = .returned (.tuple #[.agg #[.int .i64 P, .slice A n c], .slice AL m cl]) ∧ P ≤ 17 ∧ n ≤ 7 ∧ m ≤ 17 ∧ (∀ v ∈ L, v.length ≤ 8) ∧ Own w' w.heap.size 2 A n c (ints sq) ∧ OwnM w' w.heap.size AL m cl L ∧ Below w.heap.size w w'
/-- The value is a list of at most 17 lists of at most 8 numbers, made since the heap had B blocks. -/
def VLm (B : Nat) : VP := ⟨fun v w => ∃ (A : Option Addr) (m c : Nat) (L : List (List Int)), v = .slice A m c ∧ m ≤ 17 ∧ (∀ v ∈ L, v.length ≤ 8) ∧ OwnM w B A m c L, fun _ _ _ ⟨A, m, c, L, e, hm, hl, ho⟩ hb => ⟨A, m, c, L, e, hm, hl, ho.below hb⟩⟩
theorem VLm.dr {B g : Nat} {T : TypeId} {v : Value} {w w' : World} (h : (VLm B).p v w) (d : Dr g T w w') (h1 : 24 ≠ T) (h2 : 2 ≠ T) : (VLm B).p v w' := by
  obtain ⟨A, m, c, L, e, hm, hl, ho⟩ := h
  exact ⟨A, m, c, L, e, hm, hl, ho.dr d h1 h2⟩
end Go.Proofs.YtggigolkncckoaaGreat
namespace Go.Proofs.YtggigolkncckoaaGreat
open Go.RowKit
/-- The value is a list of at most 4 vectors, made since the heap had B blocks. -/
def VLu (B n : Nat) (P : Int) : VP := ⟨fun v w => ∃ (A : Option Addr) (m c : Nat) (L : List (List Int)), v = .slice A m c ∧ m ≤ 4 ∧ Tab P n L ∧ OwnM w B A m c L, fun _ _ _ ⟨A, m, c, L, e, hm, hl, ho⟩ hb => ⟨A, m, c, L, e, hm, hl, ho.below hb⟩⟩
theorem VLu.dr {B n g : Nat} {P : Int} {T : TypeId} {v : Value} {w w' : World} (h : (VLu B n P).p v w) (d : Dr g T w w') (h1 : 24 ≠ T) (h2 : 2 ≠ T) : (VLu B n P).p v w' := by
  obtain ⟨A, m, c, L, e, hm, hl, ho⟩ := h
  exact ⟨A, m, c, L, e, hm, hl, ho.dr d h1 h2⟩
/-- The value is a number from 0 to below P. -/
def VIz (P : Int) : VP := ⟨fun v _ => ∃ k : Int, v = .int .i64 k ∧ 0 ≤ k ∧ k < P, fun _ _ _ h _ => h⟩
end Go.Proofs.YtggigolkncckoaaGreat

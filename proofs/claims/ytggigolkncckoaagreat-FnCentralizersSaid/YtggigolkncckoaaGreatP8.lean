/-
  LawFnCentralizers: part 8 of the texts that the proof needs. No condition.
-/
import Derived.Test.YtggigolkncckoaaGreatP7
namespace Go.Proofs.YtggigolkncckoaaGreat
open Go.RowKit
/-- The value is a list of n numbers of the field that was made since the heap had B blocks. -/
def VLs (B n : Nat) (P : Int) : VP := ⟨fun v w => ∃ (A : Option Addr) (c : Nat) (xs : List Int), v = .slice A n c ∧ xs.length = n ∧ NumsL P xs ∧ Own w B 2 A n c (ints xs), fun _ _ _ ⟨A, c, xs, e, hl, hn, ho⟩ hb => ⟨A, c, xs, e, hl, hn, ho.below hb⟩⟩
theorem VLs.dr {B n g : Nat} {P : Int} {T : TypeId} {v : Value} {w w' : World} (h : (VLs B n P).p v w) (d : Dr g T w w') (hT : 2 ≠ T) : (VLs B n P).p v w' := by
  obtain ⟨A, c, xs, e, hl, hn, ho⟩ := h
  refine ⟨A, c, xs, e, ?_, hn, ho.dr d hT⟩
  exact hl
/-- The value is a place. -/
def VIx (n : Nat) : VP := ⟨fun v _ => ∃ i : Nat, v = .int .i64 i ∧ i < n, fun _ _ _ h _ => h⟩
/-- The value is a pointer to the place x of block g. -/
def VPt (g n : Nat) (x : Value) : VP := ⟨fun v _ => ∃ i : Nat, x = .int .i64 i ∧ i < n ∧ v = .pointer (some ⟨g, i, none⟩), fun _ _ _ h _ => h⟩
theorem nums_of {P : Int} {xs : List Int} (hp : 1 ≤ P) (h : ∀ x ∈ xs, 0 ≤ x ∧ (1 ≤ P → x < P)) : NumsL P xs := fun x hx => ⟨(h x hx).1, (h x hx).2 hp⟩
set_option maxHeartbeats 6400000 in
set_option maxRecDepth 8000 in
theorem l04Draw_any (g : Nat) (P : Int) (A : Option Addr) (n c : Nat) (sq : List Int) (w : World) (hs : Src w g 143) (hp : 2 ≤ P) (hp2 : P ≤ 13) (hn : n ≤ 6) (h0 : 0 < n) (ho : Own w 0 2 A n c (ints sq)) (hq : NumsL P sq) :
    Calls Tryz.prog 305 #[.pointer (some ⟨g, 0, none⟩), .agg #[.int .i64 P, .slice A n c]] w fun e w' => ∃ (A' : Option Addr) (c' : Nat), e = .returned (.slice A' (pw n) c') ∧ (∃ xs : List Int, Own w' w.heap.size 2 A' (pw n) c' (ints xs)) ∧ Dr g 143 w w' := by
  have hpw : pw n ≤ 64 := pw_le hn
  have hpn := pw_pos n
  have k0 : Blk (w.alloc (.cells #[.int .i64 P, .slice A n c] 26)) w.heap.size 26 #[.int .i64 P, .slice A n c] := Blk.new _ _ _
  have d0 := (Dr.refl hs).alloc (.cells #[.int .i64 P, .slice A n c] 26)
  have o0 := ho.below ((Below.refl _ _).alloc (Nat.le_refl _) (.cells #[.int .i64 P, .slice A n c] 26))
  have HQ := Lib.hid hq
  have hSQ : ∀ gb, (Value.slice A n c).ownBlock = some gb → gb < w.heap.size := fun gb e => (World.ownsRow.lt ho gb e).2
  obtain ⟨q0, q1⟩ := k0.two
  have hz := l04Zero_any P A n c (w.alloc (.cells #[.int .i64 P, .slice A n c] 26)) (by omega)
  go_enter Tryz.func305, Tryz.ntmps305
  go_wp2_with fail
  refine hz.mono ?_
  rintro e w2 ⟨A2, c2, rfl, hM2⟩
  have d2 := d0.then hM2.b
  have k2 := k0.below hM2.b k0.lt
  have o2 := o0.below hM2.b
  have hO2 := hM2.2.base (B' := w.heap.size) (by simp)
  have hnx := next_any g 5 w2 d2.s' (by omega)
  clear hz q0 q1 k0 d0 o0 hM2 ho
  obtain ⟨q0, q1⟩ := k2.two
  go_wp2_with fail
  refine hnx.mono ?_
  rintro e w3 ⟨r, rfl, hr1, hr2, hd3⟩
  have d3 := d2.trans hd3
  have k3 := k2.dr hd3 (by decide)
  have o3 := o2.dr hd3 (by decide)
  have hO3 := hO2.dr hd3 (by decide)
  clear hnx d2 k2 o2 hd3 hO2 q0 q1 hq
  by_cases h0' : r = 0
  · have e0 : (r == 0) = true := by simp [h0']
    obtain ⟨q0, q1⟩ := k3.two
    go_wp2
    refine wp_obsR 10 (Dr g 143) [[], [], [], [2], [], [4], [4, 5], [1, 2, 3, 4, 5, 6], [0, 1, 2, 3, 4, 5, 6, 7], [0, 1, 2, 3, 4, 5, 6, 7, 8]] [[], [], [], [], [], [], [], [99], [], []] (fun x => [VIs (.agg #[.int .i64 P, .slice A n c]), VIs (.pointer (some ⟨g, 0, none⟩)), VIs (.pointer (some ⟨w.heap.size, 0, none⟩)), VIs (.int .i64 (P)), VIs (.pointer (some ⟨w.heap.size, 1, none⟩)), VIs (.slice A n c), VIs (.int .i64 (n)), VLs w.heap.size (n) P, VLs w.heap.size (pw n) P, VLs w.heap.size (pw n) P]) (fun w' => Blk w' w.heap.size 26 #[.int .i64 P, .slice A n c] ∧ Own w' 0 2 A n c (ints sq) ∧ Dr g 143 w w') (by kernel_rfl) (by kernel_rfl) (fun x x' j hx => by
        rcases j with _ | _ | _ | _ | _ | _ | _ | _ | _ | _ | j
        · rfl
        · rfl
        · rfl
        · rfl
        · rfl
        · rfl
        · rfl
        · rfl
        · rfl
        · rfl
        · rfl)
      (weak_ofR [0, 1, 2, 3, 4, 5, 6, 7, 8, 9] (by decide) (fun k hk x v w w' hp hr => by
        simp only [List.mem_cons, List.not_mem_nil, or_false] at hk
        rcases hk with rfl | rfl | rfl | rfl | rfl | rfl | rfl | rfl | rfl | rfl
        · exact hp
        · exact hp
        · exact hp
        · exact hp
        · exact hp
        · exact hp
        · exact hp
        · exact VLs.dr hp hr (by decide)
        · exact VLs.dr hp hr (by decide)
        · exact VLs.dr hp hr (by decide))) (fun j _ _ h hb => hb.either (fun hb => ⟨h.1.below hb h.1.lt, h.2.1.below hb, h.2.2.then hb⟩) (fun hr => ⟨h.1.dr hr (by decide), h.2.1.dr hr (by decide), h.2.2.trans hr⟩)) (⟨k3.drew, o3.below (Below.refl _ _).drew, d3.then (Below.refl _ _).drew⟩) (fun x => ?_)
    refine obs_stepR (Eq.trans (by simp only [List.getElem?_toArray, List.getElem?_cons_zero]; exact rfl) rfl) rfl (fun w' hS hV K hK => ?_) ?_
    · obtain ⟨q0, q1⟩ := hS.1.two
      go_simp
      exact hK.out _ _ _ rfl rfl rfl (Below.refl _ _)
    simp only [List.setIfInBounds_toArray, List.set_cons_zero, List.set_cons_succ]
    refine obs_stepR (Eq.trans (by simp only [List.getElem?_toArray, List.getElem?_cons_succ, List.getElem?_cons_zero]; exact rfl) rfl) rfl (fun w' hS hV K hK => ?_) ?_
    · obtain ⟨q0, q1⟩ := hS.1.two
      go_simp
      exact hK.out _ _ _ rfl rfl rfl (Below.refl _ _)
    simp only [List.setIfInBounds_toArray, List.set_cons_zero, List.set_cons_succ]
    refine obs_stepR (Eq.trans (by simp only [List.getElem?_toArray, List.getElem?_cons_succ, List.getElem?_cons_zero]; exact rfl) rfl) rfl (fun w' hS hV K hK => ?_) ?_
    · obtain ⟨q0, q1⟩ := hS.1.two
      go_simp
      exact hK.out _ _ _ rfl rfl rfl (Below.refl _ _)
    simp only [List.setIfInBounds_toArray, List.set_cons_zero, List.set_cons_succ]
    refine obs_stepR (Eq.trans (by simp only [List.getElem?_toArray, List.getElem?_cons_succ, List.getElem?_cons_zero]; exact rfl) rfl) rfl (fun w' hS hV K hK => ?_) ?_
    · have e2 : x 2 = (.pointer (some ⟨w.heap.size, 0, none⟩)) := hV 2 (by decide)
      obtain ⟨q0, q1⟩ := hS.1.two
      go_simp
      exact hK.out _ _ _ rfl rfl rfl (Below.refl _ _)
    simp only [List.setIfInBounds_toArray, List.set_cons_zero, List.set_cons_succ]
    refine obs_stepR (Eq.trans (by simp only [List.getElem?_toArray, List.getElem?_cons_succ, List.getElem?_cons_zero]; exact rfl) rfl) rfl (fun w' hS hV K hK => ?_) ?_
    · obtain ⟨q0, q1⟩ := hS.1.two
      go_simp
      exact hK.out _ _ _ rfl rfl rfl (Below.refl _ _)
    simp only [List.setIfInBounds_toArray, List.set_cons_zero, List.set_cons_succ]
    refine obs_stepR (Eq.trans (by simp only [List.getElem?_toArray, List.getElem?_cons_succ, List.getElem?_cons_zero]; exact rfl) rfl) rfl (fun w' hS hV K hK => ?_) ?_
    · have e4 : x 4 = (.pointer (some ⟨w.heap.size, 1, none⟩)) := hV 4 (by decide)
      obtain ⟨q0, q1⟩ := hS.1.two
      go_simp
      exact hK.out _ _ _ rfl rfl rfl (Below.refl _ _)
    simp only [List.setIfInBounds_toArray, List.set_cons_zero, List.set_cons_succ]
    refine obs_stepR (Eq.trans (by simp only [List.getElem?_toArray, List.getElem?_cons_succ, List.getElem?_cons_zero]; exact rfl) rfl) rfl (fun w' hS hV K hK => ?_) ?_
    · have e4 : x 4 = (.pointer (some ⟨w.heap.size, 1, none⟩)) := hV 4 (by decide)
      have e5 : x 5 = (.slice A n c) := hV 5 (by decide)
      obtain ⟨q0, q1⟩ := hS.1.two
      go_simp
      exact hK.out _ _ _ rfl rfl rfl (Below.refl _ _)
    simp only [List.setIfInBounds_toArray, List.set_cons_zero, List.set_cons_succ]
    refine obs_stepR (Eq.trans (by simp only [List.getElem?_toArray, List.getElem?_cons_succ, List.getElem?_cons_zero]; exact rfl) rfl) rfl (fun w' hS hV K hK => ?_) ?_
    · have e1 : x 1 = (.pointer (some ⟨g, 0, none⟩)) := hV 1 (by decide)
      have e2 : x 2 = (.pointer (some ⟨w.heap.size, 0, none⟩)) := hV 2 (by decide)
      have e3 : x 3 = (.int .i64 (P)) := hV 3 (by decide)
      have e4 : x 4 = (.pointer (some ⟨w.heap.size, 1, none⟩)) := hV 4 (by decide)
      have e5 : x 5 = (.slice A n c) := hV 5 (by decide)
      have e6 : x 6 = (.int .i64 (n)) := hV 6 (by decide)
      obtain ⟨q0, q1⟩ := hS.1.two
      go_simp
      refine (nextList_any g P (n) w' hS.2.2.s' (by omega) (by omega)).mono ?_
      rintro e v1 ⟨A9, c9, xs9, rfl, hl9, hx9, ho9, hd9⟩
      exact hK.out _ _ _ rfl rfl ⟨_, _, xs9, rfl, hl9, nums_of (by omega) hx9, ho9.base hS.2.2.size⟩ hd9
    simp only [List.setIfInBounds_toArray, List.set_cons_zero, List.set_cons_succ]
    refine obs_stepR (Eq.trans (by simp only [List.getElem?_toArray, List.getElem?_cons_succ, List.getElem?_cons_zero]; exact rfl) rfl) rfl (fun w' hS hV K hK => ?_) ?_
    · have e0 : x 0 = (.agg #[.int .i64 P, .slice A n c]) := hV 0 (by decide)
      have e1 : x 1 = (.pointer (some ⟨g, 0, none⟩)) := hV 1 (by decide)
      have e2 : x 2 = (.pointer (some ⟨w.heap.size, 0, none⟩)) := hV 2 (by decide)
      have e3 : x 3 = (.int .i64 (P)) := hV 3 (by decide)
      have e4 : x 4 = (.pointer (some ⟨w.heap.size, 1, none⟩)) := hV 4 (by decide)
      have e5 : x 5 = (.slice A n c) := hV 5 (by decide)
      have e6 : x 6 = (.int .i64 (n)) := hV 6 (by decide)
      obtain ⟨A7, c7, X7, e7, l7, n7, h7⟩ := hV 7 (by decide)
      obtain ⟨q0, q1⟩ := hS.1.two
      go_simp
      refine (l04Vector_any P A n c A7 c7 X7 w' (by omega) h7.rd).mono ?_
      rintro e v1 ⟨A9, c9, rfl, hM⟩
      exact hK.out _ _ _ rfl rfl ⟨_, _, _, rfl, vecTo_len _ _ _, vecTo_nums (by omega) n X7 n7 n, hM.2.base hS.2.2.size⟩ hM.b
    simp only [List.setIfInBounds_toArray, List.set_cons_zero, List.set_cons_succ]
    refine obs_stepR (Eq.trans (by simp only [List.getElem?_toArray, List.getElem?_cons_succ, List.getElem?_cons_zero]; exact rfl) rfl) rfl (fun w' hS hV K hK => ?_) ?_
    · have e0 : x 0 = (.agg #[.int .i64 P, .slice A n c]) := hV 0 (by decide)
      have e1 : x 1 = (.pointer (some ⟨g, 0, none⟩)) := hV 1 (by decide)
      have e2 : x 2 = (.pointer (some ⟨w.heap.size, 0, none⟩)) := hV 2 (by decide)
      have e3 : x 3 = (.int .i64 (P)) := hV 3 (by decide)
      have e4 : x 4 = (.pointer (some ⟨w.heap.size, 1, none⟩)) := hV 4 (by decide)
      have e5 : x 5 = (.slice A n c) := hV 5 (by decide)
      have e6 : x 6 = (.int .i64 (n)) := hV 6 (by decide)
      obtain ⟨A7, c7, X7, e7, l7, n7, h7⟩ := hV 7 (by decide)
      obtain ⟨A8, c8, X8, e8, l8, n8, h8⟩ := hV 8 (by decide)
      obtain ⟨q0, q1⟩ := hS.1.two
      go_simp
      exact hK.out _ _ _ rfl rfl ⟨_, _, X8, rfl, l8, n8, h8⟩ (Below.refl _ _)
    simp only [List.setIfInBounds_toArray, List.set_cons_zero, List.set_cons_succ]
    refine fun w' hS hV => ?_
    have e0 : x 0 = (.agg #[.int .i64 P, .slice A n c]) := hV 0 (by decide)
    have e1 : x 1 = (.pointer (some ⟨g, 0, none⟩)) := hV 1 (by decide)
    have e2 : x 2 = (.pointer (some ⟨w.heap.size, 0, none⟩)) := hV 2 (by decide)
    have e3 : x 3 = (.int .i64 (P)) := hV 3 (by decide)
    have e4 : x 4 = (.pointer (some ⟨w.heap.size, 1, none⟩)) := hV 4 (by decide)
    have e5 : x 5 = (.slice A n c) := hV 5 (by decide)
    have e6 : x 6 = (.int .i64 (n)) := hV 6 (by decide)
    obtain ⟨A7, c7, X7, e7, l7, n7, h7⟩ := hV 7 (by decide)
    obtain ⟨A8, c8, X8, e8, l8, n8, h8⟩ := hV 8 (by decide)
    obtain ⟨A9, c9, X9, e9, l9, n9, h9⟩ := hV 9 (by decide)
    simp only [e0, e1, e2, e3, e4, e5, e6, e7, e8, e9]
    clear e0 e1 e2 e3 e4 e5 e6 e7 e8 e9
    refine wpAny_done (by kernel_rfl) ?_ _
    obtain ⟨_, _, d9⟩ := hS
    go_wp2
    go_ret
    exact ⟨_, _, rfl, ⟨X9, h9⟩, d9⟩
  · have e0 : (r == 0) = false := by simp [h0']
    by_cases h1 : r = 1
    · have e1 : (r == 1) = true := by simp [h1]
      obtain ⟨q0, q1⟩ := k3.two
      go_wp2_with fail
      refine (l04One_any P A n c w3 (by omega)).mono ?_
      rintro e w4 ⟨A4, c4, rfl, hM4⟩
      have d4 := d3.then hM4.b
      have k4 := k3.below hM4.b k3.lt
      have o4 := o3.below hM4.b
      have h4 := hM4.2.base (B' := w.heap.size) d3.size
      have hnx := next_any g 4 w4 d4.s' (by omega)
      clear hM4 d3 k3 o3 hO3 q0 q1
      go_wp2_with fail
      refine hnx.mono ?_
      rintro e w5 ⟨rr, rfl, hr3, hr4, hd5⟩
      obtain ⟨rn, rfl⟩ : ∃ rn : Nat, rr = rn := ⟨rr.toNat, by omega⟩
      have d5 := d4.trans hd5
      have k5 := k4.dr hd5 (by decide)
      have o5 := o4.dr hd5 (by decide)
      have h5 := h4.dr hd5 (by decide)
      clear hnx d4 k4 o4 h4 hd5
      have hbn := bladeL_nums hp n 0
      have hbl := bladeL_len n 0
      go_wp2
      go_loopw [5, 6] (fun out q wr => ∃ (m : Nat) (A5 : Option Addr) (c5 : Nat) (X5 : List Int), m ≤ 4 ∧ q = .int .i64 m ∧ out = .slice A5 (pw n) c5 ∧ X5.length = pw n ∧ NumsL P X5 ∧ Own wr w.heap.size 2 A5 (pw n) c5 (ints X5) ∧ Blk wr w.heap.size 26 #[.int .i64 P, .slice A n c] ∧ Own wr 0 2 A n c (ints sq) ∧ Dr g 143 w wr) (fun _ q _ => (intOf q).toNat)
      case atStart => exact ⟨rn, _, _, _, by omega, rfl, rfl, hbl, hbn, h5, k5, o5, d5⟩
      case round =>
        clear h5 k5 o5 d5 hbn hbl
        obtain ⟨m, A5, c5, X5, hm4, rfl, rfl, hl5, hn5, h5, k5, o5, d5⟩ := hrel
        have HN5 := Lib.hid hn5
        have HL5 := Lib.hid hl5
        clear hn5 hl5
        cases m with
        | zero =>
          go_wp2
          go_ret
          exact ⟨_, _, rfl, ⟨X5, h5⟩, d5⟩
        | succ m =>
          have d1 : decide (0 < ((m + 1 : Nat) : Int)) = true := by rw [decide_eq_true_eq]; omega
          have WM : wrap64 (((m + 1 : Nat) : Int) - 1) = (m : Int) := by unfold wrap64; omega
          obtain ⟨q0, q1⟩ := k5.two
          go_wp2
          refine wp_obsR 12 (Dr g 143) [[], [], [], [], [], [4], [], [6], [6, 7], [3, 4, 5, 6, 7, 8], [2, 3, 4, 5, 6, 7, 8, 9], [0, 1, 2, 3, 4, 5, 6, 7, 8, 9, 10], [0, 1, 2, 3, 4, 5, 6, 7, 8, 9, 10, 11]] [[], [], [], [], [], [], [], [], [], [99], [], []] (fun x => [VIs (.agg #[.int .i64 P, .slice A n c]), VIs (.slice A5 (pw n) c5), VIs (.agg #[.int .i64 P, .slice A n c]), VIs (.pointer (some ⟨g, 0, none⟩)), VIs (.pointer (some ⟨w.heap.size, 0, none⟩)), VIs (.int .i64 (P)), VIs (.pointer (some ⟨w.heap.size, 1, none⟩)), VIs (.slice A n c), VIs (.int .i64 (n)), VLs w.heap.size (n) P, VLs w.heap.size (pw n) P, VLs w.heap.size (pw n) P]) (fun w' => Blk w' w.heap.size 26 #[.int .i64 P, .slice A n c] ∧ Own w' 0 2 A n c (ints sq) ∧ Dr g 143 w w' ∧ Own w' w.heap.size 2 A5 (pw n) c5 (ints X5)) (by kernel_rfl) (by kernel_rfl) (fun x x' j hx => by
              rcases j with _ | _ | _ | _ | _ | _ | _ | _ | _ | _ | _ | _ | j
              · rfl
              · rfl
              · rfl
              · rfl
              · rfl
              · rfl
              · rfl
              · rfl
              · rfl
              · rfl
              · rfl
              · rfl
              · rfl)
            (weak_ofR [0, 1, 2, 3, 4, 5, 6, 7, 8, 9, 10, 11] (by decide) (fun k hk x v w w' hp hr => by
              simp only [List.mem_cons, List.not_mem_nil, or_false] at hk
              rcases hk with rfl | rfl | rfl | rfl | rfl | rfl | rfl | rfl | rfl | rfl | rfl | rfl
              · exact hp
              · exact hp
              · exact hp
              · exact hp
              · exact hp
              · exact hp
              · exact hp
              · exact hp
              · exact hp
              · exact VLs.dr hp hr (by decide)
              · exact VLs.dr hp hr (by decide)
              · exact VLs.dr hp hr (by decide))) (fun j _ _ h hb => hb.either (fun hb => ⟨h.1.below hb h.1.lt, h.2.1.below hb, h.2.2.1.then hb, h.2.2.2.below hb⟩) (fun hr => ⟨h.1.dr hr (by decide), h.2.1.dr hr (by decide), h.2.2.1.trans hr, h.2.2.2.dr hr (by decide)⟩)) (⟨k5.drew, o5.below (Below.refl _ _).drew, d5.then (Below.refl _ _).drew, h5.below (Below.refl _ _).drew⟩) (fun x => ?_)
          refine obs_stepR (Eq.trans (by simp only [List.getElem?_toArray, List.getElem?_cons_zero]; exact rfl) rfl) rfl (fun w' hS hV K hK => ?_) ?_
          · obtain ⟨q0, q1⟩ := hS.1.two
            go_simp
            exact hK.out _ _ _ rfl rfl rfl (Below.refl _ _)
          simp only [List.setIfInBounds_toArray, List.set_cons_zero, List.set_cons_succ]
          refine obs_stepR (Eq.trans (by simp only [List.getElem?_toArray, List.getElem?_cons_succ, List.getElem?_cons_zero]; exact rfl) rfl) rfl (fun w' hS hV K hK => ?_) ?_
          · obtain ⟨q0, q1⟩ := hS.1.two
            go_simp
            exact hK.out _ _ _ rfl rfl rfl (Below.refl _ _)
          simp only [List.setIfInBounds_toArray, List.set_cons_zero, List.set_cons_succ]
          refine obs_stepR (Eq.trans (by simp only [List.getElem?_toArray, List.getElem?_cons_succ, List.getElem?_cons_zero]; exact rfl) rfl) rfl (fun w' hS hV K hK => ?_) ?_
          · obtain ⟨q0, q1⟩ := hS.1.two
            go_simp
            exact hK.out _ _ _ rfl rfl rfl (Below.refl _ _)
          simp only [List.setIfInBounds_toArray, List.set_cons_zero, List.set_cons_succ]
          refine obs_stepR (Eq.trans (by simp only [List.getElem?_toArray, List.getElem?_cons_succ, List.getElem?_cons_zero]; exact rfl) rfl) rfl (fun w' hS hV K hK => ?_) ?_
          · obtain ⟨q0, q1⟩ := hS.1.two
            go_simp
            exact hK.out _ _ _ rfl rfl rfl (Below.refl _ _)
          simp only [List.setIfInBounds_toArray, List.set_cons_zero, List.set_cons_succ]
          refine obs_stepR (Eq.trans (by simp only [List.getElem?_toArray, List.getElem?_cons_succ, List.getElem?_cons_zero]; exact rfl) rfl) rfl (fun w' hS hV K hK => ?_) ?_
          · obtain ⟨q0, q1⟩ := hS.1.two
            go_simp
            exact hK.out _ _ _ rfl rfl rfl (Below.refl _ _)
          simp only [List.setIfInBounds_toArray, List.set_cons_zero, List.set_cons_succ]
          refine obs_stepR (Eq.trans (by simp only [List.getElem?_toArray, List.getElem?_cons_succ, List.getElem?_cons_zero]; exact rfl) rfl) rfl (fun w' hS hV K hK => ?_) ?_
          · have e4 : x 4 = (.pointer (some ⟨w.heap.size, 0, none⟩)) := hV 4 (by decide)
            obtain ⟨q0, q1⟩ := hS.1.two
            go_simp
            exact hK.out _ _ _ rfl rfl rfl (Below.refl _ _)
          simp only [List.setIfInBounds_toArray, List.set_cons_zero, List.set_cons_succ]
          refine obs_stepR (Eq.trans (by simp only [List.getElem?_toArray, List.getElem?_cons_succ, List.getElem?_cons_zero]; exact rfl) rfl) rfl (fun w' hS hV K hK => ?_) ?_
          · obtain ⟨q0, q1⟩ := hS.1.two
            go_simp
            exact hK.out _ _ _ rfl rfl rfl (Below.refl _ _)
          simp only [List.setIfInBounds_toArray, List.set_cons_zero, List.set_cons_succ]
          refine obs_stepR (Eq.trans (by simp only [List.getElem?_toArray, List.getElem?_cons_succ, List.getElem?_cons_zero]; exact rfl) rfl) rfl (fun w' hS hV K hK => ?_) ?_
          · have e6 : x 6 = (.pointer (some ⟨w.heap.size, 1, none⟩)) := hV 6 (by decide)
            obtain ⟨q0, q1⟩ := hS.1.two
            go_simp
            exact hK.out _ _ _ rfl rfl rfl (Below.refl _ _)
          simp only [List.setIfInBounds_toArray, List.set_cons_zero, List.set_cons_succ]
          refine obs_stepR (Eq.trans (by simp only [List.getElem?_toArray, List.getElem?_cons_succ, List.getElem?_cons_zero]; exact rfl) rfl) rfl (fun w' hS hV K hK => ?_) ?_
          · have e6 : x 6 = (.pointer (some ⟨w.heap.size, 1, none⟩)) := hV 6 (by decide)
            have e7 : x 7 = (.slice A n c) := hV 7 (by decide)
            obtain ⟨q0, q1⟩ := hS.1.two
            go_simp
            exact hK.out _ _ _ rfl rfl rfl (Below.refl _ _)
          simp only [List.setIfInBounds_toArray, List.set_cons_zero, List.set_cons_succ]
          refine obs_stepR (Eq.trans (by simp only [List.getElem?_toArray, List.getElem?_cons_succ, List.getElem?_cons_zero]; exact rfl) rfl) rfl (fun w' hS hV K hK => ?_) ?_
          · have e3 : x 3 = (.pointer (some ⟨g, 0, none⟩)) := hV 3 (by decide)
            have e4 : x 4 = (.pointer (some ⟨w.heap.size, 0, none⟩)) := hV 4 (by decide)
            have e5 : x 5 = (.int .i64 (P)) := hV 5 (by decide)
            have e6 : x 6 = (.pointer (some ⟨w.heap.size, 1, none⟩)) := hV 6 (by decide)
            have e7 : x 7 = (.slice A n c) := hV 7 (by decide)
            have e8 : x 8 = (.int .i64 (n)) := hV 8 (by decide)
            obtain ⟨q0, q1⟩ := hS.1.two
            go_simp
            refine (nextList_any g P (n) w' hS.2.2.1.s' (by omega) (by omega)).mono ?_
            rintro e v1 ⟨A9, c9, xs9, rfl, hl9, hx9, ho9, hd9⟩
            exact hK.out _ _ _ rfl rfl ⟨_, _, xs9, rfl, hl9, nums_of (by omega) hx9, ho9.base hS.2.2.1.size⟩ hd9
          simp only [List.setIfInBounds_toArray, List.set_cons_zero, List.set_cons_succ]
          refine obs_stepR (Eq.trans (by simp only [List.getElem?_toArray, List.getElem?_cons_succ, List.getElem?_cons_zero]; exact rfl) rfl) rfl (fun w' hS hV K hK => ?_) ?_
          · have e2 : x 2 = (.agg #[.int .i64 P, .slice A n c]) := hV 2 (by decide)
            have e3 : x 3 = (.pointer (some ⟨g, 0, none⟩)) := hV 3 (by decide)
            have e4 : x 4 = (.pointer (some ⟨w.heap.size, 0, none⟩)) := hV 4 (by decide)
            have e5 : x 5 = (.int .i64 (P)) := hV 5 (by decide)
            have e6 : x 6 = (.pointer (some ⟨w.heap.size, 1, none⟩)) := hV 6 (by decide)
            have e7 : x 7 = (.slice A n c) := hV 7 (by decide)
            have e8 : x 8 = (.int .i64 (n)) := hV 8 (by decide)
            obtain ⟨A9, c9, X9, e9, l9, n9, h9⟩ := hV 9 (by decide)
            obtain ⟨q0, q1⟩ := hS.1.two
            go_simp
            refine (l04Vector_any P A n c A9 c9 X9 w' (by omega) h9.rd).mono ?_
            rintro e v1 ⟨A9, c9, rfl, hM⟩
            exact hK.out _ _ _ rfl rfl ⟨_, _, _, rfl, vecTo_len _ _ _, vecTo_nums (by omega) n X9 n9 n, hM.2.base hS.2.2.1.size⟩ hM.b
          simp only [List.setIfInBounds_toArray, List.set_cons_zero, List.set_cons_succ]
          refine obs_stepR (Eq.trans (by simp only [List.getElem?_toArray, List.getElem?_cons_succ, List.getElem?_cons_zero]; exact rfl) rfl) rfl (fun w' hS hV K hK => ?_) ?_
          · have e0 : x 0 = (.agg #[.int .i64 P, .slice A n c]) := hV 0 (by decide)
            have e1 : x 1 = (.slice A5 (pw n) c5) := hV 1 (by decide)
            have e2 : x 2 = (.agg #[.int .i64 P, .slice A n c]) := hV 2 (by decide)
            have e3 : x 3 = (.pointer (some ⟨g, 0, none⟩)) := hV 3 (by decide)
            have e4 : x 4 = (.pointer (some ⟨w.heap.size, 0, none⟩)) := hV 4 (by decide)
            have e5 : x 5 = (.int .i64 (P)) := hV 5 (by decide)
            have e6 : x 6 = (.pointer (some ⟨w.heap.size, 1, none⟩)) := hV 6 (by decide)
            have e7 : x 7 = (.slice A n c) := hV 7 (by decide)
            have e8 : x 8 = (.int .i64 (n)) := hV 8 (by decide)
            obtain ⟨A9, c9, X9, e9, l9, n9, h9⟩ := hV 9 (by decide)
            obtain ⟨A10, c10, X10, e10, l10, n10, h10⟩ := hV 10 (by decide)
            obtain ⟨q0, q1⟩ := hS.1.two
            go_simp
            refine (l04Times_any P A n c sq A5 c5 X5 A10 c10 X10 w' hp hp2 hn hS.2.1.rd HQ.out (hS.2.2.2.rd) HN5.out h10.rd n10).mono ?_
            rintro e v1 ⟨A9, c9, rfl, hM⟩
            exact hK.out _ _ _ rfl rfl ⟨_, _, _, rfl, by rw [prodL_len]; exact HL5.out, prodL_nums sq _ _ _ (by omega), hM.2.base hS.2.2.1.size⟩ hM.b
          simp only [List.setIfInBounds_toArray, List.set_cons_zero, List.set_cons_succ]
          refine fun w' hS hV => ?_
          have e0 : x 0 = (.agg #[.int .i64 P, .slice A n c]) := hV 0 (by decide)
          have e1 : x 1 = (.slice A5 (pw n) c5) := hV 1 (by decide)
          have e2 : x 2 = (.agg #[.int .i64 P, .slice A n c]) := hV 2 (by decide)
          have e3 : x 3 = (.pointer (some ⟨g, 0, none⟩)) := hV 3 (by decide)
          have e4 : x 4 = (.pointer (some ⟨w.heap.size, 0, none⟩)) := hV 4 (by decide)
          have e5 : x 5 = (.int .i64 (P)) := hV 5 (by decide)
          have e6 : x 6 = (.pointer (some ⟨w.heap.size, 1, none⟩)) := hV 6 (by decide)
          have e7 : x 7 = (.slice A n c) := hV 7 (by decide)
          have e8 : x 8 = (.int .i64 (n)) := hV 8 (by decide)
          obtain ⟨A9, c9, X9, e9, l9, n9, h9⟩ := hV 9 (by decide)
          obtain ⟨A10, c10, X10, e10, l10, n10, h10⟩ := hV 10 (by decide)
          obtain ⟨A11, c11, X11, e11, l11, n11, h11⟩ := hV 11 (by decide)
          simp only [e0, e1, e2, e3, e4, e5, e6, e7, e8, e9, e10, e11]
          clear e0 e1 e2 e3 e4 e5 e6 e7 e8 e9 e10 e11
          obtain ⟨k6, o6, d6, _⟩ := hS
          refine any_one (j := 12) (by kernel_rfl) (Eq.trans (by simp only [List.getElem?_toArray, List.getElem?_cons_succ, List.getElem?_cons_zero]; exact rfl) rfl) (fun K hK => ?_)
          go_simp
          refine hK.out _ _ (wpAny_done (by kernel_rfl) ?_ _)
          clear q0 q1 k5 o5 d5 h5
          go_wp2
          go_roundw
          case rel => exact ⟨m, _, _, X11, by omega, by go_num, rfl, l11, n11, h11, k6, o6, d6⟩
          case measure => simp [intOf]
    · have e1 : (r == 1) = false := by simp [h1]
      by_cases h2 : r = 2
      · have e2 : (r == 2) = true := by simp [h2]
        have hnx := next_any g ((n : Int) + 1) w3 d3.s' (by omega)
        have W1 : wrap64 ((n : Int) + 1) = (n : Int) + 1 := by unfold wrap64; omega
        obtain ⟨q0, q1⟩ := k3.two
        go_wp2_with fail
        refine hnx.mono ?_
        rintro e w4 ⟨rr, rfl, hr3, hr4, hd4⟩
        have hr5 := hr4 (by omega)
        obtain ⟨rn, rfl⟩ : ∃ rn : Nat, rr = rn := ⟨rr.toNat, by omega⟩
        have d4 := d3.trans hd4
        have k4 := k3.dr hd4 (by decide)
        have o4 := o3.dr hd4 (by decide)
        clear hnx d3 k3 o3 hd4 q0 q1
        obtain ⟨q0, q1⟩ := k4.two
        go_wp2
        refine wp_obsR 9 (Dr g 143) [[], [], [1], [], [3], [0, 1, 2, 3, 4], [], [0, 1, 2, 3, 4, 5, 6], [0, 1, 2, 3, 4, 5, 6, 7]] [[], [], [], [], [], [99], [], [], []] (fun x => [VIs (.pointer (some ⟨g, 0, none⟩)), VIs (.pointer (some ⟨w.heap.size, 0, none⟩)), VIs (.int .i64 (P)), VIs (.agg #[.int .i64 P, .slice A n c]), VIs (.int .i64 (pw n)), VLs w.heap.size (pw n) P, VIs (.int .i64 (rn)), VLs w.heap.size (pw n) P, VLs w.heap.size (pw n) P]) (fun w' => Blk w' w.heap.size 26 #[.int .i64 P, .slice A n c] ∧ Own w' 0 2 A n c (ints sq) ∧ Dr g 143 w w') (by kernel_rfl) (by kernel_rfl) (fun x x' j hx => by
            rcases j with _ | _ | _ | _ | _ | _ | _ | _ | _ | j
            · rfl
            · rfl
            · rfl
            · rfl
            · rfl
            · rfl
            · rfl
            · rfl
            · rfl
            · rfl)
          (weak_ofR [0, 1, 2, 3, 4, 5, 6, 7, 8] (by decide) (fun k hk x v w w' hp hr => by
            simp only [List.mem_cons, List.not_mem_nil, or_false] at hk
            rcases hk with rfl | rfl | rfl | rfl | rfl | rfl | rfl | rfl | rfl
            · exact hp
            · exact hp
            · exact hp
            · exact hp
            · exact hp
            · exact VLs.dr hp hr (by decide)
            · exact hp
            · exact VLs.dr hp hr (by decide)
            · exact VLs.dr hp hr (by decide))) (fun j _ _ h hb => hb.either (fun hb => ⟨h.1.below hb h.1.lt, h.2.1.below hb, h.2.2.then hb⟩) (fun hr => ⟨h.1.dr hr (by decide), h.2.1.dr hr (by decide), h.2.2.trans hr⟩)) (⟨k4.drew, o4.below (Below.refl _ _).drew, d4.then (Below.refl _ _).drew⟩) (fun x => ?_)
        refine obs_stepR (Eq.trans (by simp only [List.getElem?_toArray, List.getElem?_cons_zero]; exact rfl) rfl) rfl (fun w' hS hV K hK => ?_) ?_
        · obtain ⟨q0, q1⟩ := hS.1.two
          go_simp
          exact hK.out _ _ _ rfl rfl rfl (Below.refl _ _)
        simp only [List.setIfInBounds_toArray, List.set_cons_zero, List.set_cons_succ]
        refine obs_stepR (Eq.trans (by simp only [List.getElem?_toArray, List.getElem?_cons_succ, List.getElem?_cons_zero]; exact rfl) rfl) rfl (fun w' hS hV K hK => ?_) ?_
        · obtain ⟨q0, q1⟩ := hS.1.two
          go_simp
          exact hK.out _ _ _ rfl rfl rfl (Below.refl _ _)
        simp only [List.setIfInBounds_toArray, List.set_cons_zero, List.set_cons_succ]
        refine obs_stepR (Eq.trans (by simp only [List.getElem?_toArray, List.getElem?_cons_succ, List.getElem?_cons_zero]; exact rfl) rfl) rfl (fun w' hS hV K hK => ?_) ?_
        · have e1 : x 1 = (.pointer (some ⟨w.heap.size, 0, none⟩)) := hV 1 (by decide)
          obtain ⟨q0, q1⟩ := hS.1.two
          go_simp
          exact hK.out _ _ _ rfl rfl rfl (Below.refl _ _)
        simp only [List.setIfInBounds_toArray, List.set_cons_zero, List.set_cons_succ]
        refine obs_stepR (Eq.trans (by simp only [List.getElem?_toArray, List.getElem?_cons_succ, List.getElem?_cons_zero]; exact rfl) rfl) rfl (fun w' hS hV K hK => ?_) ?_
        · obtain ⟨q0, q1⟩ := hS.1.two
          go_simp
          exact hK.out _ _ _ rfl rfl rfl (Below.refl _ _)
        simp only [List.setIfInBounds_toArray, List.set_cons_zero, List.set_cons_succ]
        refine obs_stepR (Eq.trans (by simp only [List.getElem?_toArray, List.getElem?_cons_succ, List.getElem?_cons_zero]; exact rfl) rfl) rfl (fun w' hS hV K hK => ?_) ?_
        · have e3 : x 3 = (.agg #[.int .i64 P, .slice A n c]) := hV 3 (by decide)
          obtain ⟨q0, q1⟩ := hS.1.two
          go_simp
          refine (l04Size_any P A n c w' (by omega)).mono ?_
          rintro e v1 ⟨rfl, hb⟩
          exact hK.out _ _ _ rfl rfl rfl hb
        simp only [List.setIfInBounds_toArray, List.set_cons_zero, List.set_cons_succ]
        refine obs_stepR (Eq.trans (by simp only [List.getElem?_toArray, List.getElem?_cons_succ, List.getElem?_cons_zero]; exact rfl) rfl) rfl (fun w' hS hV K hK => ?_) ?_
        · have e0 : x 0 = (.pointer (some ⟨g, 0, none⟩)) := hV 0 (by decide)
          have e1 : x 1 = (.pointer (some ⟨w.heap.size, 0, none⟩)) := hV 1 (by decide)
          have e2 : x 2 = (.int .i64 (P)) := hV 2 (by decide)
          have e3 : x 3 = (.agg #[.int .i64 P, .slice A n c]) := hV 3 (by decide)
          have e4 : x 4 = (.int .i64 (pw n)) := hV 4 (by decide)
          obtain ⟨q0, q1⟩ := hS.1.two
          go_simp
          refine (nextList_any g P (pw n) w' hS.2.2.s' (by omega) (by omega)).mono ?_
          rintro e v1 ⟨A9, c9, xs9, rfl, hl9, hx9, ho9, hd9⟩
          exact hK.out _ _ _ rfl rfl ⟨_, _, xs9, rfl, hl9, nums_of (by omega) hx9, ho9.base hS.2.2.size⟩ hd9
        simp only [List.setIfInBounds_toArray, List.set_cons_zero, List.set_cons_succ]
        refine obs_stepR (Eq.trans (by simp only [List.getElem?_toArray, List.getElem?_cons_succ, List.getElem?_cons_zero]; exact rfl) rfl) rfl (fun w' hS hV K hK => ?_) ?_
        · obtain ⟨q0, q1⟩ := hS.1.two
          go_simp
          exact hK.out _ _ _ rfl rfl rfl (Below.refl _ _)
        simp only [List.setIfInBounds_toArray, List.set_cons_zero, List.set_cons_succ]
        refine obs_stepR (Eq.trans (by simp only [List.getElem?_toArray, List.getElem?_cons_succ, List.getElem?_cons_zero]; exact rfl) rfl) rfl (fun w' hS hV K hK => ?_) ?_
        · have e0 : x 0 = (.pointer (some ⟨g, 0, none⟩)) := hV 0 (by decide)
          have e1 : x 1 = (.pointer (some ⟨w.heap.size, 0, none⟩)) := hV 1 (by decide)
          have e2 : x 2 = (.int .i64 (P)) := hV 2 (by decide)
          have e3 : x 3 = (.agg #[.int .i64 P, .slice A n c]) := hV 3 (by decide)
          have e4 : x 4 = (.int .i64 (pw n)) := hV 4 (by decide)
          obtain ⟨A5, c5, X5, e5, l5, n5, h5⟩ := hV 5 (by decide)
          have e6 : x 6 = (.int .i64 (rn)) := hV 6 (by decide)
          obtain ⟨q0, q1⟩ := hS.1.two
          go_simp
          refine (l04Part_any A5 (pw n) c5 X5 rn w' (by omega) (by omega) h5.rd).mono ?_
          rintro e v1 ⟨A9, c9, rfl, hM⟩
          exact hK.out _ _ _ rfl rfl ⟨_, _, _, rfl, by rw [partG_len]; exact l5, partG_nums (by omega) n5 _, hM.2.base hS.2.2.size⟩ hM.b
        simp only [List.setIfInBounds_toArray, List.set_cons_zero, List.set_cons_succ]
        refine obs_stepR (Eq.trans (by simp only [List.getElem?_toArray, List.getElem?_cons_succ, List.getElem?_cons_zero]; exact rfl) rfl) rfl (fun w' hS hV K hK => ?_) ?_
        · have e0 : x 0 = (.pointer (some ⟨g, 0, none⟩)) := hV 0 (by decide)
          have e1 : x 1 = (.pointer (some ⟨w.heap.size, 0, none⟩)) := hV 1 (by decide)
          have e2 : x 2 = (.int .i64 (P)) := hV 2 (by decide)
          have e3 : x 3 = (.agg #[.int .i64 P, .slice A n c]) := hV 3 (by decide)
          have e4 : x 4 = (.int .i64 (pw n)) := hV 4 (by decide)
          obtain ⟨A5, c5, X5, e5, l5, n5, h5⟩ := hV 5 (by decide)
          have e6 : x 6 = (.int .i64 (rn)) := hV 6 (by decide)
          obtain ⟨A7, c7, X7, e7, l7, n7, h7⟩ := hV 7 (by decide)
          obtain ⟨q0, q1⟩ := hS.1.two
          go_simp
          exact hK.out _ _ _ rfl rfl ⟨_, _, X7, rfl, l7, n7, h7⟩ (Below.refl _ _)
        simp only [List.setIfInBounds_toArray, List.set_cons_zero, List.set_cons_succ]
        refine fun w' hS hV => ?_
        have e0 : x 0 = (.pointer (some ⟨g, 0, none⟩)) := hV 0 (by decide)
        have e1 : x 1 = (.pointer (some ⟨w.heap.size, 0, none⟩)) := hV 1 (by decide)
        have e2 : x 2 = (.int .i64 (P)) := hV 2 (by decide)
        have e3 : x 3 = (.agg #[.int .i64 P, .slice A n c]) := hV 3 (by decide)
        have e4 : x 4 = (.int .i64 (pw n)) := hV 4 (by decide)
        obtain ⟨A5, c5, X5, e5, l5, n5, h5⟩ := hV 5 (by decide)
        have e6 : x 6 = (.int .i64 (rn)) := hV 6 (by decide)
        obtain ⟨A7, c7, X7, e7, l7, n7, h7⟩ := hV 7 (by decide)
        obtain ⟨A8, c8, X8, e8, l8, n8, h8⟩ := hV 8 (by decide)
        simp only [e0, e1, e2, e3, e4, e5, e6, e7, e8]
        clear e0 e1 e2 e3 e4 e5 e6 e7 e8
        refine wpAny_done (by kernel_rfl) ?_ _
        obtain ⟨_, _, d9⟩ := hS
        go_wp2
        go_ret
        exact ⟨_, _, rfl, ⟨X8, h8⟩, d9⟩
      · have e2 : (r == 2) = false := by simp [h2]
        by_cases h3 : r = 3
        · have e3 : (r == 3) = true := by simp [h3]
          rcases hO3.form with ⟨_, hzz⟩ | ⟨g2, rfl, hga, hgb⟩
          · omega
          have hnx := next_any g 4 w3 d3.s' (by omega)
          go_wp2_with fail
          refine hnx.mono ?_
          rintro e w5 ⟨rr, rfl, hr3, hr4, hd5⟩
          obtain ⟨rn, rfl⟩ : ∃ rn : Nat, rr = rn := ⟨rr.toNat, by omega⟩
          have d5 := d3.trans hd5
          have k5 := k3.dr hd5 (by decide)
          have o5 := o3.dr hd5 (by decide)
          have h5 := hO3.dr hd5 (by decide)
          clear hnx d3 k3 o3 hO3 hd5
          go_wp2
          go_loopw [8] (fun q wr => ∃ (m : Nat) (X5 : List Int), m ≤ 4 ∧ q = .int .i64 m ∧ Own wr w.heap.size 2 (some ⟨g2, 0, none⟩) (pw n) c2 (ints X5) ∧ Blk wr w.heap.size 26 #[.int .i64 P, .slice A n c] ∧ Own wr 0 2 A n c (ints sq) ∧ Dr g 143 w wr) (fun q _ => (intOf q).toNat)
          case atStart => exact ⟨rn, _, by omega, rfl, h5, k5, o5, d5⟩
          case round =>
            clear h5 k5 o5 d5
            obtain ⟨m, X5, hm4, rfl, h5, k5, o5, d5⟩ := hrel
            cases m with
            | zero =>
              go_wp2
              go_ret
              exact ⟨_, _, rfl, ⟨X5, h5⟩, d5⟩
            | succ m =>
              have d1 : decide (0 < ((m + 1 : Nat) : Int)) = true := by rw [decide_eq_true_eq]; omega
              have WM : wrap64 (((m + 1 : Nat) : Int) - 1) = (m : Int) := by unfold wrap64; omega
              obtain ⟨q0, q1⟩ := k5.two
              go_wp2
              refine wp_obsR 10 (Dr g 143) [[], [], [], [2], [1, 2, 3], [], [], [6], [1, 2, 3, 4, 5, 6, 7], [0, 1, 2, 3, 4], [0, 1, 2, 3, 4, 5, 6, 7, 8, 9]] [[], [], [], [], [99], [], [], [], [99], []] (fun x => [VIs (.slice (some ⟨g2, 0, none⟩) (pw n) c2), VIs (.pointer (some ⟨g, 0, none⟩)), VIs (.agg #[.int .i64 P, .slice A n c]), VIs (.int .i64 (pw n)), VIx (pw n), VIs (.pointer (some ⟨g, 0, none⟩)), VIs (.pointer (some ⟨w.heap.size, 0, none⟩)), VIs (.int .i64 (P)), VNum, VPt g2 (pw n) (x 4)]) (fun w' => Blk w' w.heap.size 26 #[.int .i64 P, .slice A n c] ∧ Own w' 0 2 A n c (ints sq) ∧ Dr g 143 w w' ∧ Own w' w.heap.size 2 (some ⟨g2, 0, none⟩) (pw n) c2 (ints X5)) (by kernel_rfl) (by kernel_rfl) (fun x x' j hx => by
                  rcases j with _ | _ | _ | _ | _ | _ | _ | _ | _ | _ | j
                  · rfl
                  · rfl
                  · rfl
                  · rfl
                  · rfl
                  · rfl
                  · rfl
                  · rfl
                  · rfl
                  · rw [hx 4 (by decide)]
                  · rfl)
                (weak_ofR [0, 1, 2, 3, 4, 5, 6, 7, 8, 9] (by decide) (fun k hk x v w w' hp hr => by
                  simp only [List.mem_cons, List.not_mem_nil, or_false] at hk
                  rcases hk with rfl | rfl | rfl | rfl | rfl | rfl | rfl | rfl | rfl | rfl
                  · exact hp
                  · exact hp
                  · exact hp
                  · exact hp
                  · exact hp
                  · exact hp
                  · exact hp
                  · exact hp
                  · exact hp
                  · exact hp)) (fun j _ _ h hb => hb.either (fun hb => ⟨h.1.below hb h.1.lt, h.2.1.below hb, h.2.2.1.then hb, h.2.2.2.below hb⟩) (fun hr => ⟨h.1.dr hr (by decide), h.2.1.dr hr (by decide), h.2.2.1.trans hr, h.2.2.2.dr hr (by decide)⟩)) (⟨k5.drew, o5.below (Below.refl _ _).drew, d5.then (Below.refl _ _).drew, h5.below (Below.refl _ _).drew⟩) (fun x => ?_)
              refine obs_stepR (Eq.trans (by simp only [List.getElem?_toArray, List.getElem?_cons_zero]; exact rfl) rfl) rfl (fun w' hS hV K hK => ?_) ?_
              · obtain ⟨q0, q1⟩ := hS.1.two
                go_simp
                exact hK.out _ _ _ rfl rfl rfl (Below.refl _ _)
              simp only [List.setIfInBounds_toArray, List.set_cons_zero, List.set_cons_succ]
              refine obs_stepR (Eq.trans (by simp only [List.getElem?_toArray, List.getElem?_cons_succ, List.getElem?_cons_zero]; exact rfl) rfl) rfl (fun w' hS hV K hK => ?_) ?_
              · obtain ⟨q0, q1⟩ := hS.1.two
                go_simp
                exact hK.out _ _ _ rfl rfl rfl (Below.refl _ _)
              simp only [List.setIfInBounds_toArray, List.set_cons_zero, List.set_cons_succ]
              refine obs_stepR (Eq.trans (by simp only [List.getElem?_toArray, List.getElem?_cons_succ, List.getElem?_cons_zero]; exact rfl) rfl) rfl (fun w' hS hV K hK => ?_) ?_
              · obtain ⟨q0, q1⟩ := hS.1.two
                go_simp
                exact hK.out _ _ _ rfl rfl rfl (Below.refl _ _)
              simp only [List.setIfInBounds_toArray, List.set_cons_zero, List.set_cons_succ]
              refine obs_stepR (Eq.trans (by simp only [List.getElem?_toArray, List.getElem?_cons_succ, List.getElem?_cons_zero]; exact rfl) rfl) rfl (fun w' hS hV K hK => ?_) ?_
              · have e2 : x 2 = (.agg #[.int .i64 P, .slice A n c]) := hV 2 (by decide)
                obtain ⟨q0, q1⟩ := hS.1.two
                go_simp
                refine (l04Size_any P A n c w' (by omega)).mono ?_
                rintro e v1 ⟨rfl, hb⟩
                exact hK.out _ _ _ rfl rfl rfl hb
              simp only [List.setIfInBounds_toArray, List.set_cons_zero, List.set_cons_succ]
              refine obs_stepR (Eq.trans (by simp only [List.getElem?_toArray, List.getElem?_cons_succ, List.getElem?_cons_zero]; exact rfl) rfl) rfl (fun w' hS hV K hK => ?_) ?_
              · have e1 : x 1 = (.pointer (some ⟨g, 0, none⟩)) := hV 1 (by decide)
                have e2 : x 2 = (.agg #[.int .i64 P, .slice A n c]) := hV 2 (by decide)
                have e3 : x 3 = (.int .i64 (pw n)) := hV 3 (by decide)
                obtain ⟨q0, q1⟩ := hS.1.two
                go_simp
                refine (next_any g ((pw n : Nat) : Int) w' hS.2.2.1.s' (by omega)).mono ?_
                rintro e v1 ⟨rr, rfl, t1, t2, hd9⟩
                have t3 := t2 (by omega)
                obtain ⟨rn2, rfl⟩ : ∃ k : Nat, rr = k := ⟨rr.toNat, by omega⟩
                exact hK.out _ _ _ rfl rfl ⟨rn2, rfl, by omega⟩ hd9
              simp only [List.setIfInBounds_toArray, List.set_cons_zero, List.set_cons_succ]
              refine obs_stepR (Eq.trans (by simp only [List.getElem?_toArray, List.getElem?_cons_succ, List.getElem?_cons_zero]; exact rfl) rfl) rfl (fun w' hS hV K hK => ?_) ?_
              · obtain ⟨q0, q1⟩ := hS.1.two
                go_simp
                exact hK.out _ _ _ rfl rfl rfl (Below.refl _ _)
              simp only [List.setIfInBounds_toArray, List.set_cons_zero, List.set_cons_succ]
              refine obs_stepR (Eq.trans (by simp only [List.getElem?_toArray, List.getElem?_cons_succ, List.getElem?_cons_zero]; exact rfl) rfl) rfl (fun w' hS hV K hK => ?_) ?_
              · obtain ⟨q0, q1⟩ := hS.1.two
                go_simp
                exact hK.out _ _ _ rfl rfl rfl (Below.refl _ _)
              simp only [List.setIfInBounds_toArray, List.set_cons_zero, List.set_cons_succ]
              refine obs_stepR (Eq.trans (by simp only [List.getElem?_toArray, List.getElem?_cons_succ, List.getElem?_cons_zero]; exact rfl) rfl) rfl (fun w' hS hV K hK => ?_) ?_
              · have e6 : x 6 = (.pointer (some ⟨w.heap.size, 0, none⟩)) := hV 6 (by decide)
                obtain ⟨q0, q1⟩ := hS.1.two
                go_simp
                exact hK.out _ _ _ rfl rfl rfl (Below.refl _ _)
              simp only [List.setIfInBounds_toArray, List.set_cons_zero, List.set_cons_succ]
              refine obs_stepR (Eq.trans (by simp only [List.getElem?_toArray, List.getElem?_cons_succ, List.getElem?_cons_zero]; exact rfl) rfl) rfl (fun w' hS hV K hK => ?_) ?_
              · have e1 : x 1 = (.pointer (some ⟨g, 0, none⟩)) := hV 1 (by decide)
                have e2 : x 2 = (.agg #[.int .i64 P, .slice A n c]) := hV 2 (by decide)
                have e3 : x 3 = (.int .i64 (pw n)) := hV 3 (by decide)
                obtain ⟨rx, e4, lx⟩ := hV 4 (by decide)
                have e5 : x 5 = (.pointer (some ⟨g, 0, none⟩)) := hV 5 (by decide)
                have e6 : x 6 = (.pointer (some ⟨w.heap.size, 0, none⟩)) := hV 6 (by decide)
                have e7 : x 7 = (.int .i64 (P)) := hV 7 (by decide)
                obtain ⟨q0, q1⟩ := hS.1.two
                go_simp
                refine (next_any g P w' hS.2.2.1.s' (by omega)).mono ?_
                rintro e v1 ⟨rr, rfl, t1, t2, hd9⟩
                exact hK.out _ _ _ rfl rfl ⟨_, rfl⟩ hd9
              simp only [List.setIfInBounds_toArray, List.set_cons_zero, List.set_cons_succ]
              refine obs_stepR (Eq.trans (by simp only [List.getElem?_toArray, List.getElem?_cons_succ, List.getElem?_cons_zero]; exact rfl) rfl) rfl (fun w' hS hV K hK => ?_) ?_
              · have e0 : x 0 = (.slice (some ⟨g2, 0, none⟩) (pw n) c2) := hV 0 (by decide)
                have e1 : x 1 = (.pointer (some ⟨g, 0, none⟩)) := hV 1 (by decide)
                have e2 : x 2 = (.agg #[.int .i64 P, .slice A n c]) := hV 2 (by decide)
                have e3 : x 3 = (.int .i64 (pw n)) := hV 3 (by decide)
                obtain ⟨rx, e4, lx⟩ := hV 4 (by decide)
                obtain ⟨q0, q1⟩ := hS.1.two
                have b1 : (0 : Int) ≤ (rx : Int) := by omega
                have b2 : (rx : Int) < ((pw n : Nat) : Int) := by omega
                go_simp
                exact hK.out _ _ _ rfl rfl ⟨rx, e4, lx, rfl⟩ (Below.refl _ _)
              simp only [List.setIfInBounds_toArray, List.set_cons_zero, List.set_cons_succ]
              refine fun w' hS hV => ?_
              have e0 : x 0 = (.slice (some ⟨g2, 0, none⟩) (pw n) c2) := hV 0 (by decide)
              have e1 : x 1 = (.pointer (some ⟨g, 0, none⟩)) := hV 1 (by decide)
              have e2 : x 2 = (.agg #[.int .i64 P, .slice A n c]) := hV 2 (by decide)
              have e3 : x 3 = (.int .i64 (pw n)) := hV 3 (by decide)
              obtain ⟨rx, e4, lx⟩ := hV 4 (by decide)
              have e5 : x 5 = (.pointer (some ⟨g, 0, none⟩)) := hV 5 (by decide)
              have e6 : x 6 = (.pointer (some ⟨w.heap.size, 0, none⟩)) := hV 6 (by decide)
              have e7 : x 7 = (.int .i64 (P)) := hV 7 (by decide)
              obtain ⟨rv, e8⟩ := hV 8 (by decide)
              obtain ⟨ry, f9, ly, e9⟩ := hV 9 (by decide)
              simp only [e0, e1, e2, e3, e4, e5, e6, e7, e8, e9]
              clear e0 e1 e2 e3 e4 e5 e6 e7 e8 e9
              obtain ⟨k6, o6, d6, h6⟩ := hS
              obtain ⟨w6, rfl⟩ : ∃ W, W = w' := ⟨_, rfl⟩
              obtain ⟨u1, hc1⟩ := h6.cellI ly
              have hf1 := h6.frozen_ ry
              refine any_one (j := 10) (by kernel_rfl) (Eq.trans (by simp only [List.getElem?_toArray, List.getElem?_cons_succ, List.getElem?_cons_zero]; exact rfl) rfl) (fun K hK => ?_)
              go_simp
              refine hK.out _ _ (wpAny_done (by kernel_rfl) ?_ _)
              obtain ⟨h7, hg7⟩ := h6.set_ ry (.int .i64 rv)
              rw [ints_set] at h7
              have k7 := k6.grown hg7 (h6.ne_blk k6 (by decide))
              have d7 := d6.grown h6 hg7
              have o7 := o6.grown hg7 (by
                cases hbk : (Value.slice A n c).ownBlock with
                | none => exact .inl rfl
                | some gb => right; intro e; have := hSQ gb hbk; injection e with e; omega)
              clear k6 o6 d6 h6 hg7 hc1 hf1 k5 o5 d5 h5 q0 q1
              go_wp2
              go_roundw
              case rel => exact ⟨m, _, by omega, by go_num, h7, k7, o7, d7⟩
              case measure => simp [intOf]
        · have e3 : (r == 3) = false := by simp [h3]
          obtain ⟨q0, q1⟩ := k3.two
          go_wp2
          refine wp_obsR 7 (Dr g 143) [[], [], [1], [], [3], [0, 1, 2, 3, 4], [0, 1, 2, 3, 4, 5]] [[], [], [], [], [], [99], []] (fun x => [VIs (.pointer (some ⟨g, 0, none⟩)), VIs (.pointer (some ⟨w.heap.size, 0, none⟩)), VIs (.int .i64 (P)), VIs (.agg #[.int .i64 P, .slice A n c]), VIs (.int .i64 (pw n)), VLs w.heap.size (pw n) P, VLs w.heap.size (pw n) P]) (fun w' => Blk w' w.heap.size 26 #[.int .i64 P, .slice A n c] ∧ Own w' 0 2 A n c (ints sq) ∧ Dr g 143 w w') (by kernel_rfl) (by kernel_rfl) (fun x x' j hx => by
              rcases j with _ | _ | _ | _ | _ | _ | _ | j
              · rfl
              · rfl
              · rfl
              · rfl
              · rfl
              · rfl
              · rfl
              · rfl)
            (weak_ofR [0, 1, 2, 3, 4, 5, 6] (by decide) (fun k hk x v w w' hp hr => by
              simp only [List.mem_cons, List.not_mem_nil, or_false] at hk
              rcases hk with rfl | rfl | rfl | rfl | rfl | rfl | rfl
              · exact hp
              · exact hp
              · exact hp
              · exact hp
              · exact hp
              · exact VLs.dr hp hr (by decide)
              · exact VLs.dr hp hr (by decide))) (fun j _ _ h hb => hb.either (fun hb => ⟨h.1.below hb h.1.lt, h.2.1.below hb, h.2.2.then hb⟩) (fun hr => ⟨h.1.dr hr (by decide), h.2.1.dr hr (by decide), h.2.2.trans hr⟩)) (⟨k3.drew, o3.below (Below.refl _ _).drew, d3.then (Below.refl _ _).drew⟩) (fun x => ?_)
          refine obs_stepR (Eq.trans (by simp only [List.getElem?_toArray, List.getElem?_cons_zero]; exact rfl) rfl) rfl (fun w' hS hV K hK => ?_) ?_
          · obtain ⟨q0, q1⟩ := hS.1.two
            go_simp
            exact hK.out _ _ _ rfl rfl rfl (Below.refl _ _)
          simp only [List.setIfInBounds_toArray, List.set_cons_zero, List.set_cons_succ]
          refine obs_stepR (Eq.trans (by simp only [List.getElem?_toArray, List.getElem?_cons_succ, List.getElem?_cons_zero]; exact rfl) rfl) rfl (fun w' hS hV K hK => ?_) ?_
          · obtain ⟨q0, q1⟩ := hS.1.two
            go_simp
            exact hK.out _ _ _ rfl rfl rfl (Below.refl _ _)
          simp only [List.setIfInBounds_toArray, List.set_cons_zero, List.set_cons_succ]
          refine obs_stepR (Eq.trans (by simp only [List.getElem?_toArray, List.getElem?_cons_succ, List.getElem?_cons_zero]; exact rfl) rfl) rfl (fun w' hS hV K hK => ?_) ?_
          · have e1 : x 1 = (.pointer (some ⟨w.heap.size, 0, none⟩)) := hV 1 (by decide)
            obtain ⟨q0, q1⟩ := hS.1.two
            go_simp
            exact hK.out _ _ _ rfl rfl rfl (Below.refl _ _)
          simp only [List.setIfInBounds_toArray, List.set_cons_zero, List.set_cons_succ]
          refine obs_stepR (Eq.trans (by simp only [List.getElem?_toArray, List.getElem?_cons_succ, List.getElem?_cons_zero]; exact rfl) rfl) rfl (fun w' hS hV K hK => ?_) ?_
          · obtain ⟨q0, q1⟩ := hS.1.two
            go_simp
            exact hK.out _ _ _ rfl rfl rfl (Below.refl _ _)
          simp only [List.setIfInBounds_toArray, List.set_cons_zero, List.set_cons_succ]
          refine obs_stepR (Eq.trans (by simp only [List.getElem?_toArray, List.getElem?_cons_succ, List.getElem?_cons_zero]; exact rfl) rfl) rfl (fun w' hS hV K hK => ?_) ?_
          · have e3 : x 3 = (.agg #[.int .i64 P, .slice A n c]) := hV 3 (by decide)
            obtain ⟨q0, q1⟩ := hS.1.two
            go_simp
            refine (l04Size_any P A n c w' (by omega)).mono ?_
            rintro e v1 ⟨rfl, hb⟩
            exact hK.out _ _ _ rfl rfl rfl hb
          simp only [List.setIfInBounds_toArray, List.set_cons_zero, List.set_cons_succ]
          refine obs_stepR (Eq.trans (by simp only [List.getElem?_toArray, List.getElem?_cons_succ, List.getElem?_cons_zero]; exact rfl) rfl) rfl (fun w' hS hV K hK => ?_) ?_
          · have e0 : x 0 = (.pointer (some ⟨g, 0, none⟩)) := hV 0 (by decide)
            have e1 : x 1 = (.pointer (some ⟨w.heap.size, 0, none⟩)) := hV 1 (by decide)
            have e2 : x 2 = (.int .i64 (P)) := hV 2 (by decide)
            have e3 : x 3 = (.agg #[.int .i64 P, .slice A n c]) := hV 3 (by decide)
            have e4 : x 4 = (.int .i64 (pw n)) := hV 4 (by decide)
            obtain ⟨q0, q1⟩ := hS.1.two
            go_simp
            refine (nextList_any g P (pw n) w' hS.2.2.s' (by omega) (by omega)).mono ?_
            rintro e v1 ⟨A9, c9, xs9, rfl, hl9, hx9, ho9, hd9⟩
            exact hK.out _ _ _ rfl rfl ⟨_, _, xs9, rfl, hl9, nums_of (by omega) hx9, ho9.base hS.2.2.size⟩ hd9
          simp only [List.setIfInBounds_toArray, List.set_cons_zero, List.set_cons_succ]
          refine obs_stepR (Eq.trans (by simp only [List.getElem?_toArray, List.getElem?_cons_succ, List.getElem?_cons_zero]; exact rfl) rfl) rfl (fun w' hS hV K hK => ?_) ?_
          · have e0 : x 0 = (.pointer (some ⟨g, 0, none⟩)) := hV 0 (by decide)
            have e1 : x 1 = (.pointer (some ⟨w.heap.size, 0, none⟩)) := hV 1 (by decide)
            have e2 : x 2 = (.int .i64 (P)) := hV 2 (by decide)
            have e3 : x 3 = (.agg #[.int .i64 P, .slice A n c]) := hV 3 (by decide)
            have e4 : x 4 = (.int .i64 (pw n)) := hV 4 (by decide)
            obtain ⟨A5, c5, X5, e5, l5, n5, h5⟩ := hV 5 (by decide)
            obtain ⟨q0, q1⟩ := hS.1.two
            go_simp
            exact hK.out _ _ _ rfl rfl ⟨_, _, X5, rfl, l5, n5, h5⟩ (Below.refl _ _)
          simp only [List.setIfInBounds_toArray, List.set_cons_zero, List.set_cons_succ]
          refine fun w' hS hV => ?_
          have e0 : x 0 = (.pointer (some ⟨g, 0, none⟩)) := hV 0 (by decide)
          have e1 : x 1 = (.pointer (some ⟨w.heap.size, 0, none⟩)) := hV 1 (by decide)
          have e2 : x 2 = (.int .i64 (P)) := hV 2 (by decide)
          have e3 : x 3 = (.agg #[.int .i64 P, .slice A n c]) := hV 3 (by decide)
          have e4 : x 4 = (.int .i64 (pw n)) := hV 4 (by decide)
          obtain ⟨A5, c5, X5, e5, l5, n5, h5⟩ := hV 5 (by decide)
          obtain ⟨A6, c6, X6, e6, l6, n6, h6⟩ := hV 6 (by decide)
          simp only [e0, e1, e2, e3, e4, e5, e6]
          clear e0 e1 e2 e3 e4 e5 e6
          refine wpAny_done (by kernel_rfl) ?_ _
          obtain ⟨_, _, d9⟩ := hS
          go_wp2
          go_ret
          exact ⟨_, _, rfl, ⟨X6, h6⟩, d9⟩
end Go.Proofs.YtggigolkncckoaaGreat
namespace Go.Proofs.YtggigolkncckoaaGreat
open Go.RowKit
theorem nums_drawn {P : Int} {xs : List Int} (h : nums P xs = true) : NumsL P xs := fun x hx => by
  have := List.all_eq_true.1 h x hx
  simp [inR] at this
  omega
set_option maxHeartbeats 6400000 in
set_option maxRecDepth 8000 in
theorem l04Spoil_any (g : Nat) (P : Int) (A : Option Addr) (n c : Nat) (sq : List Int) (w : World) (hs : Src w g 143) (hn : n ≤ 1048576) (ho : Own w 0 2 A n c (ints sq)) :
    Calls Tryz.prog 176 #[.pointer (some ⟨g, 0, none⟩), .agg #[.int .i64 P, .slice A n c]] w fun e w' => ∃ (A' : Option Addr) (m c' : Nat), e = .returned (.slice A' m c') ∧ m ≤ 100 ∧ (∃ xs : List Int, Own w' w.heap.size 2 A' m c' (ints xs)) ∧ Dr g 143 w w' := by
  have hsl : sq.length = n := ho.rd.lenI
  have k0 : Blk (w.alloc (.cells #[.int .i64 P, .slice A n c] 26)) w.heap.size 26 #[.int .i64 P, .slice A n c] := Blk.new _ _ _
  have d0 := (Dr.refl hs).alloc (.cells #[.int .i64 P, .slice A n c] 26)
  have o0 := ho.below ((Below.refl _ _).alloc (Nat.le_refl _) (.cells #[.int .i64 P, .slice A n c] 26))
  have hSQ : ∀ gb, (Value.slice A n c).ownBlock = some gb → gb < w.heap.size := fun gb e => (World.ownsRow.lt ho gb e).2
  cases h1 : isSp P sq
  · have H1 := Lib.hid h1
    clear h1
    go_enter Tryz.func176, Tryz.ntmps176
    go_wp2_with fail
    refine (l03Is_b _ _ _ _ _ _ (by omega) o0.rd H1.out).mono ?_
    rintro e w2 ⟨rfl, hb⟩
    have d2 := d0.then hb
    have hM := (Mk.lit (E := 2) (Below.refl w2.heap.size w2) #[.int .i64 1, .int .i64 0] (by simp [maxLen])).2.base (B' := w.heap.size) d2.size
    have d3 := d2.alloc (.cells #[.int .i64 1, .int .i64 0] 2)
    clear hb d2 d0 o0 k0
    go_wp2
    go_ret
    exact ⟨_, 2, _, rfl, by omega, ⟨[1, 0], by simpa [ints] using hM⟩, d3⟩
  · obtain ⟨hP, hn1, hn2, hq⟩ := isSp_dim h1
    obtain ⟨hp3, hp2⟩ := isP_ge hP
    have HQ := Lib.hid (nums_drawn hq)
    have H1 := Lib.hid h1
    rw [hsl] at hn1 hn2
    have hpw : pw n ≤ 64 := pw_le hn2
    have hpn := pw_pos n
    clear h1 hP hq
    go_enter Tryz.func176, Tryz.ntmps176
    go_wp2_with fail
    refine (l03Is_b _ _ _ _ _ _ (by omega) o0.rd H1.out).mono ?_
    rintro e w2 ⟨rfl, hb⟩
    have d2 := d0.then hb
    have k2 := k0.below hb k0.lt
    have o2 := o0.below hb
    have hdr := l04Draw_any g P A n c sq w2 d2.s' (by omega) hp2 hn2 hn1 o2 HQ.out
    clear hb d0 o0 k0
    obtain ⟨q0, q1⟩ := k2.two
    go_wp2_with fail
    refine hdr.mono ?_
    rintro e w3 ⟨A2, c2, rfl, ⟨X5, h3⟩, hd3⟩
    have d3 := d2.trans hd3
    have k3 := k2.dr hd3 (by decide)
    have o3 := o2.dr hd3 (by decide)
    have h3' := h3.base (B' := w.heap.size) d2.size
    have hnx := next_any g 30 w3 d3.s' (by omega)
    clear hdr d2 k2 o2 h3 hd3 q0 q1
    go_wp2_with fail
    refine hnx.mono ?_
    rintro e w4 ⟨r, rfl, hr1, hr2, hd4⟩
    have d5 := d3.trans hd4
    have k5 := k3.dr hd4 (by decide)
    have o5 := o3.dr hd4 (by decide)
    have h5 := h3'.dr hd4 (by decide)
    clear hnx d3 k3 o3 h3' hd4
    by_cases h0 : r = 0
    · have e0 : (r == 0) = true := by simp [h0]
      have H5 := Lib.hid h5
      clear h5
      go_wp2_with (first
        | (at_builtin; (refine wpList_app1 (cutW w4 w.heap.size) w4 24 2 _ _ Tryz.underlying24 info_i rfl (by omega) rfl _ _ rfl A2 (pw n) c2 _ _ (H5.out.mk_ d5.size) (by omega) rfl rfl rfl ?_; intro A9 c9 w9 hM9 hg9 _)))
      have hO9 := hM9.own_ (cutW_size d5.size)
      have d9 := d5.grown H5.out hg9
      clear hM9 hg9
      go_wp2
      go_ret
      exact ⟨A9, pw n + 1, c9, rfl, by omega, ⟨X5 ++ [0], by simpa [ints] using hO9⟩, d9⟩
    · have e0 : (r == 0) = false := by simp [h0]
      by_cases h1 : r = 1
      · have e1 : (r == 1) = true := by simp [h1]
        rcases h5.form with ⟨_, hzz⟩ | ⟨g2, rfl, hga, hgb⟩
        · omega
        obtain ⟨q0, q1⟩ := k5.two
        go_wp2
        refine wp_obsR 11 (Dr g 143) [[], [], [], [2], [1, 2, 3], [], [], [6], [6, 7], [1, 2, 3, 4, 5, 6, 7, 8], [0, 1, 2, 3, 4], [0, 1, 2, 3, 4, 5, 6, 7, 8, 9, 10]] [[], [], [], [], [99], [], [], [], [], [8], []] (fun x => [VIs (.slice (some ⟨g2, 0, none⟩) (pw n) c2), VIs (.pointer (some ⟨g, 0, none⟩)), VIs (.agg #[.int .i64 P, .slice A n c]), VIs (.int .i64 (pw n)), VIx (pw n), VIs (.pointer (some ⟨g, 0, none⟩)), VIs (.pointer (some ⟨w.heap.size, 0, none⟩)), VIs (.int .i64 (P)), VBs 2 #[.int .i64 (-1), .int .i64 P], VNum, VPt g2 (pw n) (x 4)]) (fun w' => Blk w' w.heap.size 26 #[.int .i64 P, .slice A n c] ∧ Own w' 0 2 A n c (ints sq) ∧ Dr g 143 w w' ∧ Own w' w.heap.size 2 (some ⟨g2, 0, none⟩) (pw n) c2 (ints X5)) (by kernel_rfl) (by kernel_rfl) (fun x x' j hx => by
            rcases j with _ | _ | _ | _ | _ | _ | _ | _ | _ | _ | _ | j
            · rfl
            · rfl
            · rfl
            · rfl
            · rfl
            · rfl
            · rfl
            · rfl
            · rfl
            · rfl
            · rw [hx 4 (by decide)]
            · rfl)
          (weak_ofR [0, 1, 2, 3, 4, 5, 6, 7, 8, 9, 10] (by decide) (fun k hk x v w w' hp hr => by
            simp only [List.mem_cons, List.not_mem_nil, or_false] at hk
            rcases hk with rfl | rfl | rfl | rfl | rfl | rfl | rfl | rfl | rfl | rfl | rfl
            · exact hp
            · exact hp
            · exact hp
            · exact hp
            · exact hp
            · exact hp
            · exact hp
            · exact hp
            · obtain ⟨G9, e9, b9⟩ := hp; exact ⟨G9, e9, b9.dr hr (by decide)⟩
            · exact hp
            · exact hp)) (fun j _ _ h hb => hb.either (fun hb => ⟨h.1.below hb h.1.lt, h.2.1.below hb, h.2.2.1.then hb, h.2.2.2.below hb⟩) (fun hr => ⟨h.1.dr hr (by decide), h.2.1.dr hr (by decide), h.2.2.1.trans hr, h.2.2.2.dr hr (by decide)⟩)) (⟨k5.drew, o5.below (Below.refl _ _).drew, d5.then (Below.refl _ _).drew, h5.below (Below.refl _ _).drew⟩) (fun x => ?_)
        refine obs_stepR (Eq.trans (by simp only [List.getElem?_toArray, List.getElem?_cons_zero]; exact rfl) rfl) rfl (fun w' hS hV K hK => ?_) ?_
        · obtain ⟨q0, q1⟩ := hS.1.two
          go_simp
          exact hK.out _ _ _ rfl rfl rfl (Below.refl _ _)
        simp only [List.setIfInBounds_toArray, List.set_cons_zero, List.set_cons_succ]
        refine obs_stepR (Eq.trans (by simp only [List.getElem?_toArray, List.getElem?_cons_succ, List.getElem?_cons_zero]; exact rfl) rfl) rfl (fun w' hS hV K hK => ?_) ?_
        · obtain ⟨q0, q1⟩ := hS.1.two
          go_simp
          exact hK.out _ _ _ rfl rfl rfl (Below.refl _ _)
        simp only [List.setIfInBounds_toArray, List.set_cons_zero, List.set_cons_succ]
        refine obs_stepR (Eq.trans (by simp only [List.getElem?_toArray, List.getElem?_cons_succ, List.getElem?_cons_zero]; exact rfl) rfl) rfl (fun w' hS hV K hK => ?_) ?_
        · obtain ⟨q0, q1⟩ := hS.1.two
          go_simp
          exact hK.out _ _ _ rfl rfl rfl (Below.refl _ _)
        simp only [List.setIfInBounds_toArray, List.set_cons_zero, List.set_cons_succ]
        refine obs_stepR (Eq.trans (by simp only [List.getElem?_toArray, List.getElem?_cons_succ, List.getElem?_cons_zero]; exact rfl) rfl) rfl (fun w' hS hV K hK => ?_) ?_
        · have e2 : x 2 = (.agg #[.int .i64 P, .slice A n c]) := hV 2 (by decide)
          obtain ⟨q0, q1⟩ := hS.1.two
          go_simp
          refine (l04Size_any P A n c w' (by omega)).mono ?_
          rintro e v1 ⟨rfl, hb⟩
          exact hK.out _ _ _ rfl rfl rfl hb
        simp only [List.setIfInBounds_toArray, List.set_cons_zero, List.set_cons_succ]
        refine obs_stepR (Eq.trans (by simp only [List.getElem?_toArray, List.getElem?_cons_succ, List.getElem?_cons_zero]; exact rfl) rfl) rfl (fun w' hS hV K hK => ?_) ?_
        · have e1 : x 1 = (.pointer (some ⟨g, 0, none⟩)) := hV 1 (by decide)
          have e2 : x 2 = (.agg #[.int .i64 P, .slice A n c]) := hV 2 (by decide)
          have e3 : x 3 = (.int .i64 (pw n)) := hV 3 (by decide)
          obtain ⟨q0, q1⟩ := hS.1.two
          go_simp
          refine (next_any g ((pw n : Nat) : Int) w' hS.2.2.1.s' (by omega)).mono ?_
          rintro e v1 ⟨rr, rfl, t1, t2, hd9⟩
          have t3 := t2 (by omega)
          obtain ⟨rn2, rfl⟩ : ∃ k : Nat, rr = k := ⟨rr.toNat, by omega⟩
          exact hK.out _ _ _ rfl rfl ⟨rn2, rfl, by omega⟩ hd9
        simp only [List.setIfInBounds_toArray, List.set_cons_zero, List.set_cons_succ]
        refine obs_stepR (Eq.trans (by simp only [List.getElem?_toArray, List.getElem?_cons_succ, List.getElem?_cons_zero]; exact rfl) rfl) rfl (fun w' hS hV K hK => ?_) ?_
        · obtain ⟨q0, q1⟩ := hS.1.two
          go_simp
          exact hK.out _ _ _ rfl rfl rfl (Below.refl _ _)
        simp only [List.setIfInBounds_toArray, List.set_cons_zero, List.set_cons_succ]
        refine obs_stepR (Eq.trans (by simp only [List.getElem?_toArray, List.getElem?_cons_succ, List.getElem?_cons_zero]; exact rfl) rfl) rfl (fun w' hS hV K hK => ?_) ?_
        · obtain ⟨q0, q1⟩ := hS.1.two
          go_simp
          exact hK.out _ _ _ rfl rfl rfl (Below.refl _ _)
        simp only [List.setIfInBounds_toArray, List.set_cons_zero, List.set_cons_succ]
        refine obs_stepR (Eq.trans (by simp only [List.getElem?_toArray, List.getElem?_cons_succ, List.getElem?_cons_zero]; exact rfl) rfl) rfl (fun w' hS hV K hK => ?_) ?_
        · have e6 : x 6 = (.pointer (some ⟨w.heap.size, 0, none⟩)) := hV 6 (by decide)
          obtain ⟨q0, q1⟩ := hS.1.two
          go_simp
          exact hK.out _ _ _ rfl rfl rfl (Below.refl _ _)
        simp only [List.setIfInBounds_toArray, List.set_cons_zero, List.set_cons_succ]
        refine obs_stepR (Eq.trans (by simp only [List.getElem?_toArray, List.getElem?_cons_succ, List.getElem?_cons_zero]; exact rfl) rfl) rfl (fun w' hS hV K hK => ?_) ?_
        · have e6 : x 6 = (.pointer (some ⟨w.heap.size, 0, none⟩)) := hV 6 (by decide)
          have e7 : x 7 = (.int .i64 (P)) := hV 7 (by decide)
          obtain ⟨q0, q1⟩ := hS.1.two
          go_simp
          exact hK.out _ _ _ rfl rfl ⟨_, rfl, Blk.new _ _ _⟩ ((Below.refl _ _).alloc (Nat.le_refl _) _)
        simp only [List.setIfInBounds_toArray, List.set_cons_zero, List.set_cons_succ]
        refine obs_stepR (Eq.trans (by simp only [List.getElem?_toArray, List.getElem?_cons_succ, List.getElem?_cons_zero]; exact rfl) rfl) rfl (fun w' hS hV K hK => ?_) ?_
        · have e1 : x 1 = (.pointer (some ⟨g, 0, none⟩)) := hV 1 (by decide)
          have e2 : x 2 = (.agg #[.int .i64 P, .slice A n c]) := hV 2 (by decide)
          have e3 : x 3 = (.int .i64 (pw n)) := hV 3 (by decide)
          obtain ⟨rx, e4, lx⟩ := hV 4 (by decide)
          have e5 : x 5 = (.pointer (some ⟨g, 0, none⟩)) := hV 5 (by decide)
          have e6 : x 6 = (.pointer (some ⟨w.heap.size, 0, none⟩)) := hV 6 (by decide)
          have e7 : x 7 = (.int .i64 (P)) := hV 7 (by decide)
          obtain ⟨G5, e5, b5⟩ := hV 8 (by decide)
          obtain ⟨q0, q1⟩ := hS.1.two
          go_simp
          refine (pick_any g G5 [-1, P] _ hS.2.2.1.s' (by rw [ints2]; exact b5) (by simp) (by simp)).mono ?_
          rintro e v1 ⟨r1, _, rfl, hr⟩
          exact hK.out _ _ _ rfl rfl ⟨_, rfl⟩ hr
        simp only [List.setIfInBounds_toArray, List.set_cons_zero, List.set_cons_succ]
        refine obs_stepR (Eq.trans (by simp only [List.getElem?_toArray, List.getElem?_cons_succ, List.getElem?_cons_zero]; exact rfl) rfl) rfl (fun w' hS hV K hK => ?_) ?_
        · have e0 : x 0 = (.slice (some ⟨g2, 0, none⟩) (pw n) c2) := hV 0 (by decide)
          have e1 : x 1 = (.pointer (some ⟨g, 0, none⟩)) := hV 1 (by decide)
          have e2 : x 2 = (.agg #[.int .i64 P, .slice A n c]) := hV 2 (by decide)
          have e3 : x 3 = (.int .i64 (pw n)) := hV 3 (by decide)
          obtain ⟨rx, e4, lx⟩ := hV 4 (by decide)
          obtain ⟨q0, q1⟩ := hS.1.two
          have b1 : (0 : Int) ≤ (rx : Int) := by omega
          have b2 : (rx : Int) < ((pw n : Nat) : Int) := by omega
          go_simp
          exact hK.out _ _ _ rfl rfl ⟨rx, e4, lx, rfl⟩ (Below.refl _ _)
        simp only [List.setIfInBounds_toArray, List.set_cons_zero, List.set_cons_succ]
        refine fun w' hS hV => ?_
        have e0 : x 0 = (.slice (some ⟨g2, 0, none⟩) (pw n) c2) := hV 0 (by decide)
        have e1 : x 1 = (.pointer (some ⟨g, 0, none⟩)) := hV 1 (by decide)
        have e2 : x 2 = (.agg #[.int .i64 P, .slice A n c]) := hV 2 (by decide)
        have e3 : x 3 = (.int .i64 (pw n)) := hV 3 (by decide)
        obtain ⟨rx, e4, lx⟩ := hV 4 (by decide)
        have e5 : x 5 = (.pointer (some ⟨g, 0, none⟩)) := hV 5 (by decide)
        have e6 : x 6 = (.pointer (some ⟨w.heap.size, 0, none⟩)) := hV 6 (by decide)
        have e7 : x 7 = (.int .i64 (P)) := hV 7 (by decide)
        obtain ⟨rv, e9⟩ := hV 9 (by decide)
        obtain ⟨ry, f10, ly, e10⟩ := hV 10 (by decide)
        simp only [e0, e1, e2, e3, e4, e5, e6, e7, e9, e10]
        clear e0 e1 e2 e3 e4 e5 e6 e7 e9 e10
        obtain ⟨k6, o6, d6, h6⟩ := hS
        obtain ⟨w6, rfl⟩ : ∃ W, W = w' := ⟨_, rfl⟩
        obtain ⟨u1, hc1⟩ := h6.cellI ly
        have hf1 := h6.frozen_ ry
        refine any_one (j := 11) (by kernel_rfl) (Eq.trans (by simp only [List.getElem?_toArray, List.getElem?_cons_succ, List.getElem?_cons_zero]; exact rfl) rfl) (fun K hK => ?_)
        go_simp
        refine hK.out _ _ (wpAny_done (by kernel_rfl) ?_ _)
        obtain ⟨h7, hg7⟩ := h6.set_ ry (.int .i64 rv)
        rw [ints_set] at h7
        have d7 := d6.grown h6 hg7
        clear k6 o6 d6 h6 hg7 hc1 hf1 k5 o5 d5 h5 q0 q1
        go_wp2
        go_ret
        exact ⟨_, _, _, rfl, by omega, ⟨_, h7⟩, d7⟩
      · have e1 : (r == 1) = false := by simp [h1]
        go_wp2
        go_ret
        exact ⟨A2, pw n, c2, rfl, by omega, ⟨X5, h5⟩, d5⟩
end Go.Proofs.YtggigolkncckoaaGreat
namespace Go.Proofs.YtggigolkncckoaaGreat
open Go.RowKit
/-- The value is a list of at most 100 numbers that was made since the heap had B blocks. -/
def VLx (B : Nat) : VP := ⟨fun v w => ∃ (A : Option Addr) (m c : Nat) (xs : List Int), v = .slice A m c ∧ m ≤ 100 ∧ Own w B 2 A m c (ints xs), fun _ _ _ ⟨A, m, c, xs, e, hm, ho⟩ hb => ⟨A, m, c, xs, e, hm, ho.below hb⟩⟩
theorem VLx.dr {B g : Nat} {T : TypeId} {v : Value} {w w' : World} (h : (VLx B).p v w) (d : Dr g T w w') (hT : 2 ≠ T) : (VLx B).p v w' := by
  obtain ⟨A, m, c, xs, e, hm, ho⟩ := h
  exact ⟨A, m, c, xs, e, hm, ho.dr d hT⟩
end Go.Proofs.YtggigolkncckoaaGreat
namespace Go.Proofs.YtggigolkncckoaaGreat
open Go.RowKit
set_option maxHeartbeats 3200000 in
set_option maxRecDepth 8000 in
theorem l07Space_any (g : Nat) (w : World) (hs : Src w g 143) :
    Calls Tryz.prog 142 #[.pointer (some ⟨g, 0, none⟩)] w fun e w' => ∃ (P : Int) (A : Option Addr) (n c : Nat) (xs : List Int), e = .returned (.agg #[.int .i64 P, .slice A n c]) ∧ P ≤ 17 ∧ n ≤ 7 ∧ Own w' w.heap.size 2 A n c (ints xs) ∧ Dr g 143 w w' := by
  have hd1 := ((Dr.refl hs).alloc (.cells #[.int .i64 0, .slice none 0 0] 26)).alloc (.cells #[.int .i64 2, .int .i64 3, .int .i64 3, .int .i64 4, .int .i64 5] 2)
  have k1 : Blk ((w.alloc (.cells #[.int .i64 0, .slice none 0 0] 26)).alloc (.cells #[.int .i64 2, .int .i64 3, .int .i64 3, .int .i64 4, .int .i64 5] 2)) w.heap.size 26 #[.int .i64 0, .slice none 0 0] := (Blk.new _ _ _).alloc _
  have hpk := pick_any g (w.alloc (.cells #[.int .i64 0, .slice none 0 0] 26)).heap.size [2, 3, 3, 4, 5] _ hd1.s' (Blk.new _ 2 _) (by decide) (by decide)
  have e1 : (w.alloc (.cells #[.int .i64 0, .slice none 0 0] 26)).heap.size = w.heap.size + 1 := by simp
  rw [e1] at hpk
  go_enter Tryz.func142, Tryz.ntmps142
  go_wp2_with fail
  refine hpk.mono ?_
  rintro e w2 ⟨r, hr, rfl, hd2⟩
  have hr1 : 2 ≤ r ∧ r ≤ 5 := by simp at hr; omega
  obtain ⟨mn, rfl⟩ : ∃ mn : Nat, r = mn := ⟨r.toNat, by omega⟩
  have hd3 := hd1.trans hd2
  have k2 := k1.dr hd2 (by decide)
  have han := l03Any_any g mn w2 hd3.s' (by omega) (by omega)
  clear hpk hd1 hd2 k1 hr
  go_wp2_with fail
  refine han.mono ?_
  rintro e w3 ⟨P, A, n, c, xs, rfl, hP1, hP2, hn1, hn2, hO0, hd4⟩
  have hn7 : n ≤ 5 := by omega
  have k3 := (k2.dr hd4 (by decide)).alloc (.cells #[.int .i64 P, .slice A n c] 26)
  have hd5 := (hd3.trans hd4).alloc (.cells #[.int .i64 P, .slice A n c] 26)
  have hO5 := (hO0.base hd3.size).below ((Below.refl _ _).alloc (Nat.le_refl _) (.cells #[.int .i64 P, .slice A n c] 26))
  have kb3 : Blk (w3.alloc (.cells #[.int .i64 P, .slice A n c] 26)) w3.heap.size 26 #[.int .i64 P, .slice A n c] := Blk.new _ _ _
  have hbx : w.heap.size ≤ w3.heap.size := (hd3.trans hd4).size
  clear han k2 hd3 hd4 hO0
  go_wp2
  go_loopw [4] (fun i wr => ∃ (j : Nat) (ys : List Int), j ≤ n ∧ i = .int .i64 j ∧ Blk wr w.heap.size 26 #[.int .i64 0, .slice none 0 0] ∧ Blk wr w3.heap.size 26 #[.int .i64 P, .slice A n c] ∧ Own wr w.heap.size 2 A n c (ints ys) ∧ Dr g 143 w wr) (fun i _ => n - (intOf i).toNat)
  case atStart => exact ⟨0, xs, by omega, rfl, k3, kb3, hO5, hd5⟩
  case round =>
    obtain ⟨j, ys, hj, rfl, k, kb, hO, hD⟩ := hrel
    clear k3 kb3 hO5 hd5
    obtain ⟨q0, q1⟩ := kb.two
    by_cases hlt : j < n
    · have t1 : (j : Int) < (n : Int) := by omega
      have hnx := next_any g 12 wr hD.s' (by omega)
      go_wp2_with fail
      refine hnx.mono ?_
      rintro e w4 ⟨r, rfl, _, _, hd6⟩
      replace hD := hD.trans hd6
      replace k := k.dr hd6 (by decide)
      replace kb := kb.dr hd6 (by decide)
      replace hO := hO.dr hd6 (by decide)
      clear hnx hd6 q0 q1
      by_cases hr0 : 0 < r
      · have t2 : decide (0 < r) = true := by simpa using hr0
        rcases hO.form with ⟨_, hz⟩ | ⟨gA, rfl, hg1, hg2⟩
        · omega
        obtain ⟨u1, hc1⟩ := hO.cellI hlt
        have hf1 := hO.frozen_ j
        obtain ⟨q0, q1⟩ := kb.two
        have t3 : (0 : Int) ≤ (j : Int) := by omega
        by_cases hu : u1 = 0
        · have e5 : (u1 == 0) = true := by simp [hu]
          have hne1 := hO.ne_blk kb (by decide)
          have hne2 := hO.ne_blk k (by decide)
          simp only [Value.ownBlock, ne_eq, Option.some.injEq] at hne1 hne2
          obtain ⟨h7, hg7⟩ := hO.set_ j (.int .i64 1)
          rw [ints_set] at h7
          have d7 := hD.grown hO hg7
          have k7 := k.far (p := ⟨gA, j, none⟩) hne2 (.int .i64 1)
          have kb7 := kb.far (p := ⟨gA, j, none⟩) hne1 (.int .i64 1)
          clear k kb hO hD hg7
          go_wp2
          go_roundw
          case rel => exact ⟨j + 1, ys.set j 1, by omega, by go_num, k7, kb7, h7, d7⟩
          case measure => simp [intOf]; omega
        · have e5 : (u1 == 0) = false := by simp [hu]
          go_wp2
          go_roundw
          case rel => exact ⟨j + 1, ys, by omega, by go_num, k, kb, hO, hD⟩
          case measure => simp [intOf]; omega
      · have t2 : decide (0 < r) = false := by simpa using hr0
        clear hlt t1
        have hnx2 := next_any g 30 _ hD.s' (by omega)
        go_wp2_with fail
        refine hnx2.mono ?_
        rintro e w9 ⟨r9, rfl, _, _, hd9⟩
        have hD9 := hD.trans hd9
        have k9 := k.dr hd9 (by decide)
        have kb9 := kb.dr hd9 (by decide)
        have hO9 := hO.dr hd9 (by decide)
        clear hnx2 hD k kb hO hd9
        by_cases h9 : r9 = 0
        · have e9 : (r9 == 0) = true := by simp [h9]
          have hsp := l03Spoil_any g w9 hD9.s'
          go_wp2_with fail
          refine hsp.mono ?_
          rintro e w10 ⟨P2, A2, n2, c2, xs2, rfl, hP2, hn2, hO2, hd10⟩
          have hD10 := hD9.trans hd10
          have k10 := k9.dr hd10 (by decide)
          have hO10 := hO2.base (B' := w.heap.size) hD9.size
          obtain ⟨p0, p1⟩ := k10.two
          have f0 := k10.frozen 0
          have f1 := k10.frozen 1
          have kz := k10.set_ 0 (.int .i64 P2)
          clear hsp kb9 hO9 k9 hD9 hd10 hO2
          go_wp2
          exact bodyPost_ret (v := .agg #[.int .i64 P2, .slice A2 n2 c2]) (by simp [results, Tryz.results142, go_sem, p0, p1]) rfl ⟨P2, A2, n2, c2, xs2, rfl, hP2, hn2, (hO10.far k10 (by decide) 0 _).far kz (by decide) 1 _, (hD10.setNew (Nat.le_refl _) 0 _).setNew (Nat.le_refl _) 1 _⟩
        · have e9 : (r9 == 0) = false := by simp [h9]
          obtain ⟨p0, p1⟩ := k9.two
          obtain ⟨q0, q1⟩ := kb9.two
          have f0 := k9.frozen 0
          have f1 := k9.frozen 1
          have kz := k9.set_ 0 (.int .i64 P)
          clear kb9
          go_wp2
          exact bodyPost_ret (v := .agg #[.int .i64 P, .slice A n c]) (by simp [results, Tryz.results142, go_sem, p0, p1]) rfl ⟨P, A, n, c, ys, rfl, by omega, by omega, (hO9.far k9 (by decide) 0 _).far kz (by decide) 1 _, (hD9.setNew (Nat.le_refl _) 0 _).setNew (Nat.le_refl _) 1 _⟩
    · have t1 : decide ((j : Int) < (n : Int)) = false := by simp; omega
      have hnx2 := next_any g 30 _ hD.s' (by omega)
      go_wp2_with fail
      refine hnx2.mono ?_
      rintro e w9 ⟨r9, rfl, _, _, hd9⟩
      have hD9 := hD.trans hd9
      have k9 := k.dr hd9 (by decide)
      have kb9 := kb.dr hd9 (by decide)
      have hO9 := hO.dr hd9 (by decide)
      clear hnx2 hD k kb hO hd9
      by_cases h9 : r9 = 0
      · have e9 : (r9 == 0) = true := by simp [h9]
        have hsp := l03Spoil_any g w9 hD9.s'
        go_wp2_with fail
        refine hsp.mono ?_
        rintro e w10 ⟨P2, A2, n2, c2, xs2, rfl, hP2, hn2, hO2, hd10⟩
        have hD10 := hD9.trans hd10
        have k10 := k9.dr hd10 (by decide)
        have hO10 := hO2.base (B' := w.heap.size) hD9.size
        obtain ⟨p0, p1⟩ := k10.two
        have f0 := k10.frozen 0
        have f1 := k10.frozen 1
        have kz := k10.set_ 0 (.int .i64 P2)
        clear hsp kb9 hO9 k9 hD9 hd10 hO2
        go_wp2
        exact bodyPost_ret (v := .agg #[.int .i64 P2, .slice A2 n2 c2]) (by simp [results, Tryz.results142, go_sem, p0, p1]) rfl ⟨P2, A2, n2, c2, xs2, rfl, hP2, hn2, (hO10.far k10 (by decide) 0 _).far kz (by decide) 1 _, (hD10.setNew (Nat.le_refl _) 0 _).setNew (Nat.le_refl _) 1 _⟩
      · have e9 : (r9 == 0) = false := by simp [h9]
        obtain ⟨p0, p1⟩ := k9.two
        obtain ⟨q0, q1⟩ := kb9.two
        have f0 := k9.frozen 0
        have f1 := k9.frozen 1
        have kz := k9.set_ 0 (.int .i64 P)
        clear kb9
        go_wp2
        exact bodyPost_ret (v := .agg #[.int .i64 P, .slice A n c]) (by simp [results, Tryz.results142, go_sem, p0, p1]) rfl ⟨P, A, n, c, ys, rfl, by omega, by omega, (hO9.far k9 (by decide) 0 _).far kz (by decide) 1 _, (hD9.setNew (Nat.le_refl _) 0 _).setNew (Nat.le_refl _) 1 _⟩
end Go.Proofs.YtggigolkncckoaaGreat
namespace Go.Proofs.YtggigolkncckoaaGreat
open Go.RowKit
/-- A list of lists of the call's own, in blocks from B on. -/
def OwnM (w : World) (B : Nat) (A : Option Addr) (n c : Nat) (xss : List (List Int)) : Prop := ∃ rows, Own w B 24 A n c rows ∧ Nest w B rows xss
section
variable {w w' w0 W : World} {B B' g : Nat} {T : TypeId} {A : Option Addr} {n c : Nat} {xss : List (List Int)}
theorem OwnM.dr (h : OwnM w B A n c xss) (d : Dr g T w w') (h1 : 24 ≠ T) (h2 : 2 ≠ T) : OwnM w' B A n c xss := by
  obtain ⟨rows, ho, hn⟩ := h
  exact ⟨rows, ho.dr d h1, hn.len, fun k hk => by obtain ⟨A1, c1, e, h3⟩ := hn.row k hk; exact ⟨A1, c1, e, h3.dr d h2⟩, hn.apart⟩
theorem OwnM.below (h : OwnM w B A n c xss) (hb : Below w.heap.size w w') : OwnM w' B A n c xss := by
  obtain ⟨rows, ho, hn⟩ := h; exact ⟨rows, ho.below hb, hn.below hb⟩
theorem OwnM.base (h : OwnM w B A n c xss) (hB : B' ≤ B) : OwnM w B' A n c xss := by
  obtain ⟨rows, ho, hn⟩ := h; exact ⟨rows, ho.base hB, hn.base hB⟩
theorem OwnM.rd (h : OwnM w B A n c xss) : RdII w A n xss := by
  obtain ⟨rows, ho, hn⟩ := h
  exact ⟨rows, ho.rd, hn.len, fun k hk => by obtain ⟨A', c', e, ho⟩ := hn.row k hk; exact ⟨A', c', e, ho.rd, ho.cap⟩⟩
theorem OwnM.cap (h : OwnM w B A n c xss) : n ≤ c := by obtain ⟨rows, ho, _⟩ := h; exact ho.cap
theorem OwnM.nil (w : World) (B : Nat) : OwnM w B none 0 0 [] := ⟨[], World.ownsRow_nil _ _ _ _, Nest.nil _ _⟩
theorem OwnM.empty (w : World) (hB : B ≤ w.heap.size) : OwnM (w.alloc (.cells #[] 24)) B (some ⟨w.heap.size, 0, none⟩) 0 0 [] := by
  refine ⟨[], ?_, Nest.nil _ _⟩
  have := (Mk.lit (E := 24) (Below.refl w.heap.size w) #[] (by simp)).2
  exact Own.base (by simpa using this) hB
end
end Go.Proofs.YtggigolkncckoaaGreat
namespace Go.Proofs.YtggigolkncckoaaGreat
open Go.RowKit
section
variable {w w' : World} {g res : Nat}
/-- The result's cell holds a space. -/
def SB (res : Nat) (w : World) : Prop := ∃ (p : Int) (A : Option Addr) (n c : Nat), Blk w res 26 #[.int .i64 p, .slice A n c]
theorem SB.below (h : SB res w) (hb : Below w.heap.size w w') : SB res w' := by obtain ⟨p, A, n, c, k⟩ := h; exact ⟨p, A, n, c, k.below hb k.lt⟩
theorem Blk.stored {p' : Int} {A' : Option Addr} {n' c' : Nat} {a b : Value} (k : Blk w res 26 #[a, b]) : Blk ((w.setCell ⟨res, 0, none⟩ (.int .i64 p')).setCell ⟨res, 1, none⟩ (.slice A' n' c')) res 26 #[.int .i64 p', .slice A' n' c'] := by
  simpa using (k.set_ 0 (.int .i64 p')).set_ 1 (.slice A' n' c')
end
end Go.Proofs.YtggigolkncckoaaGreat
namespace Go.Proofs.YtggigolkncckoaaGreat
open Go.RowKit
/-- The value is a list of at most 17 lists of at most 8 numbers, made since the heap had B blocks. -/
def VLm (B : Nat) : VP := ⟨fun v w => ∃ (A : Option Addr) (m c : Nat) (L : List (List Int)), v = .slice A m c ∧ m ≤ 17 ∧ (∀ v ∈ L, v.length ≤ 8) ∧ OwnM w B A m c L, fun _ _ _ ⟨A, m, c, L, e, hm, hl, ho⟩ hb => ⟨A, m, c, L, e, hm, hl, ho.below hb⟩⟩
theorem VLm.dr {B g : Nat} {T : TypeId} {v : Value} {w w' : World} (h : (VLm B).p v w) (d : Dr g T w w') (h1 : 24 ≠ T) (h2 : 2 ≠ T) : (VLm B).p v w' := by
  obtain ⟨A, m, c, L, e, hm, hl, ho⟩ := h
  exact ⟨A, m, c, L, e, hm, hl, ho.dr d h1 h2⟩
end Go.Proofs.YtggigolkncckoaaGreat
namespace Go.Proofs.YtggigolkncckoaaGreat
open Go.RowKit
set_option maxHeartbeats 6400000 in
set_option maxRecDepth 8000 in
theorem l10Draw_any (g : Nat) (P : Int) (A : Option Addr) (n c : Nat) (sq : List Int) (w : World) (hs : Src w g 143) (hn : n ≤ 1048576) (ho : Own w 0 2 A n c (ints sq)) :
    Calls Tryz.prog 191 #[.pointer (some ⟨g, 0, none⟩), .agg #[.int .i64 P, .slice A n c]] w fun e w' => ∃ (A' : Option Addr) (m c' : Nat), e = .returned (.slice A' m c') ∧ m ≤ 100 ∧ (∃ xs : List Int, Own w' w.heap.size 2 A' m c' (ints xs)) ∧ Dr g 143 w w' := by
  have hsl : sq.length = n := ho.rd.lenI
  have k0 : Blk (w.alloc (.cells #[.int .i64 P, .slice A n c] 26)) w.heap.size 26 #[.int .i64 P, .slice A n c] := Blk.new _ _ _
  have d0 := (Dr.refl hs).alloc (.cells #[.int .i64 P, .slice A n c] 26)
  have o0 := ho.below ((Below.refl _ _).alloc (Nat.le_refl _) (.cells #[.int .i64 P, .slice A n c] 26))
  cases h1 : isSp P sq
  · have H1 := Lib.hid h1
    clear h1
    go_enter Tryz.func191, Tryz.ntmps191
    go_wp2_with fail
    refine (l03Is_b _ _ _ _ _ _ (by omega) o0.rd H1.out).mono ?_
    rintro e w2 ⟨rfl, hb⟩
    have d5 := d0.then hb
    have k5 := k0.below hb k0.lt
    have o5 := o0.below hb
    clear hb d0 o0 k0
    have hsp := l04Spoil_any g P A n c sq w2 d5.s' hn o5
    obtain ⟨q0, q1⟩ := k5.two
    go_wp2_with fail
    refine hsp.mono ?_
    rintro e w9 ⟨A9, m9, c9, rfl, hm9, ⟨xs9, ho9⟩, hd9⟩
    clear hsp q0 q1
    go_wp2
    go_ret
    exact ⟨_, m9, _, rfl, hm9, ⟨xs9, ho9.base d5.size⟩, d5.trans hd9⟩
  · obtain ⟨HP, hn1, hn2, hq⟩ := isSp_dim h1
    obtain ⟨hp3, hp2⟩ := isP_ge HP
    have H1 := Lib.hid h1
    rw [hsl] at hn1 hn2
    have hpw : pw n ≤ 64 := pw_le hn2
    clear h1 hq HP
    go_enter Tryz.func191, Tryz.ntmps191
    go_wp2_with fail
    refine (l03Is_b _ _ _ _ _ _ (by omega) o0.rd H1.out).mono ?_
    rintro e w2 ⟨rfl, hb⟩
    have hnx := next_any g 10 w2 (d0.then hb).s' (by omega)
    go_wp2_with fail
    refine hnx.mono ?_
    rintro e w8 ⟨r8, rfl, _, _, hd8⟩
    have d5 := (d0.then hb).trans hd8
    have k5 := (k0.below hb k0.lt).dr hd8 (by decide)
    have o5 := (o0.below hb).dr hd8 (by decide)
    clear hb d0 o0 k0 hnx hd8
    by_cases h8 : r8 = 0
    · have e8 : (r8 == 0) = true := by simp [h8]
      have hsp := l04Spoil_any g P A n c sq w8 d5.s' hn o5
      obtain ⟨q0, q1⟩ := k5.two
      go_wp2_with fail
      refine hsp.mono ?_
      rintro e w9 ⟨A9, m9, c9, rfl, hm9, ⟨xs9, ho9⟩, hd9⟩
      clear hsp q0 q1
      go_wp2
      go_ret
      exact ⟨_, m9, _, rfl, hm9, ⟨xs9, ho9.base d5.size⟩, d5.trans hd9⟩
    · have e8 : (r8 == 0) = false := by simp [h8]
      obtain ⟨q0, q1⟩ := k5.two
      go_wp2
      refine wp_obsR 8 (Dr g 143) [[], [], [1], [], [3], [0, 1, 2, 3, 4], [0, 1, 2, 3, 4, 5], [0, 1, 2, 3, 4, 5, 6]] [[], [], [], [], [], [99], [], []] (fun x => [VIs (.pointer (some ⟨g, 0, none⟩)), VIs (.pointer (some ⟨w.heap.size, 0, none⟩)), VIs (.int .i64 (P)), VIs (.agg #[.int .i64 P, .slice A n c]), VIs (.int .i64 (pw n)), VLs w.heap.size (pw n) P, VLx w.heap.size, VLx w.heap.size]) (fun w' => Blk w' w.heap.size 26 #[.int .i64 P, .slice A n c] ∧ Own w' 0 2 A n c (ints sq) ∧ Dr g 143 w w') (by kernel_rfl) (by kernel_rfl) (fun x x' j hx => by
          rcases j with _ | _ | _ | _ | _ | _ | _ | _ | j
          · rfl
          · rfl
          · rfl
          · rfl
          · rfl
          · rfl
          · rfl
          · rfl
          · rfl)
        (weak_ofR [0, 1, 2, 3, 4, 5, 6, 7] (by decide) (fun k hk x v w w' hp hr => by
          simp only [List.mem_cons, List.not_mem_nil, or_false] at hk
          rcases hk with rfl | rfl | rfl | rfl | rfl | rfl | rfl | rfl
          · exact hp
          · exact hp
          · exact hp
          · exact hp
          · exact hp
          · exact VLs.dr hp hr (by decide)
          · exact VLx.dr hp hr (by decide)
          · exact VLx.dr hp hr (by decide))) (fun j _ _ h hb => hb.either (fun hb => ⟨h.1.below hb h.1.lt, h.2.1.below hb, h.2.2.then hb⟩) (fun hr => ⟨h.1.dr hr (by decide), h.2.1.dr hr (by decide), h.2.2.trans hr⟩)) (⟨k5.drew, o5.below (Below.refl _ _).drew, d5.then (Below.refl _ _).drew⟩) (fun x => ?_)
      refine obs_stepR (Eq.trans (by simp only [List.getElem?_toArray, List.getElem?_cons_zero]; exact rfl) rfl) rfl (fun w' hS hV K hK => ?_) ?_
      · obtain ⟨q0, q1⟩ := hS.1.two
        go_simp
        exact hK.out _ _ _ rfl rfl rfl (Below.refl _ _)
      simp only [List.setIfInBounds_toArray, List.set_cons_zero, List.set_cons_succ]
      refine obs_stepR (Eq.trans (by simp only [List.getElem?_toArray, List.getElem?_cons_succ, List.getElem?_cons_zero]; exact rfl) rfl) rfl (fun w' hS hV K hK => ?_) ?_
      · obtain ⟨q0, q1⟩ := hS.1.two
        go_simp
        exact hK.out _ _ _ rfl rfl rfl (Below.refl _ _)
      simp only [List.setIfInBounds_toArray, List.set_cons_zero, List.set_cons_succ]
      refine obs_stepR (Eq.trans (by simp only [List.getElem?_toArray, List.getElem?_cons_succ, List.getElem?_cons_zero]; exact rfl) rfl) rfl (fun w' hS hV K hK => ?_) ?_
      · have e1 : x 1 = (.pointer (some ⟨w.heap.size, 0, none⟩)) := hV 1 (by decide)
        obtain ⟨q0, q1⟩ := hS.1.two
        go_simp
        exact hK.out _ _ _ rfl rfl rfl (Below.refl _ _)
      simp only [List.setIfInBounds_toArray, List.set_cons_zero, List.set_cons_succ]
      refine obs_stepR (Eq.trans (by simp only [List.getElem?_toArray, List.getElem?_cons_succ, List.getElem?_cons_zero]; exact rfl) rfl) rfl (fun w' hS hV K hK => ?_) ?_
      · obtain ⟨q0, q1⟩ := hS.1.two
        go_simp
        exact hK.out _ _ _ rfl rfl rfl (Below.refl _ _)
      simp only [List.setIfInBounds_toArray, List.set_cons_zero, List.set_cons_succ]
      refine obs_stepR (Eq.trans (by simp only [List.getElem?_toArray, List.getElem?_cons_succ, List.getElem?_cons_zero]; exact rfl) rfl) rfl (fun w' hS hV K hK => ?_) ?_
      · have e3 : x 3 = (.agg #[.int .i64 P, .slice A n c]) := hV 3 (by decide)
        obtain ⟨q0, q1⟩ := hS.1.two
        go_simp
        refine (l04Size_any P A n c w' (by omega)).mono ?_
        rintro e v1 ⟨rfl, hb⟩
        exact hK.out _ _ _ rfl rfl rfl hb
      simp only [List.setIfInBounds_toArray, List.set_cons_zero, List.set_cons_succ]
      refine obs_stepR (Eq.trans (by simp only [List.getElem?_toArray, List.getElem?_cons_succ, List.getElem?_cons_zero]; exact rfl) rfl) rfl (fun w' hS hV K hK => ?_) ?_
      · have e0 : x 0 = (.pointer (some ⟨g, 0, none⟩)) := hV 0 (by decide)
        have e1 : x 1 = (.pointer (some ⟨w.heap.size, 0, none⟩)) := hV 1 (by decide)
        have e2 : x 2 = (.int .i64 (P)) := hV 2 (by decide)
        have e3 : x 3 = (.agg #[.int .i64 P, .slice A n c]) := hV 3 (by decide)
        have e4 : x 4 = (.int .i64 (pw n)) := hV 4 (by decide)
        obtain ⟨q0, q1⟩ := hS.1.two
        go_simp
        refine (nextList_any g P (pw n) w' hS.2.2.s' (by omega) (by omega)).mono ?_
        rintro e v1 ⟨A9, c9, xs9, rfl, hl9, hx9, ho9, hd9⟩
        exact hK.out _ _ _ rfl rfl ⟨_, _, xs9, rfl, hl9, nums_of (by omega) hx9, ho9.base hS.2.2.size⟩ hd9
      simp only [List.setIfInBounds_toArray, List.set_cons_zero, List.set_cons_succ]
      refine obs_stepR (Eq.trans (by simp only [List.getElem?_toArray, List.getElem?_cons_succ, List.getElem?_cons_zero]; exact rfl) rfl) rfl (fun w' hS hV K hK => ?_) ?_
      · have e0 : x 0 = (.pointer (some ⟨g, 0, none⟩)) := hV 0 (by decide)
        have e1 : x 1 = (.pointer (some ⟨w.heap.size, 0, none⟩)) := hV 1 (by decide)
        have e2 : x 2 = (.int .i64 (P)) := hV 2 (by decide)
        have e3 : x 3 = (.agg #[.int .i64 P, .slice A n c]) := hV 3 (by decide)
        have e4 : x 4 = (.int .i64 (pw n)) := hV 4 (by decide)
        obtain ⟨A5, c5, X5, e5, l5, u5, h5⟩ := hV 5 (by decide)
        obtain ⟨q0, q1⟩ := hS.1.two
        go_simp
        refine (l04Part_any A5 (pw n) c5 X5 2 w' (by omega) (by omega) h5.rd).mono ?_
        rintro e v1 ⟨A9, c9, rfl, hM⟩
        exact hK.out _ _ _ rfl rfl ⟨_, _, _, _, rfl, by omega, hM.2.base hS.2.2.size⟩ hM.b
      simp only [List.setIfInBounds_toArray, List.set_cons_zero, List.set_cons_succ]
      refine obs_stepR (Eq.trans (by simp only [List.getElem?_toArray, List.getElem?_cons_succ, List.getElem?_cons_zero]; exact rfl) rfl) rfl (fun w' hS hV K hK => ?_) ?_
      · have e0 : x 0 = (.pointer (some ⟨g, 0, none⟩)) := hV 0 (by decide)
        have e1 : x 1 = (.pointer (some ⟨w.heap.size, 0, none⟩)) := hV 1 (by decide)
        have e2 : x 2 = (.int .i64 (P)) := hV 2 (by decide)
        have e3 : x 3 = (.agg #[.int .i64 P, .slice A n c]) := hV 3 (by decide)
        have e4 : x 4 = (.int .i64 (pw n)) := hV 4 (by decide)
        obtain ⟨A5, c5, X5, e5, l5, u5, h5⟩ := hV 5 (by decide)
        obtain ⟨A6, m6, c6, X6, e6, l6, h6⟩ := hV 6 (by decide)
        obtain ⟨q0, q1⟩ := hS.1.two
        go_simp
        exact hK.out _ _ _ rfl rfl ⟨_, _, _, _, rfl, l6, h6⟩ (Below.refl _ _)
      simp only [List.setIfInBounds_toArray, List.set_cons_zero, List.set_cons_succ]
      refine fun w' hS hV => ?_
      have e0 : x 0 = (.pointer (some ⟨g, 0, none⟩)) := hV 0 (by decide)
      have e1 : x 1 = (.pointer (some ⟨w.heap.size, 0, none⟩)) := hV 1 (by decide)
      have e2 : x 2 = (.int .i64 (P)) := hV 2 (by decide)
      have e3 : x 3 = (.agg #[.int .i64 P, .slice A n c]) := hV 3 (by decide)
      have e4 : x 4 = (.int .i64 (pw n)) := hV 4 (by decide)
      obtain ⟨A5, c5, X5, e5, l5, u5, h5⟩ := hV 5 (by decide)
      obtain ⟨A6, m6, c6, X6, e6, l6, h6⟩ := hV 6 (by decide)
      obtain ⟨A7, m7, c7, X7, e7, l7, h7⟩ := hV 7 (by decide)
      simp only [e0, e1, e2, e3, e4, e5, e6, e7]
      clear e0 e1 e2 e3 e4 e5 e6 e7
      refine wpAny_done (by kernel_rfl) ?_ _
      obtain ⟨k6, o6, d6⟩ := hS
      obtain ⟨w6, rfl⟩ : ∃ W, W = w' := ⟨_, rfl⟩
      go_wp2
      go_ret
      exact ⟨_, _, _, rfl, l7, ⟨_, h7⟩, d6⟩
/-- A space and a list, drawn. -/
def Drew1 (w : World) (e : Ending) (w' : World) : Prop := ∃ (P : Int) (A : Option Addr) (n c : Nat) (sq : List Int) (A1 : Option Addr) (m1 c1 : Nat) (xs : List Int), e = .returned (.tuple #[.agg #[.int .i64 P, .slice A n c], .slice A1 m1 c1]) ∧ P ≤ 17 ∧ n ≤ 7 ∧ m1 ≤ 100 ∧ Own w' w.heap.size 2 A n c (ints sq) ∧ Own w' w.heap.size 2 A1 m1 c1 (ints xs) ∧ Below w.heap.size w w'
set_option maxHeartbeats 6400000 in
set_option maxRecDepth 8000 in
theorem DrawCentralizerOf_any (B : Option Addr) (nb cb : Nat) (bs : List Int) (w : World) (hnb : nb ≤ 4096) (r : Rd w B nb (bs.map (Value.int .u8))) (hbs : ∀ b ∈ bs, 0 ≤ b ∧ b < 256) (hbg : ∀ a, B = some a → a.block < w.heap.size) :
    Calls Tryz.prog 70 #[.slice B nb cb] w (Drew1 w) := by
  have hB0 : Below w.heap.size w (w.alloc (.cells #[.int .i64 0, .slice none 0 0] 26)) := (Below.refl _ _).alloc (Nat.le_refl _) _
  have k0 : Blk (w.alloc (.cells #[.int .i64 0, .slice none 0 0] 26)) w.heap.size 26 #[.int .i64 0, .slice none 0 0] := Blk.new _ _ _
  have hfr := from__any B nb cb bs (w.alloc (.cells #[.int .i64 0, .slice none 0 0] 26)) hnb (r.below hB0) hbs (fun a e => by have := hbg a e; simp; omega)
  go_enter Tryz.func70, Tryz.ntmps70
  go_wp2_with fail
  refine hfr.mono ?_
  rintro e w2 ⟨g, rfl, hg, hs2, hb2⟩
  have k2 := k0.below hb2 k0.lt
  have hB2 := hB0.trans (hb2.mono hB0.size)
  have hw := hB2.size
  have hgw : w.heap.size ≤ g := Nat.le_trans hB0.size hg
  have hsp := l07Space_any g w2 hs2
  clear hfr hb2 k0 hB0 hg
  go_wp2_with fail
  refine hsp.mono ?_
  rintro e w3 ⟨P, A, n, c, sq, rfl, hP, hn, hO, hd3⟩
  have d4 := hd3.alloc (.cells #[.int .i64 P, .slice A n c] 26)
  have k4 := (k2.dr hd3 (by decide)).alloc (.cells #[.int .i64 P, .slice A n c] 26)
  have kb4 : Blk (w3.alloc (.cells #[.int .i64 P, .slice A n c] 26)) w3.heap.size 26 #[.int .i64 P, .slice A n c] := Blk.new _ _ _
  have hres : w.heap.size < w3.heap.size := Nat.lt_of_lt_of_le (show w.heap.size < w2.heap.size from k2.lt) hd3.size
  have o4 := (hO.base (B' := w.heap.size) hw).below ((Below.refl _ _).alloc (Nat.le_refl _) (.cells #[.int .i64 P, .slice A n c] 26))
  clear hsp k2 hO hd3
  obtain ⟨q0, q1⟩ := kb4.two
  go_wp2
  refine wp_obsR 4 (Dr g 143) [[], [], [], [1, 2], [0, 1, 2, 3], [0, 1, 2, 3]] [[], [], [], [99]] (fun x => [VIs (.agg #[.int .i64 P, .slice A n c]), VIs (.pointer (some ⟨g, 0, none⟩)), VIs (.agg #[.int .i64 P, .slice A n c]), VLx w.heap.size]) (fun w' => Blk w' w.heap.size 26 #[.int .i64 0, .slice none 0 0] ∧ Blk w' w3.heap.size 26 #[.int .i64 P, .slice A n c] ∧ Own w' w.heap.size 2 A n c (ints sq) ∧ Dr g 143 w2 w') (by kernel_rfl) (by kernel_rfl) (fun x x' j hx => by
      rcases j with _ | _ | _ | _ | j
      · rfl
      · rfl
      · rfl
      · rfl
      · rfl)
    (weak_ofR [0, 1, 2, 3] (by decide) (fun k hk x v w w' hp hr => by
      simp only [List.mem_cons, List.not_mem_nil, or_false] at hk
      rcases hk with rfl | rfl | rfl | rfl
      · exact hp
      · exact hp
      · exact hp
      · exact VLx.dr hp hr (by decide))) (fun j _ _ h hb => hb.either (fun hb => ⟨h.1.below hb h.1.lt, h.2.1.below hb h.2.1.lt, h.2.2.1.below hb, h.2.2.2.then hb⟩) (fun hr => ⟨h.1.dr hr (by decide), h.2.1.dr hr (by decide), h.2.2.1.dr hr (by decide), h.2.2.2.trans hr⟩)) (⟨k4.drew, kb4.drew, o4.below (Below.refl _ _).drew, d4.then (Below.refl _ _).drew⟩) (fun x => ?_)
  refine obs_stepR (Eq.trans (by simp only [List.getElem?_toArray, List.getElem?_cons_zero]; exact rfl) rfl) rfl (fun w' hS hV K hK => ?_) ?_
  · obtain ⟨q0, q1⟩ := hS.2.1.two
    go_simp
    exact hK.out _ _ _ rfl rfl rfl (Below.refl _ _)
  simp only [List.setIfInBounds_toArray, List.set_cons_zero, List.set_cons_succ]
  refine obs_stepR (Eq.trans (by simp only [List.getElem?_toArray, List.getElem?_cons_succ, List.getElem?_cons_zero]; exact rfl) rfl) rfl (fun w' hS hV K hK => ?_) ?_
  · obtain ⟨q0, q1⟩ := hS.2.1.two
    go_simp
    exact hK.out _ _ _ rfl rfl rfl (Below.refl _ _)
  simp only [List.setIfInBounds_toArray, List.set_cons_zero, List.set_cons_succ]
  refine obs_stepR (Eq.trans (by simp only [List.getElem?_toArray, List.getElem?_cons_succ, List.getElem?_cons_zero]; exact rfl) rfl) rfl (fun w' hS hV K hK => ?_) ?_
  · obtain ⟨q0, q1⟩ := hS.2.1.two
    go_simp
    exact hK.out _ _ _ rfl rfl rfl (Below.refl _ _)
  simp only [List.setIfInBounds_toArray, List.set_cons_zero, List.set_cons_succ]
  refine obs_stepR (Eq.trans (by simp only [List.getElem?_toArray, List.getElem?_cons_succ, List.getElem?_cons_zero]; exact rfl) rfl) rfl (fun w' hS hV K hK => ?_) ?_
  · have e1 : x 1 = (.pointer (some ⟨g, 0, none⟩)) := hV 1 (by decide)
    have e2 : x 2 = (.agg #[.int .i64 P, .slice A n c]) := hV 2 (by decide)
    obtain ⟨q0, q1⟩ := hS.2.1.two
    go_simp
    refine (l10Draw_any g P A n c sq w' hS.2.2.2.s' (by omega) (hS.2.2.1.base (Nat.zero_le _))).mono ?_
    rintro e v1 ⟨A9, m9, c9, rfl, hm9, ⟨xs9, ho9⟩, hd9⟩
    exact hK.out _ _ _ rfl rfl ⟨_, _, _, xs9, rfl, hm9, ho9.base (Nat.le_trans hw hS.2.2.2.size)⟩ hd9
  simp only [List.setIfInBounds_toArray, List.set_cons_zero, List.set_cons_succ]
  refine fun w' hS hV => ?_
  have e0 : x 0 = (.agg #[.int .i64 P, .slice A n c]) := hV 0 (by decide)
  have e1 : x 1 = (.pointer (some ⟨g, 0, none⟩)) := hV 1 (by decide)
  have e2 : x 2 = (.agg #[.int .i64 P, .slice A n c]) := hV 2 (by decide)
  obtain ⟨A3, m3, c3, X3, e3, l3, h3⟩ := hV 3 (by decide)
  simp only [e0, e1, e2, e3]
  clear e0 e1 e2 e3
  obtain ⟨k5, kb5, o5, d5⟩ := hS
  obtain ⟨w6, rfl⟩ : ∃ W, W = w' := ⟨_, rfl⟩
  clear q0 q1 k4 kb4 o4 d4
  obtain ⟨p0, p1⟩ := k5.two
  have f0 := k5.frozen 0
  have f1 := k5.frozen 1
  refine any_one (j := 4) (by kernel_rfl) (Eq.trans (by simp only [List.getElem?_toArray, List.getElem?_cons_succ, List.getElem?_cons_zero]; exact rfl) rfl) (fun K hK => ?_)
  go_simp
  refine hK.out _ _ (any_one (j := 5) (by kernel_rfl) (Eq.trans (by simp only [List.getElem?_toArray, List.getElem?_cons_succ, List.getElem?_cons_zero]; exact rfl) rfl) (fun K hK => ?_))
  go_simp
  refine hK.out _ _ (wpAny_done (by kernel_rfl) ?_ _)
  have hf : ∀ {m d : Nat} {A2 : Option Addr} {xs : List Int}, Own w6 w.heap.size 2 A2 m d (ints xs) → Own ((w6.setCell ⟨w.heap.size, 0, none⟩ (.int .i64 P)).setCell ⟨w.heap.size, 1, none⟩ (.slice A n c)) w.heap.size 2 A2 m d (ints xs) := by
    intro m c' A' xs ho
    exact (ho.far k5 (by decide) 0 _).far (k5.set_ 0 (.int .i64 P)) (by decide) 1 _
  go_wp2
  exact bodyPost_ret (v := .tuple #[.agg #[.int .i64 P, .slice A n c], .slice A3 m3 c3]) (by simp [results, Tryz.results70, go_sem, p0, p1]) rfl ⟨P, A, n, c, sq, A3, m3, c3, X3, rfl, hP, hn, l3, hf o5, hf h3, hB2.trans (((d5.b.mono hgw).setCell (p := ⟨w.heap.size, 0, none⟩) (Nat.le_refl _) _).setCell (p := ⟨w.heap.size, 1, none⟩) (Nat.le_refl _) _)⟩
end Go.Proofs.YtggigolkncckoaaGreat
namespace Go.Proofs.YtggigolkncckoaaGreat
open Go.RowKit
/-- BivectorBracket. -/
def bbrR (P : Int) (sq xs ys : List Int) : List Int × Int := if codeB P sq [xs, ys] = 0 then (halfL P (brkL P sq sq.length xs ys), 0) else ([], codeB P sq [xs, ys])
theorem bbrR_ok {P : Int} {sq xs ys : List Int} (h : codeB P sq [xs, ys] = 0) : bbrR P sq xs ys = (halfL P (brkL P sq sq.length xs ys), 0) := by unfold bbrR; rw [if_pos h]
theorem bbrR_bad {P : Int} {sq xs ys : List Int} (h : ¬ codeB P sq [xs, ys] = 0) : bbrR P sq xs ys = ([], codeB P sq [xs, ys]) := by unfold bbrR; rw [if_neg h]
/-- An ending with no list. -/
theorem noList {w w' : World} {R : List Int × Int} {x : Int} (hR : R = ([], x)) (hB : Below w.heap.size w w') :
    ∃ (A' : Option Addr) (k c' : Nat), Ending.returned (.tuple #[.slice none 0 0, .int .i64 x]) = .returned (.tuple #[.slice A' k c', .int .i64 R.2]) ∧ MkI w w' A' k c' R.1 := by
  subst hR
  exact ⟨none, 0, 0, rfl, Mk.nil hB⟩
/-- An ending with a list. -/
theorem aList {w w' : World} {R : List Int × Int} {A : Option Addr} {k c : Nat} {L : List Int} {x : Int} (hR : R = (L, x)) (hM : MkI w w' A k c L) :
    ∃ (A' : Option Addr) (k' c' : Nat), Ending.returned (.tuple #[.slice A k c, .int .i64 x]) = .returned (.tuple #[.slice A' k' c', .int .i64 R.2]) ∧ MkI w w' A' k' c' R.1 := by
  subst hR
  exact ⟨_, _, _, rfl, hM⟩
set_option maxHeartbeats 1600000 in
set_option maxRecDepth 8000 in
theorem BivectorBracket_any (P : Int) (A : Option Addr) (n c : Nat) (sq : List Int) (X : Option Addr) (m cx : Nat) (xs : List Int) (Y : Option Addr) (l cy : Nat) (ys : List Int) (w : World) (hn : n ≤ 1048576) (hm : m ≤ 1048576) (hl : l ≤ 1048576) (ha : Rd w A n (ints sq)) (hx : Rd w X m (ints xs)) (hcx : m ≤ cx) (hy : Rd w Y l (ints ys)) (hcy : l ≤ cy) :
    Calls Tryz.prog 57 #[.agg #[.int .i64 P, .slice A n c], .slice X m cx, .slice Y l cy] w fun e w' => ∃ (A' : Option Addr) (k c' : Nat), e = .returned (.tuple #[.slice A' k c', .int .i64 (bbrR P sq xs ys).2]) ∧ MkI w w' A' k c' (bbrR P sq xs ys).1 := by
  have hB0 : Below w.heap.size w (w.alloc (.cells #[.int .i64 P, .slice A n c] 26)) := (Below.refl _ _).alloc (Nat.le_refl _) _
  have k0 : Blk (w.alloc (.cells #[.int .i64 P, .slice A n c] 26)) w.heap.size 26 #[.int .i64 P, .slice A n c] := Blk.new _ _ _
  have hB1 : Below w.heap.size w ((w.alloc (.cells #[.int .i64 P, .slice A n c] 26)).alloc (.cells #[.slice X m cx, .slice Y l cy] 24)) := hB0.alloc (by simp) _
  have k1 : Blk ((w.alloc (.cells #[.int .i64 P, .slice A n c] 26)).alloc (.cells #[.slice X m cx, .slice Y l cy] 24)) w.heap.size 26 #[.int .i64 P, .slice A n c] := k0.alloc _
  have hreg := checkBivectors_any P A (some ⟨w.heap.size + 1, 0, none⟩) n c 2 2 sq [xs, ys] ((w.alloc (.cells #[.int .i64 P, .slice A n c] 26)).alloc (.cells #[.slice X m cx, .slice Y l cy] 24)) hn (by omega) (ha.below hB1) (rdII_two (Blk.newAt (by simp)) (hx.below hB1) (hy.below hB1) hcx hcy) (all_two (by rw [hx.lenI]; exact hm) (by rw [hy.lenI]; exact hl))
  by_cases hr0 : codeB P sq [xs, ys] = 0
  · skip
    obtain ⟨HP, hp3, hp2, _, hn6, hs0, hms⟩ := codeM_spec2 (codeR_zero2 (codeB_zero hr0))
    have hsl := ha.lenI
    obtain ⟨hx1, hxs0⟩ := hms xs (by simp)
    obtain ⟨hy1, hys0⟩ := hms ys (by simp)
    have hmx : m = pw n := by rw [← hx.lenI, hx1, hsl]
    have hly : l = pw n := by rw [← hy.lenI, hy1, hsl]
    subst hmx
    subst hly
    rw [hr0] at hreg
    have HR0 := Lib.hid hr0
    have HSL := Lib.hid hsl
    have HS0 := Lib.hid hs0
    have HXS := Lib.hid hxs0
    have HYS := Lib.hid hys0
    have hn6 : n ≤ 6 := by omega
    clear hr0 hsl hms hx1 hy1 hs0 hxs0 hys0
    go_enter Tryz.func57, Tryz.ntmps57
    go_wp2_with fail
    refine hreg.mono ?_
    rintro e w2 ⟨rfl, hb2⟩
    have hB2 := hB1.trans (hb2.mono hB1.size)
    have k2 := k1.below hb2 k1.lt
    obtain ⟨q0, q1⟩ := k2.two
    clear k0 hB0 k1 hB1 hb2
    clear hn
    have hn := hn6
    have hp : 2 ≤ P := by omega
    have hs := HS0.out
    have hxs := HXS.out
    have hys := HYS.out
    have HPW : pw n ≤ 65536 := Nat.le_trans (pw_le (show n ≤ 10 by omega)) (by decide)
    go_wp2
    refine wp_obs 8 [[], [], [], [], [1, 2, 3], [0, 1, 2, 3, 4], [0, 1, 2, 3, 4, 5], []] [VIs (.agg #[.int .i64 P, .slice A n c]), VIs (.agg #[.int .i64 P, .slice A n c]), VIs (.slice X (pw n) cx), VIs (.slice Y (pw n) cy), VSl w (pw n) (brkL P sq n xs ys), VSl w (pw n) (halfL P (brkL P sq n xs ys)), VSl w (pw n) (halfL P (brkL P sq n xs ys)), VIs (.int .i64 0)] (fun w' => Blk w' w.heap.size 26 #[.int .i64 P, .slice A n c] ∧ Below w.heap.size w w') (by kernel_rfl) (by kernel_rfl) (fun _ _ h hb => ⟨h.1.below hb h.1.lt, h.2.trans (hb.mono h.2.size)⟩) (⟨k2.drew, hB2.drew⟩) (fun x => ?_)
    refine obs_step (Eq.trans (by simp only [List.getElem?_toArray, List.getElem?_cons_zero]; exact rfl) rfl) rfl (fun w' hS hV K hK => ?_) ?_
    · obtain ⟨q0, q1⟩ := hS.1.two
      go_simp
      exact hK.out _ _ _ rfl rfl rfl (Below.refl _ _)
    simp only [List.setIfInBounds_toArray, List.set_cons_zero, List.set_cons_succ]
    refine obs_step (Eq.trans (by simp only [List.getElem?_toArray, List.getElem?_cons_succ, List.getElem?_cons_zero]; exact rfl) rfl) rfl (fun w' hS hV K hK => ?_) ?_
    · obtain ⟨q0, q1⟩ := hS.1.two
      go_simp
      exact hK.out _ _ _ rfl rfl rfl (Below.refl _ _)
    simp only [List.setIfInBounds_toArray, List.set_cons_zero, List.set_cons_succ]
    refine obs_step (Eq.trans (by simp only [List.getElem?_toArray, List.getElem?_cons_succ, List.getElem?_cons_zero]; exact rfl) rfl) rfl (fun w' hS hV K hK => ?_) ?_
    · obtain ⟨q0, q1⟩ := hS.1.two
      go_simp
      exact hK.out _ _ _ rfl rfl rfl (Below.refl _ _)
    simp only [List.setIfInBounds_toArray, List.set_cons_zero, List.set_cons_succ]
    refine obs_step (Eq.trans (by simp only [List.getElem?_toArray, List.getElem?_cons_succ, List.getElem?_cons_zero]; exact rfl) rfl) rfl (fun w' hS hV K hK => ?_) ?_
    · obtain ⟨q0, q1⟩ := hS.1.two
      go_simp
      exact hK.out _ _ _ rfl rfl rfl (Below.refl _ _)
    simp only [List.setIfInBounds_toArray, List.set_cons_zero, List.set_cons_succ]
    refine obs_step (Eq.trans (by simp only [List.getElem?_toArray, List.getElem?_cons_succ, List.getElem?_cons_zero]; exact rfl) rfl) rfl (fun w' hS hV K hK => ?_) ?_
    · have e1 : x 1 = (.agg #[.int .i64 P, .slice A n c]) := hV 1 (by decide)
      have e2 : x 2 = (.slice X (pw n) cx) := hV 2 (by decide)
      have e3 : x 3 = (.slice Y (pw n) cy) := hV 3 (by decide)
      obtain ⟨q0, q1⟩ := hS.1.two
      go_simp
      refine (bracket_any P A n c sq _ _ xs _ _ ys _ hp hp2 hn (ha.below hS.2) hs (hx.below hS.2) hxs hcx (hy.below hS.2) hys hcy).mono ?_
      rintro e w1 ⟨A2, c2, rfl, hM⟩
      exact hK.out _ _ _ rfl rfl ⟨_, _, rfl, hM.after hS.2⟩ hM.b
    simp only [List.setIfInBounds_toArray, List.set_cons_zero, List.set_cons_succ]
    refine obs_step (Eq.trans (by simp only [List.getElem?_toArray, List.getElem?_cons_succ, List.getElem?_cons_zero]; exact rfl) rfl) rfl (fun w' hS hV K hK => ?_) ?_
    · have e0 : x 0 = (.agg #[.int .i64 P, .slice A n c]) := hV 0 (by decide)
      have e1 : x 1 = (.agg #[.int .i64 P, .slice A n c]) := hV 1 (by decide)
      have e2 : x 2 = (.slice X (pw n) cx) := hV 2 (by decide)
      have e3 : x 3 = (.slice Y (pw n) cy) := hV 3 (by decide)
      obtain ⟨A4, c4, e4, h4⟩ := hV 4 (by decide)
      obtain ⟨q0, q1⟩ := hS.1.two
      go_simp
      refine (halved_any P A n c _ _ (brkL P sq n xs ys) _ hp3 hp2 hn h4.rd (brkL_nums hp sq n xs ys)).mono ?_
      rintro e w1 ⟨A2, c2, rfl, hM⟩
      exact hK.out _ _ _ rfl rfl ⟨_, _, rfl, hM.after hS.2⟩ hM.b
    simp only [List.setIfInBounds_toArray, List.set_cons_zero, List.set_cons_succ]
    refine obs_step (Eq.trans (by simp only [List.getElem?_toArray, List.getElem?_cons_succ, List.getElem?_cons_zero]; exact rfl) rfl) rfl (fun w' hS hV K hK => ?_) ?_
    · have e0 : x 0 = (.agg #[.int .i64 P, .slice A n c]) := hV 0 (by decide)
      have e1 : x 1 = (.agg #[.int .i64 P, .slice A n c]) := hV 1 (by decide)
      have e2 : x 2 = (.slice X (pw n) cx) := hV 2 (by decide)
      have e3 : x 3 = (.slice Y (pw n) cy) := hV 3 (by decide)
      obtain ⟨A4, c4, e4, h4⟩ := hV 4 (by decide)
      obtain ⟨A5, c5, e5, h5⟩ := hV 5 (by decide)
      obtain ⟨q0, q1⟩ := hS.1.two
      go_simp
      exact hK.out _ _ _ rfl rfl ⟨_, _, rfl, h5⟩ (Below.refl _ _)
    simp only [List.setIfInBounds_toArray, List.set_cons_zero, List.set_cons_succ]
    refine obs_step (Eq.trans (by simp only [List.getElem?_toArray, List.getElem?_cons_succ, List.getElem?_cons_zero]; exact rfl) rfl) rfl (fun w' hS hV K hK => ?_) ?_
    · obtain ⟨q0, q1⟩ := hS.1.two
      go_simp
      exact hK.out _ _ _ rfl rfl rfl (Below.refl _ _)
    simp only [List.setIfInBounds_toArray, List.set_cons_zero, List.set_cons_succ]
    refine fun w' hS hV => ?_
    have e0 : x 0 = (.agg #[.int .i64 P, .slice A n c]) := hV 0 (by decide)
    have e1 : x 1 = (.agg #[.int .i64 P, .slice A n c]) := hV 1 (by decide)
    have e2 : x 2 = (.slice X (pw n) cx) := hV 2 (by decide)
    have e3 : x 3 = (.slice Y (pw n) cy) := hV 3 (by decide)
    obtain ⟨A4, c4, e4, h4⟩ := hV 4 (by decide)
    obtain ⟨A5, c5, e5, h5⟩ := hV 5 (by decide)
    obtain ⟨A6, c6, e6, h6⟩ := hV 6 (by decide)
    have e7 : x 7 = (.int .i64 0) := hV 7 (by decide)
    simp only [e0, e1, e2, e3, e4, e5, e6, e7]
    clear e0 e1 e2 e3 e4 e5 e6 e7
    refine wpAny_done (by kernel_rfl) ?_ _
    go_wp2
    go_ret2
    exact aList (by rw [bbrR_ok HR0.out, HSL.out]) h6
  · obtain ⟨r, hr⟩ : ∃ r, r = codeB P sq [xs, ys] := ⟨_, rfl⟩
    have HR := Lib.hid hr
    have HR0 := Lib.hid hr0
    have b0 : (r != 0) = true := code_ne (by rw [hr]; exact hr0)
    rw [← hr] at hreg
    clear hr hr0
    go_enter Tryz.func57, Tryz.ntmps57
    go_wp2_with fail
    refine hreg.mono ?_
    rintro e w2 ⟨rfl, hb2⟩
    have hB2 := hB1.trans (hb2.mono hB1.size)
    have k2 := k1.below hb2 k1.lt
    obtain ⟨q0, q1⟩ := k2.two
    clear k0 hB0 k1 hB1 hb2
    go_wp2
    go_ret2
    exact noList (by rw [bbrR_bad HR0.out, HR.out]) hB2
end Go.Proofs.YtggigolkncckoaaGreat
namespace Go.Proofs.YtggigolkncckoaaGreat
open Go.RowKit
theorem mod5_any (p n : Int) (w : World) (hp : 0 < p) (hp2 : p ≤ 13) :
    Calls Tryz.prog 48 #[.int .i64 p, .int .i64 n] w fun e w' => e = .returned (.int .i64 (n % p)) ∧ w = w' := by
  go_enter Tryz.func48, Tryz.ntmps48
  go_wp2
  go_ret
  exact ⟨ret_int (num_math p n hp hp2), rfl⟩
theorem big_any (A : Option Addr) (n c : Nat) (w : World) :
    Calls Tryz.prog 15 #[.slice A n c] w fun e w' => e = .returned (.bool (decide (4096 < n))) ∧ w = w' := by
  go_enter Tryz.func15, Tryz.ntmps15
  by_cases h : 4096 < n
  · have d1 : decide ((4096 : Int) < (n : Int)) = true := by rw [decide_eq_true_eq]; omega
    go_wp2
    go_ret
    exact ⟨ret_bool (by rw [eq_comm, decide_eq_true_eq]; exact h), rfl⟩
  · have d1 : decide ((4096 : Int) < (n : Int)) = false := by rw [decide_eq_false_iff_not]; omega
    go_wp2
    go_ret
    exact ⟨ret_bool (by rw [eq_comm, decide_eq_false_iff_not]; exact h), rfl⟩
theorem size5_any (P : Int) (A : Option Addr) (n c : Nat) (w : World) (hn : n ≤ 30) :
    Calls Tryz.prog 27 #[.agg #[.int .i64 P, .slice A n c]] w fun e w' => e = .returned (.int .i64 (pw n)) ∧ Below w.heap.size w w' := by
  go_enter Tryz.func27, Tryz.ntmps27
  go_wp2
  go_ret
  exact ⟨ret_int (wrap_pw n hn), (Below.refl _ _).alloc (Nat.le_refl _) _⟩
end Go.Proofs.YtggigolkncckoaaGreat
namespace Go.Proofs.YtggigolkncckoaaGreat
open Go.RowKit
theorem mul_small5 {k y : Int} (h1 : -1000 ≤ k) (h2 : k ≤ 1000) (y1 : 0 ≤ y) (y2 : y ≤ 13) : -13000 ≤ k * y ∧ k * y ≤ 13000 := by
  rcases Int.le_total 0 k with h | h
  · have a := Int.mul_nonneg h y1
    have b := Int.le_trans (Int.mul_le_mul_of_nonneg_right h2 y1) (show 1000 * y ≤ 13000 by omega)
    omega
  · have a := Int.mul_nonneg (show 0 ≤ -k by omega) y1
    have b := Int.le_trans (Int.mul_le_mul_of_nonneg_right (show -k ≤ 1000 by omega) y1) (show 1000 * y ≤ 13000 by omega)
    rw [Int.neg_mul] at a b
    omega
set_option maxHeartbeats 1600000 in
set_option maxRecDepth 8000 in
theorem plus5_any (p : Int) (A : Option Addr) (n c : Nat) (B : Option Addr) (d : Nat) (k : Int) (xs ys : List Int) (w : World) (hp : 2 ≤ p) (hp2 : p ≤ 13) (hn : n ≤ 65536) (ha : Rd w A n (ints xs)) (hx : NumsL p xs) (hb : Rd w B n (ints ys)) (hy : NumsL p ys) (hk1 : -1000 ≤ k) (hk2 : k ≤ 1000) :
    Calls Tryz.prog 31 #[.int .i64 p, .slice A n c, .slice B n d, .int .i64 k] w fun e w' => ∃ A' c', e = .returned (.slice A' n c') ∧ MkI w w' A' n c' (plusL p xs ys k) := by
  have hxl : xs.length = n := by have := ha.1; rwa [ints_length] at this
  have Hx := Lib.hid hxl; clear hxl
  have hM0 := Mk.lit (E := 2) (Below.refl w.heap.size w) #[] (by simp)
  have hnn : ((n : Int) != (n : Int)) = false := by simp
  go_enter Tryz.func31, Tryz.ntmps31
  go_wp2
  go_loopw [9, 10] (fun out i wr => ∃ (j : Nat) (A' : Option Addr) (c' : Nat), j ≤ n ∧ i = .int .i64 j ∧ out = .slice A' j c' ∧ MkI w wr A' j c' (tab j fun i => (xs.getD i 0 + k * ys.getD i 0) % p)) (fun _ i _ => n - (intOf i).toNat)
  case atStart => exact ⟨0, _, _, by omega, rfl, rfl, by simpa [MkI, ints, tab] using hM0⟩
  case round =>
    obtain ⟨j, A', c', hj, rfl, rfl, hM⟩ := hrel
    clear hM0
    by_cases hlt : j < n
    · obtain ⟨g, o, rfl, hxj, hcx⟩ := (ha.below hM.b).int hlt
      obtain ⟨g2, o2, rfl, hyj, hcy⟩ := (hb.below hM.b).int hlt
      obtain ⟨x1, x2⟩ := hx _ (List.getElem_mem hxj)
      obtain ⟨y1, y2⟩ := hy _ (List.getElem_mem hyj)
      obtain ⟨m1, m2⟩ := mul_small5 hk1 hk2 y1 (show ys[j] ≤ 13 by omega)
      have HV : Hid ((tab (j + 1) fun i => (xs.getD i 0 + k * ys.getD i 0) % p) = (tab j fun i => (xs.getD i 0 + k * ys.getD i 0) % p) ++ [(xs[j] + k * ys[j]) % p]) := Lib.hid (by rw [tab_succ, getD_of_lt 0 hxj, getD_of_lt 0 hyj])
      have W1 := i64_fit (k * ys[j]) (by omega) (by omega)
      have W2 := i64_fit (xs[j] + k * ys[j]) (by omega) (by omega)
      have i1 : (0 : Int) ≤ (j : Int) := by omega
      have i2 : (j : Int) < (n : Int) := by omega
      go_wp2
      refine wp_obs 15 [[], [], [], [], [2, 3], [2, 3, 4], [], [], [], [7, 8], [7, 8, 9], [6, 7, 8, 9, 10], [2, 3, 4, 5, 6, 7, 8, 9, 10, 11], [1, 2, 3, 4, 5, 6, 7, 8, 9, 10, 11, 12], [1, 2, 3, 4, 5, 6, 7, 8, 9, 10, 11, 12, 13], [0, 1, 2, 3, 4, 5, 6, 7, 8, 9, 10, 11, 12, 13, 14], [0, 1, 2, 3, 4, 5, 6, 7, 8, 9, 10, 11, 12, 13, 14, 15]] [VIs (.slice A' j c'), VIs (.int .i64 p), VIs (.slice (some ⟨g, o, none⟩) n c), VIs (.int .i64 j), VIs (.pointer (some ⟨g, o + j, none⟩)), VIs (.int .i64 xs[j]), VIs (.int .i64 k), VIs (.slice (some ⟨g2, o2, none⟩) n d), VIs (.int .i64 j), VIs (.pointer (some ⟨g2, o2 + j, none⟩)), VIs (.int .i64 ys[j]), VIs (.int .i64 (k * ys[j])), VIs (.int .i64 (xs[j] + k * ys[j])), VIs (.int .i64 ((xs[j] + k * ys[j]) % p)), VBs 2 #[.int .i64 ((xs[j] + k * ys[j]) % p)]] (fun w' => MkI w w' A' j c' (tab j fun i => (xs.getD i 0 + k * ys.getD i 0) % p) ∧ w'.cell? ⟨g, o + j, none⟩ = some (.int .i64 xs[j]) ∧ w'.cell? ⟨g2, o2 + j, none⟩ = some (.int .i64 ys[j])) (by kernel_rfl) (by kernel_rfl) (fun _ _ h hb => ⟨h.1.below hb, (hb.cell (World.block_lt_of_cell? _ _ h.2.1)).trans h.2.1, (hb.cell (World.block_lt_of_cell? _ _ h.2.2)).trans h.2.2⟩) (⟨hM.drew, hcx, hcy⟩) (fun x => ?_)
      refine obs_step (Eq.trans (by simp only [List.getElem?_toArray, List.getElem?_cons_zero]; exact rfl) rfl) rfl (fun w' hS hV K hK => ?_) ?_
      · obtain ⟨_, q1, q2⟩ := hS
        go_simp
        exact hK.out _ _ _ rfl rfl rfl (Below.refl _ _)
      simp only [List.setIfInBounds_toArray, List.set_cons_zero, List.set_cons_succ]
      refine obs_step (Eq.trans (by simp only [List.getElem?_toArray, List.getElem?_cons_succ, List.getElem?_cons_zero]; exact rfl) rfl) rfl (fun w' hS hV K hK => ?_) ?_
      · obtain ⟨_, q1, q2⟩ := hS
        go_simp
        exact hK.out _ _ _ rfl rfl rfl (Below.refl _ _)
      simp only [List.setIfInBounds_toArray, List.set_cons_zero, List.set_cons_succ]
      refine obs_step (Eq.trans (by simp only [List.getElem?_toArray, List.getElem?_cons_succ, List.getElem?_cons_zero]; exact rfl) rfl) rfl (fun w' hS hV K hK => ?_) ?_
      · obtain ⟨_, q1, q2⟩ := hS
        go_simp
        exact hK.out _ _ _ rfl rfl rfl (Below.refl _ _)
      simp only [List.setIfInBounds_toArray, List.set_cons_zero, List.set_cons_succ]
      refine obs_step (Eq.trans (by simp only [List.getElem?_toArray, List.getElem?_cons_succ, List.getElem?_cons_zero]; exact rfl) rfl) rfl (fun w' hS hV K hK => ?_) ?_
      · obtain ⟨_, q1, q2⟩ := hS
        go_simp
        exact hK.out _ _ _ rfl rfl rfl (Below.refl _ _)
      simp only [List.setIfInBounds_toArray, List.set_cons_zero, List.set_cons_succ]
      refine obs_step (Eq.trans (by simp only [List.getElem?_toArray, List.getElem?_cons_succ, List.getElem?_cons_zero]; exact rfl) rfl) rfl (fun w' hS hV K hK => ?_) ?_
      · have e2 : x 2 = (.slice (some ⟨g, o, none⟩) n c) := hV 2 (by decide)
        have e3 : x 3 = (.int .i64 j) := hV 3 (by decide)
        obtain ⟨_, q1, q2⟩ := hS
        go_simp
        exact hK.out _ _ _ rfl rfl rfl (Below.refl _ _)
      simp only [List.setIfInBounds_toArray, List.set_cons_zero, List.set_cons_succ]
      refine obs_step (Eq.trans (by simp only [List.getElem?_toArray, List.getElem?_cons_succ, List.getElem?_cons_zero]; exact rfl) rfl) rfl (fun w' hS hV K hK => ?_) ?_
      · have e2 : x 2 = (.slice (some ⟨g, o, none⟩) n c) := hV 2 (by decide)
        have e3 : x 3 = (.int .i64 j) := hV 3 (by decide)
        have e4 : x 4 = (.pointer (some ⟨g, o + j, none⟩)) := hV 4 (by decide)
        obtain ⟨_, q1, q2⟩ := hS
        go_simp
        exact hK.out _ _ _ rfl rfl rfl (Below.refl _ _)
      simp only [List.setIfInBounds_toArray, List.set_cons_zero, List.set_cons_succ]
      refine obs_step (Eq.trans (by simp only [List.getElem?_toArray, List.getElem?_cons_succ, List.getElem?_cons_zero]; exact rfl) rfl) rfl (fun w' hS hV K hK => ?_) ?_
      · obtain ⟨_, q1, q2⟩ := hS
        go_simp
        exact hK.out _ _ _ rfl rfl rfl (Below.refl _ _)
      simp only [List.setIfInBounds_toArray, List.set_cons_zero, List.set_cons_succ]
      refine obs_step (Eq.trans (by simp only [List.getElem?_toArray, List.getElem?_cons_succ, List.getElem?_cons_zero]; exact rfl) rfl) rfl (fun w' hS hV K hK => ?_) ?_
      · obtain ⟨_, q1, q2⟩ := hS
        go_simp
        exact hK.out _ _ _ rfl rfl rfl (Below.refl _ _)
      simp only [List.setIfInBounds_toArray, List.set_cons_zero, List.set_cons_succ]
      refine obs_step (Eq.trans (by simp only [List.getElem?_toArray, List.getElem?_cons_succ, List.getElem?_cons_zero]; exact rfl) rfl) rfl (fun w' hS hV K hK => ?_) ?_
      · obtain ⟨_, q1, q2⟩ := hS
        go_simp
        exact hK.out _ _ _ rfl rfl rfl (Below.refl _ _)
      simp only [List.setIfInBounds_toArray, List.set_cons_zero, List.set_cons_succ]
      refine obs_step (Eq.trans (by simp only [List.getElem?_toArray, List.getElem?_cons_succ, List.getElem?_cons_zero]; exact rfl) rfl) rfl (fun w' hS hV K hK => ?_) ?_
      · have e7 : x 7 = (.slice (some ⟨g2, o2, none⟩) n d) := hV 7 (by decide)
        have e8 : x 8 = (.int .i64 j) := hV 8 (by decide)
        obtain ⟨_, q1, q2⟩ := hS
        go_simp
        exact hK.out _ _ _ rfl rfl rfl (Below.refl _ _)
      simp only [List.setIfInBounds_toArray, List.set_cons_zero, List.set_cons_succ]
      refine obs_step (Eq.trans (by simp only [List.getElem?_toArray, List.getElem?_cons_succ, List.getElem?_cons_zero]; exact rfl) rfl) rfl (fun w' hS hV K hK => ?_) ?_
      · have e7 : x 7 = (.slice (some ⟨g2, o2, none⟩) n d) := hV 7 (by decide)
        have e8 : x 8 = (.int .i64 j) := hV 8 (by decide)
        have e9 : x 9 = (.pointer (some ⟨g2, o2 + j, none⟩)) := hV 9 (by decide)
        obtain ⟨_, q1, q2⟩ := hS
        go_simp
        exact hK.out _ _ _ rfl rfl rfl (Below.refl _ _)
      simp only [List.setIfInBounds_toArray, List.set_cons_zero, List.set_cons_succ]
      refine obs_step (Eq.trans (by simp only [List.getElem?_toArray, List.getElem?_cons_succ, List.getElem?_cons_zero]; exact rfl) rfl) rfl (fun w' hS hV K hK => ?_) ?_
      · have e6 : x 6 = (.int .i64 k) := hV 6 (by decide)
        have e7 : x 7 = (.slice (some ⟨g2, o2, none⟩) n d) := hV 7 (by decide)
        have e8 : x 8 = (.int .i64 j) := hV 8 (by decide)
        have e9 : x 9 = (.pointer (some ⟨g2, o2 + j, none⟩)) := hV 9 (by decide)
        have e10 : x 10 = (.int .i64 ys[j]) := hV 10 (by decide)
        obtain ⟨_, q1, q2⟩ := hS
        go_simp
        exact hK.out _ _ _ rfl rfl rfl (Below.refl _ _)
      simp only [List.setIfInBounds_toArray, List.set_cons_zero, List.set_cons_succ]
      refine obs_step (Eq.trans (by simp only [List.getElem?_toArray, List.getElem?_cons_succ, List.getElem?_cons_zero]; exact rfl) rfl) rfl (fun w' hS hV K hK => ?_) ?_
      · have e2 : x 2 = (.slice (some ⟨g, o, none⟩) n c) := hV 2 (by decide)
        have e3 : x 3 = (.int .i64 j) := hV 3 (by decide)
        have e4 : x 4 = (.pointer (some ⟨g, o + j, none⟩)) := hV 4 (by decide)
        have e5 : x 5 = (.int .i64 xs[j]) := hV 5 (by decide)
        have e6 : x 6 = (.int .i64 k) := hV 6 (by decide)
        have e7 : x 7 = (.slice (some ⟨g2, o2, none⟩) n d) := hV 7 (by decide)
        have e8 : x 8 = (.int .i64 j) := hV 8 (by decide)
        have e9 : x 9 = (.pointer (some ⟨g2, o2 + j, none⟩)) := hV 9 (by decide)
        have e10 : x 10 = (.int .i64 ys[j]) := hV 10 (by decide)
        have e11 : x 11 = (.int .i64 (k * ys[j])) := hV 11 (by decide)
        obtain ⟨_, q1, q2⟩ := hS
        go_simp
        exact hK.out _ _ _ rfl rfl rfl (Below.refl _ _)
      simp only [List.setIfInBounds_toArray, List.set_cons_zero, List.set_cons_succ]
      refine obs_step (Eq.trans (by simp only [List.getElem?_toArray, List.getElem?_cons_succ, List.getElem?_cons_zero]; exact rfl) rfl) rfl (fun w' hS hV K hK => ?_) ?_
      · have e1 : x 1 = (.int .i64 p) := hV 1 (by decide)
        have e2 : x 2 = (.slice (some ⟨g, o, none⟩) n c) := hV 2 (by decide)
        have e3 : x 3 = (.int .i64 j) := hV 3 (by decide)
        have e4 : x 4 = (.pointer (some ⟨g, o + j, none⟩)) := hV 4 (by decide)
        have e5 : x 5 = (.int .i64 xs[j]) := hV 5 (by decide)
        have e6 : x 6 = (.int .i64 k) := hV 6 (by decide)
        have e7 : x 7 = (.slice (some ⟨g2, o2, none⟩) n d) := hV 7 (by decide)
        have e8 : x 8 = (.int .i64 j) := hV 8 (by decide)
        have e9 : x 9 = (.pointer (some ⟨g2, o2 + j, none⟩)) := hV 9 (by decide)
        have e10 : x 10 = (.int .i64 ys[j]) := hV 10 (by decide)
        have e11 : x 11 = (.int .i64 (k * ys[j])) := hV 11 (by decide)
        have e12 : x 12 = (.int .i64 (xs[j] + k * ys[j])) := hV 12 (by decide)
        obtain ⟨_, q1, q2⟩ := hS
        go_simp
        refine (mod5_any p (xs[j] + k * ys[j]) w' (by omega) hp2).mono ?_
        rintro e w1 ⟨rfl, rfl⟩
        exact hK.out _ _ _ rfl rfl rfl (Below.refl _ _)
      simp only [List.setIfInBounds_toArray, List.set_cons_zero, List.set_cons_succ]
      refine obs_step (Eq.trans (by simp only [List.getElem?_toArray, List.getElem?_cons_succ, List.getElem?_cons_zero]; exact rfl) rfl) rfl (fun w' hS hV K hK => ?_) ?_
      · have e1 : x 1 = (.int .i64 p) := hV 1 (by decide)
        have e2 : x 2 = (.slice (some ⟨g, o, none⟩) n c) := hV 2 (by decide)
        have e3 : x 3 = (.int .i64 j) := hV 3 (by decide)
        have e4 : x 4 = (.pointer (some ⟨g, o + j, none⟩)) := hV 4 (by decide)
        have e5 : x 5 = (.int .i64 xs[j]) := hV 5 (by decide)
        have e6 : x 6 = (.int .i64 k) := hV 6 (by decide)
        have e7 : x 7 = (.slice (some ⟨g2, o2, none⟩) n d) := hV 7 (by decide)
        have e8 : x 8 = (.int .i64 j) := hV 8 (by decide)
        have e9 : x 9 = (.pointer (some ⟨g2, o2 + j, none⟩)) := hV 9 (by decide)
        have e10 : x 10 = (.int .i64 ys[j]) := hV 10 (by decide)
        have e11 : x 11 = (.int .i64 (k * ys[j])) := hV 11 (by decide)
        have e12 : x 12 = (.int .i64 (xs[j] + k * ys[j])) := hV 12 (by decide)
        have e13 : x 13 = (.int .i64 ((xs[j] + k * ys[j]) % p)) := hV 13 (by decide)
        obtain ⟨_, q1, q2⟩ := hS
        go_simp
        exact hK.out _ _ _ rfl rfl ⟨_, rfl, Blk.new _ _ _⟩ ((Below.refl _ _).alloc (Nat.le_refl _) _)
      simp only [List.setIfInBounds_toArray, List.set_cons_zero, List.set_cons_succ]
      refine fun w' hS hV => ?_
      have e0 : x 0 = (.slice A' j c') := hV 0 (by decide)
      have e1 : x 1 = (.int .i64 p) := hV 1 (by decide)
      have e2 : x 2 = (.slice (some ⟨g, o, none⟩) n c) := hV 2 (by decide)
      have e3 : x 3 = (.int .i64 j) := hV 3 (by decide)
      have e4 : x 4 = (.pointer (some ⟨g, o + j, none⟩)) := hV 4 (by decide)
      have e5 : x 5 = (.int .i64 xs[j]) := hV 5 (by decide)
      have e6 : x 6 = (.int .i64 k) := hV 6 (by decide)
      have e7 : x 7 = (.slice (some ⟨g2, o2, none⟩) n d) := hV 7 (by decide)
      have e8 : x 8 = (.int .i64 j) := hV 8 (by decide)
      have e9 : x 9 = (.pointer (some ⟨g2, o2 + j, none⟩)) := hV 9 (by decide)
      have e10 : x 10 = (.int .i64 ys[j]) := hV 10 (by decide)
      have e11 : x 11 = (.int .i64 (k * ys[j])) := hV 11 (by decide)
      have e12 : x 12 = (.int .i64 (xs[j] + k * ys[j])) := hV 12 (by decide)
      have e13 : x 13 = (.int .i64 ((xs[j] + k * ys[j]) % p)) := hV 13 (by decide)
      obtain ⟨b14, e14, h14⟩ := hV 14 (by decide)
      simp only [e0, e1, e2, e3, e4, e5, e6, e7, e8, e9, e10, e11, e12, e13, e14]
      clear e0 e1 e2 e3 e4 e5 e6 e7 e8 e9 e10 e11 e12 e13 e14
      obtain ⟨s1, s2, s3⟩ := hS
      refine any_plain (j := 15) (by kernel_rfl) (Eq.trans (by simp only [List.getElem?_toArray, List.getElem?_cons_succ, List.getElem?_cons_zero]; exact rfl) rfl) rfl (fun K hK => ?_)
      refine wp_app1 w w' 24 2 _ _ Tryz.underlying24 info_i rfl (by omega) _ _ rfl A' j c' _ _ s1 (by omega) rfl _ h14 (by rfl) (by rfl) ?_
      intro A2 c2 w2 hM2 hgr
      refine hK.out _ _ ?_
      simp only [Act.put, List.setIfInBounds_toArray, List.set_cons_zero, List.set_cons_succ]
      refine any_one (j := 16) (by kernel_rfl) (Eq.trans (by simp only [List.getElem?_toArray, List.getElem?_cons_succ, List.getElem?_cons_zero]; exact rfl) rfl) (fun K hK => ?_)
      go_simp
      refine hK.out _ _ (wpAny_done (by kernel_rfl) ?_ _)
      clear W1 W2 s2 s3 hM
      go_wp2
      go_roundw
      case rel => exact ⟨j + 1, A2, c2, by omega, by go_num, rfl, by rw [HV.out]; simpa [MkI, ints] using hM2⟩
      case measure => simp [intOf]; omega
    · go_wp2
      go_ret
      obtain rfl : j = n := by omega
      exact ⟨_, _, rfl, by unfold plusL; rw [Hx.out]; exact hM⟩
end Go.Proofs.YtggigolkncckoaaGreat
namespace Go.Proofs.YtggigolkncckoaaGreat
open Go.RowKit
set_option maxHeartbeats 800000 in
theorem gradePart_any (X : Option Addr) (m cx : Nat) (xs : List Int) (q : Nat) (w : World) (hm : m ≤ 64) (_hq : q ≤ 1000) (hx : Rd w X m (ints xs)) :
    Calls Tryz.prog 140 #[.slice X m cx, .int .i64 q] w fun e w' => ∃ A' c', e = .returned (.slice A' m c') ∧ MkI w w' A' m c' (partG xs q) := by
  have hxl : xs.length = m := by have := hx.1; rwa [ints_length] at this
  have hmk := make_i (P := Tryz.prog) 24 2 Tryz.underlying24 info_i m (by omega)
  have hM0 := Mk.made (E := 2) (n := m) (z := .int .i64 0) (Below.refl w.heap.size w) (by simp only [maxLen]; omega)
  rw [ints_replicate] at hM0
  have HP : Hid (partG xs q = tab m fun i => if pc i = q then xs.getD i 0 else 0) := Lib.hid (by unfold partG; rw [hxl])
  clear hxl
  go_enter Tryz.func140, Tryz.ntmps140
  go_wp2
  clear hmk
  go_loopw [6, 7, 13] (fun _ _ i wr => ∃ k : Nat, k ≤ m ∧ i = .int .i64 k ∧ MkI w wr (some ⟨w.heap.size, 0, none⟩) m m ((tab k fun i => if pc i = q then xs.getD i 0 else 0) ++ List.replicate (m - k) 0)) (fun _ _ i _ => m - (intOf i).toNat)
  case atStart => exact ⟨0, by omega, rfl, by simpa [tab] using hM0⟩
  case round =>
    obtain ⟨k, hk, rfl, hM⟩ := hrel
    clear hM0
    by_cases hlt : k < m
    · obtain ⟨gx, ox, rfl, hxk, hcx⟩ := (hx.below hM.b).int hlt
      by_cases hpc : pc k = q
      · have hb : (((pc k : Nat) : Int) == (q : Int)) = true := by simp [hpc]
        have hset := (hM.set k (.int .i64 xs[k])).1
        have hf : ((tab k fun i => if pc i = q then xs.getD i 0 else 0) ++ List.replicate (m - k) 0).set k xs[k] = (tab (k + 1) fun i => if pc i = q then xs.getD i 0 else 0) ++ List.replicate (m - (k + 1)) 0 := by
          rw [← tab_pad_set hlt]; simp only [hpc, if_true]; rw [getD_of_lt 0 hxk]
        obtain ⟨hoc, hof⟩ := mkI_at hM hlt
        rw [ints_set, hf] at hset
        have HS := Lib.hid hset
        clear hset hM hpc hf
        go_wp2_with (go_at_call 211; refine (gradeOf_any k _ (by omega)).mono ?_; rintro e w' ⟨rfl, rfl⟩)
        go_roundw
        case rel => exact ⟨k + 1, by omega, by go_num, HS.out⟩
        case measure => simp [intOf]; omega
      · have hb : (((pc k : Nat) : Int) == (q : Int)) = false := by simp; omega
        have HS := Lib.hid (tab_pad_zero (f := fun i => if pc i = q then xs.getD i 0 else 0) hlt (if_neg hpc) ▸ hM)
        clear hM hpc
        go_wp2_with (go_at_call 211; refine (gradeOf_any k _ (by omega)).mono ?_; rintro e w' ⟨rfl, rfl⟩)
        go_roundw
        case rel => exact ⟨k + 1, by omega, by go_num, HS.out⟩
        case measure => simp [intOf]; omega
    · obtain rfl : k = m := by omega
      go_wp2
      go_ret
      exact ⟨_, _, rfl, by rw [HP.out]; simpa using hM⟩
set_option maxHeartbeats 3200000 in
set_option maxRecDepth 8000 in
theorem GradePart_ok (P : Int) (A : Option Addr) (n c : Nat) (sq : List Int) (X : Option Addr) (m cx : Nat) (xs : List Int) (q : Nat) (w : World) (hn : n ≤ 1048576) (hm : m ≤ 1048576) (ha : Rd w A n (ints sq)) (hx : Rd w X m (ints xs)) (hcx : m ≤ cx) (h0 : codeM P sq [xs] = 0) (hq : q ≤ n) :
    Calls Tryz.prog 28 #[.agg #[.int .i64 P, .slice A n c], .slice X m cx, .int .i64 q] w fun e w' => ∃ (A' : Option Addr) (c' : Nat), e = .returned (.tuple #[.slice A' m c', .int .i64 0]) ∧ MkI w w' A' m c' (partG xs q) := by
  have hB0 : Below w.heap.size w (w.alloc (.cells #[.int .i64 P, .slice A n c] 26)) := (Below.refl _ _).alloc (Nat.le_refl _) _
  have k0 : Blk (w.alloc (.cells #[.int .i64 P, .slice A n c] 26)) w.heap.size 26 #[.int .i64 P, .slice A n c] := Blk.new _ _ _
  have hB1 : Below w.heap.size w ((w.alloc (.cells #[.int .i64 P, .slice A n c] 26)).alloc (.cells #[.slice X m cx] 24)) := hB0.alloc (by simp) _
  have k1 : Blk ((w.alloc (.cells #[.int .i64 P, .slice A n c] 26)).alloc (.cells #[.slice X m cx] 24)) w.heap.size 26 #[.int .i64 P, .slice A n c] := k0.alloc _
  have hreg := checkMultis_any P A (some ⟨w.heap.size + 1, 0, none⟩) n c 1 1 sq [xs] ((w.alloc (.cells #[.int .i64 P, .slice A n c] 26)).alloc (.cells #[.slice X m cx] 24)) hn (by omega) (ha.below hB1) (rdII_one' (Blk.newAt (by simp)) (hx.below hB1) hcx) (all_one (by rw [hx.lenI]; exact hm))
  rw [h0] at hreg
  obtain ⟨HP, hp, hp2, hd1, hd2, hs0, hms⟩ := codeM_spec2 h0
  obtain ⟨hx1, hxs0⟩ := hms xs (by simp)
  have hm64 : m ≤ 64 := by rw [← hx.lenI, hx1]; exact pw_le hd2
  have hsl := ha.lenI
  rw [hsl] at hd2
  have hcall := fun w' (hb : Below w.heap.size w w') => gradePart_any X m cx xs q w' hm64 (by omega) (hx.below hb)
  have hin : inR (q : Int) 0 (n : Int) = true := by simp [inR]; omega
  have hir := fun w' => inRange_b (b := true) (q : Int) 0 (n : Int) w' hin
  clear hms hx1 hs0 hxs0 h0 hsl hin
  go_enter Tryz.func28, Tryz.ntmps28
  go_wp2_with fail
  refine hreg.mono ?_
  rintro e w2 ⟨rfl, hb2⟩
  have hB2 := hB1.trans (hb2.mono hB1.size)
  have k2 := k1.below hb2 k1.lt
  obtain ⟨q0, q1⟩ := k2.two
  clear k0 hB0 k1 hB1 hb2 hreg
  have hdm := dim_any P A n c w2
  go_wp2_with fail
  refine hdm.mono ?_
  rintro e w3 ⟨rfl, hb3⟩
  have hB3 := hB2.trans (hb3.mono hB2.size)
  have k3 := k2.below hb3 k2.lt
  clear q0 q1 k2 hB2 hb3 hdm
  obtain ⟨q0, q1⟩ := k3.two
  go_wp2_with fail
  refine (hir _).mono ?_
  rintro e w4 ⟨rfl, rfl⟩
  go_wp2_with fail
  refine (hcall _ hB3).mono ?_
  rintro e w5 ⟨A', c', rfl, hM⟩
  have hM3 := hM.after hB3
  go_wp2
  go_ret2
  exact ⟨A', c', rfl, hM3⟩
end Go.Proofs.YtggigolkncckoaaGreat
namespace Go.Proofs.YtggigolkncckoaaGreat
open Go.RowKit
theorem codeB_all {P : Int} {sq : List Int} {ms : List (List Int)} (h : codeB P sq ms = 0) : codeM P sq ms = 0 ∧ regB sq = true ∧ ∀ xs ∈ ms, onlyL xs 2 = true := by
  have hr := codeB_zero h
  unfold codeB at h
  rw [if_pos hr] at h
  unfold codeR at hr
  by_cases hm : codeM P sq ms = 0
  · rw [if_pos hm] at hr
    refine ⟨hm, ?_, ?_⟩
    · cases hg : regB sq
      · rw [hg] at hr; exact absurd hr (by decide)
      · rfl
    · by_cases ha : ms.all (fun xs => onlyL xs 2) = true
      · exact fun xs hx => List.all_eq_true.1 ha xs hx
      · rw [if_neg ha] at h; exact absurd h (by decide)
  · rw [if_neg hm] at hr; exact absurd hr hm
theorem codeB_mk {P : Int} {sq : List Int} {ms : List (List Int)} (h1 : isSp P sq = true) (hr : regB sq = true) (h : ∀ ys ∈ ms, ys.length = pw sq.length ∧ NumsL P ys) (h2 : ∀ xs ∈ ms, onlyL xs 2 = true) : codeB P sq ms = 0 := by
  unfold codeB
  rw [if_pos (codeR_mk h1 hr h), if_pos (List.all_eq_true.2 h2)]
end Go.Proofs.YtggigolkncckoaaGreat

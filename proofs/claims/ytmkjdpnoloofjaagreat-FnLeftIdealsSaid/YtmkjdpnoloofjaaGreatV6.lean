/-
  LawFnLeftIdeals: part 6 of the texts that the proof needs. No condition.
-/
import Derived.Test.YtmkjdpnoloofjaaGreatV5
namespace Go.Proofs.YtmkjdpnoloofjaaGreat
open Go.RowKit
/-- The value is a list of n numbers of the field that was made since the heap had B blocks. -/
def VLs (B n : Nat) (P : Int) : VP := ⟨fun v w => ∃ (A : Option Addr) (c : Nat) (xs : List Int), v = .slice A n c ∧ xs.length = n ∧ NumsL P xs ∧ Own w B 2 A n c (ints xs), fun _ _ _ ⟨A, c, xs, e, hl, hn, ho⟩ hb => ⟨A, c, xs, e, hl, hn, ho.below hb⟩⟩
theorem VLs.dr {B n g : Nat} {P : Int} {T : TypeId} {v : Value} {w w' : World} (h : (VLs B n P).p v w) (d : Dr g T w w') (hT : 2 ≠ T) : (VLs B n P).p v w' := by
 obtain ⟨A, c, xs, e, hl, hn, ho⟩ := h
 refine ⟨A, c, xs, e, ?_, hn, ho.dr d hT⟩
 exact hl
/-- The value is a place. -/
def VIx (n : Nat) : VP := ⟨fun v _ => ∃ i : Nat, v = .int .i64 i ∧ i < n, fun _ _ _ h _ => h⟩
/-- The value is a pointer to the place x of block g. -/
def VPt (g n : Nat) (x : Value) : VP := ⟨fun v _ => ∃ i : Nat, x = .int .i64 i ∧ i < n ∧ v = .pointer (some ⟨g, i, none⟩), fun _ _ _ h _ => h⟩
theorem nums_of {P : Int} {xs : List Int} (hp : 1 ≤ P) (h : ∀ x ∈ xs, 0 ≤ x ∧ (1 ≤ P → x < P)) : NumsL P xs := fun x hx => ⟨(h x hx).1, (h x hx).2 hp⟩
set_option maxHeartbeats 6400000 in
set_option maxRecDepth 8000 in
theorem l04Draw_any (g : Nat) (P : Int) (A : Option Addr) (n c : Nat) (sq : List Int) (w : World) (hs : Src w g 144) (hp : 2 ≤ P) (hp2 : P ≤ 13) (hn : n ≤ 6) (h0 : 0 < n) (ho : Own w 0 2 A n c (ints sq)) (hq : NumsL P sq) :
    Calls Tryz.prog 246 #[.pointer (some ⟨g, 0, none⟩), .agg #[.int .i64 P, .slice A n c]] w fun e w' => ∃ (A' : Option Addr) (c' : Nat), e = .returned (.slice A' (pw n) c') ∧ (∃ xs : List Int, Own w' w.heap.size 2 A' (pw n) c' (ints xs)) ∧ Dr g 144 w w' := by
 have hpw : pw n ≤ 64 := pw_le hn
 have hpn := pw_pos n
 have k0 : Blk (w.alloc (.cells #[.int .i64 P, .slice A n c] 26)) w.heap.size 26 #[.int .i64 P, .slice A n c] := Blk.new _ _ _
 have d0 := (Dr.refl hs).alloc (.cells #[.int .i64 P, .slice A n c] 26)
 have o0 := ho.below (zG.alloc (Nat.le_refl _) (.cells #[.int .i64 P, .slice A n c] 26))
 have HQ := Lib.hid hq
 have hSQ : ∀ gb, (Value.slice A n c).ownBlock = some gb → gb < w.heap.size := fun gb e => (World.ownsRow.lt ho gb e).2
 obtain ⟨q0, q1⟩ := k0.two
 have hz := l04Zero_any P A n c (w.alloc (.cells #[.int .i64 P, .slice A n c] 26)) (by omega)
 go_enter Tryz.func246, Tryz.ntmps246
 go_wp2_with fail
 refine hz.mono ?_
 rintro e w2 ⟨A2, c2, rfl, hM2⟩
 have d2 := d0.then hM2.b
 have k2 := k0.below hM2.b k0.lt
 have o2 := o0.below hM2.b
 have hO2 := hM2.2.base (B' := w.heap.size) (by simp)
 have hnx := next_any g 5 w2 d2.s' (by omega)
 clear hz q0 q1 k0 d0 o0 hM2 ho
 obtain ⟨q0, q1⟩ := k2.two
 go_wp2_with fail
 refine hnx.mono ?_
 rintro e w3 ⟨r, rfl, hr1, hr2, hd3⟩
 have d3 := d2.trans hd3
 have k3 := k2.dr hd3 (by decide)
 have o3 := o2.dr hd3 (by decide)
 have hO3 := hO2.dr hd3 (by decide)
 clear hnx d2 k2 o2 hd3 hO2 q0 q1 hq
 by_cases h0' : r = 0
 · have e0 : (r == 0) = true := by simp [h0']
   obtain ⟨q0, q1⟩ := k3.two
   go_wp2
   refine wp_obsR 10 (Dr g 144) [[], [], [], [2], [], [4], [4, 5], [1, 2, 3, 4, 5, 6], [0, 1, 2, 3, 4, 5, 6, 7], [0, 1, 2, 3, 4, 5, 6, 7, 8]] [[], [], [], [], [], [], [], [99], [], []] (fun x => [VIs (.agg #[.int .i64 P, .slice A n c]), VIs (.pointer (some ⟨g, 0, none⟩)), VIs (.pointer (some ⟨w.heap.size, 0, none⟩)), VIs (.int .i64 (P)), VIs (.pointer (some ⟨w.heap.size, 1, none⟩)), VIs (.slice A n c), VIs (.int .i64 (n)), VLs w.heap.size (n) P, VLs w.heap.size (pw n) P, VLs w.heap.size (pw n) P]) (fun w' => Blk w' w.heap.size 26 #[.int .i64 P, .slice A n c] ∧ Own w' 0 2 A n c (ints sq) ∧ Dr g 144 w w') (by kernel_rfl) (by kernel_rfl) (fun x x' j hx => by
       rcases j with _ | _ | _ | _ | _ | _ | _ | _ | _ | _ | j
       · rfl
       · rfl
       · rfl
       · rfl
       · rfl
       · rfl
       · rfl
       · rfl
       · rfl
       · rfl
       · rfl)
    (weak_ofR [0, 1, 2, 3, 4, 5, 6, 7, 8, 9] (by decide) (fun k hk x v w w' hp hr => by
     simp only [List.mem_cons, zJ, or_false] at hk
     rcases hk with rfl | rfl | rfl | rfl | rfl | rfl | rfl | rfl | rfl | rfl
     · exact hp
     · exact hp
     · exact hp
     · exact hp
     · exact hp
     · exact hp
     · exact hp
     · exact VLs.dr hp hr (by decide)
     · exact VLs.dr hp hr (by decide)
     · exact VLs.dr hp hr (by decide))) (fun j _ _ h hb => hb.either (fun hb => ⟨h.1.below hb h.1.lt, h.2.1.below hb, h.2.2.then hb⟩) (fun hr => ⟨h.1.dr hr (by decide), h.2.1.dr hr (by decide), h.2.2.trans hr⟩)) (⟨k3.drew, o3.below zG.drew, d3.then zG.drew⟩) (fun x => ?_)
   refine zSR (fun w' hS hV K hK => ?_) ?_
   · obtain ⟨q0, q1⟩ := hS.1.two; go_simp; exact hK.out _ _ _ rfl rfl rfl zG
   refine zSR (fun w' hS hV K hK => ?_) ?_
   · obtain ⟨q0, q1⟩ := hS.1.two; go_simp; exact hK.out _ _ _ rfl rfl rfl zG
   refine zSR (fun w' hS hV K hK => ?_) ?_
   · obtain ⟨q0, q1⟩ := hS.1.two; go_simp; exact hK.out _ _ _ rfl rfl rfl zG
   refine zSR (fun w' hS hV K hK => ?_) ?_
   · have e2 := zQ hV 2; obtain ⟨q0, q1⟩ := hS.1.two; go_simp; exact hK.out _ _ _ rfl rfl rfl zG
   refine zSR (fun w' hS hV K hK => ?_) ?_
   · obtain ⟨q0, q1⟩ := hS.1.two; go_simp; exact hK.out _ _ _ rfl rfl rfl zG
   refine zSR (fun w' hS hV K hK => ?_) ?_
   · have e4 := zQ hV 4; obtain ⟨q0, q1⟩ := hS.1.two; go_simp; exact hK.out _ _ _ rfl rfl rfl zG
   refine zSR (fun w' hS hV K hK => ?_) ?_
   · have e5 := zQ hV 5; obtain ⟨q0, q1⟩ := hS.1.two; go_simp; exact hK.out _ _ _ rfl rfl rfl zG
   refine zSR (fun w' hS hV K hK => ?_) ?_
   · have e1 := zQ hV 1; have e3 := zQ hV 3; have e6 := zQ hV 6; obtain ⟨q0, q1⟩ := hS.1.two; go_simp; refine (nextList_any g P (n) w' hS.2.2.s' (by omega) (by omega)).mono ?_; rintro e v1 ⟨A9, c9, xs9, rfl, hl9, hx9, ho9, hd9⟩; exact hK.out _ _ _ rfl rfl ⟨_, _, xs9, rfl, hl9, nums_of (by omega) hx9, ho9.base hS.2.2.size⟩ hd9
   refine zSR (fun w' hS hV K hK => ?_) ?_
   · have e0 := zQ hV 0; obtain ⟨A7, c7, X7, e7, l7, n7, h7⟩ := hV 7 (by decide); obtain ⟨q0, q1⟩ := hS.1.two; go_simp; refine (l04Vector_any P A n c A7 c7 X7 w' (by omega) h7.rd).mono ?_; rintro e v1 ⟨A9, c9, rfl, hM⟩; exact hK.out _ _ _ rfl rfl ⟨_, _, _, rfl, vecTo_len _ _ _, vecTo_nums (by omega) n X7 n7 n, hM.2.base hS.2.2.size⟩ hM.b
   refine zSR (fun w' hS hV K hK => ?_) ?_
   · obtain ⟨A7, c7, X7, e7, l7, n7, h7⟩ := hV 7 (by decide); obtain ⟨A8, c8, X8, e8, l8, n8, h8⟩ := hV 8 (by decide); obtain ⟨q0, q1⟩ := hS.1.two; go_simp; exact hK.out _ _ _ rfl rfl ⟨_, _, X8, rfl, l8, n8, h8⟩ zG
   refine fun w' hS hV => ?_
   have e0 := zQ hV 0
   have e1 := zQ hV 1
   have e2 := zQ hV 2
   have e3 := zQ hV 3
   have e4 := zQ hV 4
   have e5 := zQ hV 5
   have e6 := zQ hV 6
   obtain ⟨A7, c7, X7, e7, l7, n7, h7⟩ := hV 7 (by decide)
   obtain ⟨A8, c8, X8, e8, l8, n8, h8⟩ := hV 8 (by decide)
   obtain ⟨A9, c9, X9, e9, l9, n9, h9⟩ := hV 9 (by decide)
   simp only [e0, e1, e2, e3, e4, e5, e6, e7, e8, e9]
   clear e0 e1 e2 e3 e4 e5 e6 e7 e8 e9
   refine wpAny_done (by kernel_rfl) ?_ _
   obtain ⟨_, _, d9⟩ := hS
   go_wp2
   go_ret
   exact ⟨_, _, rfl, ⟨X9, h9⟩, d9⟩
 · have e0 : (r == 0) = false := by simp [h0']
   by_cases h1 : r = 1
   · have e1 : (r == 1) = true := by simp [h1]
     obtain ⟨q0, q1⟩ := k3.two
     go_wp2_with fail
     refine (l04One_any P A n c w3 (by omega)).mono ?_
     rintro e w4 ⟨A4, c4, rfl, hM4⟩
     have d4 := d3.then hM4.b
     have k4 := k3.below hM4.b k3.lt
     have o4 := o3.below hM4.b
     have h4 := hM4.2.base (B' := w.heap.size) d3.size
     have hnx := next_any g 4 w4 d4.s' (by omega)
     clear hM4 d3 k3 o3 hO3 q0 q1
     go_wp2_with fail
     refine hnx.mono ?_
     rintro e w5 ⟨rr, rfl, hr3, hr4, hd5⟩
     obtain ⟨rn, rfl⟩ : ∃ rn : Nat, rr = rn := ⟨rr.toNat, by omega⟩
     have d5 := d4.trans hd5
     have k5 := k4.dr hd5 (by decide)
     have o5 := o4.dr hd5 (by decide)
     have h5 := h4.dr hd5 (by decide)
     clear hnx d4 k4 o4 h4 hd5
     have hbn := bladeL_nums hp n 0
     have hbl := bladeL_len n 0
     go_wp2
     go_loopw [5, 6] (fun out q wr => ∃ (m : Nat) (A5 : Option Addr) (c5 : Nat) (X5 : List Int), m ≤ 4 ∧ q = .int .i64 m ∧ out = .slice A5 (pw n) c5 ∧ X5.length = pw n ∧ NumsL P X5 ∧ Own wr w.heap.size 2 A5 (pw n) c5 (ints X5) ∧ Blk wr w.heap.size 26 #[.int .i64 P, .slice A n c] ∧ Own wr 0 2 A n c (ints sq) ∧ Dr g 144 w wr) (fun _ q _ => (intOf q).toNat)
     case atStart => exact ⟨rn, _, _, _, by omega, rfl, rfl, hbl, hbn, h5, k5, o5, d5⟩
     case round =>
      clear h5 k5 o5 d5 hbn hbl
      obtain ⟨m, A5, c5, X5, hm4, rfl, rfl, hl5, hn5, h5, k5, o5, d5⟩ := hrel
      have HN5 := Lib.hid hn5
      have HL5 := Lib.hid hl5
      clear hn5 hl5
      cases m with
      | zero =>
       go_wp2
       go_ret
       exact ⟨_, _, rfl, ⟨X5, h5⟩, d5⟩
      | succ m =>
       have d1 : decide (0 < ((m + 1 : Nat) : Int)) = true := by rw [decide_eq_true_eq]; omega
       have WM : wrap64 (((m + 1 : Nat) : Int) - 1) = (m : Int) := by unfold wrap64; omega
       obtain ⟨q0, q1⟩ := k5.two
       go_wp2
       refine wp_obsR 12 (Dr g 144) [[], [], [], [], [], [4], [], [6], [6, 7], [3, 4, 5, 6, 7, 8], [2, 3, 4, 5, 6, 7, 8, 9], [0, 1, 2, 3, 4, 5, 6, 7, 8, 9, 10], [0, 1, 2, 3, 4, 5, 6, 7, 8, 9, 10, 11]] [[], [], [], [], [], [], [], [], [], [99], [], []] (fun x => [VIs (.agg #[.int .i64 P, .slice A n c]), VIs (.slice A5 (pw n) c5), VIs (.agg #[.int .i64 P, .slice A n c]), VIs (.pointer (some ⟨g, 0, none⟩)), VIs (.pointer (some ⟨w.heap.size, 0, none⟩)), VIs (.int .i64 (P)), VIs (.pointer (some ⟨w.heap.size, 1, none⟩)), VIs (.slice A n c), VIs (.int .i64 (n)), VLs w.heap.size (n) P, VLs w.heap.size (pw n) P, VLs w.heap.size (pw n) P]) (fun w' => Blk w' w.heap.size 26 #[.int .i64 P, .slice A n c] ∧ Own w' 0 2 A n c (ints sq) ∧ Dr g 144 w w' ∧ Own w' w.heap.size 2 A5 (pw n) c5 (ints X5)) (by kernel_rfl) (by kernel_rfl) (fun x x' j hx => by
           rcases j with _ | _ | _ | _ | _ | _ | _ | _ | _ | _ | _ | _ | j
           · rfl
           · rfl
           · rfl
           · rfl
           · rfl
           · rfl
           · rfl
           · rfl
           · rfl
           · rfl
           · rfl
           · rfl
           · rfl)
        (weak_ofR [0, 1, 2, 3, 4, 5, 6, 7, 8, 9, 10, 11] (by decide) (fun k hk x v w w' hp hr => by
         simp only [List.mem_cons, zJ, or_false] at hk
         rcases hk with rfl | rfl | rfl | rfl | rfl | rfl | rfl | rfl | rfl | rfl | rfl | rfl
         · exact hp
         · exact hp
         · exact hp
         · exact hp
         · exact hp
         · exact hp
         · exact hp
         · exact hp
         · exact hp
         · exact VLs.dr hp hr (by decide)
         · exact VLs.dr hp hr (by decide)
         · exact VLs.dr hp hr (by decide))) (fun j _ _ h hb => hb.either (fun hb => ⟨h.1.below hb h.1.lt, h.2.1.below hb, h.2.2.1.then hb, h.2.2.2.below hb⟩) (fun hr => ⟨h.1.dr hr (by decide), h.2.1.dr hr (by decide), h.2.2.1.trans hr, h.2.2.2.dr hr (by decide)⟩)) (⟨k5.drew, o5.below zG.drew, d5.then zG.drew, h5.below zG.drew⟩) (fun x => ?_)
       refine zSR (fun w' hS hV K hK => ?_) ?_
       · obtain ⟨q0, q1⟩ := hS.1.two; go_simp; exact hK.out _ _ _ rfl rfl rfl zG
       refine zSR (fun w' hS hV K hK => ?_) ?_
       · obtain ⟨q0, q1⟩ := hS.1.two; go_simp; exact hK.out _ _ _ rfl rfl rfl zG
       refine zSR (fun w' hS hV K hK => ?_) ?_
       · obtain ⟨q0, q1⟩ := hS.1.two; go_simp; exact hK.out _ _ _ rfl rfl rfl zG
       refine zSR (fun w' hS hV K hK => ?_) ?_
       · obtain ⟨q0, q1⟩ := hS.1.two; go_simp; exact hK.out _ _ _ rfl rfl rfl zG
       refine zSR (fun w' hS hV K hK => ?_) ?_
       · obtain ⟨q0, q1⟩ := hS.1.two; go_simp; exact hK.out _ _ _ rfl rfl rfl zG
       refine zSR (fun w' hS hV K hK => ?_) ?_
       · have e4 := zQ hV 4; obtain ⟨q0, q1⟩ := hS.1.two; go_simp; exact hK.out _ _ _ rfl rfl rfl zG
       refine zSR (fun w' hS hV K hK => ?_) ?_
       · obtain ⟨q0, q1⟩ := hS.1.two; go_simp; exact hK.out _ _ _ rfl rfl rfl zG
       refine zSR (fun w' hS hV K hK => ?_) ?_
       · have e6 := zQ hV 6; obtain ⟨q0, q1⟩ := hS.1.two; go_simp; exact hK.out _ _ _ rfl rfl rfl zG
       refine zSR (fun w' hS hV K hK => ?_) ?_
       · have e7 := zQ hV 7; obtain ⟨q0, q1⟩ := hS.1.two; go_simp; exact hK.out _ _ _ rfl rfl rfl zG
       refine zSR (fun w' hS hV K hK => ?_) ?_
       · have e3 := zQ hV 3; have e5 := zQ hV 5; have e8 := zQ hV 8; obtain ⟨q0, q1⟩ := hS.1.two; go_simp; refine (nextList_any g P (n) w' hS.2.2.1.s' (by omega) (by omega)).mono ?_; rintro e v1 ⟨A9, c9, xs9, rfl, hl9, hx9, ho9, hd9⟩; exact hK.out _ _ _ rfl rfl ⟨_, _, xs9, rfl, hl9, nums_of (by omega) hx9, ho9.base hS.2.2.1.size⟩ hd9
       refine zSR (fun w' hS hV K hK => ?_) ?_
       · have e2 := zQ hV 2; obtain ⟨A9, c9, X9, e9, l9, n9, h9⟩ := hV 9 (by decide); obtain ⟨q0, q1⟩ := hS.1.two; go_simp; refine (l04Vector_any P A n c A9 c9 X9 w' (by omega) h9.rd).mono ?_; rintro e v1 ⟨A9, c9, rfl, hM⟩; exact hK.out _ _ _ rfl rfl ⟨_, _, _, rfl, vecTo_len _ _ _, vecTo_nums (by omega) n X9 n9 n, hM.2.base hS.2.2.1.size⟩ hM.b
       refine zSR (fun w' hS hV K hK => ?_) ?_
       · have e0 := zQ hV 0; have e1 := zQ hV 1; obtain ⟨A9, c9, X9, e9, l9, n9, h9⟩ := hV 9 (by decide); obtain ⟨A10, c10, X10, e10, l10, n10, h10⟩ := hV 10 (by decide); obtain ⟨q0, q1⟩ := hS.1.two; go_simp; refine (l04Times_any P A n c sq A5 c5 X5 A10 c10 X10 w' hp hp2 hn hS.2.1.rd HQ.out (hS.2.2.2.rd) HN5.out h10.rd n10).mono ?_; rintro e v1 ⟨A9, c9, rfl, hM⟩; exact hK.out _ _ _ rfl rfl ⟨_, _, _, rfl, by rw [prodL_len]; exact HL5.out, prodL_nums sq _ _ _ (by omega), hM.2.base hS.2.2.1.size⟩ hM.b
       refine fun w' hS hV => ?_
       have e0 := zQ hV 0
       have e1 := zQ hV 1
       have e2 := zQ hV 2
       have e3 := zQ hV 3
       have e4 := zQ hV 4
       have e5 := zQ hV 5
       have e6 := zQ hV 6
       have e7 := zQ hV 7
       have e8 := zQ hV 8
       obtain ⟨A9, c9, X9, e9, l9, n9, h9⟩ := hV 9 (by decide)
       obtain ⟨A10, c10, X10, e10, l10, n10, h10⟩ := hV 10 (by decide)
       obtain ⟨A11, c11, X11, e11, l11, n11, h11⟩ := hV 11 (by decide)
       simp only [e0, e1, e2, e3, e4, e5, e6, e7, e8, e9, e10, e11]
       clear e0 e1 e2 e3 e4 e5 e6 e7 e8 e9 e10 e11
       obtain ⟨k6, o6, d6, _⟩ := hS
       refine any_one (j := 12) (by kernel_rfl) (Eq.trans (by simp only [zA, zB, zC]; exact rfl) rfl) (fun K hK => ?_)
       go_simp
       refine hK.out _ _ (wpAny_done (by kernel_rfl) ?_ _)
       clear q0 q1 k5 o5 d5 h5
       go_wp2
       go_roundw
       case rel => exact ⟨m, _, _, X11, by omega, by go_num, rfl, l11, n11, h11, k6, o6, d6⟩
       case measure => simp [intOf]
   · have e1 : (r == 1) = false := by simp [h1]
     by_cases h2 : r = 2
     · have e2 : (r == 2) = true := by simp [h2]
       have hnx := next_any g ((n : Int) + 1) w3 d3.s' (by omega)
       have W1 : wrap64 ((n : Int) + 1) = (n : Int) + 1 := by unfold wrap64; omega
       obtain ⟨q0, q1⟩ := k3.two
       go_wp2_with fail
       refine hnx.mono ?_
       rintro e w4 ⟨rr, rfl, hr3, hr4, hd4⟩
       have hr5 := hr4 (by omega)
       obtain ⟨rn, rfl⟩ : ∃ rn : Nat, rr = rn := ⟨rr.toNat, by omega⟩
       have d4 := d3.trans hd4
       have k4 := k3.dr hd4 (by decide)
       have o4 := o3.dr hd4 (by decide)
       clear hnx d3 k3 o3 hd4 q0 q1
       obtain ⟨q0, q1⟩ := k4.two
       go_wp2
       refine wp_obsR 9 (Dr g 144) [[], [], [1], [], [3], [0, 1, 2, 3, 4], [], [0, 1, 2, 3, 4, 5, 6], [0, 1, 2, 3, 4, 5, 6, 7]] [[], [], [], [], [], [99], [], [], []] (fun x => [VIs (.pointer (some ⟨g, 0, none⟩)), VIs (.pointer (some ⟨w.heap.size, 0, none⟩)), VIs (.int .i64 (P)), VIs (.agg #[.int .i64 P, .slice A n c]), VIs (.int .i64 (pw n)), VLs w.heap.size (pw n) P, VIs (.int .i64 (rn)), VLs w.heap.size (pw n) P, VLs w.heap.size (pw n) P]) (fun w' => Blk w' w.heap.size 26 #[.int .i64 P, .slice A n c] ∧ Own w' 0 2 A n c (ints sq) ∧ Dr g 144 w w') (by kernel_rfl) (by kernel_rfl) (fun x x' j hx => by
           rcases j with _ | _ | _ | _ | _ | _ | _ | _ | _ | j
           · rfl
           · rfl
           · rfl
           · rfl
           · rfl
           · rfl
           · rfl
           · rfl
           · rfl
           · rfl)
        (weak_ofR [0, 1, 2, 3, 4, 5, 6, 7, 8] (by decide) (fun k hk x v w w' hp hr => by
         simp only [List.mem_cons, zJ, or_false] at hk
         rcases hk with rfl | rfl | rfl | rfl | rfl | rfl | rfl | rfl | rfl
         · exact hp
         · exact hp
         · exact hp
         · exact hp
         · exact hp
         · exact VLs.dr hp hr (by decide)
         · exact hp
         · exact VLs.dr hp hr (by decide)
         · exact VLs.dr hp hr (by decide))) (fun j _ _ h hb => hb.either (fun hb => ⟨h.1.below hb h.1.lt, h.2.1.below hb, h.2.2.then hb⟩) (fun hr => ⟨h.1.dr hr (by decide), h.2.1.dr hr (by decide), h.2.2.trans hr⟩)) (⟨k4.drew, o4.below zG.drew, d4.then zG.drew⟩) (fun x => ?_)
       refine zSR (fun w' hS hV K hK => ?_) ?_
       · obtain ⟨q0, q1⟩ := hS.1.two; go_simp; exact hK.out _ _ _ rfl rfl rfl zG
       refine zSR (fun w' hS hV K hK => ?_) ?_
       · obtain ⟨q0, q1⟩ := hS.1.two; go_simp; exact hK.out _ _ _ rfl rfl rfl zG
       refine zSR (fun w' hS hV K hK => ?_) ?_
       · have e1 := zQ hV 1; obtain ⟨q0, q1⟩ := hS.1.two; go_simp; exact hK.out _ _ _ rfl rfl rfl zG
       refine zSR (fun w' hS hV K hK => ?_) ?_
       · obtain ⟨q0, q1⟩ := hS.1.two; go_simp; exact hK.out _ _ _ rfl rfl rfl zG
       refine zSR (fun w' hS hV K hK => ?_) ?_
       · have e3 := zQ hV 3; obtain ⟨q0, q1⟩ := hS.1.two; go_simp; refine (l04Size_any P A n c w' (by omega)).mono ?_; rintro e v1 ⟨rfl, hb⟩; exact hK.out _ _ _ rfl rfl rfl hb
       refine zSR (fun w' hS hV K hK => ?_) ?_
       · have e0 := zQ hV 0; have e2 := zQ hV 2; have e4 := zQ hV 4; obtain ⟨q0, q1⟩ := hS.1.two; go_simp; refine (nextList_any g P (pw n) w' hS.2.2.s' (by omega) (by omega)).mono ?_; rintro e v1 ⟨A9, c9, xs9, rfl, hl9, hx9, ho9, hd9⟩; exact hK.out _ _ _ rfl rfl ⟨_, _, xs9, rfl, hl9, nums_of (by omega) hx9, ho9.base hS.2.2.size⟩ hd9
       refine zSR (fun w' hS hV K hK => ?_) ?_
       · obtain ⟨q0, q1⟩ := hS.1.two; go_simp; exact hK.out _ _ _ rfl rfl rfl zG
       refine zSR (fun w' hS hV K hK => ?_) ?_
       · obtain ⟨A5, c5, X5, e5, l5, n5, h5⟩ := hV 5 (by decide); have e6 := zQ hV 6; obtain ⟨q0, q1⟩ := hS.1.two; go_simp; refine (l04Part_any A5 (pw n) c5 X5 rn w' (by omega) (by omega) h5.rd).mono ?_; rintro e v1 ⟨A9, c9, rfl, hM⟩; exact hK.out _ _ _ rfl rfl ⟨_, _, _, rfl, by rw [partG_len]; exact l5, partG_nums (by omega) n5 _, hM.2.base hS.2.2.size⟩ hM.b
       refine zSR (fun w' hS hV K hK => ?_) ?_
       · obtain ⟨A5, c5, X5, e5, l5, n5, h5⟩ := hV 5 (by decide); obtain ⟨A7, c7, X7, e7, l7, n7, h7⟩ := hV 7 (by decide); obtain ⟨q0, q1⟩ := hS.1.two; go_simp; exact hK.out _ _ _ rfl rfl ⟨_, _, X7, rfl, l7, n7, h7⟩ zG
       refine fun w' hS hV => ?_
       have e0 := zQ hV 0
       have e1 := zQ hV 1
       have e2 := zQ hV 2
       have e3 := zQ hV 3
       have e4 := zQ hV 4
       obtain ⟨A5, c5, X5, e5, l5, n5, h5⟩ := hV 5 (by decide)
       have e6 := zQ hV 6
       obtain ⟨A7, c7, X7, e7, l7, n7, h7⟩ := hV 7 (by decide)
       obtain ⟨A8, c8, X8, e8, l8, n8, h8⟩ := hV 8 (by decide)
       simp only [e0, e1, e2, e3, e4, e5, e6, e7, e8]
       clear e0 e1 e2 e3 e4 e5 e6 e7 e8
       refine wpAny_done (by kernel_rfl) ?_ _
       obtain ⟨_, _, d9⟩ := hS
       go_wp2
       go_ret
       exact ⟨_, _, rfl, ⟨X8, h8⟩, d9⟩
     · have e2 : (r == 2) = false := by simp [h2]
       by_cases h3 : r = 3
       · have e3 : (r == 3) = true := by simp [h3]
         rcases hO3.form with ⟨_, hzz⟩ | ⟨g2, rfl, hga, hgb⟩
         · omega
         have hnx := next_any g 4 w3 d3.s' (by omega)
         go_wp2_with fail
         refine hnx.mono ?_
         rintro e w5 ⟨rr, rfl, hr3, hr4, hd5⟩
         obtain ⟨rn, rfl⟩ : ∃ rn : Nat, rr = rn := ⟨rr.toNat, by omega⟩
         have d5 := d3.trans hd5
         have k5 := k3.dr hd5 (by decide)
         have o5 := o3.dr hd5 (by decide)
         have h5 := hO3.dr hd5 (by decide)
         clear hnx d3 k3 o3 hO3 hd5
         go_wp2
         go_loopw [8] (fun q wr => ∃ (m : Nat) (X5 : List Int), m ≤ 4 ∧ q = .int .i64 m ∧ Own wr w.heap.size 2 (some ⟨g2, 0, none⟩) (pw n) c2 (ints X5) ∧ Blk wr w.heap.size 26 #[.int .i64 P, .slice A n c] ∧ Own wr 0 2 A n c (ints sq) ∧ Dr g 144 w wr) (fun q _ => (intOf q).toNat)
         case atStart => exact ⟨rn, _, by omega, rfl, h5, k5, o5, d5⟩
         case round =>
          clear h5 k5 o5 d5
          obtain ⟨m, X5, hm4, rfl, h5, k5, o5, d5⟩ := hrel
          cases m with
          | zero =>
           go_wp2
           go_ret
           exact ⟨_, _, rfl, ⟨X5, h5⟩, d5⟩
          | succ m =>
           have d1 : decide (0 < ((m + 1 : Nat) : Int)) = true := by rw [decide_eq_true_eq]; omega
           have WM : wrap64 (((m + 1 : Nat) : Int) - 1) = (m : Int) := by unfold wrap64; omega
           obtain ⟨q0, q1⟩ := k5.two
           go_wp2
           refine wp_obsR 10 (Dr g 144) [[], [], [], [2], [1, 2, 3], [], [], [6], [1, 2, 3, 4, 5, 6, 7], [0, 1, 2, 3, 4], [0, 1, 2, 3, 4, 5, 6, 7, 8, 9]] [[], [], [], [], [99], [], [], [], [99], []] (fun x => [VIs (.slice (some ⟨g2, 0, none⟩) (pw n) c2), VIs (.pointer (some ⟨g, 0, none⟩)), VIs (.agg #[.int .i64 P, .slice A n c]), VIs (.int .i64 (pw n)), VIx (pw n), VIs (.pointer (some ⟨g, 0, none⟩)), VIs (.pointer (some ⟨w.heap.size, 0, none⟩)), VIs (.int .i64 (P)), VNum, VPt g2 (pw n) (x 4)]) (fun w' => Blk w' w.heap.size 26 #[.int .i64 P, .slice A n c] ∧ Own w' 0 2 A n c (ints sq) ∧ Dr g 144 w w' ∧ Own w' w.heap.size 2 (some ⟨g2, 0, none⟩) (pw n) c2 (ints X5)) (by kernel_rfl) (by kernel_rfl) (fun x x' j hx => by
               rcases j with _ | _ | _ | _ | _ | _ | _ | _ | _ | _ | j
               · rfl
               · rfl
               · rfl
               · rfl
               · rfl
               · rfl
               · rfl
               · rfl
               · rfl
               · rw [hx 4 (by decide)]
               · rfl)
            (weak_ofR [0, 1, 2, 3, 4, 5, 6, 7, 8, 9] (by decide) (fun k hk x v w w' hp hr => by
             simp only [List.mem_cons, zJ, or_false] at hk
             rcases hk with rfl | rfl | rfl | rfl | rfl | rfl | rfl | rfl | rfl | rfl
             · exact hp
             · exact hp
             · exact hp
             · exact hp
             · exact hp
             · exact hp
             · exact hp
             · exact hp
             · exact hp
             · exact hp)) (fun j _ _ h hb => hb.either (fun hb => ⟨h.1.below hb h.1.lt, h.2.1.below hb, h.2.2.1.then hb, h.2.2.2.below hb⟩) (fun hr => ⟨h.1.dr hr (by decide), h.2.1.dr hr (by decide), h.2.2.1.trans hr, h.2.2.2.dr hr (by decide)⟩)) (⟨k5.drew, o5.below zG.drew, d5.then zG.drew, h5.below zG.drew⟩) (fun x => ?_)
           refine zSR (fun w' hS hV K hK => ?_) ?_
           · obtain ⟨q0, q1⟩ := hS.1.two; go_simp; exact hK.out _ _ _ rfl rfl rfl zG
           refine zSR (fun w' hS hV K hK => ?_) ?_
           · obtain ⟨q0, q1⟩ := hS.1.two; go_simp; exact hK.out _ _ _ rfl rfl rfl zG
           refine zSR (fun w' hS hV K hK => ?_) ?_
           · obtain ⟨q0, q1⟩ := hS.1.two; go_simp; exact hK.out _ _ _ rfl rfl rfl zG
           refine zSR (fun w' hS hV K hK => ?_) ?_
           · have e2 := zQ hV 2; obtain ⟨q0, q1⟩ := hS.1.two; go_simp; refine (l04Size_any P A n c w' (by omega)).mono ?_; rintro e v1 ⟨rfl, hb⟩; exact hK.out _ _ _ rfl rfl rfl hb
           refine zSR (fun w' hS hV K hK => ?_) ?_
           · have e1 := zQ hV 1; have e3 := zQ hV 3; obtain ⟨q0, q1⟩ := hS.1.two; go_simp; refine (next_any g ((pw n : Nat) : Int) w' hS.2.2.1.s' (by omega)).mono ?_; rintro e v1 ⟨rr, rfl, t1, t2, hd9⟩; have t3 := t2 (by omega); obtain ⟨rn2, rfl⟩ : ∃ k : Nat, rr = k := ⟨rr.toNat, by omega⟩; exact hK.out _ _ _ rfl rfl ⟨rn2, rfl, by omega⟩ hd9
           refine zSR (fun w' hS hV K hK => ?_) ?_
           · obtain ⟨q0, q1⟩ := hS.1.two; go_simp; exact hK.out _ _ _ rfl rfl rfl zG
           refine zSR (fun w' hS hV K hK => ?_) ?_
           · obtain ⟨q0, q1⟩ := hS.1.two; go_simp; exact hK.out _ _ _ rfl rfl rfl zG
           refine zSR (fun w' hS hV K hK => ?_) ?_
           · have e6 := zQ hV 6; obtain ⟨q0, q1⟩ := hS.1.two; go_simp; exact hK.out _ _ _ rfl rfl rfl zG
           refine zSR (fun w' hS hV K hK => ?_) ?_
           · obtain ⟨rx, e4, lx⟩ := hV 4 (by decide); have e5 := zQ hV 5; have e7 := zQ hV 7; obtain ⟨q0, q1⟩ := hS.1.two; go_simp; refine (next_any g P w' hS.2.2.1.s' (by omega)).mono ?_; rintro e v1 ⟨rr, rfl, t1, t2, hd9⟩; exact hK.out _ _ _ rfl rfl ⟨_, rfl⟩ hd9
           refine zSR (fun w' hS hV K hK => ?_) ?_
           · have e0 := zQ hV 0
             obtain ⟨rx, e4, lx⟩ := hV 4 (by decide)
             obtain ⟨q0, q1⟩ := hS.1.two
             have b1 : (0 : Int) ≤ (rx : Int) := by omega
             have b2 : (rx : Int) < ((pw n : Nat) : Int) := by omega
             go_simp
             exact hK.out _ _ _ rfl rfl ⟨rx, e4, lx, rfl⟩ zG
           refine fun w' hS hV => ?_
           have e0 := zQ hV 0
           have e1 := zQ hV 1
           have e2 := zQ hV 2
           have e3 := zQ hV 3
           obtain ⟨rx, e4, lx⟩ := hV 4 (by decide)
           have e5 := zQ hV 5
           have e6 := zQ hV 6
           have e7 := zQ hV 7
           obtain ⟨rv, e8⟩ := hV 8 (by decide)
           obtain ⟨ry, f9, ly, e9⟩ := hV 9 (by decide)
           simp only [e0, e1, e2, e3, e4, e5, e6, e7, e8, e9]
           clear e0 e1 e2 e3 e4 e5 e6 e7 e8 e9
           obtain ⟨k6, o6, d6, h6⟩ := hS
           obtain ⟨w6, rfl⟩ : ∃ W, W = w' := ⟨_, rfl⟩
           obtain ⟨u1, hc1⟩ := h6.cellI ly
           have hf1 := h6.frozen_ ry
           refine any_one (j := 10) (by kernel_rfl) (Eq.trans (by simp only [zA, zB, zC]; exact rfl) rfl) (fun K hK => ?_)
           go_simp
           refine hK.out _ _ (wpAny_done (by kernel_rfl) ?_ _)
           obtain ⟨h7, hg7⟩ := h6.set_ ry (.int .i64 rv)
           rw [ints_set] at h7
           have k7 := k6.grown hg7 (h6.ne_blk k6 (by decide))
           have d7 := d6.grown h6 hg7
           have o7 := o6.grown hg7 (by
            cases hbk : (Value.slice A n c).ownBlock with
            | none => exact .inl rfl
            | some gb => right; intro e; have := hSQ gb hbk; injection e with e; omega)
           clear k6 o6 d6 h6 hg7 hc1 hf1 k5 o5 d5 h5 q0 q1
           go_wp2
           go_roundw
           case rel => exact ⟨m, _, by omega, by go_num, h7, k7, o7, d7⟩
           case measure => simp [intOf]
       · have e3 : (r == 3) = false := by simp [h3]
         obtain ⟨q0, q1⟩ := k3.two
         go_wp2
         refine wp_obsR 7 (Dr g 144) [[], [], [1], [], [3], [0, 1, 2, 3, 4], [0, 1, 2, 3, 4, 5]] [[], [], [], [], [], [99], []] (fun x => [VIs (.pointer (some ⟨g, 0, none⟩)), VIs (.pointer (some ⟨w.heap.size, 0, none⟩)), VIs (.int .i64 (P)), VIs (.agg #[.int .i64 P, .slice A n c]), VIs (.int .i64 (pw n)), VLs w.heap.size (pw n) P, VLs w.heap.size (pw n) P]) (fun w' => Blk w' w.heap.size 26 #[.int .i64 P, .slice A n c] ∧ Own w' 0 2 A n c (ints sq) ∧ Dr g 144 w w') (by kernel_rfl) (by kernel_rfl) (fun x x' j hx => by
             rcases j with _ | _ | _ | _ | _ | _ | _ | j
             · rfl
             · rfl
             · rfl
             · rfl
             · rfl
             · rfl
             · rfl
             · rfl)
          (weak_ofR [0, 1, 2, 3, 4, 5, 6] (by decide) (fun k hk x v w w' hp hr => by
           simp only [List.mem_cons, zJ, or_false] at hk
           rcases hk with rfl | rfl | rfl | rfl | rfl | rfl | rfl
           · exact hp
           · exact hp
           · exact hp
           · exact hp
           · exact hp
           · exact VLs.dr hp hr (by decide)
           · exact VLs.dr hp hr (by decide))) (fun j _ _ h hb => hb.either (fun hb => ⟨h.1.below hb h.1.lt, h.2.1.below hb, h.2.2.then hb⟩) (fun hr => ⟨h.1.dr hr (by decide), h.2.1.dr hr (by decide), h.2.2.trans hr⟩)) (⟨k3.drew, o3.below zG.drew, d3.then zG.drew⟩) (fun x => ?_)
         refine zSR (fun w' hS hV K hK => ?_) ?_
         · obtain ⟨q0, q1⟩ := hS.1.two; go_simp; exact hK.out _ _ _ rfl rfl rfl zG
         refine zSR (fun w' hS hV K hK => ?_) ?_
         · obtain ⟨q0, q1⟩ := hS.1.two; go_simp; exact hK.out _ _ _ rfl rfl rfl zG
         refine zSR (fun w' hS hV K hK => ?_) ?_
         · have e1 := zQ hV 1; obtain ⟨q0, q1⟩ := hS.1.two; go_simp; exact hK.out _ _ _ rfl rfl rfl zG
         refine zSR (fun w' hS hV K hK => ?_) ?_
         · obtain ⟨q0, q1⟩ := hS.1.two; go_simp; exact hK.out _ _ _ rfl rfl rfl zG
         refine zSR (fun w' hS hV K hK => ?_) ?_
         · have e3 := zQ hV 3; obtain ⟨q0, q1⟩ := hS.1.two; go_simp; refine (l04Size_any P A n c w' (by omega)).mono ?_; rintro e v1 ⟨rfl, hb⟩; exact hK.out _ _ _ rfl rfl rfl hb
         refine zSR (fun w' hS hV K hK => ?_) ?_
         · have e0 := zQ hV 0; have e2 := zQ hV 2; have e4 := zQ hV 4; obtain ⟨q0, q1⟩ := hS.1.two; go_simp; refine (nextList_any g P (pw n) w' hS.2.2.s' (by omega) (by omega)).mono ?_; rintro e v1 ⟨A9, c9, xs9, rfl, hl9, hx9, ho9, hd9⟩; exact hK.out _ _ _ rfl rfl ⟨_, _, xs9, rfl, hl9, nums_of (by omega) hx9, ho9.base hS.2.2.size⟩ hd9
         refine zSR (fun w' hS hV K hK => ?_) ?_
         · obtain ⟨A5, c5, X5, e5, l5, n5, h5⟩ := hV 5 (by decide); obtain ⟨q0, q1⟩ := hS.1.two; go_simp; exact hK.out _ _ _ rfl rfl ⟨_, _, X5, rfl, l5, n5, h5⟩ zG
         refine fun w' hS hV => ?_
         have e0 := zQ hV 0
         have e1 := zQ hV 1
         have e2 := zQ hV 2
         have e3 := zQ hV 3
         have e4 := zQ hV 4
         obtain ⟨A5, c5, X5, e5, l5, n5, h5⟩ := hV 5 (by decide)
         obtain ⟨A6, c6, X6, e6, l6, n6, h6⟩ := hV 6 (by decide)
         simp only [e0, e1, e2, e3, e4, e5, e6]
         clear e0 e1 e2 e3 e4 e5 e6
         refine wpAny_done (by kernel_rfl) ?_ _
         obtain ⟨_, _, d9⟩ := hS
         go_wp2
         go_ret
         exact ⟨_, _, rfl, ⟨X6, h6⟩, d9⟩
theorem nums_drawn {P : Int} {xs : List Int} (h : nums P xs = true) : NumsL P xs := fun x hx => by
 have := List.all_eq_true.1 h x hx
 simp [inR] at this
 omega
set_option maxHeartbeats 6400000 in
set_option maxRecDepth 8000 in
theorem l04Spoil_any (g : Nat) (P : Int) (A : Option Addr) (n c : Nat) (sq : List Int) (w : World) (hs : Src w g 144) (hn : n ≤ 1048576) (ho : Own w 0 2 A n c (ints sq)) :
    Calls Tryz.prog 169 #[.pointer (some ⟨g, 0, none⟩), .agg #[.int .i64 P, .slice A n c]] w fun e w' => ∃ (A' : Option Addr) (m c' : Nat), e = .returned (.slice A' m c') ∧ m ≤ 100 ∧ (∃ xs : List Int, Own w' w.heap.size 2 A' m c' (ints xs)) ∧ Dr g 144 w w' := by
 have hsl : sq.length = n := ho.rd.lenI
 have k0 : Blk (w.alloc (.cells #[.int .i64 P, .slice A n c] 26)) w.heap.size 26 #[.int .i64 P, .slice A n c] := Blk.new _ _ _
 have d0 := (Dr.refl hs).alloc (.cells #[.int .i64 P, .slice A n c] 26)
 have o0 := ho.below (zG.alloc (Nat.le_refl _) (.cells #[.int .i64 P, .slice A n c] 26))
 have hSQ : ∀ gb, (Value.slice A n c).ownBlock = some gb → gb < w.heap.size := fun gb e => (World.ownsRow.lt ho gb e).2
 cases h1 : isSp P sq
 · have H1 := Lib.hid h1
   clear h1
   go_enter Tryz.func169, Tryz.ntmps169
   go_wp2_with fail
   refine (l03Is_b _ _ _ _ _ _ (by omega) o0.rd H1.out).mono ?_
   rintro e w2 ⟨rfl, hb⟩
   have d2 := d0.then hb
   have hM := (Mk.lit (E := 2) (Below.refl w2.heap.size w2) #[.int .i64 1, .int .i64 0] (by simp [maxLen])).2.base (B' := w.heap.size) d2.size
   have d3 := d2.alloc (.cells #[.int .i64 1, .int .i64 0] 2)
   clear hb d2 d0 o0 k0
   go_wp2
   go_ret
   exact ⟨_, 2, _, rfl, by omega, ⟨[1, 0], by simpa [ints] using hM⟩, d3⟩
 · obtain ⟨hP, hn1, hn2, hq⟩ := isSp_dim h1
   obtain ⟨hp3, hp2⟩ := isP_ge hP
   have HQ := Lib.hid (nums_drawn hq)
   have H1 := Lib.hid h1
   rw [hsl] at hn1 hn2
   have hpw : pw n ≤ 64 := pw_le hn2
   have hpn := pw_pos n
   clear h1 hP hq
   go_enter Tryz.func169, Tryz.ntmps169
   go_wp2_with fail
   refine (l03Is_b _ _ _ _ _ _ (by omega) o0.rd H1.out).mono ?_
   rintro e w2 ⟨rfl, hb⟩
   have d2 := d0.then hb
   have k2 := k0.below hb k0.lt
   have o2 := o0.below hb
   have hdr := l04Draw_any g P A n c sq w2 d2.s' (by omega) hp2 hn2 hn1 o2 HQ.out
   clear hb d0 o0 k0
   obtain ⟨q0, q1⟩ := k2.two
   go_wp2_with fail
   refine hdr.mono ?_
   rintro e w3 ⟨A2, c2, rfl, ⟨X5, h3⟩, hd3⟩
   have d3 := d2.trans hd3
   have k3 := k2.dr hd3 (by decide)
   have o3 := o2.dr hd3 (by decide)
   have h3' := h3.base (B' := w.heap.size) d2.size
   have hnx := next_any g 30 w3 d3.s' (by omega)
   clear hdr d2 k2 o2 h3 hd3 q0 q1
   go_wp2_with fail
   refine hnx.mono ?_
   rintro e w4 ⟨r, rfl, hr1, hr2, hd4⟩
   have d5 := d3.trans hd4
   have k5 := k3.dr hd4 (by decide)
   have o5 := o3.dr hd4 (by decide)
   have h5 := h3'.dr hd4 (by decide)
   clear hnx d3 k3 o3 h3' hd4
   by_cases h0 : r = 0
   · have e0 : (r == 0) = true := by simp [h0]
     have H5 := Lib.hid h5
     clear h5
     go_wp2_with (first
      | (at_builtin; (refine wpList_app1 (cutW w4 w.heap.size) w4 24 2 _ _ Tryz.underlying24 info_i rfl (by omega) rfl _ _ rfl A2 (pw n) c2 _ _ (H5.out.mk_ d5.size) (by omega) rfl rfl rfl ?_; intro A9 c9 w9 hM9 hg9 _)))
     have hO9 := hM9.own_ (cutW_size d5.size)
     have d9 := d5.grown H5.out hg9
     clear hM9 hg9
     go_wp2
     go_ret
     exact ⟨A9, pw n + 1, c9, rfl, by omega, ⟨X5 ++ [0], by simpa [ints] using hO9⟩, d9⟩
   · have e0 : (r == 0) = false := by simp [h0]
     by_cases h1 : r = 1
     · have e1 : (r == 1) = true := by simp [h1]
       rcases h5.form with ⟨_, hzz⟩ | ⟨g2, rfl, hga, hgb⟩
       · omega
       obtain ⟨q0, q1⟩ := k5.two
       go_wp2
       refine wp_obsR 11 (Dr g 144) [[], [], [], [2], [1, 2, 3], [], [], [6], [6, 7], [1, 2, 3, 4, 5, 6, 7, 8], [0, 1, 2, 3, 4], [0, 1, 2, 3, 4, 5, 6, 7, 8, 9, 10]] [[], [], [], [], [99], [], [], [], [], [8], []] (fun x => [VIs (.slice (some ⟨g2, 0, none⟩) (pw n) c2), VIs (.pointer (some ⟨g, 0, none⟩)), VIs (.agg #[.int .i64 P, .slice A n c]), VIs (.int .i64 (pw n)), VIx (pw n), VIs (.pointer (some ⟨g, 0, none⟩)), VIs (.pointer (some ⟨w.heap.size, 0, none⟩)), VIs (.int .i64 (P)), VBs 2 #[.int .i64 (-1), .int .i64 P], VNum, VPt g2 (pw n) (x 4)]) (fun w' => Blk w' w.heap.size 26 #[.int .i64 P, .slice A n c] ∧ Own w' 0 2 A n c (ints sq) ∧ Dr g 144 w w' ∧ Own w' w.heap.size 2 (some ⟨g2, 0, none⟩) (pw n) c2 (ints X5)) (by kernel_rfl) (by kernel_rfl) (fun x x' j hx => by
           rcases j with _ | _ | _ | _ | _ | _ | _ | _ | _ | _ | _ | j
           · rfl
           · rfl
           · rfl
           · rfl
           · rfl
           · rfl
           · rfl
           · rfl
           · rfl
           · rfl
           · rw [hx 4 (by decide)]
           · rfl)
        (weak_ofR [0, 1, 2, 3, 4, 5, 6, 7, 8, 9, 10] (by decide) (fun k hk x v w w' hp hr => by
         simp only [List.mem_cons, zJ, or_false] at hk
         rcases hk with rfl | rfl | rfl | rfl | rfl | rfl | rfl | rfl | rfl | rfl | rfl
         · exact hp
         · exact hp
         · exact hp
         · exact hp
         · exact hp
         · exact hp
         · exact hp
         · exact hp
         · obtain ⟨G9, e9, b9⟩ := hp; exact ⟨G9, e9, b9.dr hr (by decide)⟩
         · exact hp
         · exact hp)) (fun j _ _ h hb => hb.either (fun hb => ⟨h.1.below hb h.1.lt, h.2.1.below hb, h.2.2.1.then hb, h.2.2.2.below hb⟩) (fun hr => ⟨h.1.dr hr (by decide), h.2.1.dr hr (by decide), h.2.2.1.trans hr, h.2.2.2.dr hr (by decide)⟩)) (⟨k5.drew, o5.below zG.drew, d5.then zG.drew, h5.below zG.drew⟩) (fun x => ?_)
       refine zSR (fun w' hS hV K hK => ?_) ?_
       · obtain ⟨q0, q1⟩ := hS.1.two; go_simp; exact hK.out _ _ _ rfl rfl rfl zG
       refine zSR (fun w' hS hV K hK => ?_) ?_
       · obtain ⟨q0, q1⟩ := hS.1.two; go_simp; exact hK.out _ _ _ rfl rfl rfl zG
       refine zSR (fun w' hS hV K hK => ?_) ?_
       · obtain ⟨q0, q1⟩ := hS.1.two; go_simp; exact hK.out _ _ _ rfl rfl rfl zG
       refine zSR (fun w' hS hV K hK => ?_) ?_
       · have e2 := zQ hV 2; obtain ⟨q0, q1⟩ := hS.1.two; go_simp; refine (l04Size_any P A n c w' (by omega)).mono ?_; rintro e v1 ⟨rfl, hb⟩; exact hK.out _ _ _ rfl rfl rfl hb
       refine zSR (fun w' hS hV K hK => ?_) ?_
       · have e1 := zQ hV 1; have e3 := zQ hV 3; obtain ⟨q0, q1⟩ := hS.1.two; go_simp; refine (next_any g ((pw n : Nat) : Int) w' hS.2.2.1.s' (by omega)).mono ?_; rintro e v1 ⟨rr, rfl, t1, t2, hd9⟩; have t3 := t2 (by omega); obtain ⟨rn2, rfl⟩ : ∃ k : Nat, rr = k := ⟨rr.toNat, by omega⟩; exact hK.out _ _ _ rfl rfl ⟨rn2, rfl, by omega⟩ hd9
       refine zSR (fun w' hS hV K hK => ?_) ?_
       · obtain ⟨q0, q1⟩ := hS.1.two; go_simp; exact hK.out _ _ _ rfl rfl rfl zG
       refine zSR (fun w' hS hV K hK => ?_) ?_
       · obtain ⟨q0, q1⟩ := hS.1.two; go_simp; exact hK.out _ _ _ rfl rfl rfl zG
       refine zSR (fun w' hS hV K hK => ?_) ?_
       · have e6 := zQ hV 6; obtain ⟨q0, q1⟩ := hS.1.two; go_simp; exact hK.out _ _ _ rfl rfl rfl zG
       refine zSR (fun w' hS hV K hK => ?_) ?_
       · have e7 := zQ hV 7; obtain ⟨q0, q1⟩ := hS.1.two; go_simp; exact hK.out _ _ _ rfl rfl ⟨_, rfl, Blk.new _ _ _⟩ (zG.alloc (Nat.le_refl _) _)
       refine zSR (fun w' hS hV K hK => ?_) ?_
       · obtain ⟨rx, e4, lx⟩ := hV 4 (by decide); have e5 := zQ hV 5; obtain ⟨G5, e5, b5⟩ := hV 8 (by decide); obtain ⟨q0, q1⟩ := hS.1.two; go_simp; refine (pick_any g G5 [-1, P] _ hS.2.2.1.s' (by rw [ints2]; exact b5) (by simp) (by simp)).mono ?_; rintro e v1 ⟨r1, _, rfl, hr⟩; exact hK.out _ _ _ rfl rfl ⟨_, rfl⟩ hr
       refine zSR (fun w' hS hV K hK => ?_) ?_
       · have e0 := zQ hV 0
         obtain ⟨rx, e4, lx⟩ := hV 4 (by decide)
         obtain ⟨q0, q1⟩ := hS.1.two
         have b1 : (0 : Int) ≤ (rx : Int) := by omega
         have b2 : (rx : Int) < ((pw n : Nat) : Int) := by omega
         go_simp
         exact hK.out _ _ _ rfl rfl ⟨rx, e4, lx, rfl⟩ zG
       refine fun w' hS hV => ?_
       have e0 := zQ hV 0
       have e1 := zQ hV 1
       have e2 := zQ hV 2
       have e3 := zQ hV 3
       obtain ⟨rx, e4, lx⟩ := hV 4 (by decide)
       have e5 := zQ hV 5
       have e6 := zQ hV 6
       have e7 := zQ hV 7
       obtain ⟨rv, e9⟩ := hV 9 (by decide)
       obtain ⟨ry, f10, ly, e10⟩ := hV 10 (by decide)
       simp only [e0, e1, e2, e3, e4, e5, e6, e7, e9, e10]
       clear e0 e1 e2 e3 e4 e5 e6 e7 e9 e10
       obtain ⟨k6, o6, d6, h6⟩ := hS
       obtain ⟨w6, rfl⟩ : ∃ W, W = w' := ⟨_, rfl⟩
       obtain ⟨u1, hc1⟩ := h6.cellI ly
       have hf1 := h6.frozen_ ry
       refine any_one (j := 11) (by kernel_rfl) (Eq.trans (by simp only [zA, zB, zC]; exact rfl) rfl) (fun K hK => ?_)
       go_simp
       refine hK.out _ _ (wpAny_done (by kernel_rfl) ?_ _)
       obtain ⟨h7, hg7⟩ := h6.set_ ry (.int .i64 rv)
       rw [ints_set] at h7
       have d7 := d6.grown h6 hg7
       clear k6 o6 d6 h6 hg7 hc1 hf1 k5 o5 d5 h5 q0 q1
       go_wp2
       go_ret
       exact ⟨_, _, _, rfl, by omega, ⟨_, h7⟩, d7⟩
     · have e1 : (r == 1) = false := by simp [h1]
       go_wp2
       go_ret
       exact ⟨A2, pw n, c2, rfl, by omega, ⟨X5, h5⟩, d5⟩
section
variable {w w' : World} {g res : Nat}
theorem Blk.stored {p' : Int} {A' : Option Addr} {n' c' : Nat} {a b : Value} (k : Blk w res 26 #[a, b]) : Blk ((w.setCell ⟨res, 0, none⟩ (.int .i64 p')).setCell ⟨res, 1, none⟩ (.slice A' n' c')) res 26 #[.int .i64 p', .slice A' n' c'] := by
 simpa using (k.set_ 0 (.int .i64 p')).set_ 1 (.slice A' n' c')
end
section
variable {w0 w w' : World} {E : TypeId} {A : Option Addr} {n c : Nat} {us : List Value}
theorem Mk.grown_below (h : Mk w0 w E A n c us) (hg : w.grownBy w' (Value.slice A n c).ownBlock) : Below w0.heap.size w w' :=
 zG.grown hg h.1.size (fun k hk => (h.2.lt k hk).1)
end
/-- A whole list is appended, in a region that draws its order. -/
theorem wp_appAll {o : Oper} {a : Act} {K : Act → World → Prop} {Q : Exit → Act → World → Prop} (w0 wr : World)
    (s x : Operand) (ho : o.op = .call { callee := .builtin .append, args := #[s, x], argTypes := #[24, 24] })
    (A : Option Addr) (n c : Nat) (xs : List Int) (B : Option Addr) (m d : Nat) (ys : List Int) (hM : MkI w0 wr A n c xs) (hY : Rd wr B m (ints ys)) (h0 : 0 < m) (hn : n ≤ 65536) (hm : m ≤ 65536)
    (hs : a.eval s = .slice A n c) (hx : a.eval x = .slice B m d)
    (h : ∀ A' c' w', MkI w0 w' A' (n + m) c' (xs ++ ys) → wr.grownBy w' (Value.slice A n c).ownBlock → K (a.put o.dst (.slice A' (n + m) c')) w') : o.wp Tryz.prog a wr K Q := by
 obtain ⟨i, hi, h1, h2, h3⟩ := info_parts info_i
 obtain ⟨b1, b2⟩ := bound_of (show n + m ≤ 1099511627776 by omega)
 have hyl : ys.length = m := by have := hY.1; rwa [ints_length] at this
 obtain ⟨g, o', rfl, hc⟩ := hY.2 h0
 obtain ⟨v', w', hr, hown, hg, _, _⟩ := run_append_own_at (P := Tryz.prog) wr w0.heap.size 24 o.type 2 i _ 1 8 Tryz.underlying24 hi h1 h2 h3 rfl (by omega) (.slice A n c) n (ints xs) hM.2 ⟨g, o', none⟩ m d (ints ys) (by rw [ints_length, hyl, Nat.mul_one]) (fun j u hu => by rw [Addr.add_lit]; exact hc j u hu) (by intro u hu; obtain ⟨y, _, rfl⟩ := List.mem_map.1 hu; rfl) (by simp only [maxLen]; omega) (by have := b2 8 (by omega); omega) hM.1.size
 unfold Oper.wp execOp
 simp only [ho, resolve, invoke, builtin, Sem.run_bind, Sem.run_pure, Result.andThen_ok, List.map_toArray, List.map_cons, List.map_nil, hs, hx, hr]
 have hb' : Below w0.heap.size w0 w' := hM.1.grown hg hM.1.size (fun k hk => (hM.2.lt k hk).1)
 have e : ints xs ++ ints ys = ints (xs ++ ys) := by unfold ints; rw [List.map_append]
 rw [e] at hown
 rcases hown.2 with ⟨_, h0⟩ | ⟨g, cap, cur, rfl, hr⟩
 · omega
 · exact h _ _ _ ⟨hb', hown⟩ hg
theorem lim_lt {C : List (List Nat)} {j b B : Nat} {w : World} (h : b < B) (hB : B ≤ w.heap.size) : b < lim C B j w := Nat.lt_of_lt_of_le h (lim_ge hB)
end Go.Proofs.YtmkjdpnoloofjaaGreat
namespace Go.Proofs.YtmkjdpnoloofjaaGreat
section
variable {p : Int} {sq : List Int}
theorem reg_ne (hp : 0 < p) (hs : NumsL p sq) (hr : regB sq = true) {i : Nat} (hi : i < sq.length) : sq.getD i 0 % p ≠ 0 := by
 have h := hs.getD hp i
 rw [Int.emod_eq_of_lt h.1 h.2]
 exact regB_at hr (getD_mem 0 hi)
def d4 (p a b x0 x1 x2 x3 y0 y1 y2 y3 : Int) : List Int :=
 [(x0 * y0 + a * (x1 * y1) + b * (x2 * y2) - a * b * (x3 * y3)) % p, (x0 * y1 + x1 * y0 - b * (x2 * y3) + b * (x3 * y2)) % p, (x0 * y2 + x2 * y0 + a * (x1 * y3) - a * (x3 * y1)) % p, (x0 * y3 + x3 * y0 + x1 * y2 - x2 * y1) % p]
end
section
variable {p : Int} {sq : List Int}
/-- The left and the right matrix of a multivector, and their transposes. -/
def lcolL (p : Int) (sq : List Int) (n : Nat) (xs : List Int) : List (List Int) := tab (pw n) fun m => mulL p sq xs (unitRow (pw n) m)
def rcmL (p : Int) (sq : List Int) (n : Nat) (xs : List Int) : List (List Int) := tab (pw n) fun m => mulL p sq (unitRow (pw n) m) xs
def lmL (p : Int) (sq : List Int) (n : Nat) (xs : List Int) : List (List Int) := transL (lcolL p sq n xs)
def rmL (p : Int) (sq : List Int) (n : Nat) (xs : List Int) : List (List Int) := transL (rcmL p sq n xs)
theorem lcol_tab (hp : 2 ≤ p) (x : Cl p sq) : Tab p (pw sq.length) (lcolL p sq sq.length x.l) := Tab.tab fun m hm => by
 rw [← Cl.at_l (sq := sq) (by omega) hp hm, ← Cl.mul_l]
 exact ⟨Cl.len _, Cl.nums _⟩
theorem rcm_tab (hp : 2 ≤ p) (x : Cl p sq) : Tab p (pw sq.length) (rcmL p sq sq.length x.l) := Tab.tab fun m hm => by
 rw [← Cl.at_l (sq := sq) (by omega) hp hm, ← Cl.mul_l]
 exact ⟨Cl.len _, Cl.nums _⟩
theorem lcol_len (n : Nat) (xs : List Int) : (lcolL p sq n xs).length = pw n := tab_len _ _
theorem rcm_len (n : Nat) (xs : List Int) : (rcmL p sq n xs).length = pw n := tab_len _ _
theorem Cl.mul_sumr (hp : 0 < p) (x : Cl p sq) (f : Nat → Cl p sq) (n : Nat) : x * Cl.sum hp n f = Cl.sum hp n fun i => x * f i := by
 have h := Cl.mul_sum hp x (Cl.one hp) f n
 simp only [Cl.mul_one] at h
 exact h
theorem Cl.mul_suml (hp : 0 < p) (x : Cl p sq) (f : Nat → Cl p sq) (n : Nat) : Cl.sum hp n f * x = Cl.sum hp n fun i => f i * x := by
 have h := Cl.mul_sum hp (Cl.one hp) x f n
 simp only [Cl.one_mul] at h
 exact h
theorem lm_co (hp : 2 ≤ p) (x z : Cl p sq) {r : Nat} (hr : r < pw sq.length) : (x * z).co r % p = (sumTo (pw sq.length) fun q => ent (lmL p sq sq.length x.l) r q * z.co q) % p := by
 have hp0 : 0 < p := by omega
 have e : x * z = Cl.sum hp0 (pw sq.length) fun m => x * (z.co m * Cl.at_ hp0 m) := by
  rw [← Cl.mul_sumr, ← Cl.at_sum]
 rw [e, Cl.sum_co hp0 _ hr]
 refine sumTo_mod p fun q hq => ?_
 rw [Cl.mul_sm, Cl.sm_co _ _ hr, Int.mul_comm]
 have h1 : ent (lmL p sq sq.length x.l) r q = (x * Cl.at_ hp0 q : Cl p sq).co r := by
  unfold lmL
  refine (trans_at (lcol_tab hp x) (lcol_len _ _) (pw_pos _) hr hq).trans ?_
  unfold ent lcolL
  rw [tab_getD hq, ← Cl.at_l hp0 hp hq, ← Cl.mul_l]; rfl
 rw [h1]
theorem rm_co (hp : 2 ≤ p) (x z : Cl p sq) {r : Nat} (hr : r < pw sq.length) : (z * x).co r % p = (sumTo (pw sq.length) fun q => ent (rmL p sq sq.length x.l) r q * z.co q) % p := by
 have hp0 : 0 < p := by omega
 have e : z * x = Cl.sum hp0 (pw sq.length) fun m => (z.co m * Cl.at_ hp0 m) * x := by
  rw [← Cl.mul_suml, ← Cl.at_sum]
 rw [e, Cl.sum_co hp0 _ hr]
 refine sumTo_mod p fun q hq => ?_
 rw [Cl.sm_mul, Cl.sm_co _ _ hr, Int.mul_comm]
 have h1 : ent (rmL p sq sq.length x.l) r q = (Cl.at_ hp0 q * x : Cl p sq).co r := by
  unfold rmL
  refine (trans_at (rcm_tab hp x) (rcm_len _ _) (pw_pos _) hr hq).trans ?_
  unfold ent rcmL
  rw [tab_getD hq, ← Cl.at_l hp0 hp hq, ← Cl.mul_l]; rfl
 rw [h1]
theorem unit_mul_co (hp : 0 < p) (z : Cl p sq) {i m : Nat} (hi : i < sq.length) (hm : m < pw sq.length) : (Cl.vec hp (unitRow sq.length i) * z : Cl p sq).co m % p = (z.co (2 ^ i ^^^ m) * facZ sq (2 ^ i) (2 ^ i ^^^ m)) % p := by
 rw [Cl.vec_mul_co hp _ _ hm, sumTo_one i hi fun k hk hne => by rw [unitRow_getD hk, if_neg fun e => hne e.symm, Int.zero_mul, Int.zero_mul], unitRow_getD hi, if_pos rfl, Int.one_mul]
theorem mul_unit_co (hp : 0 < p) (z : Cl p sq) {i m : Nat} (hi : i < sq.length) (hm : m < pw sq.length) : (z * Cl.vec hp (unitRow sq.length i) : Cl p sq).co m % p = (z.co (2 ^ i ^^^ m) * facZ sq (2 ^ i ^^^ m) (2 ^ i)) % p := by
 rw [Cl.mul_vec_co hp _ _ hm, sumTo_one i hi fun k hk hne => by rw [unitRow_getD hk, if_neg fun e => hne e.symm, Int.zero_mul, Int.zero_mul], unitRow_getD hi, if_pos rfl, Int.one_mul]
theorem pc_full_n : ∀ n : Nat, n < 7 → pc (2 ^ n - 1) = n := by decide +kernel
theorem full_bit {n i : Nat} (hi : i < n) : (2 ^ n - 1).testBit i = true := by
 rw [Nat.testBit_two_pow_sub_one]; simpa using hi
theorem at_co (hp : 0 < p) (m : Nat) {q : Nat} (hq : q < pw sq.length) : (Cl.at_ hp m : Cl p sq).co q % p = (if q = m then 1 else 0) % p := Cl.of_cg hp _ hq
/-- The full blade is central where the squares are oddly many. -/
theorem ctr_full (hp : 0 < p) (h6 : sq.length ≤ 6) (ho : sq.length % 2 = 1) {i : Nat} (hi : i < sq.length) :
    (Cl.vec hp (unitRow sq.length i) * Cl.at_ hp (pw sq.length - 1) : Cl p sq) = Cl.at_ hp (pw sq.length - 1) * Cl.vec hp (unitRow sq.length i) := Cl.same fun q hq => by
 rw [unit_mul_co hp _ hi hq, mul_unit_co hp _ hi hq]
 have hq2 : 2 ^ i ^^^ q < pw sq.length := xor_lt (two_lt hi) hq
 by_cases hF : 2 ^ i ^^^ q = pw sq.length - 1
 · rw [hF]
   have hFl : pw sq.length - 1 < pw sq.length := by have := pw_pos sq.length; omega
   have hv := facZ_vec h6 hFl hi
   have hb : (pw sq.length - 1).testBit i = true := full_bit hi
   have hs : sgI (pw sq.length - 1) = -1 := by
    unfold sgI oddT
    rw [show pc (pw sq.length - 1) = sq.length from pc_full_n _ (by omega)]
    simp [ho]
   rw [hb, hs] at hv
   simp only [if_true, Int.neg_mul, Int.one_mul] at hv
   rw [show facZ sq (pw sq.length - 1) (2 ^ i) = facZ sq (2 ^ i) (pw sq.length - 1) by omega]
 · rw [cg_mul (show (Cl.at_ hp (pw sq.length - 1) : Cl p sq).co (2 ^ i ^^^ q) % p = 0 % p by rw [at_co hp _ hq2, if_neg hF]) rfl, cg_mul (show (Cl.at_ hp (pw sq.length - 1) : Cl p sq).co (2 ^ i ^^^ q) % p = 0 % p by rw [at_co hp _ hq2, if_neg hF]) rfl, Int.zero_mul, Int.zero_mul]
end
theorem sumTo_apart (a b : Nat) (f : Nat → Int) : sumTo (a + b) f = sumTo a f + sumTo b fun i => f (a + i) := by
 induction b with
 | zero => simp [sumTo]
 | succ b ih => rw [← Nat.add_assoc, sumTo_succ, ih, sumTo_succ]; omega
theorem Ind.append {p : Int} {n : Nat} {D E : List (List Int)} (hD : Ind p n D) (hE : Ind p n E)
    (h : ∀ u u' : Nat → Int, Sp p n D u → Sp p n E u' → (∀ q, q < n → (u q + u' q) % p = 0) → ∀ q, q < n → u q % p = 0 ∧ u' q % p = 0) : Ind p n (D ++ E) := fun c hc => by
 have hs : ∀ q, q < n → ((sumTo D.length fun i => c i * ent D i q) + (sumTo E.length fun i => c (D.length + i) * ent E i q)) % p = 0 := fun q hq => by
  rw [← hc q hq, List.length_append, sumTo_apart]
  congr 1
  congr 1
  · exact sumTo_congr fun i hi => by unfold ent; rw [getD_app_left [] _ hi]
  · exact sumTo_congr fun i hi => by unfold ent; rw [getD_app_right]
 have hz := h (fun q => sumTo D.length fun i => c i * ent D i q) (fun q => sumTo E.length fun i => c (D.length + i) * ent E i q) ⟨c, fun _ _ => rfl⟩ ⟨fun i => c (D.length + i), fun _ _ => rfl⟩ hs
 have h1 := hD c fun q hq => (hz q hq).1
 have h2 := hE (fun i => c (D.length + i)) fun q hq => (hz q hq).2
 intro i hi
 by_cases hd : i < D.length
 · exact h1 i hd
 · rw [List.length_append] at hi
   have := h2 (i - D.length) (by omega)
   rwa [show D.length + (i - D.length) = i by omega] at this
section
variable {p : Int} {sq : List Int}
/-- The rows of a list of multivectors; what is made of them; that they are independent. -/
def rowsC (D : List (Cl p sq)) : List (List Int) := D.map (·.l)
def SpC (D : List (Cl p sq)) (z : Cl p sq) : Prop := Sp p (pw sq.length) (rowsC D) fun q => z.co q
def IndC (D : List (Cl p sq)) : Prop := Ind p (pw sq.length) (rowsC D)
theorem rowsC_len (D : List (Cl p sq)) : (rowsC D).length = D.length := by unfold rowsC; rw [List.length_map]
theorem rowsC_tab (D : List (Cl p sq)) : Tab p (pw sq.length) (rowsC D) := fun x hx => by
 obtain ⟨z, _, rfl⟩ := List.mem_map.1 hx
 exact ⟨z.len, z.nums⟩
theorem rowsC_ent (D : List (Cl p sq)) {i : Nat} (hi : i < D.length) (q : Nat) : ent (rowsC D) i q = D[i].co q := by
 unfold ent rowsC
 rw [getD_of_lt [] (by rw [List.length_map]; exact hi), List.getElem_map]; rfl
theorem rowsC_app (D E : List (Cl p sq)) : rowsC (D ++ E) = rowsC D ++ rowsC E := List.map_append
theorem lift_rows (hp : 0 < p) : ∀ B : List (List Int), Tab p (pw sq.length) B → ∃ D : List (Cl p sq), rowsC D = B
 | [], _ => ⟨[], rfl⟩
 | r :: B, h => by
  obtain ⟨D, hD⟩ := lift_rows hp B fun x hx => h x (List.mem_cons_of_mem _ hx)
  obtain ⟨h1, h2⟩ := h r (List.mem_cons_self ..)
  exact ⟨⟨r, h1, h2, hp⟩ :: D, by unfold rowsC at hD ⊢; rw [List.map_cons, hD]⟩
theorem SpC.mem {D : List (Cl p sq)} {z : Cl p sq} (h : z ∈ D) : SpC D z := Sp.mem (List.mem_map_of_mem h)
theorem SpC.add {D : List (Cl p sq)} {a b : Cl p sq} (ha : SpC D a) (hb : SpC D b) : SpC D (a + b) := (Sp.add ha hb).congr fun _ hq => (Cl.add_co a b hq).symm
theorem SpC.sm {D : List (Cl p sq)} {a : Cl p sq} (k : Int) (ha : SpC D a) : SpC D (k * a) := (Sp.mul ha k).congr fun _ hq => (Cl.sm_co k a hq).symm
theorem SpC.zero (hp : 0 < p) (D : List (Cl p sq)) : SpC D (Cl.zero hp) := (Sp.zero p _ _).congr fun q hq => by rw [Cl.zero_co hp hq]; simp
/-- What is made of a list is a sum. -/
theorem SpC.sum (hp : 0 < p) {D : List (Cl p sq)} {z : Cl p sq} (h : SpC D z) : ∃ c : Nat → Int, z = Cl.sum hp D.length fun i => c i * D.getD i z := by
 obtain ⟨c, hc⟩ := h
 refine ⟨c, Cl.same fun q hq => ?_⟩
 rw [Cl.sum_co hp _ hq, hc q hq, rowsC_len]
 refine sumTo_mod p fun i hi => ?_
 rw [rowsC_ent D hi, Cl.sm_co _ _ hq, getD_of_lt z hi]
theorem SpC.of_sum (hp : 0 < p) (D : List (Cl p sq)) (f : Nat → Cl p sq) (n : Nat) (h : ∀ i, i < n → SpC D (f i)) : SpC D (Cl.sum hp n f) :=
 Cl.sum_ind hp (SpC D) (SpC.zero hp D) (fun _ _ => SpC.add) f n h
/-- What a product leads each of a list into, it leads all that is made of them into. -/
theorem SpC.mul (hp : 0 < p) {D E : List (Cl p sq)} (x : Cl p sq) (hD : ∀ d ∈ D, SpC E (x * d)) {z : Cl p sq} (h : SpC D z) : SpC E (x * z) := by
 obtain ⟨c, hc⟩ := h.sum hp
 rw [hc, Cl.mul_sumr]
 refine SpC.of_sum hp E _ _ fun i hi => ?_
 rw [Cl.mul_sm, getD_of_lt z hi]
 exact (hD _ (List.getElem_mem hi)).sm _
theorem SpC.trans (hp : 0 < p) {D E : List (Cl p sq)} (hD : ∀ d ∈ D, SpC E d) {z : Cl p sq} (h : SpC D z) : SpC E z := by
 have := SpC.mul hp (Cl.one hp) (E := E) (fun d hd => by rw [Cl.one_mul]; exact hD d hd) h
 rwa [Cl.one_mul] at this
theorem SpC.left {D E : List (Cl p sq)} {z : Cl p sq} (hp : 0 < p) (h : SpC D z) : SpC (D ++ E) z := h.trans hp fun _ hd => SpC.mem (List.mem_append_left _ hd)
theorem SpC.right {D E : List (Cl p sq)} {z : Cl p sq} (hp : 0 < p) (h : SpC E z) : SpC (D ++ E) z := h.trans hp fun _ hd => SpC.mem (List.mem_append_right _ hd)
theorem SpC.app {D E : List (Cl p sq)} {z : Cl p sq} (h : SpC (D ++ E) z) : ∃ a b, SpC D a ∧ SpC E b ∧ z = a + b := by
 unfold SpC at h
 rw [rowsC_app] at h
 obtain ⟨u, u', h1, h2, h3⟩ := Sp.append h
 refine ⟨Cl.of z.pos u, Cl.of z.pos u', Sp.congr h1 fun q hq => (Cl.of_cg _ _ hq).symm, Sp.congr h2 fun q hq => (Cl.of_cg _ _ hq).symm, Cl.same fun q hq => ?_⟩
 rw [Cl.add_co _ _ hq, h3 q hq]
 exact cg_add (Cl.of_cg _ _ hq).symm (Cl.of_cg _ _ hq).symm
theorem SpC.one {D : List (Cl p sq)} {v z : Cl p sq} (h : SpC (D ++ [v]) z) : ∃ (a : Cl p sq) (k : Int), SpC D a ∧ z = a + k * v := by
 obtain ⟨a, b, h1, h2, rfl⟩ := h.app
 obtain ⟨c, hc⟩ := h2.sum b.pos
 refine ⟨a, c 0, h1, ?_⟩
 have e : b = c 0 * v := hc.trans (by
  show Cl.zero b.pos + c 0 * v = c 0 * v
  rw [Cl.add_comm, Cl.add_zero])
 rw [← e]
theorem IndC.snoc (hP : isP p = true) {D : List (Cl p sq)} {v : Cl p sq} (h : IndC D) (hv : ¬ SpC D v) : IndC (D ++ [v]) := by
 unfold IndC
 rw [rowsC_app]
 exact Ind.snoc' hP h hv
theorem IndC.append {D E : List (Cl p sq)} (hp : 0 < p) (hD : IndC D) (hE : IndC E) (h : ∀ a b, SpC D a → SpC E b → a + b = Cl.zero hp → a = Cl.zero hp ∧ b = Cl.zero hp) : IndC (D ++ E) := by
 unfold IndC
 rw [rowsC_app]
 refine Ind.append hD hE fun u u' h1 h2 hs => ?_
 have := h (Cl.of hp u) (Cl.of hp u') (Sp.congr h1 fun q hq => (Cl.of_cg hp _ hq).symm) (Sp.congr h2 fun q hq => (Cl.of_cg hp _ hq).symm) (Cl.same fun q hq => by
  rw [Cl.add_co _ _ hq, Cl.zero_co hp hq, ← hs q hq]
  exact cg_add (Cl.of_cg hp _ hq) (Cl.of_cg hp _ hq))
 intro q hq
 exact ⟨by rw [← Cl.of_cg hp u hq, this.1, Cl.zero_co hp hq], by rw [← Cl.of_cg hp u' hq, this.2, Cl.zero_co hp hq]⟩
theorem IndC.map (hp : 0 < p) {D : List (Cl p sq)} (x : Cl p sq) (hD : IndC D) (h : ∀ z, SpC D z → x * z = Cl.zero hp → z = Cl.zero hp) : IndC (D.map (x * ·)) := fun c hc i hi => by
 rw [rowsC_len, List.length_map] at hi
 refine hD c (fun q hq => ?_) i (by rw [rowsC_len]; exact hi)
 obtain ⟨Z, hZ⟩ : ∃ Z : Cl p sq, Z = Cl.sum hp D.length fun i => c i * D.getD i (Cl.zero hp) := ⟨_, rfl⟩
 have hs : SpC D Z := by
  rw [hZ]
  refine SpC.of_sum hp D _ _ fun i hi => ?_
  rw [getD_of_lt _ hi]
  exact (SpC.mem (List.getElem_mem hi)).sm _
 have hz : Z = Cl.zero hp := h Z hs (Cl.same fun q hq => by
  rw [Cl.zero_co hp hq, hZ, Cl.mul_sumr, Cl.sum_co hp _ hq, ← hc q hq, rowsC_len, List.length_map]
  refine sumTo_mod p fun j hj => ?_
  rw [rowsC_ent _ (by rw [List.length_map]; exact hj), List.getElem_map, Cl.mul_sm, Cl.sm_co _ _ hq, getD_of_lt _ hj])
 have h0 := Cl.zero_co (sq := sq) hp hq
 rw [← hz, hZ, Cl.sum_co hp _ hq] at h0
 rw [← h0, rowsC_len]
 refine sumTo_mod p fun j hj => ?_
 rw [rowsC_ent D hj, Cl.sm_co _ _ hq, getD_of_lt _ hj]
/-- A basis of a space of multivectors. -/
def Bas (S : Cl p sq → Prop) (D : List (Cl p sq)) : Prop := IndC D ∧ ∀ z, S z ↔ SpC D z
theorem Bas.le (hP : isP p = true) {S : Cl p sq → Prop} {D E : List (Cl p sq)} (hD : Bas S D) (hE : IndC E) (hS : ∀ e ∈ E, S e) : E.length ≤ D.length := by
 rw [← rowsC_len, ← rowsC_len D]
 refine Ind.le hP hE (InSp.of_mem fun x hx => ?_)
 obtain ⟨z, hz, rfl⟩ := List.mem_map.1 hx
 exact (hD.2 z).1 (hS z hz)
theorem Bas.mem {S : Cl p sq → Prop} {D : List (Cl p sq)} (hD : Bas S D) {d : Cl p sq} (h : d ∈ D) : S d := (hD.2 d).2 (SpC.mem h)
theorem Bas.same (hP : isP p = true) {S : Cl p sq → Prop} {D E : List (Cl p sq)} (hD : Bas S D) (hE : Bas S E) : D.length = E.length :=
 Nat.le_antisymm (hE.le hP hD.1 fun _ h => hD.mem h) (hD.le hP hE.1 fun _ h => hE.mem h)
/-- What is made of a list has a basis. -/
theorem bas_ex (hP : isP p = true) (D : List (Cl p sq)) : ∃ E : List (Cl p sq), Bas (SpC D) E := by
 have h3 := isP_ge hP
 have hp : 0 < p := by omega
 have hT := rowsC_tab D
 obtain ⟨E, hE⟩ := lift_rows hp (basisL p (rowsC D)) (basisL_tab hp _ hT)
 obtain ⟨h1, h2⟩ := basisL_in hP (rowsC D) hT
 refine ⟨E, ?_, fun z => ?_⟩
 · unfold IndC; rw [hE]; exact (basisL_red hP _ hT).ind
 · unfold SpC; rw [hE]; exact ⟨h2.sp, h1.sp⟩
/-- A space with an operation whose square is a number that is no square has an even dimension. -/
theorem even_dim (hP : isP p = true) (hp : 0 < p) {S : Cl p sq → Prop} {D : List (Cl p sq)} (hD : Bas S D) (j : Cl p sq) (nu : Int) (hj : ∀ z, j * (j * z) = nu * z) (hn : ∀ k : Int, (nu - k * k) % p ≠ 0)
    (hS : ∀ z, S z → S (j * z)) : D.length % 2 = 0 := by
 have key : ∀ k (B : List (Cl p sq)), D.length ≤ B.length + k → IndC B → (∀ b ∈ B, S b) → (∀ b ∈ B, SpC B (j * b)) → B.length % 2 = 0 → D.length % 2 = 0 := by
  intro k
  induction k with
  | zero =>
   intro B hk hI hb hc he
   have := hD.le hP hI hb
   rw [show D.length = B.length by omega]; exact he
  | succ k ih =>
   intro B hk hI hb hc he
   by_cases hall : ∀ d ∈ D, SpC B d
   · have : Bas S B := ⟨hI, fun z => ⟨fun h => ((hD.2 z).1 h).trans hp hall, fun h => (hD.2 z).2 (h.trans hp fun b h2 => (hD.2 b).1 (hb b h2))⟩⟩
     rw [hD.same hP this]; exact he
   · obtain ⟨v, hv⟩ := Classical.not_forall.1 hall
     obtain ⟨hvD, hvB⟩ := Classical.not_imp.1 hv
     have hI1 := hI.snoc hP hvB
     have hJB : ∀ z, SpC B z → SpC B (j * z) := fun z h => SpC.mul hp j hc h
     have hI2 : IndC (B ++ [v] ++ [j * v]) := hI1.snoc hP fun h => by
      obtain ⟨a, c, ha, e⟩ := h.one
      have e2 : nu * v = j * a + c * a + (c * c) * v := by
       rw [← hj v, e, Cl.mul_add, Cl.mul_sm, e, Cl.sm_add, Cl.sm_sm]
       simp only [Cl.add_assoc]
      have e3 : (nu - c * c) * v = j * a + c * a := by
       have h9 : nu * v + (-(c * c)) * v = j * a + c * a := by rw [e2, Cl.add_back]
       rw [← h9, ← Cl.add_sm]; rfl
      refine hvB ?_
      have h8 : SpC B ((nu - c * c) * v) := by rw [e3]; exact (hJB a ha).add (ha.sm c)
      have h7 := h8.sm (invF p ((nu - c * c) % p))
      rw [Cl.sm_sm] at h7
      have hi := inv_mod hP (hn c)
      rw [Cl.sm_cg (j := 1) (by rw [Int.mul_comm, hi]; exact (Int.emod_eq_of_lt (by omega) (by have := isP_ge hP; omega)).symm), Cl.one_sm] at h7
      exact h7
     refine ih (B ++ [v] ++ [j * v]) (by simp; omega) hI2 (fun b h => ?_) (fun b h => ?_) (by simp; omega)
     · rcases List.mem_append.1 h with h | h
       · rcases List.mem_append.1 h with h | h
         · exact hb b h
         · rw [List.mem_singleton.1 h]; exact hD.mem hvD
       · rw [List.mem_singleton.1 h]; exact hS _ (hD.mem hvD)
     · have hin : ∀ z, SpC B z → SpC (B ++ [v] ++ [j * v]) z := fun z hz => (hz.left hp).left hp
       rcases List.mem_append.1 h with h | h
       · rcases List.mem_append.1 h with h | h
         · exact hin _ (hc b h)
         · rw [List.mem_singleton.1 h]; exact SpC.mem (by simp)
       · rw [List.mem_singleton.1 h, hj]
         exact SpC.sm _ (SpC.mem (by simp))
 exact key D.length [] (by simp) (fun c _ i hi => by simp [rowsC] at hi) (fun b h => by simp at h) (fun b h => by simp at h) (by simp)
end
section
variable {p : Int} {sq : List Int}
theorem SpC.ind (hp : 0 < p) {D : List (Cl p sq)} (Pr : Cl p sq → Prop) (h0 : Pr (Cl.zero hp)) (ha : ∀ a b, Pr a → Pr b → Pr (a + b)) (hs : ∀ (k : Int) a, Pr a → Pr (k * a)) (hD : ∀ d ∈ D, Pr d) {z : Cl p sq} (h : SpC D z) : Pr z := by
 obtain ⟨c, hc⟩ := h.sum hp
 rw [hc]
 refine Cl.sum_ind hp Pr h0 ha _ _ fun i hi => ?_
 rw [getD_of_lt z hi]
 exact hs _ _ (hD _ (List.getElem_mem hi))
theorem Cl.unsm (hP : isP p = true) {k : Int} (hk : k % p ≠ 0) (x : Cl p sq) : invF p (k % p) * (k * x) = x := by
 have h3 := isP_ge hP
 rw [Cl.sm_sm, Cl.sm_cg (j := 1) (by rw [Int.mul_comm, inv_mod hP hk]; exact (Int.emod_eq_of_lt (by omega) (by omega)).symm), Cl.one_sm]
theorem SpC.unsm (hP : isP p = true) {k : Int} (hk : k % p ≠ 0) {D : List (Cl p sq)} {x : Cl p sq} (h : SpC D (k * x)) : SpC D x := by
 have := h.sm (invF p (k % p))
 rwa [Cl.unsm hP hk] at this
theorem Cl.sm_nul (hp : 0 < p) (k : Int) : (k * Cl.zero hp : Cl p sq) = Cl.zero hp := by
 rw [← Cl.zero_sm (Cl.one hp), Cl.sm_sm, Int.mul_zero]
theorem Cl.none_of (hP : isP p = true) (hp : 0 < p) {k : Int} (hk : k % p ≠ 0) {x : Cl p sq} (h : k * x = Cl.zero hp) : x = Cl.zero hp := by
 rw [← Cl.unsm hP hk x, h, Cl.sm_nul]
theorem two_ne (hP : isP p = true) : (2 : Int) % p ≠ 0 := by
 have h3 := isP_ge hP
 rw [Int.emod_eq_of_lt (by omega) (by omega)]; omega
/-- Two anticommuting operations, the one with the square 1, the other one invertible, halve a dimension. -/
theorem split_dim (hP : isP p = true) (hp : 0 < p) {S : Cl p sq → Prop} {D : List (Cl p sq)} (hD : Bas S D) (u v : Cl p sq) (c : Int) (hc : c % p ≠ 0) (hvv : ∀ z, v * (v * z) = z) (huu : ∀ z, u * (u * z) = c * z)
    (huv : ∀ z, v * (u * z) = (-1 : Int) * (u * (v * z))) (hSv : ∀ z, S z → S (v * z)) (hSu : ∀ z, S z → S (u * z)) : ∃ E, Bas (fun z => S z ∧ v * z = z) E ∧ D.length = 2 * E.length := by
 have sAdd : ∀ a b, S a → S b → S (a + b) := fun a b ha hb => (hD.2 _).2 (((hD.2 _).1 ha).add ((hD.2 _).1 hb))
 have sSm : ∀ (k : Int) a, S a → S (k * a) := fun k a ha => (hD.2 _).2 (((hD.2 _).1 ha).sm k)
 have s0 : S (Cl.zero hp) := (hD.2 _).2 (SpC.zero hp D)
 obtain ⟨E, hE⟩ := bas_ex hP (D.map ((Cl.one hp + v) * ·))
 have e1 : ∀ z : Cl p sq, (Cl.one hp + v) * z = z + v * z := fun z => by rw [Cl.add_mul, Cl.one_mul]
 have hin : ∀ z, SpC (D.map ((Cl.one hp + v) * ·)) z ↔ S z ∧ v * z = z := fun z => by
  constructor
  · intro h
    refine SpC.ind hp (fun z => S z ∧ v * z = z) ⟨s0, Cl.mul_zero hp v⟩ (fun a b ⟨ha, ha'⟩ ⟨hb, hb'⟩ => ⟨sAdd a b ha hb, by rw [Cl.mul_add, ha', hb']⟩) (fun k a ⟨ha, ha'⟩ => ⟨sSm k a ha, by rw [Cl.mul_sm, ha']⟩) (fun d hd => ?_) h
    obtain ⟨d0, h0, rfl⟩ := List.mem_map.1 hd
    show S ((Cl.one hp + v) * d0) ∧ v * ((Cl.one hp + v) * d0) = (Cl.one hp + v) * d0
    rw [e1]
    exact ⟨sAdd _ _ (hD.mem h0) (hSv _ (hD.mem h0)), by rw [Cl.mul_add, hvv, Cl.add_comm]⟩
  · rintro ⟨h1, h2⟩
    have h3 := SpC.mul hp (Cl.one hp + v) (E := D.map ((Cl.one hp + v) * ·)) (fun d hd => SpC.mem (List.mem_map_of_mem hd)) ((hD.2 z).1 h1)
    rw [e1, h2, Cl.two] at h3
    exact h3.unsm hP (two_ne hP)
 have hB : Bas (fun z => S z ∧ v * z = z) E := ⟨hE.1, fun z => (hin z).symm.trans (hE.2 z)⟩
 refine ⟨E, hB, ?_⟩
 have hneg : ∀ z, SpC (E.map (u * ·)) z → v * z = (-1 : Int) * z ∧ S z := fun z h => by
  refine SpC.ind hp (fun z => v * z = (-1 : Int) * z ∧ S z) ⟨by rw [Cl.mul_zero, Cl.sm_nul], s0⟩ (fun a b ⟨ha, ha'⟩ ⟨hb, hb'⟩ => ⟨by rw [Cl.mul_add, ha, hb, Cl.sm_add], sAdd a b ha' hb'⟩)
   (fun k a ⟨ha, ha'⟩ => ⟨by rw [Cl.mul_sm, ha, Cl.sm_sm, Cl.sm_sm, Int.mul_comm], sSm k a ha'⟩) (fun d hd => ?_) h
  obtain ⟨d0, h0, rfl⟩ := List.mem_map.1 hd
  have := hB.mem h0
  exact ⟨by rw [huv, this.2], hSu _ this.1⟩
 have hF : Bas S (E ++ E.map (u * ·)) := by
  refine ⟨IndC.append hp hE.1 (hE.1.map hp u fun z _ hz => ?_) fun a b ha hb hab => ?_, fun z => ⟨fun hz => ?_, fun hz => ?_⟩⟩
  · refine Cl.none_of hP hp hc ?_
    rw [← huu, hz, Cl.mul_zero]
  · have h1 := ((hB.2 a).2 ha).2
    have h2 := (hneg b hb).1
    have h3 : a + (-1 : Int) * b = Cl.zero hp := by rw [← h1, ← h2, ← Cl.mul_add, hab, Cl.mul_zero]
    have hb0 : a = b := by
     have := Cl.move h3
     rwa [show (- -1 : Int) = 1 by rfl, Cl.one_sm, Cl.add_comm, Cl.add_zero] at this
    rw [hb0, Cl.two] at hab
    have := Cl.none_of hP hp (two_ne hP) hab
    exact ⟨hb0.trans this, this⟩
  · -- z is half of (z + v z) + (z - v z)
    have hz1 : S (z + v * z) ∧ v * (z + v * z) = z + v * z := ⟨sAdd _ _ hz (hSv _ hz), by rw [Cl.mul_add, hvv, Cl.add_comm]⟩
    obtain ⟨t, ht⟩ : ∃ t, t = z + (-1 : Int) * (v * z) := ⟨_, rfl⟩
    have hvt : v * t = (-1 : Int) * t := by
     rw [ht, Cl.mul_add, Cl.mul_sm, hvv, Cl.sm_add, Cl.sm_sm, show (-1 * -1 : Int) = 1 by rfl, Cl.one_sm, Cl.add_comm]
    have hSt : S t := by rw [ht]; exact sAdd _ _ hz (sSm _ _ (hSv _ hz))
    have hut : SpC E (u * t) := (hB.2 _).1 ⟨hSu _ hSt, by rw [huv, hvt, Cl.mul_sm, Cl.sm_sm, show (-1 * -1 : Int) = 1 by rfl, Cl.one_sm]⟩
    have h2 : SpC (E.map (u * ·)) (u * (u * t)) := SpC.mul hp u (fun d hd => SpC.mem (List.mem_map_of_mem hd)) hut
    rw [huu] at h2
    have h3 := ((hB.2 _).1 hz1).left hp (E := E.map (u * ·))
    have h4 := (h2.unsm hP hc).right hp (D := E)
    have h5 := h3.add h4
    have e : z + v * z + t = (2 : Int) * z := by
     rw [ht, ← Cl.two, Cl.add_assoc, Cl.add_comm z ((-1 : Int) * (v * z)), ← Cl.add_assoc (v * z), ← Cl.add_assoc, Cl.add_comm (v * z) ((-1 : Int) * (v * z)), Cl.gone, Cl.add_zero]
    rw [e] at h5
    exact h5.unsm hP (two_ne hP)
  · obtain ⟨a, b, ha, hb, rfl⟩ := hz.app
    exact sAdd _ _ ((hB.2 a).2 ha).1 (hneg b hb).2
 rw [hD.same hP hF, List.length_append, List.length_map]; omega
/-- Two squares make 1. -/
def solB (p a b : Nat) : Bool := (List.range p).any fun x => (List.range p).any fun y => (x * x * a + y * y * b) % p == 1
theorem sol_all : ([3, 5, 7, 11, 13].all fun p => (List.range p).all fun a => (List.range p).all fun b => a == 0 || b == 0 || solB p a b) = true := by decide +kernel
theorem two_one (hP : isP p = true) {a b : Int} (ha : a % p ≠ 0) (hb : b % p ≠ 0) : ∃ x y : Int, (x * x * a + y * y * b) % p = 1 := by
 have h3 := isP_ge hP
 obtain ⟨P, rfl⟩ : ∃ P : Nat, p = P := ⟨p.toNat, by omega⟩
 have hm : P ∈ [3, 5, 7, 11, 13] := by
  have : (P : Int) = 3 ∨ (P : Int) = 5 ∨ (P : Int) = 7 ∨ (P : Int) = 11 ∨ (P : Int) = 13 := by simp [isP] at hP; omega
  simp; omega
 have a1 := Int.emod_nonneg a (show (P : Int) ≠ 0 by omega)
 have a2 := Int.emod_lt_of_pos a (show (0 : Int) < P by omega)
 have b1 := Int.emod_nonneg b (show (P : Int) ≠ 0 by omega)
 have b2 := Int.emod_lt_of_pos b (show (0 : Int) < P by omega)
 have h := List.all_eq_true.1 sol_all P hm
 have h2 := List.all_eq_true.1 (List.all_eq_true.1 h (a % P).toNat (List.mem_range.2 (by omega))) (b % P).toNat (List.mem_range.2 (by omega))
 simp only [Bool.or_eq_true, beq_iff_eq] at h2
 rcases h2 with (h2 | h2) | h2
 · omega
 · omega
 unfold solB at h2
 obtain ⟨x, _, h2⟩ := List.any_eq_true.1 h2
 obtain ⟨y, _, h2⟩ := List.any_eq_true.1 h2
 refine ⟨x, y, ?_⟩
 have h4 := congrArg (fun n : Nat => (n : Int)) (beq_iff_eq.1 h2)
 simp only [Int.natCast_emod, Int.natCast_add, Int.natCast_mul, Int.toNat_of_nonneg a1, Int.toNat_of_nonneg b1] at h4
 rw [← Int.natCast_one, ← h4]
 exact (cg_add (cg_mul rfl (Int.emod_emod_of_dvd _ (Int.dvd_refl _))) (cg_mul rfl (Int.emod_emod_of_dvd _ (Int.dvd_refl _)))).symm
/-- The product of two elements of a plane. -/
theorem pl_mul (hp : 0 < p) {f g : Cl p sq} {a b : Int} (hf : f * f = a * Cl.one hp) (hg : g * g = b * Cl.one hp) (hfg : g * f = (-1 : Int) * (f * g)) (x y z w : Int) :
    (x * f + y * g) * (z * f + w * g) = (x * z * a + y * w * b) * Cl.one hp + (x * w - y * z) * (f * g) := by
 rw [Cl.add_mul, Cl.mul_add, Cl.mul_add, Cl.sm_mul, Cl.sm_mul, Cl.sm_mul, Cl.sm_mul, Cl.mul_sm, Cl.mul_sm, Cl.mul_sm, Cl.mul_sm, hf, hg, hfg]
 simp only [Cl.sm_sm]
 rw [Cl.add_sm, show x * w - y * z = x * w + y * (z * -1) by rw [Int.mul_neg, Int.mul_neg, Int.mul_one]; rfl, Cl.add_sm, Int.mul_assoc x z a, Int.mul_assoc y w b]
 rw [Cl.add_assoc, Cl.add_assoc, ← Cl.add_assoc ((x * w) * (f * g)), Cl.add_comm ((x * w) * (f * g) + _)]
/-- In a plane of two anticommuting elements lies one with the square 1, and one that anticommutes with it. -/
theorem plane (hP : isP p = true) (hp : 0 < p) {f g : Cl p sq} {a b : Int} (ha : a % p ≠ 0) (hb : b % p ≠ 0) (hf : f * f = a * Cl.one hp) (hg : g * g = b * Cl.one hp) (hfg : g * f = (-1 : Int) * (f * g)) :
    ∃ x y z w : Int, (x * f + y * g) * (x * f + y * g) = Cl.one hp ∧ (z * f + w * g) * (z * f + w * g) = (a * b) * Cl.one hp ∧ (x * f + y * g) * (z * f + w * g) = (-1 : Int) * ((z * f + w * g) * (x * f + y * g)) := by
 obtain ⟨x, y, h⟩ := two_one hP ha hb
 have h3 := isP_ge hP
 have h1 : (x * x * a + y * y * b) % p = 1 % p := by rw [h]; exact (Int.emod_eq_of_lt (by omega) (by omega)).symm
 have z0 : ∀ X : Cl p sq, (0 : Int) * X = Cl.zero hp := fun X => Cl.zero_sm X
 refine ⟨x, y, b * y, -(a * x), ?_, ?_, ?_⟩
 · rw [pl_mul hp hf hg hfg, show x * y - y * x = 0 by rw [Int.mul_comm]; omega, z0, Cl.add_zero, Cl.sm_cg h1, Cl.one_sm]
 · rw [pl_mul hp hf hg hfg, show b * y * -(a * x) - -(a * x) * (b * y) = 0 by grind, z0, Cl.add_zero]
   refine Cl.sm_cg ?_ _
   rw [show b * y * (b * y) * a + -(a * x) * -(a * x) * b = (a * b) * (x * x * a + y * y * b) by grind]
   exact (cg_mul rfl h1).trans (by rw [Int.mul_one])
 · rw [pl_mul hp hf hg hfg, pl_mul hp hf hg hfg, Cl.sm_add, Cl.sm_sm, Cl.sm_sm]
   rw [show x * (b * y) * a + y * -(a * x) * b = 0 by grind, show -1 * (b * y * x * a + -(a * x) * y * b) = 0 by grind, show x * -(a * x) - y * (b * y) = -1 * (b * y * y - -(a * x) * x) by grind]
end
end Go.Proofs.YtmkjdpnoloofjaaGreat
namespace Go.Proofs.YtmkjdpnoloofjaaGreat
open Go.RowKit
/-- The code of a space of at most four squares and multivectors. -/
def codeA (P : Int) (sq : List Int) (yss : List (List Int)) : Int := if codeM P sq yss = 0 then (if 4 < sq.length then 3 else 0) else codeM P sq yss
theorem codeA_zero {P : Int} {sq : List Int} {yss : List (List Int)} (h : codeA P sq yss = 0) : codeM P sq yss = 0 ∧ sq.length ≤ 4 := by
 unfold codeA at h
 by_cases h1 : codeM P sq yss = 0
 · rw [if_pos h1] at h
   by_cases h2 : 4 < sq.length
   · rw [if_pos h2] at h; omega
   · exact ⟨h1, by omega⟩
 · rw [if_neg h1] at h; exact absurd h h1
theorem codeA_mk {P : Int} {sq : List Int} {yss : List (List Int)} (h : codeM P sq yss = 0) (h4 : sq.length ≤ 4) : codeA P sq yss = 0 := by
 unfold codeA; rw [if_pos h, if_neg (by omega)]
set_option maxHeartbeats 800000 in
set_option maxRecDepth 8000 in
theorem checkAlgebra_any (P : Int) (A B : Option Addr) (n c m d : Nat) (sq : List Int) (ms : List (List Int)) (w : World) (hn : n ≤ 1048576) (hm : m ≤ 1048576) (ha : Rd w A n (ints sq)) (hb : RdII w B m ms) (hms : ∀ ys ∈ ms, ys.length ≤ 1048576) :
    Calls Tryz.prog 133 #[.agg #[.int .i64 P, .slice A n c], .slice B m d] w fun e w' => e = .returned (.int .i64 (codeA P sq ms)) ∧ Below w.heap.size w w' := by
 have hB0 : Below w.heap.size w (w.alloc (.cells #[.int .i64 P, .slice A n c] 26)) := zG.alloc (Nat.le_refl _) _
 have k0 : Blk (w.alloc (.cells #[.int .i64 P, .slice A n c] 26)) w.heap.size 26 #[.int .i64 P, .slice A n c] := Blk.new _ _ _
 have hcm := checkMultis_any P A B n c m d sq ms _ hn hm (ha.below hB0) (hb.below hB0) hms
 have hsl := ha.lenI
 have HL := Lib.hid hsl
 clear hsl
 by_cases e1 : codeM P sq ms = 0
 · rw [e1] at hcm
   have E1 := Lib.hid e1
   clear e1
   by_cases h4 : 4 < n
   · have d4 : decide (4 < (n : Int)) = true := by simp; omega
     go_enter Tryz.func133, Tryz.ntmps133
     go_wp2_with fail
     refine hcm.mono ?_
     rintro e w1 ⟨rfl, hb1⟩
     have hB1 := hB0.trans (hb1.mono (by simp))
     have k1 := k0.below hb1 k0.lt
     clear k0
     obtain ⟨q0, q1⟩ := k1.two
     go_wp2_with fail
     refine (dim_any _ _ _ _ _).mono ?_
     rintro e w2 ⟨rfl, hb2⟩
     go_wp2
     go_ret
     exact ⟨ret_int (by unfold codeA; rw [if_pos E1.out, HL.out, if_pos h4]), hB1.trans (hb2.mono hB1.size)⟩
   · have d4 : decide (4 < (n : Int)) = false := by simp; omega
     go_enter Tryz.func133, Tryz.ntmps133
     go_wp2_with fail
     refine hcm.mono ?_
     rintro e w1 ⟨rfl, hb1⟩
     have hB1 := hB0.trans (hb1.mono (by simp))
     have k1 := k0.below hb1 k0.lt
     clear k0
     obtain ⟨q0, q1⟩ := k1.two
     go_wp2_with fail
     refine (dim_any _ _ _ _ _).mono ?_
     rintro e w2 ⟨rfl, hb2⟩
     go_wp2
     go_ret
     exact ⟨ret_int (by unfold codeA; rw [if_pos E1.out, HL.out, if_neg h4]), hB1.trans (hb2.mono hB1.size)⟩
 · obtain ⟨r, hr⟩ : ∃ r, r = codeM P sq ms := ⟨_, rfl⟩
   have HR := Lib.hid hr
   have E1 := Lib.hid e1
   have b0 : (r != 0) = true := code_ne (by rw [hr]; exact e1)
   have b1 : (r == 0) = false := by simpa using b0
   rw [← hr] at hcm
   clear hr e1
   go_enter Tryz.func133, Tryz.ntmps133
   go_wp2_with fail
   refine hcm.mono ?_
   rintro e w1 ⟨rfl, hb1⟩
   have k1 := k0.below hb1 k0.lt
   obtain ⟨q0, q1⟩ := k1.two
   clear k0
   go_wp2
   go_ret
   exact ⟨ret_int (by unfold codeA; rw [if_neg E1.out, HR.out]), hB0.trans (hb1.mono (by simp))⟩
set_option maxHeartbeats 800000 in
set_option maxRecDepth 8000 in
theorem l09Code_any (P : Int) (A B : Option Addr) (n c m d : Nat) (sq : List Int) (ms : List (List Int)) (w : World) (hn : n ≤ 1048576) (hm : m ≤ 1048576) (ha : Rd w A n (ints sq)) (hb : RdII w B m ms) (hms : ∀ ys ∈ ms, ys.length ≤ 1048576) :
    Calls Tryz.prog 137 #[.agg #[.int .i64 P, .slice A n c], .slice B m d] w fun e w' => e = .returned (.int .i64 (codeA P sq ms)) ∧ Below w.heap.size w w' := by
 have hB0 : Below w.heap.size w (w.alloc (.cells #[.int .i64 P, .slice A n c] 26)) := zG.alloc (Nat.le_refl _) _
 have k0 : Blk (w.alloc (.cells #[.int .i64 P, .slice A n c] 26)) w.heap.size 26 #[.int .i64 P, .slice A n c] := Blk.new _ _ _
 have hcm := l04Code_any P A B n c m d sq ms _ hn hm (ha.below hB0) (hb.below hB0) hms
 have hsl := ha.lenI
 have HL := Lib.hid hsl
 clear hsl
 by_cases e1 : codeM P sq ms = 0
 · rw [e1] at hcm
   have E1 := Lib.hid e1
   clear e1
   by_cases h4 : 4 < n
   · have d4 : decide (4 < (n : Int)) = true := by simp; omega
     go_enter Tryz.func137, Tryz.ntmps137
     go_wp2_with fail
     refine hcm.mono ?_
     rintro e w1 ⟨rfl, hb1⟩
     have hB1 := hB0.trans (hb1.mono (by simp))
     have k1 := k0.below hb1 k0.lt
     clear k0
     obtain ⟨q0, q1⟩ := k1.two
     go_wp2
     go_ret
     exact ⟨ret_int (by unfold codeA; rw [if_pos E1.out, HL.out, if_pos h4]), hB1⟩
   · have d4 : decide (4 < (n : Int)) = false := by simp; omega
     go_enter Tryz.func137, Tryz.ntmps137
     go_wp2_with fail
     refine hcm.mono ?_
     rintro e w1 ⟨rfl, hb1⟩
     have hB1 := hB0.trans (hb1.mono (by simp))
     have k1 := k0.below hb1 k0.lt
     clear k0
     obtain ⟨q0, q1⟩ := k1.two
     go_wp2
     go_ret
     exact ⟨ret_int (by unfold codeA; rw [if_pos E1.out, HL.out, if_neg h4]), hB1⟩
 · obtain ⟨r, hr⟩ : ∃ r, r = codeM P sq ms := ⟨_, rfl⟩
   have HR := Lib.hid hr
   have E1 := Lib.hid e1
   have b0 : (r != 0) = true := code_ne (by rw [hr]; exact e1)
   have b1 : (r == 0) = false := by simpa using b0
   rw [← hr] at hcm
   clear hr e1
   go_enter Tryz.func137, Tryz.ntmps137
   go_wp2_with fail
   refine hcm.mono ?_
   rintro e w1 ⟨rfl, hb1⟩
   have k1 := k0.below hb1 k0.lt
   obtain ⟨q0, q1⟩ := k1.two
   clear k0
   go_wp2
   go_ret
   exact ⟨ret_int (by unfold codeA; rw [if_neg E1.out, HR.out]), hB0.trans (hb1.mono (by simp))⟩
set_option maxHeartbeats 6400000 in
set_option maxRecDepth 8000 in
theorem rightMatrix_any (P : Int) (A : Option Addr) (n c : Nat) (sq : List Int) (X : Option Addr) (cx : Nat) (xs : List Int) (w : World) (hp : 2 ≤ P) (hp2 : P ≤ 13) (hn : n ≤ 6) (ha : Rd w A n (ints sq)) (hs : NumsL P sq) (hx : Rd w X (pw n) (ints xs)) (hxs : NumsL P xs) (hcx : pw n ≤ cx) :
    Calls Tryz.prog 136 #[.agg #[.int .i64 P, .slice A n c], .slice X (pw n) cx] w fun e w' => ∃ (A' : Option Addr) (c' : Nat), e = .returned (.slice A' (pw n) c') ∧ MkII w w' A' (pw n) c' (transL (rcmL P sq n xs)) := by
 have hB0 : Below w.heap.size w (w.alloc (.cells #[.int .i64 P, .slice A n c] 26)) := zG.alloc (Nat.le_refl _) _
 have k0 : Blk (w.alloc (.cells #[.int .i64 P, .slice A n c] 26)) w.heap.size 26 #[.int .i64 P, .slice A n c] := Blk.new _ _ _
 have HCT : Hid (Tab P (pw n) (rcmL P sq n xs)) := Lib.hid (by
     have hsl := ha.lenI
     subst hsl
     exact rcm_tab hp ⟨xs, hx.lenI, hxs, by omega⟩)
 have HXL := Lib.hid hx.lenI
 have HXS := Lib.hid hxs
 have HS := Lib.hid hs
 have hpw : pw n ≤ 64 := pw_le hn
 have hpn := pw_pos n
 have hB4 := hB0.alloc hB0.size (.cells #[] 24)
 have k4 := k0.alloc (.cells #[] 24)
 have hM4 : MkII w ((w.alloc (.cells #[.int .i64 P, .slice A n c] 26)).alloc (.cells #[] 24)) (some ⟨(w.alloc (.cells #[.int .i64 P, .slice A n c] 26)).heap.size, 0, none⟩) 0 0 [] := MkII.empty hB0
 have hz3 : (w.alloc (.cells #[.int .i64 P, .slice A n c] 26)).heap.size < ((w.alloc (.cells #[.int .i64 P, .slice A n c] 26)).alloc (.cells #[] 24)).heap.size := by simp
 have hz1 : (w.alloc (.cells #[.int .i64 P, .slice A n c] 26)).heap.size = w.heap.size + 1 := by simp
 rw [hz1] at hM4 hz3
 clear hz1
 obtain ⟨q0, q1⟩ := k4.two
 have hbl := blades_any P A n c ((w.alloc (.cells #[.int .i64 P, .slice A n c] 26)).alloc (.cells #[] 24)) (by omega)
 clear hxs hs
 go_enter Tryz.func136, Tryz.ntmps136
 go_wp2_with fail
 obtain ⟨w4, hw4⟩ : ∃ W, W = (w.alloc (.cells #[.int .i64 P, .slice A n c] 26)).alloc (.cells #[] 24) := ⟨_, rfl⟩
 rw [← hw4] at hbl hM4 hB4 k4 hz3 q0 q1 ⊢
 refine hbl.mono ?_
 rintro e w5 ⟨U, cU, rfl, hU⟩
 have hM5 := hM4.below hU.b
 have k5 := k4.below hU.b k4.lt
 have hKp : Keeps w4 w5 w5 (.slice (some ⟨w.heap.size + 1, 0, none⟩) 0 0) := ⟨Nat.le_refl _, fun _ _ _ => rfl, fun gb e => .inl (lt_of_own e hz3)⟩
 clear hbl hM4 hB4 k4 hz3 hw4 q0 q1 k0
 go_wp2
 go_loopw [5, 12] (fun out i wr => ∃ (k : Nat) (A' : Option Addr) (c' : Nat), k ≤ pw n ∧ i = .int .i64 k ∧ out = .slice A' k c' ∧ MkII w wr A' k c' (tab k fun m => mulL P sq (unitRow (pw n) m) xs) ∧ Keeps w4 w5 wr (.slice A' k c') ∧ Blk wr w.heap.size 26 #[.int .i64 P, .slice A n c]) (fun _ i _ => pw n - (intOf i).toNat)
 case atStart => exact ⟨0, _, _, by omega, rfl, rfl, by simpa [tab] using hM5, hKp, k5⟩
 case round =>
  obtain ⟨k, A', c', hk, rfl, rfl, hM, hKp', k6⟩ := hrel
  clear hM5 hKp k5
  obtain ⟨q0, q1⟩ := k6.two
  by_cases hlt : k < pw n
  · obtain ⟨gu, ou, rfl, hxk, A1, c1, hcu, hru, hcc⟩ := (hU.keep hKp'.2.1).at_ hlt
    have hrow := unitM_get (pw n) k hxk
    rw [hrow, unitRow_len] at hru hcu hcc
    have hAl : Below wr.heap.size wr (wr.alloc (.cells #[.slice A1 (pw n) c1, .slice X (pw n) cx] 24)) := zG.alloc (Nat.le_refl _) _
    have hBr := hM.b.trans (hAl.mono hM.b.size)
    have hcall := times_any P A n c sq (some ⟨wr.heap.size, 0, none⟩) 2 2 [unitRow (pw n) k, xs] (wr.alloc (.cells #[.slice A1 (pw n) c1, .slice X (pw n) cx] 24)) (by omega) hp2 hn (by omega) (ha.below hBr) HS.out (rdII_two (Blk.new wr 24 _) (hru.below hAl) (hx.below hBr) hcc hcx) (all_two ⟨unitRow_nums hp _ k, unitRow_len _ k⟩ ⟨HXS.out, HXL.out⟩)
    rw [timesL_two P sq n (unitRow (pw n) k) xs (unitRow_len _ k) (unitRow_nums hp _ k)] at hcall
    have HM := Lib.hid hM
    have HK := Lib.hid hKp'
    have HAL := Lib.hid hAl
    have hcc' : Hid ((tab (k + 1) fun m => mulL P sq (unitRow (pw n) m) xs) = (tab k fun m => mulL P sq (unitRow (pw n) m) xs) ++ [mulL P sq (unitRow (pw n) k) xs]) := Lib.hid (by rw [tab_succ])
    have i1 : (0 : Int) ≤ (k : Int) := by omega
    have i2 : (k : Int) < (pw n : Int) := by omega
    clear hM hru hrow hKp' hAl hBr
    go_wp2_with fail
    refine hcall.mono ?_
    rintro e w7 ⟨A7, c7, rfl, hM7⟩
    have hM7' := hM7.after HAL.out
    have k7 := k6.below hM7'.b k6.lt
    clear hcall q0 q1 hM7
    go_wp2_with (at_builtin; refine wpList_appRowG w wr _ rfl _ _ rfl A' k c' _ A7 (pw n) c7 _ HM.out hM7' (by omega) rfl ?_ ?_; (go_simp); intro A8 c8 w8 hM8 hg8 hat8)
    have k8 := k7.grown hg8 ((HM.out.below hM7'.b).ne_blk k7 (by decide))
    have hK8 := HK.out.step (n' := k + 1) (c' := c8) hM7'.b hg8 hat8
    clear hg8 hat8 k7 k6
    go_roundw
    case rel => exact ⟨k + 1, A8, c8, by omega, by go_num, rfl, by rw [hcc'.out]; exact hM8, hK8, k8⟩
    case measure => simp [intOf]; omega
  · obtain rfl : k = pw n := by omega
    have htr := transpose_any P A' (pw n) c' (rcmL P sq n xs) (pw n) wr (by omega) (by omega) (by omega) hM.rd HCT.out
    go_wp2_with fail
    refine htr.mono ?_
    rintro e w7 ⟨A7, c7, rfl, hM7⟩
    have hM7' := hM7.after hM.b
    go_wp2
    go_ret
    exact ⟨_, _, rfl, hM7'⟩
set_option maxHeartbeats 6400000 in
set_option maxRecDepth 8000 in
theorem l09Right_any (P : Int) (A : Option Addr) (n c : Nat) (sq : List Int) (X : Option Addr) (cx : Nat) (xs : List Int) (w : World) (hp : 2 ≤ P) (hp2 : P ≤ 13) (hn : n ≤ 6) (ha : Rd w A n (ints sq)) (hs : NumsL P sq) (hx : Rd w X (pw n) (ints xs)) (hxs : NumsL P xs) (hcx : pw n ≤ cx) :
    Calls Tryz.prog 140 #[.agg #[.int .i64 P, .slice A n c], .slice X (pw n) cx] w fun e w' => ∃ (A' : Option Addr) (c' : Nat), e = .returned (.slice A' (pw n) c') ∧ MkII w w' A' (pw n) c' (transL (rcmL P sq n xs)) := by
 have hB0 : Below w.heap.size w (w.alloc (.cells #[.int .i64 P, .slice A n c] 26)) := zG.alloc (Nat.le_refl _) _
 have k0 : Blk (w.alloc (.cells #[.int .i64 P, .slice A n c] 26)) w.heap.size 26 #[.int .i64 P, .slice A n c] := Blk.new _ _ _
 have HCT : Hid (Tab P (pw n) (rcmL P sq n xs)) := Lib.hid (by
     have hsl := ha.lenI
     subst hsl
     exact rcm_tab hp ⟨xs, hx.lenI, hxs, by omega⟩)
 have HXL := Lib.hid hx.lenI
 have HXS := Lib.hid hxs
 have HS := Lib.hid hs
 have hpw : pw n ≤ 64 := pw_le hn
 have hpn := pw_pos n
 have hB4 := hB0.alloc hB0.size (.cells #[] 24)
 have k4 := k0.alloc (.cells #[] 24)
 have hM4 : MkII w ((w.alloc (.cells #[.int .i64 P, .slice A n c] 26)).alloc (.cells #[] 24)) (some ⟨(w.alloc (.cells #[.int .i64 P, .slice A n c] 26)).heap.size, 0, none⟩) 0 0 [] := MkII.empty hB0
 clear hxs hs
 go_enter Tryz.func140, Tryz.ntmps140
 go_wp2
 go_loopw [5, 6] (fun out i wr => ∃ (k : Nat) (A' : Option Addr) (c' : Nat), k ≤ pw n ∧ i = .int .i64 k ∧ out = .slice A' k c' ∧ MkII w wr A' k c' (tab k fun m => mulL P sq (unitRow (pw n) m) xs) ∧ Blk wr w.heap.size 26 #[.int .i64 P, .slice A n c]) (fun _ i _ => pw n - (intOf i).toNat)
 case atStart => exact ⟨0, _, _, by omega, rfl, rfl, by simpa [tab] using hM4, k4⟩
 case round =>
  obtain ⟨k, A', c', hk, rfl, rfl, hM, k6⟩ := hrel
  clear hM4 k4 hB4 k0
  obtain ⟨q0, q1⟩ := k6.two
  have hsz := l04Size_any P A n c wr (by omega)
  by_cases hlt : k < pw n
  · have hdl : decide ((k : Int) < ((pw n : Nat) : Int)) = true := by simp; omega
    go_wp2_with fail
    refine hsz.mono ?_
    rintro e w1 ⟨rfl, hb1⟩
    have k7 := k6.below hb1 k6.lt
    clear q0 q1
    obtain ⟨q0, q1⟩ := k7.two
    go_wp2_with fail
    refine (l04Zero_any P A n c _ (by omega)).mono ?_
    rintro e w2 ⟨A9, c9, rfl, hM9⟩
    have hM9' := hM9.after hb1
    have k8 := k7.below hM9.b k7.lt
    clear q0 q1 hM9 hsz k7
    rcases hM9'.2.form with ⟨_, hz⟩ | ⟨g9, rfl, hg9, _⟩
    · omega
    obtain ⟨u1, hc1⟩ := hM9'.2.cellI hlt
    have hf1 := hM9'.2.frozen_ k
    have hset := (hM9'.set k (.int .i64 1)).1
    rw [ints_set] at hset
    have HSET : Hid (MkI wr (w2.setCell ⟨g9, k, none⟩ (.int .i64 1)) (some ⟨g9, 0, none⟩) (pw n) c9 (unitRow (pw n) k)) := Lib.hid hset
    have k9 := k8.far (p := ⟨g9, k, none⟩) (show w.heap.size ≠ g9 by have := k6.lt; omega) (.int .i64 1)
    have HM := Lib.hid hM
    have i1 : (0 : Int) ≤ (k : Int) := by omega
    have i2 : (k : Int) < (pw n : Int) := by omega
    have hcall := l04Times_any P A n c sq (some ⟨g9, 0, none⟩) c9 (unitRow (pw n) k) X cx xs _ (by omega) hp2 hn (ha.below (hM.b.trans (HSET.out.b.mono hM.b.size))) HS.out HSET.out.rd (unitRow_nums hp _ k) (hx.below (hM.b.trans (HSET.out.b.mono hM.b.size))) HXS.out
    have hcc' : Hid ((tab (k + 1) fun m => mulL P sq (unitRow (pw n) m) xs) = (tab k fun m => mulL P sq (unitRow (pw n) m) xs) ++ [mulL P sq (unitRow (pw n) k) xs]) := Lib.hid (by rw [tab_succ])
    obtain ⟨q0, q1⟩ := k9.two
    clear hset hM9' k8 hM hb1
    go_wp2_with fail
    refine hcall.mono ?_
    rintro e w7 ⟨A7, c7, rfl, hM7⟩
    have hM7' := hM7.after HSET.out.b
    have k10 := k9.below hM7.b k9.lt
    clear hcall q0 q1 hM7 hc1 hf1
    go_wp2_with (at_builtin; refine wpList_appRowG w wr _ rfl _ _ rfl A' k c' _ A7 (pw n) c7 _ HM.out hM7' (by omega) rfl ?_ ?_; (go_simp); intro A8 c8 w8 hM8 hg8 hat8)
    have k11 := k10.grown hg8 ((HM.out.below hM7'.b).ne_blk k10 (by decide))
    clear hg8 hat8 k10 k9 k6
    go_roundw
    case rel => exact ⟨k + 1, A8, c8, by omega, by go_num, rfl, by rw [hcc'.out]; exact hM8, k11⟩
    case measure => simp [intOf]; omega
  · obtain rfl : k = pw n := by omega
    have hdl : decide (((pw n : Nat) : Int) < ((pw n : Nat) : Int)) = false := by simp
    go_wp2_with fail
    refine hsz.mono ?_
    rintro e w1 ⟨rfl, hb1⟩
    have htr := l02Turn_any P A' (pw n) c' (rcmL P sq n xs) (pw n) w1 (by omega) (by omega) (by omega) (hM.rd.below hb1) HCT.out
    have hM1 := hM.b.trans (hb1.mono hM.b.size)
    go_wp2_with fail
    refine htr.mono ?_
    rintro e w7 ⟨A7, c7, rfl, hM7⟩
    have hM7' := hM7.after hM1
    go_wp2
    go_ret
    exact ⟨_, _, rfl, hM7'⟩
set_option maxHeartbeats 800000 in
set_option maxRecDepth 8000 in
theorem isSquare_any (p a : Int) (w : World) (hp : 2 ≤ p) (hp2 : p ≤ 13) :
    Calls Tryz.prog 144 #[.int .i64 p, .int .i64 a] w fun e w' => e = .returned (.bool (rootF p a p.toNat 0).isSome) ∧ w = w' := by
 cases hr : rootF p a p.toNat 0 with
 | none =>
  have h := root_none (p := p) (a := a) w hp hp2 hr
  clear hr
  go_enter Tryz.func144, Tryz.ntmps144
  go_wp2_with fail
  refine h.mono ?_
  rintro e w1 ⟨rfl, rfl⟩
  go_wp2
  go_ret
  exact ⟨rfl, rfl⟩
 | some r =>
  have h := root_some (p := p) (a := a) w hp hp2 hr
  clear hr
  go_enter Tryz.func144, Tryz.ntmps144
  go_wp2_with fail
  refine h.mono ?_
  rintro e w1 ⟨rfl, rfl⟩
  go_wp2
  go_ret
  exact ⟨rfl, rfl⟩
/-- The square of the full blade. -/
def fsqL (P : Int) (sq : List Int) (n : Nat) : Int := (mulL P sq (bladeL n (pw n - 1)) (bladeL n (pw n - 1))).getD 0 0
/-- StructureOf. -/
def strV (P : Int) (sq : List Int) (n : Nat) : Int × Int × Int := if n % 2 = 0 then (1, (pw (n / 2) : Nat), 1) else if (rootF P (fsqL P sq n) P.toNat 0).isSome then (2, (pw (n / 2) : Nat), 1) else (1, (pw (n / 2) : Nat), 2)
def strR (P : Int) (sq : List Int) : (Int × Int × Int) × Int := if codeA P sq [] = 0 then (if regB sq then (strV P sq sq.length, 0) else ((0, 0, 0), 5)) else ((0, 0, 0), codeA P sq [])
theorem strR_ok {P : Int} {sq : List Int} (h : codeA P sq [] = 0) (hr : regB sq = true) : strR P sq = (strV P sq sq.length, 0) := by unfold strR; rw [if_pos h, if_pos hr]
theorem strR_irr {P : Int} {sq : List Int} (h : codeA P sq [] = 0) (hr : regB sq = false) : strR P sq = ((0, 0, 0), 5) := by unfold strR; rw [if_pos h, hr]; rfl
theorem strR_bad {P : Int} {sq : List Int} (h : ¬ codeA P sq [] = 0) : strR P sq = ((0, 0, 0), codeA P sq []) := by unfold strR; rw [if_neg h]
/-- The value of a tuple of four numbers. -/
def tup4 (R : (Int × Int × Int) × Int) : Value := .tuple #[.int .i64 R.1.1, .int .i64 R.1.2.1, .int .i64 R.1.2.2, .int .i64 R.2]
theorem ret_t4 {R : (Int × Int × Int) × Int} {a b d x : Int} (h : R = ((a, b, d), x)) : Ending.returned (.tuple #[.int .i64 a, .int .i64 b, .int .i64 d, .int .i64 x]) = .returned (tup4 R) := by rw [h]; rfl
set_option maxHeartbeats 1600000 in
set_option maxRecDepth 8000 in
theorem full_any (P : Int) (A : Option Addr) (n c : Nat) (w : World) (hn1 : 1 ≤ n) (hn : n ≤ 6) :
    Calls Tryz.prog 237 #[.agg #[.int .i64 P, .slice A n c]] w fun e w' => ∃ (A' : Option Addr) (c' : Nat), e = .returned (.slice A' (pw n) c') ∧ MkI w w' A' (pw n) c' (bladeL n (pw n - 1)) := by
 have hB0 : Below w.heap.size w (w.alloc (.cells #[.int .i64 P, .slice A n c] 26)) := zG.alloc (Nat.le_refl _) _
 have k0 : Blk (w.alloc (.cells #[.int .i64 P, .slice A n c] 26)) w.heap.size 26 #[.int .i64 P, .slice A n c] := Blk.new _ _ _
 have hpw : pw n ≤ 64 := pw_le hn
 have hpn := pw_pos n
 have hshl : IntKind.i64.wrap (2 ^ n) = (pw n : Int) := by rw [IntWalk.i64_left]; exact wrap_pw n (by omega)
 have W1 : IntKind.i64.wrap ((pw n : Int) - 1) = ((pw n - 1 : Nat) : Int) := by rw [show ((pw n : Int) - 1) = ((pw n - 1 : Nat) : Int) by omega]; exact i64_fit _ (by omega) (by omega)
 go_enter Tryz.func237, Tryz.ntmps237
 go_wp2
 refine wp_obs 7 [[],[],[1],[1,2],[1,2,3],[0,1,2,3,4],[0,1,2,3,4,5]] [VIs (.agg #[.int .i64 P, .slice A n c]), VIs (.agg #[.int .i64 P, .slice A n c]), VIs (.int .i64 (n)), VIs (.int .i64 (pw n)), VIs (.int .i64 ((pw n - 1 : Nat) : Int)), VSl w (pw n) (bladeL n (pw n - 1)), VSl w (pw n) (bladeL n (pw n - 1))] (fun w' => Blk w' w.heap.size 26 #[.int .i64 P, .slice A n c] ∧ Below w.heap.size w w') (by kernel_rfl) (by kernel_rfl) (fun _ _ h hb => ⟨h.1.below hb h.1.lt, h.2.trans (hb.mono h.2.size)⟩) (⟨k0.drew, hB0.drew⟩) (fun x => ?_)
 refine zS (fun w' hS hV K hK => ?_) ?_
 · obtain ⟨q0, q1⟩ := hS.1.two; go_simp; exact zO hK
 refine zS (fun w' hS hV K hK => ?_) ?_
 · obtain ⟨q0, q1⟩ := hS.1.two; go_simp; exact zO hK
 refine zS (fun w' hS hV K hK => ?_) ?_
 · have e1 := zQ hV 1; obtain ⟨q0, q1⟩ := hS.1.two; go_simp; refine (dim_any _ _ _ _ _).mono ?_; rintro e v1 ⟨rfl, hb⟩; exact hK.out _ _ _ rfl rfl rfl hb
 refine zS (fun w' hS hV K hK => ?_) ?_
 · have e2 := zQ hV 2; obtain ⟨q0, q1⟩ := hS.1.two; go_simp; exact zO hK
 refine zS (fun w' hS hV K hK => ?_) ?_
 · have e3 := zQ hV 3; obtain ⟨q0, q1⟩ := hS.1.two; go_simp; exact zO hK
 refine zS (fun w' hS hV K hK => ?_) ?_
 · have e0 := zQ hV 0; have e4 := zQ hV 4; obtain ⟨q0, q1⟩ := hS.1.two; go_simp; refine (blade_any P A n c (pw n - 1) w' (by omega) (by omega)).mono ?_; rintro e v1 ⟨A2, c2, rfl, hM⟩; exact hK.out _ _ _ rfl rfl ⟨_, _, rfl, hM.after hS.2⟩ hM.b
 refine zS (fun w' hS hV K hK => ?_) ?_
 · obtain ⟨A5, c5, e5, h5⟩ := hV 5 (by decide); obtain ⟨q0, q1⟩ := hS.1.two; go_simp; exact hK.out _ _ _ rfl rfl ⟨_, _, rfl, h5⟩ zG
 refine fun w' hS hV => ?_
 have e0 := zT hV 0
 have e1 := zT hV 1
 have e2 := zT hV 2
 have e3 := zT hV 3
 have e4 := zT hV 4
 obtain ⟨A5, c5, e5, h5⟩ := hV 5 (by decide)
 obtain ⟨A6, c6, e6, h6⟩ := hV 6 (by decide)
 simp only [e0, e1, e2, e3, e4, e5, e6]
 clear e0 e1 e2 e3 e4 e5 e6
 refine wpAny_done (by kernel_rfl) ?_ _
 go_wp2
 go_ret
 exact ⟨_, _, rfl, h6⟩
set_option maxHeartbeats 3200000 in
set_option maxRecDepth 8000 in
theorem fullSquare_any (P : Int) (A : Option Addr) (n c : Nat) (sq : List Int) (w : World) (hp : 2 ≤ P) (hp2 : P ≤ 13) (hn1 : 1 ≤ n) (hn : n ≤ 6) (ha : Rd w A n (ints sq)) (hs : NumsL P sq) :
    Calls Tryz.prog 145 #[.agg #[.int .i64 P, .slice A n c]] w fun e w' => e = .returned (.int .i64 (fsqL P sq n)) ∧ Below w.heap.size w w' := by
 have hB0 : Below w.heap.size w (w.alloc (.cells #[.int .i64 P, .slice A n c] 26)) := zG.alloc (Nat.le_refl _) _
 have k0 : Blk (w.alloc (.cells #[.int .i64 P, .slice A n c] 26)) w.heap.size 26 #[.int .i64 P, .slice A n c] := Blk.new _ _ _
 have hpw : pw n ≤ 64 := pw_le hn
 have HTM := Lib.hid (timesL_two P sq n (bladeL n (pw n - 1)) (bladeL n (pw n - 1)) (bladeL_len _ _) (bladeL_nums hp _ _))
 have HAT : Hid (∀ xs ∈ [bladeL n (pw n - 1), bladeL n (pw n - 1)], NumsL P xs ∧ xs.length = pw n) := Lib.hid (all_two ⟨bladeL_nums hp _ _, bladeL_len _ _⟩ ⟨bladeL_nums hp _ _, bladeL_len _ _⟩)
 have HS := Lib.hid hs
 have hlm : (mulL P sq (bladeL n (pw n - 1)) (bladeL n (pw n - 1))).length = pw n := by unfold mulL; rw [prodL_len, bladeL_len]
 have HGE : Hid ((mulL P sq (bladeL n (pw n - 1)) (bladeL n (pw n - 1)))[0]'(by rw [hlm]; exact pw_pos n) = fsqL P sq n) := Lib.hid (by unfold fsqL; rw [getD_of_lt 0 (by rw [hlm]; exact pw_pos n)])
 clear hs
 go_enter Tryz.func145, Tryz.ntmps145
 go_wp2
 refine wp_obs 10 [[],[],[1],[],[3],[1,2,3,4],[0,1,2,3,4,5],[0,1,2,3,4,5,6],[0,1,2,3,4,5,6,7],[0,1,2,3,4,5,6,7,8]] [VIs (.agg #[.int .i64 P, .slice A n c]), VIs (.agg #[.int .i64 P, .slice A n c]), VSl w (pw n) (bladeL n (pw n - 1)), VIs (.agg #[.int .i64 P, .slice A n c]), VSl w (pw n) (bladeL n (pw n - 1)), VRow 2 [bladeL n (pw n - 1), bladeL n (pw n - 1)], VSl w (pw n) (mulL P sq (bladeL n (pw n - 1)) (bladeL n (pw n - 1))), VCell (.int .i64 (fsqL P sq n)), VIs (.int .i64 (fsqL P sq n)), VIs (.int .i64 (fsqL P sq n))] (fun w' => Blk w' w.heap.size 26 #[.int .i64 P, .slice A n c] ∧ Below w.heap.size w w') (by kernel_rfl) (by kernel_rfl) (fun _ _ h hb => ⟨h.1.below hb h.1.lt, h.2.trans (hb.mono h.2.size)⟩) (⟨k0.drew, hB0.drew⟩) (fun x => ?_)
 refine zS (fun w' hS hV K hK => ?_) ?_
 · obtain ⟨q0, q1⟩ := hS.1.two; go_simp; exact zO hK
 refine zS (fun w' hS hV K hK => ?_) ?_
 · obtain ⟨q0, q1⟩ := hS.1.two; go_simp; exact zO hK
 refine zS (fun w' hS hV K hK => ?_) ?_
 · have e1 := zQ hV 1; obtain ⟨q0, q1⟩ := hS.1.two; go_simp; refine (full_any P A n c w' hn1 hn).mono ?_; rintro e v1 ⟨A2, c2, rfl, hM⟩; exact hK.out _ _ _ rfl rfl ⟨_, _, rfl, hM.after hS.2⟩ hM.b
 refine zS (fun w' hS hV K hK => ?_) ?_
 · obtain ⟨q0, q1⟩ := hS.1.two; go_simp; exact zO hK
 refine zS (fun w' hS hV K hK => ?_) ?_
 · have e3 := zQ hV 3; obtain ⟨q0, q1⟩ := hS.1.two; go_simp; refine (full_any P A n c w' hn1 hn).mono ?_; rintro e v1 ⟨A2, c2, rfl, hM⟩; exact hK.out _ _ _ rfl rfl ⟨_, _, rfl, hM.after hS.2⟩ hM.b
 refine zS (fun w' hS hV K hK => ?_) ?_
 · obtain ⟨A2, c2, e2, h2⟩ := hV 2 (by decide); obtain ⟨A4, c4, e4, h4⟩ := hV 4 (by decide); obtain ⟨q0, q1⟩ := hS.1.two; go_simp; have hAl : Below w'.heap.size w' (w'.alloc (.cells #[.slice A2 (pw n) c2, .slice A4 (pw n) c4] 24)) := zG.alloc (Nat.le_refl _) _; exact hK.out _ _ _ rfl rfl ⟨_, _, rfl, rdII_two (Blk.new _ _ _) (h2.rd.below hAl) (h4.rd.below hAl) h2.2.cap h4.2.cap⟩ hAl
 refine zS (fun w' hS hV K hK => ?_) ?_
 · have e0 := zQ hV 0; obtain ⟨A2, c2, e2, h2⟩ := hV 2 (by decide); obtain ⟨A4, c4, e4, h4⟩ := hV 4 (by decide); obtain ⟨A5, c5, e5, h5⟩ := hV 5 (by decide); obtain ⟨q0, q1⟩ := hS.1.two; have htm := HTM.out; go_simp; have hcall := times_any P A n c sq A5 2 c5 [bladeL n (pw n - 1), bladeL n (pw n - 1)] w' hp hp2 hn (by omega) (ha.below hS.2) HS.out h5 HAT.out; rw [HTM.out] at hcall; refine hcall.mono ?_; rintro e v1 ⟨A2, c2, rfl, hM⟩; exact hK.out _ _ _ rfl rfl ⟨_, _, rfl, hM.after hS.2⟩ hM.b
 refine zS (fun w' hS hV K hK => ?_) ?_
 · obtain ⟨A2, c2, e2, h2⟩ := hV 2 (by decide)
   obtain ⟨A4, c4, e4, h4⟩ := hV 4 (by decide)
   obtain ⟨A5, c5, e5, h5⟩ := hV 5 (by decide)
   obtain ⟨A6, c6, e6, h6⟩ := hV 6 (by decide)
   obtain ⟨q0, q1⟩ := hS.1.two
   rcases h6.2.form with ⟨_, hz⟩ | ⟨gc, hgc, _, _⟩
   · exact absurd hz (by have := pw_pos n; omega)
   subst hgc
   obtain ⟨hcell, _⟩ := mkI_at h6 (pw_pos n)
   change _ = some (Value.int .i64 (fsqL P sq n)) at hcell
   have hposI : 0 < pw n := pw_pos n
   go_simp
   exact hK.out _ _ _ rfl rfl ⟨_, rfl, hcell⟩ zG
 refine zS (fun w' hS hV K hK => ?_) ?_
 · obtain ⟨A2, c2, e2, h2⟩ := hV 2 (by decide); obtain ⟨A4, c4, e4, h4⟩ := hV 4 (by decide); obtain ⟨A5, c5, e5, h5⟩ := hV 5 (by decide); obtain ⟨A6, c6, e6, h6⟩ := hV 6 (by decide); obtain ⟨a7, e7, h7⟩ := hV 7 (by decide); obtain ⟨q0, q1⟩ := hS.1.two; go_simp; exact zO hK
 refine zS (fun w' hS hV K hK => ?_) ?_
 · obtain ⟨A2, c2, e2, h2⟩ := hV 2 (by decide); obtain ⟨A4, c4, e4, h4⟩ := hV 4 (by decide); obtain ⟨A5, c5, e5, h5⟩ := hV 5 (by decide); obtain ⟨A6, c6, e6, h6⟩ := hV 6 (by decide); obtain ⟨a7, e7, h7⟩ := hV 7 (by decide); have e8 := zQ hV 8; obtain ⟨q0, q1⟩ := hS.1.two; go_simp; exact zO hK
 refine fun w' hS hV => ?_
 have e0 := zT hV 0
 have e1 := zT hV 1
 obtain ⟨A2, c2, e2, h2⟩ := hV 2 (by decide)
 have e3 := zT hV 3
 obtain ⟨A4, c4, e4, h4⟩ := hV 4 (by decide)
 obtain ⟨A5, c5, e5, h5⟩ := hV 5 (by decide)
 obtain ⟨A6, c6, e6, h6⟩ := hV 6 (by decide)
 obtain ⟨a7, e7, h7⟩ := hV 7 (by decide)
 have e8 := zT hV 8
 have e9 := zT hV 9
 simp only [e0, e1, e2, e3, e4, e5, e6, e7, e8, e9]
 clear e0 e1 e2 e3 e4 e5 e6 e7 e8 e9
 refine wpAny_done (by kernel_rfl) ?_ _
 go_wp2
 go_ret
 exact ⟨rfl, hS.2⟩
end Go.Proofs.YtmkjdpnoloofjaaGreat
namespace Go.Proofs.YtmkjdpnoloofjaaGreat
theorem rootF_none (p a : Int) : ∀ (k i : Nat), rootF p a k i = none → ∀ r : Nat, i ≤ r → r < i + k → ((r : Int) * r) % p ≠ a := by
 intro k
 induction k with
 | zero => intro i _ r h1 h2; omega
 | succ k ih =>
  intro i h r h1 h2
  unfold rootF at h
  split at h
  · cases h
  · rename_i hh
    rcases Nat.eq_or_lt_of_le h1 with rfl | h3
    · exact hh
    · exact ih (i + 1) h r (by omega) (by omega)
theorem no_root {p a : Int} (hp : 0 < p) (h : rootF p a p.toNat 0 = none) (ha : 0 ≤ a ∧ a < p) (k : Int) : (a - k * k) % p ≠ 0 := fun e => by
 have h1 := Int.emod_nonneg k (show p ≠ 0 by omega)
 have h2 := Int.emod_lt_of_pos k hp
 have hn := rootF_none p a _ 0 h (k % p).toNat (by omega) (by omega)
 rw [Int.toNat_of_nonneg h1, ← Int.mul_emod] at hn
 apply hn
 have : a % p = k * k % p := by
  have := Int.emod_emod_of_dvd (a - k * k) (Int.dvd_refl p)
  exact (Int.emod_eq_emod_iff_emod_sub_eq_zero).2 e
 rw [← this, Int.emod_eq_of_lt ha.1 ha.2]
section
variable {p : Int} {sq : List Int}
/-- The vectors of the basis. -/
def eC (hp : 0 < p) (i : Nat) : Cl p sq := Cl.vec hp (unitRow sq.length i)
theorem eC_sq (hP : isP p = true) (hp : 0 < p) {i : Nat} (hi : i < sq.length) : (eC hp i * eC hp i : Cl p sq) = sq.getD i 0 * Cl.one hp := by
 unfold eC
 rw [Cl.vec_sq hp hP, bil_unit hi hi, if_pos rfl]
theorem eC_anti (hp : 0 < p) {i j : Nat} (hi : i < sq.length) (hj : j < sq.length) (h : i ≠ j) : (eC hp j * eC hp i : Cl p sq) = (-1 : Int) * (eC hp i * eC hp j) := by
 have e := Cl.vec_anti (sq := sq) hp (unitRow sq.length i) (unitRow sq.length j)
 rw [bil_unit hi hj, if_neg h, Int.mul_zero, Cl.zero_sm, Cl.add_comm] at e
 have e2 : (eC hp j * eC hp i : Cl p sq) + (1 : Int) * (eC hp i * eC hp j) = Cl.zero hp := by rw [Cl.one_sm]; exact e
 have e3 := Cl.move e2
 rw [Cl.add_comm, Cl.add_zero] at e3
 exact e3
/-- The square of the product of all vectors. -/
theorem top_sq (hp : 0 < p) (h2 : 2 ≤ p) (hn : 1 ≤ sq.length) : (Cl.at_ hp (pw sq.length - 1) * Cl.at_ hp (pw sq.length - 1) : Cl p sq) = fsqL p sq sq.length * Cl.one hp := by
 have hpos := pw_pos sq.length
 have hf : fsqL p sq sq.length = (Cl.at_ hp (pw sq.length - 1) * Cl.at_ hp (pw sq.length - 1) : Cl p sq).co 0 := by
  unfold fsqL Cl.co
  rw [Cl.mul_l, Cl.at_l hp h2 (by omega)]; rfl
 refine Cl.same fun q hq => ?_
 rw [Cl.sm_co _ _ hq, Int.mul_emod, Cl.one_co hp hq, ← Int.mul_emod]
 by_cases h0 : q = 0
 · subst h0
   rw [if_pos rfl, Int.mul_one, hf]
 · rw [if_neg h0, Int.mul_zero, Int.zero_emod, Cl.mul_co _ _ hq]
   unfold mulZ
   refine Eq.trans (sumTo_mod p (g := fun _ => 0) fun a ha => ?_) (by rw [sumTo_zero fun _ _ => rfl, Int.zero_emod])
   by_cases ham : a = pw sq.length - 1
   · have hx : a ^^^ q < pw sq.length := xor_lt ha hq
     have hne : ¬ a ^^^ q = pw sq.length - 1 := fun e => h0 (by
      have : a ^^^ (a ^^^ q) = q := xor_self_left _ _
      rw [e, ← ham, Nat.xor_self] at this
      exact this.symm)
     have := at_co (sq := sq) hp (pw sq.length - 1) hx
     rw [if_neg hne] at this
     exact (cg_mul (cg_mul rfl this) rfl).trans (by rw [Int.mul_zero, Int.zero_mul])
   · have := at_co (sq := sq) hp (pw sq.length - 1) ha
     rw [if_neg ham] at this
     exact (cg_mul (cg_mul this rfl) rfl).trans (by rw [Int.zero_mul, Int.zero_mul])
theorem fsqL_small (hp : 0 < p) (n : Nat) : 0 ≤ fsqL p sq n ∧ fsqL p sq n < p := (mulL_nums hp _ _ _).getD hp 0
/-- A plane halves a dimension. -/
theorem halve (hP : isP p = true) (hp : 0 < p) {S : Cl p sq → Prop} {D : List (Cl p sq)} (hD : Bas S D) {f g : Cl p sq} {a b : Int} (ha : a % p ≠ 0) (hb : b % p ≠ 0) (hf : f * f = a * Cl.one hp) (hg : g * g = b * Cl.one hp) (hfg : g * f = (-1 : Int) * (f * g))
    (hSf : ∀ z, S z → S (f * z)) (hSg : ∀ z, S z → S (g * z)) : ∃ (x y : Int) (E : List (Cl p sq)), Bas (fun z => S z ∧ (x * f + y * g) * z = z) E ∧ D.length = 2 * E.length := by
 obtain ⟨x, y, z, w, h1, h2, h3⟩ := plane hP hp ha hb hf hg hfg
 have hlin : ∀ (k l : Int) t, S t → S ((k * f + l * g) * t) := fun k l t ht => by
  rw [Cl.add_mul, Cl.sm_mul, Cl.sm_mul]
  exact (hD.2 _).2 ((((hD.2 _).1 (hSf t ht)).sm k).add (((hD.2 _).1 (hSg t ht)).sm l))
 obtain ⟨E, hE, hl⟩ := split_dim hP hp hD (z * f + w * g) (x * f + y * g) (a * b) (mul_ne hP ha hb) (fun t => by rw [← Cl.mul_assoc, h1, Cl.one_mul]) (fun t => by rw [← Cl.mul_assoc, h2, Cl.sm_mul, Cl.one_mul])
  (fun t => by rw [← Cl.mul_assoc, h3, Cl.sm_mul, Cl.mul_assoc]) (fun t => hlin x y t) (fun t => hlin z w t)
 exact ⟨x, y, E, hE, hl⟩
/-- The dimension of a left ideal is a multiple of the least one. -/
theorem ideal_dim (hP : isP p = true) (h1 : 1 ≤ sq.length) (h4 : sq.length ≤ 4) (hr : ∀ i, i < sq.length → sq.getD i 0 % p ≠ 0) {S : Cl p sq → Prop} {D : List (Cl p sq)} (hD : Bas S D) (hcl : ∀ y z : Cl p sq, S z → S (y * z)) :
    ((D.length : Nat) : Int) % ((strV p sq sq.length).2.1 * (strV p sq sq.length).2.2) = 0 ∧ 0 < (strV p sq sq.length).2.1 * (strV p sq sq.length).2.2 ∧ (strV p sq sq.length).2.1 * (strV p sq sq.length).2.2 ≤ 4 := by
 have h3 := isP_ge hP
 have hp : 0 < p := by omega
 have hfs := fsqL_small (sq := sq) hp sq.length
 have htop := top_sq (sq := sq) hp (by omega) h1
 have hplane : 2 ≤ sq.length → ∃ (x y : Int) (E : List (Cl p sq)), Bas (fun z => S z ∧ (x * eC hp 0 + y * eC hp 1) * z = z) E ∧ D.length = 2 * E.length := fun h2 =>
  halve hP hp hD (hr 0 (by omega)) (hr 1 (by omega)) (eC_sq hP hp (by omega)) (eC_sq hP hp (by omega)) (eC_anti hp (by omega) (by omega) (by decide)) (hcl _) (hcl _)
 have hno : (rootF p (fsqL p sq sq.length) p.toNat 0).isSome = false → ∀ k : Int, (fsqL p sq sq.length - k * k) % p ≠ 0 := fun h k => by
  refine no_root hp ?_ hfs k
  cases hh : rootF p (fsqL p sq sq.length) p.toNat 0 with
  | none => rfl
  | some r => rw [hh] at h; cases h
 have hJJ : ∀ z : Cl p sq, Cl.at_ hp (pw sq.length - 1) * (Cl.at_ hp (pw sq.length - 1) * z) = fsqL p sq sq.length * z := fun z => by rw [← Cl.mul_assoc, htop, Cl.sm_mul, Cl.one_mul]
 rcases (by omega : sq.length = 1 ∨ sq.length = 2 ∨ sq.length = 3 ∨ sq.length = 4) with e | e | e | e
 · cases hc : (rootF p (fsqL p sq sq.length) p.toNat 0).isSome with
   | true =>
    have hs : strV p sq sq.length = (2, ((pw (sq.length / 2) : Nat) : Int), 1) := by unfold strV; rw [if_neg (by omega), hc]; rfl
    rw [hs, e]
    exact ⟨Int.emod_one _, by decide, by decide⟩
   | false =>
    have hs : strV p sq sq.length = (1, ((pw (sq.length / 2) : Nat) : Int), 2) := by unfold strV; rw [if_neg (by omega), hc]; rfl
    have hev := even_dim hP hp hD (Cl.at_ hp (pw sq.length - 1)) _ hJJ (hno hc) (hcl _)
    rw [hs, e]
    exact ⟨by show (D.length : Int) % 2 = 0; omega, by decide, by decide⟩
 · obtain ⟨x, y, E, hE, hl⟩ := hplane (by omega)
   have hs : strV p sq sq.length = (1, ((pw (sq.length / 2) : Nat) : Int), 1) := by unfold strV; rw [if_pos (by omega)]
   rw [hs, e]
   exact ⟨by show (D.length : Int) % 2 = 0; omega, by decide, by decide⟩
 · obtain ⟨x, y, E, hE, hl⟩ := hplane (by omega)
   cases hc : (rootF p (fsqL p sq sq.length) p.toNat 0).isSome with
   | true =>
    have hs : strV p sq sq.length = (2, ((pw (sq.length / 2) : Nat) : Int), 1) := by unfold strV; rw [if_neg (by omega), hc]; rfl
    rw [hs, e]
    exact ⟨by show (D.length : Int) % 2 = 0; omega, by decide, by decide⟩
   | false =>
    have hs : strV p sq sq.length = (1, ((pw (sq.length / 2) : Nat) : Int), 2) := by unfold strV; rw [if_neg (by omega), hc]; rfl
    have hcm : ∀ i, i < sq.length → (eC hp i * Cl.at_ hp (pw sq.length - 1) : Cl p sq) = Cl.at_ hp (pw sq.length - 1) * eC hp i := fun i hi => ctr_full hp (by omega) (by omega) hi
    have hev := even_dim hP hp hE (Cl.at_ hp (pw sq.length - 1)) _ hJJ (hno hc) (fun z ⟨h7, h8⟩ => ⟨hcl _ _ h7, by
     have e9 : (x * eC hp 0 + y * eC hp 1 : Cl p sq) * Cl.at_ hp (pw sq.length - 1) = Cl.at_ hp (pw sq.length - 1) * (x * eC hp 0 + y * eC hp 1) := by
      rw [Cl.add_mul, Cl.mul_add, Cl.sm_mul, Cl.sm_mul, Cl.mul_sm, Cl.mul_sm, hcm 0 (by omega), hcm 1 (by omega)]
     rw [← Cl.mul_assoc, e9, Cl.mul_assoc, h8]⟩)
    rw [hs, e]
    exact ⟨by show (D.length : Int) % 4 = 0; omega, by decide, by decide⟩
 · obtain ⟨x, y, E, hE, hl⟩ := hplane (by omega)
   have hs : strV p sq sq.length = (1, ((pw (sq.length / 2) : Nat) : Int), 1) := by unfold strV; rw [if_pos (by omega)]
   obtain ⟨J, hJ⟩ : ∃ J : Cl p sq, J = eC hp 0 * eC hp 1 := ⟨_, rfl⟩
   have a01 := eC_anti (sq := sq) hp (i := 0) (j := 1) (by omega) (by omega) (by decide)
   have hneg : ∀ X : Cl p sq, (-1 : Int) * ((-1 : Int) * X) = X := fun X => by rw [Cl.sm_sm, show (-1 * -1 : Int) = 1 by rfl, Cl.one_sm]
   -- J passes the other vectors, and anticommutes with the first two
   have hJc : ∀ i, 2 ≤ i → i < sq.length → eC hp i * J = J * eC hp i := fun i h2 hi => by
    have b0 := eC_anti (sq := sq) hp (i := 0) (j := i) (by omega) hi (by omega)
    have b1 := eC_anti (sq := sq) hp (i := 1) (j := i) (by omega) hi (by omega)
    rw [hJ, ← Cl.mul_assoc, b0, Cl.sm_mul, Cl.mul_assoc, b1, Cl.mul_sm, hneg, Cl.mul_assoc]
   have hJ0 : eC hp 0 * J = (-1 : Int) * (J * eC hp 0) := by
    rw [hJ, Cl.mul_assoc (eC hp 0) (eC hp 1) (eC hp 0), a01, Cl.mul_sm, hneg]
   have hJ1 : eC hp 1 * J = (-1 : Int) * (J * eC hp 1) := by
    rw [hJ, ← Cl.mul_assoc, a01, Cl.sm_mul]
   have hJJ2 : J * J = (-(sq.getD 0 0 * sq.getD 1 0)) * Cl.one hp := by
    have : J * J = eC hp 0 * (eC hp 1 * J) := by rw [← Cl.mul_assoc, ← hJ]
    rw [this, hJ1, Cl.mul_sm, hJ, Cl.mul_assoc (eC hp 0) (eC hp 1) (eC hp 1), eC_sq hP hp (by omega), Cl.mul_sm, Cl.mul_one, Cl.mul_sm, eC_sq hP hp (by omega), Cl.sm_sm, Cl.sm_sm]
    refine Cl.sm_cg (by congr 1; rw [Int.neg_mul, Int.one_mul, Int.neg_mul, Int.mul_comm]) _
   have hn : ∀ i, 2 ≤ i → i < sq.length → (J * eC hp i) * (J * eC hp i) = (-(sq.getD 0 0 * sq.getD 1 0) * sq.getD i 0) * Cl.one hp := fun i h2 hi => by
    rw [Cl.mul_assoc, ← Cl.mul_assoc (eC hp i), hJc i h2 hi, Cl.mul_assoc J, eC_sq hP hp hi, Cl.mul_sm, Cl.mul_one, Cl.mul_sm, hJJ2, Cl.sm_sm, Int.mul_comm]
   have hnz : ∀ i, i < sq.length → (-(sq.getD 0 0 * sq.getD 1 0) * sq.getD i 0) % p ≠ 0 := fun i hi => mul_ne hP (fun h => mul_ne hP (hr 0 (by omega)) (hr 1 (by omega)) (by
    have := Int.emod_emod_of_dvd (sq.getD 0 0 * sq.getD 1 0) (Int.dvd_refl p)
    have h9 := Int.dvd_of_emod_eq_zero h
    exact Int.emod_eq_zero_of_dvd (Int.dvd_neg.1 h9))) (hr i hi)
   have hfg : (J * eC hp 3) * (J * eC hp 2) = (-1 : Int) * ((J * eC hp 2) * (J * eC hp 3)) := by
    have a23 := eC_anti (sq := sq) hp (i := 2) (j := 3) (by omega) (by omega) (by decide)
    rw [Cl.mul_assoc, ← Cl.mul_assoc (eC hp 3), hJc 3 (by omega) (by omega), Cl.mul_assoc J (eC hp 3), a23, Cl.mul_assoc J (eC hp 2) (J * eC hp 3), ← Cl.mul_assoc (eC hp 2) J, hJc 2 (by omega) (by omega), Cl.mul_assoc J (eC hp 2) (eC hp 3), Cl.mul_sm, Cl.mul_sm]
   -- what passes the first plane
   have hpass : ∀ i, 2 ≤ i → i < sq.length → (x * eC hp 0 + y * eC hp 1 : Cl p sq) * (J * eC hp i) = (J * eC hp i) * (x * eC hp 0 + y * eC hp 1) := fun i h2 hi => by
    have b0 := eC_anti (sq := sq) hp (i := 0) (j := i) (by omega) hi (by omega)
    have b1 := eC_anti (sq := sq) hp (i := 1) (j := i) (by omega) hi (by omega)
    rw [Cl.add_mul, Cl.mul_add, Cl.sm_mul, Cl.sm_mul, Cl.mul_sm, Cl.mul_sm, ← Cl.mul_assoc (eC hp 0), ← Cl.mul_assoc (eC hp 1), hJ0, hJ1, Cl.mul_assoc J (eC hp i), Cl.mul_assoc J (eC hp i), b0, b1]
    simp only [Cl.sm_mul, Cl.mul_sm, Cl.mul_assoc]
   have hst : ∀ i, 2 ≤ i → i < sq.length → ∀ z, (S z ∧ (x * eC hp 0 + y * eC hp 1) * z = z) → S ((J * eC hp i) * z) ∧ (x * eC hp 0 + y * eC hp 1) * ((J * eC hp i) * z) = (J * eC hp i) * z := fun i h2 hi z ⟨h7, h8⟩ =>
    ⟨hcl _ _ h7, by rw [← Cl.mul_assoc, hpass i h2 hi, Cl.mul_assoc, h8]⟩
   obtain ⟨x2, y2, E2, hE2, hl2⟩ := halve hP hp hE (hnz 2 (by omega)) (hnz 3 (by omega)) (hn 2 (by omega) (by omega)) (hn 3 (by omega) (by omega)) hfg (hst 2 (by omega) (by omega)) (hst 3 (by omega) (by omega))
   rw [hs, e]
   exact ⟨by show (D.length : Int) % 4 = 0; omega, by decide, by decide⟩
end
/-- The rows with the right sides behind them. -/
def augL (M : List (List Int)) (v : List Int) : List (List Int) := tab M.length fun i => M.getD i [] ++ [v.getD i 0]
/-- The solution, after k rows of the reduced basis. -/
def solTo (B : List (List Int)) (n : Nat) : Nat → List Int
 | 0 => List.replicate n 0
 | k + 1 => (solTo B n k).set (ld B k) (ent B k n)
/-- Does a row lead in the last column? -/
def endB (B : List (List Int)) (n k : Nat) : Bool := (List.range k).any fun i => ld B i == n
/-- The solution and whether there is one. -/
def solR (p : Int) (M : List (List Int)) (v : List Int) (n : Nat) : List Int × Bool :=
 if endB (basisL p (augL M v)) n (basisL p (augL M v)).length then ([], false) else (solTo (basisL p (augL M v)) n (basisL p (augL M v)).length, true)
section
variable {p : Int} {n : Nat}
theorem augL_len (M : List (List Int)) (v : List Int) : (augL M v).length = M.length := tab_len _ _
theorem augL_tab (hp : 0 < p) {M : List (List Int)} (hT : Tab p n M) {v : List Int} (hv : NumsL p v) : Tab p (n + 1) (augL M v) := Tab.tab fun i hi => by
 obtain ⟨h1, h2⟩ := hT.row hi
 refine ⟨by rw [List.length_append, h1]; rfl, ?_⟩
 intro x hx
 rcases List.mem_append.1 hx with h | h
 · exact h2 x h
 · rw [List.mem_singleton.1 h]; exact hv.getD hp i
theorem augL_ent {M : List (List Int)} (hT : Tab p n M) (v : List Int) {i : Nat} (hi : i < M.length) (q : Nat) : ent (augL M v) i q = if q < n then ent M i q else if q = n then v.getD i 0 else 0 := by
 have h1 := (hT.row hi).1
 unfold ent augL
 rw [tab_getD hi]
 by_cases hq : q < n
 · rw [if_pos hq, getD_app_left 0 _ (by rw [h1]; exact hq)]
 · rw [if_neg hq]
   by_cases hqn : q = n
   · rw [if_pos hqn, hqn]
     have := getD_app_right (0 : Int) (M.getD i []) [v.getD i 0] 0
     rw [h1, Nat.add_zero] at this
     rw [this]; rfl
   · rw [if_neg hqn]
     exact getD_of_ge 0 (by rw [List.length_append, h1]; simp; omega)
theorem solTo_len (B : List (List Int)) (n : Nat) : ∀ k, (solTo B n k).length = n
 | 0 => by simp [solTo]
 | k + 1 => by simp [solTo, solTo_len B n k]
theorem solTo_nums (hp : 0 < p) {B : List (List Int)} {m : Nat} (hB : Tab p m B) (n : Nat) : ∀ k, NumsL p (solTo B n k)
 | 0 => NumsL.replicate hp _
 | k + 1 => (solTo_nums hp hB n k).set _ (hB.ent hp k n)
theorem solTo_at {B : List (List Int)} {m : Nat} (hR : Red m B) {k : Nat} (hk : k ≤ B.length) (hn : ∀ i, i < k → ld B i < n) {i : Nat} (hi : i < k) : (solTo B n k).getD (ld B i) 0 = ent B i n := by
 induction k with
 | zero => omega
 | succ k ih =>
  show ((solTo B n k).set (ld B k) (ent B k n)).getD (ld B i) 0 = _
  rw [getD_set, solTo_len]
  by_cases e : i = k
  · subst e; rw [if_pos ⟨rfl, hn i (by omega)⟩]
  · rw [if_neg fun h => e (hR.inj (by omega) (by omega) h.1.symm)]
    exact ih (by omega) (fun j hj => hn j (by omega)) (by omega)
theorem solTo_off {B : List (List Int)} {q : Nat} : ∀ k, (∀ i, i < k → ld B i ≠ q) → (solTo B n k).getD q 0 = 0
 | 0, _ => by
  show (List.replicate n (0 : Int)).getD q 0 = 0
  rw [List.getD_eq_getElem?_getD, List.getElem?_replicate]
  split <;> rfl
 | k + 1, h => by
  show ((solTo B n k).set (ld B k) (ent B k n)).getD q 0 = 0
  rw [getD_set, if_neg fun e => h k (by omega) e.1]
  exact solTo_off k fun i hi => h i (by omega)
theorem endB_iff {B : List (List Int)} {n k : Nat} : endB B n k = true ↔ ∃ i, i < k ∧ ld B i = n := by
 unfold endB
 rw [List.any_eq_true]
 constructor
 · rintro ⟨i, hi, h⟩
   exact ⟨i, List.mem_range.1 hi, beq_iff_eq.1 h⟩
 · rintro ⟨i, hi, h⟩
   exact ⟨i, List.mem_range.2 hi, beq_iff_eq.2 h⟩
/-- The list with -1 behind it is orthogonal to the rows exactly if it solves the system. -/
theorem orth_aug {M : List (List Int)} (hT : Tab p n M) (v : List Int) (y : Nat → Int) : Orth p (n + 1) (augL M v) (fun q => if q < n then y q else -1) ↔ ∀ i, i < M.length → (sumTo n fun q => ent M i q * y q) % p = v.getD i 0 % p := by
 unfold Orth
 rw [augL_len]
 have e : ∀ i, i < M.length → (sumTo (n + 1) fun q => ent (augL M v) i q * if q < n then y q else -1) = (sumTo n fun q => ent M i q * y q) - v.getD i 0 := fun i hi => by
  rw [sumTo_succ, augL_ent hT v hi, if_neg (by omega), if_pos rfl, if_neg (by omega), Int.mul_neg, Int.mul_one]
  rw [sumTo_congr (g := fun q => ent M i q * y q) fun q hq => by rw [augL_ent hT v hi, if_pos hq, if_pos hq]]
  rfl
 constructor
 · intro h i hi
   have := h i hi
   rw [e i hi] at this
   exact Int.emod_eq_emod_iff_emod_sub_eq_zero.2 this
 · intro h i hi
   rw [e i hi]
   exact Int.emod_eq_emod_iff_emod_sub_eq_zero.1 (h i hi)
/-- What is told to be a solution is one. -/
theorem sol_ok (hP : isP p = true) {M : List (List Int)} (hT : Tab p n M) {v : List Int} (hv : NumsL p v) (h : endB (basisL p (augL M v)) n (basisL p (augL M v)).length = false) :
    ∀ i, i < M.length → (sumTo n fun q => ent M i q * (solTo (basisL p (augL M v)) n (basisL p (augL M v)).length).getD q 0) % p = v.getD i 0 % p := by
 have h3 := isP_ge hP
 have hA := augL_tab (show 0 < p by omega) hT hv
 obtain ⟨B, hB⟩ : ∃ B, B = basisL p (augL M v) := ⟨_, rfl⟩
 have hR := basisL_red hP _ hA
 obtain ⟨_, hin⟩ := basisL_in hP _ hA
 rw [← hB] at h hR hin ⊢
 have hlt : ∀ i, i < B.length → ld B i < n := fun i hi => by
  have h1 := hR.lt i hi
  have h2 : ld B i ≠ n := fun e => by
   have := endB_iff.2 ⟨i, hi, e⟩
   rw [h] at this; cases this
  omega
 refine (orth_aug hT v _).1 (Orth.of_in (m := B) ?_ hin)
 intro i hi
 rw [sumTo_succ]
 dsimp only
 rw [if_neg (by omega), Int.mul_neg, Int.mul_one]
 have e : (sumTo n fun q => ent B i q * if q < n then (solTo B n B.length).getD q 0 else -1) = ent B i n := by
  rw [sumTo_one (ld B i) (hlt i hi) fun q hq hne => ?_]
  · rw [if_pos (hlt i hi), hR.one i hi, Int.one_mul, solTo_at hR (Nat.le_refl _) hlt hi]
  · rw [if_pos hq]
    by_cases hl : ∃ j, j < B.length ∧ ld B j = q
    · obtain ⟨j, hj, rfl⟩ := hl
      rw [hR.zero j i hj hi fun e => hne (by rw [e]), Int.zero_mul]
    · rw [solTo_off B.length fun j hj e => hl ⟨j, hj, e⟩, Int.mul_zero]
 rw [e]
 have : ent B i n + -ent B i n = 0 := by omega
 rw [this, Int.zero_emod]
/-- Where none is told, there is none. -/
theorem sol_no (hP : isP p = true) {M : List (List Int)} (hT : Tab p n M) {v : List Int} (hv : NumsL p v) (h : endB (basisL p (augL M v)) n (basisL p (augL M v)).length = true) (y : Nat → Int) :
    ¬ ∀ i, i < M.length → (sumTo n fun q => ent M i q * y q) % p = v.getD i 0 % p := fun hy => by
 have h3 := isP_ge hP
 have hA := augL_tab (show 0 < p by omega) hT hv
 obtain ⟨B, hB⟩ : ∃ B, B = basisL p (augL M v) := ⟨_, rfl⟩
 have hR := basisL_red hP _ hA
 obtain ⟨hin, _⟩ := basisL_in hP _ hA
 rw [← hB] at h hR hin
 obtain ⟨i, hi, hl⟩ := endB_iff.1 h
 have ho := Orth.of_in ((orth_aug hT v y).2 hy) hin
 have h2 := ho i hi
 rw [sumTo_succ] at h2
 dsimp only at h2
 rw [if_neg (by omega), Int.mul_neg, Int.mul_one, sumTo_zero fun q hq => by rw [hR.before i q (by omega), Int.zero_mul]] at h2
 have h1 := hR.one i hi
 rw [hl] at h1
 rw [h1] at h2
 have : (0 + -1 : Int) % p = p - 1 := by
  rw [show (0 + -1 : Int) = (p - 1) + p * (-1) by rw [Int.mul_neg, Int.mul_one]; omega, Int.add_mul_emod_self_left, Int.emod_eq_of_lt (by omega) (by omega)]
 omega
end
end Go.Proofs.YtmkjdpnoloofjaaGreat
namespace Go.Proofs.YtmkjdpnoloofjaaGreat
open Go.RowKit
/-- The value is a slice of one new number. -/
def VOn (r : Int) : VP := ⟨fun v w => ∃ gb : Nat, v = .slice (some ⟨gb, 0, none⟩) 1 1 ∧ Rd w (some ⟨gb, 0, none⟩) 1 (ints [r]), fun _ _ _ ⟨gb, e, h⟩ hb => ⟨gb, e, h.below hb⟩⟩
theorem rd_one (w : World) (r : Int) : Rd (w.alloc (.cells #[.int .i64 r] 2)) (some ⟨w.heap.size, 0, none⟩) 1 (ints [r]) := by
 have h := (Mk.lit (E := 2) (Below.refl w.heap.size w) #[.int .i64 r] (by simp [maxLen])).2.rd
 simpa [ints] using h
theorem endB_succ (B : List (List Int)) (n k : Nat) : endB B n (k + 1) = (endB B n k || (ld B k == n)) := by
 unfold endB
 rw [List.range_succ, List.any_append]; simp
theorem endB_more {B : List (List Int)} {n k m : Nat} (h : endB B n k = true) (hk : k ≤ m) : endB B n m = true := by
 obtain ⟨i, hi, e⟩ := endB_iff.1 h
 exact endB_iff.2 ⟨i, by omega, e⟩
theorem ret_sol {w w' : World} {A : Option Addr} {n c : Nat} {R : List Int × Bool} {L : List Int} {b : Bool} (hR : R = (L, b)) (h : MkI w w' A n c L) : ∃ (A' : Option Addr) (k c' : Nat), Ending.returned (.tuple #[.slice A n c, .bool b]) = .returned (.tuple #[.slice A' k c', .bool R.2]) ∧ MkI w w' A' k c' R.1 := by
 subst hR; exact ⟨_, _, _, rfl, h⟩
set_option maxHeartbeats 6400000 in
set_option maxRecDepth 8000 in
theorem solve_any (p : Int) (A : Option Addr) (r c : Nat) (M : List (List Int)) (n : Nat) (V : Option Addr) (cv : Nat) (v : List Int) (w : World) (HP : isP p = true) (h0 : 0 < r) (hr : r ≤ 1000) (hn0 : 0 < n) (hn : n ≤ 1000) (ha : RdII w A r M) (hT : Tab p n M) (hv : Rd w V r (ints v)) (hvn : NumsL p v) :
    Calls Tryz.prog 162 #[.int .i64 p, .slice A r c, .slice V r cv] w fun e w' => ∃ (A' : Option Addr) (k c' : Nat), e = .returned (.tuple #[.slice A' k c', .bool (solR p M v n).2]) ∧ MkI w w' A' k c' (solR p M v n).1 := by
 obtain ⟨hp3, hp2⟩ := isP_ge HP
 have hl := ha.len
 have HAT := Lib.hid (augL_tab (show 0 < p by omega) hT hvn)
 have HM := Lib.hid hT
 have HL := Lib.hid hl
 have HPP := Lib.hid HP
 obtain ⟨R, hR⟩ : ∃ R, R = solR p M v n := ⟨_, rfl⟩
 rw [← hR]
 have HR := Lib.hid hR
 have hA0 : Below w.heap.size w (w.alloc (.cells #[] 24)) := zG.alloc (Nat.le_refl _) _
 have hO0 : MkII w (w.alloc (.cells #[] 24)) (some ⟨w.heap.size, 0, none⟩) 0 0 [] := MkII.empty zG
 have hE0 : Blk (w.alloc (.cells #[] 24)) w.heap.size 24 #[] := Blk.new _ _ _
 have a3 := ha.below hA0
 have v3 := hv.below hA0
 obtain ⟨gz, oz, rfl, hxz, Az, cz, hcz, -, -⟩ := ha.at_ h0
 have hlz : M[0].length = n := (HM.out M[0] (List.getElem_mem hxz)).1
 rw [hlz, Nat.add_zero] at hcz
 have hgr0 : Grows (w.alloc (.cells #[] 24)) (w.alloc (.cells #[] 24)) w.heap.size (.slice (some ⟨w.heap.size, 0, none⟩) 0 0) := ⟨CK.refl _, Nat.le_refl _, fun gb h => .inl (by simpa [Value.ownBlock] using h.symm)⟩
 have i0 : (0 : Int) < (r : Int) := by omega
 clear hl HP hR hT hvn hlz hxz ha hv
 go_enter Tryz.func162, Tryz.ntmps162
 go_wp2
 obtain ⟨w3, hw3⟩ : ∃ W, W = w.alloc (.cells #[] 24) := ⟨_, rfl⟩
 rw [← hw3] at hO0 hE0 hgr0 a3 v3 hA0 ⊢
 obtain ⟨g3, hg3⟩ : ∃ g, g = w.heap.size := ⟨_, rfl⟩
 rw [← hg3] at hO0 hE0 hgr0 ⊢
 clear hw3 hg3 hcz i0
 go_loopw [9, 23] (fun out i wr => ∃ (k : Nat) (A' : Option Addr) (c' : Nat), k ≤ r ∧ i = .int .i64 k ∧ out = .slice A' k c' ∧ MkII w wr A' k c' (tab k fun i => M.getD i [] ++ [v.getD i 0]) ∧ Grows w3 wr g3 (.slice A' k c')) (fun _ i _ => r - (intOf i).toNat)
 case atStart => exact ⟨0, _, _, by omega, rfl, rfl, hO0, hgr0⟩
 case round =>
  obtain ⟨k, A', c', hk, rfl, rfl, hM, hgr⟩ := hrel
  clear hO0 hgr0
  by_cases hlt : k < r
  · have hBn := hM.b
    obtain ⟨ga, oa, e9, hxk, Ak, ck, hck, hrk, hcc⟩ := (a3.ck hgr.1).at_ hlt
    cases e9
    obtain ⟨gv, ov, rfl, hvk, hcv⟩ := (v3.ck hgr.1).int hlt
    have hlk : M[k].length = n := (HM.out M[k] (List.getElem_mem hxk)).1
    rw [hlk] at hck hrk hcc
    have HAP : Hid ((tab (k + 1) fun i => M.getD i [] ++ [v.getD i 0]) = (tab k fun i => M.getD i [] ++ [v.getD i 0]) ++ [M[k] ++ [v[k]]]) := Lib.hid (by rw [tab_succ, getD_of_lt [] hxk, getD_of_lt 0 hvk])
    obtain ⟨X, hX⟩ : ∃ X, X = M[k] := ⟨_, rfl⟩
    obtain ⟨y, hy⟩ : ∃ y, y = v[k] := ⟨_, rfl⟩
    rw [← hX] at hrk HAP
    rw [← hy] at hcv HAP
    have HOWN := Lib.hid fun (w' : World) (h : Below wr.heap.size wr w') => clone_any Ak n ck X w' (by omega) (hrk.below h)
    have HMM := Lib.hid hM
    have HGR := Lib.hid hgr
    have i1 : (0 : Int) ≤ (k : Int) := by omega
    have i2 : (k : Int) < (r : Int) := by omega
    clear hX hy hxk hvk hrk hlk hM hgr hcc
    go_wp2
    refine wp_obsD 10 wr.heap.size [[], [], [1], [], [], [3, 4], [3, 4, 5], [3, 4, 5, 6], [1, 2, 3, 4, 5, 6, 7], [1, 2, 3, 4, 5, 6, 7, 8], [0, 1, 2, 3, 4, 5, 6, 7, 8, 9], [0, 1, 2, 3, 4, 5, 6, 7, 8, 9, 10]] [[], [], [], [], [], [], [], [], [2, 7], []] (fun x => [VIs (.slice A' k c'), VIs (.slice Ak n ck), VSl wr n X, VIs (.slice (some ⟨gv, ov, none⟩) r cv), VIs (.int .i64 (k)), VIs (.pointer (some ⟨gv, ov + k, none⟩)), VIs (.int .i64 (y)), VOn y, VSl wr (n + 1) (X ++ [y]), VNew wr (n + 1) (X ++ [y])]) (fun w' => w'.cell? ⟨gz, oz + k, none⟩ = some (.slice Ak n ck) ∧ w'.cell? ⟨gv, ov + k, none⟩ = some (.int .i64 y) ∧ Below wr.heap.size wr w') (by kernel_rfl) (by kernel_rfl) (fun x x' j hx => by
        rcases j with _ | _ | _ | _ | _ | _ | _ | _ | _ | _ | j
        · rfl
        · rfl
        · rfl
        · rfl
        · rfl
        · rfl
        · rfl
        · rfl
        · rfl
        · rfl
        · rfl)
     (weak_of [0, 1, 3, 4, 5, 6] (by decide) (fun k hk x => by
      simp only [List.mem_cons, zJ, or_false] at hk
      rcases hk with rfl | rfl | rfl | rfl | rfl | rfl <;> exact ⟨_, rfl⟩)) (fun j _ _ h hb => ⟨(hb.cell (lim_lt (World.block_lt_of_cell? _ _ hck) h.2.2.size)).trans h.1, (hb.cell (lim_lt (World.block_lt_of_cell? _ _ hcv) h.2.2.size)).trans h.2.1, h.2.2.trans (hb.mono (lim_ge h.2.2.size))⟩) (⟨hck, hcv, zG.drew⟩) (fun x => ?_)
    refine obs_stepD (Eq.trans (by simp only [zA, zC]; exact rfl) rfl) rfl (fun w' hS hV K hK => ?_) ?_
    · have q0 := hS.1; have q1 := hS.2.1; go_simp; exact hK.out _ _ _ rfl rfl rfl zG
    simp only [zD, zE, zF]
    refine obs_stepD (Eq.trans (by simp only [zA, zB, zC]; exact rfl) rfl) rfl (fun w' hS hV K hK => ?_) ?_
    · have q0 := hS.1; have q1 := hS.2.1; go_simp; exact hK.out _ _ _ rfl rfl rfl zG
    simp only [zD, zE, zF]
    refine obs_stepD (Eq.trans (by simp only [zA, zB, zC]; exact rfl) rfl) rfl (fun w' hS hV K hK => ?_) ?_
    · have e1 := zQ hV 1; have q0 := hS.1; have q1 := hS.2.1; go_simp; refine (HOWN.out _ hS.2.2).mono ?_; rintro e v1 ⟨A9, c9, rfl, hM⟩; exact hK.out _ _ _ rfl rfl ⟨_, _, rfl, hM.after hS.2.2⟩ hM.b
    simp only [zD, zE, zF]
    refine obs_stepD (Eq.trans (by simp only [zA, zB, zC]; exact rfl) rfl) rfl (fun w' hS hV K hK => ?_) ?_
    · have q0 := hS.1; have q1 := hS.2.1; go_simp; exact hK.out _ _ _ rfl rfl rfl zG
    simp only [zD, zE, zF]
    refine obs_stepD (Eq.trans (by simp only [zA, zB, zC]; exact rfl) rfl) rfl (fun w' hS hV K hK => ?_) ?_
    · have q0 := hS.1; have q1 := hS.2.1; go_simp; exact hK.out _ _ _ rfl rfl rfl zG
    simp only [zD, zE, zF]
    refine obs_stepD (Eq.trans (by simp only [zA, zB, zC]; exact rfl) rfl) rfl (fun w' hS hV K hK => ?_) ?_
    · have e3 := zQ hV 3; have e4 := zQ hV 4; have q0 := hS.1; have q1 := hS.2.1; go_simp; exact hK.out _ _ _ rfl rfl rfl zG
    simp only [zD, zE, zF]
    refine obs_stepD (Eq.trans (by simp only [zA, zB, zC]; exact rfl) rfl) rfl (fun w' hS hV K hK => ?_) ?_
    · have e5 := zQ hV 5; have q0 := hS.1; have q1 := hS.2.1; go_simp; exact hK.out _ _ _ rfl rfl rfl zG
    simp only [zD, zE, zF]
    refine obs_stepD (Eq.trans (by simp only [zA, zB, zC]; exact rfl) rfl) rfl (fun w' hS hV K hK => ?_) ?_
    · have e6 := zQ hV 6; have q0 := hS.1; have q1 := hS.2.1; go_simp; exact hK.out _ _ _ rfl rfl ⟨_, rfl, rd_one _ _⟩ (zG.alloc (Nat.le_refl _) _)
    simp only [zD, zE, zF]
    refine obs_stepD (Eq.trans (by simp only [zA, zB, zC]; exact rfl) rfl) rfl (fun w' hS hV K hK => ?_) ?_
    · obtain ⟨A2, c2, e2, h2⟩ := hV 2 (by decide); obtain ⟨g7, e7, r7⟩ := hV 7 (by decide); have q0 := hS.1; have q1 := hS.2.1; refine wp_appAll wr w' _ _ rfl A2 n c2 X (some ⟨g7, 0, none⟩) 1 1 [y] h2 r7 (by omega) (by omega) (by omega) e2 e7 ?_; intro A20 c20 w20 hM20 hg20; exact hK.out _ _ _ rfl rfl ⟨_, _, rfl, hM20⟩ (h2.grown_below hg20)
    simp only [zD, zE, zF]
    refine obs_stepD (Eq.trans (by simp only [zA, zB, zC]; exact rfl) rfl) rfl (fun w' hS hV K hK => ?_) ?_
    · obtain ⟨A8, c8, e8, h8⟩ := hV 8 (by decide); have q0 := hS.1; have q1 := hS.2.1; go_simp; exact hK.out _ _ _ rfl rfl ⟨_, _, _, rfl, Blk.new _ _ _, h8.below (zG.alloc (Nat.le_refl _) _)⟩ (zG.alloc (Nat.le_refl _) _)
    simp only [zD, zE, zF]
    refine fun w' hS hV => ?_
    have e0 := zQ hV 0
    have e1 := zQ hV 1
    have e3 := zQ hV 3
    have e4 := zQ hV 4
    have e5 := zQ hV 5
    have e6 := zQ hV 6
    obtain ⟨A8, c8, e8, h8⟩ := hV 8 (by decide)
    obtain ⟨g9, A9, c9, e9, b9, h9⟩ := hV 9 (by decide)
    simp only [e0, e1, e3, e4, e5, e6, e8, e9]
    clear e0 e1 e3 e4 e5 e6 e8 e9
    obtain ⟨-, -, s2⟩ := hS
    refine any_plain (j := 10) (by kernel_rfl) (Eq.trans (by simp only [zA, zB, zC]; exact rfl) rfl) rfl (fun K hK => ?_)
    refine wp_appRow w wr w' _ _ rfl A' k c' _ A9 (n + 1) c9 _ HMM.out h9 (by omega) g9 b9 (by rfl) (by rfl) ?_
    intro A20 c20 w20 hM20 hg20 hat20
    refine hK.out _ _ ?_
    simp only [Act.put, zD, zE, zF]
    refine any_one (j := 11) (by kernel_rfl) (Eq.trans (by simp only [zA, zB, zC]; exact rfl) rfl) (fun K hK => ?_)
    go_simp
    refine hK.out _ _ (wpAny_done (by kernel_rfl) ?_ _)
    have hgr7 := HGR.out.step (n' := k + 1) (c' := c20) hE0 s2 hg20 hat20
    clear hg20 hat20 s2
    go_wp2
    go_roundw
    case rel => exact ⟨k + 1, A20, c20, by omega, by go_num, rfl, by rw [HAP.out]; exact hM20, hgr7⟩
    case measure => simp [intOf]; omega
  · obtain rfl : k = r := by omega
    clear a3 v3 hE0 hgr hA0
    have hAug : (tab k fun i => M.getD i [] ++ [v.getD i 0]) = augL M v := by unfold augL; rw [HL.out]
    rw [hAug] at hM
    have hrd := hM.rd
    have hBw := hM.b
    have hmk := make_i (P := Tryz.prog) 24 2 Tryz.underlying24 info_i n (by omega)
    have hQ := Mk.made (E := 2) (n := n) (z := .int .i64 0) hBw (by simp only [maxLen]; omega)
    rw [ints_replicate] at hQ
    have hb5 : Below wr.heap.size wr (wr.alloc (.cells (madeCells #[.int .i64 0] n) 2)) := zG.alloc (Nat.le_refl _) _
    have hrd5 := hrd.below hb5
    clear hM hAug hrd hBw
    go_wp2_with fail
    obtain ⟨w5, hw5⟩ : ∃ W, W = wr.alloc (.cells (madeCells #[.int .i64 0] n) 2) := ⟨_, rfl⟩
    rw [← hw5] at hQ hrd5 ⊢
    obtain ⟨g5, hg5⟩ : ∃ g, g = wr.heap.size := ⟨_, rfl⟩
    rw [← hg5] at hQ ⊢
    have hg5l : g5 < w5.heap.size := by rw [hg5, hw5]; simp
    have hcall := basis_any p A' k c' (augL M v) (n + 1) w5 HPP.out (by omega) (by omega) hrd5 HAT.out
    obtain ⟨B, hB⟩ : ∃ B, B = basisL p (augL M v) := ⟨_, rfl⟩
    rw [← hB] at hcall
    have HB := Lib.hid hB
    have HBT : Hid (Tab p (n + 1) B) := Lib.hid (by rw [hB]; exact basisL_tab (by omega) _ HAT.out)
    have HBR : Hid (Red (n + 1) B) := Lib.hid (by rw [hB]; exact basisL_red HPP.out _ HAT.out)
    clear hw5 hg5 hb5 hrd5 hmk hB
    refine hcall.mono ?_
    rintro e wB ⟨AB, cB, rfl, hMB⟩
    have hQ2 := hQ.below hMB.b
    clear hcall hQ
    have hkb : B.length ≤ 1001 := Nat.le_trans HBR.out.len (by omega)
    go_wp2
    go_loopw [46] (fun i wr => ∃ j : Nat, j ≤ B.length ∧ i = .int .i64 j ∧ MkI w wr (some ⟨g5, 0, none⟩) n n (solTo B n j) ∧ endB B n j = false ∧ wB.heap.size ≤ wr.heap.size ∧ ∀ b, w5.heap.size ≤ b → b < wB.heap.size → wr.heap[b]? = wB.heap[b]?) (fun i _ => B.length - (intOf i).toNat)
    case atStart => exact ⟨0, by omega, rfl, hQ2, rfl, Nat.le_refl _, fun _ _ _ => rfl⟩
    case round =>
     obtain ⟨j, hj, rfl, hQj, hej, hsz, hkp⟩ := hrel
     clear hQ2
     by_cases hjt : j < B.length
     · obtain ⟨gb, ob, rfl, hxj, Aj, cj, hcj, hrj, hccj⟩ := (hMB.keep hkp).at_ hjt
       have hlj : B[j].length = n + 1 := (HBT.out B[j] (List.getElem_mem hxj)).1
       have hBj : B.getD j [] = B[j] := getD_of_lt [] hxj
       rw [hlj] at hcj hrj hccj
       have hlead := lead_any Aj (n + 1) cj B[j] wr (by omega) hrj
       have hld : leadL B[j] = ld B j := by unfold ld; rw [hBj]
       rw [hld] at hlead
       have hlt := HBR.out.lt j hjt
       obtain ⟨gj, oj, rfl, hyk, hcy⟩ := hrj.int (show n < n + 1 by omega)
       have hen : B[j][n] = ent B j n := by unfold ent; rw [hBj, getD_of_lt 0 hyk]
       rw [hen] at hcy
       have HSX : Hid (solTo B n (j + 1) = (solTo B n j).set (ld B j) (ent B j n)) := Lib.hid rfl
       have hes := endB_succ B n j
       rw [hej, Bool.false_or] at hes
       obtain ⟨y, hy⟩ : ∃ y, y = ld B j := ⟨_, rfl⟩
       obtain ⟨z, hz⟩ : ∃ z, z = ent B j n := ⟨_, rfl⟩
       rw [← hy] at hlead hlt HSX hes
       rw [← hz] at hcy HSX
       clear hy hz hen hyk hld hBj hlj hxj hrj hccj
       have HES := Lib.hid hes
       clear hes
       go_wp2_with fail
       refine hlead.mono ?_
       rintro e w7 ⟨rfl, rfl⟩
       clear hlead
       by_cases hyn : y = n
       · have t1 : ((y : Int) == (n : Int)) = true := by simp [hyn]
         have hend : endB B n B.length = true := endB_more (k := j + 1) (by rw [HES.out, hyn]; simp) (by omega)
         have HRE : Hid (R = ([], false)) := Lib.hid (by rw [HR.out]; unfold solR; rw [← HB.out, hend]; rfl)
         clear hend
         go_wp2
         go_ret2
         exact ret_sol HRE.out (Mk.nil hQj.b)
       · have t1 : ((y : Int) == (n : Int)) = false := by simp; omega
         have hend : endB B n (j + 1) = false := by rw [HES.out]; simp [hyn]
         have HEND := Lib.hid hend
         have hyl : y < n := by omega
         obtain ⟨hoc, hof⟩ := mkI_at hQj hyl
         have hset := (hQj.set y (.int .i64 z)).1
         rw [ints_set, ← HSX.out] at hset
         have HSET := Lib.hid hset
         have HKP : Hid (wB.heap.size ≤ (wr.setCell ⟨g5, y, none⟩ (.int .i64 z)).heap.size ∧ ∀ b, w5.heap.size ≤ b → b < wB.heap.size → (wr.setCell ⟨g5, y, none⟩ (.int .i64 z)).heap[b]? = wB.heap[b]?) := Lib.hid ⟨Nat.le_trans hsz ((Below.refl g5 wr).setCell (p := ⟨g5, y, none⟩) (Nat.le_refl _) _).size, fun b h1 h2 => (Below.heap_setCell wr ⟨g5, y, none⟩ (.int .i64 z) b (show b ≠ g5 by omega)).trans (hkp b h1 h2)⟩
         have i3 : (0 : Int) ≤ (y : Int) := by omega
         have i4 : (y : Int) < (n : Int) := by omega
         have i5 : (n : Int) < ((n + 1 : Nat) : Int) := by omega
         clear hset hend hkp hsz HES hyn
         go_wp2
         go_roundw
         case rel => exact ⟨j + 1, by omega, by go_num, HSET.out, HEND.out, HKP.out.1, HKP.out.2⟩
         case measure => simp [intOf]; omega
     · obtain rfl : j = B.length := by omega
       have HRE : Hid (R = (solTo B n B.length, true)) := Lib.hid (by rw [HR.out]; unfold solR; rw [← HB.out, hej]; rfl)
       go_wp2
       go_ret2
       exact ret_sol HRE.out hQj
end Go.Proofs.YtmkjdpnoloofjaaGreat
namespace Go.Proofs.YtmkjdpnoloofjaaGreat
section
variable {p : Int} {n : Nat} {M : List (List Int)}
/-- Powers in the ring. -/
def Mt.pw (x : Mt p n) : Nat → Mt p n
 | 0 => Mt.one x.pos
 | k + 1 => Mt.pw x k * x
end
section
variable {p : Int} {sq : List Int} {M : List (List Int)}
end
end Go.Proofs.YtmkjdpnoloofjaaGreat

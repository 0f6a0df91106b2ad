/-
  LawFnJoins: part 12 of the texts that the proof needs. No condition.
-/
import Derived.Test.YtggigolkncckoaaGreatP11
namespace Go.Proofs.YtggigolkncckoaaGreat
open Go.RowKit
set_option maxHeartbeats 12800000 in
set_option maxRecDepth 8000 in
theorem l06Two_any (B : Option Addr) (nb cb : Nat) (bs : List Int) (w : World) (hnb : nb ≤ 4096) (r : Rd w B nb (bs.map (Value.int .u8))) (hbs : ∀ b ∈ bs, 0 ≤ b ∧ b < 256) (hbg : ∀ a, B = some a → a.block < w.heap.size) :
    Calls Tryz.prog 225 #[.slice B nb cb] w (Drew2 w) := by
  have hB0 : Below w.heap.size w (w.alloc (.cells #[.int .i64 0, .slice none 0 0] 26)) := (Below.refl _ _).alloc (Nat.le_refl _) _
  have k0 : Blk (w.alloc (.cells #[.int .i64 0, .slice none 0 0] 26)) w.heap.size 26 #[.int .i64 0, .slice none 0 0] := Blk.new _ _ _
  have hfr := from__any B nb cb bs (w.alloc (.cells #[.int .i64 0, .slice none 0 0] 26)) hnb (r.below hB0) hbs (fun a e => by have := hbg a e; simp; omega)
  go_enter Tryz.func225, Tryz.ntmps225
  go_wp2_with fail
  refine hfr.mono ?_
  rintro e w2 ⟨g, rfl, hg, hs2, hb2⟩
  have k2 := k0.below hb2 k0.lt
  have hB2 := hB0.trans (hb2.mono hB0.size)
  have hw := hB2.size
  have hgw : w.heap.size ≤ g := Nat.le_trans hB0.size hg
  have hsp := l03Spoil_any g w2 hs2
  clear hfr hb2 k0 hB0 hg
  go_wp2_with fail
  refine hsp.mono ?_
  rintro e w3 ⟨P, A, n, c, sq, rfl, hP, hn, hO, hd3⟩
  have d4 := hd3.alloc (.cells #[.int .i64 P, .slice A n c] 26)
  have k4 := (k2.dr hd3 (by decide)).alloc (.cells #[.int .i64 P, .slice A n c] 26)
  have kb4 : Blk (w3.alloc (.cells #[.int .i64 P, .slice A n c] 26)) w3.heap.size 26 #[.int .i64 P, .slice A n c] := Blk.new _ _ _
  have hres : w.heap.size < w3.heap.size := Nat.lt_of_lt_of_le (show w.heap.size < w2.heap.size from k2.lt) hd3.size
  have o4 := (hO.base (B' := w.heap.size) hw).below ((Below.refl _ _).alloc (Nat.le_refl _) (.cells #[.int .i64 P, .slice A n c] 26))
  clear hsp k2 hO hd3
  have hdx := l06Draw_any g P A n c sq _ d4.s' (by omega) (o4.base (Nat.zero_le _))
  obtain ⟨q0, q1⟩ := kb4.two
  go_wp2_with fail
  refine hdx.mono ?_
  rintro e w5 ⟨A1, m1, c1, rfl, hm1, ⟨xs, hX⟩, hd5⟩
  have d5 := d4.trans hd5
  have k5 := k4.dr hd5 (by decide)
  have kb5 := kb4.dr hd5 (by decide)
  have o5 := o4.dr hd5 (by decide)
  have x5 := hX.base (B' := w.heap.size) (Nat.le_trans hw d4.size)
  clear hdx d4 k4 kb4 o4 hX hd5 q0 q1
  have hsl := o5.rd.lenI
  cases h1 : isSp P sq && isMu P sq xs
  · have his := l04Is_b P A A1 n c m1 c1 sq xs w5 (by omega) (by omega) o5.rd x5.rd h1
    clear h1 hsl
    obtain ⟨q0, q1⟩ := kb5.two
    go_wp2_with fail
    refine his.mono ?_
    rintro e w7 ⟨rfl, hb7⟩
    replace d5 := d5.then hb7
    replace k5 := k5.below hb7 k5.lt
    replace kb5 := kb5.below hb7 kb5.lt
    replace o5 := o5.below hb7
    replace x5 := x5.below hb7
    clear his hb7 q0 q1
    obtain ⟨q0, q1⟩ := kb5.two
    go_wp2
    refine wp_obsS 8 (RelB g w.heap.size) [[], [], [], [], [2, 3], [0, 2, 3, 4], [1], [2, 3, 4]] [[], [], [], [], [99], [99], [], []] (fun x => [VIs (.agg #[.int .i64 P, .slice A n c]), VIs (.slice A1 m1 c1), VIs (.pointer (some ⟨g, 0, none⟩)), VIs (.agg #[.int .i64 P, .slice A n c]), VLx w.heap.size, VBk w.heap.size 26 #[.int .i64 P, .slice A n c], VIs (.slice A1 m1 c1), VLx w.heap.size]) (fun w' => SB w.heap.size w' ∧ Blk w' w3.heap.size 26 #[.int .i64 P, .slice A n c] ∧ Own w' w.heap.size 2 A n c (ints sq) ∧ Own w' w.heap.size 2 A1 m1 c1 (ints xs) ∧ Src w' g 143 ∧ Below w.heap.size w w') (by kernel_rfl) (by kernel_rfl) (fun x x' j hx => by
        rcases j with _ | _ | _ | _ | _ | _ | _ | _ | j
        · rfl
        · rfl
        · rfl
        · rfl
        · rfl
        · rfl
        · rfl
        · rfl
        · rfl)
      (weak_ofR [0, 1, 2, 3, 4, 6, 7] (by decide) (fun k hk x v w w' hp hr => by
        simp only [List.mem_cons, List.not_mem_nil, or_false] at hk
        rcases hk with rfl | rfl | rfl | rfl | rfl | rfl | rfl
        · exact hp
        · exact hp
        · exact hp
        · exact hp
        · obtain ⟨A9, m9, c9, X9, e9, l9, h9⟩ := hp; exact ⟨A9, m9, c9, X9, e9, l9, h9.relB hr⟩
        · exact hp
        · obtain ⟨A9, m9, c9, X9, e9, l9, h9⟩ := hp; exact ⟨A9, m9, c9, X9, e9, l9, h9.relB hr⟩)) (fun j _ _ h hb => hb.either (fun hb => ⟨h.1.below hb, h.2.1.below hb h.2.1.lt, h.2.2.1.below hb, h.2.2.2.1.below hb, h.2.2.2.2.1.below hb, h.2.2.2.2.2.trans (hb.mono h.2.2.2.2.2.size)⟩) (fun hr => ⟨h.1.relB hr, h.2.1.relB (Nat.ne_of_gt hres) hr, h.2.2.1.relB hr, h.2.2.2.1.relB hr, h.2.2.2.2.1.relB hr, below_relB h.2.2.2.2.2 hgw (Nat.le_refl _) hr⟩)) (⟨⟨_, _, _, _, k5.drew⟩, kb5.drew, o5.below (Below.refl _ _).drew, x5.below (Below.refl _ _).drew, d5.s'.below (Below.refl _ _).drew, (hB2.trans (d5.b.mono hgw)).drew⟩) (fun x => ?_)
    refine obs_stepS (Eq.trans (by simp only [List.getElem?_toArray, List.getElem?_cons_zero]; exact rfl) rfl) rfl (fun w' hS hV K hK => ?_) ?_
    · obtain ⟨q0, q1⟩ := hS.2.1.two
      go_simp
      exact hK.out _ _ _ rfl rfl rfl (Below.refl _ _)
    simp only [List.setIfInBounds_toArray, List.set_cons_zero, List.set_cons_succ]
    refine obs_stepS (Eq.trans (by simp only [List.getElem?_toArray, List.getElem?_cons_succ, List.getElem?_cons_zero]; exact rfl) rfl) rfl (fun w' hS hV K hK => ?_) ?_
    · obtain ⟨q0, q1⟩ := hS.2.1.two
      go_simp
      exact hK.out _ _ _ rfl rfl rfl (Below.refl _ _)
    simp only [List.setIfInBounds_toArray, List.set_cons_zero, List.set_cons_succ]
    refine obs_stepS (Eq.trans (by simp only [List.getElem?_toArray, List.getElem?_cons_succ, List.getElem?_cons_zero]; exact rfl) rfl) rfl (fun w' hS hV K hK => ?_) ?_
    · obtain ⟨q0, q1⟩ := hS.2.1.two
      go_simp
      exact hK.out _ _ _ rfl rfl rfl (Below.refl _ _)
    simp only [List.setIfInBounds_toArray, List.set_cons_zero, List.set_cons_succ]
    refine obs_stepS (Eq.trans (by simp only [List.getElem?_toArray, List.getElem?_cons_succ, List.getElem?_cons_zero]; exact rfl) rfl) rfl (fun w' hS hV K hK => ?_) ?_
    · obtain ⟨q0, q1⟩ := hS.2.1.two
      go_simp
      exact hK.out _ _ _ rfl rfl rfl (Below.refl _ _)
    simp only [List.setIfInBounds_toArray, List.set_cons_zero, List.set_cons_succ]
    refine obs_stepS (Eq.trans (by simp only [List.getElem?_toArray, List.getElem?_cons_succ, List.getElem?_cons_zero]; exact rfl) rfl) rfl (fun w' hS hV K hK => ?_) ?_
    · have e2 : x 2 = (.pointer (some ⟨g, 0, none⟩)) := hV 2 (by decide)
      have e3 : x 3 = (.agg #[.int .i64 P, .slice A n c]) := hV 3 (by decide)
      obtain ⟨q0, q1⟩ := hS.2.1.two
      go_simp
      refine (l06Draw_any g P A n c sq w' hS.2.2.2.2.1 (by omega) (hS.2.2.1.base (Nat.zero_le _))).mono ?_
      rintro e v1 ⟨A9, m9, c9, rfl, hm9, ⟨xs9, ho9⟩, hd9⟩
      exact hK.out _ _ _ rfl rfl ⟨_, _, _, xs9, rfl, hm9, ho9.base hS.2.2.2.2.2.size⟩ (StepR.rel rfl (.inl hd9))
    simp only [List.setIfInBounds_toArray, List.set_cons_zero, List.set_cons_succ]
    refine obs_stepN (Eq.trans (by simp only [List.getElem?_toArray, List.getElem?_cons_succ, List.getElem?_cons_zero]; exact rfl) rfl) rfl (fun w' hS hV K hK => ?_) ?_
    · have e0 : x 0 = (.agg #[.int .i64 P, .slice A n c]) := hV 0 (by decide)
      have e2 : x 2 = (.pointer (some ⟨g, 0, none⟩)) := hV 2 (by decide)
      have e3 : x 3 = (.agg #[.int .i64 P, .slice A n c]) := hV 3 (by decide)
      obtain ⟨A4, m4, c4, X4, e4, l4, h4⟩ := hV 4 (by decide)
      obtain ⟨q0, q1⟩ := hS.2.1.two
      obtain ⟨p9, A9, n9, c9, k9⟩ := hS.1
      obtain ⟨t0, t1⟩ := k9.two
      have f0 := k9.frozen 0
      have f1 := k9.frozen 1
      go_simp
      exact hK.out _ _ rfl k9.stored (StepR.rel rfl (.inr ⟨_, _, _, _, _, _, _, _, k9, rfl⟩))
    refine obs_stepS (Eq.trans (by simp only [List.getElem?_toArray, List.getElem?_cons_succ, List.getElem?_cons_zero]; exact rfl) rfl) rfl (fun w' hS hV K hK => ?_) ?_
    · have e1 : x 1 = (.slice A1 m1 c1) := hV 1 (by decide)
      obtain ⟨q0, q1⟩ := hS.2.1.two
      go_simp
      exact hK.out _ _ _ rfl rfl rfl (Below.refl _ _)
    simp only [List.setIfInBounds_toArray, List.set_cons_zero, List.set_cons_succ]
    refine obs_stepS (Eq.trans (by simp only [List.getElem?_toArray, List.getElem?_cons_succ, List.getElem?_cons_zero]; exact rfl) rfl) rfl (fun w' hS hV K hK => ?_) ?_
    · have e2 : x 2 = (.pointer (some ⟨g, 0, none⟩)) := hV 2 (by decide)
      have e3 : x 3 = (.agg #[.int .i64 P, .slice A n c]) := hV 3 (by decide)
      obtain ⟨A4, m4, c4, X4, e4, l4, h4⟩ := hV 4 (by decide)
      obtain ⟨q0, q1⟩ := hS.2.1.two
      go_simp
      exact hK.out _ _ _ rfl rfl ⟨_, _, _, _, rfl, l4, h4⟩ (Below.refl _ _)
    simp only [List.setIfInBounds_toArray, List.set_cons_zero, List.set_cons_succ]
    refine fun w' hS hV => ?_
    have e0 : x 0 = (.agg #[.int .i64 P, .slice A n c]) := hV 0 (by decide)
    have e1 : x 1 = (.slice A1 m1 c1) := hV 1 (by decide)
    have e2 : x 2 = (.pointer (some ⟨g, 0, none⟩)) := hV 2 (by decide)
    have e3 : x 3 = (.agg #[.int .i64 P, .slice A n c]) := hV 3 (by decide)
    obtain ⟨A4, m4, c4, X4, e4, l4, h4⟩ := hV 4 (by decide)
    have b5 := hV 5 (by decide)
    have e6 : x 6 = (.slice A1 m1 c1) := hV 6 (by decide)
    obtain ⟨A7, m7, c7, X7, e7, l7, h7⟩ := hV 7 (by decide)
    simp only [e0, e1, e2, e3, e4, e6, e7]
    clear e0 e1 e2 e3 e4 e6 e7
    refine wpAny_done (by kernel_rfl) ?_ _
    clear k5 kb5 o5 x5 d5 q0 q1
    obtain ⟨_, kb6, o6, u6, _, hB6⟩ := hS
    obtain ⟨w6, rfl⟩ : ∃ W, W = w' := ⟨_, rfl⟩
    skip
    replace b5 : Blk w6 w.heap.size 26 #[.int .i64 P, .slice A n c] := b5
    obtain ⟨p0, p1⟩ := b5.two
    go_wp2
    exact bodyPost_ret (v := .tuple #[.agg #[.int .i64 P, .slice A n c], .slice A1 m1 c1, .slice A7 m7 c7]) (by simp [results, Tryz.results225, go_sem, p0, p1]) rfl ⟨P, A, n, c, sq, A1, m1, c1, xs, A7, m7, c7, X7, rfl, hP, hn, by omega, by omega, o6, u6, h7, hB6⟩
  · have his := l04Is_b P A A1 n c m1 c1 sq xs w5 (by omega) (by omega) o5.rd x5.rd h1
    rw [Bool.and_eq_true] at h1
    obtain ⟨HP, hn1, hn2, hq⟩ := isSp_dim h1.1
    obtain ⟨hp3, hp2⟩ := isP_ge HP
    have HQ := Lib.hid (nums_drawn hq)
    obtain ⟨hxl, hxn⟩ := isMu_spec3 h1.2
    rw [hsl] at hn1 hn2 hxl
    have HXN := Lib.hid hxn
    obtain rfl : m1 = pw n := by rw [← x5.rd.lenI, hxl]
    have hpw : pw n ≤ 64 := pw_le hn2
    clear h1 hq hxl hxn hsl
    obtain ⟨q0, q1⟩ := kb5.two
    go_wp2_with fail
    refine his.mono ?_
    rintro e w7 ⟨rfl, hb7⟩
    replace d5 := d5.then hb7
    replace k5 := k5.below hb7 k5.lt
    replace kb5 := kb5.below hb7 kb5.lt
    replace o5 := o5.below hb7
    replace x5 := x5.below hb7
    clear his hb7 q0 q1
    have hbl := l06Is_any P A n c sq A1 c1 xs w7 HP hn2 hn1 o5.rd HQ.out x5.rd HXN.out
    cases hb : isBl P sq n xs
    · rw [hb] at hbl
      clear hb
      obtain ⟨q0, q1⟩ := kb5.two
      go_wp2_with fail
      refine hbl.mono ?_
      rintro e w8 ⟨rfl, hb7⟩
      replace d5 := d5.then hb7
      replace k5 := k5.below hb7 k5.lt
      replace kb5 := kb5.below hb7 kb5.lt
      replace o5 := o5.below hb7
      replace x5 := x5.below hb7
      clear hbl hb7 q0 q1
      obtain ⟨q0, q1⟩ := kb5.two
      go_wp2
      refine wp_obsS 8 (RelB g w.heap.size) [[], [], [], [], [2, 3], [0, 2, 3, 4], [1], [2, 3, 4]] [[], [], [], [], [99], [99], [], []] (fun x => [VIs (.agg #[.int .i64 P, .slice A n c]), VIs (.slice A1 (pw n) c1), VIs (.pointer (some ⟨g, 0, none⟩)), VIs (.agg #[.int .i64 P, .slice A n c]), VLx w.heap.size, VBk w.heap.size 26 #[.int .i64 P, .slice A n c], VIs (.slice A1 (pw n) c1), VLx w.heap.size]) (fun w' => SB w.heap.size w' ∧ Blk w' w3.heap.size 26 #[.int .i64 P, .slice A n c] ∧ Own w' w.heap.size 2 A n c (ints sq) ∧ Own w' w.heap.size 2 A1 (pw n) c1 (ints xs) ∧ Src w' g 143 ∧ Below w.heap.size w w') (by kernel_rfl) (by kernel_rfl) (fun x x' j hx => by
          rcases j with _ | _ | _ | _ | _ | _ | _ | _ | j
          · rfl
          · rfl
          · rfl
          · rfl
          · rfl
          · rfl
          · rfl
          · rfl
          · rfl)
        (weak_ofR [0, 1, 2, 3, 4, 6, 7] (by decide) (fun k hk x v w w' hp hr => by
          simp only [List.mem_cons, List.not_mem_nil, or_false] at hk
          rcases hk with rfl | rfl | rfl | rfl | rfl | rfl | rfl
          · exact hp
          · exact hp
          · exact hp
          · exact hp
          · obtain ⟨A9, m9, c9, X9, e9, l9, h9⟩ := hp; exact ⟨A9, m9, c9, X9, e9, l9, h9.relB hr⟩
          · exact hp
          · obtain ⟨A9, m9, c9, X9, e9, l9, h9⟩ := hp; exact ⟨A9, m9, c9, X9, e9, l9, h9.relB hr⟩)) (fun j _ _ h hb => hb.either (fun hb => ⟨h.1.below hb, h.2.1.below hb h.2.1.lt, h.2.2.1.below hb, h.2.2.2.1.below hb, h.2.2.2.2.1.below hb, h.2.2.2.2.2.trans (hb.mono h.2.2.2.2.2.size)⟩) (fun hr => ⟨h.1.relB hr, h.2.1.relB (Nat.ne_of_gt hres) hr, h.2.2.1.relB hr, h.2.2.2.1.relB hr, h.2.2.2.2.1.relB hr, below_relB h.2.2.2.2.2 hgw (Nat.le_refl _) hr⟩)) (⟨⟨_, _, _, _, k5.drew⟩, kb5.drew, o5.below (Below.refl _ _).drew, x5.below (Below.refl _ _).drew, d5.s'.below (Below.refl _ _).drew, (hB2.trans (d5.b.mono hgw)).drew⟩) (fun x => ?_)
      refine obs_stepS (Eq.trans (by simp only [List.getElem?_toArray, List.getElem?_cons_zero]; exact rfl) rfl) rfl (fun w' hS hV K hK => ?_) ?_
      · obtain ⟨q0, q1⟩ := hS.2.1.two
        go_simp
        exact hK.out _ _ _ rfl rfl rfl (Below.refl _ _)
      simp only [List.setIfInBounds_toArray, List.set_cons_zero, List.set_cons_succ]
      refine obs_stepS (Eq.trans (by simp only [List.getElem?_toArray, List.getElem?_cons_succ, List.getElem?_cons_zero]; exact rfl) rfl) rfl (fun w' hS hV K hK => ?_) ?_
      · obtain ⟨q0, q1⟩ := hS.2.1.two
        go_simp
        exact hK.out _ _ _ rfl rfl rfl (Below.refl _ _)
      simp only [List.setIfInBounds_toArray, List.set_cons_zero, List.set_cons_succ]
      refine obs_stepS (Eq.trans (by simp only [List.getElem?_toArray, List.getElem?_cons_succ, List.getElem?_cons_zero]; exact rfl) rfl) rfl (fun w' hS hV K hK => ?_) ?_
      · obtain ⟨q0, q1⟩ := hS.2.1.two
        go_simp
        exact hK.out _ _ _ rfl rfl rfl (Below.refl _ _)
      simp only [List.setIfInBounds_toArray, List.set_cons_zero, List.set_cons_succ]
      refine obs_stepS (Eq.trans (by simp only [List.getElem?_toArray, List.getElem?_cons_succ, List.getElem?_cons_zero]; exact rfl) rfl) rfl (fun w' hS hV K hK => ?_) ?_
      · obtain ⟨q0, q1⟩ := hS.2.1.two
        go_simp
        exact hK.out _ _ _ rfl rfl rfl (Below.refl _ _)
      simp only [List.setIfInBounds_toArray, List.set_cons_zero, List.set_cons_succ]
      refine obs_stepS (Eq.trans (by simp only [List.getElem?_toArray, List.getElem?_cons_succ, List.getElem?_cons_zero]; exact rfl) rfl) rfl (fun w' hS hV K hK => ?_) ?_
      · have e2 : x 2 = (.pointer (some ⟨g, 0, none⟩)) := hV 2 (by decide)
        have e3 : x 3 = (.agg #[.int .i64 P, .slice A n c]) := hV 3 (by decide)
        obtain ⟨q0, q1⟩ := hS.2.1.two
        go_simp
        refine (l06Draw_any g P A n c sq w' hS.2.2.2.2.1 (by omega) (hS.2.2.1.base (Nat.zero_le _))).mono ?_
        rintro e v1 ⟨A9, m9, c9, rfl, hm9, ⟨xs9, ho9⟩, hd9⟩
        exact hK.out _ _ _ rfl rfl ⟨_, _, _, xs9, rfl, hm9, ho9.base hS.2.2.2.2.2.size⟩ (StepR.rel rfl (.inl hd9))
      simp only [List.setIfInBounds_toArray, List.set_cons_zero, List.set_cons_succ]
      refine obs_stepN (Eq.trans (by simp only [List.getElem?_toArray, List.getElem?_cons_succ, List.getElem?_cons_zero]; exact rfl) rfl) rfl (fun w' hS hV K hK => ?_) ?_
      · have e0 : x 0 = (.agg #[.int .i64 P, .slice A n c]) := hV 0 (by decide)
        have e2 : x 2 = (.pointer (some ⟨g, 0, none⟩)) := hV 2 (by decide)
        have e3 : x 3 = (.agg #[.int .i64 P, .slice A n c]) := hV 3 (by decide)
        obtain ⟨A4, m4, c4, X4, e4, l4, h4⟩ := hV 4 (by decide)
        obtain ⟨q0, q1⟩ := hS.2.1.two
        obtain ⟨p9, A9, n9, c9, k9⟩ := hS.1
        obtain ⟨t0, t1⟩ := k9.two
        have f0 := k9.frozen 0
        have f1 := k9.frozen 1
        go_simp
        exact hK.out _ _ rfl k9.stored (StepR.rel rfl (.inr ⟨_, _, _, _, _, _, _, _, k9, rfl⟩))
      refine obs_stepS (Eq.trans (by simp only [List.getElem?_toArray, List.getElem?_cons_succ, List.getElem?_cons_zero]; exact rfl) rfl) rfl (fun w' hS hV K hK => ?_) ?_
      · have e1 : x 1 = (.slice A1 (pw n) c1) := hV 1 (by decide)
        obtain ⟨q0, q1⟩ := hS.2.1.two
        go_simp
        exact hK.out _ _ _ rfl rfl rfl (Below.refl _ _)
      simp only [List.setIfInBounds_toArray, List.set_cons_zero, List.set_cons_succ]
      refine obs_stepS (Eq.trans (by simp only [List.getElem?_toArray, List.getElem?_cons_succ, List.getElem?_cons_zero]; exact rfl) rfl) rfl (fun w' hS hV K hK => ?_) ?_
      · have e2 : x 2 = (.pointer (some ⟨g, 0, none⟩)) := hV 2 (by decide)
        have e3 : x 3 = (.agg #[.int .i64 P, .slice A n c]) := hV 3 (by decide)
        obtain ⟨A4, m4, c4, X4, e4, l4, h4⟩ := hV 4 (by decide)
        obtain ⟨q0, q1⟩ := hS.2.1.two
        go_simp
        exact hK.out _ _ _ rfl rfl ⟨_, _, _, _, rfl, l4, h4⟩ (Below.refl _ _)
      simp only [List.setIfInBounds_toArray, List.set_cons_zero, List.set_cons_succ]
      refine fun w' hS hV => ?_
      have e0 : x 0 = (.agg #[.int .i64 P, .slice A n c]) := hV 0 (by decide)
      have e1 : x 1 = (.slice A1 (pw n) c1) := hV 1 (by decide)
      have e2 : x 2 = (.pointer (some ⟨g, 0, none⟩)) := hV 2 (by decide)
      have e3 : x 3 = (.agg #[.int .i64 P, .slice A n c]) := hV 3 (by decide)
      obtain ⟨A4, m4, c4, X4, e4, l4, h4⟩ := hV 4 (by decide)
      have b5 := hV 5 (by decide)
      have e6 : x 6 = (.slice A1 (pw n) c1) := hV 6 (by decide)
      obtain ⟨A7, m7, c7, X7, e7, l7, h7⟩ := hV 7 (by decide)
      simp only [e0, e1, e2, e3, e4, e6, e7]
      clear e0 e1 e2 e3 e4 e6 e7
      refine wpAny_done (by kernel_rfl) ?_ _
      clear k5 kb5 o5 x5 d5 q0 q1
      obtain ⟨_, kb6, o6, u6, _, hB6⟩ := hS
      obtain ⟨w6, rfl⟩ : ∃ W, W = w' := ⟨_, rfl⟩
      skip
      replace b5 : Blk w6 w.heap.size 26 #[.int .i64 P, .slice A n c] := b5
      obtain ⟨p0, p1⟩ := b5.two
      go_wp2
      exact bodyPost_ret (v := .tuple #[.agg #[.int .i64 P, .slice A n c], .slice A1 (pw n) c1, .slice A7 m7 c7]) (by simp [results, Tryz.results225, go_sem, p0, p1]) rfl ⟨P, A, n, c, sq, A1, (pw n), c1, xs, A7, m7, c7, X7, rfl, hP, hn, by omega, by omega, o6, u6, h7, hB6⟩
    · rw [hb] at hbl
      clear hb
      obtain ⟨q0, q1⟩ := kb5.two
      go_wp2_with fail
      refine hbl.mono ?_
      rintro e w8 ⟨rfl, hb7⟩
      replace d5 := d5.then hb7
      replace k5 := k5.below hb7 k5.lt
      replace kb5 := kb5.below hb7 kb5.lt
      replace o5 := o5.below hb7
      replace x5 := x5.below hb7
      clear hbl hb7 q0 q1
      have hnx := next_any g 3 w8 d5.s' (by omega)
      go_wp2_with fail
      refine hnx.mono ?_
      rintro e w9 ⟨r8, rfl, _, _, hd8⟩
      replace d5 := d5.trans hd8
      replace k5 := k5.dr hd8 (by decide)
      replace kb5 := kb5.dr hd8 (by decide)
      replace o5 := o5.dr hd8 (by decide)
      replace x5 := x5.dr hd8 (by decide)
      clear hnx hd8
      by_cases h8 : r8 = 0
      · have e8 : (r8 == 0) = true := by simp [h8]
        have hTL0 : Tab P n (subL P sq n xs) := by unfold subL; exact kernL_tab (by omega) _ _
        have hlen0 : (subL P sq n xs).length ≤ n := by unfold subL; exact kernL_len HP _ _
        obtain ⟨LS, hLS⟩ : ∃ L, L = subL P sq n xs := ⟨_, rfl⟩
        rw [← hLS] at hTL0 hlen0
        have HLS := Lib.hid hLS
        have HTL := Lib.hid hTL0
        obtain ⟨m, hm⟩ : ∃ m, m = LS.length := ⟨_, rfl⟩
        rw [← hm] at hlen0
        clear hLS hTL0
        have HLM := Lib.hid hm
        clear hm
        obtain ⟨q0, q1⟩ := kb5.two
        go_wp2
        refine wp_obsR 10 (Dr g 143) [[], [], [0, 1], [], [], [4], [], [6], [6, 7], [0, 1, 2, 3, 4, 5, 6, 7, 8], [0, 1, 2, 3, 4, 5, 6, 7, 8, 9], [0, 1, 2, 3, 4, 5, 6, 7, 8, 9, 10], [0, 1, 2, 3, 4, 5, 6, 7, 8, 9, 10, 11]] [[], [], [], [], [], [], [], [], [], [99]] (fun x => [VIs (.agg #[.int .i64 P, .slice A n c]), VIs (.slice A1 (pw n) c1), VUs w2.heap.size m LS, VIs (.pointer (some ⟨g, 0, none⟩)), VIs (.pointer (some ⟨w3.heap.size, 0, none⟩)), VIs (.int .i64 (P)), VIs (.pointer (some ⟨w3.heap.size, 1, none⟩)), VIs (.slice A n c), VIs (.int .i64 (n)), VLs w2.heap.size n P]) (fun w' => Blk w' w.heap.size 26 #[.int .i64 0, .slice none 0 0] ∧ Blk w' w3.heap.size 26 #[.int .i64 P, .slice A n c] ∧ Own w' w.heap.size 2 A n c (ints sq) ∧ Own w' w.heap.size 2 A1 (pw n) c1 (ints xs) ∧ Dr g 143 w2 w') (by kernel_rfl) (by kernel_rfl) (fun x x' j hx => by
            rcases j with _ | _ | _ | _ | _ | _ | _ | _ | _ | _ | j
            · rfl
            · rfl
            · rfl
            · rfl
            · rfl
            · rfl
            · rfl
            · rfl
            · rfl
            · rfl
            · rfl)
          (weak_ofR [0, 1, 2, 3, 4, 5, 6, 7, 8, 9] (by decide) (fun k hk x v w w' hp hr => by
            simp only [List.mem_cons, List.not_mem_nil, or_false] at hk
            rcases hk with rfl | rfl | rfl | rfl | rfl | rfl | rfl | rfl | rfl | rfl
            · exact hp
            · exact hp
            · exact VUs.dr hp hr (by decide) (by decide)
            · exact hp
            · exact hp
            · exact hp
            · exact hp
            · exact hp
            · exact hp
            · exact VLs.dr hp hr (by decide))) (fun j _ _ h hb => hb.either (fun hb => ⟨h.1.below hb h.1.lt, h.2.1.below hb h.2.1.lt, h.2.2.1.below hb, h.2.2.2.1.below hb, h.2.2.2.2.then hb⟩) (fun hr => ⟨h.1.dr hr (by decide), h.2.1.dr hr (by decide), h.2.2.1.dr hr (by decide), h.2.2.2.1.dr hr (by decide), h.2.2.2.2.trans hr⟩)) (⟨k5.drew, kb5.drew, o5.below (Below.refl _ _).drew, x5.below (Below.refl _ _).drew, d5.then (Below.refl _ _).drew⟩) (fun x => ?_)
        refine obs_stepR (Eq.trans (by simp only [List.getElem?_toArray, List.getElem?_cons_zero]; exact rfl) rfl) rfl (fun w' hS hV K hK => ?_) ?_
        · obtain ⟨q0, q1⟩ := hS.2.1.two
          go_simp
          exact hK.out _ _ _ rfl rfl rfl (Below.refl _ _)
        simp only [List.setIfInBounds_toArray, List.set_cons_zero, List.set_cons_succ]
        refine obs_stepR (Eq.trans (by simp only [List.getElem?_toArray, List.getElem?_cons_succ, List.getElem?_cons_zero]; exact rfl) rfl) rfl (fun w' hS hV K hK => ?_) ?_
        · obtain ⟨q0, q1⟩ := hS.2.1.two
          go_simp
          exact hK.out _ _ _ rfl rfl rfl (Below.refl _ _)
        simp only [List.setIfInBounds_toArray, List.set_cons_zero, List.set_cons_succ]
        refine obs_stepR (Eq.trans (by simp only [List.getElem?_toArray, List.getElem?_cons_succ, List.getElem?_cons_zero]; exact rfl) rfl) rfl (fun w' hS hV K hK => ?_) ?_
        · have e0 : x 0 = (.agg #[.int .i64 P, .slice A n c]) := hV 0 (by decide)
          have e1 : x 1 = (.slice A1 (pw n) c1) := hV 1 (by decide)
          obtain ⟨q0, q1⟩ := hS.2.1.two
          go_simp
          refine (l06Subspace_any P A n c sq A1 c1 xs w' HP hn2 hn1 hS.2.2.1.rd HQ.out hS.2.2.2.1.rd HXN.out).mono ?_
          rintro e v1 ⟨A9, c9, rfl, hM⟩
          rw [← HLS.out, ← HLM.out] at hM ⊢
          exact hK.out _ _ _ rfl rfl ⟨_, _, rfl, (OwnM.of hM).u.base hS.2.2.2.2.size⟩ hM.b
        simp only [List.setIfInBounds_toArray, List.set_cons_zero, List.set_cons_succ]
        refine obs_stepR (Eq.trans (by simp only [List.getElem?_toArray, List.getElem?_cons_succ, List.getElem?_cons_zero]; exact rfl) rfl) rfl (fun w' hS hV K hK => ?_) ?_
        · obtain ⟨q0, q1⟩ := hS.2.1.two
          go_simp
          exact hK.out _ _ _ rfl rfl rfl (Below.refl _ _)
        simp only [List.setIfInBounds_toArray, List.set_cons_zero, List.set_cons_succ]
        refine obs_stepR (Eq.trans (by simp only [List.getElem?_toArray, List.getElem?_cons_succ, List.getElem?_cons_zero]; exact rfl) rfl) rfl (fun w' hS hV K hK => ?_) ?_
        · obtain ⟨q0, q1⟩ := hS.2.1.two
          go_simp
          exact hK.out _ _ _ rfl rfl rfl (Below.refl _ _)
        simp only [List.setIfInBounds_toArray, List.set_cons_zero, List.set_cons_succ]
        refine obs_stepR (Eq.trans (by simp only [List.getElem?_toArray, List.getElem?_cons_succ, List.getElem?_cons_zero]; exact rfl) rfl) rfl (fun w' hS hV K hK => ?_) ?_
        · have e4 : x 4 = (.pointer (some ⟨w3.heap.size, 0, none⟩)) := hV 4 (by decide)
          obtain ⟨q0, q1⟩ := hS.2.1.two
          go_simp
          exact hK.out _ _ _ rfl rfl rfl (Below.refl _ _)
        simp only [List.setIfInBounds_toArray, List.set_cons_zero, List.set_cons_succ]
        refine obs_stepR (Eq.trans (by simp only [List.getElem?_toArray, List.getElem?_cons_succ, List.getElem?_cons_zero]; exact rfl) rfl) rfl (fun w' hS hV K hK => ?_) ?_
        · obtain ⟨q0, q1⟩ := hS.2.1.two
          go_simp
          exact hK.out _ _ _ rfl rfl rfl (Below.refl _ _)
        simp only [List.setIfInBounds_toArray, List.set_cons_zero, List.set_cons_succ]
        refine obs_stepR (Eq.trans (by simp only [List.getElem?_toArray, List.getElem?_cons_succ, List.getElem?_cons_zero]; exact rfl) rfl) rfl (fun w' hS hV K hK => ?_) ?_
        · have e6 : x 6 = (.pointer (some ⟨w3.heap.size, 1, none⟩)) := hV 6 (by decide)
          obtain ⟨q0, q1⟩ := hS.2.1.two
          go_simp
          exact hK.out _ _ _ rfl rfl rfl (Below.refl _ _)
        simp only [List.setIfInBounds_toArray, List.set_cons_zero, List.set_cons_succ]
        refine obs_stepR (Eq.trans (by simp only [List.getElem?_toArray, List.getElem?_cons_succ, List.getElem?_cons_zero]; exact rfl) rfl) rfl (fun w' hS hV K hK => ?_) ?_
        · have e6 : x 6 = (.pointer (some ⟨w3.heap.size, 1, none⟩)) := hV 6 (by decide)
          have e7 : x 7 = (.slice A n c) := hV 7 (by decide)
          obtain ⟨q0, q1⟩ := hS.2.1.two
          go_simp
          exact hK.out _ _ _ rfl rfl rfl (Below.refl _ _)
        simp only [List.setIfInBounds_toArray, List.set_cons_zero, List.set_cons_succ]
        refine obs_stepR (Eq.trans (by simp only [List.getElem?_toArray, List.getElem?_cons_succ, List.getElem?_cons_zero]; exact rfl) rfl) rfl (fun w' hS hV K hK => ?_) ?_
        · have e0 : x 0 = (.agg #[.int .i64 P, .slice A n c]) := hV 0 (by decide)
          have e1 : x 1 = (.slice A1 (pw n) c1) := hV 1 (by decide)
          obtain ⟨A2, c2, e2, h2⟩ := hV 2 (by decide)
          have e3 : x 3 = (.pointer (some ⟨g, 0, none⟩)) := hV 3 (by decide)
          have e4 : x 4 = (.pointer (some ⟨w3.heap.size, 0, none⟩)) := hV 4 (by decide)
          have e5 : x 5 = (.int .i64 (P)) := hV 5 (by decide)
          have e6 : x 6 = (.pointer (some ⟨w3.heap.size, 1, none⟩)) := hV 6 (by decide)
          have e7 : x 7 = (.slice A n c) := hV 7 (by decide)
          have e8 : x 8 = (.int .i64 (n)) := hV 8 (by decide)
          obtain ⟨q0, q1⟩ := hS.2.1.two
          go_simp
          refine (nextList_any g P n w' hS.2.2.2.2.s' (by omega) (by omega)).mono ?_
          rintro e v1 ⟨A9, c9, xs9, rfl, hl9, hx9, ho9, hd9⟩
          exact hK.out _ _ _ rfl rfl ⟨_, _, xs9, rfl, hl9, nums_of (by omega) hx9, ho9.base hS.2.2.2.2.size⟩ hd9
        simp only [List.setIfInBounds_toArray, List.set_cons_zero, List.set_cons_succ]
        refine fun w' hS hV => ?_
        have e0 : x 0 = (.agg #[.int .i64 P, .slice A n c]) := hV 0 (by decide)
        have e1 : x 1 = (.slice A1 (pw n) c1) := hV 1 (by decide)
        obtain ⟨A2, c2, e2, h2⟩ := hV 2 (by decide)
        have e3 : x 3 = (.pointer (some ⟨g, 0, none⟩)) := hV 3 (by decide)
        have e4 : x 4 = (.pointer (some ⟨w3.heap.size, 0, none⟩)) := hV 4 (by decide)
        have e5 : x 5 = (.int .i64 (P)) := hV 5 (by decide)
        have e6 : x 6 = (.pointer (some ⟨w3.heap.size, 1, none⟩)) := hV 6 (by decide)
        have e7 : x 7 = (.slice A n c) := hV 7 (by decide)
        have e8 : x 8 = (.int .i64 (n)) := hV 8 (by decide)
        obtain ⟨A9, c9, X9, e9, l9, u9, h9⟩ := hV 9 (by decide)
        simp only [e0, e1, e2, e3, e4, e5, e6, e7, e8, e9]
        clear e0 e1 e2 e3 e4 e5 e6 e7 e8 e9
        clear k5 kb5 o5 x5 d5 q0 q1
        obtain ⟨k5, kb5, o5, x5, d5⟩ := hS
        obtain ⟨w10, rfl⟩ : ∃ W, W = w' := ⟨_, rfl⟩
        refine any_one (j := 10) (by kernel_rfl) (Eq.trans (by simp only [List.getElem?_toArray, List.getElem?_cons_succ, List.getElem?_cons_zero]; exact rfl) rfl) (fun K hK => ?_)
        go_simp
        refine hK.out _ _ (any_one (j := 11) (by kernel_rfl) (Eq.trans (by simp only [List.getElem?_toArray, List.getElem?_cons_succ, List.getElem?_cons_zero]; exact rfl) rfl) (fun K hK => ?_))
        refine wp_pushU w2 w10 g 143 _ _ rfl A2 m c2 LS A9 n c9 X9 h2 d5 h9 (by omega) rfl rfl ?_
        intro AU cu w11 l5 d11 kp
        refine hK.out _ _ (any_one (j := 12) (by kernel_rfl) (Eq.trans (by simp only [List.getElem?_toArray, List.getElem?_cons_succ, List.getElem?_cons_zero]; exact rfl) rfl) (fun K hK => ?_))
        go_simp
        refine hK.out _ _ (wpAny_done (by kernel_rfl) ?_ _)
        replace k5 := kp.2 _ _ _ k5 (by decide)
        replace kb5 := kp.2 _ _ _ kb5 (by decide)
        replace o5 := kp.1 _ _ _ _ _ o5
        replace x5 := kp.1 _ _ _ _ _ x5
        replace d5 := d11
        replace l5 := l5.base (B' := w.heap.size) hw
        obtain ⟨LV, hLV⟩ : ∃ L, L = LS ++ [X9] := ⟨_, rfl⟩
        rw [← hLV] at l5
        have HTV := Lib.hid (show Tab P n LV from fun u hu => by
          rw [hLV] at hu
          rcases List.mem_append.1 hu with hu | hu
          · exact HTL.out u hu
          · rw [List.mem_singleton.1 hu]; exact ⟨l9, u9⟩)
        have HSL6 := Lib.hid (fun (w : World) (k : Nat) (hk : k ≤ m + 1) => slice_tail (A := AU) (c := cu) w hk)
        clear hLV kp d11 h2 h9 HLS HTL
        obtain ⟨q0, q1⟩ := kb5.two
        go_wp2
        refine wp_obsS 13 (RelB g w.heap.size) [[], [], [], [], [], [], [5], [4, 5, 6], [3, 4, 5, 6, 7], [2, 3, 4, 5, 6, 7, 8], [0, 2, 3, 4, 5, 6, 7, 8, 9], [1], [2, 3, 4, 5, 6, 7, 8, 9]] [[], [], [], [], [], [], [], [99], [], [], [99], [], []] (fun x => [VIs (.agg #[.int .i64 P, .slice A n c]), VIs (.slice A1 (pw n) c1), VIs (.agg #[.int .i64 P, .slice A n c]), VIs (.slice AU (m + 1) cu), VIs (.pointer (some ⟨g, 0, none⟩)), VIs (.slice AU (m + 1) cu), VIs (.int .i64 (((m + 1 : Nat) : Int))), VIz ((m + 1 : Nat) : Int), VSc AU (m + 1) cu, VLs w.heap.size (pw n) P, VBk w.heap.size 26 #[.int .i64 P, .slice A n c], VIs (.slice A1 (pw n) c1), VLs w.heap.size (pw n) P]) (fun w' => SB w.heap.size w' ∧ Blk w' w3.heap.size 26 #[.int .i64 P, .slice A n c] ∧ Own w' w.heap.size 2 A n c (ints sq) ∧ Own w' w.heap.size 2 A1 (pw n) c1 (ints xs) ∧ Src w' g 143 ∧ Below w.heap.size w w' ∧ OwnU w' w.heap.size AU (m + 1) cu LV) (by kernel_rfl) (by kernel_rfl) (fun x x' j hx => by
            rcases j with _ | _ | _ | _ | _ | _ | _ | _ | _ | _ | _ | _ | _ | j
            · rfl
            · rfl
            · rfl
            · rfl
            · rfl
            · rfl
            · rfl
            · rfl
            · rfl
            · rfl
            · rfl
            · rfl
            · rfl
            · rfl)
          (weak_ofR [0, 1, 2, 3, 4, 5, 6, 7, 8, 9, 11, 12] (by decide) (fun k hk x v w w' hp hr => by
            simp only [List.mem_cons, List.not_mem_nil, or_false] at hk
            rcases hk with rfl | rfl | rfl | rfl | rfl | rfl | rfl | rfl | rfl | rfl | rfl | rfl
            · exact hp
            · exact hp
            · exact hp
            · exact hp
            · exact hp
            · exact hp
            · exact hp
            · exact hp
            · exact hp
            · obtain ⟨A9, c9, X9, e9, l9, u9, h9⟩ := hp; exact ⟨A9, c9, X9, e9, l9, u9, h9.relB hr⟩
            · exact hp
            · obtain ⟨A9, c9, X9, e9, l9, u9, h9⟩ := hp; exact ⟨A9, c9, X9, e9, l9, u9, h9.relB hr⟩)) (fun j _ _ h hb => hb.either (fun hb => ⟨h.1.below hb, h.2.1.below hb h.2.1.lt, h.2.2.1.below hb, h.2.2.2.1.below hb, h.2.2.2.2.1.below hb, h.2.2.2.2.2.1.trans (hb.mono h.2.2.2.2.2.1.size), h.2.2.2.2.2.2.below hb⟩) (fun hr => ⟨h.1.relB hr, h.2.1.relB (Nat.ne_of_gt hres) hr, h.2.2.1.relB hr, h.2.2.2.1.relB hr, h.2.2.2.2.1.relB hr, below_relB h.2.2.2.2.2.1 hgw (Nat.le_refl _) hr, h.2.2.2.2.2.2.relB hr⟩)) (⟨⟨_, _, _, _, k5.drew⟩, kb5.drew, o5.below (Below.refl _ _).drew, x5.below (Below.refl _ _).drew, d5.s'.below (Below.refl _ _).drew, (hB2.trans (d5.b.mono hgw)).drew, l5.below (Below.refl _ _).drew⟩) (fun x => ?_)
        refine obs_stepS (Eq.trans (by simp only [List.getElem?_toArray, List.getElem?_cons_zero]; exact rfl) rfl) rfl (fun w' hS hV K hK => ?_) ?_
        · obtain ⟨q0, q1⟩ := hS.2.1.two
          go_simp
          exact hK.out _ _ _ rfl rfl rfl (Below.refl _ _)
        simp only [List.setIfInBounds_toArray, List.set_cons_zero, List.set_cons_succ]
        refine obs_stepS (Eq.trans (by simp only [List.getElem?_toArray, List.getElem?_cons_succ, List.getElem?_cons_zero]; exact rfl) rfl) rfl (fun w' hS hV K hK => ?_) ?_
        · obtain ⟨q0, q1⟩ := hS.2.1.two
          go_simp
          exact hK.out _ _ _ rfl rfl rfl (Below.refl _ _)
        simp only [List.setIfInBounds_toArray, List.set_cons_zero, List.set_cons_succ]
        refine obs_stepS (Eq.trans (by simp only [List.getElem?_toArray, List.getElem?_cons_succ, List.getElem?_cons_zero]; exact rfl) rfl) rfl (fun w' hS hV K hK => ?_) ?_
        · obtain ⟨q0, q1⟩ := hS.2.1.two
          go_simp
          exact hK.out _ _ _ rfl rfl rfl (Below.refl _ _)
        simp only [List.setIfInBounds_toArray, List.set_cons_zero, List.set_cons_succ]
        refine obs_stepS (Eq.trans (by simp only [List.getElem?_toArray, List.getElem?_cons_succ, List.getElem?_cons_zero]; exact rfl) rfl) rfl (fun w' hS hV K hK => ?_) ?_
        · obtain ⟨q0, q1⟩ := hS.2.1.two
          go_simp
          exact hK.out _ _ _ rfl rfl rfl (Below.refl _ _)
        simp only [List.setIfInBounds_toArray, List.set_cons_zero, List.set_cons_succ]
        refine obs_stepS (Eq.trans (by simp only [List.getElem?_toArray, List.getElem?_cons_succ, List.getElem?_cons_zero]; exact rfl) rfl) rfl (fun w' hS hV K hK => ?_) ?_
        · obtain ⟨q0, q1⟩ := hS.2.1.two
          go_simp
          exact hK.out _ _ _ rfl rfl rfl (Below.refl _ _)
        simp only [List.setIfInBounds_toArray, List.set_cons_zero, List.set_cons_succ]
        refine obs_stepS (Eq.trans (by simp only [List.getElem?_toArray, List.getElem?_cons_succ, List.getElem?_cons_zero]; exact rfl) rfl) rfl (fun w' hS hV K hK => ?_) ?_
        · obtain ⟨q0, q1⟩ := hS.2.1.two
          go_simp
          exact hK.out _ _ _ rfl rfl rfl (Below.refl _ _)
        simp only [List.setIfInBounds_toArray, List.set_cons_zero, List.set_cons_succ]
        refine obs_stepS (Eq.trans (by simp only [List.getElem?_toArray, List.getElem?_cons_succ, List.getElem?_cons_zero]; exact rfl) rfl) rfl (fun w' hS hV K hK => ?_) ?_
        · have e5 : x 5 = (.slice AU (m + 1) cu) := hV 5 (by decide)
          obtain ⟨q0, q1⟩ := hS.2.1.two
          go_simp
          exact hK.out _ _ _ rfl rfl rfl (Below.refl _ _)
        simp only [List.setIfInBounds_toArray, List.set_cons_zero, List.set_cons_succ]
        refine obs_stepS (Eq.trans (by simp only [List.getElem?_toArray, List.getElem?_cons_succ, List.getElem?_cons_zero]; exact rfl) rfl) rfl (fun w' hS hV K hK => ?_) ?_
        · have e4 : x 4 = (.pointer (some ⟨g, 0, none⟩)) := hV 4 (by decide)
          have e5 : x 5 = (.slice AU (m + 1) cu) := hV 5 (by decide)
          have e6 : x 6 = (.int .i64 (((m + 1 : Nat) : Int))) := hV 6 (by decide)
          obtain ⟨q0, q1⟩ := hS.2.1.two
          go_simp
          refine (next_any g ((m + 1 : Nat) : Int) w' hS.2.2.2.2.1 (by omega)).mono ?_
          rintro e v1 ⟨r9, rfl, t1, t2, hd9⟩
          exact hK.out _ _ _ rfl rfl ⟨r9, rfl, t1, t2 (by omega)⟩ (StepR.rel rfl (.inl hd9))
        simp only [List.setIfInBounds_toArray, List.set_cons_zero, List.set_cons_succ]
        refine obs_stepS (Eq.trans (by simp only [List.getElem?_toArray, List.getElem?_cons_succ, List.getElem?_cons_zero]; exact rfl) rfl) rfl (fun w' hS hV K hK => ?_) ?_
        · have e3 : x 3 = (.slice AU (m + 1) cu) := hV 3 (by decide)
          have e4 : x 4 = (.pointer (some ⟨g, 0, none⟩)) := hV 4 (by decide)
          have e5 : x 5 = (.slice AU (m + 1) cu) := hV 5 (by decide)
          have e6 : x 6 = (.int .i64 (((m + 1 : Nat) : Int))) := hV 6 (by decide)
          obtain ⟨k7, e7, b7, d7⟩ := hV 7 (by decide)
          obtain ⟨q0, q1⟩ := hS.2.1.two
          obtain ⟨kn, hkn⟩ : ∃ kn : Nat, k7 = kn := ⟨k7.toNat, by omega⟩
          have hkm : kn ≤ m + 1 := by omega
          have hsl := HSL6.out w' kn hkm
          rw [hkn] at e7
          go_simp
          exact hK.out _ _ _ rfl rfl ⟨kn, hkm, rfl⟩ (Below.refl _ _)
        simp only [List.setIfInBounds_toArray, List.set_cons_zero, List.set_cons_succ]
        refine obs_stepS (Eq.trans (by simp only [List.getElem?_toArray, List.getElem?_cons_succ, List.getElem?_cons_zero]; exact rfl) rfl) rfl (fun w' hS hV K hK => ?_) ?_
        · have e2 : x 2 = (.agg #[.int .i64 P, .slice A n c]) := hV 2 (by decide)
          have e3 : x 3 = (.slice AU (m + 1) cu) := hV 3 (by decide)
          have e4 : x 4 = (.pointer (some ⟨g, 0, none⟩)) := hV 4 (by decide)
          have e5 : x 5 = (.slice AU (m + 1) cu) := hV 5 (by decide)
          have e6 : x 6 = (.int .i64 (((m + 1 : Nat) : Int))) := hV 6 (by decide)
          obtain ⟨k7, e7, b7, d7⟩ := hV 7 (by decide)
          obtain ⟨s8, h8, e8⟩ := hV 8 (by decide)
          obtain ⟨q0, q1⟩ := hS.2.1.two
          obtain ⟨A8, esl, hrd⟩ := hS.2.2.2.2.2.2.drop h8
          rw [esl] at e8
          go_simp
          refine (l06Blade_any P A n c sq A8 (m + 1 - s8) (cu - s8) (LV.drop s8) w' HP hn2 hn1 (by omega) hS.2.2.1.rd HQ.out hrd (fun v hv => HTV.out v (List.mem_of_mem_drop hv))).mono ?_
          rintro e v1 ⟨A9, c9, rfl, hM⟩
          exact hK.out _ _ _ rfl rfl ⟨_, _, _, rfl, blaL_len _ _ _ _, blaL_nums (by omega) _ _ _, hM.2.base hS.2.2.2.2.2.1.size⟩ hM.b
        simp only [List.setIfInBounds_toArray, List.set_cons_zero, List.set_cons_succ]
        refine obs_stepN (Eq.trans (by simp only [List.getElem?_toArray, List.getElem?_cons_succ, List.getElem?_cons_zero]; exact rfl) rfl) rfl (fun w' hS hV K hK => ?_) ?_
        · have e0 : x 0 = (.agg #[.int .i64 P, .slice A n c]) := hV 0 (by decide)
          have e2 : x 2 = (.agg #[.int .i64 P, .slice A n c]) := hV 2 (by decide)
          have e3 : x 3 = (.slice AU (m + 1) cu) := hV 3 (by decide)
          have e4 : x 4 = (.pointer (some ⟨g, 0, none⟩)) := hV 4 (by decide)
          have e5 : x 5 = (.slice AU (m + 1) cu) := hV 5 (by decide)
          have e6 : x 6 = (.int .i64 (((m + 1 : Nat) : Int))) := hV 6 (by decide)
          obtain ⟨k7, e7, b7, d7⟩ := hV 7 (by decide)
          obtain ⟨s8, h8, e8⟩ := hV 8 (by decide)
          obtain ⟨A9, c9, X9, e9, l9, u9, h9⟩ := hV 9 (by decide)
          obtain ⟨q0, q1⟩ := hS.2.1.two
          obtain ⟨p9, A9, n9, c9, k9⟩ := hS.1
          obtain ⟨t0, t1⟩ := k9.two
          have f0 := k9.frozen 0
          have f1 := k9.frozen 1
          go_simp
          exact hK.out _ _ rfl k9.stored (StepR.rel rfl (.inr ⟨_, _, _, _, _, _, _, _, k9, rfl⟩))
        refine obs_stepS (Eq.trans (by simp only [List.getElem?_toArray, List.getElem?_cons_succ, List.getElem?_cons_zero]; exact rfl) rfl) rfl (fun w' hS hV K hK => ?_) ?_
        · have e1 : x 1 = (.slice A1 (pw n) c1) := hV 1 (by decide)
          obtain ⟨q0, q1⟩ := hS.2.1.two
          go_simp
          exact hK.out _ _ _ rfl rfl rfl (Below.refl _ _)
        simp only [List.setIfInBounds_toArray, List.set_cons_zero, List.set_cons_succ]
        refine obs_stepS (Eq.trans (by simp only [List.getElem?_toArray, List.getElem?_cons_succ, List.getElem?_cons_zero]; exact rfl) rfl) rfl (fun w' hS hV K hK => ?_) ?_
        · have e2 : x 2 = (.agg #[.int .i64 P, .slice A n c]) := hV 2 (by decide)
          have e3 : x 3 = (.slice AU (m + 1) cu) := hV 3 (by decide)
          have e4 : x 4 = (.pointer (some ⟨g, 0, none⟩)) := hV 4 (by decide)
          have e5 : x 5 = (.slice AU (m + 1) cu) := hV 5 (by decide)
          have e6 : x 6 = (.int .i64 (((m + 1 : Nat) : Int))) := hV 6 (by decide)
          obtain ⟨k7, e7, b7, d7⟩ := hV 7 (by decide)
          obtain ⟨s8, h8, e8⟩ := hV 8 (by decide)
          obtain ⟨A9, c9, X9, e9, l9, u9, h9⟩ := hV 9 (by decide)
          obtain ⟨q0, q1⟩ := hS.2.1.two
          go_simp
          exact hK.out _ _ _ rfl rfl ⟨_, _, _, rfl, l9, u9, h9⟩ (Below.refl _ _)
        simp only [List.setIfInBounds_toArray, List.set_cons_zero, List.set_cons_succ]
        refine fun w' hS hV => ?_
        have e0 : x 0 = (.agg #[.int .i64 P, .slice A n c]) := hV 0 (by decide)
        have e1 : x 1 = (.slice A1 (pw n) c1) := hV 1 (by decide)
        have e2 : x 2 = (.agg #[.int .i64 P, .slice A n c]) := hV 2 (by decide)
        have e3 : x 3 = (.slice AU (m + 1) cu) := hV 3 (by decide)
        have e4 : x 4 = (.pointer (some ⟨g, 0, none⟩)) := hV 4 (by decide)
        have e5 : x 5 = (.slice AU (m + 1) cu) := hV 5 (by decide)
        have e6 : x 6 = (.int .i64 (((m + 1 : Nat) : Int))) := hV 6 (by decide)
        obtain ⟨k7, e7, b7, d7⟩ := hV 7 (by decide)
        obtain ⟨s8, h8, e8⟩ := hV 8 (by decide)
        obtain ⟨A9, c9, X9, e9, l9, u9, h9⟩ := hV 9 (by decide)
        have b10 := hV 10 (by decide)
        have e11 : x 11 = (.slice A1 (pw n) c1) := hV 11 (by decide)
        obtain ⟨A12, c12, X12, e12, l12, u12, h12⟩ := hV 12 (by decide)
        simp only [e0, e1, e2, e3, e4, e5, e6, e7, e8, e9, e11, e12]
        clear e0 e1 e2 e3 e4 e5 e6 e7 e8 e9 e11 e12
        refine wpAny_done (by kernel_rfl) ?_ _
        clear k5 kb5 o5 x5 d5 l5 q0 q1
        obtain ⟨_, kb6, o6, u6, _, hB6, _⟩ := hS
        obtain ⟨w6, rfl⟩ : ∃ W, W = w' := ⟨_, rfl⟩
        skip
        replace b10 : Blk w6 w.heap.size 26 #[.int .i64 P, .slice A n c] := b10
        obtain ⟨p0, p1⟩ := b10.two
        go_wp2
        exact bodyPost_ret (v := .tuple #[.agg #[.int .i64 P, .slice A n c], .slice A1 (pw n) c1, .slice A12 (pw n) c12]) (by simp [results, Tryz.results225, go_sem, p0, p1]) rfl ⟨P, A, n, c, sq, A1, (pw n), c1, xs, A12, (pw n), c12, X12, rfl, hP, hn, by omega, by omega, o6, u6, h12, hB6⟩
      · have e8 : (r8 == 0) = false := by simp [h8]
        obtain ⟨q0, q1⟩ := kb5.two
        go_wp2
        refine wp_obsS 8 (RelB g w.heap.size) [[], [], [], [], [2, 3], [0, 2, 3, 4], [1], [2, 3, 4]] [[], [], [], [], [99], [99], [], []] (fun x => [VIs (.agg #[.int .i64 P, .slice A n c]), VIs (.slice A1 (pw n) c1), VIs (.pointer (some ⟨g, 0, none⟩)), VIs (.agg #[.int .i64 P, .slice A n c]), VLx w.heap.size, VBk w.heap.size 26 #[.int .i64 P, .slice A n c], VIs (.slice A1 (pw n) c1), VLx w.heap.size]) (fun w' => SB w.heap.size w' ∧ Blk w' w3.heap.size 26 #[.int .i64 P, .slice A n c] ∧ Own w' w.heap.size 2 A n c (ints sq) ∧ Own w' w.heap.size 2 A1 (pw n) c1 (ints xs) ∧ Src w' g 143 ∧ Below w.heap.size w w') (by kernel_rfl) (by kernel_rfl) (fun x x' j hx => by
            rcases j with _ | _ | _ | _ | _ | _ | _ | _ | j
            · rfl
            · rfl
            · rfl
            · rfl
            · rfl
            · rfl
            · rfl
            · rfl
            · rfl)
          (weak_ofR [0, 1, 2, 3, 4, 6, 7] (by decide) (fun k hk x v w w' hp hr => by
            simp only [List.mem_cons, List.not_mem_nil, or_false] at hk
            rcases hk with rfl | rfl | rfl | rfl | rfl | rfl | rfl
            · exact hp
            · exact hp
            · exact hp
            · exact hp
            · obtain ⟨A9, m9, c9, X9, e9, l9, h9⟩ := hp; exact ⟨A9, m9, c9, X9, e9, l9, h9.relB hr⟩
            · exact hp
            · obtain ⟨A9, m9, c9, X9, e9, l9, h9⟩ := hp; exact ⟨A9, m9, c9, X9, e9, l9, h9.relB hr⟩)) (fun j _ _ h hb => hb.either (fun hb => ⟨h.1.below hb, h.2.1.below hb h.2.1.lt, h.2.2.1.below hb, h.2.2.2.1.below hb, h.2.2.2.2.1.below hb, h.2.2.2.2.2.trans (hb.mono h.2.2.2.2.2.size)⟩) (fun hr => ⟨h.1.relB hr, h.2.1.relB (Nat.ne_of_gt hres) hr, h.2.2.1.relB hr, h.2.2.2.1.relB hr, h.2.2.2.2.1.relB hr, below_relB h.2.2.2.2.2 hgw (Nat.le_refl _) hr⟩)) (⟨⟨_, _, _, _, k5.drew⟩, kb5.drew, o5.below (Below.refl _ _).drew, x5.below (Below.refl _ _).drew, d5.s'.below (Below.refl _ _).drew, (hB2.trans (d5.b.mono hgw)).drew⟩) (fun x => ?_)
        refine obs_stepS (Eq.trans (by simp only [List.getElem?_toArray, List.getElem?_cons_zero]; exact rfl) rfl) rfl (fun w' hS hV K hK => ?_) ?_
        · obtain ⟨q0, q1⟩ := hS.2.1.two
          go_simp
          exact hK.out _ _ _ rfl rfl rfl (Below.refl _ _)
        simp only [List.setIfInBounds_toArray, List.set_cons_zero, List.set_cons_succ]
        refine obs_stepS (Eq.trans (by simp only [List.getElem?_toArray, List.getElem?_cons_succ, List.getElem?_cons_zero]; exact rfl) rfl) rfl (fun w' hS hV K hK => ?_) ?_
        · obtain ⟨q0, q1⟩ := hS.2.1.two
          go_simp
          exact hK.out _ _ _ rfl rfl rfl (Below.refl _ _)
        simp only [List.setIfInBounds_toArray, List.set_cons_zero, List.set_cons_succ]
        refine obs_stepS (Eq.trans (by simp only [List.getElem?_toArray, List.getElem?_cons_succ, List.getElem?_cons_zero]; exact rfl) rfl) rfl (fun w' hS hV K hK => ?_) ?_
        · obtain ⟨q0, q1⟩ := hS.2.1.two
          go_simp
          exact hK.out _ _ _ rfl rfl rfl (Below.refl _ _)
        simp only [List.setIfInBounds_toArray, List.set_cons_zero, List.set_cons_succ]
        refine obs_stepS (Eq.trans (by simp only [List.getElem?_toArray, List.getElem?_cons_succ, List.getElem?_cons_zero]; exact rfl) rfl) rfl (fun w' hS hV K hK => ?_) ?_
        · obtain ⟨q0, q1⟩ := hS.2.1.two
          go_simp
          exact hK.out _ _ _ rfl rfl rfl (Below.refl _ _)
        simp only [List.setIfInBounds_toArray, List.set_cons_zero, List.set_cons_succ]
        refine obs_stepS (Eq.trans (by simp only [List.getElem?_toArray, List.getElem?_cons_succ, List.getElem?_cons_zero]; exact rfl) rfl) rfl (fun w' hS hV K hK => ?_) ?_
        · have e2 : x 2 = (.pointer (some ⟨g, 0, none⟩)) := hV 2 (by decide)
          have e3 : x 3 = (.agg #[.int .i64 P, .slice A n c]) := hV 3 (by decide)
          obtain ⟨q0, q1⟩ := hS.2.1.two
          go_simp
          refine (l06Draw_any g P A n c sq w' hS.2.2.2.2.1 (by omega) (hS.2.2.1.base (Nat.zero_le _))).mono ?_
          rintro e v1 ⟨A9, m9, c9, rfl, hm9, ⟨xs9, ho9⟩, hd9⟩
          exact hK.out _ _ _ rfl rfl ⟨_, _, _, xs9, rfl, hm9, ho9.base hS.2.2.2.2.2.size⟩ (StepR.rel rfl (.inl hd9))
        simp only [List.setIfInBounds_toArray, List.set_cons_zero, List.set_cons_succ]
        refine obs_stepN (Eq.trans (by simp only [List.getElem?_toArray, List.getElem?_cons_succ, List.getElem?_cons_zero]; exact rfl) rfl) rfl (fun w' hS hV K hK => ?_) ?_
        · have e0 : x 0 = (.agg #[.int .i64 P, .slice A n c]) := hV 0 (by decide)
          have e2 : x 2 = (.pointer (some ⟨g, 0, none⟩)) := hV 2 (by decide)
          have e3 : x 3 = (.agg #[.int .i64 P, .slice A n c]) := hV 3 (by decide)
          obtain ⟨A4, m4, c4, X4, e4, l4, h4⟩ := hV 4 (by decide)
          obtain ⟨q0, q1⟩ := hS.2.1.two
          obtain ⟨p9, A9, n9, c9, k9⟩ := hS.1
          obtain ⟨t0, t1⟩ := k9.two
          have f0 := k9.frozen 0
          have f1 := k9.frozen 1
          go_simp
          exact hK.out _ _ rfl k9.stored (StepR.rel rfl (.inr ⟨_, _, _, _, _, _, _, _, k9, rfl⟩))
        refine obs_stepS (Eq.trans (by simp only [List.getElem?_toArray, List.getElem?_cons_succ, List.getElem?_cons_zero]; exact rfl) rfl) rfl (fun w' hS hV K hK => ?_) ?_
        · have e1 : x 1 = (.slice A1 (pw n) c1) := hV 1 (by decide)
          obtain ⟨q0, q1⟩ := hS.2.1.two
          go_simp
          exact hK.out _ _ _ rfl rfl rfl (Below.refl _ _)
        simp only [List.setIfInBounds_toArray, List.set_cons_zero, List.set_cons_succ]
        refine obs_stepS (Eq.trans (by simp only [List.getElem?_toArray, List.getElem?_cons_succ, List.getElem?_cons_zero]; exact rfl) rfl) rfl (fun w' hS hV K hK => ?_) ?_
        · have e2 : x 2 = (.pointer (some ⟨g, 0, none⟩)) := hV 2 (by decide)
          have e3 : x 3 = (.agg #[.int .i64 P, .slice A n c]) := hV 3 (by decide)
          obtain ⟨A4, m4, c4, X4, e4, l4, h4⟩ := hV 4 (by decide)
          obtain ⟨q0, q1⟩ := hS.2.1.two
          go_simp
          exact hK.out _ _ _ rfl rfl ⟨_, _, _, _, rfl, l4, h4⟩ (Below.refl _ _)
        simp only [List.setIfInBounds_toArray, List.set_cons_zero, List.set_cons_succ]
        refine fun w' hS hV => ?_
        have e0 : x 0 = (.agg #[.int .i64 P, .slice A n c]) := hV 0 (by decide)
        have e1 : x 1 = (.slice A1 (pw n) c1) := hV 1 (by decide)
        have e2 : x 2 = (.pointer (some ⟨g, 0, none⟩)) := hV 2 (by decide)
        have e3 : x 3 = (.agg #[.int .i64 P, .slice A n c]) := hV 3 (by decide)
        obtain ⟨A4, m4, c4, X4, e4, l4, h4⟩ := hV 4 (by decide)
        have b5 := hV 5 (by decide)
        have e6 : x 6 = (.slice A1 (pw n) c1) := hV 6 (by decide)
        obtain ⟨A7, m7, c7, X7, e7, l7, h7⟩ := hV 7 (by decide)
        simp only [e0, e1, e2, e3, e4, e6, e7]
        clear e0 e1 e2 e3 e4 e6 e7
        refine wpAny_done (by kernel_rfl) ?_ _
        clear k5 kb5 o5 x5 d5 q0 q1
        obtain ⟨_, kb6, o6, u6, _, hB6⟩ := hS
        obtain ⟨w6, rfl⟩ : ∃ W, W = w' := ⟨_, rfl⟩
        skip
        replace b5 : Blk w6 w.heap.size 26 #[.int .i64 P, .slice A n c] := b5
        obtain ⟨p0, p1⟩ := b5.two
        go_wp2
        exact bodyPost_ret (v := .tuple #[.agg #[.int .i64 P, .slice A n c], .slice A1 (pw n) c1, .slice A7 m7 c7]) (by simp [results, Tryz.results225, go_sem, p0, p1]) rfl ⟨P, A, n, c, sq, A1, (pw n), c1, xs, A7, m7, c7, X7, rfl, hP, hn, by omega, by omega, o6, u6, h7, hB6⟩
set_option maxHeartbeats 3200000 in
set_option maxRecDepth 8000 in
theorem DrawJoinOf_any (B : Option Addr) (nb cb : Nat) (bs : List Int) (w : World) (hnb : nb ≤ 4096) (r : Rd w B nb (bs.map (Value.int .u8))) (hbs : ∀ b ∈ bs, 0 ≤ b ∧ b < 256) (hbg : ∀ a, B = some a → a.block < w.heap.size) :
    Calls Tryz.prog 76 #[.slice B nb cb] w (Drew2 w) := by
  have hB0 : Below w.heap.size w (w.alloc (.cells #[.int .i64 0, .slice none 0 0] 26)) := (Below.refl _ _).alloc (Nat.le_refl _) _
  have k0 : Blk (w.alloc (.cells #[.int .i64 0, .slice none 0 0] 26)) w.heap.size 26 #[.int .i64 0, .slice none 0 0] := Blk.new _ _ _
  have hon := l06Two_any B nb cb bs (w.alloc (.cells #[.int .i64 0, .slice none 0 0] 26)) hnb (r.below hB0) hbs (fun a e => by have := hbg a e; simp; omega)
  go_enter Tryz.func76, Tryz.ntmps76
  go_wp2_with fail
  refine hon.mono ?_
  rintro e w3 ⟨P, A, n, c, sq, A1, m1, c1, xs, A2, m2, c2, ys, rfl, hP, hn, hm1, hm2, hO, hX, hY, hb3⟩
  have hsz : w.heap.size ≤ (w.alloc (.cells #[.int .i64 0, .slice none 0 0] 26)).heap.size := hB0.size
  have k3 := k0.below hb3 k0.lt
  have hB3 := hB0.trans (hb3.mono hsz)
  have kb4 : Blk (w3.alloc (.cells #[.int .i64 P, .slice A n c] 26)) w3.heap.size 26 #[.int .i64 P, .slice A n c] := Blk.new _ _ _
  have hres : w.heap.size < w3.heap.size := Nat.lt_of_lt_of_le k0.lt hb3.size
  obtain ⟨q0, q1⟩ := kb4.two
  obtain ⟨p0, p1⟩ := k3.two
  have f0 := k3.frozen 0
  have f1 := k3.frozen 1
  have hf : ∀ {m d : Nat} {A2 : Option Addr} {xs : List Int}, Own w3 w.heap.size 2 A2 m d (ints xs) → Own (((w3.setCell ⟨w.heap.size, 0, none⟩ (.int .i64 P)).setCell ⟨w.heap.size, 1, none⟩ (.slice A n c)).alloc (.cells #[.int .i64 P, .slice A n c] 26)) w.heap.size 2 A2 m d (ints xs) := by
    intro m c' A' xs ho
    exact ((ho.far k3 (by decide) 0 _).far (k3.set_ 0 (.int .i64 P)) (by decide) 1 _).below ((Below.refl _ _).alloc (Nat.le_refl _) _)
  have hB5 := (hB3.setCell (p := ⟨w.heap.size, 0, none⟩) (Nat.le_refl _) (.int .i64 P)).setCell (p := ⟨w.heap.size, 1, none⟩) (Nat.le_refl _) (.slice A n c)
  obtain ⟨z0, z1⟩ := ((k3.stored (p' := P) (A' := A) (n' := n) (c' := c)).alloc (.cells #[.int .i64 P, .slice A n c] 26)).two
  clear hon k0 hb3 hB0
  go_wp2
  exact bodyPost_ret (v := .tuple #[.agg #[.int .i64 P, .slice A n c], .slice A1 m1 c1, .slice A2 m2 c2]) (by simp [results, Tryz.results76, go_sem, z0, z1]) rfl ⟨P, A, n, c, sq, A1, m1, c1, xs, A2, m2, c2, ys, rfl, hP, hn, hm1, hm2, hf (hO.base hsz), hf (hX.base hsz), hf (hY.base hsz), hB5.alloc (o := .cells #[.int .i64 P, .slice A n c] 26) hB5.size⟩
end Go.Proofs.YtggigolkncckoaaGreat
namespace Go.Proofs.YtggigolkncckoaaGreat
open Go.RowKit
theorem big_any (A : Option Addr) (n c : Nat) (w : World) :
    Calls Tryz.prog 15 #[.slice A n c] w fun e w' => e = .returned (.bool (decide (4096 < n))) ∧ w = w' := by
  go_enter Tryz.func15, Tryz.ntmps15
  by_cases h : 4096 < n
  · have d1 : decide ((4096 : Int) < (n : Int)) = true := by rw [decide_eq_true_eq]; omega
    go_wp2
    go_ret
    exact ⟨ret_bool (by rw [eq_comm, decide_eq_true_eq]; exact h), rfl⟩
  · have d1 : decide ((4096 : Int) < (n : Int)) = false := by rw [decide_eq_false_iff_not]; omega
    go_wp2
    go_ret
    exact ⟨ret_bool (by rw [eq_comm, decide_eq_false_iff_not]; exact h), rfl⟩
end Go.Proofs.YtggigolkncckoaaGreat
namespace Go.Proofs.YtggigolkncckoaaGreat
open Go.RowKit
set_option maxHeartbeats 25600000 in
set_option maxRecDepth 40000 in
theorem FnJoins_any (B : Option Addr) (nb cb : Nat) (bs : List Int) (w : World) (r : Rd w B nb (bs.map (Value.int .u8))) (hbs : ∀ b ∈ bs, 0 ≤ b ∧ b < 256) (hbg : ∀ a, B = some a → a.block < w.heap.size) :
    Calls Tryz.prog 9 #[.slice B nb cb] w fun e w' => e = .returned (.bool true) ∧ Below w.heap.size w w' := by
  have hbig := big_any B nb cb w
  by_cases hbb : 4096 < nb
  · rw [decide_eq_true hbb] at hbig
    go_enter Tryz.func9, Tryz.ntmps9
    go_wp2_with fail
    refine hbig.mono ?_
    rintro e w1 ⟨rfl, rfl⟩
    go_wp2
    go_ret
    exact ⟨rfl, Below.refl _ _⟩
  · rw [decide_eq_false hbb] at hbig
    have hdr := DrawJoinOf_any B nb cb bs w (by omega) r hbs hbg
    go_enter Tryz.func9, Tryz.ntmps9
    go_wp2_with fail
    refine hbig.mono ?_
    rintro e w1 ⟨rfl, rfl⟩
    clear hbig
    go_wp2_with fail
    refine hdr.mono ?_
    rintro e w2 ⟨P, A, n, c, sq, A1, m1, c1, xs, A2, m2, c2, ys, rfl, hP, hn, h1, h2, ho, hx, hy, hb2⟩
    have hcx : m1 ≤ c1 := hx.cap
    have hcy : m2 ≤ c2 := hy.cap
    have hA : Below w2.heap.size w2 (w2.alloc (.cells #[.int .i64 P, .slice A n c] 26)) := (Below.refl _ _).alloc (Nat.le_refl _) _
    have k3 : Blk (w2.alloc (.cells #[.int .i64 P, .slice A n c] 26)) w2.heap.size 26 #[.int .i64 P, .slice A n c] := Blk.new _ _ _
    have hB3 := hb2.alloc (o := .cells #[.int .i64 P, .slice A n c] 26) hb2.size
    have o3 := (ho.below hA).rd
    have x3 := (hx.below hA).rd
    have y3 := (hy.below hA).rd
    obtain ⟨w3, hw3⟩ : ∃ W, W = w2.alloc (.cells #[.int .i64 P, .slice A n c] 26) := ⟨_, rfl⟩
    have hb1 := JoinOf_any P A n c sq A1 m1 c1 xs A2 m2 c2 ys w3 (by omega) (by omega) (by omega) (hw3 ▸ o3) (hw3 ▸ x3) hcx (hw3 ▸ y3) hcy
    obtain ⟨q0, q1⟩ := k3.two
    clear hdr ho hx hy hb2 r hA
    go_wp2_with fail
    rw [← hw3] at k3 hB3 o3 x3 y3 ⊢
    clear hw3
    refine hb1.mono ?_
    rintro e w4 ⟨Az, kz, cz, rfl, hM4⟩
    have hW := hM4.b
    have r_x := x3.below hW
    have r_y := y3.below hW
    have r_z := hM4.rd
    have i_z := hM4.2.cap
    clear q0 q1 hb1 x3 y3 hM4
    have kk := k3.below hW k3.lt
    obtain ⟨q0, q1⟩ := kk.two
    clear kk
    have hcall := specJoinOf_any P A n c sq A1 m1 c1 xs A2 m2 c2 ys w4 (by omega) (by omega) (by omega) (o3.below hW) r_x hcx r_y hcy
    go_wp2_with fail
    refine hcall.mono ?_
    rintro e w5 ⟨A5, m5, c5, rfl, hM⟩
    replace r_x := r_x.below hM.b
    replace r_y := r_y.below hM.b
    replace r_z := r_z.below hM.b
    have r_t := hM.rd
    replace hW := hW.trans (hM.b.mono hW.size)
    clear hM
    clear hcall q0 q1
    have kk := k3.below hW k3.lt
    obtain ⟨q0, q1⟩ := kk.two
    clear kk
    have hcall := CommonBlade_any P A n c sq A1 m1 c1 xs A2 m2 c2 ys w5 (by omega) (by omega) (by omega) (o3.below hW) r_x hcx r_y hcy
    go_wp2_with fail
    refine hcall.mono ?_
    rintro e w6 ⟨Aw, kw, cw, rfl, hM⟩
    replace r_x := r_x.below hM.b
    replace r_y := r_y.below hM.b
    replace r_z := r_z.below hM.b
    replace r_t := r_t.below hM.b
    have r_w := hM.rd
    have i_w := hM.2.cap
    replace hW := hW.trans (hM.b.mono hW.size)
    clear hM
    clear hcall q0 q1
    have kk := k3.below hW k3.lt
    obtain ⟨q0, q1⟩ := kk.two
    clear kk
    have hcall := specCommonBlade_any P A n c sq A1 m1 c1 xs A2 m2 c2 ys w6 (by omega) (by omega) (by omega) (o3.below hW) r_x hcx r_y hcy
    go_wp2_with fail
    refine hcall.mono ?_
    rintro e w7 ⟨A7, m7, c7, rfl, hM⟩
    replace r_x := r_x.below hM.b
    replace r_y := r_y.below hM.b
    replace r_z := r_z.below hM.b
    replace r_t := r_t.below hM.b
    replace r_w := r_w.below hM.b
    have r_u := hM.rd
    replace hW := hW.trans (hM.b.mono hW.size)
    clear hM
    clear hcall q0 q1
    have l4 := r_z.lenI
    have l5 := r_t.lenI
    have l6 := r_w.lenI
    have l7 := r_u.lenI
    have hlen := joiR_len P sq xs ys
    have hlen2 := comR_len P sq xs ys
    have e0 : ((joiR P sq xs ys).2 != (joiR P sq xs ys).2) = false := by simp
    have e00 : ((comR P sq xs ys).2 != (comR P sq xs ys).2) = false := by simp
    have kk := k3.below hW k3.lt
    obtain ⟨q0, q1⟩ := kk.two
    clear kk
    have hcall := likeInts_any Az A5 kz m5 cz c5 _ _ w7 (by omega) (by omega) r_z r_t
    rw [decide_eq_true rfl] at hcall
    go_wp2_with fail
    refine hcall.mono ?_
    rintro e w8 ⟨rfl, j1, hw9⟩
    have hb7 := below_drewN (Below.refl w7.heap.size w7) j1
    rw [← hw9] at hb7
    replace r_x := r_x.below hb7
    replace r_y := r_y.below hb7
    replace r_z := r_z.below hb7
    replace r_t := r_t.below hb7
    replace r_w := r_w.below hb7
    replace r_u := r_u.below hb7
    replace hW := hW.trans (hb7.mono hW.size)
    clear hcall q0 q1 hb7 hw9
    clear r_t
    have kk := k3.below hW k3.lt
    obtain ⟨q0, q1⟩ := kk.two
    clear kk
    have hcall := likeInts_any Aw A7 kw m7 cw c7 _ _ w8 (by omega) (by omega) r_w r_u
    rw [decide_eq_true rfl] at hcall
    go_wp2_with fail
    refine hcall.mono ?_
    rintro e w9 ⟨rfl, j2, hw9⟩
    have hb7 := below_drewN (Below.refl w8.heap.size w8) j2
    rw [← hw9] at hb7
    replace r_x := r_x.below hb7
    replace r_y := r_y.below hb7
    replace r_z := r_z.below hb7
    replace r_w := r_w.below hb7
    replace r_u := r_u.below hb7
    replace hW := hW.trans (hb7.mono hW.size)
    clear hcall q0 q1 hb7 hw9
    clear r_u
    clear l5 l7 hlen hlen2 e0 e00
    have hB8 := hB3.trans (hW.mono hB3.size)
    by_cases hc : codeL P sq [xs, ys] = 0
    · obtain ⟨Z, W, O, LA, LB, LC, LE, HPr, hp13, hn1, hn6, hsp, hxl, hyl, hjo, hco, hsa, hsb, hsc, hse, hzl, hwl, hol, hdim, hla, hlb, hlc, hle, hta, hte, hce, hor, hao, hrg⟩ := joins_in hc
      rw [hjo] at r_z l4
      rw [hco] at r_w l6
      replace r_z : Rd w9 Az kz (ints Z) := r_z
      replace r_w : Rd w9 Aw kw (ints W) := r_w
      replace l4 : Z.length = kz := l4
      replace l6 : W.length = kw := l6
      have e1 : ((0 : Int) != 0) = false := by simp
      have hsl := o3.lenI
      rw [hsl] at hn1 hn6 hxl hyl hzl hwl hol hla hlb hlc hle hta hte
      have hrg2 : regB sq = true → ∃ K : List Int, orbR P sq O = (K, 0) ∧ subR P sq K = (LA, 0) ∧ K.length = pw n := fun h => by
        obtain ⟨K, h1, h2, h3⟩ := hrg h
        rw [hsl] at h3
        exact ⟨K, h1, h2, h3⟩
      obtain rfl : m1 = pw n := by rw [← r_x.lenI, hxl]
      obtain rfl : pw n = m2 := by rw [← r_y.lenI, hyl]
      obtain rfl : pw n = kz := by rw [← l4, hzl]
      obtain rfl : pw n = kw := by rw [← l6, hwl]
      have hpw : pw n ≤ 64 := pw_le (k := 6) hn6
      have HSA := Lib.hid hsa
      have HSB := Lib.hid hsb
      have HSC := Lib.hid hsc
      have HSE := Lib.hid hse
      have HTA := Lib.hid hta
      have HTE := Lib.hid hte
      have HCE := Lib.hid hce
      have HOR := Lib.hid (And.intro hor hao)
      have HOL := Lib.hid hol
      have HRG := Lib.hid hrg2
      have HSP := Lib.hid hsp
      rw [hjo, hco]
      clear hc hjo hco hsa hsb hsc hse hta hte hce hor hao hol hrg hrg2 hsp hxl hyl hzl hwl hB8 l4 l6 HPr
      have kk := k3.below hW k3.lt
      obtain ⟨q0, q1⟩ := kk.two
      clear kk
      have hcall := SubspaceOf_any P A n c sq A1 (pw n) c1 xs w9 (by omega) (by omega) (o3.below hW) r_x hcx
      rw [HSA.out] at hcall
      go_wp2_with fail
      refine hcall.mono ?_
      rintro e w10 ⟨Aa, ka, da, rfl, hM⟩
      replace r_x := r_x.below hM.b
      replace r_y := r_y.below hM.b
      replace r_z := r_z.below hM.b
      replace r_w := r_w.below hM.b
      have r_a : RdII w10 Aa ka LA := hM.rd
      replace hW := hW.trans (hM.b.mono hW.size)
      clear hM
      clear hcall q0 q1
      have kk := k3.below hW k3.lt
      obtain ⟨q0, q1⟩ := kk.two
      clear kk
      have hcall := SubspaceOf_any P A n c sq A2 (pw n) c2 ys w10 (by omega) (by omega) (o3.below hW) r_y hcy
      rw [HSB.out] at hcall
      go_wp2_with fail
      refine hcall.mono ?_
      rintro e w11 ⟨Ab, kb, db, rfl, hM⟩
      replace r_x := r_x.below hM.b
      replace r_y := r_y.below hM.b
      replace r_z := r_z.below hM.b
      replace r_w := r_w.below hM.b
      replace r_a := r_a.below hM.b
      have r_b : RdII w11 Ab kb LB := hM.rd
      replace hW := hW.trans (hM.b.mono hW.size)
      clear hM
      clear hcall q0 q1
      have kk := k3.below hW k3.lt
      obtain ⟨q0, q1⟩ := kk.two
      clear kk
      have hcall := SubspaceOf_any P A n c sq Az (pw n) cz Z w11 (by omega) (by omega) (o3.below hW) r_z i_z
      rw [HSC.out] at hcall
      go_wp2_with fail
      refine hcall.mono ?_
      rintro e w12 ⟨Ac, kc, dc, rfl, hM⟩
      replace r_x := r_x.below hM.b
      replace r_y := r_y.below hM.b
      replace r_z := r_z.below hM.b
      replace r_w := r_w.below hM.b
      replace r_a := r_a.below hM.b
      replace r_b := r_b.below hM.b
      have r_c : RdII w12 Ac kc LC := hM.rd
      replace hW := hW.trans (hM.b.mono hW.size)
      clear hM
      clear hcall q0 q1
      have kk := k3.below hW k3.lt
      obtain ⟨q0, q1⟩ := kk.two
      clear kk
      have hcall := SubspaceOf_any P A n c sq Aw (pw n) cw W w12 (by omega) (by omega) (o3.below hW) r_w i_w
      rw [HSE.out] at hcall
      go_wp2_with fail
      refine hcall.mono ?_
      rintro e w13 ⟨Ae, ke, de, rfl, hM⟩
      replace r_x := r_x.below hM.b
      replace r_y := r_y.below hM.b
      replace r_z := r_z.below hM.b
      replace r_w := r_w.below hM.b
      replace r_a := r_a.below hM.b
      replace r_b := r_b.below hM.b
      replace r_c := r_c.below hM.b
      have r_e : RdII w13 Ae ke LE := hM.rd
      replace hW := hW.trans (hM.b.mono hW.size)
      clear hM
      clear hcall q0 q1
      have hka := r_a.len
      have hkb := r_b.len
      have hkc := r_c.len
      have hke := r_e.len
      have V1 : IntKind.i64.wrap ((ka : Int) + (kb : Int)) = (ka : Int) + (kb : Int) := i64_fit _ (by omega) (by omega)
      have V2 : IntKind.i64.wrap ((kc : Int) + (ke : Int)) = (ka : Int) + (kb : Int) := (i64_fit _ (by omega) (by omega)).trans (by omega)
      have e2 : ((ka : Int) + (kb : Int) != (ka : Int) + (kb : Int)) = false := by simp
      clear r_b r_c r_z r_w
      have kk := k3.below hW k3.lt
      obtain ⟨q0, q1⟩ := kk.two
      clear kk
      go_wp2
      clear V1 V2 e2 q0 q1
      go_loopw [22] (fun i wr => ∃ k : Nat, k ≤ ke ∧ i = .int .i64 k ∧ Below w13.heap.size w13 wr) (fun i _ => ke - (intOf i).toNat)
      case atStart => exact ⟨0, by omega, rfl, Below.refl _ _⟩
      case round =>
        obtain ⟨i, hi, rfl, hbr⟩ := hrel
        by_cases hlt : i < ke
        · have kk := k3.below (hW.trans (hbr.mono hW.size)) k3.lt
          obtain ⟨gz, oz, rfl, hxi, B1, d1, hcell, hr1, hcap⟩ := (r_e.below hbr).at_ hlt
          have hlu := HTE.out LE[i] (List.getElem_mem hxi)
          obtain ⟨hq1, hq2⟩ := HCE.out LE[i] (List.getElem_mem hxi)
          rw [hlu.1] at hcell hr1 hcap
          have oo := o3.below (hW.trans (hbr.mono hW.size))
          have rx := r_x.below hbr
          have ry := r_y.below hbr
          have hcx0 := fun (w' : World) (h : Below wr.heap.size wr w') => BladeContains_any P A n c sq A1 (pw n) c1 xs B1 n d1 LE[i] w' (by omega) (by omega) (by omega) (oo.below h) (rx.below h) hcx (hr1.below h) hcap
          have hcy0 := fun (w' : World) (h : Below wr.heap.size wr w') => BladeContains_any P A n c sq A2 (pw n) c2 ys B1 n d1 LE[i] w' (by omega) (by omega) (by omega) (oo.below h) (ry.below h) hcy (hr1.below h) hcap
          rw [hq1] at hcx0
          rw [hq2] at hcy0
          have HCX := Lib.hid hcx0
          have HCY0 := Lib.hid hcy0
          clear hcx0 hcy0 hq1 hq2 hlu hr1 hcap hxi oo rx ry
          obtain ⟨q0, q1⟩ := kk.two
          go_wp2
          refine wp_obs 12 [[], [], [], [], [2, 3], [2, 3, 4], [0, 1, 2, 3, 4, 5], [0, 1, 2, 3, 4, 5, 6], [0, 1, 2, 3, 4, 5, 6, 7], [0, 1, 2, 3, 4, 5, 6, 7], [0, 1, 2, 3, 4, 5, 6, 7, 8], [0, 1, 2, 3, 4, 5, 6, 7, 9]] [VIs (.agg #[.int .i64 P, .slice A n c]), VIs (.slice A1 (pw n) c1), VIs (.slice (some ⟨gz, oz, none⟩) ke de), VIs (.int .i64 (i)), VIs (.pointer (some ⟨gz, oz + i, none⟩)), VIs (.slice B1 n d1), VIs (.tuple #[.bool true, .int .i64 0]), VIs (.tuple #[.bool true, .int .i64 0]), VIs (.bool true), VIs (.int .i64 (0)), VIs (.bool true), VIs (.int .i64 (0))] (fun w' => w'.cell? ⟨gz, oz + i, none⟩ = some (.slice B1 n d1) ∧ Blk w' w2.heap.size 26 #[.int .i64 P, .slice A n c] ∧ Below wr.heap.size wr w') (by kernel_rfl) (by kernel_rfl) (fun _ _ h hb => ⟨(hb.cell (World.block_lt_of_cell? _ _ h.1)).trans h.1, h.2.1.below hb h.2.1.lt, h.2.2.trans (hb.mono h.2.2.size)⟩) (⟨hcell, kk.drew, (Below.refl _ _).drew⟩) (fun x => ?_)
          refine obs_step (Eq.trans (by simp only [List.getElem?_toArray, List.getElem?_cons_zero]; exact rfl) rfl) rfl (fun w' hS hV K hK => ?_) ?_
          · have q2 := hS.1; obtain ⟨q0, q1⟩ := hS.2.1.two
            go_simp
            exact hK.out _ _ _ rfl rfl rfl (Below.refl _ _)
          simp only [List.setIfInBounds_toArray, List.set_cons_zero, List.set_cons_succ]
          refine obs_step (Eq.trans (by simp only [List.getElem?_toArray, List.getElem?_cons_succ, List.getElem?_cons_zero]; exact rfl) rfl) rfl (fun w' hS hV K hK => ?_) ?_
          · have q2 := hS.1; obtain ⟨q0, q1⟩ := hS.2.1.two
            go_simp
            exact hK.out _ _ _ rfl rfl rfl (Below.refl _ _)
          simp only [List.setIfInBounds_toArray, List.set_cons_zero, List.set_cons_succ]
          refine obs_step (Eq.trans (by simp only [List.getElem?_toArray, List.getElem?_cons_succ, List.getElem?_cons_zero]; exact rfl) rfl) rfl (fun w' hS hV K hK => ?_) ?_
          · have q2 := hS.1; obtain ⟨q0, q1⟩ := hS.2.1.two
            go_simp
            exact hK.out _ _ _ rfl rfl rfl (Below.refl _ _)
          simp only [List.setIfInBounds_toArray, List.set_cons_zero, List.set_cons_succ]
          refine obs_step (Eq.trans (by simp only [List.getElem?_toArray, List.getElem?_cons_succ, List.getElem?_cons_zero]; exact rfl) rfl) rfl (fun w' hS hV K hK => ?_) ?_
          · have q2 := hS.1; obtain ⟨q0, q1⟩ := hS.2.1.two
            go_simp
            exact hK.out _ _ _ rfl rfl rfl (Below.refl _ _)
          simp only [List.setIfInBounds_toArray, List.set_cons_zero, List.set_cons_succ]
          refine obs_step (Eq.trans (by simp only [List.getElem?_toArray, List.getElem?_cons_succ, List.getElem?_cons_zero]; exact rfl) rfl) rfl (fun w' hS hV K hK => ?_) ?_
          · have e2 : x 2 = (.slice (some ⟨gz, oz, none⟩) ke de) := hV 2 (by decide)
            have e3 : x 3 = (.int .i64 (i)) := hV 3 (by decide)
            have q2 := hS.1; obtain ⟨q0, q1⟩ := hS.2.1.two
            go_simp
            exact hK.out _ _ _ rfl rfl rfl (Below.refl _ _)
          simp only [List.setIfInBounds_toArray, List.set_cons_zero, List.set_cons_succ]
          refine obs_step (Eq.trans (by simp only [List.getElem?_toArray, List.getElem?_cons_succ, List.getElem?_cons_zero]; exact rfl) rfl) rfl (fun w' hS hV K hK => ?_) ?_
          · have e2 : x 2 = (.slice (some ⟨gz, oz, none⟩) ke de) := hV 2 (by decide)
            have e3 : x 3 = (.int .i64 (i)) := hV 3 (by decide)
            have e4 : x 4 = (.pointer (some ⟨gz, oz + i, none⟩)) := hV 4 (by decide)
            have q2 := hS.1; obtain ⟨q0, q1⟩ := hS.2.1.two
            go_simp
            exact hK.out _ _ _ rfl rfl rfl (Below.refl _ _)
          simp only [List.setIfInBounds_toArray, List.set_cons_zero, List.set_cons_succ]
          refine obs_step (Eq.trans (by simp only [List.getElem?_toArray, List.getElem?_cons_succ, List.getElem?_cons_zero]; exact rfl) rfl) rfl (fun w' hS hV K hK => ?_) ?_
          · have e0 : x 0 = (.agg #[.int .i64 P, .slice A n c]) := hV 0 (by decide)
            have e1 : x 1 = (.slice A1 (pw n) c1) := hV 1 (by decide)
            have e2 : x 2 = (.slice (some ⟨gz, oz, none⟩) ke de) := hV 2 (by decide)
            have e3 : x 3 = (.int .i64 (i)) := hV 3 (by decide)
            have e4 : x 4 = (.pointer (some ⟨gz, oz + i, none⟩)) := hV 4 (by decide)
            have e5 : x 5 = (.slice B1 n d1) := hV 5 (by decide)
            have q2 := hS.1; obtain ⟨q0, q1⟩ := hS.2.1.two
            go_simp
            refine (HCX.out _ hS.2.2).mono ?_
            rintro e v1 ⟨rfl, hb⟩
            exact hK.out _ _ _ rfl rfl rfl hb
          simp only [List.setIfInBounds_toArray, List.set_cons_zero, List.set_cons_succ]
          refine obs_step (Eq.trans (by simp only [List.getElem?_toArray, List.getElem?_cons_succ, List.getElem?_cons_zero]; exact rfl) rfl) rfl (fun w' hS hV K hK => ?_) ?_
          · have e0 : x 0 = (.agg #[.int .i64 P, .slice A n c]) := hV 0 (by decide)
            have e1 : x 1 = (.slice A1 (pw n) c1) := hV 1 (by decide)
            have e2 : x 2 = (.slice (some ⟨gz, oz, none⟩) ke de) := hV 2 (by decide)
            have e3 : x 3 = (.int .i64 (i)) := hV 3 (by decide)
            have e4 : x 4 = (.pointer (some ⟨gz, oz + i, none⟩)) := hV 4 (by decide)
            have e5 : x 5 = (.slice B1 n d1) := hV 5 (by decide)
            have e6 : x 6 = (.tuple #[.bool true, .int .i64 0]) := hV 6 (by decide)
            have q2 := hS.1; obtain ⟨q0, q1⟩ := hS.2.1.two
            go_simp
            exact hK.out _ _ _ rfl rfl rfl (Below.refl _ _)
          simp only [List.setIfInBounds_toArray, List.set_cons_zero, List.set_cons_succ]
          refine obs_step (Eq.trans (by simp only [List.getElem?_toArray, List.getElem?_cons_succ, List.getElem?_cons_zero]; exact rfl) rfl) rfl (fun w' hS hV K hK => ?_) ?_
          · have e0 : x 0 = (.agg #[.int .i64 P, .slice A n c]) := hV 0 (by decide)
            have e1 : x 1 = (.slice A1 (pw n) c1) := hV 1 (by decide)
            have e2 : x 2 = (.slice (some ⟨gz, oz, none⟩) ke de) := hV 2 (by decide)
            have e3 : x 3 = (.int .i64 (i)) := hV 3 (by decide)
            have e4 : x 4 = (.pointer (some ⟨gz, oz + i, none⟩)) := hV 4 (by decide)
            have e5 : x 5 = (.slice B1 n d1) := hV 5 (by decide)
            have e6 : x 6 = (.tuple #[.bool true, .int .i64 0]) := hV 6 (by decide)
            have e7 : x 7 = (.tuple #[.bool true, .int .i64 0]) := hV 7 (by decide)
            have q2 := hS.1; obtain ⟨q0, q1⟩ := hS.2.1.two
            go_simp
            exact hK.out _ _ _ rfl rfl rfl (Below.refl _ _)
          simp only [List.setIfInBounds_toArray, List.set_cons_zero, List.set_cons_succ]
          refine obs_step (Eq.trans (by simp only [List.getElem?_toArray, List.getElem?_cons_succ, List.getElem?_cons_zero]; exact rfl) rfl) rfl (fun w' hS hV K hK => ?_) ?_
          · have e0 : x 0 = (.agg #[.int .i64 P, .slice A n c]) := hV 0 (by decide)
            have e1 : x 1 = (.slice A1 (pw n) c1) := hV 1 (by decide)
            have e2 : x 2 = (.slice (some ⟨gz, oz, none⟩) ke de) := hV 2 (by decide)
            have e3 : x 3 = (.int .i64 (i)) := hV 3 (by decide)
            have e4 : x 4 = (.pointer (some ⟨gz, oz + i, none⟩)) := hV 4 (by decide)
            have e5 : x 5 = (.slice B1 n d1) := hV 5 (by decide)
            have e6 : x 6 = (.tuple #[.bool true, .int .i64 0]) := hV 6 (by decide)
            have e7 : x 7 = (.tuple #[.bool true, .int .i64 0]) := hV 7 (by decide)
            have q2 := hS.1; obtain ⟨q0, q1⟩ := hS.2.1.two
            go_simp
            exact hK.out _ _ _ rfl rfl rfl (Below.refl _ _)
          simp only [List.setIfInBounds_toArray, List.set_cons_zero, List.set_cons_succ]
          refine obs_step (Eq.trans (by simp only [List.getElem?_toArray, List.getElem?_cons_succ, List.getElem?_cons_zero]; exact rfl) rfl) rfl (fun w' hS hV K hK => ?_) ?_
          · have e0 : x 0 = (.agg #[.int .i64 P, .slice A n c]) := hV 0 (by decide)
            have e1 : x 1 = (.slice A1 (pw n) c1) := hV 1 (by decide)
            have e2 : x 2 = (.slice (some ⟨gz, oz, none⟩) ke de) := hV 2 (by decide)
            have e3 : x 3 = (.int .i64 (i)) := hV 3 (by decide)
            have e4 : x 4 = (.pointer (some ⟨gz, oz + i, none⟩)) := hV 4 (by decide)
            have e5 : x 5 = (.slice B1 n d1) := hV 5 (by decide)
            have e6 : x 6 = (.tuple #[.bool true, .int .i64 0]) := hV 6 (by decide)
            have e7 : x 7 = (.tuple #[.bool true, .int .i64 0]) := hV 7 (by decide)
            have e8 : x 8 = (.bool true) := hV 8 (by decide)
            have q2 := hS.1; obtain ⟨q0, q1⟩ := hS.2.1.two
            go_simp
            exact hK.out _ _ _ rfl rfl rfl (Below.refl _ _)
          simp only [List.setIfInBounds_toArray, List.set_cons_zero, List.set_cons_succ]
          refine obs_step (Eq.trans (by simp only [List.getElem?_toArray, List.getElem?_cons_succ, List.getElem?_cons_zero]; exact rfl) rfl) rfl (fun w' hS hV K hK => ?_) ?_
          · have e0 : x 0 = (.agg #[.int .i64 P, .slice A n c]) := hV 0 (by decide)
            have e1 : x 1 = (.slice A1 (pw n) c1) := hV 1 (by decide)
            have e2 : x 2 = (.slice (some ⟨gz, oz, none⟩) ke de) := hV 2 (by decide)
            have e3 : x 3 = (.int .i64 (i)) := hV 3 (by decide)
            have e4 : x 4 = (.pointer (some ⟨gz, oz + i, none⟩)) := hV 4 (by decide)
            have e5 : x 5 = (.slice B1 n d1) := hV 5 (by decide)
            have e6 : x 6 = (.tuple #[.bool true, .int .i64 0]) := hV 6 (by decide)
            have e7 : x 7 = (.tuple #[.bool true, .int .i64 0]) := hV 7 (by decide)
            have e9 : x 9 = (.int .i64 (0)) := hV 9 (by decide)
            have q2 := hS.1; obtain ⟨q0, q1⟩ := hS.2.1.two
            go_simp
            exact hK.out _ _ _ rfl rfl rfl (Below.refl _ _)
          simp only [List.setIfInBounds_toArray, List.set_cons_zero, List.set_cons_succ]
          refine fun w' hS hV => ?_
          have e0 : x 0 = (.agg #[.int .i64 P, .slice A n c]) := hV 0 (by decide)
          have e1 : x 1 = (.slice A1 (pw n) c1) := hV 1 (by decide)
          have e2 : x 2 = (.slice (some ⟨gz, oz, none⟩) ke de) := hV 2 (by decide)
          have e3 : x 3 = (.int .i64 (i)) := hV 3 (by decide)
          have e4 : x 4 = (.pointer (some ⟨gz, oz + i, none⟩)) := hV 4 (by decide)
          have e5 : x 5 = (.slice B1 n d1) := hV 5 (by decide)
          have e6 : x 6 = (.tuple #[.bool true, .int .i64 0]) := hV 6 (by decide)
          have e7 : x 7 = (.tuple #[.bool true, .int .i64 0]) := hV 7 (by decide)
          have e8 : x 8 = (.bool true) := hV 8 (by decide)
          have e9 : x 9 = (.int .i64 (0)) := hV 9 (by decide)
          have e10 : x 10 = (.bool true) := hV 10 (by decide)
          have e11 : x 11 = (.int .i64 (0)) := hV 11 (by decide)
          simp only [e0, e1, e2, e3, e4, e5, e6, e7, e8, e9, e10, e11]
          clear e0 e1 e2 e3 e4 e5 e6 e7 e8 e9 e10 e11
          refine wpAny_done (by kernel_rfl) ?_ _
          obtain ⟨w9, rfl⟩ : ∃ W, W = w' := ⟨_, rfl⟩
          have hbn := hS.2.2
          have hb9 := hbr.trans (hbn.mono hbr.size)
          have HCY := Lib.hid fun (w' : World) (h : Below w9.heap.size w9 w') => HCY0.out w' (hbn.trans (h.mono hbn.size))
          replace hcell := hS.1
          replace kk := hS.2.1
          clear hS q0 q1 hbr HCX HCY0 hbn
          obtain ⟨q0, q1⟩ := kk.two
          go_wp2
          refine wp_obs 12 [[], [], [], [], [2, 3], [2, 3, 4], [0, 1, 2, 3, 4, 5], [0, 1, 2, 3, 4, 5, 6], [0, 1, 2, 3, 4, 5, 6, 7], [0, 1, 2, 3, 4, 5, 6, 7], [0, 1, 2, 3, 4, 5, 6, 7, 8], [0, 1, 2, 3, 4, 5, 6, 7, 9]] [VIs (.agg #[.int .i64 P, .slice A n c]), VIs (.slice A2 (pw n) c2), VIs (.slice (some ⟨gz, oz, none⟩) ke de), VIs (.int .i64 (i)), VIs (.pointer (some ⟨gz, oz + i, none⟩)), VIs (.slice B1 n d1), VIs (.tuple #[.bool true, .int .i64 0]), VIs (.tuple #[.bool true, .int .i64 0]), VIs (.bool true), VIs (.int .i64 (0)), VIs (.bool true), VIs (.int .i64 (0))] (fun w' => w'.cell? ⟨gz, oz + i, none⟩ = some (.slice B1 n d1) ∧ Blk w' w2.heap.size 26 #[.int .i64 P, .slice A n c] ∧ Below w9.heap.size w9 w') (by kernel_rfl) (by kernel_rfl) (fun _ _ h hb => ⟨(hb.cell (World.block_lt_of_cell? _ _ h.1)).trans h.1, h.2.1.below hb h.2.1.lt, h.2.2.trans (hb.mono h.2.2.size)⟩) (⟨hcell, kk.drew, (Below.refl _ _).drew⟩) (fun x => ?_)
          refine obs_step (Eq.trans (by simp only [List.getElem?_toArray, List.getElem?_cons_zero]; exact rfl) rfl) rfl (fun w' hS hV K hK => ?_) ?_
          · have q2 := hS.1; obtain ⟨q0, q1⟩ := hS.2.1.two
            go_simp
            exact hK.out _ _ _ rfl rfl rfl (Below.refl _ _)
          simp only [List.setIfInBounds_toArray, List.set_cons_zero, List.set_cons_succ]
          refine obs_step (Eq.trans (by simp only [List.getElem?_toArray, List.getElem?_cons_succ, List.getElem?_cons_zero]; exact rfl) rfl) rfl (fun w' hS hV K hK => ?_) ?_
          · have q2 := hS.1; obtain ⟨q0, q1⟩ := hS.2.1.two
            go_simp
            exact hK.out _ _ _ rfl rfl rfl (Below.refl _ _)
          simp only [List.setIfInBounds_toArray, List.set_cons_zero, List.set_cons_succ]
          refine obs_step (Eq.trans (by simp only [List.getElem?_toArray, List.getElem?_cons_succ, List.getElem?_cons_zero]; exact rfl) rfl) rfl (fun w' hS hV K hK => ?_) ?_
          · have q2 := hS.1; obtain ⟨q0, q1⟩ := hS.2.1.two
            go_simp
            exact hK.out _ _ _ rfl rfl rfl (Below.refl _ _)
          simp only [List.setIfInBounds_toArray, List.set_cons_zero, List.set_cons_succ]
          refine obs_step (Eq.trans (by simp only [List.getElem?_toArray, List.getElem?_cons_succ, List.getElem?_cons_zero]; exact rfl) rfl) rfl (fun w' hS hV K hK => ?_) ?_
          · have q2 := hS.1; obtain ⟨q0, q1⟩ := hS.2.1.two
            go_simp
            exact hK.out _ _ _ rfl rfl rfl (Below.refl _ _)
          simp only [List.setIfInBounds_toArray, List.set_cons_zero, List.set_cons_succ]
          refine obs_step (Eq.trans (by simp only [List.getElem?_toArray, List.getElem?_cons_succ, List.getElem?_cons_zero]; exact rfl) rfl) rfl (fun w' hS hV K hK => ?_) ?_
          · have e2 : x 2 = (.slice (some ⟨gz, oz, none⟩) ke de) := hV 2 (by decide)
            have e3 : x 3 = (.int .i64 (i)) := hV 3 (by decide)
            have q2 := hS.1; obtain ⟨q0, q1⟩ := hS.2.1.two
            go_simp
            exact hK.out _ _ _ rfl rfl rfl (Below.refl _ _)
          simp only [List.setIfInBounds_toArray, List.set_cons_zero, List.set_cons_succ]
          refine obs_step (Eq.trans (by simp only [List.getElem?_toArray, List.getElem?_cons_succ, List.getElem?_cons_zero]; exact rfl) rfl) rfl (fun w' hS hV K hK => ?_) ?_
          · have e2 : x 2 = (.slice (some ⟨gz, oz, none⟩) ke de) := hV 2 (by decide)
            have e3 : x 3 = (.int .i64 (i)) := hV 3 (by decide)
            have e4 : x 4 = (.pointer (some ⟨gz, oz + i, none⟩)) := hV 4 (by decide)
            have q2 := hS.1; obtain ⟨q0, q1⟩ := hS.2.1.two
            go_simp
            exact hK.out _ _ _ rfl rfl rfl (Below.refl _ _)
          simp only [List.setIfInBounds_toArray, List.set_cons_zero, List.set_cons_succ]
          refine obs_step (Eq.trans (by simp only [List.getElem?_toArray, List.getElem?_cons_succ, List.getElem?_cons_zero]; exact rfl) rfl) rfl (fun w' hS hV K hK => ?_) ?_
          · have e0 : x 0 = (.agg #[.int .i64 P, .slice A n c]) := hV 0 (by decide)
            have e1 : x 1 = (.slice A2 (pw n) c2) := hV 1 (by decide)
            have e2 : x 2 = (.slice (some ⟨gz, oz, none⟩) ke de) := hV 2 (by decide)
            have e3 : x 3 = (.int .i64 (i)) := hV 3 (by decide)
            have e4 : x 4 = (.pointer (some ⟨gz, oz + i, none⟩)) := hV 4 (by decide)
            have e5 : x 5 = (.slice B1 n d1) := hV 5 (by decide)
            have q2 := hS.1; obtain ⟨q0, q1⟩ := hS.2.1.two
            go_simp
            refine (HCY.out _ hS.2.2).mono ?_
            rintro e v1 ⟨rfl, hb⟩
            exact hK.out _ _ _ rfl rfl rfl hb
          simp only [List.setIfInBounds_toArray, List.set_cons_zero, List.set_cons_succ]
          refine obs_step (Eq.trans (by simp only [List.getElem?_toArray, List.getElem?_cons_succ, List.getElem?_cons_zero]; exact rfl) rfl) rfl (fun w' hS hV K hK => ?_) ?_
          · have e0 : x 0 = (.agg #[.int .i64 P, .slice A n c]) := hV 0 (by decide)
            have e1 : x 1 = (.slice A2 (pw n) c2) := hV 1 (by decide)
            have e2 : x 2 = (.slice (some ⟨gz, oz, none⟩) ke de) := hV 2 (by decide)
            have e3 : x 3 = (.int .i64 (i)) := hV 3 (by decide)
            have e4 : x 4 = (.pointer (some ⟨gz, oz + i, none⟩)) := hV 4 (by decide)
            have e5 : x 5 = (.slice B1 n d1) := hV 5 (by decide)
            have e6 : x 6 = (.tuple #[.bool true, .int .i64 0]) := hV 6 (by decide)
            have q2 := hS.1; obtain ⟨q0, q1⟩ := hS.2.1.two
            go_simp
            exact hK.out _ _ _ rfl rfl rfl (Below.refl _ _)
          simp only [List.setIfInBounds_toArray, List.set_cons_zero, List.set_cons_succ]
          refine obs_step (Eq.trans (by simp only [List.getElem?_toArray, List.getElem?_cons_succ, List.getElem?_cons_zero]; exact rfl) rfl) rfl (fun w' hS hV K hK => ?_) ?_
          · have e0 : x 0 = (.agg #[.int .i64 P, .slice A n c]) := hV 0 (by decide)
            have e1 : x 1 = (.slice A2 (pw n) c2) := hV 1 (by decide)
            have e2 : x 2 = (.slice (some ⟨gz, oz, none⟩) ke de) := hV 2 (by decide)
            have e3 : x 3 = (.int .i64 (i)) := hV 3 (by decide)
            have e4 : x 4 = (.pointer (some ⟨gz, oz + i, none⟩)) := hV 4 (by decide)
            have e5 : x 5 = (.slice B1 n d1) := hV 5 (by decide)
            have e6 : x 6 = (.tuple #[.bool true, .int .i64 0]) := hV 6 (by decide)
            have e7 : x 7 = (.tuple #[.bool true, .int .i64 0]) := hV 7 (by decide)
            have q2 := hS.1; obtain ⟨q0, q1⟩ := hS.2.1.two
            go_simp
            exact hK.out _ _ _ rfl rfl rfl (Below.refl _ _)
          simp only [List.setIfInBounds_toArray, List.set_cons_zero, List.set_cons_succ]
          refine obs_step (Eq.trans (by simp only [List.getElem?_toArray, List.getElem?_cons_succ, List.getElem?_cons_zero]; exact rfl) rfl) rfl (fun w' hS hV K hK => ?_) ?_
          · have e0 : x 0 = (.agg #[.int .i64 P, .slice A n c]) := hV 0 (by decide)
            have e1 : x 1 = (.slice A2 (pw n) c2) := hV 1 (by decide)
            have e2 : x 2 = (.slice (some ⟨gz, oz, none⟩) ke de) := hV 2 (by decide)
            have e3 : x 3 = (.int .i64 (i)) := hV 3 (by decide)
            have e4 : x 4 = (.pointer (some ⟨gz, oz + i, none⟩)) := hV 4 (by decide)
            have e5 : x 5 = (.slice B1 n d1) := hV 5 (by decide)
            have e6 : x 6 = (.tuple #[.bool true, .int .i64 0]) := hV 6 (by decide)
            have e7 : x 7 = (.tuple #[.bool true, .int .i64 0]) := hV 7 (by decide)
            have q2 := hS.1; obtain ⟨q0, q1⟩ := hS.2.1.two
            go_simp
            exact hK.out _ _ _ rfl rfl rfl (Below.refl _ _)
          simp only [List.setIfInBounds_toArray, List.set_cons_zero, List.set_cons_succ]
          refine obs_step (Eq.trans (by simp only [List.getElem?_toArray, List.getElem?_cons_succ, List.getElem?_cons_zero]; exact rfl) rfl) rfl (fun w' hS hV K hK => ?_) ?_
          · have e0 : x 0 = (.agg #[.int .i64 P, .slice A n c]) := hV 0 (by decide)
            have e1 : x 1 = (.slice A2 (pw n) c2) := hV 1 (by decide)
            have e2 : x 2 = (.slice (some ⟨gz, oz, none⟩) ke de) := hV 2 (by decide)
            have e3 : x 3 = (.int .i64 (i)) := hV 3 (by decide)
            have e4 : x 4 = (.pointer (some ⟨gz, oz + i, none⟩)) := hV 4 (by decide)
            have e5 : x 5 = (.slice B1 n d1) := hV 5 (by decide)
            have e6 : x 6 = (.tuple #[.bool true, .int .i64 0]) := hV 6 (by decide)
            have e7 : x 7 = (.tuple #[.bool true, .int .i64 0]) := hV 7 (by decide)
            have e8 : x 8 = (.bool true) := hV 8 (by decide)
            have q2 := hS.1; obtain ⟨q0, q1⟩ := hS.2.1.two
            go_simp
            exact hK.out _ _ _ rfl rfl rfl (Below.refl _ _)
          simp only [List.setIfInBounds_toArray, List.set_cons_zero, List.set_cons_succ]
          refine obs_step (Eq.trans (by simp only [List.getElem?_toArray, List.getElem?_cons_succ, List.getElem?_cons_zero]; exact rfl) rfl) rfl (fun w' hS hV K hK => ?_) ?_
          · have e0 : x 0 = (.agg #[.int .i64 P, .slice A n c]) := hV 0 (by decide)
            have e1 : x 1 = (.slice A2 (pw n) c2) := hV 1 (by decide)
            have e2 : x 2 = (.slice (some ⟨gz, oz, none⟩) ke de) := hV 2 (by decide)
            have e3 : x 3 = (.int .i64 (i)) := hV 3 (by decide)
            have e4 : x 4 = (.pointer (some ⟨gz, oz + i, none⟩)) := hV 4 (by decide)
            have e5 : x 5 = (.slice B1 n d1) := hV 5 (by decide)
            have e6 : x 6 = (.tuple #[.bool true, .int .i64 0]) := hV 6 (by decide)
            have e7 : x 7 = (.tuple #[.bool true, .int .i64 0]) := hV 7 (by decide)
            have e9 : x 9 = (.int .i64 (0)) := hV 9 (by decide)
            have q2 := hS.1; obtain ⟨q0, q1⟩ := hS.2.1.two
            go_simp
            exact hK.out _ _ _ rfl rfl rfl (Below.refl _ _)
          simp only [List.setIfInBounds_toArray, List.set_cons_zero, List.set_cons_succ]
          refine fun w' hS hV => ?_
          have e0 : x 0 = (.agg #[.int .i64 P, .slice A n c]) := hV 0 (by decide)
          have e1 : x 1 = (.slice A2 (pw n) c2) := hV 1 (by decide)
          have e2 : x 2 = (.slice (some ⟨gz, oz, none⟩) ke de) := hV 2 (by decide)
          have e3 : x 3 = (.int .i64 (i)) := hV 3 (by decide)
          have e4 : x 4 = (.pointer (some ⟨gz, oz + i, none⟩)) := hV 4 (by decide)
          have e5 : x 5 = (.slice B1 n d1) := hV 5 (by decide)
          have e6 : x 6 = (.tuple #[.bool true, .int .i64 0]) := hV 6 (by decide)
          have e7 : x 7 = (.tuple #[.bool true, .int .i64 0]) := hV 7 (by decide)
          have e8 : x 8 = (.bool true) := hV 8 (by decide)
          have e9 : x 9 = (.int .i64 (0)) := hV 9 (by decide)
          have e10 : x 10 = (.bool true) := hV 10 (by decide)
          have e11 : x 11 = (.int .i64 (0)) := hV 11 (by decide)
          simp only [e0, e1, e2, e3, e4, e5, e6, e7, e8, e9, e10, e11]
          clear e0 e1 e2 e3 e4 e5 e6 e7 e8 e9 e10 e11
          refine wpAny_done (by kernel_rfl) ?_ _
          obtain ⟨w8, rfl⟩ : ∃ W, W = w' := ⟨_, rfl⟩
          have hb8 := hb9.trans (hS.2.2.mono hb9.size)
          clear hS q0 q1 kk hb9 hcell HCY
          go_wp2
          go_roundw
          case rel => exact ⟨i + 1, by omega, by go_num, hb8⟩
          case measure => simp [intOf]; omega
        · have hb7 := hbr
          clear hbr
          replace hW := hW.trans (hb7.mono hW.size)
          replace r_x := r_x.below hb7
          replace r_a := r_a.below hb7
          clear hb7 r_y r_e HCE HTE
          have kk := k3.below hW k3.lt
          obtain ⟨q0, q1⟩ := kk.two
          clear kk
          have hcall := OrthogonalBlade_any P A n c sq A1 (pw n) c1 xs wr (by omega) (by omega) (o3.below hW) r_x hcx
          rw [HOR.out.1] at hcall
          go_wp2_with fail
          refine hcall.mono ?_
          rintro e w21 ⟨Ao, ko, co, rfl, hM⟩
          replace r_x := r_x.below hM.b
          replace r_a := r_a.below hM.b
          have r_o : Rd w21 Ao ko (ints O) := hM.rd
          have i_o := hM.2.cap
          replace hW := hW.trans (hM.b.mono hW.size)
          clear hM
          clear hcall q0 q1
          obtain rfl : pw n = ko := by rw [← r_o.lenI]; exact HOL.out.symm
          have kk := k3.below hW k3.lt
          obtain ⟨q0, q1⟩ := kk.two
          clear kk
          have hcall := AreOrthogonalBlades_any P A n c sq A1 (pw n) c1 xs Ao (pw n) co O w21 (by omega) (by omega) (by omega) (o3.below hW) r_x hcx r_o i_o
          rw [HOR.out.2] at hcall
          go_wp2_with fail
          refine hcall.mono ?_
          rintro e w22 ⟨rfl, hb7⟩
          replace r_x := r_x.below hb7
          replace r_a := r_a.below hb7
          replace r_o := r_o.below hb7
          replace hW := hW.trans (hb7.mono hW.size)
          clear hcall q0 q1
          have hir := IsRegular_ok P A n c sq w22 HSP.out (by omega) (o3.below hW)
          have kk := k3.below hW k3.lt
          cases hreg : regB sq
          · rw [hreg] at hir
            obtain ⟨q0, q1⟩ := kk.two
            go_wp2_with fail
            refine hir.mono ?_
            rintro e w23 ⟨rfl, hb7⟩
            replace hW := hW.trans (hb7.mono hW.size)
            clear hir hb7 kk q0 q1 r_x r_a r_o
            go_wp2
            go_ret
            exact ⟨rfl, hB3.trans (hW.mono hB3.size)⟩
          · rw [hreg] at hir
            obtain ⟨K, hK1, hK2, hK3⟩ := HRG.out hreg
            have HKR := Lib.hid (And.intro hK1 (And.intro hK2 hK3))
            obtain ⟨q0, q1⟩ := kk.two
            go_wp2_with fail
            refine hir.mono ?_
            rintro e w23 ⟨rfl, hb7⟩
            replace hW := hW.trans (hb7.mono hW.size)
            replace r_a := r_a.below hb7
            replace r_o := r_o.below hb7
            clear hir hb7 kk q0 q1 r_x hK1 hK2 hK3 HRG hreg
            have kk := k3.below hW k3.lt
            obtain ⟨q0, q1⟩ := kk.two
            clear kk
            have hcall := OrthogonalBlade_any P A n c sq Ao (pw n) co O w23 (by omega) (by omega) (o3.below hW) r_o i_o
            rw [HKR.out.1] at hcall
            go_wp2_with fail
            refine hcall.mono ?_
            rintro e w24 ⟨Ak, kk9, ck, rfl, hM⟩
            replace r_a := r_a.below hM.b
            have r_k : Rd w24 Ak kk9 (ints K) := hM.rd
            have i_k := hM.2.cap
            replace hW := hW.trans (hM.b.mono hW.size)
            clear hM
            clear hcall q0 q1
            obtain rfl : pw n = kk9 := by rw [← r_k.lenI]; exact HKR.out.2.2.symm
            have kk := k3.below hW k3.lt
            obtain ⟨q0, q1⟩ := kk.two
            clear kk
            have hcall := SubspaceOf_any P A n c sq Ak (pw n) ck K w24 (by omega) (by omega) (o3.below hW) r_k i_k
            rw [HKR.out.2.1] at hcall
            go_wp2_with fail
            refine hcall.mono ?_
            rintro e w25 ⟨Af, kf, df, rfl, hM⟩
            replace r_a := r_a.below hM.b
            replace r_k := r_k.below hM.b
            have r_f : RdII w25 Af kf LA := hM.rd
            replace hW := hW.trans (hM.b.mono hW.size)
            clear hM
            clear hcall q0 q1
            obtain rfl : ka = kf := by rw [← r_a.len]; exact r_f.len
            have kk := k3.below hW k3.lt
            obtain ⟨q0, q1⟩ := kk.two
            clear kk
            have hcall := likeRows5_same Af Aa ka df da _ w25 (by omega) r_f r_a (fun v hv => by rw [(HTA.out v hv).1]; omega)
            go_wp2_with fail
            refine hcall.mono ?_
            rintro e w26 ⟨rfl, hb7⟩
            replace hW := hW.trans (hb7.mono hW.size)
            go_wp2
            go_ret
            exact ⟨rfl, hB3.trans (hW.mono hB3.size)⟩
    · have hne : ¬ (joiR P sq xs ys).2 = 0 := by rw [joiR_bad hc]; exact hc
      have e1 : ((joiR P sq xs ys).2 != 0) = true := by simp [hne]
      have e2 : ((comR P sq xs ys).2 == (joiR P sq xs ys).2) = true := by rw [joiR_bad hc, comR_bad hc]; simp
      clear r_x r_y r_z r_w hne hc l4 l6
      go_wp2
      go_ret
      exact ⟨rfl, hB8⟩
end Go.Proofs.YtggigolkncckoaaGreat

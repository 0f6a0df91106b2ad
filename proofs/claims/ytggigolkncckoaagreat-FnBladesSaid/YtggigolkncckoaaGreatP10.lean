/-
  LawFnBlades: part 10 of the texts that the proof needs. No condition.
-/
import Derived.Test.YtggigolkncckoaaGreatP9
namespace Go.Proofs.YtggigolkncckoaaGreat
open Go.RowKit
/-- A cell of a list of lists. -/
def RowAt (w : World) (a : Addr) (v : Value) : Prop := ∃ (g k n c : Nat) (us : List Value), a = ⟨g, k, none⟩ ∧ Own w 0 24 (some ⟨g, 0, none⟩) n c us ∧ k < n ∧ us[k]? = some v
section
variable {w w' : World} {a : Addr} {v : Value}
theorem RowAt.cell (h : RowAt w a v) : w.cell? a = some v := by
  obtain ⟨g, k, n, c, us, rfl, ho, hk, e⟩ := h
  obtain ⟨u, e1, e2⟩ := ho.cell_ hk
  rw [e] at e1
  rw [e2, Option.some.inj e1]
theorem RowAt.below (h : RowAt w a v) (hb : Below w.heap.size w w') : RowAt w' a v := by
  obtain ⟨g, k, n, c, us, e, ho, hk, h2⟩ := h
  exact ⟨g, k, n, c, us, e, ho.below hb, hk, h2⟩
theorem RowAt.dr {g : Nat} {T : TypeId} (h : RowAt w a v) (d : Dr g T w w') (h1 : 24 ≠ T) : RowAt w' a v := by
  obtain ⟨g, k, n, c, us, e, ho, hk, h2⟩ := h
  exact ⟨g, k, n, c, us, e, ho.dr d h1, hk, h2⟩
end
theorem OwnM.of {w0 w : World} {A : Option Addr} {n c : Nat} {xss : List (List Int)} (h : MkII w0 w A n c xss) : OwnM w w0.heap.size A n c xss := by
  obtain ⟨rows, hm, hn⟩ := h
  exact ⟨rows, hm.2, hn⟩
/-- A row of a list of lists of the call's own. -/
theorem OwnM.at_ {w : World} {B : Nat} {A : Option Addr} {n c : Nat} {xss : List (List Int)} (h : OwnM w B A n c xss) {k : Nat} (hk : k < n) : ∃ (g o : Nat) (hx : k < xss.length) (A1 : Option Addr) (c1 : Nat), A = some ⟨g, o, none⟩ ∧ o = 0 ∧ RowAt w ⟨g, o + k, none⟩ (.slice A1 xss[k].length c1) ∧ Own w B 2 A1 xss[k].length c1 (ints xss[k]) := by
  obtain ⟨rows, ho, hn⟩ := h
  have hx : k < xss.length := by rw [← hn.len, ho.len]; exact hk
  rcases ho.form with ⟨_, hz⟩ | ⟨g, rfl, _, _⟩
  · omega
  obtain ⟨A1, c1, e, h3⟩ := hn.row k hx
  exact ⟨g, 0, hx, A1, c1, rfl, rfl, ⟨g, k, n, c, rows, by rw [Nat.zero_add], ho.base (Nat.zero_le _), hk, e⟩, h3⟩
set_option maxHeartbeats 6400000 in
set_option maxRecDepth 8000 in
theorem l06Draw_any (g : Nat) (P : Int) (A : Option Addr) (n c : Nat) (sq : List Int) (w : World) (hs : Src w g 143) (hn : n ≤ 1048576) (ho : Own w 0 2 A n c (ints sq)) :
    Calls Tryz.prog 326 #[.pointer (some ⟨g, 0, none⟩), .agg #[.int .i64 P, .slice A n c]] w fun e w' => ∃ (A' : Option Addr) (m c' : Nat), e = .returned (.slice A' m c') ∧ m ≤ 100 ∧ (∃ xs : List Int, Own w' w.heap.size 2 A' m c' (ints xs)) ∧ Dr g 143 w w' := by
  have hsl : sq.length = n := ho.rd.lenI
  have k0 : Blk (w.alloc (.cells #[.int .i64 P, .slice A n c] 26)) w.heap.size 26 #[.int .i64 P, .slice A n c] := Blk.new _ _ _
  have d0 := (Dr.refl hs).alloc (.cells #[.int .i64 P, .slice A n c] 26)
  have o0 := ho.below ((Below.refl _ _).alloc (Nat.le_refl _) (.cells #[.int .i64 P, .slice A n c] 26))
  cases h1 : isSp P sq
  · have H1 := Lib.hid h1
    clear h1
    go_enter Tryz.func326, Tryz.ntmps326
    go_wp2_with fail
    refine (l03Is_b _ _ _ _ _ _ (by omega) o0.rd H1.out).mono ?_
    rintro e w2 ⟨rfl, hb⟩
    have d5 := d0.then hb
    have k5 := k0.below hb k0.lt
    have o5 := o0.below hb
    clear hb d0 o0 k0
    have hsp := l04Spoil_any g P A n c sq w2 d5.s' hn o5
    obtain ⟨q0, q1⟩ := k5.two
    go_wp2_with fail
    refine hsp.mono ?_
    rintro e w9 ⟨A9, m9, c9, rfl, hm9, ⟨xs9, ho9⟩, hd9⟩
    clear hsp q0 q1
    go_wp2
    go_ret
    exact ⟨_, m9, _, rfl, hm9, ⟨xs9, ho9.base d5.size⟩, d5.trans hd9⟩
  · obtain ⟨HP, hn1, hn2, hq⟩ := isSp_dim h1
    obtain ⟨hp3, hp2⟩ := isP_ge HP
    have HQ := Lib.hid (nums_drawn hq)
    have H1 := Lib.hid h1
    rw [hsl] at hn1 hn2
    have hpw : pw n ≤ 64 := pw_le hn2
    clear h1 hq
    go_enter Tryz.func326, Tryz.ntmps326
    go_wp2_with fail
    refine (l03Is_b _ _ _ _ _ _ (by omega) o0.rd H1.out).mono ?_
    rintro e w2 ⟨rfl, hb⟩
    have hnx := next_any g 8 w2 (d0.then hb).s' (by omega)
    go_wp2_with fail
    refine hnx.mono ?_
    rintro e w8 ⟨r8, rfl, _, _, hd8⟩
    have d5 := (d0.then hb).trans hd8
    have k5 := (k0.below hb k0.lt).dr hd8 (by decide)
    have o5 := (o0.below hb).dr hd8 (by decide)
    clear hb d0 o0 k0 hnx hd8
    by_cases h8 : r8 = 0
    · have e8 : (r8 == 0) = true := by simp [h8]
      have hsp := l04Spoil_any g P A n c sq w8 d5.s' hn o5
      obtain ⟨q0, q1⟩ := k5.two
      go_wp2_with fail
      refine hsp.mono ?_
      rintro e w9 ⟨A9, m9, c9, rfl, hm9, ⟨xs9, ho9⟩, hd9⟩
      clear hsp q0 q1
      go_wp2
      go_ret
      exact ⟨_, m9, _, rfl, hm9, ⟨xs9, ho9.base d5.size⟩, d5.trans hd9⟩
    · have e8 : (r8 == 0) = false := by simp [h8]
      have k9 := k5.alloc (.cells #[] 24)
      have d9 := d5.alloc (.cells #[] 24)
      have o9 := o5.below ((Below.refl _ _).alloc (Nat.le_refl _) (.cells #[] 24))
      have l9 := OwnM.empty w8 (B := w.heap.size) d5.size
      have hnx := next_any g ((n : Int) + 1) _ d9.s' (by omega)
      have W9 := i64_fit ((n : Int) + 1) (by omega) (by omega)
      obtain ⟨q0, q1⟩ := k9.two
      clear k5 d5 o5
      go_wp2_with fail
      refine hnx.mono ?_
      rintro e w10 ⟨r, rfl, hr1, hr2, hd10⟩
      obtain ⟨rn, rfl⟩ : ∃ rn : Nat, r = rn := ⟨r.toNat, by omega⟩
      have hr3 := hr2 (by omega)
      have D2 := d9.trans hd10
      have K2 := k9.dr hd10 (by decide)
      have O2 := o9.dr hd10 (by decide)
      have L2 := l9.dr hd10 (by decide) (by decide)
      clear hnx k9 d9 o9 l9 hd10 q0 q1 W9
      go_wp2
      go_loopw [5, 6] (fun l i wr => ∃ (kk m : Nat) (A0 : Option Addr) (c0 : Nat) (L : List (List Int)), m + kk ≤ n ∧ i = .int .i64 kk ∧ l = .slice A0 m c0 ∧ Tab P n L ∧ OwnM wr w.heap.size A0 m c0 L ∧ Dr g 143 w wr ∧ Blk wr w.heap.size 26 #[.int .i64 P, .slice A n c] ∧ Own wr 0 2 A n c (ints sq)) (fun _ i _ => (intOf i).toNat)
      case atStart => exact ⟨rn, 0, _, _, [], by omega, rfl, rfl, Tab.nil _ _, L2, D2, K2, O2⟩
      case round =>
        obtain ⟨kk, m, A0, c0, L, hmk, rfl, rfl, hTL, hL, hD, K, O⟩ := hrel
        clear L2 D2 K2 O2
        obtain ⟨wo, rfl⟩ : ∃ W, W = wr := ⟨_, rfl⟩
        have HTL := Lib.hid hTL
        have HL := Lib.hid hL
        have HD := Lib.hid hD
        clear hTL hL
        by_cases hk0 : 0 < kk
        · have t1 : decide ((0 : Int) < (kk : Int)) = true := by simp; omega
          have W5 : wrap64 ((kk : Int) - 1) = ((kk - 1 : Nat) : Int) := by unfold wrap64; omega
          obtain ⟨q0, q1⟩ := K.two
          have hli := nextList_any g P n wo hD.s' (by omega) (by omega)
          go_wp2_with fail
          refine hli.mono ?_
          rintro e w3 ⟨A1, c1, v, rfl, hvl, hvx, hv, hd3⟩
          have HVN := Lib.hid (nums_of (by omega) hvx)
          have HVL := Lib.hid hvl
          have D8 := Lib.hid hd3
          have K8 := Lib.hid (K.dr hd3 (by decide))
          have O8 := Lib.hid (O.dr hd3 (by decide))
          have V8 := Lib.hid hv
          clear hli hvx q0 q1 K O hD hvl hd3 hv
          go_wp2_with (at_builtin; (refine wpList_pushRow w wo w3 g 143 rfl _ _ rfl A0 m c0 L A1 n c1 v HL.out HD.out D8.out (by decide) (by decide) V8.out (by omega) rfl ?_ ?_; (go_simp); intro A9 c9 w9 h9 d9 kp))
          have HL9 := Lib.hid h9
          have D9 := Lib.hid d9
          have K9 := kp.2 _ _ _ K8.out (by decide)
          have O9 := kp.1 _ _ _ _ _ O8.out
          have HT9 := Lib.hid (show Tab P n (L ++ [v]) from fun u hu => by
            rcases List.mem_append.1 hu with hu | hu
            · exact HTL.out u hu
            · rw [List.mem_singleton.1 hu]; exact ⟨HVL.out, HVN.out⟩)
          clear h9 d9 kp
          go_wp2
          go_roundw
          case rel => exact ⟨kk - 1, m + 1, A9, c9, L ++ [v], by omega, by go_num, rfl, HT9.out, HL9.out, D9.out, K9, O9⟩
          case measure => simp [intOf]; omega
        · have t1 : decide ((0 : Int) < (kk : Int)) = false := by simp; omega
          have W8 := i64_fit (P - 1) (by omega) (by omega)
          have hm6 : m ≤ 6 := by omega
          clear hD
          obtain ⟨q0, q1⟩ := K.two
          go_wp2
          refine wp_obsR 13 (Dr g 143) [[], [0], [], [], [2, 3], [], [], [6], [6, 7], [2, 3, 4, 5, 6, 7, 8], [2, 3, 4, 5, 6, 7, 8, 9], [0, 1, 2, 3, 4, 5, 6, 7, 8, 9, 10], [0, 1, 2, 3, 4, 5, 6, 7, 8, 9, 10, 11]] [[], [], [], [], [], [], [], [], [], [99], [], [], []] (fun x => [VIs (.pointer (some ⟨w.heap.size, 0, none⟩)), VIs (.int .i64 (P)), VIs (.agg #[.int .i64 P, .slice A n c]), VIs (.slice A0 m c0), VLs w.heap.size (pw n) P, VIs (.pointer (some ⟨g, 0, none⟩)), VIs (.pointer (some ⟨w.heap.size, 0, none⟩)), VIs (.int .i64 (P)), VIs (.int .i64 (P - 1)), VIz (P - 1), VIz P, VLs w.heap.size (pw n) P, VLs w.heap.size (pw n) P]) (fun w' => Blk w' w.heap.size 26 #[.int .i64 P, .slice A n c] ∧ Own w' 0 2 A n c (ints sq) ∧ OwnM w' w.heap.size A0 m c0 L ∧ Dr g 143 w w') (by kernel_rfl) (by kernel_rfl) (fun x x' j hx => by
              rcases j with _ | _ | _ | _ | _ | _ | _ | _ | _ | _ | _ | _ | _ | j
              · rfl
              · rfl
              · rfl
              · rfl
              · rfl
              · rfl
              · rfl
              · rfl
              · rfl
              · rfl
              · rfl
              · rfl
              · rfl
              · rfl)
            (weak_ofR [0, 1, 2, 3, 4, 5, 6, 7, 8, 9, 10, 11, 12] (by decide) (fun k hk x v w w' hp hr => by
              simp only [List.mem_cons, List.not_mem_nil, or_false] at hk
              rcases hk with rfl | rfl | rfl | rfl | rfl | rfl | rfl | rfl | rfl | rfl | rfl | rfl | rfl
              · exact hp
              · exact hp
              · exact hp
              · exact hp
              · exact VLs.dr hp hr (by decide)
              · exact hp
              · exact hp
              · exact hp
              · exact hp
              · exact hp
              · exact hp
              · exact VLs.dr hp hr (by decide)
              · exact VLs.dr hp hr (by decide))) (fun j _ _ h hb => hb.either (fun hb => ⟨h.1.below hb h.1.lt, h.2.1.below hb, h.2.2.1.below hb, h.2.2.2.then hb⟩) (fun hr => ⟨h.1.dr hr (by decide), h.2.1.dr hr (by decide), h.2.2.1.dr hr (by decide) (by decide), h.2.2.2.trans hr⟩)) (⟨K.drew, O.below (Below.refl _ _).drew, HL.out.below (Below.refl _ _).drew, HD.out.then (Below.refl _ _).drew⟩) (fun x => ?_)
          refine obs_stepR (Eq.trans (by simp only [List.getElem?_toArray, List.getElem?_cons_zero]; exact rfl) rfl) rfl (fun w' hS hV K hK => ?_) ?_
          · obtain ⟨q0, q1⟩ := hS.1.two
            go_simp
            exact hK.out _ _ _ rfl rfl rfl (Below.refl _ _)
          simp only [List.setIfInBounds_toArray, List.set_cons_zero, List.set_cons_succ]
          refine obs_stepR (Eq.trans (by simp only [List.getElem?_toArray, List.getElem?_cons_succ, List.getElem?_cons_zero]; exact rfl) rfl) rfl (fun w' hS hV K hK => ?_) ?_
          · have e0 : x 0 = (.pointer (some ⟨w.heap.size, 0, none⟩)) := hV 0 (by decide)
            obtain ⟨q0, q1⟩ := hS.1.two
            go_simp
            exact hK.out _ _ _ rfl rfl rfl (Below.refl _ _)
          simp only [List.setIfInBounds_toArray, List.set_cons_zero, List.set_cons_succ]
          refine obs_stepR (Eq.trans (by simp only [List.getElem?_toArray, List.getElem?_cons_succ, List.getElem?_cons_zero]; exact rfl) rfl) rfl (fun w' hS hV K hK => ?_) ?_
          · obtain ⟨q0, q1⟩ := hS.1.two
            go_simp
            exact hK.out _ _ _ rfl rfl rfl (Below.refl _ _)
          simp only [List.setIfInBounds_toArray, List.set_cons_zero, List.set_cons_succ]
          refine obs_stepR (Eq.trans (by simp only [List.getElem?_toArray, List.getElem?_cons_succ, List.getElem?_cons_zero]; exact rfl) rfl) rfl (fun w' hS hV K hK => ?_) ?_
          · obtain ⟨q0, q1⟩ := hS.1.two
            go_simp
            exact hK.out _ _ _ rfl rfl rfl (Below.refl _ _)
          simp only [List.setIfInBounds_toArray, List.set_cons_zero, List.set_cons_succ]
          refine obs_stepR (Eq.trans (by simp only [List.getElem?_toArray, List.getElem?_cons_succ, List.getElem?_cons_zero]; exact rfl) rfl) rfl (fun w' hS hV K hK => ?_) ?_
          · have e2 : x 2 = (.agg #[.int .i64 P, .slice A n c]) := hV 2 (by decide)
            have e3 : x 3 = (.slice A0 m c0) := hV 3 (by decide)
            obtain ⟨q0, q1⟩ := hS.1.two
            go_simp
            refine (l06Blade_any P A n c sq A0 m c0 L w' HP hn2 hn1 (by omega) hS.2.1.rd HQ.out hS.2.2.1.rd HTL.out).mono ?_
            rintro e v1 ⟨A9, c9, rfl, hM⟩
            exact hK.out _ _ _ rfl rfl ⟨_, _, _, rfl, blaL_len _ _ _ _, blaL_nums (by omega) _ _ _, hM.2.base hS.2.2.2.size⟩ hM.b
          simp only [List.setIfInBounds_toArray, List.set_cons_zero, List.set_cons_succ]
          refine obs_stepR (Eq.trans (by simp only [List.getElem?_toArray, List.getElem?_cons_succ, List.getElem?_cons_zero]; exact rfl) rfl) rfl (fun w' hS hV K hK => ?_) ?_
          · obtain ⟨q0, q1⟩ := hS.1.two
            go_simp
            exact hK.out _ _ _ rfl rfl rfl (Below.refl _ _)
          simp only [List.setIfInBounds_toArray, List.set_cons_zero, List.set_cons_succ]
          refine obs_stepR (Eq.trans (by simp only [List.getElem?_toArray, List.getElem?_cons_succ, List.getElem?_cons_zero]; exact rfl) rfl) rfl (fun w' hS hV K hK => ?_) ?_
          · obtain ⟨q0, q1⟩ := hS.1.two
            go_simp
            exact hK.out _ _ _ rfl rfl rfl (Below.refl _ _)
          simp only [List.setIfInBounds_toArray, List.set_cons_zero, List.set_cons_succ]
          refine obs_stepR (Eq.trans (by simp only [List.getElem?_toArray, List.getElem?_cons_succ, List.getElem?_cons_zero]; exact rfl) rfl) rfl (fun w' hS hV K hK => ?_) ?_
          · have e6 : x 6 = (.pointer (some ⟨w.heap.size, 0, none⟩)) := hV 6 (by decide)
            obtain ⟨q0, q1⟩ := hS.1.two
            go_simp
            exact hK.out _ _ _ rfl rfl rfl (Below.refl _ _)
          simp only [List.setIfInBounds_toArray, List.set_cons_zero, List.set_cons_succ]
          refine obs_stepR (Eq.trans (by simp only [List.getElem?_toArray, List.getElem?_cons_succ, List.getElem?_cons_zero]; exact rfl) rfl) rfl (fun w' hS hV K hK => ?_) ?_
          · have e6 : x 6 = (.pointer (some ⟨w.heap.size, 0, none⟩)) := hV 6 (by decide)
            have e7 : x 7 = (.int .i64 (P)) := hV 7 (by decide)
            obtain ⟨q0, q1⟩ := hS.1.two
            go_simp
            exact hK.out _ _ _ rfl rfl rfl (Below.refl _ _)
          simp only [List.setIfInBounds_toArray, List.set_cons_zero, List.set_cons_succ]
          refine obs_stepR (Eq.trans (by simp only [List.getElem?_toArray, List.getElem?_cons_succ, List.getElem?_cons_zero]; exact rfl) rfl) rfl (fun w' hS hV K hK => ?_) ?_
          · have e2 : x 2 = (.agg #[.int .i64 P, .slice A n c]) := hV 2 (by decide)
            have e3 : x 3 = (.slice A0 m c0) := hV 3 (by decide)
            obtain ⟨A4, c4, X4, e4, l4, u4, h4⟩ := hV 4 (by decide)
            have e5 : x 5 = (.pointer (some ⟨g, 0, none⟩)) := hV 5 (by decide)
            have e6 : x 6 = (.pointer (some ⟨w.heap.size, 0, none⟩)) := hV 6 (by decide)
            have e7 : x 7 = (.int .i64 (P)) := hV 7 (by decide)
            have e8 : x 8 = (.int .i64 (P - 1)) := hV 8 (by decide)
            obtain ⟨q0, q1⟩ := hS.1.two
            go_simp
            refine (next_any g (P - 1) w' hS.2.2.2.s' (by omega)).mono ?_
            rintro e v1 ⟨r9, rfl, t1, t2, hd9⟩
            exact hK.out _ _ _ rfl rfl ⟨r9, rfl, t1, t2 (by omega)⟩ hd9
          simp only [List.setIfInBounds_toArray, List.set_cons_zero, List.set_cons_succ]
          refine obs_stepR (Eq.trans (by simp only [List.getElem?_toArray, List.getElem?_cons_succ, List.getElem?_cons_zero]; exact rfl) rfl) rfl (fun w' hS hV K hK => ?_) ?_
          · have e2 : x 2 = (.agg #[.int .i64 P, .slice A n c]) := hV 2 (by decide)
            have e3 : x 3 = (.slice A0 m c0) := hV 3 (by decide)
            obtain ⟨A4, c4, X4, e4, l4, u4, h4⟩ := hV 4 (by decide)
            have e5 : x 5 = (.pointer (some ⟨g, 0, none⟩)) := hV 5 (by decide)
            have e6 : x 6 = (.pointer (some ⟨w.heap.size, 0, none⟩)) := hV 6 (by decide)
            have e7 : x 7 = (.int .i64 (P)) := hV 7 (by decide)
            have e8 : x 8 = (.int .i64 (P - 1)) := hV 8 (by decide)
            obtain ⟨k9, e9, b9, d9⟩ := hV 9 (by decide)
            obtain ⟨q0, q1⟩ := hS.1.two
            have W9 := i64_fit (1 + k9) (by omega) (by omega)
            go_simp
            exact hK.out _ _ _ rfl rfl ⟨_, rfl, by omega, by omega⟩ (Below.refl _ _)
          simp only [List.setIfInBounds_toArray, List.set_cons_zero, List.set_cons_succ]
          refine obs_stepR (Eq.trans (by simp only [List.getElem?_toArray, List.getElem?_cons_succ, List.getElem?_cons_zero]; exact rfl) rfl) rfl (fun w' hS hV K hK => ?_) ?_
          · have e0 : x 0 = (.pointer (some ⟨w.heap.size, 0, none⟩)) := hV 0 (by decide)
            have e1 : x 1 = (.int .i64 (P)) := hV 1 (by decide)
            have e2 : x 2 = (.agg #[.int .i64 P, .slice A n c]) := hV 2 (by decide)
            have e3 : x 3 = (.slice A0 m c0) := hV 3 (by decide)
            obtain ⟨A4, c4, X4, e4, l4, u4, h4⟩ := hV 4 (by decide)
            have e5 : x 5 = (.pointer (some ⟨g, 0, none⟩)) := hV 5 (by decide)
            have e6 : x 6 = (.pointer (some ⟨w.heap.size, 0, none⟩)) := hV 6 (by decide)
            have e7 : x 7 = (.int .i64 (P)) := hV 7 (by decide)
            have e8 : x 8 = (.int .i64 (P - 1)) := hV 8 (by decide)
            obtain ⟨k9, e9, b9, d9⟩ := hV 9 (by decide)
            obtain ⟨k10, e10, b10, d10⟩ := hV 10 (by decide)
            obtain ⟨q0, q1⟩ := hS.1.two
            go_simp
            refine (l02Scale_any P A4 (pw n) c4 k10 X4 w' (by omega) hp2 (by have : pw n ≤ 64 := pw_le hn2; omega) h4.rd u4 (by omega) (by omega)).mono ?_
            rintro e v1 ⟨A9, c9, rfl, hM⟩
            exact hK.out _ _ _ rfl rfl ⟨_, _, _, rfl, by rw [scaleL_len]; exact l4, scaleL_nums (by omega) _ _, hM.2.base hS.2.2.2.size⟩ hM.b
          simp only [List.setIfInBounds_toArray, List.set_cons_zero, List.set_cons_succ]
          refine obs_stepR (Eq.trans (by simp only [List.getElem?_toArray, List.getElem?_cons_succ, List.getElem?_cons_zero]; exact rfl) rfl) rfl (fun w' hS hV K hK => ?_) ?_
          · have e0 : x 0 = (.pointer (some ⟨w.heap.size, 0, none⟩)) := hV 0 (by decide)
            have e1 : x 1 = (.int .i64 (P)) := hV 1 (by decide)
            have e2 : x 2 = (.agg #[.int .i64 P, .slice A n c]) := hV 2 (by decide)
            have e3 : x 3 = (.slice A0 m c0) := hV 3 (by decide)
            obtain ⟨A4, c4, X4, e4, l4, u4, h4⟩ := hV 4 (by decide)
            have e5 : x 5 = (.pointer (some ⟨g, 0, none⟩)) := hV 5 (by decide)
            have e6 : x 6 = (.pointer (some ⟨w.heap.size, 0, none⟩)) := hV 6 (by decide)
            have e7 : x 7 = (.int .i64 (P)) := hV 7 (by decide)
            have e8 : x 8 = (.int .i64 (P - 1)) := hV 8 (by decide)
            obtain ⟨k9, e9, b9, d9⟩ := hV 9 (by decide)
            obtain ⟨k10, e10, b10, d10⟩ := hV 10 (by decide)
            obtain ⟨A11, c11, X11, e11, l11, u11, h11⟩ := hV 11 (by decide)
            obtain ⟨q0, q1⟩ := hS.1.two
            go_simp
            exact hK.out _ _ _ rfl rfl ⟨_, _, _, rfl, l11, u11, h11⟩ (Below.refl _ _)
          simp only [List.setIfInBounds_toArray, List.set_cons_zero, List.set_cons_succ]
          refine fun w' hS hV => ?_
          have e0 : x 0 = (.pointer (some ⟨w.heap.size, 0, none⟩)) := hV 0 (by decide)
          have e1 : x 1 = (.int .i64 (P)) := hV 1 (by decide)
          have e2 : x 2 = (.agg #[.int .i64 P, .slice A n c]) := hV 2 (by decide)
          have e3 : x 3 = (.slice A0 m c0) := hV 3 (by decide)
          obtain ⟨A4, c4, X4, e4, l4, u4, h4⟩ := hV 4 (by decide)
          have e5 : x 5 = (.pointer (some ⟨g, 0, none⟩)) := hV 5 (by decide)
          have e6 : x 6 = (.pointer (some ⟨w.heap.size, 0, none⟩)) := hV 6 (by decide)
          have e7 : x 7 = (.int .i64 (P)) := hV 7 (by decide)
          have e8 : x 8 = (.int .i64 (P - 1)) := hV 8 (by decide)
          obtain ⟨k9, e9, b9, d9⟩ := hV 9 (by decide)
          obtain ⟨k10, e10, b10, d10⟩ := hV 10 (by decide)
          obtain ⟨A11, c11, X11, e11, l11, u11, h11⟩ := hV 11 (by decide)
          obtain ⟨A12, c12, X12, e12, l12, u12, h12⟩ := hV 12 (by decide)
          simp only [e0, e1, e2, e3, e4, e5, e6, e7, e8, e9, e10, e11, e12]
          clear e0 e1 e2 e3 e4 e5 e6 e7 e8 e9 e10 e11 e12
          refine wpAny_done (by kernel_rfl) ?_ _
          obtain ⟨k6, o6, _, d6⟩ := hS
          obtain ⟨w6, rfl⟩ : ∃ W, W = w' := ⟨_, rfl⟩
          go_wp2
          go_ret
          exact ⟨_, _, _, rfl, by omega, ⟨_, h12⟩, d6⟩
set_option maxHeartbeats 6400000 in
set_option maxRecDepth 8000 in
theorem l06One_any (B : Option Addr) (nb cb : Nat) (bs : List Int) (w : World) (hnb : nb ≤ 4096) (r : Rd w B nb (bs.map (Value.int .u8))) (hbs : ∀ b ∈ bs, 0 ≤ b ∧ b < 256) (hbg : ∀ a, B = some a → a.block < w.heap.size) :
    Calls Tryz.prog 237 #[.slice B nb cb] w (Drew2 w) := by
  have hB0 : Below w.heap.size w (w.alloc (.cells #[.int .i64 0, .slice none 0 0] 26)) := (Below.refl _ _).alloc (Nat.le_refl _) _
  have k0 : Blk (w.alloc (.cells #[.int .i64 0, .slice none 0 0] 26)) w.heap.size 26 #[.int .i64 0, .slice none 0 0] := Blk.new _ _ _
  have hfr := from__any B nb cb bs (w.alloc (.cells #[.int .i64 0, .slice none 0 0] 26)) hnb (r.below hB0) hbs (fun a e => by have := hbg a e; simp; omega)
  go_enter Tryz.func237, Tryz.ntmps237
  go_wp2_with fail
  refine hfr.mono ?_
  rintro e w2 ⟨g, rfl, hg, hs2, hb2⟩
  have k2 := k0.below hb2 k0.lt
  have hB2 := hB0.trans (hb2.mono hB0.size)
  have hw := hB2.size
  have hgw : w.heap.size ≤ g := Nat.le_trans hB0.size hg
  have hsp := l03Spoil_any g w2 hs2
  clear hfr hb2 k0 hB0 hg
  go_wp2_with fail
  refine hsp.mono ?_
  rintro e w3 ⟨P, A, n, c, sq, rfl, hP, hn, hO, hd3⟩
  have d4 := hd3.alloc (.cells #[.int .i64 P, .slice A n c] 26)
  have k4 := (k2.dr hd3 (by decide)).alloc (.cells #[.int .i64 P, .slice A n c] 26)
  have kb4 : Blk (w3.alloc (.cells #[.int .i64 P, .slice A n c] 26)) w3.heap.size 26 #[.int .i64 P, .slice A n c] := Blk.new _ _ _
  have hres : w.heap.size < w3.heap.size := Nat.lt_of_lt_of_le (show w.heap.size < w2.heap.size from k2.lt) hd3.size
  have o4 := (hO.base (B' := w.heap.size) hw).below ((Below.refl _ _).alloc (Nat.le_refl _) (.cells #[.int .i64 P, .slice A n c] 26))
  clear hsp k2 hO hd3
  obtain ⟨q0, q1⟩ := kb4.two
  go_wp2
  refine wp_obsR 7 (Dr g 143) [[], [], [], [1, 2], [], [], [1, 2, 3, 4, 5], [0, 1, 2, 3, 4, 5, 6], [0, 1, 2, 3, 4, 5, 6], [0, 1, 2, 3, 4, 5, 6]] [[], [], [], [99], [], [], [99]] (fun x => [VIs (.agg #[.int .i64 P, .slice A n c]), VIs (.pointer (some ⟨g, 0, none⟩)), VIs (.agg #[.int .i64 P, .slice A n c]), VLx w.heap.size, VIs (.pointer (some ⟨g, 0, none⟩)), VIs (.agg #[.int .i64 P, .slice A n c]), VLx w.heap.size]) (fun w' => Blk w' w.heap.size 26 #[.int .i64 0, .slice none 0 0] ∧ Blk w' w3.heap.size 26 #[.int .i64 P, .slice A n c] ∧ Own w' w.heap.size 2 A n c (ints sq) ∧ Dr g 143 w2 w') (by kernel_rfl) (by kernel_rfl) (fun x x' j hx => by
      rcases j with _ | _ | _ | _ | _ | _ | _ | j
      · rfl
      · rfl
      · rfl
      · rfl
      · rfl
      · rfl
      · rfl
      · rfl)
    (weak_ofR [0, 1, 2, 3, 4, 5, 6] (by decide) (fun k hk x v w w' hp hr => by
      simp only [List.mem_cons, List.not_mem_nil, or_false] at hk
      rcases hk with rfl | rfl | rfl | rfl | rfl | rfl | rfl
      · exact hp
      · exact hp
      · exact hp
      · exact VLx.dr hp hr (by decide)
      · exact hp
      · exact hp
      · exact VLx.dr hp hr (by decide))) (fun j _ _ h hb => hb.either (fun hb => ⟨h.1.below hb h.1.lt, h.2.1.below hb h.2.1.lt, h.2.2.1.below hb, h.2.2.2.then hb⟩) (fun hr => ⟨h.1.dr hr (by decide), h.2.1.dr hr (by decide), h.2.2.1.dr hr (by decide), h.2.2.2.trans hr⟩)) (⟨k4.drew, kb4.drew, o4.below (Below.refl _ _).drew, d4.then (Below.refl _ _).drew⟩) (fun x => ?_)
  refine obs_stepR (Eq.trans (by simp only [List.getElem?_toArray, List.getElem?_cons_zero]; exact rfl) rfl) rfl (fun w' hS hV K hK => ?_) ?_
  · obtain ⟨q0, q1⟩ := hS.2.1.two
    go_simp
    exact hK.out _ _ _ rfl rfl rfl (Below.refl _ _)
  simp only [List.setIfInBounds_toArray, List.set_cons_zero, List.set_cons_succ]
  refine obs_stepR (Eq.trans (by simp only [List.getElem?_toArray, List.getElem?_cons_succ, List.getElem?_cons_zero]; exact rfl) rfl) rfl (fun w' hS hV K hK => ?_) ?_
  · obtain ⟨q0, q1⟩ := hS.2.1.two
    go_simp
    exact hK.out _ _ _ rfl rfl rfl (Below.refl _ _)
  simp only [List.setIfInBounds_toArray, List.set_cons_zero, List.set_cons_succ]
  refine obs_stepR (Eq.trans (by simp only [List.getElem?_toArray, List.getElem?_cons_succ, List.getElem?_cons_zero]; exact rfl) rfl) rfl (fun w' hS hV K hK => ?_) ?_
  · obtain ⟨q0, q1⟩ := hS.2.1.two
    go_simp
    exact hK.out _ _ _ rfl rfl rfl (Below.refl _ _)
  simp only [List.setIfInBounds_toArray, List.set_cons_zero, List.set_cons_succ]
  refine obs_stepR (Eq.trans (by simp only [List.getElem?_toArray, List.getElem?_cons_succ, List.getElem?_cons_zero]; exact rfl) rfl) rfl (fun w' hS hV K hK => ?_) ?_
  · have e1 : x 1 = (.pointer (some ⟨g, 0, none⟩)) := hV 1 (by decide)
    have e2 : x 2 = (.agg #[.int .i64 P, .slice A n c]) := hV 2 (by decide)
    obtain ⟨q0, q1⟩ := hS.2.1.two
    go_simp
    refine (l06Draw_any g P A n c sq w' hS.2.2.2.s' (by omega) (hS.2.2.1.base (Nat.zero_le _))).mono ?_
    rintro e v1 ⟨A9, m9, c9, rfl, hm9, ⟨xs9, ho9⟩, hd9⟩
    exact hK.out _ _ _ rfl rfl ⟨_, _, _, xs9, rfl, hm9, ho9.base (Nat.le_trans hw hS.2.2.2.size)⟩ hd9
  simp only [List.setIfInBounds_toArray, List.set_cons_zero, List.set_cons_succ]
  refine obs_stepR (Eq.trans (by simp only [List.getElem?_toArray, List.getElem?_cons_succ, List.getElem?_cons_zero]; exact rfl) rfl) rfl (fun w' hS hV K hK => ?_) ?_
  · obtain ⟨q0, q1⟩ := hS.2.1.two
    go_simp
    exact hK.out _ _ _ rfl rfl rfl (Below.refl _ _)
  simp only [List.setIfInBounds_toArray, List.set_cons_zero, List.set_cons_succ]
  refine obs_stepR (Eq.trans (by simp only [List.getElem?_toArray, List.getElem?_cons_succ, List.getElem?_cons_zero]; exact rfl) rfl) rfl (fun w' hS hV K hK => ?_) ?_
  · obtain ⟨q0, q1⟩ := hS.2.1.two
    go_simp
    exact hK.out _ _ _ rfl rfl rfl (Below.refl _ _)
  simp only [List.setIfInBounds_toArray, List.set_cons_zero, List.set_cons_succ]
  refine obs_stepR (Eq.trans (by simp only [List.getElem?_toArray, List.getElem?_cons_succ, List.getElem?_cons_zero]; exact rfl) rfl) rfl (fun w' hS hV K hK => ?_) ?_
  · have e1 : x 1 = (.pointer (some ⟨g, 0, none⟩)) := hV 1 (by decide)
    have e2 : x 2 = (.agg #[.int .i64 P, .slice A n c]) := hV 2 (by decide)
    obtain ⟨A3, m3, c3, X3, e3, l3, h3⟩ := hV 3 (by decide)
    have e4 : x 4 = (.pointer (some ⟨g, 0, none⟩)) := hV 4 (by decide)
    have e5 : x 5 = (.agg #[.int .i64 P, .slice A n c]) := hV 5 (by decide)
    obtain ⟨q0, q1⟩ := hS.2.1.two
    go_simp
    refine (l03DrawVector_any g P A n c w' hS.2.2.2.s' (by omega) (by omega)).mono ?_
    rintro e v1 ⟨A9, m9, c9, xs9, rfl, hm9, ho9, hd9⟩
    exact hK.out _ _ _ rfl rfl ⟨_, _, _, xs9, rfl, by omega, ho9.base (Nat.le_trans hw hS.2.2.2.size)⟩ hd9
  simp only [List.setIfInBounds_toArray, List.set_cons_zero, List.set_cons_succ]
  refine fun w' hS hV => ?_
  have e0 : x 0 = (.agg #[.int .i64 P, .slice A n c]) := hV 0 (by decide)
  have e1 : x 1 = (.pointer (some ⟨g, 0, none⟩)) := hV 1 (by decide)
  have e2 : x 2 = (.agg #[.int .i64 P, .slice A n c]) := hV 2 (by decide)
  obtain ⟨A3, m3, c3, X3, e3, l3, h3⟩ := hV 3 (by decide)
  have e4 : x 4 = (.pointer (some ⟨g, 0, none⟩)) := hV 4 (by decide)
  have e5 : x 5 = (.agg #[.int .i64 P, .slice A n c]) := hV 5 (by decide)
  obtain ⟨A6, m6, c6, X6, e6, l6, h6⟩ := hV 6 (by decide)
  simp only [e0, e1, e2, e3, e4, e5, e6]
  clear e0 e1 e2 e3 e4 e5 e6
  obtain ⟨k5, kb5, o5, d5⟩ := hS
  obtain ⟨w6, rfl⟩ : ∃ W, W = w' := ⟨_, rfl⟩
  clear q0 q1 k4 kb4 o4 d4
  obtain ⟨p0, p1⟩ := k5.two
  have f0 := k5.frozen 0
  have f1 := k5.frozen 1
  refine any_one (j := 7) (by kernel_rfl) (Eq.trans (by simp only [List.getElem?_toArray, List.getElem?_cons_succ, List.getElem?_cons_zero]; exact rfl) rfl) (fun K hK => ?_)
  go_simp
  refine hK.out _ _ (any_one (j := 8) (by kernel_rfl) (Eq.trans (by simp only [List.getElem?_toArray, List.getElem?_cons_succ, List.getElem?_cons_zero]; exact rfl) rfl) (fun K hK => ?_))
  go_simp
  refine hK.out _ _ (any_one (j := 9) (by kernel_rfl) (Eq.trans (by simp only [List.getElem?_toArray, List.getElem?_cons_succ, List.getElem?_cons_zero]; exact rfl) rfl) (fun K hK => ?_))
  go_simp
  refine hK.out _ _ (wpAny_done (by kernel_rfl) ?_ _)
  have hf : ∀ {m d : Nat} {A2 : Option Addr} {xs : List Int}, Own w6 w.heap.size 2 A2 m d (ints xs) → Own ((w6.setCell ⟨w.heap.size, 0, none⟩ (.int .i64 P)).setCell ⟨w.heap.size, 1, none⟩ (.slice A n c)) w.heap.size 2 A2 m d (ints xs) := by
    intro m c' A' xs ho
    exact (ho.far k5 (by decide) 0 _).far (k5.set_ 0 (.int .i64 P)) (by decide) 1 _
  go_wp2
  exact bodyPost_ret (v := .tuple #[.agg #[.int .i64 P, .slice A n c], .slice A3 m3 c3, .slice A6 m6 c6]) (by simp [results, Tryz.results237, go_sem, p0, p1]) rfl ⟨P, A, n, c, sq, A3, m3, c3, X3, A6, m6, c6, X6, rfl, hP, hn, l3, l6, hf o5, hf h3, hf h6, hB2.trans (((d5.b.mono hgw).setCell (p := ⟨w.heap.size, 0, none⟩) (Nat.le_refl _) _).setCell (p := ⟨w.heap.size, 1, none⟩) (Nat.le_refl _) _)⟩
set_option maxHeartbeats 12800000 in
set_option maxRecDepth 8000 in
theorem DrawBladeContains_any (B : Option Addr) (nb cb : Nat) (bs : List Int) (w : World) (hnb : nb ≤ 4096) (r : Rd w B nb (bs.map (Value.int .u8))) (hbs : ∀ b ∈ bs, 0 ≤ b ∧ b < 256) (hbg : ∀ a, B = some a → a.block < w.heap.size) :
    Calls Tryz.prog 85 #[.slice B nb cb] w (Drew2 w) := by
  have hB0 : Below w.heap.size w (w.alloc (.cells #[.int .i64 0, .slice none 0 0] 26)) := (Below.refl _ _).alloc (Nat.le_refl _) _
  have k0 : Blk (w.alloc (.cells #[.int .i64 0, .slice none 0 0] 26)) w.heap.size 26 #[.int .i64 0, .slice none 0 0] := Blk.new _ _ _
  have hfr := from__any B nb cb bs (w.alloc (.cells #[.int .i64 0, .slice none 0 0] 26)) hnb (r.below hB0) hbs (fun a e => by have := hbg a e; simp; omega)
  go_enter Tryz.func85, Tryz.ntmps85
  go_wp2_with fail
  refine hfr.mono ?_
  rintro e w2 ⟨g, rfl, hg, hs2, hb2⟩
  have k2 := k0.below hb2 k0.lt
  have hB2 := hB0.trans (hb2.mono hB0.size)
  have hw := hB2.size
  have hgw : w.heap.size ≤ g := Nat.le_trans hB0.size hg
  have hon := l06One_any B nb cb bs w2 hnb (r.below hB2) hbs (fun a e => Nat.lt_of_lt_of_le (hbg a e) hw)
  clear hfr hb2 k0 hB0 hg
  go_wp2_with fail
  refine hon.mono ?_
  rintro e w3 ⟨P, A, n, c, sq, A1, m1, c1, xs, A2, m2, c2, ys, rfl, hP, hn, hm1, hm2, hO, hX, hY, hb3⟩
  have d5 := (Dr.of_below hs2 hb3).alloc (.cells #[.int .i64 P, .slice A n c] 26)
  have k5 := (k2.below hb3 k2.lt).alloc (.cells #[.int .i64 P, .slice A n c] 26)
  have kb5 : Blk (w3.alloc (.cells #[.int .i64 P, .slice A n c] 26)) w3.heap.size 26 #[.int .i64 P, .slice A n c] := Blk.new _ _ _
  have ha : Below w3.heap.size w3 (w3.alloc (.cells #[.int .i64 P, .slice A n c] 26)) := (Below.refl _ _).alloc (Nat.le_refl _) _
  have o5 := (hO.base (B' := w.heap.size) hw).below ha
  have x5 := (hX.base (B' := w.heap.size) hw).below ha
  have y5 := (hY.base (B' := w.heap.size) hw).below ha
  have hres : w.heap.size < w3.heap.size := Nat.lt_of_lt_of_le k2.lt hb3.size
  clear hon k2 hs2 hO hX hY ha hb3
  have hsl := o5.rd.lenI
  cases h1 : isSp P sq && isMu P sq xs
  · have his := l04Is_b P A A1 n c m1 c1 sq xs _ (by omega) (by omega) o5.rd x5.rd h1
    clear h1 hsl
    obtain ⟨q0, q1⟩ := kb5.two
    go_wp2_with fail
    refine his.mono ?_
    rintro e w7 ⟨rfl, hb7⟩
    replace d5 := d5.then hb7
    replace k5 := k5.below hb7 k5.lt
    replace kb5 := kb5.below hb7 kb5.lt
    replace o5 := o5.below hb7
    replace x5 := x5.below hb7
    replace y5 := y5.below hb7
    clear his hb7 q0 q1
    obtain ⟨q0, q1⟩ := kb5.two
    obtain ⟨p0, p1⟩ := k5.two
    have f0 := k5.frozen 0
    have f1 := k5.frozen 1
    obtain ⟨w6, rfl⟩ : ∃ W, W = w7 := ⟨_, rfl⟩
    have hf : ∀ {m d : Nat} {A2 : Option Addr} {xs : List Int}, Own w6 w.heap.size 2 A2 m d (ints xs) → Own ((w6.setCell ⟨w.heap.size, 0, none⟩ (.int .i64 P)).setCell ⟨w.heap.size, 1, none⟩ (.slice A n c)) w.heap.size 2 A2 m d (ints xs) := by
      intro m c' A' xs ho
      exact (ho.far k5 (by decide) 0 _).far (k5.set_ 0 (.int .i64 P)) (by decide) 1 _
    go_wp2
    exact bodyPost_ret (v := .tuple #[.agg #[.int .i64 P, .slice A n c], .slice A1 m1 c1, .slice A2 m2 c2]) (by simp [results, Tryz.results85, go_sem, p0, p1]) rfl ⟨P, A, n, c, sq, A1, m1, c1, xs, A2, m2, c2, ys, rfl, hP, hn, by omega, by omega, hf o5, hf x5, hf y5, hB2.trans (((d5.b.mono hgw).setCell (p := ⟨w.heap.size, 0, none⟩) (Nat.le_refl _) _).setCell (p := ⟨w.heap.size, 1, none⟩) (Nat.le_refl _) _)⟩
  · have his := l04Is_b P A A1 n c m1 c1 sq xs _ (by omega) (by omega) o5.rd x5.rd h1
    rw [Bool.and_eq_true] at h1
    obtain ⟨HP, hn1, hn2, hq⟩ := isSp_dim h1.1
    obtain ⟨hp3, hp2⟩ := isP_ge HP
    have HQ := Lib.hid (nums_drawn hq)
    obtain ⟨hxl, hxn⟩ := isMu_spec3 h1.2
    rw [hsl] at hn1 hn2 hxl
    have HXN := Lib.hid hxn
    obtain rfl : m1 = pw n := by rw [← x5.rd.lenI, hxl]
    have hpw : pw n ≤ 64 := pw_le hn2
    clear h1 hq hxl hxn hsl
    obtain ⟨q0, q1⟩ := kb5.two
    go_wp2_with fail
    refine his.mono ?_
    rintro e w7 ⟨rfl, hb7⟩
    replace d5 := d5.then hb7
    replace k5 := k5.below hb7 k5.lt
    replace kb5 := kb5.below hb7 kb5.lt
    replace o5 := o5.below hb7
    replace x5 := x5.below hb7
    replace y5 := y5.below hb7
    clear his hb7 q0 q1
    have hbl := l06Is_any P A n c sq A1 c1 xs w7 HP hn2 hn1 o5.rd HQ.out x5.rd HXN.out
    cases hb : isBl P sq n xs
    · rw [hb] at hbl
      clear hb
      obtain ⟨q0, q1⟩ := kb5.two
      go_wp2_with fail
      refine hbl.mono ?_
      rintro e w8 ⟨rfl, hb7⟩
      replace d5 := d5.then hb7
      replace k5 := k5.below hb7 k5.lt
      replace kb5 := kb5.below hb7 kb5.lt
      replace o5 := o5.below hb7
      replace x5 := x5.below hb7
      replace y5 := y5.below hb7
      clear hbl hb7 q0 q1
      obtain ⟨q0, q1⟩ := kb5.two
      obtain ⟨p0, p1⟩ := k5.two
      have f0 := k5.frozen 0
      have f1 := k5.frozen 1
      obtain ⟨w6, rfl⟩ : ∃ W, W = w8 := ⟨_, rfl⟩
      have hf : ∀ {m d : Nat} {A2 : Option Addr} {xs : List Int}, Own w6 w.heap.size 2 A2 m d (ints xs) → Own ((w6.setCell ⟨w.heap.size, 0, none⟩ (.int .i64 P)).setCell ⟨w.heap.size, 1, none⟩ (.slice A n c)) w.heap.size 2 A2 m d (ints xs) := by
        intro m c' A' xs ho
        exact (ho.far k5 (by decide) 0 _).far (k5.set_ 0 (.int .i64 P)) (by decide) 1 _
      go_wp2
      exact bodyPost_ret (v := .tuple #[.agg #[.int .i64 P, .slice A n c], .slice A1 (pw n) c1, .slice A2 m2 c2]) (by simp [results, Tryz.results85, go_sem, p0, p1]) rfl ⟨P, A, n, c, sq, A1, (pw n), c1, xs, A2, m2, c2, ys, rfl, hP, hn, by omega, by omega, hf o5, hf x5, hf y5, hB2.trans (((d5.b.mono hgw).setCell (p := ⟨w.heap.size, 0, none⟩) (Nat.le_refl _) _).setCell (p := ⟨w.heap.size, 1, none⟩) (Nat.le_refl _) _)⟩
    · rw [hb] at hbl
      clear hb
      obtain ⟨q0, q1⟩ := kb5.two
      go_wp2_with fail
      refine hbl.mono ?_
      rintro e w8 ⟨rfl, hb7⟩
      replace d5 := d5.then hb7
      replace k5 := k5.below hb7 k5.lt
      replace kb5 := kb5.below hb7 kb5.lt
      replace o5 := o5.below hb7
      replace x5 := x5.below hb7
      replace y5 := y5.below hb7
      clear hbl hb7 q0 q1
      have hnx := next_any g 2 w8 d5.s' (by omega)
      go_wp2_with fail
      refine hnx.mono ?_
      rintro e w9 ⟨r8, rfl, _, _, hd8⟩
      replace d5 := d5.trans hd8
      replace k5 := k5.dr hd8 (by decide)
      replace kb5 := kb5.dr hd8 (by decide)
      replace o5 := o5.dr hd8 (by decide)
      replace x5 := x5.dr hd8 (by decide)
      replace y5 := y5.dr hd8 (by decide)
      clear hnx hd8
      by_cases h8 : r8 = 0
      · have e8 : (r8 == 0) = true := by simp [h8]
        have hM := Mk.made (E := 2) (n := n) (z := .int .i64 0) (Below.refl w9.heap.size w9) (by simp only [maxLen]; omega)
        rw [ints_replicate] at hM
        have d6 := d5.then hM.1
        have k6 := k5.below hM.1 k5.lt
        have kb6 := kb5.below hM.1 kb5.lt
        have o6 := o5.below hM.1
        have x6 := x5.below hM.1
        have z6 := hM.2.base (B' := w.heap.size) (Nat.le_trans hw d5.size)
        have hsb := l06Subspace_any P A n c sq A1 c1 xs _ HP hn2 hn1 o6.rd HQ.out x6.rd HXN.out
        have hTL0 : Tab P n (subL P sq n xs) := by unfold subL; exact kernL_tab (by omega) _ _
        have hlen0 : (subL P sq n xs).length ≤ n := by unfold subL; exact kernL_len HP _ _
        obtain ⟨L, hL⟩ : ∃ L, L = subL P sq n xs := ⟨_, rfl⟩
        rw [← hL] at hsb hTL0 hlen0
        have HTL := Lib.hid hTL0
        obtain ⟨m, hm⟩ : ∃ m, m = L.length := ⟨_, rfl⟩
        rw [← hm] at hsb hlen0
        obtain ⟨q0, q1⟩ := kb5.two
        obtain ⟨q2, q3⟩ := kb6.two
        have hmk := make_i (P := Tryz.prog) 24 2 Tryz.underlying24 info_i n (by omega)
        clear hM hL hm hTL0 d5 k5 kb5 o5 x5 y5
        go_wp2_with fail
        refine hsb.mono ?_
        rintro e w10 ⟨AL, cl, rfl, hLM⟩
        have hb7 := hLM.b
        have D6 := d6.then hb7
        have K6 := k6.below hb7 k6.lt
        have KB6 := kb6.below hb7 kb6.lt
        have O6 := o6.below hb7
        have X6 := x6.below hb7
        have Z6 := z6.below hb7
        have L6 := (OwnM.of hLM).base (B' := w.heap.size) (Nat.le_trans hw d6.size)
        clear hsb hb7 hLM d6 k6 kb6 o6 x6 z6 q0 q1 q2 q3 hmk
        go_wp2
        go_loopw [8, 10] (fun l i wr => ∃ (j : Nat) (A3 : Option Addr) (c3 : Nat) (vs : List Int), j ≤ m ∧ i = .int .i64 j ∧ l = .slice A3 n c3 ∧ (vs.length = n ∧ NumsL P vs) ∧ Own wr w.heap.size 2 A3 n c3 (ints vs) ∧ Dr g 143 w2 wr ∧ Blk wr w.heap.size 26 #[.int .i64 0, .slice none 0 0] ∧ Blk wr w3.heap.size 26 #[.int .i64 P, .slice A n c] ∧ Own wr w.heap.size 2 A n c (ints sq) ∧ Own wr w.heap.size 2 A1 (pw n) c1 (ints xs) ∧ OwnM wr w.heap.size AL m cl L) (fun _ i _ => m - (intOf i).toNat)
        case atStart => exact ⟨0, _, _, List.replicate n 0, by omega, rfl, rfl, ⟨List.length_replicate, NumsL.replicate (by omega) n⟩, Z6, D6, K6, KB6, O6, X6, L6⟩
        case round =>
          obtain ⟨j, A3, c3, vs, hj, rfl, rfl, hvn, hO3, hD, k5, kb, o5, x5, hLL⟩ := hrel
          clear D6 K6 KB6 O6 X6 Z6 L6
          have HVN := Lib.hid hvn
          clear hvn
          by_cases hlt : j < m
          · obtain ⟨gl, ol, hx, Ar, cr, rfl, hol, hrow, hr0⟩ := hLL.at_ hlt
            have hrt := HTL.out L[j] (List.getElem_mem hx)
            rw [hrt.1] at hrow hr0
            obtain ⟨vr, hvr⟩ : ∃ v, v = L[j] := ⟨_, rfl⟩
            rw [← hvr] at hr0 hrt
            have HRN := Lib.hid hrt.2
            have hr := hr0.base (B' := 0) (Nat.zero_le _)
            clear hrt hvr hr0 hx hol
            have b1 : (0 : Int) ≤ (j : Int) := by omega
            have b2 : (j : Int) < (m : Int) := by omega
            obtain ⟨q0, q1⟩ := kb.two
            go_wp2
            refine wp_obsR 12 (Dr g 143) [[], [0], [], [], [], [3, 4], [3, 4, 5], [], [], [8], [7, 8, 9], [0, 1, 2, 3, 4, 5, 6, 7, 8, 9, 10], [0, 1, 2, 3, 4, 5, 6, 7, 8, 9, 10, 11]] [[], [], [], [], [], [], [], [], [], [], [99], []] (fun x => [VIs (.pointer (some ⟨w3.heap.size, 0, none⟩)), VIs (.int .i64 (P)), VIs (.slice A3 n c3), VIs (.slice (some ⟨gl, ol, none⟩) m cl), VIs (.int .i64 (j)), VIs (.pointer (some ⟨gl, ol + j, none⟩)), VIs (.slice Ar n cr), VIs (.pointer (some ⟨g, 0, none⟩)), VIs (.pointer (some ⟨w3.heap.size, 0, none⟩)), VIs (.int .i64 (P)), VIz P, VLs wr.heap.size n P]) (fun w' => RowAt w' ⟨gl, ol + j, none⟩ (.slice Ar n cr) ∧ Blk w' w3.heap.size 26 #[.int .i64 P, .slice A n c] ∧ Own w' w.heap.size 2 A3 n c3 (ints vs) ∧ Own w' 0 2 Ar n cr (ints vr) ∧ Dr g 143 wr w') (by kernel_rfl) (by kernel_rfl) (fun x x' j hx => by
                rcases j with _ | _ | _ | _ | _ | _ | _ | _ | _ | _ | _ | _ | j
                · rfl
                · rfl
                · rfl
                · rfl
                · rfl
                · rfl
                · rfl
                · rfl
                · rfl
                · rfl
                · rfl
                · rfl
                · rfl)
              (weak_ofR [0, 1, 2, 3, 4, 5, 6, 7, 8, 9, 10, 11] (by decide) (fun k hk x v w w' hp hr => by
                simp only [List.mem_cons, List.not_mem_nil, or_false] at hk
                rcases hk with rfl | rfl | rfl | rfl | rfl | rfl | rfl | rfl | rfl | rfl | rfl | rfl
                · exact hp
                · exact hp
                · exact hp
                · exact hp
                · exact hp
                · exact hp
                · exact hp
                · exact hp
                · exact hp
                · exact hp
                · exact hp
                · exact VLs.dr hp hr (by decide))) (fun j _ _ h hb => hb.either (fun hb => ⟨h.1.below hb, h.2.1.below hb h.2.1.lt, h.2.2.1.below hb, h.2.2.2.1.below hb, h.2.2.2.2.then hb⟩) (fun hr => ⟨h.1.dr hr (by decide), h.2.1.dr hr (by decide), h.2.2.1.dr hr (by decide), h.2.2.2.1.dr hr (by decide), h.2.2.2.2.trans hr⟩)) (⟨hrow.below (Below.refl _ _).drew, kb.drew, hO3.below (Below.refl _ _).drew, hr.below (Below.refl _ _).drew, (Dr.refl hD.s').then (Below.refl _ _).drew⟩) (fun x => ?_)
            refine obs_stepR (Eq.trans (by simp only [List.getElem?_toArray, List.getElem?_cons_zero]; exact rfl) rfl) rfl (fun w' hS hV K hK => ?_) ?_
            · have q2 := hS.1.cell; obtain ⟨q0, q1⟩ := hS.2.1.two
              go_simp
              exact hK.out _ _ _ rfl rfl rfl (Below.refl _ _)
            simp only [List.setIfInBounds_toArray, List.set_cons_zero, List.set_cons_succ]
            refine obs_stepR (Eq.trans (by simp only [List.getElem?_toArray, List.getElem?_cons_succ, List.getElem?_cons_zero]; exact rfl) rfl) rfl (fun w' hS hV K hK => ?_) ?_
            · have e0 : x 0 = (.pointer (some ⟨w3.heap.size, 0, none⟩)) := hV 0 (by decide)
              have q2 := hS.1.cell; obtain ⟨q0, q1⟩ := hS.2.1.two
              go_simp
              exact hK.out _ _ _ rfl rfl rfl (Below.refl _ _)
            simp only [List.setIfInBounds_toArray, List.set_cons_zero, List.set_cons_succ]
            refine obs_stepR (Eq.trans (by simp only [List.getElem?_toArray, List.getElem?_cons_succ, List.getElem?_cons_zero]; exact rfl) rfl) rfl (fun w' hS hV K hK => ?_) ?_
            · have q2 := hS.1.cell; obtain ⟨q0, q1⟩ := hS.2.1.two
              go_simp
              exact hK.out _ _ _ rfl rfl rfl (Below.refl _ _)
            simp only [List.setIfInBounds_toArray, List.set_cons_zero, List.set_cons_succ]
            refine obs_stepR (Eq.trans (by simp only [List.getElem?_toArray, List.getElem?_cons_succ, List.getElem?_cons_zero]; exact rfl) rfl) rfl (fun w' hS hV K hK => ?_) ?_
            · have q2 := hS.1.cell; obtain ⟨q0, q1⟩ := hS.2.1.two
              go_simp
              exact hK.out _ _ _ rfl rfl rfl (Below.refl _ _)
            simp only [List.setIfInBounds_toArray, List.set_cons_zero, List.set_cons_succ]
            refine obs_stepR (Eq.trans (by simp only [List.getElem?_toArray, List.getElem?_cons_succ, List.getElem?_cons_zero]; exact rfl) rfl) rfl (fun w' hS hV K hK => ?_) ?_
            · have q2 := hS.1.cell; obtain ⟨q0, q1⟩ := hS.2.1.two
              go_simp
              exact hK.out _ _ _ rfl rfl rfl (Below.refl _ _)
            simp only [List.setIfInBounds_toArray, List.set_cons_zero, List.set_cons_succ]
            refine obs_stepR (Eq.trans (by simp only [List.getElem?_toArray, List.getElem?_cons_succ, List.getElem?_cons_zero]; exact rfl) rfl) rfl (fun w' hS hV K hK => ?_) ?_
            · have e3 : x 3 = (.slice (some ⟨gl, ol, none⟩) m cl) := hV 3 (by decide)
              have e4 : x 4 = (.int .i64 (j)) := hV 4 (by decide)
              have q2 := hS.1.cell; obtain ⟨q0, q1⟩ := hS.2.1.two
              go_simp
              exact hK.out _ _ _ rfl rfl rfl (Below.refl _ _)
            simp only [List.setIfInBounds_toArray, List.set_cons_zero, List.set_cons_succ]
            refine obs_stepR (Eq.trans (by simp only [List.getElem?_toArray, List.getElem?_cons_succ, List.getElem?_cons_zero]; exact rfl) rfl) rfl (fun w' hS hV K hK => ?_) ?_
            · have e3 : x 3 = (.slice (some ⟨gl, ol, none⟩) m cl) := hV 3 (by decide)
              have e4 : x 4 = (.int .i64 (j)) := hV 4 (by decide)
              have e5 : x 5 = (.pointer (some ⟨gl, ol + j, none⟩)) := hV 5 (by decide)
              have q2 := hS.1.cell; obtain ⟨q0, q1⟩ := hS.2.1.two
              go_simp
              exact hK.out _ _ _ rfl rfl rfl (Below.refl _ _)
            simp only [List.setIfInBounds_toArray, List.set_cons_zero, List.set_cons_succ]
            refine obs_stepR (Eq.trans (by simp only [List.getElem?_toArray, List.getElem?_cons_succ, List.getElem?_cons_zero]; exact rfl) rfl) rfl (fun w' hS hV K hK => ?_) ?_
            · have q2 := hS.1.cell; obtain ⟨q0, q1⟩ := hS.2.1.two
              go_simp
              exact hK.out _ _ _ rfl rfl rfl (Below.refl _ _)
            simp only [List.setIfInBounds_toArray, List.set_cons_zero, List.set_cons_succ]
            refine obs_stepR (Eq.trans (by simp only [List.getElem?_toArray, List.getElem?_cons_succ, List.getElem?_cons_zero]; exact rfl) rfl) rfl (fun w' hS hV K hK => ?_) ?_
            · have q2 := hS.1.cell; obtain ⟨q0, q1⟩ := hS.2.1.two
              go_simp
              exact hK.out _ _ _ rfl rfl rfl (Below.refl _ _)
            simp only [List.setIfInBounds_toArray, List.set_cons_zero, List.set_cons_succ]
            refine obs_stepR (Eq.trans (by simp only [List.getElem?_toArray, List.getElem?_cons_succ, List.getElem?_cons_zero]; exact rfl) rfl) rfl (fun w' hS hV K hK => ?_) ?_
            · have e8 : x 8 = (.pointer (some ⟨w3.heap.size, 0, none⟩)) := hV 8 (by decide)
              have q2 := hS.1.cell; obtain ⟨q0, q1⟩ := hS.2.1.two
              go_simp
              exact hK.out _ _ _ rfl rfl rfl (Below.refl _ _)
            simp only [List.setIfInBounds_toArray, List.set_cons_zero, List.set_cons_succ]
            refine obs_stepR (Eq.trans (by simp only [List.getElem?_toArray, List.getElem?_cons_succ, List.getElem?_cons_zero]; exact rfl) rfl) rfl (fun w' hS hV K hK => ?_) ?_
            · have e7 : x 7 = (.pointer (some ⟨g, 0, none⟩)) := hV 7 (by decide)
              have e8 : x 8 = (.pointer (some ⟨w3.heap.size, 0, none⟩)) := hV 8 (by decide)
              have e9 : x 9 = (.int .i64 (P)) := hV 9 (by decide)
              have q2 := hS.1.cell; obtain ⟨q0, q1⟩ := hS.2.1.two
              go_simp
              refine (next_any g P w' hS.2.2.2.2.s' (by omega)).mono ?_
              rintro e v1 ⟨r9, rfl, t1, t2, hd9⟩
              exact hK.out _ _ _ rfl rfl ⟨r9, rfl, t1, t2 (by omega)⟩ hd9
            simp only [List.setIfInBounds_toArray, List.set_cons_zero, List.set_cons_succ]
            refine obs_stepR (Eq.trans (by simp only [List.getElem?_toArray, List.getElem?_cons_succ, List.getElem?_cons_zero]; exact rfl) rfl) rfl (fun w' hS hV K hK => ?_) ?_
            · have e0 : x 0 = (.pointer (some ⟨w3.heap.size, 0, none⟩)) := hV 0 (by decide)
              have e1 : x 1 = (.int .i64 (P)) := hV 1 (by decide)
              have e2 : x 2 = (.slice A3 n c3) := hV 2 (by decide)
              have e3 : x 3 = (.slice (some ⟨gl, ol, none⟩) m cl) := hV 3 (by decide)
              have e4 : x 4 = (.int .i64 (j)) := hV 4 (by decide)
              have e5 : x 5 = (.pointer (some ⟨gl, ol + j, none⟩)) := hV 5 (by decide)
              have e6 : x 6 = (.slice Ar n cr) := hV 6 (by decide)
              have e7 : x 7 = (.pointer (some ⟨g, 0, none⟩)) := hV 7 (by decide)
              have e8 : x 8 = (.pointer (some ⟨w3.heap.size, 0, none⟩)) := hV 8 (by decide)
              have e9 : x 9 = (.int .i64 (P)) := hV 9 (by decide)
              obtain ⟨k10, e10, b10, d10⟩ := hV 10 (by decide)
              have q2 := hS.1.cell; obtain ⟨q0, q1⟩ := hS.2.1.two
              go_simp
              refine (l02Plus_any P A3 n c3 Ar n cr k10 vs vr w' (by omega) hp2 (by omega) (Nat.le_refl _) hS.2.2.1.rd HVN.out.2 hS.2.2.2.1.rd HRN.out (by omega) (by omega)).mono ?_
              rintro e v1 ⟨A9, c9, rfl, hM⟩
              exact hK.out _ _ _ rfl rfl ⟨_, _, _, rfl, by rw [plusL_len]; exact HVN.out.1, plusL_nums (by omega) _ _ _, hM.2.base hS.2.2.2.2.size⟩ hM.b
            simp only [List.setIfInBounds_toArray, List.set_cons_zero, List.set_cons_succ]
            refine fun w' hS hV => ?_
            have e0 : x 0 = (.pointer (some ⟨w3.heap.size, 0, none⟩)) := hV 0 (by decide)
            have e1 : x 1 = (.int .i64 (P)) := hV 1 (by decide)
            have e2 : x 2 = (.slice A3 n c3) := hV 2 (by decide)
            have e3 : x 3 = (.slice (some ⟨gl, ol, none⟩) m cl) := hV 3 (by decide)
            have e4 : x 4 = (.int .i64 (j)) := hV 4 (by decide)
            have e5 : x 5 = (.pointer (some ⟨gl, ol + j, none⟩)) := hV 5 (by decide)
            have e6 : x 6 = (.slice Ar n cr) := hV 6 (by decide)
            have e7 : x 7 = (.pointer (some ⟨g, 0, none⟩)) := hV 7 (by decide)
            have e8 : x 8 = (.pointer (some ⟨w3.heap.size, 0, none⟩)) := hV 8 (by decide)
            have e9 : x 9 = (.int .i64 (P)) := hV 9 (by decide)
            obtain ⟨k10, e10, b10, d10⟩ := hV 10 (by decide)
            obtain ⟨A11, c11, X11, e11, l11, u11, h11⟩ := hV 11 (by decide)
            simp only [e0, e1, e2, e3, e4, e5, e6, e7, e8, e9, e10, e11]
            clear e0 e1 e2 e3 e4 e5 e6 e7 e8 e9 e10 e11
            refine any_one (j := 12) (by kernel_rfl) (Eq.trans (by simp only [List.getElem?_toArray, List.getElem?_cons_succ, List.getElem?_cons_zero]; exact rfl) rfl) (fun K hK => ?_)
            go_simp
            refine hK.out _ _ (wpAny_done (by kernel_rfl) ?_ _)
            obtain ⟨_, _, _, _, hd9⟩ := hS
            obtain ⟨w12, rfl⟩ : ∃ W, W = w' := ⟨_, rfl⟩
            have HMN := Lib.hid (h11.base (B' := w.heap.size) (Nat.le_trans hw hD.size))
            have k7 := k5.dr hd9 (by decide)
            have kb7 := kb.dr hd9 (by decide)
            have o7 := o5.dr hd9 (by decide)
            have x7 := x5.dr hd9 (by decide)
            have l7 := hLL.dr hd9 (by decide) (by decide)
            have d7 := hD.trans hd9
            clear h11 hrow hr hO3 hD k5 kb o5 x5 hLL hd9
            go_wp2
            go_roundw
            case rel => exact ⟨j + 1, A11, c11, X11, by omega, by go_num, rfl, ⟨l11, u11⟩, HMN.out, d7, k7, kb7, o7, x7, l7⟩
            case measure => simp [intOf]; omega
          · have t2 : decide ((j : Int) < (m : Int)) = false := by simp; omega
            have y5 := hO3
            have d5 := hD
            have kb5 := kb
            clear hLL hO3 hD kb HVN
            obtain ⟨q0, q1⟩ := kb5.two
            obtain ⟨p0, p1⟩ := k5.two
            have f0 := k5.frozen 0
            have f1 := k5.frozen 1
            obtain ⟨w6, rfl⟩ : ∃ W, W = wr := ⟨_, rfl⟩
            have hf : ∀ {m d : Nat} {A2 : Option Addr} {xs : List Int}, Own w6 w.heap.size 2 A2 m d (ints xs) → Own ((w6.setCell ⟨w.heap.size, 0, none⟩ (.int .i64 P)).setCell ⟨w.heap.size, 1, none⟩ (.slice A n c)) w.heap.size 2 A2 m d (ints xs) := by
              intro m c' A' xs ho
              exact (ho.far k5 (by decide) 0 _).far (k5.set_ 0 (.int .i64 P)) (by decide) 1 _
            go_wp2
            exact bodyPost_ret (v := .tuple #[.agg #[.int .i64 P, .slice A n c], .slice A1 (pw n) c1, .slice A3 n c3]) (by simp [results, Tryz.results85, go_sem, p0, p1]) rfl ⟨P, A, n, c, sq, A1, (pw n), c1, xs, A3, n, c3, vs, rfl, hP, hn, by omega, by omega, hf o5, hf x5, hf y5, hB2.trans (((d5.b.mono hgw).setCell (p := ⟨w.heap.size, 0, none⟩) (Nat.le_refl _) _).setCell (p := ⟨w.heap.size, 1, none⟩) (Nat.le_refl _) _)⟩
      · have e8 : (r8 == 0) = false := by simp [h8]
        obtain ⟨q0, q1⟩ := kb5.two
        obtain ⟨p0, p1⟩ := k5.two
        have f0 := k5.frozen 0
        have f1 := k5.frozen 1
        obtain ⟨w6, rfl⟩ : ∃ W, W = w9 := ⟨_, rfl⟩
        have hf : ∀ {m d : Nat} {A2 : Option Addr} {xs : List Int}, Own w6 w.heap.size 2 A2 m d (ints xs) → Own ((w6.setCell ⟨w.heap.size, 0, none⟩ (.int .i64 P)).setCell ⟨w.heap.size, 1, none⟩ (.slice A n c)) w.heap.size 2 A2 m d (ints xs) := by
          intro m c' A' xs ho
          exact (ho.far k5 (by decide) 0 _).far (k5.set_ 0 (.int .i64 P)) (by decide) 1 _
        go_wp2
        exact bodyPost_ret (v := .tuple #[.agg #[.int .i64 P, .slice A n c], .slice A1 (pw n) c1, .slice A2 m2 c2]) (by simp [results, Tryz.results85, go_sem, p0, p1]) rfl ⟨P, A, n, c, sq, A1, (pw n), c1, xs, A2, m2, c2, ys, rfl, hP, hn, by omega, by omega, hf o5, hf x5, hf y5, hB2.trans (((d5.b.mono hgw).setCell (p := ⟨w.heap.size, 0, none⟩) (Nat.le_refl _) _).setCell (p := ⟨w.heap.size, 1, none⟩) (Nat.le_refl _) _)⟩
end Go.Proofs.YtggigolkncckoaaGreat
namespace Go.Proofs.YtggigolkncckoaaGreat
open Go.RowKit
/-- A row replaced by one in a younger block. -/
theorem Nest.setYoung {w : World} {B K : Nat} {rows : List Value} {xss : List (List Int)} {A : Option Addr} {n c : Nat} {xs : List Int} (h : Nest w B rows xss) (hk : ∀ i g : Nat, (rows[i]?).bind Value.ownBlock = some g → g < K) (hr : Own w K 2 A n c (ints xs)) (hB : B ≤ K) (k : Nat) :
    Nest w B (rows.set k (.slice A n c)) (xss.set k xs) := by
  have hn : xs.length = n := by have := hr.len; rwa [ints_length] at this
  subst hn
  have hnew : ∀ g, (Value.slice A xs.length c).ownBlock = some g → K ≤ g := fun g hg => (World.ownsRow.lt hr g hg).1
  refine ⟨by simp [h.len], fun j hj => ?_, fun i j g hij hi => ?_⟩
  · have hj' : j < xss.length := by simpa using hj
    by_cases hk : k = j
    · subst hk
      rw [List.getElem_set_self]
      exact ⟨A, c, by rw [List.getElem?_set_self (by rw [h.len]; exact hj')], hr.base hB⟩
    · obtain ⟨A', c', e, ho⟩ := h.row j hj'
      rw [List.getElem_set_ne hk]
      exact ⟨A', c', by rw [List.getElem?_set_ne hk]; exact e, ho⟩
  · rw [List.getElem?_set] at hi ⊢
    by_cases hki : k = i
    · subst hki
      rw [if_pos rfl] at hi
      rw [if_neg (by omega)]
      split at hi
      · intro hj
        have h1 := hk j g hj
        have h2 := hnew g (by simpa using hi)
        omega
      · simp at hi
    · rw [if_neg hki] at hi
      have hgi := hk i g hi
      by_cases hkj : k = j
      · rw [if_pos hkj]
        split
        · intro hj
          have h2 := hnew g (by simpa using hj)
          omega
        · simp
      · rw [if_neg hkj]
        exact h.apart i j g hij hi
/-- A cell of a list of lists is given a younger row. -/
theorem OwnM.setRow {W w1 w2 : World} {g0 g n c k : Nat} {T : TypeId} {A1 : Option Addr} {m c1 : Nat} {xs : List Int} {xss : List (List Int)} (h : OwnM w1 W.heap.size (some ⟨g, 0, none⟩) n c xss) (dW : Dr g0 T W w1) (d : Dr g0 T w1 w2) (h1 : 24 ≠ T) (h2 : 2 ≠ T) (hr : Own w2 w1.heap.size 2 A1 m c1 (ints xs)) :
    OwnM (w2.setCell ⟨g, k, none⟩ (.slice A1 m c1)) W.heap.size (some ⟨g, 0, none⟩) n c (xss.set k xs) ∧ Dr g0 T W (w2.setCell ⟨g, k, none⟩ (.slice A1 m c1)) ∧ KeptR w2 (w2.setCell ⟨g, k, none⟩ (.slice A1 m c1)) := by
  obtain ⟨rows, ho, hn⟩ := h
  have hblk := hn.block
  have ho2 := ho.dr d h1
  have hn2 : Nest w2 W.heap.size rows xss := ⟨hn.len, fun k hk => by obtain ⟨A1, c1, e, h3⟩ := hn.row k hk; exact ⟨A1, c1, e, h3.dr d h2⟩, hn.apart⟩
  have hs := hn2.setYoung (fun i g hg => (hblk i g hg).2) hr dW.size k
  obtain ⟨m1, g1⟩ := ho2.set_ k (.slice A1 m c1)
  exact ⟨⟨_, m1, hs.grown ho2 (by decide) g1⟩, (dW.trans d).grown ho2 g1, fun B A2 n2 c2 us h2 => h2.grown g1 (h2.ne ho2 (by decide)), fun g2 t cs h2 hne => h2.grown g1 (ho2.ne_blk h2 hne)⟩
theorem OwnM.cellAt {w : World} {B g : Nat} {n c : Nat} {xss : List (List Int)} (h : OwnM w B (some ⟨g, 0, none⟩) n c xss) {k : Nat} (hk : k < n) : (∃ u, w.cell? ⟨g, k, none⟩ = some u) ∧ w.frozen? ⟨g, k, none⟩ = false := by
  obtain ⟨rows, ho, hn⟩ := h
  obtain ⟨u, -, e⟩ := ho.cell_ hk
  exact ⟨⟨u, e⟩, ho.frozen_ k⟩
set_option maxHeartbeats 12800000 in
set_option maxRecDepth 8000 in
theorem l05Few_any (B : Option Addr) (nb cb : Nat) (bs : List Int) (w : World) (hnb : nb ≤ 4096) (r : Rd w B nb (bs.map (Value.int .u8))) (hbs : ∀ b ∈ bs, 0 ≤ b ∧ b < 256) (hbg : ∀ a, B = some a → a.block < w.heap.size) (most : Nat) (hmo : most ≤ 16) :
    Calls Tryz.prog 245 #[.slice B nb cb, .int .i64 most] w (DrewM w) := by
  have hB0 : Below w.heap.size w (w.alloc (.cells #[.int .i64 0, .slice none 0 0] 26)) := (Below.refl _ _).alloc (Nat.le_refl _) _
  have k0 : Blk (w.alloc (.cells #[.int .i64 0, .slice none 0 0] 26)) w.heap.size 26 #[.int .i64 0, .slice none 0 0] := Blk.new _ _ _
  have hfr := from__any B nb cb bs (w.alloc (.cells #[.int .i64 0, .slice none 0 0] 26)) hnb (r.below hB0) hbs (fun a e => by have := hbg a e; simp; omega)
  go_enter Tryz.func245, Tryz.ntmps245
  go_wp2_with fail
  refine hfr.mono ?_
  rintro e w2 ⟨g, rfl, hg, hs2, hb2⟩
  have k2 := k0.below hb2 k0.lt
  have hB2 := hB0.trans (hb2.mono hB0.size)
  have hw := hB2.size
  have hgw : w.heap.size ≤ g := Nat.le_trans hB0.size hg
  have hsp := l03Spoil_any g w2 hs2
  clear hfr hb2 k0 hB0 hg
  go_wp2_with fail
  refine hsp.mono ?_
  rintro e w3 ⟨P, A, n, c, sq, rfl, hP, hn, hO, hd3⟩
  have d4 := hd3.alloc (.cells #[.int .i64 P, .slice A n c] 26)
  have k4 := (k2.dr hd3 (by decide)).alloc (.cells #[.int .i64 P, .slice A n c] 26)
  have kb4 : Blk (w3.alloc (.cells #[.int .i64 P, .slice A n c] 26)) w3.heap.size 26 #[.int .i64 P, .slice A n c] := Blk.new _ _ _
  have hres : w.heap.size < w3.heap.size := Nat.lt_of_lt_of_le (show w.heap.size < w2.heap.size from k2.lt) hd3.size
  have o4 := (hO.base (B' := w.heap.size) hw).below ((Below.refl _ _).alloc (Nat.le_refl _) (.cells #[.int .i64 P, .slice A n c] 26))
  clear hsp k2 hO hd3
  have hdl := l03DrawList_any g P A n c most _ d4.s' (by omega) (by omega) hmo
  obtain ⟨q0, q1⟩ := kb4.two
  go_wp2_with fail
  refine hdl.mono ?_
  rintro e w5 ⟨AL, m, cl, L, rfl, hm17, hTL, hL, hd5⟩
  have d5 := d4.trans hd5
  have k5 := k4.dr hd5 (by decide)
  have kb5 := kb4.dr hd5 (by decide)
  have o5 := o4.dr hd5 (by decide)
  have l5 := hL.base (B' := w2.heap.size) d4.size
  have ht5 : ∀ v ∈ L, v.length ≤ 8 := fun v hv => by have := hTL v hv; omega
  clear hdl d4 k4 kb4 o4 hL hd5 hTL q0 q1
  have hsl := o5.rd.lenI
  cases h1 : isSp P sq
  · have his := l03Is_b P A n c sq w5 (by omega) o5.rd h1
    clear h1 hsl
    obtain ⟨q0, q1⟩ := kb5.two
    go_wp2_with fail
    refine his.mono ?_
    rintro e w7 ⟨rfl, hb7⟩
    replace d5 := d5.then hb7
    replace k5 := k5.below hb7 k5.lt
    replace kb5 := kb5.below hb7 kb5.lt
    replace o5 := o5.below hb7
    replace l5 := l5.below hb7
    clear his hb7 q0 q1
    obtain ⟨q0, q1⟩ := kb5.two
    obtain ⟨p0, p1⟩ := k5.two
    have f0 := k5.frozen 0
    have f1 := k5.frozen 1
    obtain ⟨w6, rfl⟩ : ∃ W, W = w7 := ⟨_, rfl⟩
    have hf : ∀ {m d : Nat} {A2 : Option Addr} {xs : List Int}, Own w6 w.heap.size 2 A2 m d (ints xs) → Own ((w6.setCell ⟨w.heap.size, 0, none⟩ (.int .i64 P)).setCell ⟨w.heap.size, 1, none⟩ (.slice A n c)) w.heap.size 2 A2 m d (ints xs) := by
      intro m c' A' xs ho
      exact (ho.far k5 (by decide) 0 _).far (k5.set_ 0 (.int .i64 P)) (by decide) 1 _
    have hfM := (l5.base hw).relB (g := g) (res := w.heap.size) (.inr ⟨0, none, 0, 0, P, A, n, c, k5, rfl⟩)
    go_wp2
    exact bodyPost_ret (v := .tuple #[.agg #[.int .i64 P, .slice A n c], .slice AL m cl]) (by simp [results, Tryz.results245, go_sem, p0, p1]) rfl ⟨P, A, n, c, sq, AL, m, cl, _, rfl, hP, hn, hm17, by first | exact ht5 | (intro v hv; exact ht5 v hv), hf o5, hfM, hB2.trans (((d5.b.mono hgw).setCell (p := ⟨w.heap.size, 0, none⟩) (Nat.le_refl _) _).setCell (p := ⟨w.heap.size, 1, none⟩) (Nat.le_refl _) _)⟩
  · have his := l03Is_b P A n c sq w5 (by omega) o5.rd h1
    obtain ⟨HP, hn1, hn2, hq⟩ := isSp_dim h1
    obtain ⟨hp3, hp2⟩ := isP_ge HP
    rw [hsl] at hn1 hn2
    clear h1 hq
    obtain ⟨q0, q1⟩ := kb5.two
    go_wp2_with fail
    refine his.mono ?_
    rintro e w7 ⟨rfl, hb7⟩
    replace d5 := d5.then hb7
    replace k5 := k5.below hb7 k5.lt
    replace kb5 := kb5.below hb7 kb5.lt
    replace o5 := o5.below hb7
    replace l5 := l5.below hb7
    clear his hb7 q0 q1
    have hli := l03List_any P A n c sq AL m cl L w7 (by omega) hp2 (by omega) (by omega) o5.rd l5.rd (fun v hv => Nat.le_trans (ht5 v hv) (by omega))
    cases hv : (L.all (isVe P sq) && decide (m ≤ 16))
    · rw [hv] at hli
      clear hv hsl
      obtain ⟨q0, q1⟩ := kb5.two
      go_wp2_with fail
      refine hli.mono ?_
      rintro e w8 ⟨rfl, hb7⟩
      replace d5 := d5.then hb7
      replace k5 := k5.below hb7 k5.lt
      replace kb5 := kb5.below hb7 kb5.lt
      replace o5 := o5.below hb7
      replace l5 := l5.below hb7
      clear hli hb7 q0 q1
      obtain ⟨q0, q1⟩ := kb5.two
      obtain ⟨p0, p1⟩ := k5.two
      have f0 := k5.frozen 0
      have f1 := k5.frozen 1
      obtain ⟨w6, rfl⟩ : ∃ W, W = w8 := ⟨_, rfl⟩
      have hf : ∀ {m d : Nat} {A2 : Option Addr} {xs : List Int}, Own w6 w.heap.size 2 A2 m d (ints xs) → Own ((w6.setCell ⟨w.heap.size, 0, none⟩ (.int .i64 P)).setCell ⟨w.heap.size, 1, none⟩ (.slice A n c)) w.heap.size 2 A2 m d (ints xs) := by
        intro m c' A' xs ho
        exact (ho.far k5 (by decide) 0 _).far (k5.set_ 0 (.int .i64 P)) (by decide) 1 _
      have hfM := (l5.base hw).relB (g := g) (res := w.heap.size) (.inr ⟨0, none, 0, 0, P, A, n, c, k5, rfl⟩)
      go_wp2
      exact bodyPost_ret (v := .tuple #[.agg #[.int .i64 P, .slice A n c], .slice AL m cl]) (by simp [results, Tryz.results245, go_sem, p0, p1]) rfl ⟨P, A, n, c, sq, AL, m, cl, _, rfl, hP, hn, hm17, by first | exact ht5 | (intro v hv; exact ht5 v hv), hf o5, hfM, hB2.trans (((d5.b.mono hgw).setCell (p := ⟨w.heap.size, 0, none⟩) (Nat.le_refl _) _).setCell (p := ⟨w.heap.size, 1, none⟩) (Nat.le_refl _) _)⟩
    · rw [hv] at hli
      rw [Bool.and_eq_true] at hv
      have HTV := Lib.hid (show ∀ v ∈ L, v.length = n ∧ NumsL P v from fun v hv2 => by
        have h9 := isVe_spec4 (List.all_eq_true.1 hv.1 v hv2)
        rw [hsl] at h9
        exact h9)
      clear hv hsl
      by_cases hm1 : 1 < m
      · have t1 : decide ((1 : Int) < (m : Int)) = true := by simp; omega
        obtain ⟨q0, q1⟩ := kb5.two
        go_wp2_with fail
        refine hli.mono ?_
        rintro e w8 ⟨rfl, hb7⟩
        replace d5 := d5.then hb7
        replace k5 := k5.below hb7 k5.lt
        replace kb5 := kb5.below hb7 kb5.lt
        replace o5 := o5.below hb7
        replace l5 := l5.below hb7
        clear hli hb7 q0 q1
        have hnx := next_any g 3 w8 d5.s' (by omega)
        go_wp2_with fail
        refine hnx.mono ?_
        rintro e w9 ⟨r8, rfl, _, _, hd8⟩
        replace d5 := d5.trans hd8
        replace k5 := k5.dr hd8 (by decide)
        replace kb5 := kb5.dr hd8 (by decide)
        replace o5 := o5.dr hd8 (by decide)
        replace l5 := l5.dr hd8 (by decide) (by decide)
        clear hnx hd8
        by_cases h8 : r8 = 0
        · have e8 : (r8 == 0) = true := by simp [h8]
          obtain ⟨q1n, hq1⟩ : ∃ q, q = m - 1 := ⟨_, rfl⟩
          obtain ⟨q2, hq2⟩ : ∃ q, q = m - 2 := ⟨_, rfl⟩
          have W5 : IntKind.i64.wrap ((m : Int) - 1) = (q1n : Int) := (i64_fit _ (by omega) (by omega)).trans (by omega)
          have W6 : IntKind.i64.wrap ((m : Int) - 2) = (q2 : Int) := (i64_fit _ (by omega) (by omega)).trans (by omega)
          have hlt1 : q1n < m := by omega
          have hlt2 : q2 < m := by omega
          have hlt0 : 0 < m := by omega
          obtain ⟨gl, ol, hx0, R0, d0, rfl, hol, hrow0, hr0'⟩ := l5.at_ hlt0
          obtain ⟨gl', ol', hx2, R1, d1, hg', hol', hrow1, hr1'⟩ := l5.at_ hlt2
          obtain ⟨rfl, rfl⟩ : gl = gl' ∧ ol = ol' := by
            injection hg' with hg'
            injection hg' with h1 h2 h3
            exact ⟨h1, h2⟩
          have hv0 := HTV.out L[0] (List.getElem_mem hx0)
          have hv1 := HTV.out L[q2] (List.getElem_mem hx2)
          rw [hv0.1] at hrow0 hr0'
          rw [hv1.1] at hrow1 hr1'
          rw [Nat.add_zero] at hrow0
          obtain ⟨v0, hvr0⟩ : ∃ v, v = L[0] := ⟨_, rfl⟩
          obtain ⟨v1, hvr1⟩ : ∃ v, v = L[q2] := ⟨_, rfl⟩
          rw [← hvr0] at hr0' hv0
          rw [← hvr1] at hr1' hv1
          have HV0 := Lib.hid hv0
          have HV1 := Lib.hid hv1
          have hr0 := hr0'.base (B' := 0) (Nat.zero_le _)
          have hr1 := hr1'.base (B' := 0) (Nat.zero_le _)
          clear hv0 hv1 hvr0 hvr1 hr0' hr1' hx0 hx2 hg' hol' hq1 hq2
          have HOL := Lib.hid hol
          clear hol
          have b1 : (0 : Int) ≤ (q1n : Int) := by omega
          have b2 : (q1n : Int) < (m : Int) := by omega
          have b3 : (0 : Int) ≤ (q2 : Int) := by omega
          have b4 : (q2 : Int) < (m : Int) := by omega
          have b5 : (0 : Int) < (m : Int) := by omega
          have HT5 := Lib.hid ht5
          clear HTV ht5
          obtain ⟨q0, q1⟩ := kb5.two
          go_wp2
          refine wp_obsR 21 (Dr g 143) [[], [], [1], [1, 2], [], [4], [], [6], [6, 7], [], [], [10], [10, 11], [9, 10, 11, 12], [9, 10, 11, 12, 13], [], [], [16], [15, 16, 17], [4, 5, 6, 7, 8, 9, 10, 11, 12, 13, 14, 15, 16, 17, 18], [0, 1, 2, 3], [0, 1, 2, 3, 4, 5, 6, 7, 8, 9, 10, 11, 12, 13, 14, 15, 16, 17, 18, 19, 20]] [[], [], [], [], [], [], [], [], [], [], [], [], [], [], [], [], [], [], [99], [], []] (fun x => [VIs (.slice (some ⟨gl, ol, none⟩) m cl), VIs (.slice (some ⟨gl, ol, none⟩) m cl), VIs (.int .i64 (m)), VIs (.int .i64 (q1n)), VIs (.pointer (some ⟨w3.heap.size, 0, none⟩)), VIs (.int .i64 (P)), VIs (.slice (some ⟨gl, ol, none⟩) m cl), VIs (.pointer (some ⟨gl, ol, none⟩)), VIs (.slice R0 n d0), VIs (.slice (some ⟨gl, ol, none⟩) m cl), VIs (.slice (some ⟨gl, ol, none⟩) m cl), VIs (.int .i64 (m)), VIs (.int .i64 (q2)), VIs (.pointer (some ⟨gl, ol + q2, none⟩)), VIs (.slice R1 n d1), VIs (.pointer (some ⟨g, 0, none⟩)), VIs (.pointer (some ⟨w3.heap.size, 0, none⟩)), VIs (.int .i64 (P)), VIz P, VLs w9.heap.size n P, VIs (.pointer (some ⟨gl, ol + q1n, none⟩))]) (fun w' => RowAt w' ⟨gl, ol, none⟩ (.slice R0 n d0) ∧ RowAt w' ⟨gl, ol + q2, none⟩ (.slice R1 n d1) ∧ Blk w' w3.heap.size 26 #[.int .i64 P, .slice A n c] ∧ Own w' 0 2 R0 n d0 (ints v0) ∧ Own w' 0 2 R1 n d1 (ints v1) ∧ Dr g 143 w9 w') (by kernel_rfl) (by kernel_rfl) (fun x x' j hx => by
              rcases j with _ | _ | _ | _ | _ | _ | _ | _ | _ | _ | _ | _ | _ | _ | _ | _ | _ | _ | _ | _ | _ | j
              · rfl
              · rfl
              · rfl
              · rfl
              · rfl
              · rfl
              · rfl
              · rfl
              · rfl
              · rfl
              · rfl
              · rfl
              · rfl
              · rfl
              · rfl
              · rfl
              · rfl
              · rfl
              · rfl
              · rfl
              · rfl
              · rfl)
            (weak_ofR [0, 1, 2, 3, 4, 5, 6, 7, 8, 9, 10, 11, 12, 13, 14, 15, 16, 17, 18, 19, 20] (by decide) (fun k hk x v w w' hp hr => by
              simp only [List.mem_cons, List.not_mem_nil, or_false] at hk
              rcases hk with rfl | rfl | rfl | rfl | rfl | rfl | rfl | rfl | rfl | rfl | rfl | rfl | rfl | rfl | rfl | rfl | rfl | rfl | rfl | rfl | rfl
              · exact hp
              · exact hp
              · exact hp
              · exact hp
              · exact hp
              · exact hp
              · exact hp
              · exact hp
              · exact hp
              · exact hp
              · exact hp
              · exact hp
              · exact hp
              · exact hp
              · exact hp
              · exact hp
              · exact hp
              · exact hp
              · exact hp
              · exact VLs.dr hp hr (by decide)
              · exact hp)) (fun j _ _ h hb => hb.either (fun hb => ⟨h.1.below hb, h.2.1.below hb, h.2.2.1.below hb h.2.2.1.lt, h.2.2.2.1.below hb, h.2.2.2.2.1.below hb, h.2.2.2.2.2.then hb⟩) (fun hr => ⟨h.1.dr hr (by decide), h.2.1.dr hr (by decide), h.2.2.1.dr hr (by decide), h.2.2.2.1.dr hr (by decide), h.2.2.2.2.1.dr hr (by decide), h.2.2.2.2.2.trans hr⟩)) (⟨hrow0.below (Below.refl _ _).drew, hrow1.below (Below.refl _ _).drew, kb5.drew, hr0.below (Below.refl _ _).drew, hr1.below (Below.refl _ _).drew, (Dr.refl d5.s').then (Below.refl _ _).drew⟩) (fun x => ?_)
          refine obs_stepR (Eq.trans (by simp only [List.getElem?_toArray, List.getElem?_cons_zero]; exact rfl) rfl) rfl (fun w' hS hV K hK => ?_) ?_
          · have t0 := hS.1.cell; have t1 := hS.2.1.cell; obtain ⟨q0, q1⟩ := hS.2.2.1.two
            go_simp
            exact hK.out _ _ _ rfl rfl rfl (Below.refl _ _)
          simp only [List.setIfInBounds_toArray, List.set_cons_zero, List.set_cons_succ]
          refine obs_stepR (Eq.trans (by simp only [List.getElem?_toArray, List.getElem?_cons_succ, List.getElem?_cons_zero]; exact rfl) rfl) rfl (fun w' hS hV K hK => ?_) ?_
          · have t0 := hS.1.cell; have t1 := hS.2.1.cell; obtain ⟨q0, q1⟩ := hS.2.2.1.two
            go_simp
            exact hK.out _ _ _ rfl rfl rfl (Below.refl _ _)
          simp only [List.setIfInBounds_toArray, List.set_cons_zero, List.set_cons_succ]
          refine obs_stepR (Eq.trans (by simp only [List.getElem?_toArray, List.getElem?_cons_succ, List.getElem?_cons_zero]; exact rfl) rfl) rfl (fun w' hS hV K hK => ?_) ?_
          · have e1 : x 1 = (.slice (some ⟨gl, ol, none⟩) m cl) := hV 1 (by decide)
            have t0 := hS.1.cell; have t1 := hS.2.1.cell; obtain ⟨q0, q1⟩ := hS.2.2.1.two
            go_simp
            exact hK.out _ _ _ rfl rfl rfl (Below.refl _ _)
          simp only [List.setIfInBounds_toArray, List.set_cons_zero, List.set_cons_succ]
          refine obs_stepR (Eq.trans (by simp only [List.getElem?_toArray, List.getElem?_cons_succ, List.getElem?_cons_zero]; exact rfl) rfl) rfl (fun w' hS hV K hK => ?_) ?_
          · have e1 : x 1 = (.slice (some ⟨gl, ol, none⟩) m cl) := hV 1 (by decide)
            have e2 : x 2 = (.int .i64 (m)) := hV 2 (by decide)
            have t0 := hS.1.cell; have t1 := hS.2.1.cell; obtain ⟨q0, q1⟩ := hS.2.2.1.two
            go_simp
            exact hK.out _ _ _ rfl rfl rfl (Below.refl _ _)
          simp only [List.setIfInBounds_toArray, List.set_cons_zero, List.set_cons_succ]
          refine obs_stepR (Eq.trans (by simp only [List.getElem?_toArray, List.getElem?_cons_succ, List.getElem?_cons_zero]; exact rfl) rfl) rfl (fun w' hS hV K hK => ?_) ?_
          · have t0 := hS.1.cell; have t1 := hS.2.1.cell; obtain ⟨q0, q1⟩ := hS.2.2.1.two
            go_simp
            exact hK.out _ _ _ rfl rfl rfl (Below.refl _ _)
          simp only [List.setIfInBounds_toArray, List.set_cons_zero, List.set_cons_succ]
          refine obs_stepR (Eq.trans (by simp only [List.getElem?_toArray, List.getElem?_cons_succ, List.getElem?_cons_zero]; exact rfl) rfl) rfl (fun w' hS hV K hK => ?_) ?_
          · have e4 : x 4 = (.pointer (some ⟨w3.heap.size, 0, none⟩)) := hV 4 (by decide)
            have t0 := hS.1.cell; have t1 := hS.2.1.cell; obtain ⟨q0, q1⟩ := hS.2.2.1.two
            go_simp
            exact hK.out _ _ _ rfl rfl rfl (Below.refl _ _)
          simp only [List.setIfInBounds_toArray, List.set_cons_zero, List.set_cons_succ]
          refine obs_stepR (Eq.trans (by simp only [List.getElem?_toArray, List.getElem?_cons_succ, List.getElem?_cons_zero]; exact rfl) rfl) rfl (fun w' hS hV K hK => ?_) ?_
          · have t0 := hS.1.cell; have t1 := hS.2.1.cell; obtain ⟨q0, q1⟩ := hS.2.2.1.two
            go_simp
            exact hK.out _ _ _ rfl rfl rfl (Below.refl _ _)
          simp only [List.setIfInBounds_toArray, List.set_cons_zero, List.set_cons_succ]
          refine obs_stepR (Eq.trans (by simp only [List.getElem?_toArray, List.getElem?_cons_succ, List.getElem?_cons_zero]; exact rfl) rfl) rfl (fun w' hS hV K hK => ?_) ?_
          · have e6 : x 6 = (.slice (some ⟨gl, ol, none⟩) m cl) := hV 6 (by decide)
            have t0 := hS.1.cell; have t1 := hS.2.1.cell; obtain ⟨q0, q1⟩ := hS.2.2.1.two
            go_simp
            exact hK.out _ _ _ rfl rfl rfl (Below.refl _ _)
          simp only [List.setIfInBounds_toArray, List.set_cons_zero, List.set_cons_succ]
          refine obs_stepR (Eq.trans (by simp only [List.getElem?_toArray, List.getElem?_cons_succ, List.getElem?_cons_zero]; exact rfl) rfl) rfl (fun w' hS hV K hK => ?_) ?_
          · have e6 : x 6 = (.slice (some ⟨gl, ol, none⟩) m cl) := hV 6 (by decide)
            have e7 : x 7 = (.pointer (some ⟨gl, ol, none⟩)) := hV 7 (by decide)
            have t0 := hS.1.cell; have t1 := hS.2.1.cell; obtain ⟨q0, q1⟩ := hS.2.2.1.two
            go_simp
            exact hK.out _ _ _ rfl rfl rfl (Below.refl _ _)
          simp only [List.setIfInBounds_toArray, List.set_cons_zero, List.set_cons_succ]
          refine obs_stepR (Eq.trans (by simp only [List.getElem?_toArray, List.getElem?_cons_succ, List.getElem?_cons_zero]; exact rfl) rfl) rfl (fun w' hS hV K hK => ?_) ?_
          · have t0 := hS.1.cell; have t1 := hS.2.1.cell; obtain ⟨q0, q1⟩ := hS.2.2.1.two
            go_simp
            exact hK.out _ _ _ rfl rfl rfl (Below.refl _ _)
          simp only [List.setIfInBounds_toArray, List.set_cons_zero, List.set_cons_succ]
          refine obs_stepR (Eq.trans (by simp only [List.getElem?_toArray, List.getElem?_cons_succ, List.getElem?_cons_zero]; exact rfl) rfl) rfl (fun w' hS hV K hK => ?_) ?_
          · have t0 := hS.1.cell; have t1 := hS.2.1.cell; obtain ⟨q0, q1⟩ := hS.2.2.1.two
            go_simp
            exact hK.out _ _ _ rfl rfl rfl (Below.refl _ _)
          simp only [List.setIfInBounds_toArray, List.set_cons_zero, List.set_cons_succ]
          refine obs_stepR (Eq.trans (by simp only [List.getElem?_toArray, List.getElem?_cons_succ, List.getElem?_cons_zero]; exact rfl) rfl) rfl (fun w' hS hV K hK => ?_) ?_
          · have e10 : x 10 = (.slice (some ⟨gl, ol, none⟩) m cl) := hV 10 (by decide)
            have t0 := hS.1.cell; have t1 := hS.2.1.cell; obtain ⟨q0, q1⟩ := hS.2.2.1.two
            go_simp
            exact hK.out _ _ _ rfl rfl rfl (Below.refl _ _)
          simp only [List.setIfInBounds_toArray, List.set_cons_zero, List.set_cons_succ]
          refine obs_stepR (Eq.trans (by simp only [List.getElem?_toArray, List.getElem?_cons_succ, List.getElem?_cons_zero]; exact rfl) rfl) rfl (fun w' hS hV K hK => ?_) ?_
          · have e10 : x 10 = (.slice (some ⟨gl, ol, none⟩) m cl) := hV 10 (by decide)
            have e11 : x 11 = (.int .i64 (m)) := hV 11 (by decide)
            have t0 := hS.1.cell; have t1 := hS.2.1.cell; obtain ⟨q0, q1⟩ := hS.2.2.1.two
            go_simp
            exact hK.out _ _ _ rfl rfl rfl (Below.refl _ _)
          simp only [List.setIfInBounds_toArray, List.set_cons_zero, List.set_cons_succ]
          refine obs_stepR (Eq.trans (by simp only [List.getElem?_toArray, List.getElem?_cons_succ, List.getElem?_cons_zero]; exact rfl) rfl) rfl (fun w' hS hV K hK => ?_) ?_
          · have e9 : x 9 = (.slice (some ⟨gl, ol, none⟩) m cl) := hV 9 (by decide)
            have e10 : x 10 = (.slice (some ⟨gl, ol, none⟩) m cl) := hV 10 (by decide)
            have e11 : x 11 = (.int .i64 (m)) := hV 11 (by decide)
            have e12 : x 12 = (.int .i64 (q2)) := hV 12 (by decide)
            have t0 := hS.1.cell; have t1 := hS.2.1.cell; obtain ⟨q0, q1⟩ := hS.2.2.1.two
            go_simp
            exact hK.out _ _ _ rfl rfl rfl (Below.refl _ _)
          simp only [List.setIfInBounds_toArray, List.set_cons_zero, List.set_cons_succ]
          refine obs_stepR (Eq.trans (by simp only [List.getElem?_toArray, List.getElem?_cons_succ, List.getElem?_cons_zero]; exact rfl) rfl) rfl (fun w' hS hV K hK => ?_) ?_
          · have e9 : x 9 = (.slice (some ⟨gl, ol, none⟩) m cl) := hV 9 (by decide)
            have e10 : x 10 = (.slice (some ⟨gl, ol, none⟩) m cl) := hV 10 (by decide)
            have e11 : x 11 = (.int .i64 (m)) := hV 11 (by decide)
            have e12 : x 12 = (.int .i64 (q2)) := hV 12 (by decide)
            have e13 : x 13 = (.pointer (some ⟨gl, ol + q2, none⟩)) := hV 13 (by decide)
            have t0 := hS.1.cell; have t1 := hS.2.1.cell; obtain ⟨q0, q1⟩ := hS.2.2.1.two
            go_simp
            exact hK.out _ _ _ rfl rfl rfl (Below.refl _ _)
          simp only [List.setIfInBounds_toArray, List.set_cons_zero, List.set_cons_succ]
          refine obs_stepR (Eq.trans (by simp only [List.getElem?_toArray, List.getElem?_cons_succ, List.getElem?_cons_zero]; exact rfl) rfl) rfl (fun w' hS hV K hK => ?_) ?_
          · have t0 := hS.1.cell; have t1 := hS.2.1.cell; obtain ⟨q0, q1⟩ := hS.2.2.1.two
            go_simp
            exact hK.out _ _ _ rfl rfl rfl (Below.refl _ _)
          simp only [List.setIfInBounds_toArray, List.set_cons_zero, List.set_cons_succ]
          refine obs_stepR (Eq.trans (by simp only [List.getElem?_toArray, List.getElem?_cons_succ, List.getElem?_cons_zero]; exact rfl) rfl) rfl (fun w' hS hV K hK => ?_) ?_
          · have t0 := hS.1.cell; have t1 := hS.2.1.cell; obtain ⟨q0, q1⟩ := hS.2.2.1.two
            go_simp
            exact hK.out _ _ _ rfl rfl rfl (Below.refl _ _)
          simp only [List.setIfInBounds_toArray, List.set_cons_zero, List.set_cons_succ]
          refine obs_stepR (Eq.trans (by simp only [List.getElem?_toArray, List.getElem?_cons_succ, List.getElem?_cons_zero]; exact rfl) rfl) rfl (fun w' hS hV K hK => ?_) ?_
          · have e16 : x 16 = (.pointer (some ⟨w3.heap.size, 0, none⟩)) := hV 16 (by decide)
            have t0 := hS.1.cell; have t1 := hS.2.1.cell; obtain ⟨q0, q1⟩ := hS.2.2.1.two
            go_simp
            exact hK.out _ _ _ rfl rfl rfl (Below.refl _ _)
          simp only [List.setIfInBounds_toArray, List.set_cons_zero, List.set_cons_succ]
          refine obs_stepR (Eq.trans (by simp only [List.getElem?_toArray, List.getElem?_cons_succ, List.getElem?_cons_zero]; exact rfl) rfl) rfl (fun w' hS hV K hK => ?_) ?_
          · have e15 : x 15 = (.pointer (some ⟨g, 0, none⟩)) := hV 15 (by decide)
            have e16 : x 16 = (.pointer (some ⟨w3.heap.size, 0, none⟩)) := hV 16 (by decide)
            have e17 : x 17 = (.int .i64 (P)) := hV 17 (by decide)
            have t0 := hS.1.cell; have t1 := hS.2.1.cell; obtain ⟨q0, q1⟩ := hS.2.2.1.two
            go_simp
            refine (next_any g P w' hS.2.2.2.2.2.s' (by omega)).mono ?_
            rintro e v1 ⟨r9, rfl, t1, t2, hd9⟩
            exact hK.out _ _ _ rfl rfl ⟨r9, rfl, t1, t2 (by omega)⟩ hd9
          simp only [List.setIfInBounds_toArray, List.set_cons_zero, List.set_cons_succ]
          refine obs_stepR (Eq.trans (by simp only [List.getElem?_toArray, List.getElem?_cons_succ, List.getElem?_cons_zero]; exact rfl) rfl) rfl (fun w' hS hV K hK => ?_) ?_
          · have e4 : x 4 = (.pointer (some ⟨w3.heap.size, 0, none⟩)) := hV 4 (by decide)
            have e5 : x 5 = (.int .i64 (P)) := hV 5 (by decide)
            have e6 : x 6 = (.slice (some ⟨gl, ol, none⟩) m cl) := hV 6 (by decide)
            have e7 : x 7 = (.pointer (some ⟨gl, ol, none⟩)) := hV 7 (by decide)
            have e8 : x 8 = (.slice R0 n d0) := hV 8 (by decide)
            have e9 : x 9 = (.slice (some ⟨gl, ol, none⟩) m cl) := hV 9 (by decide)
            have e10 : x 10 = (.slice (some ⟨gl, ol, none⟩) m cl) := hV 10 (by decide)
            have e11 : x 11 = (.int .i64 (m)) := hV 11 (by decide)
            have e12 : x 12 = (.int .i64 (q2)) := hV 12 (by decide)
            have e13 : x 13 = (.pointer (some ⟨gl, ol + q2, none⟩)) := hV 13 (by decide)
            have e14 : x 14 = (.slice R1 n d1) := hV 14 (by decide)
            have e15 : x 15 = (.pointer (some ⟨g, 0, none⟩)) := hV 15 (by decide)
            have e16 : x 16 = (.pointer (some ⟨w3.heap.size, 0, none⟩)) := hV 16 (by decide)
            have e17 : x 17 = (.int .i64 (P)) := hV 17 (by decide)
            obtain ⟨k18, e18, b18, d18⟩ := hV 18 (by decide)
            have t0 := hS.1.cell; have t1 := hS.2.1.cell; obtain ⟨q0, q1⟩ := hS.2.2.1.two
            go_simp
            refine (l02Plus_any P R0 n d0 R1 n d1 k18 v0 v1 w' (by omega) hp2 (by omega) (Nat.le_refl _) hS.2.2.2.1.rd HV0.out.2 hS.2.2.2.2.1.rd HV1.out.2 (by omega) (by omega)).mono ?_
            rintro e v1 ⟨A9, c9, rfl, hM⟩
            exact hK.out _ _ _ rfl rfl ⟨_, _, _, rfl, by rw [plusL_len]; exact HV0.out.1, plusL_nums (by omega) _ _ _, hM.2.base hS.2.2.2.2.2.size⟩ hM.b
          simp only [List.setIfInBounds_toArray, List.set_cons_zero, List.set_cons_succ]
          refine obs_stepR (Eq.trans (by simp only [List.getElem?_toArray, List.getElem?_cons_succ, List.getElem?_cons_zero]; exact rfl) rfl) rfl (fun w' hS hV K hK => ?_) ?_
          · have e0 : x 0 = (.slice (some ⟨gl, ol, none⟩) m cl) := hV 0 (by decide)
            have e1 : x 1 = (.slice (some ⟨gl, ol, none⟩) m cl) := hV 1 (by decide)
            have e2 : x 2 = (.int .i64 (m)) := hV 2 (by decide)
            have e3 : x 3 = (.int .i64 (q1n)) := hV 3 (by decide)
            have t0 := hS.1.cell; have t1 := hS.2.1.cell; obtain ⟨q0, q1⟩ := hS.2.2.1.two
            go_simp
            exact hK.out _ _ _ rfl rfl rfl (Below.refl _ _)
          simp only [List.setIfInBounds_toArray, List.set_cons_zero, List.set_cons_succ]
          refine fun w' hS hV => ?_
          have e0 : x 0 = (.slice (some ⟨gl, ol, none⟩) m cl) := hV 0 (by decide)
          have e1 : x 1 = (.slice (some ⟨gl, ol, none⟩) m cl) := hV 1 (by decide)
          have e2 : x 2 = (.int .i64 (m)) := hV 2 (by decide)
          have e3 : x 3 = (.int .i64 (q1n)) := hV 3 (by decide)
          have e4 : x 4 = (.pointer (some ⟨w3.heap.size, 0, none⟩)) := hV 4 (by decide)
          have e5 : x 5 = (.int .i64 (P)) := hV 5 (by decide)
          have e6 : x 6 = (.slice (some ⟨gl, ol, none⟩) m cl) := hV 6 (by decide)
          have e7 : x 7 = (.pointer (some ⟨gl, ol, none⟩)) := hV 7 (by decide)
          have e8 : x 8 = (.slice R0 n d0) := hV 8 (by decide)
          have e9 : x 9 = (.slice (some ⟨gl, ol, none⟩) m cl) := hV 9 (by decide)
          have e10 : x 10 = (.slice (some ⟨gl, ol, none⟩) m cl) := hV 10 (by decide)
          have e11 : x 11 = (.int .i64 (m)) := hV 11 (by decide)
          have e12 : x 12 = (.int .i64 (q2)) := hV 12 (by decide)
          have e13 : x 13 = (.pointer (some ⟨gl, ol + q2, none⟩)) := hV 13 (by decide)
          have e14 : x 14 = (.slice R1 n d1) := hV 14 (by decide)
          have e15 : x 15 = (.pointer (some ⟨g, 0, none⟩)) := hV 15 (by decide)
          have e16 : x 16 = (.pointer (some ⟨w3.heap.size, 0, none⟩)) := hV 16 (by decide)
          have e17 : x 17 = (.int .i64 (P)) := hV 17 (by decide)
          obtain ⟨k18, e18, b18, d18⟩ := hV 18 (by decide)
          obtain ⟨A19, c19, X19, e19, l19, u19, h19⟩ := hV 19 (by decide)
          have e20 : x 20 = (.pointer (some ⟨gl, ol + q1n, none⟩)) := hV 20 (by decide)
          simp only [e0, e1, e2, e3, e4, e5, e6, e7, e8, e9, e10, e11, e12, e13, e14, e15, e16, e17, e18, e19, e20]
          clear e0 e1 e2 e3 e4 e5 e6 e7 e8 e9 e10 e11 e12 e13 e14 e15 e16 e17 e18 e19 e20
          obtain ⟨-, -, -, -, -, hd9⟩ := hS
          obtain ⟨w10, rfl⟩ : ∃ W, W = w' := ⟨_, rfl⟩
          have hol2 := HOL.out
          subst hol2
          obtain ⟨⟨u9, hc9⟩, hf9⟩ := (l5.dr hd9 (by decide) (by decide)).cellAt hlt1
          have k10 := k5.dr hd9 (by decide)
          have kb10 := kb5.dr hd9 (by decide)
          have o10 := o5.dr hd9 (by decide)
          have dw : Dr g 143 w2 w9 := d5
          have HSR := Lib.hid (fun k => OwnM.setRow (k := k) l5 dw hd9 (by decide) (by decide) h19)
          have HLN := Lib.hid l19
          clear hrow0 hrow1 hr0 hr1 hd9 h19 k5 kb5 o5 l5 d5 q0 q1
          have hc8 : w10.cell? ⟨gl, 0 + q1n, none⟩ = some u9 := by rw [Nat.zero_add]; exact hc9
          have hf8 : w10.frozen? ⟨gl, 0 + q1n, none⟩ = false := by rw [Nat.zero_add]; exact hf9
          refine any_one (j := 21) (by kernel_rfl) (Eq.trans (by simp only [List.getElem?_toArray, List.getElem?_cons_succ, List.getElem?_cons_zero]; exact rfl) rfl) (fun K hK => ?_)
          go_simp
          refine hK.out _ _ (wpAny_done (by kernel_rfl) ?_ _)
          obtain ⟨l5, d5, kp⟩ := HSR.out q1n
          have k5 := kp.2 _ _ _ k10 (by decide)
          have kb5 := kp.2 _ _ _ kb10 (by decide)
          have o5 := kp.1 _ _ _ _ _ o10
          have ht5 : ∀ v ∈ L.set q1n X19, v.length ≤ 8 := fun v hv => by
            rcases List.mem_or_eq_of_mem_set hv with h | rfl
            · exact HT5.out v h
            · rw [HLN.out]; omega
          clear hc8 hf8 hc9 hf9 k10 kb10 o10 HSR kp
          obtain ⟨w11, hw11⟩ : ∃ W, W = w10.setCell ⟨gl, q1n, none⟩ (.slice A19 n c19) := ⟨_, rfl⟩
          rw [← hw11] at l5 d5 k5 kb5 o5 ⊢
          clear hw11
          obtain ⟨q0, q1⟩ := kb5.two
          obtain ⟨p0, p1⟩ := k5.two
          have f0 := k5.frozen 0
          have f1 := k5.frozen 1
          obtain ⟨w6, rfl⟩ : ∃ W, W = w11 := ⟨_, rfl⟩
          have hf : ∀ {m d : Nat} {A2 : Option Addr} {xs : List Int}, Own w6 w.heap.size 2 A2 m d (ints xs) → Own ((w6.setCell ⟨w.heap.size, 0, none⟩ (.int .i64 P)).setCell ⟨w.heap.size, 1, none⟩ (.slice A n c)) w.heap.size 2 A2 m d (ints xs) := by
            intro m c' A' xs ho
            exact (ho.far k5 (by decide) 0 _).far (k5.set_ 0 (.int .i64 P)) (by decide) 1 _
          have hfM := (l5.base hw).relB (g := g) (res := w.heap.size) (.inr ⟨0, none, 0, 0, P, A, n, c, k5, rfl⟩)
          go_wp2
          exact bodyPost_ret (v := .tuple #[.agg #[.int .i64 P, .slice A n c], .slice (some ⟨gl, 0, none⟩) m cl]) (by simp [results, Tryz.results245, go_sem, p0, p1]) rfl ⟨P, A, n, c, sq, (some ⟨gl, 0, none⟩), m, cl, _, rfl, hP, hn, hm17, by first | exact ht5 | (intro v hv; exact ht5 v hv), hf o5, hfM, hB2.trans (((d5.b.mono hgw).setCell (p := ⟨w.heap.size, 0, none⟩) (Nat.le_refl _) _).setCell (p := ⟨w.heap.size, 1, none⟩) (Nat.le_refl _) _)⟩
        · have e8 : (r8 == 0) = false := by simp [h8]
          obtain ⟨q0, q1⟩ := kb5.two
          obtain ⟨p0, p1⟩ := k5.two
          have f0 := k5.frozen 0
          have f1 := k5.frozen 1
          obtain ⟨w6, rfl⟩ : ∃ W, W = w9 := ⟨_, rfl⟩
          have hf : ∀ {m d : Nat} {A2 : Option Addr} {xs : List Int}, Own w6 w.heap.size 2 A2 m d (ints xs) → Own ((w6.setCell ⟨w.heap.size, 0, none⟩ (.int .i64 P)).setCell ⟨w.heap.size, 1, none⟩ (.slice A n c)) w.heap.size 2 A2 m d (ints xs) := by
            intro m c' A' xs ho
            exact (ho.far k5 (by decide) 0 _).far (k5.set_ 0 (.int .i64 P)) (by decide) 1 _
          have hfM := (l5.base hw).relB (g := g) (res := w.heap.size) (.inr ⟨0, none, 0, 0, P, A, n, c, k5, rfl⟩)
          go_wp2
          exact bodyPost_ret (v := .tuple #[.agg #[.int .i64 P, .slice A n c], .slice AL m cl]) (by simp [results, Tryz.results245, go_sem, p0, p1]) rfl ⟨P, A, n, c, sq, AL, m, cl, _, rfl, hP, hn, hm17, by first | exact ht5 | (intro v hv; exact ht5 v hv), hf o5, hfM, hB2.trans (((d5.b.mono hgw).setCell (p := ⟨w.heap.size, 0, none⟩) (Nat.le_refl _) _).setCell (p := ⟨w.heap.size, 1, none⟩) (Nat.le_refl _) _)⟩
      · have t1 : decide ((1 : Int) < (m : Int)) = false := by simp; omega
        obtain ⟨q0, q1⟩ := kb5.two
        go_wp2_with fail
        refine hli.mono ?_
        rintro e w8 ⟨rfl, hb7⟩
        replace d5 := d5.then hb7
        replace k5 := k5.below hb7 k5.lt
        replace kb5 := kb5.below hb7 kb5.lt
        replace o5 := o5.below hb7
        replace l5 := l5.below hb7
        clear hli hb7 q0 q1
        obtain ⟨q0, q1⟩ := kb5.two
        obtain ⟨p0, p1⟩ := k5.two
        have f0 := k5.frozen 0
        have f1 := k5.frozen 1
        obtain ⟨w6, rfl⟩ : ∃ W, W = w8 := ⟨_, rfl⟩
        have hf : ∀ {m d : Nat} {A2 : Option Addr} {xs : List Int}, Own w6 w.heap.size 2 A2 m d (ints xs) → Own ((w6.setCell ⟨w.heap.size, 0, none⟩ (.int .i64 P)).setCell ⟨w.heap.size, 1, none⟩ (.slice A n c)) w.heap.size 2 A2 m d (ints xs) := by
          intro m c' A' xs ho
          exact (ho.far k5 (by decide) 0 _).far (k5.set_ 0 (.int .i64 P)) (by decide) 1 _
        have hfM := (l5.base hw).relB (g := g) (res := w.heap.size) (.inr ⟨0, none, 0, 0, P, A, n, c, k5, rfl⟩)
        go_wp2
        exact bodyPost_ret (v := .tuple #[.agg #[.int .i64 P, .slice A n c], .slice AL m cl]) (by simp [results, Tryz.results245, go_sem, p0, p1]) rfl ⟨P, A, n, c, sq, AL, m, cl, _, rfl, hP, hn, hm17, by first | exact ht5 | (intro v hv; exact ht5 v hv), hf o5, hfM, hB2.trans (((d5.b.mono hgw).setCell (p := ⟨w.heap.size, 0, none⟩) (Nat.le_refl _) _).setCell (p := ⟨w.heap.size, 1, none⟩) (Nat.le_refl _) _)⟩
set_option maxHeartbeats 3200000 in
set_option maxRecDepth 8000 in
theorem DrawBladeOfVectors_any (B : Option Addr) (nb cb : Nat) (bs : List Int) (w : World) (hnb : nb ≤ 4096) (r : Rd w B nb (bs.map (Value.int .u8))) (hbs : ∀ b ∈ bs, 0 ≤ b ∧ b < 256) (hbg : ∀ a, B = some a → a.block < w.heap.size) :
    Calls Tryz.prog 91 #[.slice B nb cb] w (DrewM w) := by
  have hB0 : Below w.heap.size w (w.alloc (.cells #[.int .i64 0, .slice none 0 0] 26)) := (Below.refl _ _).alloc (Nat.le_refl _) _
  have k0 : Blk (w.alloc (.cells #[.int .i64 0, .slice none 0 0] 26)) w.heap.size 26 #[.int .i64 0, .slice none 0 0] := Blk.new _ _ _
  have hon := l05Few_any B nb cb bs (w.alloc (.cells #[.int .i64 0, .slice none 0 0] 26)) hnb (r.below hB0) hbs (fun a e => by have := hbg a e; simp; omega) 5 (by omega)
  go_enter Tryz.func91, Tryz.ntmps91
  go_wp2_with fail
  refine hon.mono ?_
  rintro e w3 ⟨P, A, n, c, sq, AL, m, cl, L, rfl, hP, hn, hm, hL, hO, hX, hb3⟩
  have hsz : w.heap.size ≤ (w.alloc (.cells #[.int .i64 0, .slice none 0 0] 26)).heap.size := hB0.size
  have k3 := k0.below hb3 k0.lt
  have hB3 := hB0.trans (hb3.mono hsz)
  have kb4 : Blk (w3.alloc (.cells #[.int .i64 P, .slice A n c] 26)) w3.heap.size 26 #[.int .i64 P, .slice A n c] := Blk.new _ _ _
  have hres : w.heap.size < w3.heap.size := Nat.lt_of_lt_of_le k0.lt hb3.size
  obtain ⟨q0, q1⟩ := kb4.two
  obtain ⟨p0, p1⟩ := k3.two
  have f0 := k3.frozen 0
  have f1 := k3.frozen 1
  have hf : Own (((w3.setCell ⟨w.heap.size, 0, none⟩ (.int .i64 P)).setCell ⟨w.heap.size, 1, none⟩ (.slice A n c)).alloc (.cells #[.int .i64 P, .slice A n c] 26)) w.heap.size 2 A n c (ints sq) :=
    (((hO.base hsz).far k3 (by decide) 0 _).far (k3.set_ 0 (.int .i64 P)) (by decide) 1 _).below ((Below.refl _ _).alloc (Nat.le_refl _) _)
  have hfM : OwnM (((w3.setCell ⟨w.heap.size, 0, none⟩ (.int .i64 P)).setCell ⟨w.heap.size, 1, none⟩ (.slice A n c)).alloc (.cells #[.int .i64 P, .slice A n c] 26)) w.heap.size AL m cl L :=
    ((hX.base hsz).relB (g := 0) (res := w.heap.size) (.inr ⟨0, none, 0, 0, P, A, n, c, k3, rfl⟩)).below ((Below.refl _ _).alloc (Nat.le_refl _) _)
  have hB5 := (hB3.setCell (p := ⟨w.heap.size, 0, none⟩) (Nat.le_refl _) (.int .i64 P)).setCell (p := ⟨w.heap.size, 1, none⟩) (Nat.le_refl _) (.slice A n c)
  obtain ⟨z0, z1⟩ := ((k3.stored (p' := P) (A' := A) (n' := n) (c' := c)).alloc (.cells #[.int .i64 P, .slice A n c] 26)).two
  clear hon k0 hb3 hB0
  go_wp2
  exact bodyPost_ret (v := .tuple #[.agg #[.int .i64 P, .slice A n c], .slice AL m cl]) (by simp [results, Tryz.results91, go_sem, z0, z1]) rfl ⟨P, A, n, c, sq, AL, m, cl, L, rfl, hP, hn, hm, hL, hf, hfM, hB5.alloc (o := .cells #[.int .i64 P, .slice A n c] 26) hB5.size⟩
end Go.Proofs.YtggigolkncckoaaGreat
namespace Go.Proofs.YtggigolkncckoaaGreat
open Go.RowKit
set_option maxHeartbeats 400000 in
theorem likeInts_any (A B : Option Addr) (n m c d : Nat) (xs ys : List Int) (w : World) (hn : n ≤ 1099511627776) (hm : m ≤ 1099511627776)
    (ha : Rd w A n (ints xs)) (hb : Rd w B m (ints ys)) :
    Calls Tryz.prog 19 #[.slice A n c, .slice B m d] w fun e w' => e = .returned (.bool (decide (xs = ys))) ∧ ∃ j, w' = w.drewN j := by
  have hxl : xs.length = n := by have := ha.1; rwa [ints_length] at this
  have hyl : ys.length = m := by have := hb.1; rwa [ints_length] at this
  by_cases hnm : n = m
  · subst hnm
    have Hx := Lib.hid hxl; clear hxl
    have Hy := Lib.hid hyl; clear hyl
    go_enter Tryz.func19, Tryz.ntmps19
    go_wp2
    go_loopw [5] (fun i wr => ∃ k j : Nat, k ≤ n ∧ i = .int .i64 k ∧ xs.take k = ys.take k ∧ wr = w.drewN j) (fun i _ => n - (intOf i).toNat)
    case atStart => exact ⟨0, 0, by omega, rfl, by simp, rfl⟩
    case round =>
      obtain ⟨k, j, hk, rfl, hxy, rfl⟩ := hrel
      have H := Lib.hid hxy; clear hxy
      by_cases hlt : k < n
      · obtain ⟨g, o, rfl, hx, hcx⟩ := ha.int hlt
        obtain ⟨g', o', rfl, hy, hcy⟩ := hb.int hlt
        clear ha hb
        go_wp2
        go_quiet (fail)
        go_wp2
        · go_ret
          exact ⟨ret_bool (ne_of_get xs ys k hx hy (by assumption)).symm, _, World.drewN_drewN _ _ _⟩
        · go_roundw
          case rel => exact ⟨k + 1, _, by omega, by go_num, take_succ_eq xs ys k hx hy H.out (by simpa using (by assumption : (xs[k] != ys[k]) = false)), rfl⟩
          case measure => simp [intOf]; omega
      · go_wp2
        go_ret
        refine ⟨ret_bool ?_, _, rfl⟩
        have := H.out
        rw [List.take_of_length_le (by rw [Hx.out]; omega), List.take_of_length_le (by rw [Hy.out]; omega)] at this
        rw [this]; simp
  · have hne : decide (xs = ys) = false := by
      rw [decide_eq_false_iff_not]; rintro rfl; omega
    have Hne := Lib.hid hne; clear hne hxl hyl
    have hb0 : ((n : Int) != (m : Int)) = true := by rw [bne_iff_ne]; omega
    go_enter Tryz.func19, Tryz.ntmps19
    go_wp2
    go_ret
    exact ⟨ret_bool Hne.out.symm, 0, rfl⟩
set_option maxHeartbeats 800000 in
theorem zero5_any (A : Option Addr) (n c : Nat) (xs : List Int) (w : World) (hn : n ≤ 1099511627776) (ha : Rd w A n (ints xs)) :
    Calls Tryz.prog 29 #[.slice A n c] w fun e w' => e = .returned (.bool (decide (∀ y ∈ xs, y = 0))) ∧ w' = w := by
  have hxl : xs.length = n := by have := ha.1; rwa [ints_length] at this
  have Hx := Lib.hid hxl; clear hxl
  go_enter Tryz.func29, Tryz.ntmps29
  go_wp2
  go_loopw [3] (fun i wr => ∃ k : Nat, k ≤ n ∧ i = .int .i64 k ∧ (∀ y ∈ xs.take k, y = 0) ∧ wr = w) (fun i _ => n - (intOf i).toNat)
  case atStart => exact ⟨0, by omega, rfl, by simp, rfl⟩
  case round =>
    obtain ⟨k, hk, rfl, hxy, rfl⟩ := hrel
    have H := Lib.hid hxy; clear hxy
    by_cases hlt : k < n
    · obtain ⟨g, o, rfl, hx, hcx⟩ := ha.int hlt
      have HM : Hid (xs[k] ∈ xs) := Lib.hid (List.getElem_mem hx)
      have HT : Hid (xs.take (k + 1) = xs.take k ++ [xs[k]]) := Lib.hid (List.take_succ_eq_append_getElem hx)
      obtain ⟨u, hu⟩ : ∃ u, u = xs[k] := ⟨_, rfl⟩
      rw [← hu] at hcx HM HT
      clear hu
      by_cases hz : u = 0
      · have b0 : (u != 0) = false := by simp [hz]
        go_wp2
        go_roundw
        case rel => exact ⟨k + 1, by omega, by go_num, fun y hy => by
          rw [HT.out] at hy
          rcases List.mem_append.1 hy with hy | hy
          · exact H.out y hy
          · rw [List.mem_singleton.1 hy]; exact hz, by trivial⟩
        case measure => simp [intOf]; omega
      · have b0 : (u != 0) = true := by simp [hz]
        go_wp2
        go_ret
        exact ⟨ret_bool (by rw [eq_comm, decide_eq_false_iff_not]; exact fun h => hz (h u HM.out)), rfl⟩
    · go_wp2
      go_ret
      have := H.out
      rw [List.take_of_length_le (by rw [Hx.out]; omega)] at this
      refine ⟨ret_bool ?_, rfl⟩
      rw [eq_comm, decide_eq_true_eq]; exact this
end Go.Proofs.YtggigolkncckoaaGreat
namespace Go.Proofs.YtggigolkncckoaaGreat
open Go.RowKit
theorem big_any (A : Option Addr) (n c : Nat) (w : World) :
    Calls Tryz.prog 15 #[.slice A n c] w fun e w' => e = .returned (.bool (decide (4096 < n))) ∧ w = w' := by
  go_enter Tryz.func15, Tryz.ntmps15
  by_cases h : 4096 < n
  · have d1 : decide ((4096 : Int) < (n : Int)) = true := by rw [decide_eq_true_eq]; omega
    go_wp2
    go_ret
    exact ⟨ret_bool (by rw [eq_comm, decide_eq_true_eq]; exact h), rfl⟩
  · have d1 : decide ((4096 : Int) < (n : Int)) = false := by rw [decide_eq_false_iff_not]; omega
    go_wp2
    go_ret
    exact ⟨ret_bool (by rw [eq_comm, decide_eq_false_iff_not]; exact h), rfl⟩
end Go.Proofs.YtggigolkncckoaaGreat
namespace Go.Proofs.YtggigolkncckoaaGreat
open Go.RowKit
theorem bovR_len64 (P : Int) (sq : List Int) (L : List (List Int)) : (bovR P sq L).1.length ≤ 64 := by
  by_cases h : codeLs P sq L = 0
  · rw [bovR_ok h]
    show (blaL P sq sq.length L).length ≤ 64
    rw [blaL_len]
    exact pw_le (k := 6) (blades_out h).2.2.2.1
  · rw [bovR_bad h]; simp
set_option maxHeartbeats 25600000 in
set_option maxRecDepth 40000 in
theorem FnBlades_any (B : Option Addr) (nb cb : Nat) (bs : List Int) (w : World) (r : Rd w B nb (bs.map (Value.int .u8))) (hbs : ∀ b ∈ bs, 0 ≤ b ∧ b < 256) (hbg : ∀ a, B = some a → a.block < w.heap.size) :
    Calls Tryz.prog 10 #[.slice B nb cb] w fun e w' => e = .returned (.bool true) ∧ Below w.heap.size w w' := by
  have hbig := big_any B nb cb w
  by_cases hbb : 4096 < nb
  · rw [decide_eq_true hbb] at hbig
    go_enter Tryz.func10, Tryz.ntmps10
    go_wp2_with fail
    refine hbig.mono ?_
    rintro e w1 ⟨rfl, rfl⟩
    go_wp2
    go_ret
    exact ⟨rfl, Below.refl _ _⟩
  · rw [decide_eq_false hbb] at hbig
    have hdr := DrawBladeContains_any B nb cb bs w (by omega) r hbs hbg
    go_enter Tryz.func10, Tryz.ntmps10
    go_wp2_with fail
    refine hbig.mono ?_
    rintro e w1 ⟨rfl, rfl⟩
    clear hbig
    go_wp2_with fail
    refine hdr.mono ?_
    rintro e w2 ⟨P, A, n, c, sq, A1, m1, c1, xs, A2, m2, c2, ys, rfl, hP, hn, h1, h2, ho, hx, hy, hb2⟩
    have hcx : m1 ≤ c1 := hx.cap
    have hcy : m2 ≤ c2 := hy.cap
    have hA : Below w2.heap.size w2 (w2.alloc (.cells #[.int .i64 P, .slice A n c] 26)) := (Below.refl _ _).alloc (Nat.le_refl _) _
    have k3 : Blk (w2.alloc (.cells #[.int .i64 P, .slice A n c] 26)) w2.heap.size 26 #[.int .i64 P, .slice A n c] := Blk.new _ _ _
    have hB3 := hb2.alloc (o := .cells #[.int .i64 P, .slice A n c] 26) hb2.size
    have o3 := (ho.below hA).rd
    have x3 := (hx.base (Nat.zero_le _)).below hA
    have y3 := (hy.base (Nat.zero_le _)).below hA
    have r3 := r.below (hb2.alloc (o := .cells #[.int .i64 P, .slice A n c] 26) hb2.size)
    obtain ⟨w3, hw3⟩ : ∃ W, W = w2.alloc (.cells #[.int .i64 P, .slice A n c] 26) := ⟨_, rfl⟩
    have hb1 := BladeContains_any P A n c sq A1 m1 c1 xs A2 m2 c2 ys w3 (by omega) (by omega) (by omega) (hw3 ▸ o3) (hw3 ▸ x3.rd) hcx (hw3 ▸ y3.rd) hcy
    obtain ⟨q0, q1⟩ := k3.two
    clear hdr ho hx hy hb2 r hA
    go_wp2_with fail
    rw [← hw3] at k3 hB3 o3 x3 y3 r3 ⊢
    clear hw3
    refine hb1.mono ?_
    rintro e w4 ⟨rfl, hW⟩
    have r_x := x3.below hW
    have r_y := y3.below hW
    clear q0 q1 hb1 x3 y3
    have kk := k3.below hW k3.lt
    obtain ⟨q0, q1⟩ := kk.two
    clear kk
    have hcall := specBladeContains_any P A n c sq A1 m1 c1 xs A2 m2 c2 ys w4 (by omega) (by omega) (by omega) (o3.below hW) r_x.rd hcx r_y.rd hcy
    go_wp2_with fail
    refine hcall.mono ?_
    rintro e w5 ⟨rfl, hb7⟩
    replace r_x := r_x.below hb7
    replace r_y := r_y.below hb7
    replace hW := hW.trans (hb7.mono hW.size)
    clear hcall q0 q1
    have e0 : ((contR P sq xs ys).2 != (contR P sq xs ys).2) = false := by simp
    have e00 : ((contR P sq xs ys).1 != (contR P sq xs ys).1) = false := by simp
    by_cases hc : codeLv P sq xs ys = 0
    · obtain ⟨L, f, b, HPr, hp13, hn1, hn6, hsp, hsu, hfa, hf0, hf1, hcl, hlt, hln, hcm, hsc, hib, hco, hbb, hnil, hyl, hyn, hxl⟩ := blades_in hc
      rw [hco] at e0 e00 ⊢
      have hsl := o3.lenI
      rw [hsl] at hn1 hn6 hlt hln hcm hsc hyl hxl
      obtain rfl : m1 = pw n := by rw [← r_x.rd.lenI, hxl]
      obtain rfl : m2 = n := by rw [← r_y.rd.lenI, hyl]
      have hpw : pw m2 ≤ 64 := pw_le (k := 6) hn6
      obtain ⟨WL, hWL⟩ : ∃ V, V = wedgesL P sq m2 L := ⟨_, rfl⟩
      rw [← hWL] at hcm hsc
      have HWL := Lib.hid hWL
      have HSU := Lib.hid hsu
      have HFA := Lib.hid hfa
      have HF0 := Lib.hid (And.intro hf0 hf1)
      have HCL := Lib.hid hcl
      have HLT := Lib.hid hlt
      have HLN := Lib.hid hln
      have HCM := Lib.hid hcm
      have HSC := Lib.hid hsc
      have HIB := Lib.hid hib
      have HBB := Lib.hid hbb
      have HNI := Lib.hid hnil
      have HYN := Lib.hid hyn
      have HP := Lib.hid HPr
      clear hc hco hsu hfa hf0 hf1 hcl hlt hln hcm hsc hib hbb hnil hyn hWL hsp HPr hyl hxl hsl
      have kk := k3.below hW k3.lt
      obtain ⟨q0, q1⟩ := kk.two
      clear kk
      have hcall := SubspaceOf_any P A m2 c sq A1 (pw m2) c1 xs w5 (by omega) (by omega) (o3.below hW) r_x.rd hcx
      rw [HSU.out] at hcall
      go_wp2_with fail
      refine hcall.mono ?_
      rintro e w6 ⟨Az, kz, cz, rfl, hM⟩
      replace r_x := r_x.below hM.b
      replace r_y := r_y.below hM.b
      have r_z : RdII w6 Az kz L := hM.rd
      replace hW := hW.trans (hM.b.mono hW.size)
      clear hM
      clear hcall q0 q1
      have hkz : kz ≤ 6 := by have h9 := r_z.len; have h8 := HLN.out; omega
      have kk := k3.below hW k3.lt
      obtain ⟨q0, q1⟩ := kk.two
      clear kk
      have hcall := FactorOf_any P A m2 c sq A1 (pw m2) c1 xs w6 (by omega) (by omega) (o3.below hW) r_x.rd hcx
      rw [HFA.out] at hcall
      go_wp2_with fail
      refine hcall.mono ?_
      rintro e w7 ⟨rfl, hb7⟩
      replace r_x := r_x.below hb7
      replace r_y := r_y.below hb7
      replace r_z := r_z.below hb7
      replace hW := hW.trans (hb7.mono hW.size)
      clear hcall q0 q1
      have kk := k3.below hW k3.lt
      obtain ⟨q0, q1⟩ := kk.two
      clear kk
      have hcall := WedgeOfVectors_ok P A m2 c sq Az kz cz L w7 (by omega) (by omega) (o3.below hW) r_z (fun v hv => by rw [(HLT.out v hv).1]; omega) HCL.out
      rw [← HWL.out] at hcall
      go_wp2_with fail
      refine hcall.mono ?_
      rintro e w8 ⟨A8, c8, rfl, hM⟩
      replace r_x := r_x.below hM.b
      replace r_y := r_y.below hM.b
      replace r_z := r_z.below hM.b
      have r_b := hM.rd
      have i_b := hM.2.cap
      replace hW := hW.trans (hM.b.mono hW.size)
      clear hM
      clear hcall q0 q1
      have kk := k3.below hW k3.lt
      obtain ⟨q0, q1⟩ := kk.two
      clear kk
      have hcall := ScaleMultivector_ok P A m2 c sq A8 (pw m2) c8 WL f w8 (by omega) (by omega) (o3.below hW) r_b i_b HCM.out HF0.out.1 HF0.out.2
      rw [HSC.out] at hcall
      go_wp2_with fail
      refine hcall.mono ?_
      rintro e w9 ⟨A9, c9, rfl, hM⟩
      replace r_x := r_x.below hM.b
      replace r_y := r_y.below hM.b
      replace r_z := r_z.below hM.b
      replace r_b := r_b.below hM.b
      have r_s := hM.rd
      replace hW := hW.trans (hM.b.mono hW.size)
      clear hM
      clear hcall q0 q1
      clear r_b
      have kk := k3.below hW k3.lt
      obtain ⟨q0, q1⟩ := kk.two
      clear kk
      have hcall := IsBlade_any P A m2 c sq A1 (pw m2) c1 xs w9 (by omega) (by omega) (o3.below hW) r_x.rd hcx
      rw [HIB.out] at hcall
      go_wp2_with fail
      refine hcall.mono ?_
      rintro e w10 ⟨rfl, hb7⟩
      replace r_x := r_x.below hb7
      replace r_y := r_y.below hb7
      replace r_z := r_z.below hb7
      replace r_s := r_s.below hb7
      replace hW := hW.trans (hb7.mono hW.size)
      clear hcall q0 q1
      have kk := k3.below hW k3.lt
      obtain ⟨q0, q1⟩ := kk.two
      clear kk
      have hcall := likeInts_any A9 A1 (pw m2) (pw m2) c9 c1 xs xs w10 (by omega) (by omega) r_s r_x.rd
      rw [decide_eq_true rfl] at hcall
      go_wp2_with fail
      refine hcall.mono ?_
      rintro e w11 ⟨rfl, j1, hw9⟩
      have hb7 := below_drewN (Below.refl w10.heap.size w10) j1
      rw [← hw9] at hb7
      replace r_x := r_x.below hb7
      replace r_y := r_y.below hb7
      replace r_z := r_z.below hb7
      replace r_s := r_s.below hb7
      replace hW := hW.trans (hb7.mono hW.size)
      clear hcall q0 q1 hb7 hw9
      clear r_s
      clear i_b
      have kk := k3.below hW k3.lt
      obtain ⟨q0, q1⟩ := kk.two
      clear kk
      have hz5 := zero5_any A2 m2 c2 ys w11 (by omega) r_y.rd
      obtain ⟨zz, hzz⟩ : ∃ z, z = decide (∀ y ∈ ys, y = 0) := ⟨_, rfl⟩
      rw [← hzz] at hz5
      go_wp2_with fail
      refine hz5.mono ?_
      rintro e w12 ⟨rfl, rfl⟩
      clear hz5 q0 q1
      by_cases hk0 : kz = 0
      · have e5 : decide ((0 : Int) < (kz : Int)) = false := by simp; omega
        have hzb : zz = b := by rw [hzz, HNI.out (List.eq_nil_of_length_eq_zero (by rw [r_z.len]; exact hk0))]
        have e6 : (zz != zz) = false := by simp
        subst hk0
        clear r_x r_y r_z HWL HSU HFA HF0 HCL HLT HLN HCM HSC HIB HBB HNI HYN HP hzz e0 e00
        subst hzb
        have hdr2 := DrawBladeOfVectors_any B nb cb bs w12 (by omega) (r3.below hW) hbs (fun a e => Nat.lt_of_lt_of_le (hbg a e) (Nat.le_trans hB3.size hW.size))
        go_wp2_with fail
        refine hdr2.mono ?_
        rintro e w12 ⟨P4, A4, n4, c4, sq4, AL, m4, cl4, L4, rfl, hP4, hn4, hm4, hL4, hO4, hX4, hb12⟩
        have hB12 := (hB3.trans (hW.mono hB3.size)).trans (hb12.mono (Nat.le_trans hB3.size hW.size))
        clear hdr2 k3 o3 r3 hB3 hW hb12
        have hA : Below w12.heap.size w12 (w12.alloc (.cells #[.int .i64 P4, .slice A4 n4 c4] 26)) := (Below.refl _ _).alloc (Nat.le_refl _) _
        have k9 : Blk (w12.alloc (.cells #[.int .i64 P4, .slice A4 n4 c4] 26)) w12.heap.size 26 #[.int .i64 P4, .slice A4 n4 c4] := Blk.new _ _ _
        have hB9 := hB12.alloc (o := .cells #[.int .i64 P4, .slice A4 n4 c4] 26) hB12.size
        have o9 := (hO4.below hA).rd
        have r_l := (hX4.below hA).rd
        have HLN4 := Lib.hid (show ∀ v ∈ L4, v.length ≤ 1048576 from fun v hv => Nat.le_trans (hL4 v hv) (by omega))
        obtain ⟨w13, hw13⟩ : ∃ W, W = w12.alloc (.cells #[.int .i64 P4, .slice A4 n4 c4] 26) := ⟨_, rfl⟩
        have hb1 := BladeOfVectors_any P4 A4 n4 c4 sq4 AL m4 cl4 L4 w13 (by omega) (by omega) (hw13 ▸ o9) (hw13 ▸ r_l) HLN4.out
        obtain ⟨RV, hRV⟩ : ∃ R, R = bovR P4 sq4 L4 := ⟨_, rfl⟩
        rw [← hRV] at hb1
        have hrl64 : RV.1.length ≤ 64 := by rw [hRV]; exact bovR_len64 _ _ _
        have HRV := Lib.hid hRV
        clear hRV
        obtain ⟨q0, q1⟩ := k9.two
        clear hO4 hX4 hL4 hA hB12
        go_wp2_with fail
        rw [← hw13] at k9 hB9 o9 r_l ⊢
        clear hw13
        refine hb1.mono ?_
        rintro e w14 ⟨A14, k14, c14, rfl, hM4⟩
        have hV := hM4.b
        replace r_l := r_l.below hV
        have r_u := hM4.rd
        have i_u := hM4.2.cap
        clear q0 q1 hb1 hM4
        have kk := k9.below hV k9.lt
        obtain ⟨q0, q1⟩ := kk.two
        clear kk
        have hcall := specBladeOfVectors_any P4 A4 n4 c4 sq4 AL m4 cl4 L4 w14 (by omega) (by omega) (o9.below hV) r_l HLN4.out
        rw [← HRV.out] at hcall
        go_wp2_with fail
        refine hcall.mono ?_
        rintro e w15 ⟨A15, k15, c15, rfl, hM⟩
        replace r_l := r_l.below hM.b
        replace r_u := r_u.below hM.b
        have r_t := hM.rd
        replace hV := hV.trans (hM.b.mono hV.size)
        clear hM
        clear hcall q0 q1
        have l14 := r_u.lenI
        have l15 := r_t.lenI
        have e0 : (RV.2 != RV.2) = false := by simp
        have kk := k9.below hV k9.lt
        obtain ⟨q0, q1⟩ := kk.two
        clear kk
        have hcall := likeInts_any A14 A15 k14 k15 c14 c15 RV.1 RV.1 w15 (by omega) (by omega) r_u r_t
        rw [decide_eq_true rfl] at hcall
        go_wp2_with fail
        refine hcall.mono ?_
        rintro e w16 ⟨rfl, j2, hw9⟩
        have hb7 := below_drewN (Below.refl w15.heap.size w15) j2
        rw [← hw9] at hb7
        replace r_l := r_l.below hb7
        replace r_u := r_u.below hb7
        replace r_t := r_t.below hb7
        replace hV := hV.trans (hb7.mono hV.size)
        clear hcall q0 q1 hb7 hw9
        clear r_t
        clear e0 l15
        by_cases hc2 : codeLs P4 sq4 L4 = 0
        · have e1 : (RV.2 != 0) = false := by rw [HRV.out, bovR_ok hc2]; rfl
          obtain ⟨HP4, hp13, hn41, hn46, hib, hib2⟩ := blades_out hc2
          have hsl4 := o9.lenI
          rw [hsl4] at hib hib2 hn41 hn46
          have hr1 : RV.1 = blaL P4 sq4 n4 L4 := by rw [HRV.out, bovR_ok hc2, hsl4]
          rw [hr1] at r_u l14
          obtain ⟨W4, hW4⟩ : ∃ V, V = wedgesL P4 sq4 n4 L4 := ⟨_, rfl⟩
          have hWn : W4.length = pw n4 := by rw [hW4]; exact wedgesL_len _ _ _ _ _ rfl
          rw [← hW4] at hib2
          obtain ⟨z4, hz4⟩ : ∃ z, z = decide (∀ y ∈ W4, y = 0) := ⟨_, rfl⟩
          rw [← hz4] at hib2
          have hpw4 : pw n4 ≤ 64 := pw_le (k := 6) hn46
          have hk14 : k14 ≤ 64 := by rw [← l14, blaL_len]; exact hpw4
          have HIB := Lib.hid hib
          have HIB2 := Lib.hid hib2
          have HW4 := Lib.hid hW4
          have HZ4 := Lib.hid hz4
          have HC2 := Lib.hid hc2
          clear hib hib2 hW4 hz4 hc2 hr1 hrl64
          have kk := k9.below hV k9.lt
          obtain ⟨q0, q1⟩ := kk.two
          clear kk
          have hcall := IsBlade_any P4 A4 n4 c4 sq4 A14 k14 c14 (blaL P4 sq4 n4 L4) w16 (by omega) (by omega) (o9.below hV) r_u i_u
          rw [HIB.out] at hcall
          go_wp2_with fail
          refine hcall.mono ?_
          rintro e w17 ⟨rfl, hb7⟩
          replace r_l := r_l.below hb7
          replace r_u := r_u.below hb7
          replace hV := hV.trans (hb7.mono hV.size)
          clear hcall q0 q1
          have kk := k9.below hV k9.lt
          obtain ⟨q0, q1⟩ := kk.two
          clear kk
          have hcall := WedgeOfVectors_ok P4 A4 n4 c4 sq4 AL m4 cl4 L4 w17 (by omega) (by omega) (o9.below hV) r_l HLN4.out HC2.out
          rw [← HW4.out] at hcall
          go_wp2_with fail
          refine hcall.mono ?_
          rintro e w18 ⟨A18, c18, rfl, hM⟩
          replace r_l := r_l.below hM.b
          replace r_u := r_u.below hM.b
          have r_w := hM.rd
          have i_w := hM.2.cap
          replace hV := hV.trans (hM.b.mono hV.size)
          clear hM
          clear hcall q0 q1
          have kk := k9.below hV k9.lt
          obtain ⟨q0, q1⟩ := kk.two
          clear kk
          have hcall := IsBlade_any P4 A4 n4 c4 sq4 A18 (pw n4) c18 W4 w18 (by omega) (by omega) (o9.below hV) r_w i_w
          rw [HIB2.out] at hcall
          go_wp2_with fail
          refine hcall.mono ?_
          rintro e w19 ⟨rfl, hb7⟩
          replace r_l := r_l.below hb7
          replace r_u := r_u.below hb7
          replace r_w := r_w.below hb7
          replace hV := hV.trans (hb7.mono hV.size)
          clear hcall q0 q1
          have kk := k9.below hV k9.lt
          obtain ⟨q0, q1⟩ := kk.two
          clear kk
          have hz5 := zero5_any A18 (pw n4) c18 W4 w19 (by omega) r_w
          rw [← HZ4.out] at hz5
          have e3 : ((!z4) != z4) = true := by cases z4 <;> rfl
          go_wp2_with fail
          refine hz5.mono ?_
          rintro e w20 ⟨rfl, rfl⟩
          go_wp2
          go_ret
          exact ⟨rfl, hB9.trans (hV.mono hB9.size)⟩
        · have hne : ¬ RV.2 = 0 := by rw [HRV.out, bovR_bad hc2]; exact hc2
          have e1 : (RV.2 != 0) = true := by simp [hne]
          clear hne hc2
          go_wp2
          go_ret
          exact ⟨rfl, hB9.trans (hV.mono hB9.size)⟩
      · have e5 : decide ((0 : Int) < (kz : Int)) = true := by simp; omega
        have hcall := InSpan_any P Az kz cz L A2 m2 c2 ys w12 HP.out (by omega) (by omega) (by omega) (by omega) r_z HLT.out r_y HYN.out
        rw [← HBB.out] at hcall
        have e6 : (b != b) = false := by simp
        have kk := k3.below hW k3.lt
        obtain ⟨q0, q1⟩ := kk.two
        go_wp2_with fail
        refine hcall.mono ?_
        rintro e w21 ⟨rfl, hb7⟩
        replace hW := hW.trans (hb7.mono hW.size)
        clear hcall q0 q1 kk hb7 r_x r_y r_z HWL HSU HFA HF0 HCL HLT HLN HCM HSC HIB HBB HNI HYN HP hzz e0 e00
        have hdr2 := DrawBladeOfVectors_any B nb cb bs w21 (by omega) (r3.below hW) hbs (fun a e => Nat.lt_of_lt_of_le (hbg a e) (Nat.le_trans hB3.size hW.size))
        go_wp2_with fail
        refine hdr2.mono ?_
        rintro e w12 ⟨P4, A4, n4, c4, sq4, AL, m4, cl4, L4, rfl, hP4, hn4, hm4, hL4, hO4, hX4, hb12⟩
        have hB12 := (hB3.trans (hW.mono hB3.size)).trans (hb12.mono (Nat.le_trans hB3.size hW.size))
        clear hdr2 k3 o3 r3 hB3 hW hb12
        have hA : Below w12.heap.size w12 (w12.alloc (.cells #[.int .i64 P4, .slice A4 n4 c4] 26)) := (Below.refl _ _).alloc (Nat.le_refl _) _
        have k9 : Blk (w12.alloc (.cells #[.int .i64 P4, .slice A4 n4 c4] 26)) w12.heap.size 26 #[.int .i64 P4, .slice A4 n4 c4] := Blk.new _ _ _
        have hB9 := hB12.alloc (o := .cells #[.int .i64 P4, .slice A4 n4 c4] 26) hB12.size
        have o9 := (hO4.below hA).rd
        have r_l := (hX4.below hA).rd
        have HLN4 := Lib.hid (show ∀ v ∈ L4, v.length ≤ 1048576 from fun v hv => Nat.le_trans (hL4 v hv) (by omega))
        obtain ⟨w13, hw13⟩ : ∃ W, W = w12.alloc (.cells #[.int .i64 P4, .slice A4 n4 c4] 26) := ⟨_, rfl⟩
        have hb1 := BladeOfVectors_any P4 A4 n4 c4 sq4 AL m4 cl4 L4 w13 (by omega) (by omega) (hw13 ▸ o9) (hw13 ▸ r_l) HLN4.out
        obtain ⟨RV, hRV⟩ : ∃ R, R = bovR P4 sq4 L4 := ⟨_, rfl⟩
        rw [← hRV] at hb1
        have hrl64 : RV.1.length ≤ 64 := by rw [hRV]; exact bovR_len64 _ _ _
        have HRV := Lib.hid hRV
        clear hRV
        obtain ⟨q0, q1⟩ := k9.two
        clear hO4 hX4 hL4 hA hB12
        go_wp2_with fail
        rw [← hw13] at k9 hB9 o9 r_l ⊢
        clear hw13
        refine hb1.mono ?_
        rintro e w14 ⟨A14, k14, c14, rfl, hM4⟩
        have hV := hM4.b
        replace r_l := r_l.below hV
        have r_u := hM4.rd
        have i_u := hM4.2.cap
        clear q0 q1 hb1 hM4
        have kk := k9.below hV k9.lt
        obtain ⟨q0, q1⟩ := kk.two
        clear kk
        have hcall := specBladeOfVectors_any P4 A4 n4 c4 sq4 AL m4 cl4 L4 w14 (by omega) (by omega) (o9.below hV) r_l HLN4.out
        rw [← HRV.out] at hcall
        go_wp2_with fail
        refine hcall.mono ?_
        rintro e w15 ⟨A15, k15, c15, rfl, hM⟩
        replace r_l := r_l.below hM.b
        replace r_u := r_u.below hM.b
        have r_t := hM.rd
        replace hV := hV.trans (hM.b.mono hV.size)
        clear hM
        clear hcall q0 q1
        have l14 := r_u.lenI
        have l15 := r_t.lenI
        have e0 : (RV.2 != RV.2) = false := by simp
        have kk := k9.below hV k9.lt
        obtain ⟨q0, q1⟩ := kk.two
        clear kk
        have hcall := likeInts_any A14 A15 k14 k15 c14 c15 RV.1 RV.1 w15 (by omega) (by omega) r_u r_t
        rw [decide_eq_true rfl] at hcall
        go_wp2_with fail
        refine hcall.mono ?_
        rintro e w16 ⟨rfl, j2, hw9⟩
        have hb7 := below_drewN (Below.refl w15.heap.size w15) j2
        rw [← hw9] at hb7
        replace r_l := r_l.below hb7
        replace r_u := r_u.below hb7
        replace r_t := r_t.below hb7
        replace hV := hV.trans (hb7.mono hV.size)
        clear hcall q0 q1 hb7 hw9
        clear r_t
        clear e0 l15
        by_cases hc2 : codeLs P4 sq4 L4 = 0
        · have e1 : (RV.2 != 0) = false := by rw [HRV.out, bovR_ok hc2]; rfl
          obtain ⟨HP4, hp13, hn41, hn46, hib, hib2⟩ := blades_out hc2
          have hsl4 := o9.lenI
          rw [hsl4] at hib hib2 hn41 hn46
          have hr1 : RV.1 = blaL P4 sq4 n4 L4 := by rw [HRV.out, bovR_ok hc2, hsl4]
          rw [hr1] at r_u l14
          obtain ⟨W4, hW4⟩ : ∃ V, V = wedgesL P4 sq4 n4 L4 := ⟨_, rfl⟩
          have hWn : W4.length = pw n4 := by rw [hW4]; exact wedgesL_len _ _ _ _ _ rfl
          rw [← hW4] at hib2
          obtain ⟨z4, hz4⟩ : ∃ z, z = decide (∀ y ∈ W4, y = 0) := ⟨_, rfl⟩
          rw [← hz4] at hib2
          have hpw4 : pw n4 ≤ 64 := pw_le (k := 6) hn46
          have hk14 : k14 ≤ 64 := by rw [← l14, blaL_len]; exact hpw4
          have HIB := Lib.hid hib
          have HIB2 := Lib.hid hib2
          have HW4 := Lib.hid hW4
          have HZ4 := Lib.hid hz4
          have HC2 := Lib.hid hc2
          clear hib hib2 hW4 hz4 hc2 hr1 hrl64
          have kk := k9.below hV k9.lt
          obtain ⟨q0, q1⟩ := kk.two
          clear kk
          have hcall := IsBlade_any P4 A4 n4 c4 sq4 A14 k14 c14 (blaL P4 sq4 n4 L4) w16 (by omega) (by omega) (o9.below hV) r_u i_u
          rw [HIB.out] at hcall
          go_wp2_with fail
          refine hcall.mono ?_
          rintro e w17 ⟨rfl, hb7⟩
          replace r_l := r_l.below hb7
          replace r_u := r_u.below hb7
          replace hV := hV.trans (hb7.mono hV.size)
          clear hcall q0 q1
          have kk := k9.below hV k9.lt
          obtain ⟨q0, q1⟩ := kk.two
          clear kk
          have hcall := WedgeOfVectors_ok P4 A4 n4 c4 sq4 AL m4 cl4 L4 w17 (by omega) (by omega) (o9.below hV) r_l HLN4.out HC2.out
          rw [← HW4.out] at hcall
          go_wp2_with fail
          refine hcall.mono ?_
          rintro e w18 ⟨A18, c18, rfl, hM⟩
          replace r_l := r_l.below hM.b
          replace r_u := r_u.below hM.b
          have r_w := hM.rd
          have i_w := hM.2.cap
          replace hV := hV.trans (hM.b.mono hV.size)
          clear hM
          clear hcall q0 q1
          have kk := k9.below hV k9.lt
          obtain ⟨q0, q1⟩ := kk.two
          clear kk
          have hcall := IsBlade_any P4 A4 n4 c4 sq4 A18 (pw n4) c18 W4 w18 (by omega) (by omega) (o9.below hV) r_w i_w
          rw [HIB2.out] at hcall
          go_wp2_with fail
          refine hcall.mono ?_
          rintro e w19 ⟨rfl, hb7⟩
          replace r_l := r_l.below hb7
          replace r_u := r_u.below hb7
          replace r_w := r_w.below hb7
          replace hV := hV.trans (hb7.mono hV.size)
          clear hcall q0 q1
          have kk := k9.below hV k9.lt
          obtain ⟨q0, q1⟩ := kk.two
          clear kk
          have hz5 := zero5_any A18 (pw n4) c18 W4 w19 (by omega) r_w
          rw [← HZ4.out] at hz5
          have e3 : ((!z4) != z4) = true := by cases z4 <;> rfl
          go_wp2_with fail
          refine hz5.mono ?_
          rintro e w20 ⟨rfl, rfl⟩
          go_wp2
          go_ret
          exact ⟨rfl, hB9.trans (hV.mono hB9.size)⟩
        · have hne : ¬ RV.2 = 0 := by rw [HRV.out, bovR_bad hc2]; exact hc2
          have e1 : (RV.2 != 0) = true := by simp [hne]
          clear hne hc2
          go_wp2
          go_ret
          exact ⟨rfl, hB9.trans (hV.mono hB9.size)⟩
    · have hne : ¬ (contR P sq xs ys).2 = 0 := by rw [contR_bad hc]; exact hc
      have e1 : ((contR P sq xs ys).2 == 0) = false := by simp [hne]
      clear hne hc r_x r_y
      have hdr2 := DrawBladeOfVectors_any B nb cb bs w5 (by omega) (r3.below hW) hbs (fun a e => Nat.lt_of_lt_of_le (hbg a e) (Nat.le_trans hB3.size hW.size))
      go_wp2_with fail
      refine hdr2.mono ?_
      rintro e w12 ⟨P4, A4, n4, c4, sq4, AL, m4, cl4, L4, rfl, hP4, hn4, hm4, hL4, hO4, hX4, hb12⟩
      have hB12 := (hB3.trans (hW.mono hB3.size)).trans (hb12.mono (Nat.le_trans hB3.size hW.size))
      clear hdr2 k3 o3 r3 hB3 hW hb12
      have hA : Below w12.heap.size w12 (w12.alloc (.cells #[.int .i64 P4, .slice A4 n4 c4] 26)) := (Below.refl _ _).alloc (Nat.le_refl _) _
      have k9 : Blk (w12.alloc (.cells #[.int .i64 P4, .slice A4 n4 c4] 26)) w12.heap.size 26 #[.int .i64 P4, .slice A4 n4 c4] := Blk.new _ _ _
      have hB9 := hB12.alloc (o := .cells #[.int .i64 P4, .slice A4 n4 c4] 26) hB12.size
      have o9 := (hO4.below hA).rd
      have r_l := (hX4.below hA).rd
      have HLN4 := Lib.hid (show ∀ v ∈ L4, v.length ≤ 1048576 from fun v hv => Nat.le_trans (hL4 v hv) (by omega))
      obtain ⟨w13, hw13⟩ : ∃ W, W = w12.alloc (.cells #[.int .i64 P4, .slice A4 n4 c4] 26) := ⟨_, rfl⟩
      have hb1 := BladeOfVectors_any P4 A4 n4 c4 sq4 AL m4 cl4 L4 w13 (by omega) (by omega) (hw13 ▸ o9) (hw13 ▸ r_l) HLN4.out
      obtain ⟨RV, hRV⟩ : ∃ R, R = bovR P4 sq4 L4 := ⟨_, rfl⟩
      rw [← hRV] at hb1
      have hrl64 : RV.1.length ≤ 64 := by rw [hRV]; exact bovR_len64 _ _ _
      have HRV := Lib.hid hRV
      clear hRV
      obtain ⟨q0, q1⟩ := k9.two
      clear hO4 hX4 hL4 hA hB12
      go_wp2_with fail
      rw [← hw13] at k9 hB9 o9 r_l ⊢
      clear hw13
      refine hb1.mono ?_
      rintro e w14 ⟨A14, k14, c14, rfl, hM4⟩
      have hV := hM4.b
      replace r_l := r_l.below hV
      have r_u := hM4.rd
      have i_u := hM4.2.cap
      clear q0 q1 hb1 hM4
      have kk := k9.below hV k9.lt
      obtain ⟨q0, q1⟩ := kk.two
      clear kk
      have hcall := specBladeOfVectors_any P4 A4 n4 c4 sq4 AL m4 cl4 L4 w14 (by omega) (by omega) (o9.below hV) r_l HLN4.out
      rw [← HRV.out] at hcall
      go_wp2_with fail
      refine hcall.mono ?_
      rintro e w15 ⟨A15, k15, c15, rfl, hM⟩
      replace r_l := r_l.below hM.b
      replace r_u := r_u.below hM.b
      have r_t := hM.rd
      replace hV := hV.trans (hM.b.mono hV.size)
      clear hM
      clear hcall q0 q1
      have l14 := r_u.lenI
      have l15 := r_t.lenI
      have e0 : (RV.2 != RV.2) = false := by simp
      have kk := k9.below hV k9.lt
      obtain ⟨q0, q1⟩ := kk.two
      clear kk
      have hcall := likeInts_any A14 A15 k14 k15 c14 c15 RV.1 RV.1 w15 (by omega) (by omega) r_u r_t
      rw [decide_eq_true rfl] at hcall
      go_wp2_with fail
      refine hcall.mono ?_
      rintro e w16 ⟨rfl, j2, hw9⟩
      have hb7 := below_drewN (Below.refl w15.heap.size w15) j2
      rw [← hw9] at hb7
      replace r_l := r_l.below hb7
      replace r_u := r_u.below hb7
      replace r_t := r_t.below hb7
      replace hV := hV.trans (hb7.mono hV.size)
      clear hcall q0 q1 hb7 hw9
      clear r_t
      clear e0 l15
      by_cases hc2 : codeLs P4 sq4 L4 = 0
      · have e1 : (RV.2 != 0) = false := by rw [HRV.out, bovR_ok hc2]; rfl
        obtain ⟨HP4, hp13, hn41, hn46, hib, hib2⟩ := blades_out hc2
        have hsl4 := o9.lenI
        rw [hsl4] at hib hib2 hn41 hn46
        have hr1 : RV.1 = blaL P4 sq4 n4 L4 := by rw [HRV.out, bovR_ok hc2, hsl4]
        rw [hr1] at r_u l14
        obtain ⟨W4, hW4⟩ : ∃ V, V = wedgesL P4 sq4 n4 L4 := ⟨_, rfl⟩
        have hWn : W4.length = pw n4 := by rw [hW4]; exact wedgesL_len _ _ _ _ _ rfl
        rw [← hW4] at hib2
        obtain ⟨z4, hz4⟩ : ∃ z, z = decide (∀ y ∈ W4, y = 0) := ⟨_, rfl⟩
        rw [← hz4] at hib2
        have hpw4 : pw n4 ≤ 64 := pw_le (k := 6) hn46
        have hk14 : k14 ≤ 64 := by rw [← l14, blaL_len]; exact hpw4
        have HIB := Lib.hid hib
        have HIB2 := Lib.hid hib2
        have HW4 := Lib.hid hW4
        have HZ4 := Lib.hid hz4
        have HC2 := Lib.hid hc2
        clear hib hib2 hW4 hz4 hc2 hr1 hrl64
        have kk := k9.below hV k9.lt
        obtain ⟨q0, q1⟩ := kk.two
        clear kk
        have hcall := IsBlade_any P4 A4 n4 c4 sq4 A14 k14 c14 (blaL P4 sq4 n4 L4) w16 (by omega) (by omega) (o9.below hV) r_u i_u
        rw [HIB.out] at hcall
        go_wp2_with fail
        refine hcall.mono ?_
        rintro e w17 ⟨rfl, hb7⟩
        replace r_l := r_l.below hb7
        replace r_u := r_u.below hb7
        replace hV := hV.trans (hb7.mono hV.size)
        clear hcall q0 q1
        have kk := k9.below hV k9.lt
        obtain ⟨q0, q1⟩ := kk.two
        clear kk
        have hcall := WedgeOfVectors_ok P4 A4 n4 c4 sq4 AL m4 cl4 L4 w17 (by omega) (by omega) (o9.below hV) r_l HLN4.out HC2.out
        rw [← HW4.out] at hcall
        go_wp2_with fail
        refine hcall.mono ?_
        rintro e w18 ⟨A18, c18, rfl, hM⟩
        replace r_l := r_l.below hM.b
        replace r_u := r_u.below hM.b
        have r_w := hM.rd
        have i_w := hM.2.cap
        replace hV := hV.trans (hM.b.mono hV.size)
        clear hM
        clear hcall q0 q1
        have kk := k9.below hV k9.lt
        obtain ⟨q0, q1⟩ := kk.two
        clear kk
        have hcall := IsBlade_any P4 A4 n4 c4 sq4 A18 (pw n4) c18 W4 w18 (by omega) (by omega) (o9.below hV) r_w i_w
        rw [HIB2.out] at hcall
        go_wp2_with fail
        refine hcall.mono ?_
        rintro e w19 ⟨rfl, hb7⟩
        replace r_l := r_l.below hb7
        replace r_u := r_u.below hb7
        replace r_w := r_w.below hb7
        replace hV := hV.trans (hb7.mono hV.size)
        clear hcall q0 q1
        have kk := k9.below hV k9.lt
        obtain ⟨q0, q1⟩ := kk.two
        clear kk
        have hz5 := zero5_any A18 (pw n4) c18 W4 w19 (by omega) r_w
        rw [← HZ4.out] at hz5
        have e3 : ((!z4) != z4) = true := by cases z4 <;> rfl
        go_wp2_with fail
        refine hz5.mono ?_
        rintro e w20 ⟨rfl, rfl⟩
        go_wp2
        go_ret
        exact ⟨rfl, hB9.trans (hV.mono hB9.size)⟩
      · have hne : ¬ RV.2 = 0 := by rw [HRV.out, bovR_bad hc2]; exact hc2
        have e1 : (RV.2 != 0) = true := by simp [hne]
        clear hne hc2
        go_wp2
        go_ret
        exact ⟨rfl, hB9.trans (hV.mono hB9.size)⟩
end Go.Proofs.YtggigolkncckoaaGreat

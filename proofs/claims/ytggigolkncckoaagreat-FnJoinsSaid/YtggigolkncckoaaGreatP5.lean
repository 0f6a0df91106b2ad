/-
  LawFnJoins: part 5 of the texts that the proof needs. No condition.
-/
import Derived.Test.YtggigolkncckoaaGreatP4
namespace Go.Proofs.YtggigolkncckoaaGreat
open Go.RowKit
/-- The value is a slice of one new row in a block of its own. -/
def VNew (w0 : World) (n : Nat) (L : List Int) : VP := ⟨fun v w => ∃ g A c, v = .slice (some ⟨g, 0, none⟩) 1 1 ∧ Blk w g 24 #[.slice A n c] ∧ MkI w0 w A n c L, fun _ _ _ ⟨g, A, c, e, b, h⟩ hb => ⟨g, A, c, e, b.below hb b.lt, h.below hb⟩⟩
/-- A new row, in a block of its own, is appended. -/
theorem wp_appRow {o : Oper} {a : Act} {K : Act → World → Prop} {Q : Exit → Act → World → Prop} (w0 wr w1 : World)
    (s x : Operand) (ho : o.op = .call { callee := .builtin .append, args := #[s, x], argTypes := #[44, 44] })
    (A : Option Addr) (n c : Nat) (xss : List (List Int)) (A1 : Option Addr) (m c1 : Nat) (xs : List Int) (hM : MkII w0 wr A n c xss) (hr : Mk wr w1 2 A1 m c1 (ints xs)) (hn : n ≤ 1099511627776) (g : Nat) (hB : Blk w1 g 24 #[.slice A1 m c1])
    (hs : a.eval s = .slice A n c) (hx : a.eval x = .slice (some ⟨g, 0, none⟩) 1 1)
    (h : ∀ A' c' w', MkII w0 w' A' (n + 1) c' (xss ++ [xs]) → w1.grownBy w' (Value.slice A n c).ownBlock → (∃ g, A' = some ⟨g, 0, none⟩ ∧ ((Value.slice A n c).ownBlock = some g ∨ w1.heap.size ≤ g)) → K (a.put o.dst (.slice A' (n + 1) c')) w') : o.wp Tryz.prog a w1 K Q := by
  obtain ⟨rows, hm, hnest⟩ := hM
  have hm1 := hm.below hr.1
  have hn1 := hnest.snoc hr hm.1.size
  obtain ⟨i, hi, h1, h2, h3⟩ := info_parts info_s
  obtain ⟨b1, b2⟩ := bound_of hn
  refine wp_append_lies w1 s x 44 ho w0.heap.size 24 i (.slice none 0 0) 1 24 Tryz.underlying44 hi h1 h2 h3 rfl (by omega) (.slice A n c) n rows hs hm1.2 ⟨g, 0, none⟩ 1 1 [.slice A1 m c1] hx rfl (fun j v hv => ?_)
    (by intro v hv; simp at hv; rw [hv]; rfl) (by omega) b1 (b2 _ (by omega)) hm1.1.size _ rfl (fun g' cap w' hown hg hat _ => h _ _ _ ⟨_, ⟨hm1.1.grown hg hm1.1.size (fun k hk => (hm1.2.lt k hk).1), hown⟩, hn1.grown hm1.2 (by decide) hg⟩ hg ⟨g', rfl, hat.imp id (fun e => by omega)⟩)
  match j, hv with
  | 0, hv => simp at hv; subst hv; rw [Addr.add_lit]; exact hB.cell 0
/-- The columns: the outer products of the unit vectors with a multivector. -/
def wcolL (P : Int) (sq : List Int) (n : Nat) (xs : List Int) (i : Nat) : List Int := wedgeL P sq (vecTo n (unitRow n i) n) xs
def wcolsL (P : Int) (sq : List Int) (n : Nat) (xs : List Int) : List (List Int) := tab n (wcolL P sq n xs)
/-- The reduced basis of the vectors whose outer product with a multivector is 0. -/
def subL (P : Int) (sq : List Int) (n : Nat) (xs : List Int) : List (List Int) := kernL P (transL (wcolsL P sq n xs)) n
theorem wcolsL_tab {P : Int} (hp : 0 < P) (sq : List Int) (n : Nat) (xs : List Int) : Tab P (pw n) (wcolsL P sq n xs) :=
  Tab.tab fun i _ => ⟨by unfold wcolL; rw [wedgeL_len, vecTo_len], wedgeL_nums hp _ _ _⟩
theorem wcolsL_len (P : Int) (sq : List Int) (n : Nat) (xs : List Int) : (wcolsL P sq n xs).length = n := tab_len _ _
theorem wtrans_tab {P : Int} (hp : 0 < P) (sq : List Int) (n : Nat) (xs : List Int) : Tab P n (transL (wcolsL P sq n xs)) := by
  have := transL_tab hp (wcolsL_tab hp sq n xs)
  rwa [wcolsL_len] at this
theorem subL_len {P : Int} (HP : isP P = true) (sq : List Int) (n : Nat) (xs : List Int) : (subL P sq n xs).length ≤ n := kernL_len HP _ _
theorem subL_tab {P : Int} (hp : 2 ≤ P) (sq : List Int) (n : Nat) (xs : List Int) : Tab P n (subL P sq n xs) := kernL_tab hp _ _
set_option maxHeartbeats 3200000 in
set_option maxRecDepth 8000 in
theorem subspace_any (P : Int) (A : Option Addr) (n c : Nat) (sq : List Int) (X : Option Addr) (cx : Nat) (xs : List Int) (w : World) (HP : isP P = true) (hn : n ≤ 6) (h0 : 0 < n) (ha : Rd w A n (ints sq)) (hs : NumsL P sq) (hx : Rd w X (pw n) (ints xs)) (hxs : NumsL P xs) :
    Calls Tryz.prog 228 #[.agg #[.int .i64 P, .slice A n c], .slice X (pw n) cx] w fun e w' => ∃ A' c', e = .returned (.slice A' (subL P sq n xs).length c') ∧ MkII w w' A' (subL P sq n xs).length c' (subL P sq n xs) := by
  obtain ⟨hp3, hp2⟩ := isP_ge HP
  have hp : 2 ≤ P := by omega
  have hpn := pw_pos n
  have hpw : pw n ≤ 64 := pw_le hn
  have hB0 : Below w.heap.size w (w.alloc (.cells #[.int .i64 P, .slice A n c] 26)) := (Below.refl _ _).alloc (Nat.le_refl _) _
  have k0 : Blk (w.alloc (.cells #[.int .i64 P, .slice A n c] 26)) w.heap.size 26 #[.int .i64 P, .slice A n c] := Blk.new _ _ _
  have hB1 := hB0.alloc (by simp) (.cells #[] 24)
  have k1 := k0.alloc (.cells #[] 24)
  have hM1 : MkII w ((w.alloc (.cells #[.int .i64 P, .slice A n c] 26)).alloc (.cells #[] 24)) (some ⟨w.heap.size + 1, 0, none⟩) 0 0 [] := by
    have := MkII.empty hB0
    simpa using this
  clear k0 hB0
  obtain ⟨q0, q1⟩ := k1.two
  go_enter Tryz.func228, Tryz.ntmps228
  go_wp2_with fail
  refine (dim_any _ _ _ _ _).mono ?_
  rintro e w2 ⟨rfl, hb2⟩
  have hM2 := hM1.below hb2
  have hB2 := hB1.trans (hb2.mono hB1.size)
  have k2 := k1.below hb2 k1.lt
  have hsz2 : w.heap.size + 1 < w2.heap.size := by have := hb2.size; simp at this; omega
  clear hM1 q0 q1 k1 hB1 hb2
  go_wp2_with fail
  refine (unit_any n _ (by omega)).mono ?_
  rintro e w3 ⟨U, cU, rfl, hU⟩
  have hM3 := hM2.below hU.b
  have k3 := k2.below hU.b k2.lt
  have hKp : Keeps w2 w3 w3 (.slice (some ⟨w.heap.size + 1, 0, none⟩) 0 0) := ⟨Nat.le_refl _, fun _ _ _ => rfl, fun gb e => .inl (lt_of_own e hsz2)⟩
  have hklt : w.heap.size < w2.heap.size := by omega
  clear hM2 hB2 k2 hsz2
  go_wp2
  go_loopw [5, 7, 13] (fun out _ i wr => ∃ (k : Nat) (A' : Option Addr) (c' : Nat), k ≤ n ∧ i = .int .i64 k ∧ out = .slice A' k c' ∧ MkII w wr A' k c' (tab k (wcolL P sq n xs)) ∧ Keeps w2 w3 wr (.slice A' k c') ∧ Blk wr w.heap.size 26 #[.int .i64 P, .slice A n c]) (fun _ _ i _ => n - (intOf i).toNat)
  case atStart => exact ⟨0, _, _, by omega, rfl, rfl, by simpa [tab] using hM3, hKp, k3⟩
  case round =>
    obtain ⟨k, A', c', hk, rfl, rfl, hM, hB4, k4⟩ := hrel
    clear hM3 hKp k3
    by_cases hlt : k < n
    · obtain ⟨gu, ou, rfl, hxk, A1, c1, hcu, hru, hcc⟩ := (hU.keep hB4.2.1).at_ hlt
      have hrow := unitM_get n k hxk
      rw [hrow, unitRow_len] at hru hcu hcc
      have HRU := Lib.hid hru
      have HM := Lib.hid hM
      have HB4 := Lib.hid hB4
      have HUN := Lib.hid (unitRow_nums hp n k)
      have HA := Lib.hid (ha.below hM.b)
      have HX := Lib.hid (hx.below hM.b)
      have HSQ := Lib.hid hs
      have HXS := Lib.hid hxs
      have HWC : Hid (wcolL P sq n xs k = wedgeL P sq (vecTo n (unitRow n k) n) xs) := Lib.hid rfl
      clear hM hru hrow hB4 hcc hxk
      go_wp2
      refine wp_obs 8 [[], [], [], [], [2, 3], [], [1, 2, 3, 4, 5], [1, 2, 3, 4, 5, 6], [0, 1, 2, 3, 4, 5, 6, 7], [0, 1, 2, 3, 4, 5, 6, 7, 8]] [VIs (.slice A' k c'), VIs (.agg #[.int .i64 P, .slice A n c]), VIs (.agg #[.int .i64 P, .slice A n c]), VIs (.slice A1 n c1), VSl wr (pw n) (vecTo n (unitRow n k) n), VIs (.slice X (pw n) cx), VSl wr (pw n) (wedgeL P sq (vecTo n (unitRow n k) n) xs), VNew wr (pw n) (wedgeL P sq (vecTo n (unitRow n k) n) xs)] (fun w' => Blk w' w.heap.size 26 #[.int .i64 P, .slice A n c] ∧ Below wr.heap.size wr w') (by kernel_rfl) (by kernel_rfl) (fun _ _ h hb => ⟨h.1.below hb h.1.lt, h.2.trans (hb.mono h.2.size)⟩) (⟨k4.drew, (Below.refl _ _).drew⟩) (fun x => ?_)
      refine obs_step (Eq.trans (by simp only [List.getElem?_toArray, List.getElem?_cons_zero]; exact rfl) rfl) rfl (fun w' hS hV K hK => ?_) ?_
      · obtain ⟨q0, q1⟩ := hS.1.two
        go_simp
        exact hK.out _ _ _ rfl rfl rfl (Below.refl _ _)
      simp only [List.setIfInBounds_toArray, List.set_cons_zero, List.set_cons_succ]
      refine obs_step (Eq.trans (by simp only [List.getElem?_toArray, List.getElem?_cons_succ, List.getElem?_cons_zero]; exact rfl) rfl) rfl (fun w' hS hV K hK => ?_) ?_
      · obtain ⟨q0, q1⟩ := hS.1.two
        go_simp
        exact hK.out _ _ _ rfl rfl rfl (Below.refl _ _)
      simp only [List.setIfInBounds_toArray, List.set_cons_zero, List.set_cons_succ]
      refine obs_step (Eq.trans (by simp only [List.getElem?_toArray, List.getElem?_cons_succ, List.getElem?_cons_zero]; exact rfl) rfl) rfl (fun w' hS hV K hK => ?_) ?_
      · obtain ⟨q0, q1⟩ := hS.1.two
        go_simp
        exact hK.out _ _ _ rfl rfl rfl (Below.refl _ _)
      simp only [List.setIfInBounds_toArray, List.set_cons_zero, List.set_cons_succ]
      refine obs_step (Eq.trans (by simp only [List.getElem?_toArray, List.getElem?_cons_succ, List.getElem?_cons_zero]; exact rfl) rfl) rfl (fun w' hS hV K hK => ?_) ?_
      · obtain ⟨q0, q1⟩ := hS.1.two
        go_simp
        exact hK.out _ _ _ rfl rfl rfl (Below.refl _ _)
      simp only [List.setIfInBounds_toArray, List.set_cons_zero, List.set_cons_succ]
      refine obs_step (Eq.trans (by simp only [List.getElem?_toArray, List.getElem?_cons_succ, List.getElem?_cons_zero]; exact rfl) rfl) rfl (fun w' hS hV K hK => ?_) ?_
      · have e2 : x 2 = (.agg #[.int .i64 P, .slice A n c]) := hV 2 (by decide)
        have e3 : x 3 = (.slice A1 n c1) := hV 3 (by decide)
        obtain ⟨q0, q1⟩ := hS.1.two
        go_simp
        refine (vector_any P A n c _ _ (unitRow n k) _ (by omega) (HRU.out.below hS.2)).mono ?_
        rintro e v1 ⟨A2, c2, rfl, hM⟩
        exact hK.out _ _ _ rfl rfl ⟨_, _, rfl, hM.after hS.2⟩ hM.b
      simp only [List.setIfInBounds_toArray, List.set_cons_zero, List.set_cons_succ]
      refine obs_step (Eq.trans (by simp only [List.getElem?_toArray, List.getElem?_cons_succ, List.getElem?_cons_zero]; exact rfl) rfl) rfl (fun w' hS hV K hK => ?_) ?_
      · obtain ⟨q0, q1⟩ := hS.1.two
        go_simp
        exact hK.out _ _ _ rfl rfl rfl (Below.refl _ _)
      simp only [List.setIfInBounds_toArray, List.set_cons_zero, List.set_cons_succ]
      refine obs_step (Eq.trans (by simp only [List.getElem?_toArray, List.getElem?_cons_succ, List.getElem?_cons_zero]; exact rfl) rfl) rfl (fun w' hS hV K hK => ?_) ?_
      · have e1 : x 1 = (.agg #[.int .i64 P, .slice A n c]) := hV 1 (by decide)
        have e2 : x 2 = (.agg #[.int .i64 P, .slice A n c]) := hV 2 (by decide)
        have e3 : x 3 = (.slice A1 n c1) := hV 3 (by decide)
        obtain ⟨A4, c4, e4, h4⟩ := hV 4 (by decide)
        have e5 : x 5 = (.slice X (pw n) cx) := hV 5 (by decide)
        obtain ⟨q0, q1⟩ := hS.1.two
        go_simp
        refine (wedge_any P A n c sq _ _ (vecTo n (unitRow n k) n) _ _ xs _ hp hp2 hn (HA.out.below hS.2) HSQ.out h4.rd (vecTo_nums (by omega) n _ HUN.out n) (HX.out.below hS.2) HXS.out).mono ?_
        rintro e v1 ⟨A2, c2, rfl, hM⟩
        exact hK.out _ _ _ rfl rfl ⟨_, _, rfl, hM.after hS.2⟩ hM.b
      simp only [List.setIfInBounds_toArray, List.set_cons_zero, List.set_cons_succ]
      refine obs_step (Eq.trans (by simp only [List.getElem?_toArray, List.getElem?_cons_succ, List.getElem?_cons_zero]; exact rfl) rfl) rfl (fun w' hS hV K hK => ?_) ?_
      · have e1 : x 1 = (.agg #[.int .i64 P, .slice A n c]) := hV 1 (by decide)
        have e2 : x 2 = (.agg #[.int .i64 P, .slice A n c]) := hV 2 (by decide)
        have e3 : x 3 = (.slice A1 n c1) := hV 3 (by decide)
        obtain ⟨A4, c4, e4, h4⟩ := hV 4 (by decide)
        have e5 : x 5 = (.slice X (pw n) cx) := hV 5 (by decide)
        obtain ⟨A6, c6, e6, h6⟩ := hV 6 (by decide)
        obtain ⟨q0, q1⟩ := hS.1.two
        go_simp
        exact hK.out _ _ _ rfl rfl ⟨_, _, _, rfl, Blk.new _ _ _, h6.below ((Below.refl _ _).alloc (Nat.le_refl _) _)⟩ ((Below.refl _ _).alloc (Nat.le_refl _) _)
      simp only [List.setIfInBounds_toArray, List.set_cons_zero, List.set_cons_succ]
      refine fun w' hS hV => ?_
      have e0 : x 0 = (.slice A' k c') := hV 0 (by decide)
      have e1 : x 1 = (.agg #[.int .i64 P, .slice A n c]) := hV 1 (by decide)
      have e2 : x 2 = (.agg #[.int .i64 P, .slice A n c]) := hV 2 (by decide)
      have e3 : x 3 = (.slice A1 n c1) := hV 3 (by decide)
      obtain ⟨A4, c4, e4, h4⟩ := hV 4 (by decide)
      have e5 : x 5 = (.slice X (pw n) cx) := hV 5 (by decide)
      obtain ⟨A6, c6, e6, h6⟩ := hV 6 (by decide)
      obtain ⟨g7, A7, c7, e7, b7, h7⟩ := hV 7 (by decide)
      simp only [e0, e1, e2, e3, e4, e5, e6, e7]
      clear e0 e1 e2 e3 e4 e5 e6 e7
      obtain ⟨k3, s2⟩ := hS
      refine any_plain (j := 8) (by kernel_rfl) (Eq.trans (by simp only [List.getElem?_toArray, List.getElem?_cons_succ, List.getElem?_cons_zero]; exact rfl) rfl) rfl (fun K hK => ?_)
      refine wp_appRow w wr w' _ _ rfl A' k c' _ A7 (pw n) c7 _ HM.out h7 (by omega) g7 b7 (by rfl) (by rfl) ?_
      intro A20 c20 w20 hM20 hg20 hat20
      refine hK.out _ _ ?_
      simp only [Act.put, List.setIfInBounds_toArray, List.set_cons_zero, List.set_cons_succ]
      refine any_one (j := 9) (by kernel_rfl) (Eq.trans (by simp only [List.getElem?_toArray, List.getElem?_cons_succ, List.getElem?_cons_zero]; exact rfl) rfl) (fun K hK => ?_)
      go_simp
      refine hK.out _ _ (wpAny_done (by kernel_rfl) ?_ _)
      have hk5 := k3.grown hg20 ((HM.out.below s2).ne_blk k3 (by decide))
      have hks := HB4.out.step s2 hg20 hat20 (n' := k + 1) (c' := c20)
      clear k3 hat20 hg20
      go_wp2
      go_roundw
      case rel => exact ⟨k + 1, A20, c20, by omega, by go_num, rfl, by rw [tab_succ, HWC.out]; exact hM20, hks, hk5⟩
      case measure => simp [intOf]; omega
    · obtain rfl : k = n := by omega
      have HM := Lib.hid hM
      have htr := fun w' (hb : Below wr.heap.size wr w') => transpose_any P A' k c' (wcolsL P sq k xs) (pw k) w' h0 (by omega) (by omega) (HM.out.rd.below hb) (wcolsL_tab (by omega) sq k xs)
      have HTR := Lib.hid htr
      have HT2 := Lib.hid (wtrans_tab (P := P) (by omega) sq k xs)
      have HLK : Hid ((subL P sq k xs) = kernL P (transL (wcolsL P sq k xs)) k) := Lib.hid rfl
      have HPP := Lib.hid HP
      clear hM hB4 htr
      go_wp2
      refine wp_obs 8 [[], [0], [], [2], [], [4], [0, 1, 2, 3, 4, 5], [0, 1, 2, 3, 4, 5, 6]] [VIs (.agg #[.int .i64 P, .slice A k c]), VIs (.int .i64 (P)), VIs (.slice A' k c'), VMat wr (pw k) (transL (wcolsL P sq k xs)), VIs (.agg #[.int .i64 P, .slice A k c]), VIs (.int .i64 (k)), VMat wr (subL P sq k xs).length (subL P sq k xs), VMat wr (subL P sq k xs).length (subL P sq k xs)] (fun w' => Blk w' w.heap.size 26 #[.int .i64 P, .slice A k c] ∧ Below wr.heap.size wr w') (by kernel_rfl) (by kernel_rfl) (fun _ _ h hb => ⟨h.1.below hb h.1.lt, h.2.trans (hb.mono h.2.size)⟩) (⟨k4.drew, (Below.refl _ _).drew⟩) (fun x => ?_)
      refine obs_step (Eq.trans (by simp only [List.getElem?_toArray, List.getElem?_cons_zero]; exact rfl) rfl) rfl (fun w' hS hV K hK => ?_) ?_
      · obtain ⟨q0, q1⟩ := hS.1.two
        go_simp
        exact hK.out _ _ _ rfl rfl rfl (Below.refl _ _)
      simp only [List.setIfInBounds_toArray, List.set_cons_zero, List.set_cons_succ]
      refine obs_step (Eq.trans (by simp only [List.getElem?_toArray, List.getElem?_cons_succ, List.getElem?_cons_zero]; exact rfl) rfl) rfl (fun w' hS hV K hK => ?_) ?_
      · have e0 : x 0 = (.agg #[.int .i64 P, .slice A k c]) := hV 0 (by decide)
        obtain ⟨q0, q1⟩ := hS.1.two
        go_simp
        refine (field_any _ _ _ _ _).mono ?_
        rintro e v1 ⟨rfl, hb⟩
        exact hK.out _ _ _ rfl rfl rfl hb
      simp only [List.setIfInBounds_toArray, List.set_cons_zero, List.set_cons_succ]
      refine obs_step (Eq.trans (by simp only [List.getElem?_toArray, List.getElem?_cons_succ, List.getElem?_cons_zero]; exact rfl) rfl) rfl (fun w' hS hV K hK => ?_) ?_
      · obtain ⟨q0, q1⟩ := hS.1.two
        go_simp
        exact hK.out _ _ _ rfl rfl rfl (Below.refl _ _)
      simp only [List.setIfInBounds_toArray, List.set_cons_zero, List.set_cons_succ]
      refine obs_step (Eq.trans (by simp only [List.getElem?_toArray, List.getElem?_cons_succ, List.getElem?_cons_zero]; exact rfl) rfl) rfl (fun w' hS hV K hK => ?_) ?_
      · have e2 : x 2 = (.slice A' k c') := hV 2 (by decide)
        obtain ⟨q0, q1⟩ := hS.1.two
        go_simp
        refine (HTR.out _ hS.2).mono ?_
        rintro e v1 ⟨A2, c2, rfl, hM⟩
        exact hK.out _ _ _ rfl rfl ⟨_, _, rfl, hM.after hS.2⟩ hM.b
      simp only [List.setIfInBounds_toArray, List.set_cons_zero, List.set_cons_succ]
      refine obs_step (Eq.trans (by simp only [List.getElem?_toArray, List.getElem?_cons_succ, List.getElem?_cons_zero]; exact rfl) rfl) rfl (fun w' hS hV K hK => ?_) ?_
      · obtain ⟨q0, q1⟩ := hS.1.two
        go_simp
        exact hK.out _ _ _ rfl rfl rfl (Below.refl _ _)
      simp only [List.setIfInBounds_toArray, List.set_cons_zero, List.set_cons_succ]
      refine obs_step (Eq.trans (by simp only [List.getElem?_toArray, List.getElem?_cons_succ, List.getElem?_cons_zero]; exact rfl) rfl) rfl (fun w' hS hV K hK => ?_) ?_
      · have e4 : x 4 = (.agg #[.int .i64 P, .slice A k c]) := hV 4 (by decide)
        obtain ⟨q0, q1⟩ := hS.1.two
        go_simp
        refine (dim_any _ _ _ _ _).mono ?_
        rintro e v1 ⟨rfl, hb⟩
        exact hK.out _ _ _ rfl rfl rfl hb
      simp only [List.setIfInBounds_toArray, List.set_cons_zero, List.set_cons_succ]
      refine obs_step (Eq.trans (by simp only [List.getElem?_toArray, List.getElem?_cons_succ, List.getElem?_cons_zero]; exact rfl) rfl) rfl (fun w' hS hV K hK => ?_) ?_
      · have e0 : x 0 = (.agg #[.int .i64 P, .slice A k c]) := hV 0 (by decide)
        have e1 : x 1 = (.int .i64 (P)) := hV 1 (by decide)
        have e2 : x 2 = (.slice A' k c') := hV 2 (by decide)
        obtain ⟨A3, c3, e3, h3⟩ := hV 3 (by decide)
        have e4 : x 4 = (.agg #[.int .i64 P, .slice A k c]) := hV 4 (by decide)
        have e5 : x 5 = (.int .i64 (k)) := hV 5 (by decide)
        obtain ⟨q0, q1⟩ := hS.1.two
        go_simp
        refine (kernel_any P _ _ _ (transL (wcolsL P sq k xs)) k _ HPP.out (by omega) (by omega) h3.rd HT2.out).mono ?_
        rw [← HLK.out]
        rintro e v1 ⟨A2, c2, rfl, hM⟩
        exact hK.out _ _ _ rfl rfl ⟨_, _, rfl, hM.after hS.2⟩ hM.b
      simp only [List.setIfInBounds_toArray, List.set_cons_zero, List.set_cons_succ]
      refine obs_step (Eq.trans (by simp only [List.getElem?_toArray, List.getElem?_cons_succ, List.getElem?_cons_zero]; exact rfl) rfl) rfl (fun w' hS hV K hK => ?_) ?_
      · have e0 : x 0 = (.agg #[.int .i64 P, .slice A k c]) := hV 0 (by decide)
        have e1 : x 1 = (.int .i64 (P)) := hV 1 (by decide)
        have e2 : x 2 = (.slice A' k c') := hV 2 (by decide)
        obtain ⟨A3, c3, e3, h3⟩ := hV 3 (by decide)
        have e4 : x 4 = (.agg #[.int .i64 P, .slice A k c]) := hV 4 (by decide)
        have e5 : x 5 = (.int .i64 (k)) := hV 5 (by decide)
        obtain ⟨A6, c6, e6, h6⟩ := hV 6 (by decide)
        obtain ⟨q0, q1⟩ := hS.1.two
        go_simp
        exact hK.out _ _ _ rfl rfl ⟨_, _, rfl, h6⟩ (Below.refl _ _)
      simp only [List.setIfInBounds_toArray, List.set_cons_zero, List.set_cons_succ]
      refine fun w' hS hV => ?_
      have e0 : x 0 = (.agg #[.int .i64 P, .slice A k c]) := hV 0 (by decide)
      have e1 : x 1 = (.int .i64 (P)) := hV 1 (by decide)
      have e2 : x 2 = (.slice A' k c') := hV 2 (by decide)
      obtain ⟨A3, c3, e3, h3⟩ := hV 3 (by decide)
      have e4 : x 4 = (.agg #[.int .i64 P, .slice A k c]) := hV 4 (by decide)
      have e5 : x 5 = (.int .i64 (k)) := hV 5 (by decide)
      obtain ⟨A6, c6, e6, h6⟩ := hV 6 (by decide)
      obtain ⟨A7, c7, e7, h7⟩ := hV 7 (by decide)
      simp only [e0, e1, e2, e3, e4, e5, e6, e7]
      clear e0 e1 e2 e3 e4 e5 e6 e7
      refine wpAny_done (by kernel_rfl) ?_ _
      go_wp2
      go_ret
      exact ⟨_, _, rfl, h7.after HM.out.b⟩
set_option maxHeartbeats 3200000 in
set_option maxRecDepth 8000 in
theorem l06Subspace_any (P : Int) (A : Option Addr) (n c : Nat) (sq : List Int) (X : Option Addr) (cx : Nat) (xs : List Int) (w : World) (HP : isP P = true) (hn : n ≤ 6) (h0 : 0 < n) (ha : Rd w A n (ints sq)) (hs : NumsL P sq) (hx : Rd w X (pw n) (ints xs)) (hxs : NumsL P xs) :
    Calls Tryz.prog 231 #[.agg #[.int .i64 P, .slice A n c], .slice X (pw n) cx] w fun e w' => ∃ A' c', e = .returned (.slice A' (subL P sq n xs).length c') ∧ MkII w w' A' (subL P sq n xs).length c' (subL P sq n xs) := by
  obtain ⟨hp3, hp2⟩ := isP_ge HP
  have hp : 2 ≤ P := by omega
  have hpn := pw_pos n
  have hpw : pw n ≤ 64 := pw_le hn
  have hB0 : Below w.heap.size w (w.alloc (.cells #[.int .i64 P, .slice A n c] 26)) := (Below.refl _ _).alloc (Nat.le_refl _) _
  have k0 : Blk (w.alloc (.cells #[.int .i64 P, .slice A n c] 26)) w.heap.size 26 #[.int .i64 P, .slice A n c] := Blk.new _ _ _
  have hB1 := hB0.alloc (by simp) (.cells #[] 24)
  have k1 := k0.alloc (.cells #[] 24)
  have hM1 : MkII w ((w.alloc (.cells #[.int .i64 P, .slice A n c] 26)).alloc (.cells #[] 24)) (some ⟨w.heap.size + 1, 0, none⟩) 0 0 [] := by
    have := MkII.empty hB0
    simpa using this
  clear k0 hB0
  obtain ⟨q0, q1⟩ := k1.two
  have hmk := make_i (P := Tryz.prog) 24 2 Tryz.underlying24 info_i n (by omega)
  go_enter Tryz.func231, Tryz.ntmps231
  go_wp2
  obtain ⟨w1, hw1⟩ : ∃ W, W = (w.alloc (.cells #[.int .i64 P, .slice A n c] 26)).alloc (.cells #[] 24) := ⟨_, rfl⟩
  rw [← hw1] at hM1 k1 ⊢
  clear hw1 hB1 q0 q1
  go_loopw [5, 6] (fun out i wr => ∃ (k : Nat) (A' : Option Addr) (c' : Nat), k ≤ n ∧ i = .int .i64 k ∧ out = .slice A' k c' ∧ MkII w wr A' k c' (tab k (wcolL P sq n xs)) ∧ Blk wr w.heap.size 26 #[.int .i64 P, .slice A n c]) (fun _ i _ => n - (intOf i).toNat)
  case atStart => exact ⟨0, _, _, by omega, rfl, rfl, by simpa [tab] using hM1, k1⟩
  case round =>
    obtain ⟨k, A', c', hk, rfl, rfl, hM, k4⟩ := hrel
    clear hM1 k1
    obtain ⟨q0, q1⟩ := k4.two
    by_cases hlt : k < n
    · have hm1 := Mk.made (E := 2) (n := n) (z := .int .i64 0) (Below.refl wr.heap.size wr) (by simp only [maxLen]; omega)
      rw [ints_replicate] at hm1
      obtain ⟨u1, hc1⟩ := hm1.2.cellI hlt
      have hf1 := hm1.2.frozen_ k
      have hm2 := (hm1.set k (.int .i64 1)).1
      rw [ints_set, World.setCell_alloc_at _ _ _ _ _ rfl] at hm2
      have HRU := Lib.hid (show MkI wr _ (some ⟨wr.heap.size, 0, none⟩) n n (unitRow n k) from hm2)
      have k5 := k4.below hm2.b k4.lt
      have HM := Lib.hid hM
      have HUN := Lib.hid (unitRow_nums hp n k)
      have HA := Lib.hid (ha.below (hM.b.trans (hm2.b.mono hM.b.size)))
      have HX := Lib.hid (hx.below (hM.b.trans (hm2.b.mono hM.b.size)))
      have HSQ := Lib.hid hs
      have HXS := Lib.hid hxs
      have HWC : Hid (wcolL P sq n xs k = wedgeL P sq (vecTo n (unitRow n k) n) xs) := Lib.hid rfl
      have HBW := Lib.hid hm2.b
      clear hM hm1 hm2
      go_wp2
      clear hc1 hf1
      refine wp_obs 8 [[], [], [], [], [2, 3], [], [1, 2, 3, 4, 5], [1, 2, 3, 4, 5, 6], [0, 1, 2, 3, 4, 5, 6, 7], [0, 1, 2, 3, 4, 5, 6, 7, 8]] [VIs (.slice A' k c'), VIs (.agg #[.int .i64 P, .slice A n c]), VIs (.agg #[.int .i64 P, .slice A n c]), VIs (.slice (some ⟨wr.heap.size, 0, none⟩) n n), VSl wr (pw n) (vecTo n (unitRow n k) n), VIs (.slice X (pw n) cx), VSl wr (pw n) (wedgeL P sq (vecTo n (unitRow n k) n) xs), VNew wr (pw n) (wedgeL P sq (vecTo n (unitRow n k) n) xs)] (fun w' => Blk w' w.heap.size 26 #[.int .i64 P, .slice A n c] ∧ Below (wr.alloc (.cells ((madeCells #[.int .i64 0] n).setIfInBounds k (.int .i64 1)) 2)).heap.size (wr.alloc (.cells ((madeCells #[.int .i64 0] n).setIfInBounds k (.int .i64 1)) 2)) w') (by kernel_rfl) (by kernel_rfl) (fun _ _ h hb => ⟨h.1.below hb h.1.lt, h.2.trans (hb.mono h.2.size)⟩) (⟨k5.drew, (Below.refl _ _).drew⟩) (fun x => ?_)
      refine obs_step (Eq.trans (by simp only [List.getElem?_toArray, List.getElem?_cons_zero]; exact rfl) rfl) rfl (fun w' hS hV K hK => ?_) ?_
      · obtain ⟨q0, q1⟩ := hS.1.two
        go_simp
        exact hK.out _ _ _ rfl rfl rfl (Below.refl _ _)
      simp only [List.setIfInBounds_toArray, List.set_cons_zero, List.set_cons_succ]
      refine obs_step (Eq.trans (by simp only [List.getElem?_toArray, List.getElem?_cons_succ, List.getElem?_cons_zero]; exact rfl) rfl) rfl (fun w' hS hV K hK => ?_) ?_
      · obtain ⟨q0, q1⟩ := hS.1.two
        go_simp
        exact hK.out _ _ _ rfl rfl rfl (Below.refl _ _)
      simp only [List.setIfInBounds_toArray, List.set_cons_zero, List.set_cons_succ]
      refine obs_step (Eq.trans (by simp only [List.getElem?_toArray, List.getElem?_cons_succ, List.getElem?_cons_zero]; exact rfl) rfl) rfl (fun w' hS hV K hK => ?_) ?_
      · obtain ⟨q0, q1⟩ := hS.1.two
        go_simp
        exact hK.out _ _ _ rfl rfl rfl (Below.refl _ _)
      simp only [List.setIfInBounds_toArray, List.set_cons_zero, List.set_cons_succ]
      refine obs_step (Eq.trans (by simp only [List.getElem?_toArray, List.getElem?_cons_succ, List.getElem?_cons_zero]; exact rfl) rfl) rfl (fun w' hS hV K hK => ?_) ?_
      · obtain ⟨q0, q1⟩ := hS.1.two
        go_simp
        exact hK.out _ _ _ rfl rfl rfl (Below.refl _ _)
      simp only [List.setIfInBounds_toArray, List.set_cons_zero, List.set_cons_succ]
      refine obs_step (Eq.trans (by simp only [List.getElem?_toArray, List.getElem?_cons_succ, List.getElem?_cons_zero]; exact rfl) rfl) rfl (fun w' hS hV K hK => ?_) ?_
      · have e2 : x 2 = (.agg #[.int .i64 P, .slice A n c]) := hV 2 (by decide)
        have e3 : x 3 = (.slice (some ⟨wr.heap.size, 0, none⟩) n n) := hV 3 (by decide)
        obtain ⟨q0, q1⟩ := hS.1.two
        go_simp
        refine (l04Vector_any P A n c _ _ (unitRow n k) _ (by omega) (HRU.out.rd.below hS.2)).mono ?_
        rintro e v1 ⟨A2, c2, rfl, hM⟩
        exact hK.out _ _ _ rfl rfl ⟨_, _, rfl, (hM.after hS.2).after HBW.out⟩ hM.b
      simp only [List.setIfInBounds_toArray, List.set_cons_zero, List.set_cons_succ]
      refine obs_step (Eq.trans (by simp only [List.getElem?_toArray, List.getElem?_cons_succ, List.getElem?_cons_zero]; exact rfl) rfl) rfl (fun w' hS hV K hK => ?_) ?_
      · obtain ⟨q0, q1⟩ := hS.1.two
        go_simp
        exact hK.out _ _ _ rfl rfl rfl (Below.refl _ _)
      simp only [List.setIfInBounds_toArray, List.set_cons_zero, List.set_cons_succ]
      refine obs_step (Eq.trans (by simp only [List.getElem?_toArray, List.getElem?_cons_succ, List.getElem?_cons_zero]; exact rfl) rfl) rfl (fun w' hS hV K hK => ?_) ?_
      · have e1 : x 1 = (.agg #[.int .i64 P, .slice A n c]) := hV 1 (by decide)
        have e2 : x 2 = (.agg #[.int .i64 P, .slice A n c]) := hV 2 (by decide)
        have e3 : x 3 = (.slice (some ⟨wr.heap.size, 0, none⟩) n n) := hV 3 (by decide)
        obtain ⟨A4, c4, e4, h4⟩ := hV 4 (by decide)
        have e5 : x 5 = (.slice X (pw n) cx) := hV 5 (by decide)
        obtain ⟨q0, q1⟩ := hS.1.two
        go_simp
        refine (l05Wedge_any P A n c sq _ _ (vecTo n (unitRow n k) n) _ _ xs _ hp hp2 hn (HA.out.below hS.2) HSQ.out h4.rd (vecTo_nums (by omega) n _ HUN.out n) (HX.out.below hS.2) HXS.out).mono ?_
        rintro e v1 ⟨A2, c2, rfl, hM⟩
        exact hK.out _ _ _ rfl rfl ⟨_, _, rfl, (hM.after hS.2).after HBW.out⟩ hM.b
      simp only [List.setIfInBounds_toArray, List.set_cons_zero, List.set_cons_succ]
      refine obs_step (Eq.trans (by simp only [List.getElem?_toArray, List.getElem?_cons_succ, List.getElem?_cons_zero]; exact rfl) rfl) rfl (fun w' hS hV K hK => ?_) ?_
      · have e1 : x 1 = (.agg #[.int .i64 P, .slice A n c]) := hV 1 (by decide)
        have e2 : x 2 = (.agg #[.int .i64 P, .slice A n c]) := hV 2 (by decide)
        have e3 : x 3 = (.slice (some ⟨wr.heap.size, 0, none⟩) n n) := hV 3 (by decide)
        obtain ⟨A4, c4, e4, h4⟩ := hV 4 (by decide)
        have e5 : x 5 = (.slice X (pw n) cx) := hV 5 (by decide)
        obtain ⟨A6, c6, e6, h6⟩ := hV 6 (by decide)
        obtain ⟨q0, q1⟩ := hS.1.two
        go_simp
        exact hK.out _ _ _ rfl rfl ⟨_, _, _, rfl, Blk.new _ _ _, h6.below ((Below.refl _ _).alloc (Nat.le_refl _) _)⟩ ((Below.refl _ _).alloc (Nat.le_refl _) _)
      simp only [List.setIfInBounds_toArray, List.set_cons_zero, List.set_cons_succ]
      refine fun w' hS hV => ?_
      have e0 : x 0 = (.slice A' k c') := hV 0 (by decide)
      have e1 : x 1 = (.agg #[.int .i64 P, .slice A n c]) := hV 1 (by decide)
      have e2 : x 2 = (.agg #[.int .i64 P, .slice A n c]) := hV 2 (by decide)
      have e3 : x 3 = (.slice (some ⟨wr.heap.size, 0, none⟩) n n) := hV 3 (by decide)
      obtain ⟨A4, c4, e4, h4⟩ := hV 4 (by decide)
      have e5 : x 5 = (.slice X (pw n) cx) := hV 5 (by decide)
      obtain ⟨A6, c6, e6, h6⟩ := hV 6 (by decide)
      obtain ⟨g7, A7, c7, e7, b7, h7⟩ := hV 7 (by decide)
      simp only [e0, e1, e2, e3, e4, e5, e6, e7]
      clear e0 e1 e2 e3 e4 e5 e6 e7
      obtain ⟨k3, s2'⟩ := hS
      have s2 := HBW.out.trans (s2'.mono HBW.out.size)
      refine any_plain (j := 8) (by kernel_rfl) (Eq.trans (by simp only [List.getElem?_toArray, List.getElem?_cons_succ, List.getElem?_cons_zero]; exact rfl) rfl) rfl (fun K hK => ?_)
      refine wp_appRow w wr w' _ _ rfl A' k c' _ A7 (pw n) c7 _ HM.out h7 (by omega) g7 b7 (by rfl) (by rfl) ?_
      intro A20 c20 w20 hM20 hg20 hat20
      refine hK.out _ _ ?_
      simp only [Act.put, List.setIfInBounds_toArray, List.set_cons_zero, List.set_cons_succ]
      refine any_one (j := 9) (by kernel_rfl) (Eq.trans (by simp only [List.getElem?_toArray, List.getElem?_cons_succ, List.getElem?_cons_zero]; exact rfl) rfl) (fun K hK => ?_)
      go_simp
      refine hK.out _ _ (wpAny_done (by kernel_rfl) ?_ _)
      have hk5 := k3.grown hg20 ((HM.out.below s2).ne_blk k3 (by decide))
      clear k3 hat20 hg20
      go_wp2
      go_roundw
      case rel => exact ⟨k + 1, A20, c20, by omega, by go_num, rfl, by rw [tab_succ, HWC.out]; exact hM20, hk5⟩
      case measure => simp [intOf]; omega
    · obtain rfl : k = n := by omega
      have HM := Lib.hid hM
      have htr := fun w' (hb : Below wr.heap.size wr w') => l02Turn_any P A' k c' (wcolsL P sq k xs) (pw k) w' h0 (by omega) (by omega) (HM.out.rd.below hb) (wcolsL_tab (by omega) sq k xs)
      have HTR := Lib.hid htr
      have HT2 := Lib.hid (wtrans_tab (P := P) (by omega) sq k xs)
      have HLK : Hid ((subL P sq k xs) = kernL P (transL (wcolsL P sq k xs)) k) := Lib.hid rfl
      have HPP := Lib.hid HP
      clear hM htr
      go_wp2
      refine wp_obs 6 [[], [0], [], [2], [0, 1, 2, 3], [0, 1, 2, 3, 4]] [VIs (.pointer (some ⟨w.heap.size, 0, none⟩)), VIs (.int .i64 (P)), VIs (.slice A' k c'), VMat wr (pw k) (transL (wcolsL P sq k xs)), VMat wr (subL P sq k xs).length (subL P sq k xs), VMat wr (subL P sq k xs).length (subL P sq k xs)] (fun w' => Blk w' w.heap.size 26 #[.int .i64 P, .slice A k c] ∧ Below wr.heap.size wr w') (by kernel_rfl) (by kernel_rfl) (fun _ _ h hb => ⟨h.1.below hb h.1.lt, h.2.trans (hb.mono h.2.size)⟩) (⟨k4.drew, (Below.refl _ _).drew⟩) (fun x => ?_)
      refine obs_step (Eq.trans (by simp only [List.getElem?_toArray, List.getElem?_cons_zero]; exact rfl) rfl) rfl (fun w' hS hV K hK => ?_) ?_
      · obtain ⟨q0, q1⟩ := hS.1.two
        go_simp
        exact hK.out _ _ _ rfl rfl rfl (Below.refl _ _)
      simp only [List.setIfInBounds_toArray, List.set_cons_zero, List.set_cons_succ]
      refine obs_step (Eq.trans (by simp only [List.getElem?_toArray, List.getElem?_cons_succ, List.getElem?_cons_zero]; exact rfl) rfl) rfl (fun w' hS hV K hK => ?_) ?_
      · have e0 : x 0 = (.pointer (some ⟨w.heap.size, 0, none⟩)) := hV 0 (by decide)
        obtain ⟨q0, q1⟩ := hS.1.two
        go_simp
        exact hK.out _ _ _ rfl rfl rfl (Below.refl _ _)
      simp only [List.setIfInBounds_toArray, List.set_cons_zero, List.set_cons_succ]
      refine obs_step (Eq.trans (by simp only [List.getElem?_toArray, List.getElem?_cons_succ, List.getElem?_cons_zero]; exact rfl) rfl) rfl (fun w' hS hV K hK => ?_) ?_
      · obtain ⟨q0, q1⟩ := hS.1.two
        go_simp
        exact hK.out _ _ _ rfl rfl rfl (Below.refl _ _)
      simp only [List.setIfInBounds_toArray, List.set_cons_zero, List.set_cons_succ]
      refine obs_step (Eq.trans (by simp only [List.getElem?_toArray, List.getElem?_cons_succ, List.getElem?_cons_zero]; exact rfl) rfl) rfl (fun w' hS hV K hK => ?_) ?_
      · have e2 : x 2 = (.slice A' k c') := hV 2 (by decide)
        obtain ⟨q0, q1⟩ := hS.1.two
        go_simp
        refine (HTR.out _ hS.2).mono ?_
        rintro e v1 ⟨A2, c2, rfl, hM⟩
        exact hK.out _ _ _ rfl rfl ⟨_, _, rfl, hM.after hS.2⟩ hM.b
      simp only [List.setIfInBounds_toArray, List.set_cons_zero, List.set_cons_succ]
      refine obs_step (Eq.trans (by simp only [List.getElem?_toArray, List.getElem?_cons_succ, List.getElem?_cons_zero]; exact rfl) rfl) rfl (fun w' hS hV K hK => ?_) ?_
      · have e0 : x 0 = (.pointer (some ⟨w.heap.size, 0, none⟩)) := hV 0 (by decide)
        have e1 : x 1 = (.int .i64 (P)) := hV 1 (by decide)
        have e2 : x 2 = (.slice A' k c') := hV 2 (by decide)
        obtain ⟨A3, c3, e3, h3⟩ := hV 3 (by decide)
        obtain ⟨q0, q1⟩ := hS.1.two
        go_simp
        refine (l02Kernel_any P _ _ _ (transL (wcolsL P sq k xs)) k _ HPP.out hpn (by omega) (by omega) h3.rd HT2.out).mono ?_
        rw [← HLK.out]
        rintro e v1 ⟨A2, c2, rfl, hM⟩
        exact hK.out _ _ _ rfl rfl ⟨_, _, rfl, hM.after hS.2⟩ hM.b
      simp only [List.setIfInBounds_toArray, List.set_cons_zero, List.set_cons_succ]
      refine obs_step (Eq.trans (by simp only [List.getElem?_toArray, List.getElem?_cons_succ, List.getElem?_cons_zero]; exact rfl) rfl) rfl (fun w' hS hV K hK => ?_) ?_
      · have e0 : x 0 = (.pointer (some ⟨w.heap.size, 0, none⟩)) := hV 0 (by decide)
        have e1 : x 1 = (.int .i64 (P)) := hV 1 (by decide)
        have e2 : x 2 = (.slice A' k c') := hV 2 (by decide)
        obtain ⟨A3, c3, e3, h3⟩ := hV 3 (by decide)
        obtain ⟨A4, c4, e4, h4⟩ := hV 4 (by decide)
        obtain ⟨q0, q1⟩ := hS.1.two
        go_simp
        exact hK.out _ _ _ rfl rfl ⟨_, _, rfl, h4⟩ (Below.refl _ _)
      simp only [List.setIfInBounds_toArray, List.set_cons_zero, List.set_cons_succ]
      refine fun w' hS hV => ?_
      have e0 : x 0 = (.pointer (some ⟨w.heap.size, 0, none⟩)) := hV 0 (by decide)
      have e1 : x 1 = (.int .i64 (P)) := hV 1 (by decide)
      have e2 : x 2 = (.slice A' k c') := hV 2 (by decide)
      obtain ⟨A3, c3, e3, h3⟩ := hV 3 (by decide)
      obtain ⟨A4, c4, e4, h4⟩ := hV 4 (by decide)
      obtain ⟨A5, c5, e5, h5⟩ := hV 5 (by decide)
      simp only [e0, e1, e2, e3, e4, e5]
      clear e0 e1 e2 e3 e4 e5
      refine wpAny_done (by kernel_rfl) ?_ _
      go_wp2
      go_ret
      exact ⟨_, _, rfl, h5.after HM.out.b⟩
end Go.Proofs.YtggigolkncckoaaGreat
namespace Go.Proofs.YtggigolkncckoaaGreat
open Go.RowKit
set_option maxHeartbeats 1000000 in
theorem isMulti_any (P : Int) (A B : Option Addr) (n c m d : Nat) (xs ys : List Int) (w : World) (hn : n ≤ 6) (hxl : xs.length = n) (hm : m ≤ 1048576) (hp0 : 0 < P) (hp1 : P ≤ 13) (hb : Rd w B m (ints ys)) :
    Calls Tryz.prog 278 #[.agg #[.int .i64 P, .slice A n c], .slice B m d] w fun e w' => e = .returned (.bool (isMu P xs ys)) ∧ Below w.heap.size w w' := by
  have hyl : ys.length = m := by have := hb.1; rwa [ints_length] at this
  have hmu : isMu P xs ys = ((((m : Nat) : Int) == ((pw n : Nat) : Int)) && nums P ys) := by unfold isMu; rw [hxl, hyl]
  have Hmu := Lib.hid hmu
  have hB : Below w.heap.size w (w.alloc (.cells #[.int .i64 P, .slice A n c] 26)) := (Below.refl _ _).alloc (Nat.le_refl _) _
  have k0 : Blk (w.alloc (.cells #[.int .i64 P, .slice A n c] 26)) w.heap.size 26 #[.int .i64 P, .slice A n c] := Blk.new _ _ _
  have hw := wrap_pw n (by omega)
  clear hmu hxl hyl
  cases h2 : (((m : Nat) : Int) == ((pw n : Nat) : Int))
  all_goals
    have H2 := Lib.hid h2
    rw [← hw] at h2
    have Hw := Lib.hid hw
    clear hw
    go_enter Tryz.func278, Tryz.ntmps278
    go_wp2_with fail
    refine (dim_any _ _ _ _ _).mono ?_
    rintro e w1 ⟨rfl, hb1⟩
    have k1 := k0.below hb1 k0.lt
    obtain ⟨q0, q1⟩ := k1.two
    have hB1 := hB.trans (hb1.mono (by simp))
    clear k0
    go_wp2_with fail
  · go_ret
    exact ⟨ret_bool (by rw [Hmu.out, H2.out]; rfl), hB1⟩
  · refine (field_any _ _ _ _ _).mono ?_
    rintro e w2 ⟨rfl, hb2⟩
    have hB2 := hB1.trans (hb2.mono hB1.size)
    go_wp2_with fail
    refine (is_any _ _ _ _ _ _ hp0 (by omega) (by omega) (hb.below hB2)).mono ?_
    rintro e w3 ⟨rfl, rfl⟩
    go_wp2
    go_ret
    exact ⟨ret_bool (by rw [Hmu.out, H2.out]; rfl), hB2⟩
theorem IsSpace_b {b : Bool} (P : Int) (A : Option Addr) (n c : Nat) (xs : List Int) (w : World) (hn : n ≤ 1099511627776) (ha : Rd w A n (ints xs)) (h : isSp P xs = b) :
    Calls Tryz.prog 161 #[.agg #[.int .i64 P, .slice A n c]] w fun e w' => e = .returned (.bool b) ∧ Below w.heap.size w w' := h ▸ IsSpace_any P A n c xs w hn ha
end Go.Proofs.YtggigolkncckoaaGreat
namespace Go.Proofs.YtggigolkncckoaaGreat
open Go.RowKit
/-- The code of a space and of multivectors. -/
def codeM (P : Int) (sq : List Int) (yss : List (List Int)) : Int := if isSp P sq then (if yss.any fun ys => !(isMu P sq ys) then 2 else 0) else 1
/-- Is it a vector of a space with the squares sq? -/
def isVe (P : Int) (sq ys : List Int) : Bool := (((ys.length : Nat) : Int) == ((sq.length : Nat) : Int)) && nums P ys
/-- Is no square 0? -/
def regB (sq : List Int) : Bool := !(sq.contains 0)
set_option maxHeartbeats 800000 in
theorem notMu (P : Int) (n : Nat) (g : Nat) (A : Option Addr) (c : Nat) (sq : List Int) (w : World) (hn : n ≤ 6) (hsq : sq.length = n) (hp0 : 0 < P) (hp1 : P ≤ 13) (hk : Blk w g 26 #[.int .i64 P, .slice A n c]) :
    Tells 277 #[.pointer (some ⟨g, 0, none⟩)] w (fun ys => !(isMu P sq ys)) (fun ys => ys.length ≤ 1048576) := by
  intro w' D m d ys hb hr hm
  have hyl : ys.length = m := by have := hr.1; rwa [ints_length] at this
  rw [hyl] at hm
  have k0 := hk.below hb hk.lt
  obtain ⟨q0, q1⟩ := k0.two
  have Hsq := Lib.hid hsq
  clear hyl hsq
  simp only [List.append_toArray, List.cons_append, List.nil_append]
  go_enter Tryz.func277, Tryz.ntmps277
  go_wp2_with fail
  refine (isMulti_any P A D n c m d sq ys _ hn Hsq.out hm hp0 hp1 hr).mono ?_
  rintro e w1 ⟨rfl, hb1⟩
  obtain ⟨b, hb'⟩ : ∃ b, b = isMu P sq ys := ⟨_, rfl⟩
  rw [← hb']
  have HB := Lib.hid hb'; clear hb'
  go_wp2
  go_ret
  exact ⟨ret_bool (by rw [HB.out]), hb1⟩
set_option maxHeartbeats 800000 in
theorem isVector_any (P : Int) (A B : Option Addr) (n c m d : Nat) (xs ys : List Int) (w : World) (_hn : n ≤ 1048576) (hxl : xs.length = n) (hm : m ≤ 1048576) (hp0 : 0 < P) (hp1 : P ≤ 13) (hb : Rd w B m (ints ys)) :
    Calls Tryz.prog 233 #[.agg #[.int .i64 P, .slice A n c], .slice B m d] w fun e w' => e = .returned (.bool (isVe P xs ys)) ∧ Below w.heap.size w w' := by
  have hyl : ys.length = m := by have := hb.1; rwa [ints_length] at this
  have hmu : isVe P xs ys = ((((m : Nat) : Int) == ((n : Nat) : Int)) && nums P ys) := by unfold isVe; rw [hxl, hyl]
  have Hmu := Lib.hid hmu
  have hB : Below w.heap.size w (w.alloc (.cells #[.int .i64 P, .slice A n c] 26)) := (Below.refl _ _).alloc (Nat.le_refl _) _
  have k0 : Blk (w.alloc (.cells #[.int .i64 P, .slice A n c] 26)) w.heap.size 26 #[.int .i64 P, .slice A n c] := Blk.new _ _ _
  clear hmu hxl hyl
  cases h2 : (((m : Nat) : Int) == ((n : Nat) : Int))
  all_goals
    have H2 := Lib.hid h2
    go_enter Tryz.func233, Tryz.ntmps233
    go_wp2_with fail
    refine (dim_any _ _ _ _ _).mono ?_
    rintro e w1 ⟨rfl, hb1⟩
    have k1 := k0.below hb1 k0.lt
    obtain ⟨q0, q1⟩ := k1.two
    have hB1 := hB.trans (hb1.mono (by simp))
    clear k0
    go_wp2_with fail
  · go_ret
    exact ⟨ret_bool (by rw [Hmu.out, H2.out]; rfl), hB1⟩
  · refine (field_any _ _ _ _ _).mono ?_
    rintro e w2 ⟨rfl, hb2⟩
    have hB2 := hB1.trans (hb2.mono hB1.size)
    go_wp2_with fail
    refine (is_any _ _ _ _ _ _ hp0 (by omega) (by omega) (hb.below hB2)).mono ?_
    rintro e w3 ⟨rfl, rfl⟩
    go_wp2
    go_ret
    exact ⟨ret_bool (by rw [Hmu.out, H2.out]; rfl), hB2⟩
set_option maxRecDepth 8000 in
set_option maxHeartbeats 1000000 in
theorem checkMultis_any (P : Int) (A B : Option Addr) (n c m d : Nat) (sq : List Int) (yss : List (List Int)) (w : World) (hn : n ≤ 1048576) (hm : m ≤ 1048576) (ha : Rd w A n (ints sq)) (hb : RdII w B m yss) (hys : ∀ ys ∈ yss, ys.length ≤ 1048576) :
    Calls Tryz.prog 128 #[.agg #[.int .i64 P, .slice A n c], .slice B m d] w fun e w' => e = .returned (.int .i64 (codeM P sq yss)) ∧ Below w.heap.size w w' := by
  have hxl : sq.length = n := by have := ha.1; rwa [ints_length] at this
  have hB : Below w.heap.size w (w.alloc (.cells #[.int .i64 P, .slice A n c] 26)) := (Below.refl _ _).alloc (Nat.le_refl _) _
  have k0 : Blk (w.alloc (.cells #[.int .i64 P, .slice A n c] 26)) w.heap.size 26 #[.int .i64 P, .slice A n c] := Blk.new _ _ _
  have hmf : ∀ (fn : Fn) (first cap : Array Value) (w : World), (Instr.makeFunc fn first cap).run Tryz.prog w = .ok (.func fn first cap) w := fun _ _ _ _ => rfl
  cases h1 : isSp P sq
  · have H1 := Lib.hid h1; clear h1 hxl
    go_enter Tryz.func128, Tryz.ntmps128
    go_wp2_with fail
    refine (IsSpace_b _ _ _ _ _ _ (by omega) (ha.below hB) H1.out).mono ?_
    rintro e w1 ⟨rfl, hb1⟩
    go_wp2
    go_ret
    exact ⟨ret_int (by unfold codeM; rw [H1.out]; rfl), hB.trans (hb1.mono (by simp))⟩
  obtain ⟨hp, hd1, hd2, -⟩ := isSp_dim h1
  obtain ⟨hp0, hp1⟩ := isP_pos hp
  rw [hxl] at hd1 hd2
  have H1 := Lib.hid h1; have Hx := Lib.hid hxl; clear h1 hp hxl
  cases h2 : (yss.any fun ys => !(isMu P sq ys))
  all_goals
    have H2 := Lib.hid h2; clear h2
    go_enter Tryz.func128, Tryz.ntmps128
    go_wp2_with fail
    refine (IsSpace_b _ _ _ _ _ _ (by omega) (ha.below hB) H1.out).mono ?_
    rintro e w1 ⟨rfl, hb1⟩
    have hB1 := hB.trans (hb1.mono (by simp))
    have hT := notMu P n w.heap.size A c sq w1 (by omega) Hx.out hp0 hp1 (k0.below hb1 k0.lt)
    go_wp2_with fail
    refine (ContainsFunc_any _ _ _ _ _ _ _ _ _ (by omega) (hb.below hB1) hys hT (fun _ _ => rfl)).mono ?_
    rintro e w2 ⟨rfl, hb2⟩
    rw [H2.out]
    go_wp2
    go_ret
    exact ⟨ret_int (by unfold codeM; rw [H1.out, H2.out]; rfl), hB1.trans (hb2.mono hB1.size)⟩
set_option maxHeartbeats 400000 in
theorem regular_any (P : Int) (A : Option Addr) (n c : Nat) (sq : List Int) (w : World) (hn : n ≤ 1048576) (ha : Rd w A n (ints sq)) :
    Calls Tryz.prog 162 #[.agg #[.int .i64 P, .slice A n c]] w fun e w' => e = .returned (.bool (regB sq)) ∧ Below w.heap.size w w' := by
  have hB : Below w.heap.size w (w.alloc (.cells #[.int .i64 P, .slice A n c] 26)) := (Below.refl _ _).alloc (Nat.le_refl _) _
  have k0 : Blk (w.alloc (.cells #[.int .i64 P, .slice A n c] 26)) w.heap.size 26 #[.int .i64 P, .slice A n c] := Blk.new _ _ _
  obtain ⟨b, hb⟩ : ∃ b, b = sq.contains 0 := ⟨_, rfl⟩
  have HB := Lib.hid hb
  clear hb
  go_enter Tryz.func162, Tryz.ntmps162
  go_wp2_with (go_at_call 298; refine (Contains_b _ _ _ _ _ _ (by omega) (ha.below hB) HB.out.symm).mono ?_; rintro e w' ⟨rfl, rfl⟩)
  go_ret
  exact ⟨ret_bool (by unfold regB; rw [HB.out]), hB⟩
theorem code_ne {a : Int} (h : ¬ a = 0) : (a != 0) = true := by simp [h]
theorem any_take_succ {α : Type} {q : α → Bool} {xs : List α} {k : Nat} (hk : k < xs.length) (h : (xs.take k).any q = false) (h2 : q xs[k] = false) : (xs.take (k + 1)).any q = false := by
  rw [List.take_succ_eq_append_getElem hk, List.any_append, h]; simpa using h2
set_option maxRecDepth 8000 in
set_option maxHeartbeats 1600000 in
theorem l04Code_any (P : Int) (A B : Option Addr) (n c m d : Nat) (sq : List Int) (yss : List (List Int)) (w : World) (hn : n ≤ 1048576) (hm : m ≤ 1048576) (ha : Rd w A n (ints sq)) (hb : RdII w B m yss) (hys : ∀ ys ∈ yss, ys.length ≤ 1048576) :
    Calls Tryz.prog 130 #[.agg #[.int .i64 P, .slice A n c], .slice B m d] w fun e w' => e = .returned (.int .i64 (codeM P sq yss)) ∧ Below w.heap.size w w' := by
  have hyl := hb.len
  have hB : Below w.heap.size w (w.alloc (.cells #[.int .i64 P, .slice A n c] 26)) := (Below.refl _ _).alloc (Nat.le_refl _) _
  have k0 : Blk (w.alloc (.cells #[.int .i64 P, .slice A n c] 26)) w.heap.size 26 #[.int .i64 P, .slice A n c] := Blk.new _ _ _
  have HY := Lib.hid hyl; clear hyl
  cases h1 : isSp P sq
  · have H1 := Lib.hid h1; clear h1
    go_enter Tryz.func130, Tryz.ntmps130
    go_wp2_with fail
    refine (l03Is_b _ _ _ _ _ _ (by omega) (ha.below hB) H1.out).mono ?_
    rintro e w1 ⟨rfl, hb1⟩
    go_wp2
    go_ret
    exact ⟨ret_int (by unfold codeM; rw [H1.out]; rfl), hB.trans (hb1.mono (by simp))⟩
  have H1 := Lib.hid h1; clear h1
  go_enter Tryz.func130, Tryz.ntmps130
  go_wp2_with fail
  refine (l03Is_b _ _ _ _ _ _ (by omega) (ha.below hB) H1.out).mono ?_
  rintro e w1 ⟨rfl, hb1⟩
  have hB1 := hB.trans (hb1.mono (by simp))
  have k1 := k0.below hb1 k0.lt
  clear k0 hb1 hB
  go_wp2_with fail
  go_loopw [5] (fun i wr => ∃ k : Nat, k ≤ m ∧ i = .int .i64 k ∧ (yss.take k).any (fun ys => !(isMu P sq ys)) = false ∧ Blk wr w.heap.size 26 #[.int .i64 P, .slice A n c] ∧ Below w.heap.size w wr) (fun i _ => m - (intOf i).toNat)
  case atStart => exact ⟨0, by omega, rfl, by simp, k1, hB1⟩
  case round =>
    obtain ⟨k, hk, rfl, ht, hk2, hBr⟩ := hrel
    have HT := Lib.hid ht
    clear k1 hB1 ht
    by_cases hlt : k < m
    · obtain ⟨g, o, rfl, hxk, A', c', hcx, hr, hcc⟩ := (hb.below hBr).at_ hlt
      have hr := (hb.at_ hlt)
      obtain ⟨g', o', e', hx', A'', c'', hcw, hrw, _⟩ := hr
      have hr0 : Rd w A' yss[k].length (ints yss[k]) := by
        injection e' with e'; injection e' with e1 e2 _
        subst e1; subst e2
        have := (hBr.cell (World.block_lt_of_cell? _ _ hcw)).trans hcw
        rw [hcx] at this
        injection this with this
        injection this with e3 _ _
        rw [e3]; exact hrw
      clear hcw hrw e' hr
      have hr := hr0
      clear hr0
      have HL := hys yss[k] (List.getElem_mem hxk)
      have i1 : (0 : Int) ≤ (k : Int) := by omega
      have i2 : (k : Int) < (m : Int) := by omega
      cases hi : (isSp P sq && isMu P sq yss[k])
      · have HI := Lib.hid hi
        clear hi
        go_wp2
        refine wp_obs 7 [[], [], [], [1, 2], [1, 2, 3], [0, 1, 2, 3, 4], [0, 1, 2, 3, 4, 5]] [VIs (.agg #[.int .i64 P, .slice A n c]), VIs (.slice (some ⟨g, o, none⟩) m d), VIs (.int .i64 k), VIs (.pointer (some ⟨g, o + k, none⟩)), VIs (.slice A' yss[k].length c'), VIs (.bool false), VIs (.bool true)] (fun w' => Blk w' w.heap.size 26 #[.int .i64 P, .slice A n c] ∧ Below w.heap.size w w' ∧ w'.cell? ⟨g, o + k, none⟩ = some (.slice A' yss[k].length c')) (by kernel_rfl) (by kernel_rfl) (fun _ _ h hb => ⟨h.1.below hb h.1.lt, h.2.1.trans (hb.mono h.2.1.size), (hb.cell (World.block_lt_of_cell? _ _ h.2.2)).trans h.2.2⟩) (⟨hk2.drew, hBr.drew, hcx⟩) (fun x => ?_)
        refine obs_step (Eq.trans (by simp only [List.getElem?_toArray, List.getElem?_cons_zero]; exact rfl) rfl) rfl (fun w' hS hV K hK => ?_) ?_
        · obtain ⟨q0, q1⟩ := hS.1.two; have q2 := hS.2.2
          go_simp
          exact hK.out _ _ _ rfl rfl rfl (Below.refl _ _)
        simp only [List.setIfInBounds_toArray, List.set_cons_zero, List.set_cons_succ]
        refine obs_step (Eq.trans (by simp only [List.getElem?_toArray, List.getElem?_cons_succ, List.getElem?_cons_zero]; exact rfl) rfl) rfl (fun w' hS hV K hK => ?_) ?_
        · obtain ⟨q0, q1⟩ := hS.1.two; have q2 := hS.2.2
          go_simp
          exact hK.out _ _ _ rfl rfl rfl (Below.refl _ _)
        simp only [List.setIfInBounds_toArray, List.set_cons_zero, List.set_cons_succ]
        refine obs_step (Eq.trans (by simp only [List.getElem?_toArray, List.getElem?_cons_succ, List.getElem?_cons_zero]; exact rfl) rfl) rfl (fun w' hS hV K hK => ?_) ?_
        · obtain ⟨q0, q1⟩ := hS.1.two; have q2 := hS.2.2
          go_simp
          exact hK.out _ _ _ rfl rfl rfl (Below.refl _ _)
        simp only [List.setIfInBounds_toArray, List.set_cons_zero, List.set_cons_succ]
        refine obs_step (Eq.trans (by simp only [List.getElem?_toArray, List.getElem?_cons_succ, List.getElem?_cons_zero]; exact rfl) rfl) rfl (fun w' hS hV K hK => ?_) ?_
        · simp only [List.mem_cons, List.not_mem_nil, or_false, forall_eq_or_imp, forall_eq, List.getD_cons_succ, List.getD_cons_zero, VIs, VAny] at hV
          obtain ⟨e1, e2⟩ := hV
          obtain ⟨q0, q1⟩ := hS.1.two; have q2 := hS.2.2
          go_simp
          exact hK.out _ _ _ rfl rfl rfl (Below.refl _ _)
        simp only [List.setIfInBounds_toArray, List.set_cons_zero, List.set_cons_succ]
        refine obs_step (Eq.trans (by simp only [List.getElem?_toArray, List.getElem?_cons_succ, List.getElem?_cons_zero]; exact rfl) rfl) rfl (fun w' hS hV K hK => ?_) ?_
        · simp only [List.mem_cons, List.not_mem_nil, or_false, forall_eq_or_imp, forall_eq, List.getD_cons_succ, List.getD_cons_zero, VIs, VAny] at hV
          obtain ⟨e1, e2, e3⟩ := hV
          obtain ⟨q0, q1⟩ := hS.1.two; have q2 := hS.2.2
          go_simp
          exact hK.out _ _ _ rfl rfl rfl (Below.refl _ _)
        simp only [List.setIfInBounds_toArray, List.set_cons_zero, List.set_cons_succ]
        refine obs_step (Eq.trans (by simp only [List.getElem?_toArray, List.getElem?_cons_succ, List.getElem?_cons_zero]; exact rfl) rfl) rfl (fun w' hS hV K hK => ?_) ?_
        · simp only [List.mem_cons, List.not_mem_nil, or_false, forall_eq_or_imp, forall_eq, List.getD_cons_succ, List.getD_cons_zero, VIs, VAny] at hV
          obtain ⟨e0, e1, e2, e3, e4⟩ := hV
          obtain ⟨q0, q1⟩ := hS.1.two; have q2 := hS.2.2
          go_simp
          refine (l04Is_b P A A' n c _ c' sq yss[k] _ hn HL (ha.below hS.2.1) (hr.below hS.2.1) HI.out).mono ?_
          rintro e w1 ⟨rfl, hb⟩
          exact hK.out _ _ _ rfl rfl rfl hb
        simp only [List.setIfInBounds_toArray, List.set_cons_zero, List.set_cons_succ]
        refine obs_step (Eq.trans (by simp only [List.getElem?_toArray, List.getElem?_cons_succ, List.getElem?_cons_zero]; exact rfl) rfl) rfl (fun w' hS hV K hK => ?_) ?_
        · simp only [List.mem_cons, List.not_mem_nil, or_false, forall_eq_or_imp, forall_eq, List.getD_cons_succ, List.getD_cons_zero, VIs, VAny] at hV
          obtain ⟨e0, e1, e2, e3, e4, e5⟩ := hV
          obtain ⟨q0, q1⟩ := hS.1.two; have q2 := hS.2.2
          go_simp
          exact hK.out _ _ _ rfl rfl rfl (Below.refl _ _)
        simp only [List.setIfInBounds_toArray, List.set_cons_zero, List.set_cons_succ]
        refine fun w' hS hV => ?_
        have hV := fun i hi => hV i (List.mem_range.1 hi)
        simp only [List.range, List.range.loop, List.mem_cons, List.not_mem_nil, or_false, forall_eq_or_imp, forall_eq, List.getD_cons_succ, List.getD_cons_zero, VIs, VAny] at hV
        obtain ⟨e0, e1, e2, e3, e4, e5, e6⟩ := hV
        simp only [e0, e1, e2, e3, e4, e5, e6]
        clear e0 e1 e2 e3 e4 e5 e6
        refine wpAny_done (by kernel_rfl) ?_ _
        go_wp2
        go_ret
        refine ⟨ret_int ?_, hS.2.1⟩
        have hmu : isMu P sq yss[k] = false := by have := HI.out; rw [H1.out] at this; simpa using this
        have : (yss.any fun ys => !(isMu P sq ys)) = true := List.any_eq_true.2 ⟨yss[k], List.getElem_mem hxk, by rw [hmu]; rfl⟩
        unfold codeM
        rw [H1.out, if_pos rfl, if_pos this]
      · have HI := Lib.hid hi
        clear hi
        go_wp2
        refine wp_obs 7 [[], [], [], [1, 2], [1, 2, 3], [0, 1, 2, 3, 4], [0, 1, 2, 3, 4, 5]] [VIs (.agg #[.int .i64 P, .slice A n c]), VIs (.slice (some ⟨g, o, none⟩) m d), VIs (.int .i64 k), VIs (.pointer (some ⟨g, o + k, none⟩)), VIs (.slice A' yss[k].length c'), VIs (.bool true), VIs (.bool false)] (fun w' => Blk w' w.heap.size 26 #[.int .i64 P, .slice A n c] ∧ Below w.heap.size w w' ∧ w'.cell? ⟨g, o + k, none⟩ = some (.slice A' yss[k].length c')) (by kernel_rfl) (by kernel_rfl) (fun _ _ h hb => ⟨h.1.below hb h.1.lt, h.2.1.trans (hb.mono h.2.1.size), (hb.cell (World.block_lt_of_cell? _ _ h.2.2)).trans h.2.2⟩) (⟨hk2.drew, hBr.drew, hcx⟩) (fun x => ?_)
        refine obs_step (Eq.trans (by simp only [List.getElem?_toArray, List.getElem?_cons_zero]; exact rfl) rfl) rfl (fun w' hS hV K hK => ?_) ?_
        · obtain ⟨q0, q1⟩ := hS.1.two; have q2 := hS.2.2
          go_simp
          exact hK.out _ _ _ rfl rfl rfl (Below.refl _ _)
        simp only [List.setIfInBounds_toArray, List.set_cons_zero, List.set_cons_succ]
        refine obs_step (Eq.trans (by simp only [List.getElem?_toArray, List.getElem?_cons_succ, List.getElem?_cons_zero]; exact rfl) rfl) rfl (fun w' hS hV K hK => ?_) ?_
        · obtain ⟨q0, q1⟩ := hS.1.two; have q2 := hS.2.2
          go_simp
          exact hK.out _ _ _ rfl rfl rfl (Below.refl _ _)
        simp only [List.setIfInBounds_toArray, List.set_cons_zero, List.set_cons_succ]
        refine obs_step (Eq.trans (by simp only [List.getElem?_toArray, List.getElem?_cons_succ, List.getElem?_cons_zero]; exact rfl) rfl) rfl (fun w' hS hV K hK => ?_) ?_
        · obtain ⟨q0, q1⟩ := hS.1.two; have q2 := hS.2.2
          go_simp
          exact hK.out _ _ _ rfl rfl rfl (Below.refl _ _)
        simp only [List.setIfInBounds_toArray, List.set_cons_zero, List.set_cons_succ]
        refine obs_step (Eq.trans (by simp only [List.getElem?_toArray, List.getElem?_cons_succ, List.getElem?_cons_zero]; exact rfl) rfl) rfl (fun w' hS hV K hK => ?_) ?_
        · simp only [List.mem_cons, List.not_mem_nil, or_false, forall_eq_or_imp, forall_eq, List.getD_cons_succ, List.getD_cons_zero, VIs, VAny] at hV
          obtain ⟨e1, e2⟩ := hV
          obtain ⟨q0, q1⟩ := hS.1.two; have q2 := hS.2.2
          go_simp
          exact hK.out _ _ _ rfl rfl rfl (Below.refl _ _)
        simp only [List.setIfInBounds_toArray, List.set_cons_zero, List.set_cons_succ]
        refine obs_step (Eq.trans (by simp only [List.getElem?_toArray, List.getElem?_cons_succ, List.getElem?_cons_zero]; exact rfl) rfl) rfl (fun w' hS hV K hK => ?_) ?_
        · simp only [List.mem_cons, List.not_mem_nil, or_false, forall_eq_or_imp, forall_eq, List.getD_cons_succ, List.getD_cons_zero, VIs, VAny] at hV
          obtain ⟨e1, e2, e3⟩ := hV
          obtain ⟨q0, q1⟩ := hS.1.two; have q2 := hS.2.2
          go_simp
          exact hK.out _ _ _ rfl rfl rfl (Below.refl _ _)
        simp only [List.setIfInBounds_toArray, List.set_cons_zero, List.set_cons_succ]
        refine obs_step (Eq.trans (by simp only [List.getElem?_toArray, List.getElem?_cons_succ, List.getElem?_cons_zero]; exact rfl) rfl) rfl (fun w' hS hV K hK => ?_) ?_
        · simp only [List.mem_cons, List.not_mem_nil, or_false, forall_eq_or_imp, forall_eq, List.getD_cons_succ, List.getD_cons_zero, VIs, VAny] at hV
          obtain ⟨e0, e1, e2, e3, e4⟩ := hV
          obtain ⟨q0, q1⟩ := hS.1.two; have q2 := hS.2.2
          go_simp
          refine (l04Is_b P A A' n c _ c' sq yss[k] _ hn HL (ha.below hS.2.1) (hr.below hS.2.1) HI.out).mono ?_
          rintro e w1 ⟨rfl, hb⟩
          exact hK.out _ _ _ rfl rfl rfl hb
        simp only [List.setIfInBounds_toArray, List.set_cons_zero, List.set_cons_succ]
        refine obs_step (Eq.trans (by simp only [List.getElem?_toArray, List.getElem?_cons_succ, List.getElem?_cons_zero]; exact rfl) rfl) rfl (fun w' hS hV K hK => ?_) ?_
        · simp only [List.mem_cons, List.not_mem_nil, or_false, forall_eq_or_imp, forall_eq, List.getD_cons_succ, List.getD_cons_zero, VIs, VAny] at hV
          obtain ⟨e0, e1, e2, e3, e4, e5⟩ := hV
          obtain ⟨q0, q1⟩ := hS.1.two; have q2 := hS.2.2
          go_simp
          exact hK.out _ _ _ rfl rfl rfl (Below.refl _ _)
        simp only [List.setIfInBounds_toArray, List.set_cons_zero, List.set_cons_succ]
        refine fun w' hS hV => ?_
        have hV := fun i hi => hV i (List.mem_range.1 hi)
        simp only [List.range, List.range.loop, List.mem_cons, List.not_mem_nil, or_false, forall_eq_or_imp, forall_eq, List.getD_cons_succ, List.getD_cons_zero, VIs, VAny] at hV
        obtain ⟨e0, e1, e2, e3, e4, e5, e6⟩ := hV
        simp only [e0, e1, e2, e3, e4, e5, e6]
        clear e0 e1 e2 e3 e4 e5 e6
        refine wpAny_done (by kernel_rfl) ?_ _
        go_wp2
        have hmu : isMu P sq yss[k] = true := by have := HI.out; rw [H1.out] at this; simpa using this
        have HN := Lib.hid (any_take_succ (q := fun ys => !(isMu P sq ys)) hxk HT.out (by rw [hmu]; rfl))
        clear hmu
        go_roundw
        case rel => exact ⟨k + 1, by omega, by go_num, HN.out, hS.1, hS.2.1⟩
        case measure => simp [intOf]; omega
    · obtain rfl : k = m := by omega
      go_wp2
      go_ret
      refine ⟨ret_int ?_, hBr⟩
      have := HT.out
      rw [List.take_of_length_le (by rw [HY.out]; omega)] at this
      unfold codeM
      rw [H1.out, this]; rfl
theorem mul_zero_all : ∀ p ∈ [(3 : Nat), 5, 7, 11, 13], ∀ a < p, ∀ b < p, a * b % p = 0 → a = 0 ∨ b = 0 := by decide +kernel
theorem mul_zero_mod {p a b : Int} (h : isP p = true) (ha : 0 ≤ a ∧ a < p) (hb : 0 ≤ b ∧ b < p) (h0 : a * b % p = 0) : a = 0 ∨ b = 0 := by
  have hm : p.toNat ∈ [(3 : Nat), 5, 7, 11, 13] := by
    have : p = 3 ∨ p = 5 ∨ p = 7 ∨ p = 11 ∨ p = 13 := by simp [isP] at h; omega
    rcases this with rfl | rfl | rfl | rfl | rfl <;> decide
  have hp : 0 < p := by omega
  have e : ((a.toNat * b.toNat % p.toNat : Nat) : Int) = 0 := by
    rw [Int.natCast_emod, Int.natCast_mul, Int.toNat_of_nonneg ha.1, Int.toNat_of_nonneg hb.1, Int.toNat_of_nonneg (by omega)]; exact h0
  have := mul_zero_all p.toNat hm a.toNat (by omega) b.toNat (by omega) (by omega)
  omega
theorem nums_numsL {P : Int} {xs : List Int} (h : nums P xs = true) : NumsL P xs := fun x hx => by
  have := List.all_eq_true.1 h x hx
  simp [inR] at this
  omega
theorem codeM_sp {P : Int} {sq : List Int} {ms : List (List Int)} (h : codeM P sq ms = 0) : isSp P sq = true ∧ ∀ ys ∈ ms, isMu P sq ys = true := by
  unfold codeM at h
  cases h1 : isSp P sq
  · rw [h1] at h; simp at h
  · rw [h1, if_pos rfl] at h
    refine ⟨rfl, fun ys hy => ?_⟩
    cases h2 : isMu P sq ys
    · exfalso
      have : (ms.any fun ys => !(isMu P sq ys)) = true := List.any_eq_true.2 ⟨ys, hy, by rw [h2]; rfl⟩
      rw [if_pos this] at h
      omega
    · rfl
end Go.Proofs.YtggigolkncckoaaGreat
namespace Go.Proofs.YtggigolkncckoaaGreat
theorem xor_eq_iff (a k m : Nat) : a ^^^ k = m ↔ k = a ^^^ m := by
  constructor
  · rintro rfl; rw [← Nat.xor_assoc, Nat.xor_self, Nat.zero_xor]
  · rintro rfl; rw [← Nat.xor_assoc, Nat.xor_self, Nat.zero_xor]
/-- What row a adds to place m. -/
def term (p : Int) (sq : List Int) (t : Nat → Nat → Bool) (x y : List Int) (m a : Nat) : Int :=
  if t a (a ^^^ m) = true then x.getD a 0 * y.getD (a ^^^ m) 0 * fac p sq a (a ^^^ m) else 0
theorem addRow_getD (p : Int) (sq : List Int) (t : Nat → Nat → Bool) (x y : List Int) (a : Nat) (out : List Int) (m : Nat) (hm : m < out.length) (h0 : out.getD m 0 % p = out.getD m 0) :
    ∀ k, (addRow p sq t x y a out k).getD m 0 = if a ^^^ m < k then (out.getD m 0 + term p sq t x y m a) % p else out.getD m 0 := by
  intro k
  induction k with
  | zero => rw [if_neg (by omega)]; simp [addRow]
  | succ k ih =>
    rw [addRow_succ]
    have hl : (addRow p sq t x y a out k).length = out.length := addRow_len _ _ _ _ _ _ _ _
    unfold addPair
    by_cases hk : a ^^^ k = m
    · have hk' := (xor_eq_iff a k m).1 hk
      have h1 : ¬ a ^^^ m < k := by omega
      have h2 : a ^^^ m < k + 1 := by omega
      rw [if_neg h1] at ih
      rw [if_pos (c := a ^^^ m < k + 1) h2]
      unfold term
      rw [← hk']
      by_cases hc : x.getD a 0 ≠ 0 ∧ y.getD k 0 ≠ 0 ∧ t a k = true
      · rw [if_pos hc, if_pos hc.2.2, getD_set, if_pos ⟨hk, by rw [hl, hk]; exact hm⟩, hk, ih]
      · rw [if_neg hc, ih]
        by_cases ht : t a k = true
        · rw [if_pos ht]
          have : x.getD a 0 * y.getD k 0 = 0 := by
            by_cases h1 : x.getD a 0 = 0
            · rw [h1, Int.zero_mul]
            · by_cases h2 : y.getD k 0 = 0
              · rw [h2, Int.mul_zero]
              · exact absurd ⟨h1, h2, ht⟩ hc
          rw [this, Int.zero_mul, Int.add_zero, h0]
        · rw [if_neg ht, Int.add_zero, h0]
    · have hk' : k ≠ a ^^^ m := fun e => hk ((xor_eq_iff a k m).2 e)
      have e : (if x.getD a 0 ≠ 0 ∧ y.getD k 0 ≠ 0 ∧ t a k = true then (addRow p sq t x y a out k).set (a ^^^ k) (((addRow p sq t x y a out k).getD (a ^^^ k) 0 + x.getD a 0 * y.getD k 0 * fac p sq a k) % p) else addRow p sq t x y a out k).getD m 0 = (addRow p sq t x y a out k).getD m 0 := by
        split
        · rw [getD_set, if_neg (fun h => hk h.1)]
        · rfl
      rw [e, ih]
      by_cases h1 : a ^^^ m < k
      · rw [if_pos h1, if_pos (by omega)]
      · rw [if_neg h1, if_neg (by omega)]
theorem addRows_getD (p : Int) (sq : List Int) (t : Nat → Nat → Bool) (x y : List Int) (n m : Nat) (hy : y.length = pw n) (hm : m < pw n) :
    ∀ k, k ≤ pw n → (addRows p sq t x y (List.replicate (pw n) 0) k).getD m 0 = sumTo k (term p sq t x y m) % p := by
  intro k
  induction k with
  | zero =>
    intro _
    rw [show addRows p sq t x y (List.replicate (pw n) 0) 0 = List.replicate (pw n) 0 from rfl, getD_of_lt 0 (by simpa using hm)]
    simp [sumTo]
  | succ k ih =>
    intro hk
    have ih := ih (by omega)
    have hl : (addRows p sq t x y (List.replicate (pw n) 0) k).length = pw n := by rw [addRows_len]; simp
    rw [addRows_succ, addRow_getD p sq t x y k _ m (by rw [hl]; exact hm) (by rw [ih, Int.emod_emod_of_dvd _ (Int.dvd_refl p)]), if_pos (by rw [hy]; exact xor_lt (by omega) hm), ih]
    exact sumTo_step p k _
theorem prodL_getD (p : Int) (sq : List Int) (t : Nat → Nat → Bool) (x y : List Int) (n m : Nat) (hx : x.length = pw n) (hy : y.length = pw n) (hm : m < pw n) :
    (prodL p sq t x y).getD m 0 = sumTo (pw n) (term p sq t x y m) % p := by
  unfold prodL
  rw [hx]
  exact addRows_getD p sq t x y n m hy hm _ (Nat.le_refl _)
theorem sumTo_zero {n : Nat} {f : Nat → Int} (h : ∀ i, i < n → f i = 0) : sumTo n f = 0 := by
  induction n with
  | zero => rfl
  | succ n ih => rw [sumTo_succ, ih (fun i hi => h i (by omega)), h n (by omega)]; rfl
theorem sumTo_one {n : Nat} {f : Nat → Int} (k : Nat) (hk : k < n) (h : ∀ i, i < n → i ≠ k → f i = 0) : sumTo n f = f k := by
  induction n with
  | zero => omega
  | succ n ih =>
    rw [sumTo_succ]
    by_cases e : k = n
    · subst e; rw [sumTo_zero (fun i hi => h i (by omega) (by omega)), Int.zero_add]
    · rw [ih (by omega) (fun i hi => h i (by omega)), h n (by omega) (by omega), Int.add_zero]
theorem sumTo_add (n : Nat) (f g : Nat → Int) : sumTo n (fun i => f i + g i) = sumTo n f + sumTo n g := by
  induction n with
  | zero => rfl
  | succ n ih => rw [sumTo_succ, sumTo_succ, sumTo_succ, ih]; omega
theorem sumTo_mul (n : Nat) (f : Nat → Int) (c : Int) : sumTo n (fun i => c * f i) = c * sumTo n f := by
  induction n with
  | zero => simp [sumTo]
  | succ n ih => rw [sumTo_succ, sumTo_succ, ih, Int.mul_add]
theorem sumTo_comm (n m : Nat) (f : Nat → Nat → Int) : sumTo n (fun i => sumTo m (f i)) = sumTo m (fun j => sumTo n (fun i => f i j)) := by
  induction n with
  | zero => exact (sumTo_zero (fun _ _ => rfl)).symm
  | succ n ih => rw [sumTo_succ, ih, ← sumTo_add]; rfl
theorem pc_zero : pc 0 = 0 := by simp [pc]
theorem bit_zero (i : Nat) : bit 0 i = 0 := by simp [bit]
theorem fac_zero_left (p : Int) (sq : List Int) (b : Nat) : fac p sq 0 b = 1 := by
  have h1 : ∀ i, swaps 0 b i = 0 := by
    intro i
    induction i with
    | zero => rfl
    | succ i ih => simp [swaps, ih, pc_zero]
  have h2 : ∀ i, common p sq 0 b i = 1 := by
    intro i
    induction i with
    | zero => rfl
    | succ i ih => simp [common, ih, bit_zero]
  unfold fac
  rw [h1, h2]; rfl
theorem bladeL_getD (n m i : Nat) (hi : i < pw n) : (bladeL n m).getD i 0 = if m = i then 1 else 0 := by
  unfold bladeL
  rw [getD_set]
  by_cases h : m = i
  · subst h; rw [if_pos ⟨rfl, by simpa using hi⟩, if_pos rfl]
  · rw [if_neg (fun hh => h hh.1), if_neg h, getD_of_lt 0 (by simpa using hi)]; simp
/-- 1 times a multivector. -/
theorem one_mul (p : Int) (sq : List Int) (n : Nat) (xs : List Int) (hx : xs.length = pw n) (hn : NumsL p xs) : mulL p sq (bladeL n 0) xs = xs := by
  apply list_ext_getD 0 (by unfold mulL; rw [prodL_len, bladeL_len, hx])
  intro m hm
  have hm : m < pw n := by unfold mulL at hm; rwa [prodL_len, bladeL_len] at hm
  unfold mulL
  rw [prodL_getD p sq _ _ xs n m (bladeL_len n 0) hx hm, sumTo_one 0 (pw_pos n) (fun i hi h0 => by unfold term; rw [if_pos rfl, bladeL_getD n 0 i hi, if_neg (fun e => h0 e.symm), Int.zero_mul, Int.zero_mul])]
  unfold term
  rw [if_pos rfl, bladeL_getD n 0 0 (pw_pos n), if_pos rfl, Nat.zero_xor, fac_zero_left, Int.one_mul, Int.mul_one]
  obtain ⟨h1, h2⟩ := hn _ (getD_mem 0 (by rw [hx]; exact hm))
  exact Int.emod_eq_of_lt h1 h2
theorem mulL_len (p : Int) (sq xs ys : List Int) : (mulL p sq xs ys).length = xs.length := prodL_len _ _ _ _ _
theorem mulL_nums {p : Int} (hp : 0 < p) (sq xs ys : List Int) : NumsL p (mulL p sq xs ys) := prodL_nums sq _ _ _ hp
end Go.Proofs.YtggigolkncckoaaGreat
namespace Go.Proofs.YtggigolkncckoaaGreat
open Go.RowKit
theorem lead_lt_iff (v : List Int) : leadL v < v.length ↔ ∃ i, i < v.length ∧ v.getD i 0 ≠ 0 := by
  constructor
  · intro h; exact ⟨leadL v, h, leadL_at v h⟩
  · rintro ⟨i, hi, hne⟩
    rcases Nat.lt_or_ge i (leadL v) with h | h
    · exact absurd (leadL_before v i h) hne
    · omega
theorem firstL_part (xs : List Int) (k : Nat) : decide (0 ≤ firstL (partG xs k)) = hasG xs k := by
  rw [Bool.eq_iff_iff, decide_eq_true_eq, hasG_iff]
  have h := lead_lt_iff (partG xs k)
  rw [partG_len] at h
  unfold firstL
  rw [partG_len]
  constructor
  · intro h0
    by_cases hl : leadL (partG xs k) < xs.length
    · obtain ⟨i, hi, hne⟩ := h.1 hl
      rw [partG_getD hi] at hne
      by_cases hp : pc i = k
      · rw [if_pos hp] at hne; exact ⟨i, hi, hne, hp⟩
      · rw [if_neg hp] at hne; exact absurd rfl hne
    · rw [if_neg hl] at h0; omega
  · rintro ⟨i, hi, hne, hp⟩
    rw [if_pos (h.2 ⟨i, hi, by rw [partG_getD hi, if_pos hp]; exact hne⟩)]
    omega
theorem gradesL_n (xs : List Int) (n : Nat) (hn : n ≤ 6) (hx : xs.length = pw n) : ((List.range (n + 1)).filter (hasG xs)).map (fun k : Nat => (k : Int)) = gradesL xs := by
  unfold gradesL
  congr 1
  have h : ∀ j, n + 1 + j ≤ 7 → (List.range (n + 1 + j)).filter (hasG xs) = (List.range (n + 1)).filter (hasG xs) := by
    intro j
    induction j with
    | zero => intro _; rfl
    | succ j ih =>
      intro hj
      rw [show n + 1 + (j + 1) = (n + 1 + j) + 1 by omega, List.range_succ, List.filter_append, ih (by omega)]
      have : hasG xs (n + 1 + j) = false := by
        rw [Bool.eq_false_iff]
        intro hh
        obtain ⟨i, hi, _, hp⟩ := (hasG_iff _ _).1 hh
        have := pc_le n i (by rw [hx] at hi; exact hi)
        omega
      simp [this]
  have := h (7 - (n + 1)) (by omega)
  rw [show n + 1 + (7 - (n + 1)) = 7 by omega] at this
  exact this.symm
/-- The grades up to k, collected. -/
def grT (xs : List Int) (k : Nat) : List Int := ((List.range k).filter (hasG xs)).map fun k : Nat => (k : Int)
theorem grT_succ (xs : List Int) (k : Nat) : grT xs (k + 1) = if hasG xs k then grT xs k ++ [(k : Int)] else grT xs k := by
  unfold grT
  rw [List.range_succ, List.filter_append, List.map_append, List.filter_cons, List.filter_nil]
  split
  · rfl
  · rw [List.map_nil, List.append_nil]
theorem grT_le (xs : List Int) (k : Nat) : (grT xs k).length ≤ k := by
  unfold grT
  rw [List.length_map]
  exact Nat.le_trans (List.length_filter_le _ _) (by simp)
set_option maxHeartbeats 800000 in
theorem l04Grades_any (P : Int) (A : Option Addr) (n c : Nat) (X : Option Addr) (cx : Nat) (xs : List Int) (w : World) (hn : n ≤ 6) (hx : Rd w X (pw n) (ints xs)) :
    Calls Tryz.prog 137 #[.agg #[.int .i64 P, .slice A n c], .slice X (pw n) cx] w fun e w' => ∃ A' c', e = .returned (.slice A' (gradesL xs).length c') ∧ MkI w w' A' (gradesL xs).length c' (gradesL xs) := by
  have hxl := hx.lenI
  have HPW64 : pw n ≤ 64 := pw_le hn
  have HG : Hid (grT xs (n + 1) = gradesL xs) := Lib.hid (gradesL_n xs n hn hxl)
  have hB0 : Below w.heap.size w (w.alloc (.cells #[.int .i64 P, .slice A n c] 26)) := (Below.refl _ w).alloc (Nat.le_refl _) _
  have k0 : Blk (w.alloc (.cells #[.int .i64 P, .slice A n c] 26)) w.heap.size 26 #[.int .i64 P, .slice A n c] := Blk.new w _ _
  have hM0 := Mk.lit (E := 2) hB0 #[] (by simp)
  have hM1 : MkI w ((w.alloc (.cells #[.int .i64 P, .slice A n c] 26)).alloc (.cells #[] 2)) (some ⟨w.heap.size + 1, 0, none⟩) 0 0 [] := by simpa [MkI, ints] using hM0
  have k1 := k0.alloc (.cells #[] 2)
  clear hxl
  go_enter Tryz.func137, Tryz.ntmps137
  go_wp2
  clear hM0 hB0 k0
  obtain ⟨w1, hw1⟩ : ∃ W, W = (w.alloc (.cells #[.int .i64 P, .slice A n c] 26)).alloc (.cells #[] 2) := ⟨_, rfl⟩
  rw [← hw1] at hM1 k1 ⊢
  clear hw1
  go_loopw [5, 6] (fun o i wr => ∃ (k : Nat) (A' : Option Addr) (c' : Nat), k ≤ n + 1 ∧ i = .int .i64 k ∧ o = .slice A' (grT xs k).length c' ∧ MkI w wr A' (grT xs k).length c' (grT xs k) ∧ Blk wr w.heap.size 26 #[.int .i64 P, .slice A n c]) (fun _ i _ => n + 1 - (intOf i).toNat)
  case atStart => exact ⟨0, _, _, by omega, rfl, rfl, by simpa [MkI, ints, grT] using hM1, k1⟩
  case round =>
    obtain ⟨k, A', c', hk, rfl, rfl, hM, hk2⟩ := hrel
    clear hM1 k1
    obtain ⟨q0, q1⟩ := hk2.two
    have HS := Lib.hid (grT_succ xs k)
    have hle := grT_le xs k
    have HT := Lib.hid (firstL_part xs k)
    by_cases hlt : k ≤ n
    · obtain ⟨l, hl⟩ : ∃ l, l = (grT xs k).length := ⟨_, rfl⟩
      rw [← hl] at hle hM ⊢
      have HL := Lib.hid hl
      have HR := Lib.hid (hx.below hM.b)
      have HM := Lib.hid hM
      clear hl hM
      cases hh : hasG xs k
      all_goals
        have HH := Lib.hid hh
        have hb : decide (0 ≤ firstL (partG xs k)) = hasG xs k := HT.out
        rw [hh] at hb
        clear hh
        go_wp2_with fail
        refine (l04Part_any _ _ _ _ _ _ HPW64 (by omega) HR.out).mono ?_
        rintro e w1 ⟨A1, c1, rfl, hP⟩
        have hk3 := hk2.below hP.b hk2.lt
        have HM2 := Lib.hid (HM.out.below hP.b)
        clear q0 q1
        obtain ⟨q0, q1⟩ := hk3.two
        go_wp2_with fail
        refine (l02First_any _ _ _ _ _ (by omega) hP.rd).mono ?_
        rintro e w2 ⟨rfl, rfl⟩
      · go_wp2
        go_roundw
        case rel =>
          have e : grT xs (k + 1) = grT xs k := by rw [HS.out, HH.out]; rfl
          exact ⟨k + 1, A', c', by omega, by go_num, by rw [e, ← HL.out], by rw [e, ← HL.out]; exact HM2.out, hk3⟩
        case measure => simp [intOf]; omega
      · go_wp2_with (at_builtin; refine wpList_app1 w _ 24 2 _ _ Tryz.underlying24 info_i rfl (by omega) rfl _ _ rfl A' l c' _ _ HM2.out (by omega) rfl rfl rfl ?_; intro A2 c2 w3 hM3 hgr _)
        have hk4 := hk3.grown hgr (HM2.out.2.ne_blk hk3 (by decide))
        go_roundw
        case rel =>
          have e : grT xs (k + 1) = grT xs k ++ [(k : Int)] := by rw [HS.out, HH.out]; rfl
          have el : (grT xs (k + 1)).length = l + 1 := by rw [e, List.length_append, HL.out]; rfl
          exact ⟨k + 1, A2, c2, by omega, by go_num, by rw [el], by rw [el, e]; simpa [MkI, ints] using hM3, hk4⟩
        case measure => simp [intOf]; omega
    · obtain rfl : k = n + 1 := by omega
      rw [HG.out] at hM ⊢
      go_wp2
      go_ret
      exact ⟨_, _, rfl, hM⟩
end Go.Proofs.YtggigolkncckoaaGreat

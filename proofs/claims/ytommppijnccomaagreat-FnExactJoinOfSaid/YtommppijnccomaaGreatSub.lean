/-
  The vectors whose outer product with a multivector is 0: the program's function and the reference's.
-/
import Derived.Test.YtommppijnccomaaGreatWedge
import Derived.Test.YtommppijnccomaaGreatKern
import Derived.Test.YtommppijnccomaaGreatKern2
import Derived.Test.YtommppijnccomaaGreatTrans
import Derived.Test.YtommppijnccomaaGreatMul2
namespace Go.Proofs.YtommppijnccomaaGreat
open Go.RowKit

/-- The value is a slice of one new row in a block of its own. -/
def VNew (w0 : World) (n : Nat) (L : List Int) : VP := ⟨fun v w => ∃ g A c, v = .slice (some ⟨g, 0, none⟩) 1 1 ∧ Blk w g 22 #[.slice A n c] ∧ MkI w0 w A n c L, fun _ _ _ ⟨g, A, c, e, b, h⟩ hb => ⟨g, A, c, e, b.below hb b.lt, h.below hb⟩⟩
/-- A new row, in a block of its own, is appended. -/
theorem wp_appRow {o : Oper} {a : Act} {K : Act → World → Prop} {Q : Exit → Act → World → Prop} (w0 wr w1 : World)
    (s x : Operand) (ho : o.op = .call { callee := .builtin .append, args := #[s, x], argTypes := #[37, 37] })
    (A : Option Addr) (n c : Nat) (xss : List (List Int)) (A1 : Option Addr) (m c1 : Nat) (xs : List Int) (hM : MkII w0 wr A n c xss) (hr : Mk wr w1 2 A1 m c1 (ints xs)) (hn : n ≤ 1099511627776) (g : Nat) (hB : Blk w1 g 22 #[.slice A1 m c1])
    (hs : a.eval s = .slice A n c) (hx : a.eval x = .slice (some ⟨g, 0, none⟩) 1 1)
    (h : ∀ A' c' w', MkII w0 w' A' (n + 1) c' (xss ++ [xs]) → w1.grownBy w' (Value.slice A n c).ownBlock → (∃ g, A' = some ⟨g, 0, none⟩ ∧ ((Value.slice A n c).ownBlock = some g ∨ w1.heap.size ≤ g)) → K (a.put o.dst (.slice A' (n + 1) c')) w') : o.wp Tryz.prog a w1 K Q := by
  obtain ⟨rows, hm, hnest⟩ := hM
  have hm1 := hm.below hr.1
  have hn1 := hnest.snoc hr hm.1.size
  obtain ⟨i, hi, h1, h2, h3⟩ := info_parts info_s
  obtain ⟨b1, b2⟩ := bound_of hn
  refine wp_append_lies w1 s x 37 ho w0.heap.size 22 i (.slice none 0 0) 1 24 Tryz.underlying37 hi h1 h2 h3 rfl (by omega) (.slice A n c) n rows hs hm1.2 ⟨g, 0, none⟩ 1 1 [.slice A1 m c1] hx rfl (fun j v hv => ?_)
    (by intro v hv; simp at hv; rw [hv]; rfl) (by omega) b1 (b2 _ (by omega)) hm1.1.size _ rfl (fun g' cap w' hown hg hat _ => h _ _ _ ⟨_, ⟨hm1.1.grown hg hm1.1.size (fun k hk => (hm1.2.lt k hk).1), hown⟩, hn1.grown hm1.2 (by decide) hg⟩ hg ⟨g', rfl, hat.imp id (fun e => by omega)⟩)
  match j, hv with
  | 0, hv => simp at hv; subst hv; rw [Addr.add_lit]; exact hB.cell 0

/-- The columns: the outer products of the unit vectors with a multivector. -/
def wcolL (P : Int) (sq : List Int) (n : Nat) (xs : List Int) (i : Nat) : List Int := wedgeL P sq (vecTo n (unitRow n i) n) xs
def wcolsL (P : Int) (sq : List Int) (n : Nat) (xs : List Int) : List (List Int) := tab n (wcolL P sq n xs)
/-- The reduced basis of the vectors whose outer product with a multivector is 0. -/
def subL (P : Int) (sq : List Int) (n : Nat) (xs : List Int) : List (List Int) := kernL P (transL (wcolsL P sq n xs)) n
theorem wcolsL_tab {P : Int} (hp : 0 < P) (sq : List Int) (n : Nat) (xs : List Int) : Tab P (pw n) (wcolsL P sq n xs) :=
  Tab.tab fun i _ => ⟨by unfold wcolL; rw [wedgeL_len, vecTo_len], wedgeL_nums hp _ _ _⟩
theorem wcolsL_len (P : Int) (sq : List Int) (n : Nat) (xs : List Int) : (wcolsL P sq n xs).length = n := tab_len _ _
theorem wtrans_tab {P : Int} (hp : 0 < P) (sq : List Int) (n : Nat) (xs : List Int) : Tab P n (transL (wcolsL P sq n xs)) := by
  have := transL_tab hp (wcolsL_tab hp sq n xs)
  rwa [wcolsL_len] at this
theorem subL_len {P : Int} (HP : isP P = true) (sq : List Int) (n : Nat) (xs : List Int) : (subL P sq n xs).length ≤ n := kernL_len HP _ _
theorem subL_tab {P : Int} (hp : 2 ≤ P) (sq : List Int) (n : Nat) (xs : List Int) : Tab P n (subL P sq n xs) := kernL_tab hp _ _

set_option maxHeartbeats 3200000 in
set_option maxRecDepth 8000 in
theorem subspace_any (P : Int) (A : Option Addr) (n c : Nat) (sq : List Int) (X : Option Addr) (cx : Nat) (xs : List Int) (w : World) (HP : isP P = true) (hn : n ≤ 6) (h0 : 0 < n) (ha : Rd w A n (ints sq)) (hs : NumsL P sq) (hx : Rd w X (pw n) (ints xs)) (hxs : NumsL P xs) :
    Calls Tryz.prog 66 #[.agg #[.int .i64 P, .slice A n c], .slice X (pw n) cx] w fun e w' => ∃ A' c', e = .returned (.slice A' (subL P sq n xs).length c') ∧ MkII w w' A' (subL P sq n xs).length c' (subL P sq n xs) := by
  obtain ⟨hp3, hp2⟩ := isP_ge HP
  have hp : 2 ≤ P := by omega
  have hpn := pw_pos n
  have hpw : pw n ≤ 64 := pw_le hn
  have hB0 : Below w.heap.size w (w.alloc (.cells #[.int .i64 P, .slice A n c] 28)) := (Below.refl _ _).alloc (Nat.le_refl _) _
  have k0 : Blk (w.alloc (.cells #[.int .i64 P, .slice A n c] 28)) w.heap.size 28 #[.int .i64 P, .slice A n c] := Blk.new _ _ _
  have hB1 := hB0.alloc (by simp) (.cells #[] 22)
  have k1 := k0.alloc (.cells #[] 22)
  have hM1 : MkII w ((w.alloc (.cells #[.int .i64 P, .slice A n c] 28)).alloc (.cells #[] 22)) (some ⟨w.heap.size + 1, 0, none⟩) 0 0 [] := by
    have := MkII.empty hB0
    simpa using this
  clear k0 hB0
  obtain ⟨q0, q1⟩ := k1.two
  go_enter Tryz.func66, Tryz.ntmps66
  go_wp2_with fail
  refine (dim_any _ _ _ _ _).mono ?_
  rintro e w2 ⟨rfl, hb2⟩
  have hM2 := hM1.below hb2
  have hB2 := hB1.trans (hb2.mono hB1.size)
  have k2 := k1.below hb2 k1.lt
  have hsz2 : w.heap.size + 1 < w2.heap.size := by have := hb2.size; simp at this; omega
  clear hM1 q0 q1 k1 hB1 hb2
  go_wp2_with fail
  refine (unit_any n _ (by omega)).mono ?_
  rintro e w3 ⟨U, cU, rfl, hU⟩
  have hM3 := hM2.below hU.b
  have k3 := k2.below hU.b k2.lt
  have hKp : Keeps w2 w3 w3 (.slice (some ⟨w.heap.size + 1, 0, none⟩) 0 0) := ⟨Nat.le_refl _, fun _ _ _ => rfl, fun gb e => .inl (lt_of_own e hsz2)⟩
  have hklt : w.heap.size < w2.heap.size := by omega
  clear hM2 hB2 k2 hsz2
  go_wp2
  go_loopw [5, 7, 13] (fun out _ i wr => ∃ (k : Nat) (A' : Option Addr) (c' : Nat), k ≤ n ∧ i = .int .i64 k ∧ out = .slice A' k c' ∧ MkII w wr A' k c' (tab k (wcolL P sq n xs)) ∧ Keeps w2 w3 wr (.slice A' k c') ∧ Blk wr w.heap.size 28 #[.int .i64 P, .slice A n c]) (fun _ _ i _ => n - (intOf i).toNat)
  case atStart => exact ⟨0, _, _, by omega, rfl, rfl, by simpa [tab] using hM3, hKp, k3⟩
  case round =>
    obtain ⟨k, A', c', hk, rfl, rfl, hM, hB4, k4⟩ := hrel
    clear hM3 hKp k3
    by_cases hlt : k < n
    · obtain ⟨gu, ou, rfl, hxk, A1, c1, hcu, hru, hcc⟩ := (hU.keep hB4.2.1).at_ hlt
      have hrow := unitM_get n k hxk
      rw [hrow, unitRow_len] at hru hcu hcc
      have HRU := Lib.hid hru
      have HM := Lib.hid hM
      have HB4 := Lib.hid hB4
      have HUN := Lib.hid (unitRow_nums hp n k)
      have HA := Lib.hid (ha.below hM.b)
      have HX := Lib.hid (hx.below hM.b)
      have HSQ := Lib.hid hs
      have HXS := Lib.hid hxs
      have HWC : Hid (wcolL P sq n xs k = wedgeL P sq (vecTo n (unitRow n k) n) xs) := Lib.hid rfl
      clear hM hru hrow hB4 hcc hxk
      go_wp2
      refine wp_obs 8 [[], [], [], [], [2, 3], [], [1, 2, 3, 4, 5], [1, 2, 3, 4, 5, 6], [0, 1, 2, 3, 4, 5, 6, 7], [0, 1, 2, 3, 4, 5, 6, 7, 8]] [VIs (.slice A' k c'), VIs (.agg #[.int .i64 P, .slice A n c]), VIs (.agg #[.int .i64 P, .slice A n c]), VIs (.slice A1 n c1), VSl wr (pw n) (vecTo n (unitRow n k) n), VIs (.slice X (pw n) cx), VSl wr (pw n) (wedgeL P sq (vecTo n (unitRow n k) n) xs), VNew wr (pw n) (wedgeL P sq (vecTo n (unitRow n k) n) xs)] (fun w' => Blk w' w.heap.size 28 #[.int .i64 P, .slice A n c] ∧ Below wr.heap.size wr w') (by kernel_rfl) (by kernel_rfl) (fun _ _ h hb => ⟨h.1.below hb h.1.lt, h.2.trans (hb.mono h.2.size)⟩) (⟨k4.drew, (Below.refl _ _).drew⟩) (fun x => ?_)
      refine obs_step (Eq.trans (by simp only [List.getElem?_toArray, List.getElem?_cons_zero]; exact rfl) rfl) rfl (fun w' hS hV K hK => ?_) ?_
      · obtain ⟨q0, q1⟩ := hS.1.two
        go_simp
        exact hK.out _ _ _ rfl rfl rfl (Below.refl _ _)
      simp only [List.setIfInBounds_toArray, List.set_cons_zero, List.set_cons_succ]
      refine obs_step (Eq.trans (by simp only [List.getElem?_toArray, List.getElem?_cons_succ, List.getElem?_cons_zero]; exact rfl) rfl) rfl (fun w' hS hV K hK => ?_) ?_
      · obtain ⟨q0, q1⟩ := hS.1.two
        go_simp
        exact hK.out _ _ _ rfl rfl rfl (Below.refl _ _)
      simp only [List.setIfInBounds_toArray, List.set_cons_zero, List.set_cons_succ]
      refine obs_step (Eq.trans (by simp only [List.getElem?_toArray, List.getElem?_cons_succ, List.getElem?_cons_zero]; exact rfl) rfl) rfl (fun w' hS hV K hK => ?_) ?_
      · obtain ⟨q0, q1⟩ := hS.1.two
        go_simp
        exact hK.out _ _ _ rfl rfl rfl (Below.refl _ _)
      simp only [List.setIfInBounds_toArray, List.set_cons_zero, List.set_cons_succ]
      refine obs_step (Eq.trans (by simp only [List.getElem?_toArray, List.getElem?_cons_succ, List.getElem?_cons_zero]; exact rfl) rfl) rfl (fun w' hS hV K hK => ?_) ?_
      · obtain ⟨q0, q1⟩ := hS.1.two
        go_simp
        exact hK.out _ _ _ rfl rfl rfl (Below.refl _ _)
      simp only [List.setIfInBounds_toArray, List.set_cons_zero, List.set_cons_succ]
      refine obs_step (Eq.trans (by simp only [List.getElem?_toArray, List.getElem?_cons_succ, List.getElem?_cons_zero]; exact rfl) rfl) rfl (fun w' hS hV K hK => ?_) ?_
      · have e2 : x 2 = (.agg #[.int .i64 P, .slice A n c]) := hV 2 (by decide)
        have e3 : x 3 = (.slice A1 n c1) := hV 3 (by decide)
        obtain ⟨q0, q1⟩ := hS.1.two
        go_simp
        refine (vector_any P A n c _ _ (unitRow n k) _ (by omega) (HRU.out.below hS.2)).mono ?_
        rintro e v1 ⟨A2, c2, rfl, hM⟩
        exact hK.out _ _ _ rfl rfl ⟨_, _, rfl, hM.after hS.2⟩ hM.b
      simp only [List.setIfInBounds_toArray, List.set_cons_zero, List.set_cons_succ]
      refine obs_step (Eq.trans (by simp only [List.getElem?_toArray, List.getElem?_cons_succ, List.getElem?_cons_zero]; exact rfl) rfl) rfl (fun w' hS hV K hK => ?_) ?_
      · obtain ⟨q0, q1⟩ := hS.1.two
        go_simp
        exact hK.out _ _ _ rfl rfl rfl (Below.refl _ _)
      simp only [List.setIfInBounds_toArray, List.set_cons_zero, List.set_cons_succ]
      refine obs_step (Eq.trans (by simp only [List.getElem?_toArray, List.getElem?_cons_succ, List.getElem?_cons_zero]; exact rfl) rfl) rfl (fun w' hS hV K hK => ?_) ?_
      · have e1 : x 1 = (.agg #[.int .i64 P, .slice A n c]) := hV 1 (by decide)
        have e2 : x 2 = (.agg #[.int .i64 P, .slice A n c]) := hV 2 (by decide)
        have e3 : x 3 = (.slice A1 n c1) := hV 3 (by decide)
        obtain ⟨A4, c4, e4, h4⟩ := hV 4 (by decide)
        have e5 : x 5 = (.slice X (pw n) cx) := hV 5 (by decide)
        obtain ⟨q0, q1⟩ := hS.1.two
        go_simp
        refine (wedge_any P A n c sq _ _ (vecTo n (unitRow n k) n) _ _ xs _ hp hp2 hn (HA.out.below hS.2) HSQ.out h4.rd (vecTo_nums (by omega) n _ HUN.out n) (HX.out.below hS.2) HXS.out).mono ?_
        rintro e v1 ⟨A2, c2, rfl, hM⟩
        exact hK.out _ _ _ rfl rfl ⟨_, _, rfl, hM.after hS.2⟩ hM.b
      simp only [List.setIfInBounds_toArray, List.set_cons_zero, List.set_cons_succ]
      refine obs_step (Eq.trans (by simp only [List.getElem?_toArray, List.getElem?_cons_succ, List.getElem?_cons_zero]; exact rfl) rfl) rfl (fun w' hS hV K hK => ?_) ?_
      · have e1 : x 1 = (.agg #[.int .i64 P, .slice A n c]) := hV 1 (by decide)
        have e2 : x 2 = (.agg #[.int .i64 P, .slice A n c]) := hV 2 (by decide)
        have e3 : x 3 = (.slice A1 n c1) := hV 3 (by decide)
        obtain ⟨A4, c4, e4, h4⟩ := hV 4 (by decide)
        have e5 : x 5 = (.slice X (pw n) cx) := hV 5 (by decide)
        obtain ⟨A6, c6, e6, h6⟩ := hV 6 (by decide)
        obtain ⟨q0, q1⟩ := hS.1.two
        go_simp
        exact hK.out _ _ _ rfl rfl ⟨_, _, _, rfl, Blk.new _ _ _, h6.below ((Below.refl _ _).alloc (Nat.le_refl _) _)⟩ ((Below.refl _ _).alloc (Nat.le_refl _) _)
      simp only [List.setIfInBounds_toArray, List.set_cons_zero, List.set_cons_succ]
      refine fun w' hS hV => ?_
      have e0 : x 0 = (.slice A' k c') := hV 0 (by decide)
      have e1 : x 1 = (.agg #[.int .i64 P, .slice A n c]) := hV 1 (by decide)
      have e2 : x 2 = (.agg #[.int .i64 P, .slice A n c]) := hV 2 (by decide)
      have e3 : x 3 = (.slice A1 n c1) := hV 3 (by decide)
      obtain ⟨A4, c4, e4, h4⟩ := hV 4 (by decide)
      have e5 : x 5 = (.slice X (pw n) cx) := hV 5 (by decide)
      obtain ⟨A6, c6, e6, h6⟩ := hV 6 (by decide)
      obtain ⟨g7, A7, c7, e7, b7, h7⟩ := hV 7 (by decide)
      simp only [e0, e1, e2, e3, e4, e5, e6, e7]
      clear e0 e1 e2 e3 e4 e5 e6 e7
      obtain ⟨k3, s2⟩ := hS
      refine any_plain (j := 8) (by kernel_rfl) (Eq.trans (by simp only [List.getElem?_toArray, List.getElem?_cons_succ, List.getElem?_cons_zero]; exact rfl) rfl) rfl (fun K hK => ?_)
      refine wp_appRow w wr w' _ _ rfl A' k c' _ A7 (pw n) c7 _ HM.out h7 (by omega) g7 b7 (by rfl) (by rfl) ?_
      intro A20 c20 w20 hM20 hg20 hat20
      refine hK.out _ _ ?_
      simp only [Act.put, List.setIfInBounds_toArray, List.set_cons_zero, List.set_cons_succ]
      refine any_one (j := 9) (by kernel_rfl) (Eq.trans (by simp only [List.getElem?_toArray, List.getElem?_cons_succ, List.getElem?_cons_zero]; exact rfl) rfl) (fun K hK => ?_)
      go_simp
      refine hK.out _ _ (wpAny_done (by kernel_rfl) ?_ _)
      have hk5 := k3.grown hg20 ((HM.out.below s2).ne_blk k3 (by decide))
      have hks := HB4.out.step s2 hg20 hat20 (n' := k + 1) (c' := c20)
      clear k3 hat20 hg20
      go_wp2
      go_roundw
      case rel => exact ⟨k + 1, A20, c20, by omega, by go_num, rfl, by rw [tab_succ, HWC.out]; exact hM20, hks, hk5⟩
      case measure => simp [intOf]; omega
    · obtain rfl : k = n := by omega
      have HM := Lib.hid hM
      have htr := fun w' (hb : Below wr.heap.size wr w') => transpose_any P A' k c' (wcolsL P sq k xs) (pw k) w' h0 (by omega) (by omega) (HM.out.rd.below hb) (wcolsL_tab (by omega) sq k xs)
      have HTR := Lib.hid htr
      have HT2 := Lib.hid (wtrans_tab (P := P) (by omega) sq k xs)
      have HLK : Hid ((subL P sq k xs) = kernL P (transL (wcolsL P sq k xs)) k) := Lib.hid rfl
      have HPP := Lib.hid HP
      clear hM hB4 htr
      go_wp2
      refine wp_obs 8 [[], [0], [], [2], [], [4], [0, 1, 2, 3, 4, 5], [0, 1, 2, 3, 4, 5, 6]] [VIs (.agg #[.int .i64 P, .slice A k c]), VIs (.int .i64 (P)), VIs (.slice A' k c'), VMat wr (pw k) (transL (wcolsL P sq k xs)), VIs (.agg #[.int .i64 P, .slice A k c]), VIs (.int .i64 (k)), VMat wr (subL P sq k xs).length (subL P sq k xs), VMat wr (subL P sq k xs).length (subL P sq k xs)] (fun w' => Blk w' w.heap.size 28 #[.int .i64 P, .slice A k c] ∧ Below wr.heap.size wr w') (by kernel_rfl) (by kernel_rfl) (fun _ _ h hb => ⟨h.1.below hb h.1.lt, h.2.trans (hb.mono h.2.size)⟩) (⟨k4.drew, (Below.refl _ _).drew⟩) (fun x => ?_)
      refine obs_step (Eq.trans (by simp only [List.getElem?_toArray, List.getElem?_cons_zero]; exact rfl) rfl) rfl (fun w' hS hV K hK => ?_) ?_
      · obtain ⟨q0, q1⟩ := hS.1.two
        go_simp
        exact hK.out _ _ _ rfl rfl rfl (Below.refl _ _)
      simp only [List.setIfInBounds_toArray, List.set_cons_zero, List.set_cons_succ]
      refine obs_step (Eq.trans (by simp only [List.getElem?_toArray, List.getElem?_cons_succ, List.getElem?_cons_zero]; exact rfl) rfl) rfl (fun w' hS hV K hK => ?_) ?_
      · have e0 : x 0 = (.agg #[.int .i64 P, .slice A k c]) := hV 0 (by decide)
        obtain ⟨q0, q1⟩ := hS.1.two
        go_simp
        refine (field_any _ _ _ _ _).mono ?_
        rintro e v1 ⟨rfl, hb⟩
        exact hK.out _ _ _ rfl rfl rfl hb
      simp only [List.setIfInBounds_toArray, List.set_cons_zero, List.set_cons_succ]
      refine obs_step (Eq.trans (by simp only [List.getElem?_toArray, List.getElem?_cons_succ, List.getElem?_cons_zero]; exact rfl) rfl) rfl (fun w' hS hV K hK => ?_) ?_
      · obtain ⟨q0, q1⟩ := hS.1.two
        go_simp
        exact hK.out _ _ _ rfl rfl rfl (Below.refl _ _)
      simp only [List.setIfInBounds_toArray, List.set_cons_zero, List.set_cons_succ]
      refine obs_step (Eq.trans (by simp only [List.getElem?_toArray, List.getElem?_cons_succ, List.getElem?_cons_zero]; exact rfl) rfl) rfl (fun w' hS hV K hK => ?_) ?_
      · have e2 : x 2 = (.slice A' k c') := hV 2 (by decide)
        obtain ⟨q0, q1⟩ := hS.1.two
        go_simp
        refine (HTR.out _ hS.2).mono ?_
        rintro e v1 ⟨A2, c2, rfl, hM⟩
        exact hK.out _ _ _ rfl rfl ⟨_, _, rfl, hM.after hS.2⟩ hM.b
      simp only [List.setIfInBounds_toArray, List.set_cons_zero, List.set_cons_succ]
      refine obs_step (Eq.trans (by simp only [List.getElem?_toArray, List.getElem?_cons_succ, List.getElem?_cons_zero]; exact rfl) rfl) rfl (fun w' hS hV K hK => ?_) ?_
      · obtain ⟨q0, q1⟩ := hS.1.two
        go_simp
        exact hK.out _ _ _ rfl rfl rfl (Below.refl _ _)
      simp only [List.setIfInBounds_toArray, List.set_cons_zero, List.set_cons_succ]
      refine obs_step (Eq.trans (by simp only [List.getElem?_toArray, List.getElem?_cons_succ, List.getElem?_cons_zero]; exact rfl) rfl) rfl (fun w' hS hV K hK => ?_) ?_
      · have e4 : x 4 = (.agg #[.int .i64 P, .slice A k c]) := hV 4 (by decide)
        obtain ⟨q0, q1⟩ := hS.1.two
        go_simp
        refine (dim_any _ _ _ _ _).mono ?_
        rintro e v1 ⟨rfl, hb⟩
        exact hK.out _ _ _ rfl rfl rfl hb
      simp only [List.setIfInBounds_toArray, List.set_cons_zero, List.set_cons_succ]
      refine obs_step (Eq.trans (by simp only [List.getElem?_toArray, List.getElem?_cons_succ, List.getElem?_cons_zero]; exact rfl) rfl) rfl (fun w' hS hV K hK => ?_) ?_
      · have e0 : x 0 = (.agg #[.int .i64 P, .slice A k c]) := hV 0 (by decide)
        have e1 : x 1 = (.int .i64 (P)) := hV 1 (by decide)
        have e2 : x 2 = (.slice A' k c') := hV 2 (by decide)
        obtain ⟨A3, c3, e3, h3⟩ := hV 3 (by decide)
        have e4 : x 4 = (.agg #[.int .i64 P, .slice A k c]) := hV 4 (by decide)
        have e5 : x 5 = (.int .i64 (k)) := hV 5 (by decide)
        obtain ⟨q0, q1⟩ := hS.1.two
        go_simp
        refine (kernel_any P _ _ _ (transL (wcolsL P sq k xs)) k _ HPP.out (by omega) (by omega) h3.rd HT2.out).mono ?_
        rw [← HLK.out]
        rintro e v1 ⟨A2, c2, rfl, hM⟩
        exact hK.out _ _ _ rfl rfl ⟨_, _, rfl, hM.after hS.2⟩ hM.b
      simp only [List.setIfInBounds_toArray, List.set_cons_zero, List.set_cons_succ]
      refine obs_step (Eq.trans (by simp only [List.getElem?_toArray, List.getElem?_cons_succ, List.getElem?_cons_zero]; exact rfl) rfl) rfl (fun w' hS hV K hK => ?_) ?_
      · have e0 : x 0 = (.agg #[.int .i64 P, .slice A k c]) := hV 0 (by decide)
        have e1 : x 1 = (.int .i64 (P)) := hV 1 (by decide)
        have e2 : x 2 = (.slice A' k c') := hV 2 (by decide)
        obtain ⟨A3, c3, e3, h3⟩ := hV 3 (by decide)
        have e4 : x 4 = (.agg #[.int .i64 P, .slice A k c]) := hV 4 (by decide)
        have e5 : x 5 = (.int .i64 (k)) := hV 5 (by decide)
        obtain ⟨A6, c6, e6, h6⟩ := hV 6 (by decide)
        obtain ⟨q0, q1⟩ := hS.1.two
        go_simp
        exact hK.out _ _ _ rfl rfl ⟨_, _, rfl, h6⟩ (Below.refl _ _)
      simp only [List.setIfInBounds_toArray, List.set_cons_zero, List.set_cons_succ]
      refine fun w' hS hV => ?_
      have e0 : x 0 = (.agg #[.int .i64 P, .slice A k c]) := hV 0 (by decide)
      have e1 : x 1 = (.int .i64 (P)) := hV 1 (by decide)
      have e2 : x 2 = (.slice A' k c') := hV 2 (by decide)
      obtain ⟨A3, c3, e3, h3⟩ := hV 3 (by decide)
      have e4 : x 4 = (.agg #[.int .i64 P, .slice A k c]) := hV 4 (by decide)
      have e5 : x 5 = (.int .i64 (k)) := hV 5 (by decide)
      obtain ⟨A6, c6, e6, h6⟩ := hV 6 (by decide)
      obtain ⟨A7, c7, e7, h7⟩ := hV 7 (by decide)
      simp only [e0, e1, e2, e3, e4, e5, e6, e7]
      clear e0 e1 e2 e3 e4 e5 e6 e7
      refine wpAny_done (by kernel_rfl) ?_ _
      go_wp2
      go_ret
      exact ⟨_, _, rfl, h7.after HM.out.b⟩

set_option maxHeartbeats 3200000 in
set_option maxRecDepth 8000 in
theorem l06Subspace_any (P : Int) (A : Option Addr) (n c : Nat) (sq : List Int) (X : Option Addr) (cx : Nat) (xs : List Int) (w : World) (HP : isP P = true) (hn : n ≤ 6) (h0 : 0 < n) (ha : Rd w A n (ints sq)) (hs : NumsL P sq) (hx : Rd w X (pw n) (ints xs)) (hxs : NumsL P xs) :
    Calls Tryz.prog 63 #[.agg #[.int .i64 P, .slice A n c], .slice X (pw n) cx] w fun e w' => ∃ A' c', e = .returned (.slice A' (subL P sq n xs).length c') ∧ MkII w w' A' (subL P sq n xs).length c' (subL P sq n xs) := by
  obtain ⟨hp3, hp2⟩ := isP_ge HP
  have hp : 2 ≤ P := by omega
  have hpn := pw_pos n
  have hpw : pw n ≤ 64 := pw_le hn
  have hB0 : Below w.heap.size w (w.alloc (.cells #[.int .i64 P, .slice A n c] 28)) := (Below.refl _ _).alloc (Nat.le_refl _) _
  have k0 : Blk (w.alloc (.cells #[.int .i64 P, .slice A n c] 28)) w.heap.size 28 #[.int .i64 P, .slice A n c] := Blk.new _ _ _
  have hB1 := hB0.alloc (by simp) (.cells #[] 22)
  have k1 := k0.alloc (.cells #[] 22)
  have hM1 : MkII w ((w.alloc (.cells #[.int .i64 P, .slice A n c] 28)).alloc (.cells #[] 22)) (some ⟨w.heap.size + 1, 0, none⟩) 0 0 [] := by
    have := MkII.empty hB0
    simpa using this
  clear k0 hB0
  obtain ⟨q0, q1⟩ := k1.two
  have hmk := make_i (P := Tryz.prog) 22 2 Tryz.underlying22 info_i n (by omega)
  go_enter Tryz.func63, Tryz.ntmps63
  go_wp2
  obtain ⟨w1, hw1⟩ : ∃ W, W = (w.alloc (.cells #[.int .i64 P, .slice A n c] 28)).alloc (.cells #[] 22) := ⟨_, rfl⟩
  rw [← hw1] at hM1 k1 ⊢
  clear hw1 hB1 q0 q1
  go_loopw [5, 6] (fun out i wr => ∃ (k : Nat) (A' : Option Addr) (c' : Nat), k ≤ n ∧ i = .int .i64 k ∧ out = .slice A' k c' ∧ MkII w wr A' k c' (tab k (wcolL P sq n xs)) ∧ Blk wr w.heap.size 28 #[.int .i64 P, .slice A n c]) (fun _ i _ => n - (intOf i).toNat)
  case atStart => exact ⟨0, _, _, by omega, rfl, rfl, by simpa [tab] using hM1, k1⟩
  case round =>
    obtain ⟨k, A', c', hk, rfl, rfl, hM, k4⟩ := hrel
    clear hM1 k1
    obtain ⟨q0, q1⟩ := k4.two
    by_cases hlt : k < n
    · have hm1 := Mk.made (E := 2) (n := n) (z := .int .i64 0) (Below.refl wr.heap.size wr) (by simp only [maxLen]; omega)
      rw [ints_replicate] at hm1
      obtain ⟨u1, hc1⟩ := hm1.2.cellI hlt
      have hf1 := hm1.2.frozen_ k
      have hm2 := (hm1.set k (.int .i64 1)).1
      rw [ints_set, World.setCell_alloc_at _ _ _ _ _ rfl] at hm2
      have HRU := Lib.hid (show MkI wr _ (some ⟨wr.heap.size, 0, none⟩) n n (unitRow n k) from hm2)
      have k5 := k4.below hm2.b k4.lt
      have HM := Lib.hid hM
      have HUN := Lib.hid (unitRow_nums hp n k)
      have HA := Lib.hid (ha.below (hM.b.trans (hm2.b.mono hM.b.size)))
      have HX := Lib.hid (hx.below (hM.b.trans (hm2.b.mono hM.b.size)))
      have HSQ := Lib.hid hs
      have HXS := Lib.hid hxs
      have HWC : Hid (wcolL P sq n xs k = wedgeL P sq (vecTo n (unitRow n k) n) xs) := Lib.hid rfl
      have HBW := Lib.hid hm2.b
      clear hM hm1 hm2
      go_wp2
      clear hc1 hf1
      refine wp_obs 8 [[], [], [], [], [2, 3], [], [1, 2, 3, 4, 5], [1, 2, 3, 4, 5, 6], [0, 1, 2, 3, 4, 5, 6, 7], [0, 1, 2, 3, 4, 5, 6, 7, 8]] [VIs (.slice A' k c'), VIs (.agg #[.int .i64 P, .slice A n c]), VIs (.agg #[.int .i64 P, .slice A n c]), VIs (.slice (some ⟨wr.heap.size, 0, none⟩) n n), VSl wr (pw n) (vecTo n (unitRow n k) n), VIs (.slice X (pw n) cx), VSl wr (pw n) (wedgeL P sq (vecTo n (unitRow n k) n) xs), VNew wr (pw n) (wedgeL P sq (vecTo n (unitRow n k) n) xs)] (fun w' => Blk w' w.heap.size 28 #[.int .i64 P, .slice A n c] ∧ Below (wr.alloc (.cells ((madeCells #[.int .i64 0] n).setIfInBounds k (.int .i64 1)) 2)).heap.size (wr.alloc (.cells ((madeCells #[.int .i64 0] n).setIfInBounds k (.int .i64 1)) 2)) w') (by kernel_rfl) (by kernel_rfl) (fun _ _ h hb => ⟨h.1.below hb h.1.lt, h.2.trans (hb.mono h.2.size)⟩) (⟨k5.drew, (Below.refl _ _).drew⟩) (fun x => ?_)
      refine obs_step (Eq.trans (by simp only [List.getElem?_toArray, List.getElem?_cons_zero]; exact rfl) rfl) rfl (fun w' hS hV K hK => ?_) ?_
      · obtain ⟨q0, q1⟩ := hS.1.two
        go_simp
        exact hK.out _ _ _ rfl rfl rfl (Below.refl _ _)
      simp only [List.setIfInBounds_toArray, List.set_cons_zero, List.set_cons_succ]
      refine obs_step (Eq.trans (by simp only [List.getElem?_toArray, List.getElem?_cons_succ, List.getElem?_cons_zero]; exact rfl) rfl) rfl (fun w' hS hV K hK => ?_) ?_
      · obtain ⟨q0, q1⟩ := hS.1.two
        go_simp
        exact hK.out _ _ _ rfl rfl rfl (Below.refl _ _)
      simp only [List.setIfInBounds_toArray, List.set_cons_zero, List.set_cons_succ]
      refine obs_step (Eq.trans (by simp only [List.getElem?_toArray, List.getElem?_cons_succ, List.getElem?_cons_zero]; exact rfl) rfl) rfl (fun w' hS hV K hK => ?_) ?_
      · obtain ⟨q0, q1⟩ := hS.1.two
        go_simp
        exact hK.out _ _ _ rfl rfl rfl (Below.refl _ _)
      simp only [List.setIfInBounds_toArray, List.set_cons_zero, List.set_cons_succ]
      refine obs_step (Eq.trans (by simp only [List.getElem?_toArray, List.getElem?_cons_succ, List.getElem?_cons_zero]; exact rfl) rfl) rfl (fun w' hS hV K hK => ?_) ?_
      · obtain ⟨q0, q1⟩ := hS.1.two
        go_simp
        exact hK.out _ _ _ rfl rfl rfl (Below.refl _ _)
      simp only [List.setIfInBounds_toArray, List.set_cons_zero, List.set_cons_succ]
      refine obs_step (Eq.trans (by simp only [List.getElem?_toArray, List.getElem?_cons_succ, List.getElem?_cons_zero]; exact rfl) rfl) rfl (fun w' hS hV K hK => ?_) ?_
      · have e2 : x 2 = (.agg #[.int .i64 P, .slice A n c]) := hV 2 (by decide)
        have e3 : x 3 = (.slice (some ⟨wr.heap.size, 0, none⟩) n n) := hV 3 (by decide)
        obtain ⟨q0, q1⟩ := hS.1.two
        go_simp
        refine (l04Vector_any P A n c _ _ (unitRow n k) _ (by omega) (HRU.out.rd.below hS.2)).mono ?_
        rintro e v1 ⟨A2, c2, rfl, hM⟩
        exact hK.out _ _ _ rfl rfl ⟨_, _, rfl, (hM.after hS.2).after HBW.out⟩ hM.b
      simp only [List.setIfInBounds_toArray, List.set_cons_zero, List.set_cons_succ]
      refine obs_step (Eq.trans (by simp only [List.getElem?_toArray, List.getElem?_cons_succ, List.getElem?_cons_zero]; exact rfl) rfl) rfl (fun w' hS hV K hK => ?_) ?_
      · obtain ⟨q0, q1⟩ := hS.1.two
        go_simp
        exact hK.out _ _ _ rfl rfl rfl (Below.refl _ _)
      simp only [List.setIfInBounds_toArray, List.set_cons_zero, List.set_cons_succ]
      refine obs_step (Eq.trans (by simp only [List.getElem?_toArray, List.getElem?_cons_succ, List.getElem?_cons_zero]; exact rfl) rfl) rfl (fun w' hS hV K hK => ?_) ?_
      · have e1 : x 1 = (.agg #[.int .i64 P, .slice A n c]) := hV 1 (by decide)
        have e2 : x 2 = (.agg #[.int .i64 P, .slice A n c]) := hV 2 (by decide)
        have e3 : x 3 = (.slice (some ⟨wr.heap.size, 0, none⟩) n n) := hV 3 (by decide)
        obtain ⟨A4, c4, e4, h4⟩ := hV 4 (by decide)
        have e5 : x 5 = (.slice X (pw n) cx) := hV 5 (by decide)
        obtain ⟨q0, q1⟩ := hS.1.two
        go_simp
        refine (l05Wedge_any P A n c sq _ _ (vecTo n (unitRow n k) n) _ _ xs _ hp hp2 hn (HA.out.below hS.2) HSQ.out h4.rd (vecTo_nums (by omega) n _ HUN.out n) (HX.out.below hS.2) HXS.out).mono ?_
        rintro e v1 ⟨A2, c2, rfl, hM⟩
        exact hK.out _ _ _ rfl rfl ⟨_, _, rfl, (hM.after hS.2).after HBW.out⟩ hM.b
      simp only [List.setIfInBounds_toArray, List.set_cons_zero, List.set_cons_succ]
      refine obs_step (Eq.trans (by simp only [List.getElem?_toArray, List.getElem?_cons_succ, List.getElem?_cons_zero]; exact rfl) rfl) rfl (fun w' hS hV K hK => ?_) ?_
      · have e1 : x 1 = (.agg #[.int .i64 P, .slice A n c]) := hV 1 (by decide)
        have e2 : x 2 = (.agg #[.int .i64 P, .slice A n c]) := hV 2 (by decide)
        have e3 : x 3 = (.slice (some ⟨wr.heap.size, 0, none⟩) n n) := hV 3 (by decide)
        obtain ⟨A4, c4, e4, h4⟩ := hV 4 (by decide)
        have e5 : x 5 = (.slice X (pw n) cx) := hV 5 (by decide)
        obtain ⟨A6, c6, e6, h6⟩ := hV 6 (by decide)
        obtain ⟨q0, q1⟩ := hS.1.two
        go_simp
        exact hK.out _ _ _ rfl rfl ⟨_, _, _, rfl, Blk.new _ _ _, h6.below ((Below.refl _ _).alloc (Nat.le_refl _) _)⟩ ((Below.refl _ _).alloc (Nat.le_refl _) _)
      simp only [List.setIfInBounds_toArray, List.set_cons_zero, List.set_cons_succ]
      refine fun w' hS hV => ?_
      have e0 : x 0 = (.slice A' k c') := hV 0 (by decide)
      have e1 : x 1 = (.agg #[.int .i64 P, .slice A n c]) := hV 1 (by decide)
      have e2 : x 2 = (.agg #[.int .i64 P, .slice A n c]) := hV 2 (by decide)
      have e3 : x 3 = (.slice (some ⟨wr.heap.size, 0, none⟩) n n) := hV 3 (by decide)
      obtain ⟨A4, c4, e4, h4⟩ := hV 4 (by decide)
      have e5 : x 5 = (.slice X (pw n) cx) := hV 5 (by decide)
      obtain ⟨A6, c6, e6, h6⟩ := hV 6 (by decide)
      obtain ⟨g7, A7, c7, e7, b7, h7⟩ := hV 7 (by decide)
      simp only [e0, e1, e2, e3, e4, e5, e6, e7]
      clear e0 e1 e2 e3 e4 e5 e6 e7
      obtain ⟨k3, s2'⟩ := hS
      have s2 := HBW.out.trans (s2'.mono HBW.out.size)
      refine any_plain (j := 8) (by kernel_rfl) (Eq.trans (by simp only [List.getElem?_toArray, List.getElem?_cons_succ, List.getElem?_cons_zero]; exact rfl) rfl) rfl (fun K hK => ?_)
      refine wp_appRow w wr w' _ _ rfl A' k c' _ A7 (pw n) c7 _ HM.out h7 (by omega) g7 b7 (by rfl) (by rfl) ?_
      intro A20 c20 w20 hM20 hg20 hat20
      refine hK.out _ _ ?_
      simp only [Act.put, List.setIfInBounds_toArray, List.set_cons_zero, List.set_cons_succ]
      refine any_one (j := 9) (by kernel_rfl) (Eq.trans (by simp only [List.getElem?_toArray, List.getElem?_cons_succ, List.getElem?_cons_zero]; exact rfl) rfl) (fun K hK => ?_)
      go_simp
      refine hK.out _ _ (wpAny_done (by kernel_rfl) ?_ _)
      have hk5 := k3.grown hg20 ((HM.out.below s2).ne_blk k3 (by decide))
      clear k3 hat20 hg20
      go_wp2
      go_roundw
      case rel => exact ⟨k + 1, A20, c20, by omega, by go_num, rfl, by rw [tab_succ, HWC.out]; exact hM20, hk5⟩
      case measure => simp [intOf]; omega
    · obtain rfl : k = n := by omega
      have HM := Lib.hid hM
      have htr := fun w' (hb : Below wr.heap.size wr w') => l02Turn_any P A' k c' (wcolsL P sq k xs) (pw k) w' h0 (by omega) (by omega) (HM.out.rd.below hb) (wcolsL_tab (by omega) sq k xs)
      have HTR := Lib.hid htr
      have HT2 := Lib.hid (wtrans_tab (P := P) (by omega) sq k xs)
      have HLK : Hid ((subL P sq k xs) = kernL P (transL (wcolsL P sq k xs)) k) := Lib.hid rfl
      have HPP := Lib.hid HP
      clear hM htr
      go_wp2
      refine wp_obs 6 [[], [0], [], [2], [0, 1, 2, 3], [0, 1, 2, 3, 4]] [VIs (.pointer (some ⟨w.heap.size, 0, none⟩)), VIs (.int .i64 (P)), VIs (.slice A' k c'), VMat wr (pw k) (transL (wcolsL P sq k xs)), VMat wr (subL P sq k xs).length (subL P sq k xs), VMat wr (subL P sq k xs).length (subL P sq k xs)] (fun w' => Blk w' w.heap.size 28 #[.int .i64 P, .slice A k c] ∧ Below wr.heap.size wr w') (by kernel_rfl) (by kernel_rfl) (fun _ _ h hb => ⟨h.1.below hb h.1.lt, h.2.trans (hb.mono h.2.size)⟩) (⟨k4.drew, (Below.refl _ _).drew⟩) (fun x => ?_)
      refine obs_step (Eq.trans (by simp only [List.getElem?_toArray, List.getElem?_cons_zero]; exact rfl) rfl) rfl (fun w' hS hV K hK => ?_) ?_
      · obtain ⟨q0, q1⟩ := hS.1.two
        go_simp
        exact hK.out _ _ _ rfl rfl rfl (Below.refl _ _)
      simp only [List.setIfInBounds_toArray, List.set_cons_zero, List.set_cons_succ]
      refine obs_step (Eq.trans (by simp only [List.getElem?_toArray, List.getElem?_cons_succ, List.getElem?_cons_zero]; exact rfl) rfl) rfl (fun w' hS hV K hK => ?_) ?_
      · have e0 : x 0 = (.pointer (some ⟨w.heap.size, 0, none⟩)) := hV 0 (by decide)
        obtain ⟨q0, q1⟩ := hS.1.two
        go_simp
        exact hK.out _ _ _ rfl rfl rfl (Below.refl _ _)
      simp only [List.setIfInBounds_toArray, List.set_cons_zero, List.set_cons_succ]
      refine obs_step (Eq.trans (by simp only [List.getElem?_toArray, List.getElem?_cons_succ, List.getElem?_cons_zero]; exact rfl) rfl) rfl (fun w' hS hV K hK => ?_) ?_
      · obtain ⟨q0, q1⟩ := hS.1.two
        go_simp
        exact hK.out _ _ _ rfl rfl rfl (Below.refl _ _)
      simp only [List.setIfInBounds_toArray, List.set_cons_zero, List.set_cons_succ]
      refine obs_step (Eq.trans (by simp only [List.getElem?_toArray, List.getElem?_cons_succ, List.getElem?_cons_zero]; exact rfl) rfl) rfl (fun w' hS hV K hK => ?_) ?_
      · have e2 : x 2 = (.slice A' k c') := hV 2 (by decide)
        obtain ⟨q0, q1⟩ := hS.1.two
        go_simp
        refine (HTR.out _ hS.2).mono ?_
        rintro e v1 ⟨A2, c2, rfl, hM⟩
        exact hK.out _ _ _ rfl rfl ⟨_, _, rfl, hM.after hS.2⟩ hM.b
      simp only [List.setIfInBounds_toArray, List.set_cons_zero, List.set_cons_succ]
      refine obs_step (Eq.trans (by simp only [List.getElem?_toArray, List.getElem?_cons_succ, List.getElem?_cons_zero]; exact rfl) rfl) rfl (fun w' hS hV K hK => ?_) ?_
      · have e0 : x 0 = (.pointer (some ⟨w.heap.size, 0, none⟩)) := hV 0 (by decide)
        have e1 : x 1 = (.int .i64 (P)) := hV 1 (by decide)
        have e2 : x 2 = (.slice A' k c') := hV 2 (by decide)
        obtain ⟨A3, c3, e3, h3⟩ := hV 3 (by decide)
        obtain ⟨q0, q1⟩ := hS.1.two
        go_simp
        refine (l02Kernel_any P _ _ _ (transL (wcolsL P sq k xs)) k _ HPP.out hpn (by omega) (by omega) h3.rd HT2.out).mono ?_
        rw [← HLK.out]
        rintro e v1 ⟨A2, c2, rfl, hM⟩
        exact hK.out _ _ _ rfl rfl ⟨_, _, rfl, hM.after hS.2⟩ hM.b
      simp only [List.setIfInBounds_toArray, List.set_cons_zero, List.set_cons_succ]
      refine obs_step (Eq.trans (by simp only [List.getElem?_toArray, List.getElem?_cons_succ, List.getElem?_cons_zero]; exact rfl) rfl) rfl (fun w' hS hV K hK => ?_) ?_
      · have e0 : x 0 = (.pointer (some ⟨w.heap.size, 0, none⟩)) := hV 0 (by decide)
        have e1 : x 1 = (.int .i64 (P)) := hV 1 (by decide)
        have e2 : x 2 = (.slice A' k c') := hV 2 (by decide)
        obtain ⟨A3, c3, e3, h3⟩ := hV 3 (by decide)
        obtain ⟨A4, c4, e4, h4⟩ := hV 4 (by decide)
        obtain ⟨q0, q1⟩ := hS.1.two
        go_simp
        exact hK.out _ _ _ rfl rfl ⟨_, _, rfl, h4⟩ (Below.refl _ _)
      simp only [List.setIfInBounds_toArray, List.set_cons_zero, List.set_cons_succ]
      refine fun w' hS hV => ?_
      have e0 : x 0 = (.pointer (some ⟨w.heap.size, 0, none⟩)) := hV 0 (by decide)
      have e1 : x 1 = (.int .i64 (P)) := hV 1 (by decide)
      have e2 : x 2 = (.slice A' k c') := hV 2 (by decide)
      obtain ⟨A3, c3, e3, h3⟩ := hV 3 (by decide)
      obtain ⟨A4, c4, e4, h4⟩ := hV 4 (by decide)
      obtain ⟨A5, c5, e5, h5⟩ := hV 5 (by decide)
      simp only [e0, e1, e2, e3, e4, e5]
      clear e0 e1 e2 e3 e4 e5
      refine wpAny_done (by kernel_rfl) ?_ _
      go_wp2
      go_ret
      exact ⟨_, _, rfl, h5.after HM.out.b⟩
end Go.Proofs.YtommppijnccomaaGreat

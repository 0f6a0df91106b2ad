/-
  LawFnReversals: part 5 of the texts that the proof needs. No condition.
-/
import Derived.Test.YtggigolkncckoaaGreatP4
namespace Go.Proofs.YtggigolkncckoaaGreat
open Go.RowKit
set_option maxHeartbeats 3200000 in
set_option maxRecDepth 8000 in
theorem sBracketOf_any (P : Int) (A : Option Addr) (n c : Nat) (sq : List Int) (X : Option Addr) (m cx : Nat) (xs : List Int) (Y : Option Addr) (l cy : Nat) (ys : List Int) (w : World) (hn : n ≤ 1048576) (hm : m ≤ 1048576) (hl : l ≤ 1048576) (ha : Rd w A n (ints sq)) (hx : Rd w X m (ints xs)) (hcx : m ≤ cx) (hy : Rd w Y l (ints ys)) (hcy : l ≤ cy) :
    Calls Tryz.prog 18 #[.agg #[.int .i64 P, .slice A n c], .slice X m cx, .slice Y l cy] w fun e w' => ∃ (A' : Option Addr) (k c' : Nat), e = .returned (.tuple #[.slice A' k c', .int .i64 (brR P sq xs ys).2]) ∧ MkI w w' A' k c' (brR P sq xs ys).1 := by
  have hB0 : Below w.heap.size w (w.alloc (.cells #[.int .i64 P, .slice A n c] 26)) := (Below.refl _ _).alloc (Nat.le_refl _) _
  have k0 : Blk (w.alloc (.cells #[.int .i64 P, .slice A n c] 26)) w.heap.size 26 #[.int .i64 P, .slice A n c] := Blk.new _ _ _
  have hB1 : Below w.heap.size w ((w.alloc (.cells #[.int .i64 P, .slice A n c] 26)).alloc (.cells #[.slice X m cx, .slice Y l cy] 24)) := hB0.alloc (by simp) _
  have k1 : Blk ((w.alloc (.cells #[.int .i64 P, .slice A n c] 26)).alloc (.cells #[.slice X m cx, .slice Y l cy] 24)) w.heap.size 26 #[.int .i64 P, .slice A n c] := k0.alloc _
  have hreg := l04Code_any P A (some ⟨w.heap.size + 1, 0, none⟩) n c 2 2 sq [xs, ys] ((w.alloc (.cells #[.int .i64 P, .slice A n c] 26)).alloc (.cells #[.slice X m cx, .slice Y l cy] 24)) hn (by omega) (ha.below hB1) (rdII_two (Blk.newAt (by simp)) (hx.below hB1) (hy.below hB1) hcx hcy) (all_two (by rw [hx.lenI]; exact hm) (by rw [hy.lenI]; exact hl))
  by_cases h0 : codeM P sq [xs, ys] = 0
  · have HB := Lib.hid (brR_ok h0)
    rw [h0] at hreg
    obtain ⟨HP, hp, hp2, hd1, hd2, hs0, hms⟩ := codeM_spec2 h0
    obtain ⟨hx1, hxs0⟩ := hms xs (by simp)
    obtain ⟨hy1, hys0⟩ := hms ys (by simp)
    have hsl := ha.lenI
    have hmx : m = pw n := by rw [← hx.lenI, hx1, hsl]
    have hly : l = pw n := by rw [← hy.lenI, hy1, hsl]
    subst hmx
    subst hly
    rw [hsl] at hd2
    have HXS := Lib.hid hxs0
    have HYS := Lib.hid hys0
    have HS := Lib.hid hs0
    have HX1 := Lib.hid hx.lenI
    have HY1 := Lib.hid hy.lenI
    have HL := Lib.hid hsl
    have hcall := fun w' (hb : Below w.heap.size w w') => l04Bracket_any P A n c sq X cx xs Y cy ys w' (by omega) hp2 hd2 (ha.below hb) HS.out (hx.below hb) HXS.out (hy.below hb) HYS.out
    clear hms hx1 hs0 hxs0 hy1 hys0 h0 hsl
    go_enter Tryz.func18, Tryz.ntmps18
    go_wp2_with fail
    refine hreg.mono ?_
    rintro e w2 ⟨rfl, hb2⟩
    have hB2 := hB1.trans (hb2.mono hB1.size)
    have k2 := k1.below hb2 k1.lt
    obtain ⟨q0, q1⟩ := k2.two
    clear k0 hB0 k1 hB1 hb2 hreg
    go_wp2_with fail
    refine (hcall _ hB2).mono ?_
    rintro e w3 ⟨A', c', rfl, hM⟩
    have hM3 := hM.after hB2
    go_wp2
    go_ret2
    rw [HB.out, HL.out]
    exact ⟨A', _, c', rfl, hM3⟩
  · obtain ⟨r, hr⟩ : ∃ r, r = codeM P sq [xs, ys] := ⟨_, rfl⟩
    have HB := Lib.hid (brR_bad h0)
    have HR := Lib.hid hr
    have b0 : (r != 0) = true := code_ne (by rw [hr]; exact h0)
    rw [← hr] at hreg
    clear hr h0
    go_enter Tryz.func18, Tryz.ntmps18
    go_wp2_with fail
    refine hreg.mono ?_
    rintro e w2 ⟨rfl, hb2⟩
    have hB2 := hB1.trans (hb2.mono hB1.size)
    have k2 := k1.below hb2 k1.lt
    obtain ⟨q0, q1⟩ := k2.two
    clear k0 hB0 k1 hB1 hb2 hreg
    go_wp2
    go_ret2
    exact noRow2 (by rw [HB.out, HR.out]) hB2
set_option maxHeartbeats 3200000 in
set_option maxRecDepth 8000 in
theorem sGradesOf_ok (P : Int) (A : Option Addr) (n c : Nat) (sq : List Int) (X : Option Addr) (m cx : Nat) (xs : List Int) (w : World) (hn : n ≤ 1048576) (hm : m ≤ 1048576) (ha : Rd w A n (ints sq)) (hx : Rd w X m (ints xs)) (hcx : m ≤ cx) (h0 : codeM P sq [xs] = 0) :
    Calls Tryz.prog 26 #[.agg #[.int .i64 P, .slice A n c], .slice X m cx] w fun e w' => ∃ (A' : Option Addr) (c' : Nat), e = .returned (.tuple #[.slice A' (gradesL xs).length c', .int .i64 0]) ∧ MkI w w' A' (gradesL xs).length c' (gradesL xs) := by
  have hB0 : Below w.heap.size w (w.alloc (.cells #[.int .i64 P, .slice A n c] 26)) := (Below.refl _ _).alloc (Nat.le_refl _) _
  have k0 : Blk (w.alloc (.cells #[.int .i64 P, .slice A n c] 26)) w.heap.size 26 #[.int .i64 P, .slice A n c] := Blk.new _ _ _
  have hB1 : Below w.heap.size w ((w.alloc (.cells #[.int .i64 P, .slice A n c] 26)).alloc (.cells #[.slice X m cx] 24)) := hB0.alloc (by simp) _
  have k1 : Blk ((w.alloc (.cells #[.int .i64 P, .slice A n c] 26)).alloc (.cells #[.slice X m cx] 24)) w.heap.size 26 #[.int .i64 P, .slice A n c] := k0.alloc _
  have hreg := l04Code_any P A (some ⟨w.heap.size + 1, 0, none⟩) n c 1 1 sq [xs] ((w.alloc (.cells #[.int .i64 P, .slice A n c] 26)).alloc (.cells #[.slice X m cx] 24)) hn (by omega) (ha.below hB1) (rdII_one' (Blk.newAt (by simp)) (hx.below hB1) hcx) (all_one (by rw [hx.lenI]; exact hm))
  rw [h0] at hreg
  obtain ⟨HP, hp, hp2, hd1, hd2, hs0, hms⟩ := codeM_spec2 h0
  obtain ⟨hx1, hxs0⟩ := hms xs (by simp)
  have hsl := ha.lenI
  have hmx : m = pw n := by rw [← hx.lenI, hx1, hsl]
  subst hmx
  rw [hsl] at hd2
  have hcall := fun w' (hb : Below w.heap.size w w') => l04Grades_any P A n c X cx xs w' hd2 (hx.below hb)
  clear hms hx1 hs0 hxs0 h0 hsl
  go_enter Tryz.func26, Tryz.ntmps26
  go_wp2_with fail
  refine hreg.mono ?_
  rintro e w2 ⟨rfl, hb2⟩
  have hB2 := hB1.trans (hb2.mono hB1.size)
  have k2 := k1.below hb2 k1.lt
  obtain ⟨q0, q1⟩ := k2.two
  clear k0 hB0 k1 hB1 hb2 hreg
  go_wp2_with fail
  refine (hcall _ hB2).mono ?_
  rintro e w3 ⟨A', c', rfl, hM⟩
  have hM3 := hM.after hB2
  go_wp2
  go_ret2
  exact ⟨A', c', rfl, hM3⟩
end Go.Proofs.YtggigolkncckoaaGreat
namespace Go.Proofs.YtggigolkncckoaaGreat
open Go.RowKit
set_option maxHeartbeats 3200000 in
set_option maxRecDepth 8000 in
theorem ConjugateOf_ok (P : Int) (A : Option Addr) (n c : Nat) (sq : List Int) (X : Option Addr) (m cx : Nat) (xs : List Int) (w : World) (hn : n ≤ 1048576) (hm : m ≤ 1048576) (ha : Rd w A n (ints sq)) (hx : Rd w X m (ints xs)) (hcx : m ≤ cx) (h0 : codeM P sq [xs] = 0) :
    Calls Tryz.prog 23 #[.agg #[.int .i64 P, .slice A n c], .slice X m cx] w fun e w' => ∃ (A' : Option Addr) (c' : Nat), e = .returned (.tuple #[.slice A' m c', .int .i64 0]) ∧ MkI w w' A' m c' (revL P (invoL P xs)) := by
  have hB0 : Below w.heap.size w (w.alloc (.cells #[.int .i64 P, .slice A n c] 26)) := (Below.refl _ _).alloc (Nat.le_refl _) _
  have k0 : Blk (w.alloc (.cells #[.int .i64 P, .slice A n c] 26)) w.heap.size 26 #[.int .i64 P, .slice A n c] := Blk.new _ _ _
  have hB1 : Below w.heap.size w ((w.alloc (.cells #[.int .i64 P, .slice A n c] 26)).alloc (.cells #[.slice X m cx] 24)) := hB0.alloc (by simp) _
  have k1 : Blk ((w.alloc (.cells #[.int .i64 P, .slice A n c] 26)).alloc (.cells #[.slice X m cx] 24)) w.heap.size 26 #[.int .i64 P, .slice A n c] := k0.alloc _
  have hreg := checkMultis_any P A (some ⟨w.heap.size + 1, 0, none⟩) n c 1 1 sq [xs] ((w.alloc (.cells #[.int .i64 P, .slice A n c] 26)).alloc (.cells #[.slice X m cx] 24)) hn (by omega) (ha.below hB1) (rdII_one' (Blk.newAt (by simp)) (hx.below hB1) hcx) (all_one (by rw [hx.lenI]; exact hm))
  rw [h0] at hreg
  obtain ⟨HP, hp, hp2, hd1, hd2, hs0, hms⟩ := codeM_spec2 h0
  obtain ⟨hx1, hxs0⟩ := hms xs (by simp)
  have hm64 : m ≤ 64 := by rw [← hx.lenI, hx1]; exact pw_le hd2
  have HXS := Lib.hid hxs0
  have HIS : Hid (NumsL P (invoL P xs)) := Lib.hid (sgnL_nums (by omega) _ hxs0)
  clear hms hx1 hs0 hxs0 h0
  go_enter Tryz.func23, Tryz.ntmps23
  go_wp2_with fail
  refine hreg.mono ?_
  rintro e w2 ⟨rfl, hb2⟩
  have hB2 := hB1.trans (hb2.mono hB1.size)
  have k2 := k1.below hb2 k1.lt
  obtain ⟨q0, q1⟩ := k2.two
  clear k0 hB0 k1 hB1 hb2 hreg
  go_wp2
  refine wp_obs 7 [[], [], [], [1, 2], [0, 1, 2, 3], [0, 1, 2, 3, 4], []] [VIs (.agg #[.int .i64 P, .slice A n c]), VIs (.agg #[.int .i64 P, .slice A n c]), VIs (.slice X m cx), VSl w m (invoL P xs), VSl w m (revL P (invoL P xs)), VSl w m (revL P (invoL P xs)), VIs (.int .i64 0)] (fun w' => Blk w' w.heap.size 26 #[.int .i64 P, .slice A n c] ∧ Below w.heap.size w w') (by kernel_rfl) (by kernel_rfl) (fun _ _ h hb => ⟨h.1.below hb h.1.lt, h.2.trans (hb.mono h.2.size)⟩) (⟨k2.drew, hB2.drew⟩) (fun x => ?_)
  refine obs_step (Eq.trans (by simp only [List.getElem?_toArray, List.getElem?_cons_zero]; exact rfl) rfl) rfl (fun w' hS hV K hK => ?_) ?_
  · obtain ⟨q0, q1⟩ := hS.1.two
    go_simp
    exact hK.out _ _ _ rfl rfl rfl (Below.refl _ _)
  simp only [List.setIfInBounds_toArray, List.set_cons_zero, List.set_cons_succ]
  refine obs_step (Eq.trans (by simp only [List.getElem?_toArray, List.getElem?_cons_succ, List.getElem?_cons_zero]; exact rfl) rfl) rfl (fun w' hS hV K hK => ?_) ?_
  · obtain ⟨q0, q1⟩ := hS.1.two
    go_simp
    exact hK.out _ _ _ rfl rfl rfl (Below.refl _ _)
  simp only [List.setIfInBounds_toArray, List.set_cons_zero, List.set_cons_succ]
  refine obs_step (Eq.trans (by simp only [List.getElem?_toArray, List.getElem?_cons_succ, List.getElem?_cons_zero]; exact rfl) rfl) rfl (fun w' hS hV K hK => ?_) ?_
  · obtain ⟨q0, q1⟩ := hS.1.two
    go_simp
    exact hK.out _ _ _ rfl rfl rfl (Below.refl _ _)
  simp only [List.setIfInBounds_toArray, List.set_cons_zero, List.set_cons_succ]
  refine obs_step (Eq.trans (by simp only [List.getElem?_toArray, List.getElem?_cons_succ, List.getElem?_cons_zero]; exact rfl) rfl) rfl (fun w' hS hV K hK => ?_) ?_
  · have e1 : x 1 = (.agg #[.int .i64 P, .slice A n c]) := hV 1 (by decide)
    have e2 : x 2 = (.slice X m cx) := hV 2 (by decide)
    obtain ⟨q0, q1⟩ := hS.1.two
    go_simp
    refine (involute_any P A n c X m cx xs w' (by omega) hp2 hm64 (hx.below hS.2) HXS.out).mono ?_
    rintro e w1 ⟨A2, c2, rfl, hM⟩
    exact hK.out _ _ _ rfl rfl ⟨_, _, rfl, hM.after hS.2⟩ hM.b
  simp only [List.setIfInBounds_toArray, List.set_cons_zero, List.set_cons_succ]
  refine obs_step (Eq.trans (by simp only [List.getElem?_toArray, List.getElem?_cons_succ, List.getElem?_cons_zero]; exact rfl) rfl) rfl (fun w' hS hV K hK => ?_) ?_
  · have e0 : x 0 = (.agg #[.int .i64 P, .slice A n c]) := hV 0 (by decide)
    have e1 : x 1 = (.agg #[.int .i64 P, .slice A n c]) := hV 1 (by decide)
    have e2 : x 2 = (.slice X m cx) := hV 2 (by decide)
    obtain ⟨A3, c3, e3, h3⟩ := hV 3 (by decide)
    obtain ⟨q0, q1⟩ := hS.1.two
    go_simp
    refine (reverse_any P A n c A3 m c3 _ w' (by omega) hp2 hm64 h3.rd HIS.out).mono ?_
    rintro e w1 ⟨A9, c9, rfl, hM⟩
    exact hK.out _ _ _ rfl rfl ⟨_, _, rfl, hM.after hS.2⟩ hM.b
  simp only [List.setIfInBounds_toArray, List.set_cons_zero, List.set_cons_succ]
  refine obs_step (Eq.trans (by simp only [List.getElem?_toArray, List.getElem?_cons_succ, List.getElem?_cons_zero]; exact rfl) rfl) rfl (fun w' hS hV K hK => ?_) ?_
  · have e0 : x 0 = (.agg #[.int .i64 P, .slice A n c]) := hV 0 (by decide)
    have e1 : x 1 = (.agg #[.int .i64 P, .slice A n c]) := hV 1 (by decide)
    have e2 : x 2 = (.slice X m cx) := hV 2 (by decide)
    obtain ⟨A3, c3, e3, h3⟩ := hV 3 (by decide)
    obtain ⟨A4, c4, e4, h4⟩ := hV 4 (by decide)
    obtain ⟨q0, q1⟩ := hS.1.two
    go_simp
    exact hK.out _ _ _ rfl rfl ⟨_, _, rfl, h4⟩ (Below.refl _ _)
  simp only [List.setIfInBounds_toArray, List.set_cons_zero, List.set_cons_succ]
  refine obs_step (Eq.trans (by simp only [List.getElem?_toArray, List.getElem?_cons_succ, List.getElem?_cons_zero]; exact rfl) rfl) rfl (fun w' hS hV K hK => ?_) ?_
  · obtain ⟨q0, q1⟩ := hS.1.two
    go_simp
    exact hK.out _ _ _ rfl rfl rfl (Below.refl _ _)
  simp only [List.setIfInBounds_toArray, List.set_cons_zero, List.set_cons_succ]
  refine fun w' hS hV => ?_
  have e0 : x 0 = (.agg #[.int .i64 P, .slice A n c]) := hV 0 (by decide)
  have e1 : x 1 = (.agg #[.int .i64 P, .slice A n c]) := hV 1 (by decide)
  have e2 : x 2 = (.slice X m cx) := hV 2 (by decide)
  obtain ⟨A3, c3, e3, h3⟩ := hV 3 (by decide)
  obtain ⟨A4, c4, e4, h4⟩ := hV 4 (by decide)
  obtain ⟨A5, c5, e5, h5⟩ := hV 5 (by decide)
  have e6 : x 6 = (.int .i64 0) := hV 6 (by decide)
  simp only [e0, e1, e2, e3, e4, e5, e6]
  clear e0 e1 e2 e3 e4 e5 e6
  refine wpAny_done (by kernel_rfl) ?_ _
  go_wp2
  go_ret2
  exact ⟨_, _, rfl, h5⟩
end Go.Proofs.YtggigolkncckoaaGreat
namespace Go.Proofs.YtggigolkncckoaaGreat
open Go.RowKit
set_option maxHeartbeats 800000 in
theorem gradePart_any (X : Option Addr) (m cx : Nat) (xs : List Int) (q : Nat) (w : World) (hm : m ≤ 64) (_hq : q ≤ 1000) (hx : Rd w X m (ints xs)) :
    Calls Tryz.prog 140 #[.slice X m cx, .int .i64 q] w fun e w' => ∃ A' c', e = .returned (.slice A' m c') ∧ MkI w w' A' m c' (partG xs q) := by
  have hxl : xs.length = m := by have := hx.1; rwa [ints_length] at this
  have hmk := make_i (P := Tryz.prog) 24 2 Tryz.underlying24 info_i m (by omega)
  have hM0 := Mk.made (E := 2) (n := m) (z := .int .i64 0) (Below.refl w.heap.size w) (by simp only [maxLen]; omega)
  rw [ints_replicate] at hM0
  have HP : Hid (partG xs q = tab m fun i => if pc i = q then xs.getD i 0 else 0) := Lib.hid (by unfold partG; rw [hxl])
  clear hxl
  go_enter Tryz.func140, Tryz.ntmps140
  go_wp2
  clear hmk
  go_loopw [6, 7, 13] (fun _ _ i wr => ∃ k : Nat, k ≤ m ∧ i = .int .i64 k ∧ MkI w wr (some ⟨w.heap.size, 0, none⟩) m m ((tab k fun i => if pc i = q then xs.getD i 0 else 0) ++ List.replicate (m - k) 0)) (fun _ _ i _ => m - (intOf i).toNat)
  case atStart => exact ⟨0, by omega, rfl, by simpa [tab] using hM0⟩
  case round =>
    obtain ⟨k, hk, rfl, hM⟩ := hrel
    clear hM0
    by_cases hlt : k < m
    · obtain ⟨gx, ox, rfl, hxk, hcx⟩ := (hx.below hM.b).int hlt
      by_cases hpc : pc k = q
      · have hb : (((pc k : Nat) : Int) == (q : Int)) = true := by simp [hpc]
        have hset := (hM.set k (.int .i64 xs[k])).1
        have hf : ((tab k fun i => if pc i = q then xs.getD i 0 else 0) ++ List.replicate (m - k) 0).set k xs[k] = (tab (k + 1) fun i => if pc i = q then xs.getD i 0 else 0) ++ List.replicate (m - (k + 1)) 0 := by
          rw [← tab_pad_set hlt]; simp only [hpc, if_true]; rw [getD_of_lt 0 hxk]
        obtain ⟨hoc, hof⟩ := mkI_at hM hlt
        rw [ints_set, hf] at hset
        have HS := Lib.hid hset
        clear hset hM hpc hf
        go_wp2_with (go_at_call 211; refine (gradeOf_any k _ (by omega)).mono ?_; rintro e w' ⟨rfl, rfl⟩)
        go_roundw
        case rel => exact ⟨k + 1, by omega, by go_num, HS.out⟩
        case measure => simp [intOf]; omega
      · have hb : (((pc k : Nat) : Int) == (q : Int)) = false := by simp; omega
        have HS := Lib.hid (tab_pad_zero (f := fun i => if pc i = q then xs.getD i 0 else 0) hlt (if_neg hpc) ▸ hM)
        clear hM hpc
        go_wp2_with (go_at_call 211; refine (gradeOf_any k _ (by omega)).mono ?_; rintro e w' ⟨rfl, rfl⟩)
        go_roundw
        case rel => exact ⟨k + 1, by omega, by go_num, HS.out⟩
        case measure => simp [intOf]; omega
    · obtain rfl : k = m := by omega
      go_wp2
      go_ret
      exact ⟨_, _, rfl, by rw [HP.out]; simpa using hM⟩
set_option maxHeartbeats 3200000 in
set_option maxRecDepth 8000 in
theorem GradePart_ok (P : Int) (A : Option Addr) (n c : Nat) (sq : List Int) (X : Option Addr) (m cx : Nat) (xs : List Int) (q : Nat) (w : World) (hn : n ≤ 1048576) (hm : m ≤ 1048576) (ha : Rd w A n (ints sq)) (hx : Rd w X m (ints xs)) (hcx : m ≤ cx) (h0 : codeM P sq [xs] = 0) (hq : q ≤ n) :
    Calls Tryz.prog 28 #[.agg #[.int .i64 P, .slice A n c], .slice X m cx, .int .i64 q] w fun e w' => ∃ (A' : Option Addr) (c' : Nat), e = .returned (.tuple #[.slice A' m c', .int .i64 0]) ∧ MkI w w' A' m c' (partG xs q) := by
  have hB0 : Below w.heap.size w (w.alloc (.cells #[.int .i64 P, .slice A n c] 26)) := (Below.refl _ _).alloc (Nat.le_refl _) _
  have k0 : Blk (w.alloc (.cells #[.int .i64 P, .slice A n c] 26)) w.heap.size 26 #[.int .i64 P, .slice A n c] := Blk.new _ _ _
  have hB1 : Below w.heap.size w ((w.alloc (.cells #[.int .i64 P, .slice A n c] 26)).alloc (.cells #[.slice X m cx] 24)) := hB0.alloc (by simp) _
  have k1 : Blk ((w.alloc (.cells #[.int .i64 P, .slice A n c] 26)).alloc (.cells #[.slice X m cx] 24)) w.heap.size 26 #[.int .i64 P, .slice A n c] := k0.alloc _
  have hreg := checkMultis_any P A (some ⟨w.heap.size + 1, 0, none⟩) n c 1 1 sq [xs] ((w.alloc (.cells #[.int .i64 P, .slice A n c] 26)).alloc (.cells #[.slice X m cx] 24)) hn (by omega) (ha.below hB1) (rdII_one' (Blk.newAt (by simp)) (hx.below hB1) hcx) (all_one (by rw [hx.lenI]; exact hm))
  rw [h0] at hreg
  obtain ⟨HP, hp, hp2, hd1, hd2, hs0, hms⟩ := codeM_spec2 h0
  obtain ⟨hx1, hxs0⟩ := hms xs (by simp)
  have hm64 : m ≤ 64 := by rw [← hx.lenI, hx1]; exact pw_le hd2
  have hsl := ha.lenI
  rw [hsl] at hd2
  have hcall := fun w' (hb : Below w.heap.size w w') => gradePart_any X m cx xs q w' hm64 (by omega) (hx.below hb)
  have hin : inR (q : Int) 0 (n : Int) = true := by simp [inR]; omega
  have hir := fun w' => inRange_b (b := true) (q : Int) 0 (n : Int) w' hin
  clear hms hx1 hs0 hxs0 h0 hsl hin
  go_enter Tryz.func28, Tryz.ntmps28
  go_wp2_with fail
  refine hreg.mono ?_
  rintro e w2 ⟨rfl, hb2⟩
  have hB2 := hB1.trans (hb2.mono hB1.size)
  have k2 := k1.below hb2 k1.lt
  obtain ⟨q0, q1⟩ := k2.two
  clear k0 hB0 k1 hB1 hb2 hreg
  have hdm := dim_any P A n c w2
  go_wp2_with fail
  refine hdm.mono ?_
  rintro e w3 ⟨rfl, hb3⟩
  have hB3 := hB2.trans (hb3.mono hB2.size)
  have k3 := k2.below hb3 k2.lt
  clear q0 q1 k2 hB2 hb3 hdm
  obtain ⟨q0, q1⟩ := k3.two
  go_wp2_with fail
  refine (hir _).mono ?_
  rintro e w4 ⟨rfl, rfl⟩
  go_wp2_with fail
  refine (hcall _ hB3).mono ?_
  rintro e w5 ⟨A', c', rfl, hM⟩
  have hM3 := hM.after hB3
  go_wp2
  go_ret2
  exact ⟨A', c', rfl, hM3⟩
end Go.Proofs.YtggigolkncckoaaGreat
namespace Go.Proofs.YtggigolkncckoaaGreat
open Go.RowKit
set_option maxHeartbeats 400000 in
theorem likeInts_any (A B : Option Addr) (n m c d : Nat) (xs ys : List Int) (w : World) (hn : n ≤ 1099511627776) (hm : m ≤ 1099511627776)
    (ha : Rd w A n (ints xs)) (hb : Rd w B m (ints ys)) :
    Calls Tryz.prog 19 #[.slice A n c, .slice B m d] w fun e w' => e = .returned (.bool (decide (xs = ys))) ∧ ∃ j, w' = w.drewN j := by
  have hxl : xs.length = n := by have := ha.1; rwa [ints_length] at this
  have hyl : ys.length = m := by have := hb.1; rwa [ints_length] at this
  by_cases hnm : n = m
  · subst hnm
    have Hx := Lib.hid hxl; clear hxl
    have Hy := Lib.hid hyl; clear hyl
    go_enter Tryz.func19, Tryz.ntmps19
    go_wp2
    go_loopw [5] (fun i wr => ∃ k j : Nat, k ≤ n ∧ i = .int .i64 k ∧ xs.take k = ys.take k ∧ wr = w.drewN j) (fun i _ => n - (intOf i).toNat)
    case atStart => exact ⟨0, 0, by omega, rfl, by simp, rfl⟩
    case round =>
      obtain ⟨k, j, hk, rfl, hxy, rfl⟩ := hrel
      have H := Lib.hid hxy; clear hxy
      by_cases hlt : k < n
      · obtain ⟨g, o, rfl, hx, hcx⟩ := ha.int hlt
        obtain ⟨g', o', rfl, hy, hcy⟩ := hb.int hlt
        clear ha hb
        go_wp2
        go_quiet (fail)
        go_wp2
        · go_ret
          exact ⟨ret_bool (ne_of_get xs ys k hx hy (by assumption)).symm, _, World.drewN_drewN _ _ _⟩
        · go_roundw
          case rel => exact ⟨k + 1, _, by omega, by go_num, take_succ_eq xs ys k hx hy H.out (by simpa using (by assumption : (xs[k] != ys[k]) = false)), rfl⟩
          case measure => simp [intOf]; omega
      · go_wp2
        go_ret
        refine ⟨ret_bool ?_, _, rfl⟩
        have := H.out
        rw [List.take_of_length_le (by rw [Hx.out]; omega), List.take_of_length_le (by rw [Hy.out]; omega)] at this
        rw [this]; simp
  · have hne : decide (xs = ys) = false := by
      rw [decide_eq_false_iff_not]; rintro rfl; omega
    have Hne := Lib.hid hne; clear hne hxl hyl
    have hb0 : ((n : Int) != (m : Int)) = true := by rw [bne_iff_ne]; omega
    go_enter Tryz.func19, Tryz.ntmps19
    go_wp2
    go_ret
    exact ⟨ret_bool Hne.out.symm, 0, rfl⟩
set_option maxHeartbeats 800000 in
theorem zero5_any (A : Option Addr) (n c : Nat) (xs : List Int) (w : World) (hn : n ≤ 1099511627776) (ha : Rd w A n (ints xs)) :
    Calls Tryz.prog 29 #[.slice A n c] w fun e w' => e = .returned (.bool (decide (∀ y ∈ xs, y = 0))) ∧ w' = w := by
  have hxl : xs.length = n := by have := ha.1; rwa [ints_length] at this
  have Hx := Lib.hid hxl; clear hxl
  go_enter Tryz.func29, Tryz.ntmps29
  go_wp2
  go_loopw [3] (fun i wr => ∃ k : Nat, k ≤ n ∧ i = .int .i64 k ∧ (∀ y ∈ xs.take k, y = 0) ∧ wr = w) (fun i _ => n - (intOf i).toNat)
  case atStart => exact ⟨0, by omega, rfl, by simp, rfl⟩
  case round =>
    obtain ⟨k, hk, rfl, hxy, rfl⟩ := hrel
    have H := Lib.hid hxy; clear hxy
    by_cases hlt : k < n
    · obtain ⟨g, o, rfl, hx, hcx⟩ := ha.int hlt
      have HM : Hid (xs[k] ∈ xs) := Lib.hid (List.getElem_mem hx)
      have HT : Hid (xs.take (k + 1) = xs.take k ++ [xs[k]]) := Lib.hid (List.take_succ_eq_append_getElem hx)
      obtain ⟨u, hu⟩ : ∃ u, u = xs[k] := ⟨_, rfl⟩
      rw [← hu] at hcx HM HT
      clear hu
      by_cases hz : u = 0
      · have b0 : (u != 0) = false := by simp [hz]
        go_wp2
        go_roundw
        case rel => exact ⟨k + 1, by omega, by go_num, fun y hy => by
          rw [HT.out] at hy
          rcases List.mem_append.1 hy with hy | hy
          · exact H.out y hy
          · rw [List.mem_singleton.1 hy]; exact hz, by trivial⟩
        case measure => simp [intOf]; omega
      · have b0 : (u != 0) = true := by simp [hz]
        go_wp2
        go_ret
        exact ⟨ret_bool (by rw [eq_comm, decide_eq_false_iff_not]; exact fun h => hz (h u HM.out)), rfl⟩
    · go_wp2
      go_ret
      have := H.out
      rw [List.take_of_length_le (by rw [Hx.out]; omega)] at this
      refine ⟨ret_bool ?_, rfl⟩
      rw [eq_comm, decide_eq_true_eq]; exact this
set_option maxHeartbeats 800000 in
theorem hasInt_any (A : Option Addr) (n c : Nat) (xs : List Int) (x : Int) (w : World) (hn : n ≤ 1099511627776) (ha : Rd w A n (ints xs)) :
    Calls Tryz.prog 30 #[.slice A n c, .int .i64 x] w fun e w' => e = .returned (.bool (decide (x ∈ xs))) ∧ w' = w := by
  have hxl : xs.length = n := by have := ha.1; rwa [ints_length] at this
  have Hx := Lib.hid hxl; clear hxl
  go_enter Tryz.func30, Tryz.ntmps30
  go_wp2
  go_loopw [5] (fun i wr => ∃ k : Nat, k ≤ n ∧ i = .int .i64 k ∧ (∀ y ∈ xs.take k, ¬ y = x) ∧ wr = w) (fun i _ => n - (intOf i).toNat)
  case atStart => exact ⟨0, by omega, rfl, by simp, rfl⟩
  case round =>
    obtain ⟨k, hk, rfl, hxy, rfl⟩ := hrel
    have H := Lib.hid hxy; clear hxy
    by_cases hlt : k < n
    · obtain ⟨g, o, rfl, hx, hcx⟩ := ha.int hlt
      have HM : Hid (xs[k] ∈ xs) := Lib.hid (List.getElem_mem hx)
      have HT : Hid (xs.take (k + 1) = xs.take k ++ [xs[k]]) := Lib.hid (List.take_succ_eq_append_getElem hx)
      obtain ⟨u, hu⟩ : ∃ u, u = xs[k] := ⟨_, rfl⟩
      rw [← hu] at hcx HM HT
      clear hu
      by_cases hz : u = x
      · have b0 : (u == x) = true := by simp [hz]
        go_wp2
        go_ret
        exact ⟨ret_bool (by rw [eq_comm, decide_eq_true_eq, ← hz]; exact HM.out), rfl⟩
      · have b0 : (u == x) = false := by simp [hz]
        go_wp2
        go_roundw
        case rel => exact ⟨k + 1, by omega, by go_num, fun y hy => by
          rw [HT.out] at hy
          rcases List.mem_append.1 hy with hy | hy
          · exact H.out y hy
          · rw [List.mem_singleton.1 hy]; exact hz, by trivial⟩
        case measure => simp [intOf]; omega
    · go_wp2
      go_ret
      have := H.out
      rw [List.take_of_length_le (by rw [Hx.out]; omega)] at this
      refine ⟨ret_bool ?_, rfl⟩
      rw [eq_comm, decide_eq_false_iff_not]; exact fun h => this x h rfl
end Go.Proofs.YtggigolkncckoaaGreat
namespace Go.Proofs.YtggigolkncckoaaGreat
open Go.RowKit
theorem mod5_any (p n : Int) (w : World) (hp : 0 < p) (hp2 : p ≤ 13) :
    Calls Tryz.prog 48 #[.int .i64 p, .int .i64 n] w fun e w' => e = .returned (.int .i64 (n % p)) ∧ w = w' := by
  go_enter Tryz.func48, Tryz.ntmps48
  go_wp2
  go_ret
  exact ⟨ret_int (num_math p n hp hp2), rfl⟩
theorem big_any (A : Option Addr) (n c : Nat) (w : World) :
    Calls Tryz.prog 15 #[.slice A n c] w fun e w' => e = .returned (.bool (decide (4096 < n))) ∧ w = w' := by
  go_enter Tryz.func15, Tryz.ntmps15
  by_cases h : 4096 < n
  · have d1 : decide ((4096 : Int) < (n : Int)) = true := by rw [decide_eq_true_eq]; omega
    go_wp2
    go_ret
    exact ⟨ret_bool (by rw [eq_comm, decide_eq_true_eq]; exact h), rfl⟩
  · have d1 : decide ((4096 : Int) < (n : Int)) = false := by rw [decide_eq_false_iff_not]; omega
    go_wp2
    go_ret
    exact ⟨ret_bool (by rw [eq_comm, decide_eq_false_iff_not]; exact h), rfl⟩
theorem size5_any (P : Int) (A : Option Addr) (n c : Nat) (w : World) (hn : n ≤ 30) :
    Calls Tryz.prog 27 #[.agg #[.int .i64 P, .slice A n c]] w fun e w' => e = .returned (.int .i64 (pw n)) ∧ Below w.heap.size w w' := by
  go_enter Tryz.func27, Tryz.ntmps27
  go_wp2
  go_ret
  exact ⟨ret_int (wrap_pw n hn), (Below.refl _ _).alloc (Nat.le_refl _) _⟩
end Go.Proofs.YtggigolkncckoaaGreat
namespace Go.Proofs.YtggigolkncckoaaGreat
open Go.RowKit
set_option maxHeartbeats 1600000 in
set_option maxRecDepth 8000 in
theorem plus5_any (p : Int) (A : Option Addr) (n c : Nat) (B : Option Addr) (d : Nat) (k : Int) (xs ys : List Int) (w : World) (hp : 2 ≤ p) (hp2 : p ≤ 13) (hn : n ≤ 65536) (ha : Rd w A n (ints xs)) (hx : NumsL p xs) (hb : Rd w B n (ints ys)) (hy : NumsL p ys) (hk1 : 0 ≤ k) (hk2 : k ≤ 1000) :
    Calls Tryz.prog 31 #[.int .i64 p, .slice A n c, .slice B n d, .int .i64 k] w fun e w' => ∃ A' c', e = .returned (.slice A' n c') ∧ MkI w w' A' n c' (plusL p xs ys k) := by
  have hxl : xs.length = n := by have := ha.1; rwa [ints_length] at this
  have Hx := Lib.hid hxl; clear hxl
  have hM0 := Mk.lit (E := 2) (Below.refl w.heap.size w) #[] (by simp)
  have hnn : ((n : Int) != (n : Int)) = false := by simp
  go_enter Tryz.func31, Tryz.ntmps31
  go_wp2
  go_loopw [9, 10] (fun out i wr => ∃ (j : Nat) (A' : Option Addr) (c' : Nat), j ≤ n ∧ i = .int .i64 j ∧ out = .slice A' j c' ∧ MkI w wr A' j c' (tab j fun i => (xs.getD i 0 + k * ys.getD i 0) % p)) (fun _ i _ => n - (intOf i).toNat)
  case atStart => exact ⟨0, _, _, by omega, rfl, rfl, by simpa [MkI, ints, tab] using hM0⟩
  case round =>
    obtain ⟨j, A', c', hj, rfl, rfl, hM⟩ := hrel
    clear hM0
    by_cases hlt : j < n
    · obtain ⟨g, o, rfl, hxj, hcx⟩ := (ha.below hM.b).int hlt
      obtain ⟨g2, o2, rfl, hyj, hcy⟩ := (hb.below hM.b).int hlt
      obtain ⟨x1, x2⟩ := hx _ (List.getElem_mem hxj)
      obtain ⟨y1, y2⟩ := hy _ (List.getElem_mem hyj)
      obtain ⟨m1, m2⟩ := mul_small hk1 hk2 y1 (show ys[j] ≤ 13 by omega)
      have HV : Hid ((tab (j + 1) fun i => (xs.getD i 0 + k * ys.getD i 0) % p) = (tab j fun i => (xs.getD i 0 + k * ys.getD i 0) % p) ++ [(xs[j] + k * ys[j]) % p]) := Lib.hid (by rw [tab_succ, getD_of_lt 0 hxj, getD_of_lt 0 hyj])
      have W1 := i64_fit (k * ys[j]) (by omega) (by omega)
      have W2 := i64_fit (xs[j] + k * ys[j]) (by omega) (by omega)
      have i1 : (0 : Int) ≤ (j : Int) := by omega
      have i2 : (j : Int) < (n : Int) := by omega
      go_wp2
      refine wp_obs 15 [[], [], [], [], [2, 3], [2, 3, 4], [], [], [], [7, 8], [7, 8, 9], [6, 7, 8, 9, 10], [2, 3, 4, 5, 6, 7, 8, 9, 10, 11], [1, 2, 3, 4, 5, 6, 7, 8, 9, 10, 11, 12], [1, 2, 3, 4, 5, 6, 7, 8, 9, 10, 11, 12, 13], [0, 1, 2, 3, 4, 5, 6, 7, 8, 9, 10, 11, 12, 13, 14], [0, 1, 2, 3, 4, 5, 6, 7, 8, 9, 10, 11, 12, 13, 14, 15]] [VIs (.slice A' j c'), VIs (.int .i64 p), VIs (.slice (some ⟨g, o, none⟩) n c), VIs (.int .i64 j), VIs (.pointer (some ⟨g, o + j, none⟩)), VIs (.int .i64 xs[j]), VIs (.int .i64 k), VIs (.slice (some ⟨g2, o2, none⟩) n d), VIs (.int .i64 j), VIs (.pointer (some ⟨g2, o2 + j, none⟩)), VIs (.int .i64 ys[j]), VIs (.int .i64 (k * ys[j])), VIs (.int .i64 (xs[j] + k * ys[j])), VIs (.int .i64 ((xs[j] + k * ys[j]) % p)), VBs 2 #[.int .i64 ((xs[j] + k * ys[j]) % p)]] (fun w' => MkI w w' A' j c' (tab j fun i => (xs.getD i 0 + k * ys.getD i 0) % p) ∧ w'.cell? ⟨g, o + j, none⟩ = some (.int .i64 xs[j]) ∧ w'.cell? ⟨g2, o2 + j, none⟩ = some (.int .i64 ys[j])) (by kernel_rfl) (by kernel_rfl) (fun _ _ h hb => ⟨h.1.below hb, (hb.cell (World.block_lt_of_cell? _ _ h.2.1)).trans h.2.1, (hb.cell (World.block_lt_of_cell? _ _ h.2.2)).trans h.2.2⟩) (⟨hM.drew, hcx, hcy⟩) (fun x => ?_)
      refine obs_step (Eq.trans (by simp only [List.getElem?_toArray, List.getElem?_cons_zero]; exact rfl) rfl) rfl (fun w' hS hV K hK => ?_) ?_
      · obtain ⟨_, q1, q2⟩ := hS
        go_simp
        exact hK.out _ _ _ rfl rfl rfl (Below.refl _ _)
      simp only [List.setIfInBounds_toArray, List.set_cons_zero, List.set_cons_succ]
      refine obs_step (Eq.trans (by simp only [List.getElem?_toArray, List.getElem?_cons_succ, List.getElem?_cons_zero]; exact rfl) rfl) rfl (fun w' hS hV K hK => ?_) ?_
      · obtain ⟨_, q1, q2⟩ := hS
        go_simp
        exact hK.out _ _ _ rfl rfl rfl (Below.refl _ _)
      simp only [List.setIfInBounds_toArray, List.set_cons_zero, List.set_cons_succ]
      refine obs_step (Eq.trans (by simp only [List.getElem?_toArray, List.getElem?_cons_succ, List.getElem?_cons_zero]; exact rfl) rfl) rfl (fun w' hS hV K hK => ?_) ?_
      · obtain ⟨_, q1, q2⟩ := hS
        go_simp
        exact hK.out _ _ _ rfl rfl rfl (Below.refl _ _)
      simp only [List.setIfInBounds_toArray, List.set_cons_zero, List.set_cons_succ]
      refine obs_step (Eq.trans (by simp only [List.getElem?_toArray, List.getElem?_cons_succ, List.getElem?_cons_zero]; exact rfl) rfl) rfl (fun w' hS hV K hK => ?_) ?_
      · obtain ⟨_, q1, q2⟩ := hS
        go_simp
        exact hK.out _ _ _ rfl rfl rfl (Below.refl _ _)
      simp only [List.setIfInBounds_toArray, List.set_cons_zero, List.set_cons_succ]
      refine obs_step (Eq.trans (by simp only [List.getElem?_toArray, List.getElem?_cons_succ, List.getElem?_cons_zero]; exact rfl) rfl) rfl (fun w' hS hV K hK => ?_) ?_
      · have e2 : x 2 = (.slice (some ⟨g, o, none⟩) n c) := hV 2 (by decide)
        have e3 : x 3 = (.int .i64 j) := hV 3 (by decide)
        obtain ⟨_, q1, q2⟩ := hS
        go_simp
        exact hK.out _ _ _ rfl rfl rfl (Below.refl _ _)
      simp only [List.setIfInBounds_toArray, List.set_cons_zero, List.set_cons_succ]
      refine obs_step (Eq.trans (by simp only [List.getElem?_toArray, List.getElem?_cons_succ, List.getElem?_cons_zero]; exact rfl) rfl) rfl (fun w' hS hV K hK => ?_) ?_
      · have e2 : x 2 = (.slice (some ⟨g, o, none⟩) n c) := hV 2 (by decide)
        have e3 : x 3 = (.int .i64 j) := hV 3 (by decide)
        have e4 : x 4 = (.pointer (some ⟨g, o + j, none⟩)) := hV 4 (by decide)
        obtain ⟨_, q1, q2⟩ := hS
        go_simp
        exact hK.out _ _ _ rfl rfl rfl (Below.refl _ _)
      simp only [List.setIfInBounds_toArray, List.set_cons_zero, List.set_cons_succ]
      refine obs_step (Eq.trans (by simp only [List.getElem?_toArray, List.getElem?_cons_succ, List.getElem?_cons_zero]; exact rfl) rfl) rfl (fun w' hS hV K hK => ?_) ?_
      · obtain ⟨_, q1, q2⟩ := hS
        go_simp
        exact hK.out _ _ _ rfl rfl rfl (Below.refl _ _)
      simp only [List.setIfInBounds_toArray, List.set_cons_zero, List.set_cons_succ]
      refine obs_step (Eq.trans (by simp only [List.getElem?_toArray, List.getElem?_cons_succ, List.getElem?_cons_zero]; exact rfl) rfl) rfl (fun w' hS hV K hK => ?_) ?_
      · obtain ⟨_, q1, q2⟩ := hS
        go_simp
        exact hK.out _ _ _ rfl rfl rfl (Below.refl _ _)
      simp only [List.setIfInBounds_toArray, List.set_cons_zero, List.set_cons_succ]
      refine obs_step (Eq.trans (by simp only [List.getElem?_toArray, List.getElem?_cons_succ, List.getElem?_cons_zero]; exact rfl) rfl) rfl (fun w' hS hV K hK => ?_) ?_
      · obtain ⟨_, q1, q2⟩ := hS
        go_simp
        exact hK.out _ _ _ rfl rfl rfl (Below.refl _ _)
      simp only [List.setIfInBounds_toArray, List.set_cons_zero, List.set_cons_succ]
      refine obs_step (Eq.trans (by simp only [List.getElem?_toArray, List.getElem?_cons_succ, List.getElem?_cons_zero]; exact rfl) rfl) rfl (fun w' hS hV K hK => ?_) ?_
      · have e7 : x 7 = (.slice (some ⟨g2, o2, none⟩) n d) := hV 7 (by decide)
        have e8 : x 8 = (.int .i64 j) := hV 8 (by decide)
        obtain ⟨_, q1, q2⟩ := hS
        go_simp
        exact hK.out _ _ _ rfl rfl rfl (Below.refl _ _)
      simp only [List.setIfInBounds_toArray, List.set_cons_zero, List.set_cons_succ]
      refine obs_step (Eq.trans (by simp only [List.getElem?_toArray, List.getElem?_cons_succ, List.getElem?_cons_zero]; exact rfl) rfl) rfl (fun w' hS hV K hK => ?_) ?_
      · have e7 : x 7 = (.slice (some ⟨g2, o2, none⟩) n d) := hV 7 (by decide)
        have e8 : x 8 = (.int .i64 j) := hV 8 (by decide)
        have e9 : x 9 = (.pointer (some ⟨g2, o2 + j, none⟩)) := hV 9 (by decide)
        obtain ⟨_, q1, q2⟩ := hS
        go_simp
        exact hK.out _ _ _ rfl rfl rfl (Below.refl _ _)
      simp only [List.setIfInBounds_toArray, List.set_cons_zero, List.set_cons_succ]
      refine obs_step (Eq.trans (by simp only [List.getElem?_toArray, List.getElem?_cons_succ, List.getElem?_cons_zero]; exact rfl) rfl) rfl (fun w' hS hV K hK => ?_) ?_
      · have e6 : x 6 = (.int .i64 k) := hV 6 (by decide)
        have e7 : x 7 = (.slice (some ⟨g2, o2, none⟩) n d) := hV 7 (by decide)
        have e8 : x 8 = (.int .i64 j) := hV 8 (by decide)
        have e9 : x 9 = (.pointer (some ⟨g2, o2 + j, none⟩)) := hV 9 (by decide)
        have e10 : x 10 = (.int .i64 ys[j]) := hV 10 (by decide)
        obtain ⟨_, q1, q2⟩ := hS
        go_simp
        exact hK.out _ _ _ rfl rfl rfl (Below.refl _ _)
      simp only [List.setIfInBounds_toArray, List.set_cons_zero, List.set_cons_succ]
      refine obs_step (Eq.trans (by simp only [List.getElem?_toArray, List.getElem?_cons_succ, List.getElem?_cons_zero]; exact rfl) rfl) rfl (fun w' hS hV K hK => ?_) ?_
      · have e2 : x 2 = (.slice (some ⟨g, o, none⟩) n c) := hV 2 (by decide)
        have e3 : x 3 = (.int .i64 j) := hV 3 (by decide)
        have e4 : x 4 = (.pointer (some ⟨g, o + j, none⟩)) := hV 4 (by decide)
        have e5 : x 5 = (.int .i64 xs[j]) := hV 5 (by decide)
        have e6 : x 6 = (.int .i64 k) := hV 6 (by decide)
        have e7 : x 7 = (.slice (some ⟨g2, o2, none⟩) n d) := hV 7 (by decide)
        have e8 : x 8 = (.int .i64 j) := hV 8 (by decide)
        have e9 : x 9 = (.pointer (some ⟨g2, o2 + j, none⟩)) := hV 9 (by decide)
        have e10 : x 10 = (.int .i64 ys[j]) := hV 10 (by decide)
        have e11 : x 11 = (.int .i64 (k * ys[j])) := hV 11 (by decide)
        obtain ⟨_, q1, q2⟩ := hS
        go_simp
        exact hK.out _ _ _ rfl rfl rfl (Below.refl _ _)
      simp only [List.setIfInBounds_toArray, List.set_cons_zero, List.set_cons_succ]
      refine obs_step (Eq.trans (by simp only [List.getElem?_toArray, List.getElem?_cons_succ, List.getElem?_cons_zero]; exact rfl) rfl) rfl (fun w' hS hV K hK => ?_) ?_
      · have e1 : x 1 = (.int .i64 p) := hV 1 (by decide)
        have e2 : x 2 = (.slice (some ⟨g, o, none⟩) n c) := hV 2 (by decide)
        have e3 : x 3 = (.int .i64 j) := hV 3 (by decide)
        have e4 : x 4 = (.pointer (some ⟨g, o + j, none⟩)) := hV 4 (by decide)
        have e5 : x 5 = (.int .i64 xs[j]) := hV 5 (by decide)
        have e6 : x 6 = (.int .i64 k) := hV 6 (by decide)
        have e7 : x 7 = (.slice (some ⟨g2, o2, none⟩) n d) := hV 7 (by decide)
        have e8 : x 8 = (.int .i64 j) := hV 8 (by decide)
        have e9 : x 9 = (.pointer (some ⟨g2, o2 + j, none⟩)) := hV 9 (by decide)
        have e10 : x 10 = (.int .i64 ys[j]) := hV 10 (by decide)
        have e11 : x 11 = (.int .i64 (k * ys[j])) := hV 11 (by decide)
        have e12 : x 12 = (.int .i64 (xs[j] + k * ys[j])) := hV 12 (by decide)
        obtain ⟨_, q1, q2⟩ := hS
        go_simp
        refine (mod5_any p (xs[j] + k * ys[j]) w' (by omega) hp2).mono ?_
        rintro e w1 ⟨rfl, rfl⟩
        exact hK.out _ _ _ rfl rfl rfl (Below.refl _ _)
      simp only [List.setIfInBounds_toArray, List.set_cons_zero, List.set_cons_succ]
      refine obs_step (Eq.trans (by simp only [List.getElem?_toArray, List.getElem?_cons_succ, List.getElem?_cons_zero]; exact rfl) rfl) rfl (fun w' hS hV K hK => ?_) ?_
      · have e1 : x 1 = (.int .i64 p) := hV 1 (by decide)
        have e2 : x 2 = (.slice (some ⟨g, o, none⟩) n c) := hV 2 (by decide)
        have e3 : x 3 = (.int .i64 j) := hV 3 (by decide)
        have e4 : x 4 = (.pointer (some ⟨g, o + j, none⟩)) := hV 4 (by decide)
        have e5 : x 5 = (.int .i64 xs[j]) := hV 5 (by decide)
        have e6 : x 6 = (.int .i64 k) := hV 6 (by decide)
        have e7 : x 7 = (.slice (some ⟨g2, o2, none⟩) n d) := hV 7 (by decide)
        have e8 : x 8 = (.int .i64 j) := hV 8 (by decide)
        have e9 : x 9 = (.pointer (some ⟨g2, o2 + j, none⟩)) := hV 9 (by decide)
        have e10 : x 10 = (.int .i64 ys[j]) := hV 10 (by decide)
        have e11 : x 11 = (.int .i64 (k * ys[j])) := hV 11 (by decide)
        have e12 : x 12 = (.int .i64 (xs[j] + k * ys[j])) := hV 12 (by decide)
        have e13 : x 13 = (.int .i64 ((xs[j] + k * ys[j]) % p)) := hV 13 (by decide)
        obtain ⟨_, q1, q2⟩ := hS
        go_simp
        exact hK.out _ _ _ rfl rfl ⟨_, rfl, Blk.new _ _ _⟩ ((Below.refl _ _).alloc (Nat.le_refl _) _)
      simp only [List.setIfInBounds_toArray, List.set_cons_zero, List.set_cons_succ]
      refine fun w' hS hV => ?_
      have e0 : x 0 = (.slice A' j c') := hV 0 (by decide)
      have e1 : x 1 = (.int .i64 p) := hV 1 (by decide)
      have e2 : x 2 = (.slice (some ⟨g, o, none⟩) n c) := hV 2 (by decide)
      have e3 : x 3 = (.int .i64 j) := hV 3 (by decide)
      have e4 : x 4 = (.pointer (some ⟨g, o + j, none⟩)) := hV 4 (by decide)
      have e5 : x 5 = (.int .i64 xs[j]) := hV 5 (by decide)
      have e6 : x 6 = (.int .i64 k) := hV 6 (by decide)
      have e7 : x 7 = (.slice (some ⟨g2, o2, none⟩) n d) := hV 7 (by decide)
      have e8 : x 8 = (.int .i64 j) := hV 8 (by decide)
      have e9 : x 9 = (.pointer (some ⟨g2, o2 + j, none⟩)) := hV 9 (by decide)
      have e10 : x 10 = (.int .i64 ys[j]) := hV 10 (by decide)
      have e11 : x 11 = (.int .i64 (k * ys[j])) := hV 11 (by decide)
      have e12 : x 12 = (.int .i64 (xs[j] + k * ys[j])) := hV 12 (by decide)
      have e13 : x 13 = (.int .i64 ((xs[j] + k * ys[j]) % p)) := hV 13 (by decide)
      obtain ⟨b14, e14, h14⟩ := hV 14 (by decide)
      simp only [e0, e1, e2, e3, e4, e5, e6, e7, e8, e9, e10, e11, e12, e13, e14]
      clear e0 e1 e2 e3 e4 e5 e6 e7 e8 e9 e10 e11 e12 e13 e14
      obtain ⟨s1, s2, s3⟩ := hS
      refine any_plain (j := 15) (by kernel_rfl) (Eq.trans (by simp only [List.getElem?_toArray, List.getElem?_cons_succ, List.getElem?_cons_zero]; exact rfl) rfl) rfl (fun K hK => ?_)
      refine wp_app1 w w' 24 2 _ _ Tryz.underlying24 info_i rfl (by omega) _ _ rfl A' j c' _ _ s1 (by omega) rfl _ h14 (by rfl) (by rfl) ?_
      intro A2 c2 w2 hM2 hgr
      refine hK.out _ _ ?_
      simp only [Act.put, List.setIfInBounds_toArray, List.set_cons_zero, List.set_cons_succ]
      refine any_one (j := 16) (by kernel_rfl) (Eq.trans (by simp only [List.getElem?_toArray, List.getElem?_cons_succ, List.getElem?_cons_zero]; exact rfl) rfl) (fun K hK => ?_)
      go_simp
      refine hK.out _ _ (wpAny_done (by kernel_rfl) ?_ _)
      clear W1 W2 s2 s3 hM
      go_wp2
      go_roundw
      case rel => exact ⟨j + 1, A2, c2, by omega, by go_num, rfl, by rw [HV.out]; simpa [MkI, ints] using hM2⟩
      case measure => simp [intOf]; omega
    · go_wp2
      go_ret
      obtain rfl : j = n := by omega
      exact ⟨_, _, rfl, by unfold plusL; rw [Hx.out]; exact hM⟩
end Go.Proofs.YtggigolkncckoaaGreat
namespace Go.Proofs.YtggigolkncckoaaGreat
open Go.RowKit
/-- A function of lists of n numbers is linear, but for multiples of P. -/
def LinF (P : Int) (n : Nat) (F : List Int → Int) : Prop := ∀ v : List Int, v.length = n → NumsL P v → F v % P = (sumTo n fun k => F (unitRow n k) * v.getD k 0) % P
section
variable {P : Int} {n : Nat} {F G : List Int → Int}
theorem LinF.congr (hp : 2 ≤ P) (h : LinF P n F) (he : ∀ v : List Int, v.length = n → NumsL P v → G v % P = F v % P) : LinF P n G := fun v hv hn => by
  rw [he v hv hn, h v hv hn]
  refine sumTo_mod P fun k _ => ?_
  rw [Int.mul_emod, ← he _ (unitRow_len n k) (unitRow_nums hp n k), ← Int.mul_emod]
theorem LinF.add (h : LinF P n F) (h' : LinF P n G) : LinF P n (fun v => F v + G v) := fun v hv hn => by
  show (F v + G v) % P = _
  rw [Int.add_emod, h v hv hn, h' v hv hn, ← Int.add_emod, ← sumTo_add]
  refine sumTo_mod P fun k _ => ?_
  rw [Int.add_mul]
theorem LinF.zero : LinF P n (fun _ => 0) := fun v _ _ => by
  show (0 : Int) % P = _
  rw [sumTo_zero fun k _ => by simp]
theorem LinF.sum {H : Nat → List Int → Int} : ∀ (N : Nat), (∀ a, a < N → LinF P n (H a)) → LinF P n (fun v => sumTo N fun a => H a v)
  | 0, _ => LinF.zero
  | N + 1, h => (LinF.sum N fun a ha => h a (by omega)).add (h N (by omega))
end
end Go.Proofs.YtggigolkncckoaaGreat
namespace Go.Proofs.YtggigolkncckoaaGreat
theorem bit_eq (a i : Nat) : bit a i = (a.testBit i).toNat := by
  unfold bit
  rw [Nat.testBit_eq_decide_div_mod_eq]
  rcases Nat.mod_two_eq_zero_or_one (a / 2 ^ i) with h | h <;> rw [h] <;> rfl
theorem bit_le (a i : Nat) : bit a i < 2 := by unfold bit; exact Nat.mod_lt _ (by decide)
theorem bit_xor (a b i : Nat) : bit (a ^^^ b) i = (bit a i + bit b i) % 2 := by
  rw [bit_eq, bit_eq, bit_eq, Nat.testBit_xor]
  cases a.testBit i <;> cases b.testBit i <;> rfl
/-- The number of the first k bits. -/
def pcn (a : Nat) : Nat → Nat
  | 0 => 0
  | k + 1 => pcn a k + bit a k
theorem bit_half (a i : Nat) : bit (a / 2) i = bit a (i + 1) := by
  unfold bit
  rw [Nat.div_div_eq_div_mul, Nat.pow_succ, Nat.mul_comm]
theorem pcn_half (a : Nat) : ∀ k, pcn a (k + 1) = a % 2 + pcn (a / 2) k := by
  intro k
  induction k with
  | zero => simp [pcn, bit]
  | succ k ih =>
    rw [pcn, ih, pcn, bit_half, Nat.add_assoc]
theorem pc_pcn : ∀ (k a : Nat), a < 2 ^ k → pc a = pcn a k := by
  intro k
  induction k with
  | zero =>
    intro a h
    obtain rfl : a = 0 := by omega
    rw [pc_zero]; rfl
  | succ k ih =>
    intro a h
    rw [pc_rec, pcn_half, ih _ (by rw [Nat.pow_succ] at h; omega)]
theorem pcn_xor (a b : Nat) : ∀ k, pcn (a ^^^ b) k % 2 = (pcn a k + pcn b k) % 2 := by
  intro k
  induction k with
  | zero => rfl
  | succ k ih =>
    simp only [pcn]
    rw [bit_xor]
    omega
theorem pc_xor (a b : Nat) : pc (a ^^^ b) % 2 = (pc a + pc b) % 2 := by
  obtain ⟨k, ha, hb⟩ : ∃ k, a < 2 ^ k ∧ b < 2 ^ k :=
    ⟨a + b, Nat.lt_of_le_of_lt (Nat.le_add_right a b) Nat.lt_two_pow_self, Nat.lt_of_le_of_lt (Nat.le_add_left b a) Nat.lt_two_pow_self⟩
  rw [pc_pcn k _ (Nat.xor_lt_two_pow ha hb), pc_pcn k _ ha, pc_pcn k _ hb]
  exact pcn_xor a b k
theorem xor_div (a b k : Nat) : (a ^^^ b) / 2 ^ k = (a / 2 ^ k) ^^^ (b / 2 ^ k) := by
  rw [← Nat.shiftRight_eq_div_pow, ← Nat.shiftRight_eq_div_pow, ← Nat.shiftRight_eq_div_pow]
  exact Nat.shiftRight_xor_distrib
theorem swaps_left (a c b : Nat) : ∀ n, swaps (a ^^^ c) b n % 2 = (swaps a b n + swaps c b n) % 2 := by
  intro n
  induction n with
  | zero => rfl
  | succ n ih =>
    simp only [swaps]
    by_cases h : bit b n = 1
    · simp only [if_pos h]
      have := pc_xor (a / 2 ^ (n + 1)) (c / 2 ^ (n + 1))
      rw [xor_div]
      omega
    · simp only [if_neg h]; omega
theorem swaps_right (a b c : Nat) : ∀ n, swaps a (b ^^^ c) n % 2 = (swaps a b n + swaps a c n) % 2 := by
  intro n
  induction n with
  | zero => rfl
  | succ n ih =>
    simp only [swaps]
    rw [bit_xor]
    have h1 := bit_le b n
    have h2 := bit_le c n
    rcases (show bit b n = 0 ∨ bit b n = 1 by omega) with e1 | e1 <;> rcases (show bit c n = 0 ∨ bit c n = 1 by omega) with e2 | e2 <;> simp [e1, e2] <;> omega
/-- 1 or -1: the sign of a number of exchanges. -/
def sg (k : Nat) : Int := if k % 2 = 1 then -1 else 1
theorem sg_add (k l : Nat) : sg (k + l) = sg k * sg l := by
  unfold sg
  rcases Nat.mod_two_eq_zero_or_one k with h | h <;> rcases Nat.mod_two_eq_zero_or_one l with h' | h' <;> simp [Nat.add_mod, h, h']
theorem sg_congr {k l : Nat} (h : k % 2 = l % 2) : sg k = sg l := by unfold sg; rw [h]
theorem sg_two (k : Nat) : sg k * sg k = 1 := by
  unfold sg
  split <;> rfl
/-- The product of the first i squares that both masks have, as an integer. -/
def comZ (sq : List Int) (a b : Nat) : Nat → Int
  | 0 => 1
  | i + 1 => comZ sq a b i * (if bit b i = 1 ∧ bit a i = 1 then sq.getD i 0 else 1)
theorem common_comZ (p : Int) (sq : List Int) (a b : Nat) : ∀ i, common p sq a b i % p = comZ sq a b i % p := by
  intro i
  induction i with
  | zero => rfl
  | succ i ih =>
    simp only [common, comZ]
    split
    · rw [Int.emod_emod_of_dvd _ (Int.dvd_refl p), Int.mul_emod, ih, ← Int.mul_emod]
    · rw [Int.mul_one, ih]
theorem comZ_symm (sq : List Int) (a b : Nat) : ∀ i, comZ sq a b i = comZ sq b a i := by
  intro i
  induction i with
  | zero => rfl
  | succ i ih => simp only [comZ]; rw [ih]; congr 1; simp only [And.comm]
theorem comZ_cocycle (sq : List Int) (a b c : Nat) : ∀ i, comZ sq a b i * comZ sq (a ^^^ b) c i = comZ sq b c i * comZ sq a (b ^^^ c) i := by
  intro i
  induction i with
  | zero => rfl
  | succ i ih =>
    simp only [comZ]
    rw [bit_xor, bit_xor]
    have key : ∀ X Y Z W s t u v : Int, X * Y = Z * W → s * t = u * v → (X * s) * (Y * t) = (Z * u) * (W * v) := fun X Y Z W s t u v h1 h2 => by
      rw [show (X * s) * (Y * t) = (X * Y) * (s * t) by rw [Int.mul_assoc, Int.mul_left_comm s, ← Int.mul_assoc], h1, h2]
      rw [Int.mul_assoc, Int.mul_left_comm W, ← Int.mul_assoc]
    refine key _ _ _ _ _ _ _ _ ih ?_
    have h1 := bit_le a i
    have h2 := bit_le b i
    have h3 := bit_le c i
    rcases (show bit a i = 0 ∨ bit a i = 1 by omega) with e1 | e1 <;> rcases (show bit b i = 0 ∨ bit b i = 1 by omega) with e2 | e2 <;> rcases (show bit c i = 0 ∨ bit c i = 1 by omega) with e3 | e3 <;> simp [e1, e2, e3]
/-- The number by which the product of two blades is that of their different bits, as an integer. -/
def facZ (sq : List Int) (a b : Nat) : Int := sg (swaps a b sq.length) * comZ sq a b sq.length
theorem fac_facZ (p : Int) (sq : List Int) (a b : Nat) : fac p sq a b % p = facZ sq a b % p := by
  unfold fac facZ sg
  split
  · rw [Int.emod_emod_of_dvd _ (Int.dvd_refl p), Int.neg_mul, Int.one_mul, ← Int.zero_sub, ← Int.zero_sub, Int.sub_emod, common_comZ, ← Int.sub_emod]
  · rw [Int.one_mul, common_comZ]
theorem facZ_cocycle (sq : List Int) (a b c : Nat) : facZ sq a b * facZ sq (a ^^^ b) c = facZ sq b c * facZ sq a (b ^^^ c) := by
  unfold facZ
  have hs : sg (swaps a b sq.length) * sg (swaps (a ^^^ b) c sq.length) = sg (swaps b c sq.length) * sg (swaps a (b ^^^ c) sq.length) := by
    rw [← sg_add, ← sg_add]
    apply sg_congr
    have h1 := swaps_left a b c sq.length
    have h2 := swaps_right a b c sq.length
    omega
  have hc := comZ_cocycle sq a b c sq.length
  have key : ∀ X Y Z W s t u v : Int, X * Y = Z * W → s * t = u * v → (X * s) * (Y * t) = (Z * u) * (W * v) := fun X Y Z W s t u v h1 h2 => by
    rw [show (X * s) * (Y * t) = (X * Y) * (s * t) by rw [Int.mul_assoc, Int.mul_left_comm s, ← Int.mul_assoc], h1, h2]
    rw [Int.mul_assoc, Int.mul_left_comm W, ← Int.mul_assoc]
  exact key _ _ _ _ _ _ _ _ hs hc
theorem xor_self_left (a b : Nat) : a ^^^ (a ^^^ b) = b := by rw [← Nat.xor_assoc, Nat.xor_self, Nat.zero_xor]
theorem xor_self_right (a b : Nat) : (b ^^^ a) ^^^ a = b := by rw [Nat.xor_assoc, Nat.xor_self, Nat.xor_zero]
theorem sumTo_xor {n : Nat} (f : Nat → Int) {c : Nat} (hc : c < pw n) : sumTo (pw n) f = sumTo (pw n) fun a => f (a ^^^ c) := by
  have h : ∀ b, b < pw n → f b = sumTo (pw n) fun a => if a ^^^ c = b then f b else 0 := fun b hb => by
    rw [sumTo_one (b ^^^ c) (xor_lt hb hc) fun i _ hne => if_neg fun e => hne (by rw [← e, xor_self_right]), if_pos (xor_self_right c b)]
  rw [sumTo_congr h, sumTo_comm]
  refine sumTo_congr fun a ha => ?_
  rw [sumTo_one (a ^^^ c) (xor_lt ha hc) fun i _ hne => if_neg fun e => hne e.symm, if_pos rfl]
theorem sumTo_mul_right (n : Nat) (f : Nat → Int) (c : Int) : sumTo n (fun i => f i * c) = sumTo n f * c := by
  rw [Int.mul_comm, ← sumTo_mul]
  exact sumTo_congr fun i _ => Int.mul_comm _ _
/-- The product of multivectors over the integers, at place m. -/
def mulZ (sq : List Int) (x y : Nat → Int) (m : Nat) : Int := sumTo (pw sq.length) fun a => x a * y (a ^^^ m) * facZ sq a (a ^^^ m)
theorem mulZ_assoc (sq : List Int) (x y z : Nat → Int) {m : Nat} (hm : m < pw sq.length) : mulZ sq (mulZ sq x y) z m = mulZ sq x (mulZ sq y z) m := by
  unfold mulZ
  rw [sumTo_congr (g := fun c => sumTo (pw sq.length) fun a => x a * y (a ^^^ c) * facZ sq a (a ^^^ c) * (z (c ^^^ m) * facZ sq c (c ^^^ m))) fun c _ => by
    rw [sumTo_mul_right, Int.mul_assoc], sumTo_comm]
  refine sumTo_congr fun a ha => ?_
  rw [sumTo_xor _ ha, ← sumTo_mul, ← sumTo_mul_right]
  refine sumTo_congr fun b hb => ?_
  have e1 : a ^^^ (b ^^^ a) = b := by rw [Nat.xor_comm b, xor_self_left]
  have e2 : (b ^^^ a) ^^^ m = b ^^^ (a ^^^ m) := Nat.xor_assoc _ _ _
  rw [e1, e2]
  have h := facZ_cocycle sq a b (b ^^^ (a ^^^ m))
  rw [xor_self_left, Nat.xor_comm a b] at h
  calc x a * y b * facZ sq a b * (z (b ^^^ (a ^^^ m)) * facZ sq (b ^^^ a) (b ^^^ (a ^^^ m)))
      = x a * y b * z (b ^^^ (a ^^^ m)) * (facZ sq a b * facZ sq (b ^^^ a) (b ^^^ (a ^^^ m))) := by
        rw [Int.mul_assoc (x a * y b), Int.mul_left_comm (facZ sq a b), ← Int.mul_assoc]
    _ = x a * y b * z (b ^^^ (a ^^^ m)) * (facZ sq b (b ^^^ (a ^^^ m)) * facZ sq a (a ^^^ m)) := by rw [h]
    _ = _ := by
        rw [← Int.mul_assoc, Int.mul_assoc (x a), Int.mul_assoc (x a)]
theorem mulZ_cg (p : Int) (sq : List Int) {x x' y y' : Nat → Int} (hx : ∀ a, a < pw sq.length → x a % p = x' a % p) (hy : ∀ a, a < pw sq.length → y a % p = y' a % p) {m : Nat} (hm : m < pw sq.length) : mulZ sq x y m % p = mulZ sq x' y' m % p := by
  unfold mulZ
  refine sumTo_mod p fun a ha => ?_
  have h1 := hx a ha
  have h2 := hy _ (xor_lt ha hm)
  rw [Int.mul_emod, Int.mul_emod (x a), h1, h2, ← Int.mul_emod (x' a), ← Int.mul_emod]
structure Cl (p : Int) (sq : List Int) where
  l : List Int
  len : l.length = pw sq.length
  nums : NumsL p l
  pos : 0 < p
section
variable {p : Int} {sq : List Int}
/-- The number at a place. -/
def Cl.co (x : Cl p sq) (m : Nat) : Int := x.l.getD m 0
theorem Cl.ext {x y : Cl p sq} (h : x.l = y.l) : x = y := by
  cases x; cases y; cases h; rfl
theorem Cl.co_small (x : Cl p sq) (m : Nat) : 0 ≤ x.co m ∧ x.co m < p := x.nums.getD x.pos m
theorem Cl.co_mod (x : Cl p sq) (m : Nat) : x.co m % p = x.co m := Int.emod_eq_of_lt (x.co_small m).1 (x.co_small m).2
theorem Cl.same {x y : Cl p sq} (h : ∀ m, m < pw sq.length → x.co m % p = y.co m % p) : x = y := by
  refine Cl.ext (list_ext_getD 0 (by rw [x.len, y.len]) fun m hm => ?_)
  have := h m (by rw [← x.len]; exact hm)
  rwa [x.co_mod, y.co_mod] at this
/-- The multivector with these numbers. -/
def Cl.of (hp : 0 < p) (f : Nat → Int) : Cl p sq := ⟨tab (pw sq.length) fun m => f m % p, tab_len _ _, NumsL.tab fun _ _ => ⟨Int.emod_nonneg _ (by omega), Int.emod_lt_of_pos _ hp⟩, hp⟩
theorem Cl.of_co (hp : 0 < p) (f : Nat → Int) {m : Nat} (hm : m < pw sq.length) : (Cl.of hp f : Cl p sq).co m = f m % p := tab_getD hm 0
theorem Cl.of_cg (hp : 0 < p) (f : Nat → Int) {m : Nat} (hm : m < pw sq.length) : (Cl.of hp f : Cl p sq).co m % p = f m % p := by rw [Cl.of_co hp f hm, Int.emod_emod_of_dvd _ (Int.dvd_refl p)]
instance : Mul (Cl p sq) := ⟨fun x y => Cl.of x.pos (mulZ sq x.co y.co)⟩
instance : Add (Cl p sq) := ⟨fun x y => Cl.of x.pos fun m => x.co m + y.co m⟩
instance : Neg (Cl p sq) := ⟨fun x => Cl.of x.pos fun m => -(x.co m)⟩
instance : HMul Int (Cl p sq) (Cl p sq) := ⟨fun k x => Cl.of x.pos fun m => k * x.co m⟩
theorem Cl.mul_co (x y : Cl p sq) {m : Nat} (hm : m < pw sq.length) : (x * y).co m % p = mulZ sq x.co y.co m % p := Cl.of_cg _ _ hm
theorem Cl.add_co (x y : Cl p sq) {m : Nat} (hm : m < pw sq.length) : (x + y).co m % p = (x.co m + y.co m) % p := Cl.of_cg _ _ hm
theorem Cl.mul_assoc (x y z : Cl p sq) : x * y * z = x * (y * z) := Cl.same fun m hm => by
  rw [Cl.mul_co _ _ hm, Cl.mul_co _ _ hm, mulZ_cg p sq (fun a ha => Cl.mul_co x y ha) (fun _ _ => rfl) hm, mulZ_assoc sq _ _ _ hm]
  exact mulZ_cg p sq (fun _ _ => rfl) (fun a ha => (Cl.mul_co y z ha).symm) hm
theorem Cl.add_mul (x y z : Cl p sq) : (x + y) * z = x * z + y * z := Cl.same fun m hm => by
  rw [Cl.mul_co _ _ hm, mulZ_cg p sq (fun a ha => Cl.add_co x y ha) (fun _ _ => rfl) hm, Cl.add_co _ _ hm, Int.add_emod, Cl.mul_co _ _ hm, Cl.mul_co _ _ hm, ← Int.add_emod]
  unfold mulZ
  rw [← sumTo_add]
  congr 1
  exact sumTo_congr fun a _ => by rw [Int.add_mul, Int.add_mul]
theorem Cl.mul_add (x y z : Cl p sq) : x * (y + z) = x * y + x * z := Cl.same fun m hm => by
  rw [Cl.mul_co _ _ hm, mulZ_cg p sq (fun _ _ => rfl) (fun a ha => Cl.add_co y z ha) hm, Cl.add_co _ _ hm, Int.add_emod, Cl.mul_co _ _ hm, Cl.mul_co _ _ hm, ← Int.add_emod]
  unfold mulZ
  rw [← sumTo_add]
  congr 1
  exact sumTo_congr fun a _ => by rw [Int.mul_add, Int.add_mul]
theorem Cl.add_comm (x y : Cl p sq) : x + y = y + x := Cl.same fun m hm => by rw [Cl.add_co _ _ hm, Cl.add_co _ _ hm, Int.add_comm]
theorem Cl.add_assoc (x y z : Cl p sq) : x + y + z = x + (y + z) := Cl.same fun m hm => by
  rw [Cl.add_co _ _ hm, Cl.add_co _ _ hm, Int.add_emod, Cl.add_co _ _ hm, ← Int.add_emod, Int.add_emod (x.co m), Cl.add_co _ _ hm, ← Int.add_emod, Int.add_assoc]
/-- The numbers of a list, and no more than there are places. -/
def Cl.zero (hp : 0 < p) : Cl p sq := Cl.of hp fun _ => 0
theorem Cl.add_zero (x : Cl p sq) (hp : 0 < p) : x + Cl.zero hp = x := Cl.same fun m hm => by
  rw [Cl.add_co _ _ hm, Int.add_emod]; unfold Cl.zero; rw [Cl.of_cg _ _ hm, ← Int.add_emod, Int.add_zero]
/-- The multivector 1. -/
def Cl.one (hp : 0 < p) : Cl p sq := Cl.of hp fun m => if m = 0 then 1 else 0
theorem Cl.one_co (hp : 0 < p) {m : Nat} (hm : m < pw sq.length) : (Cl.one hp : Cl p sq).co m % p = (if m = 0 then 1 else 0) % p := Cl.of_cg _ _ hm
theorem swaps_zero_right (a : Nat) : ∀ n, swaps a 0 n = 0 := by
  intro n
  induction n with
  | zero => rfl
  | succ n ih => simp [swaps, ih, bit_zero]
theorem swaps_zero_left (b : Nat) : ∀ n, swaps 0 b n = 0 := by
  intro n
  induction n with
  | zero => rfl
  | succ n ih => simp [swaps, ih, pc_zero]
theorem comZ_zero_left (sq : List Int) (b : Nat) : ∀ n, comZ sq 0 b n = 1 := by
  intro n
  induction n with
  | zero => rfl
  | succ n ih => simp [comZ, ih, bit_zero]
theorem facZ_zero_left (sq : List Int) (b : Nat) : facZ sq 0 b = 1 := by unfold facZ; rw [swaps_zero_left, comZ_zero_left]; rfl
theorem facZ_zero_right (sq : List Int) (a : Nat) : facZ sq a 0 = 1 := by unfold facZ; rw [swaps_zero_right, comZ_symm, comZ_zero_left]; rfl
theorem mulZ_one_left (sq : List Int) (x : Nat → Int) (m : Nat) : mulZ sq (fun m => if m = 0 then 1 else 0) x m = x m := by
  unfold mulZ
  rw [sumTo_one 0 (pw_pos _) fun i _ h => by dsimp only; rw [if_neg h, Int.zero_mul, Int.zero_mul]]
  dsimp only
  rw [if_pos rfl, Nat.zero_xor, facZ_zero_left, Int.one_mul, Int.mul_one]
theorem mulZ_one_right (sq : List Int) (x : Nat → Int) {m : Nat} (hm : m < pw sq.length) : mulZ sq x (fun m => if m = 0 then 1 else 0) m = x m := by
  unfold mulZ
  rw [sumTo_one m hm fun i _ h => by dsimp only; rw [if_neg (fun e => h (by have := (xor_eq_iff i m 0).1 e; rw [this, Nat.xor_zero])), Int.mul_zero, Int.zero_mul]]
  dsimp only
  rw [Nat.xor_self, if_pos rfl, facZ_zero_right, Int.mul_one, Int.mul_one]
theorem Cl.one_mul (hp : 0 < p) (x : Cl p sq) : Cl.one hp * x = x := Cl.same fun m hm => by
  rw [Cl.mul_co _ _ hm, mulZ_cg p sq (fun a ha => Cl.one_co hp ha) (fun _ _ => rfl) hm, mulZ_one_left]
theorem Cl.mul_one (hp : 0 < p) (x : Cl p sq) : x * Cl.one hp = x := Cl.same fun m hm => by
  rw [Cl.mul_co _ _ hm, mulZ_cg p sq (fun _ _ => rfl) (fun a ha => Cl.one_co hp ha) hm, mulZ_one_right sq _ hm]
theorem mulL_co {n : Nat} (hn : sq.length = n) {xs ys : List Int} (hx : xs.length = pw n) (hy : ys.length = pw n) {m : Nat} (hm : m < pw n) : (mulL p sq xs ys).getD m 0 % p = mulZ sq (fun a => xs.getD a 0) (fun a => ys.getD a 0) m % p := by
  subst hn
  unfold mulL
  rw [prodL_getD p sq _ xs ys _ m hx hy hm, Int.emod_emod_of_dvd _ (Int.dvd_refl p)]
  unfold mulZ
  refine sumTo_mod p fun a _ => ?_
  unfold term
  rw [if_pos rfl, Int.mul_emod, fac_facZ, ← Int.mul_emod]
theorem Cl.mul_l (x y : Cl p sq) : (x * y).l = mulL p sq x.l y.l := by
  refine list_ext_getD 0 (by rw [(x * y).len, mulL_len, x.len]) fun m hm => ?_
  rw [(x * y).len] at hm
  have h1 := (x * y).co_mod m
  have h2 := Cl.mul_co x y hm
  have h3 := mulL_co (p := p) rfl x.len y.len hm
  have h4 := (mulL_nums x.pos sq x.l y.l).getD x.pos m
  rw [Int.emod_eq_of_lt h4.1 h4.2] at h3
  rw [h3]
  rw [h1] at h2
  exact h2
end
end Go.Proofs.YtggigolkncckoaaGreat
namespace Go.Proofs.YtggigolkncckoaaGreat
def swn (a b : Nat) : Nat → Nat
  | 0 => 0
  | i + 1 => swn a b i + (if bit b i = 1 then pcn (a / 2 ^ (i + 1)) 6 else 0)
def rvn (k : Nat) : Nat := k * (k - 1) / 2
theorem rev_all : ∀ a : Nat, a < 64 → ∀ b : Nat, b < 64 → (swn a b 6 + swn b a 6 + rvn (pcn a 6) + rvn (pcn b 6) + rvn (pcn (a ^^^ b) 6)) % 2 = 0 := by decide +kernel
theorem swaps_swn {a b : Nat} (ha : a < 64) : ∀ n, swaps a b n = swn a b n := by
  intro n
  induction n with
  | zero => rfl
  | succ n ih =>
    simp only [swaps, swn]
    rw [ih, pc_pcn 6 _ (Nat.lt_of_le_of_lt (Nat.div_le_self _ _) (by simpa using ha))]
theorem bit_high {b n i : Nat} (hb : b < 2 ^ n) (h : n ≤ i) : bit b i = 0 := by
  unfold bit
  rw [Nat.div_eq_of_lt (Nat.lt_of_lt_of_le hb (Nat.pow_le_pow_right (by decide) h))]
theorem swaps_more {a b n : Nat} (hb : b < 2 ^ n) : ∀ k, swaps a b (n + k) = swaps a b n := by
  intro k
  induction k with
  | zero => rfl
  | succ k ih =>
    rw [← Nat.add_assoc]
    simp only [swaps]
    rw [ih, bit_high hb (by omega)]
    rfl
theorem swaps_six {a b n : Nat} (hn : n ≤ 6) (ha : a < pw n) (hb : b < pw n) : swaps a b n = swn a b 6 := by
  have h64 : a < 64 := Nat.lt_of_lt_of_le ha (pw_le (k := 6) hn)
  rw [← swaps_swn h64, show 6 = n + (6 - n) by omega, swaps_more hb]
/-- The sign of a blade when it is reversed, and when it is involuted. -/
def sgR (a : Nat) : Int := if revT (pc a) then -1 else 1
def sgI (a : Nat) : Int := if oddT (pc a) then -1 else 1
theorem sgR_sg (a : Nat) : sgR a = sg (rvn (pc a)) := by
  unfold sgR sg revT rvn
  simp only [beq_iff_eq]
theorem sgI_sg (a : Nat) : sgI a = sg (pc a) := by
  unfold sgI sg oddT
  simp only [beq_iff_eq]
theorem sgI_xor (a b : Nat) : sgI (a ^^^ b) = sgI a * sgI b := by
  rw [sgI_sg, sgI_sg, sgI_sg, ← sg_add]
  exact sg_congr (pc_xor a b)
theorem facZ_rev {sq : List Int} (hn : sq.length ≤ 6) {a b : Nat} (ha : a < pw sq.length) (hb : b < pw sq.length) : sgR (a ^^^ b) * facZ sq a b = sgR b * sgR a * facZ sq b a := by
  have h64 : ∀ {x}, x < pw sq.length → x < 64 := fun h => Nat.lt_of_lt_of_le h (pw_le (k := 6) hn)
  unfold facZ
  rw [comZ_symm sq b a, ← Int.mul_assoc, ← Int.mul_assoc]
  congr 1
  rw [sgR_sg, sgR_sg, sgR_sg, ← sg_add, ← sg_add, ← sg_add]
  apply sg_congr
  rw [swaps_six hn ha hb, swaps_six hn hb ha, pc_pcn 6 a (h64 ha), pc_pcn 6 b (h64 hb), pc_pcn 6 _ (h64 (xor_lt ha hb))]
  have := rev_all a (h64 ha) b (h64 hb)
  omega
section
variable {p : Int} {sq : List Int}
def Cl.rev (x : Cl p sq) : Cl p sq := Cl.of x.pos fun m => sgR m * x.co m
def Cl.invo (x : Cl p sq) : Cl p sq := Cl.of x.pos fun m => sgI m * x.co m
theorem Cl.rev_co (x : Cl p sq) {m : Nat} (hm : m < pw sq.length) : x.rev.co m % p = (sgR m * x.co m) % p := Cl.of_cg _ _ hm
theorem Cl.invo_co (x : Cl p sq) {m : Nat} (hm : m < pw sq.length) : x.invo.co m % p = (sgI m * x.co m) % p := Cl.of_cg _ _ hm
theorem Cl.rev_mul (hn : sq.length ≤ 6) (x y : Cl p sq) : (x * y).rev = y.rev * x.rev := Cl.same fun m hm => by
  rw [Cl.rev_co _ hm, Int.mul_emod, Cl.mul_co _ _ hm, ← Int.mul_emod, Cl.mul_co _ _ hm, mulZ_cg p sq (fun a ha => Cl.rev_co y ha) (fun a ha => Cl.rev_co x ha) hm]
  unfold mulZ
  rw [sumTo_xor (fun a => sgR a * y.co a * (sgR (a ^^^ m) * x.co (a ^^^ m)) * facZ sq a (a ^^^ m)) hm, ← sumTo_mul]
  congr 1
  refine sumTo_congr fun a ha => ?_
  have h := facZ_rev hn ha (xor_lt ha hm)
  rw [xor_self_left] at h
  rw [xor_self_right]
  calc sgR m * (x.co a * y.co (a ^^^ m) * facZ sq a (a ^^^ m)) = x.co a * y.co (a ^^^ m) * (sgR m * facZ sq a (a ^^^ m)) := by rw [Int.mul_left_comm]
    _ = x.co a * y.co (a ^^^ m) * (sgR (a ^^^ m) * sgR a * facZ sq (a ^^^ m) a) := by rw [h]
    _ = _ := by
      rw [← Int.mul_assoc]
      congr 1
      generalize x.co a = X
      generalize y.co (a ^^^ m) = Y
      generalize sgR a = S
      generalize sgR (a ^^^ m) = T
      rw [Int.mul_comm X Y, Int.mul_comm T Y, Int.mul_assoc, Int.mul_assoc, Int.mul_left_comm X, Int.mul_comm X S]
theorem Cl.invo_mul (x y : Cl p sq) : (x * y).invo = x.invo * y.invo := Cl.same fun m hm => by
  rw [Cl.invo_co _ hm, Int.mul_emod, Cl.mul_co _ _ hm, ← Int.mul_emod, Cl.mul_co _ _ hm, mulZ_cg p sq (fun a ha => Cl.invo_co x ha) (fun a ha => Cl.invo_co y ha) hm]
  unfold mulZ
  rw [← sumTo_mul]
  congr 1
  refine sumTo_congr fun a _ => ?_
  have h := sgI_xor a (a ^^^ m)
  rw [xor_self_left] at h
  rw [h]
  show _ = sgI a * x.co a * (sgI (a ^^^ m) * y.co (a ^^^ m)) * _
  generalize x.co a = X
  generalize y.co (a ^^^ m) = Y
  generalize sgI a = S
  generalize sgI (a ^^^ m) = T
  rw [← Int.mul_assoc]
  congr 1
  rw [Int.mul_assoc, Int.mul_assoc, Int.mul_left_comm T]
theorem sgR_two (a : Nat) : sgR a * sgR a = 1 := by rw [sgR_sg, sg_two]
theorem sgI_two (a : Nat) : sgI a * sgI a = 1 := by rw [sgI_sg, sg_two]
theorem Cl.rev_rev (x : Cl p sq) : x.rev.rev = x := Cl.same fun m hm => by
  rw [Cl.rev_co _ hm, Int.mul_emod, Cl.rev_co _ hm, ← Int.mul_emod, ← Int.mul_assoc, sgR_two, Int.one_mul]
theorem Cl.invo_invo (x : Cl p sq) : x.invo.invo = x := Cl.same fun m hm => by
  rw [Cl.invo_co _ hm, Int.mul_emod, Cl.invo_co _ hm, ← Int.mul_emod, ← Int.mul_assoc, sgI_two, Int.one_mul]
theorem Cl.sgn_l (x : Cl p sq) (t : Nat → Bool) : (Cl.of x.pos fun m => (if t (pc m) then -1 else 1) * x.co m : Cl p sq).l = sgnL p t x.l := by
  refine list_ext_getD 0 (by rw [Cl.len, sgnL_len, x.len]) fun m hm => ?_
  rw [Cl.len] at hm
  rw [sgnL_getD (by rw [x.len]; exact hm)]
  show (Cl.of _ _ : Cl p sq).co m = _
  rw [Cl.of_co _ _ hm]
  split
  · rw [Int.neg_mul, Int.one_mul]; rfl
  · rw [Int.one_mul, x.co_mod]; rfl
theorem Cl.rev_l (x : Cl p sq) : x.rev.l = revL p x.l := x.sgn_l revT
theorem Cl.invo_l (x : Cl p sq) : x.invo.l = invoL p x.l := x.sgn_l oddT
end
end Go.Proofs.YtggigolkncckoaaGreat
namespace Go.Proofs.YtggigolkncckoaaGreat
section
variable {P : Int} {sq xs ys : List Int}
theorem revL_mulL (h6 : sq.length ≤ 6) (hp : 0 < P) (hx : xs.length = pw sq.length) (hxs : NumsL P xs) (hy : ys.length = pw sq.length) (hys : NumsL P ys) : revL P (mulL P sq xs ys) = mulL P sq (revL P ys) (revL P xs) := by
  have h := congrArg Cl.l (Cl.rev_mul h6 (⟨xs, hx, hxs, hp⟩ : Cl P sq) ⟨ys, hy, hys, hp⟩)
  rwa [Cl.rev_l, Cl.mul_l, Cl.mul_l, Cl.rev_l, Cl.rev_l] at h
theorem invoL_mulL (hp : 0 < P) (hx : xs.length = pw sq.length) (hxs : NumsL P xs) (hy : ys.length = pw sq.length) (hys : NumsL P ys) : invoL P (mulL P sq xs ys) = mulL P sq (invoL P xs) (invoL P ys) := by
  have h := congrArg Cl.l (Cl.invo_mul (⟨xs, hx, hxs, hp⟩ : Cl P sq) ⟨ys, hy, hys, hp⟩)
  rwa [Cl.invo_l, Cl.mul_l, Cl.mul_l, Cl.invo_l, Cl.invo_l] at h
theorem revL_revL (hp : 0 < P) (hx : xs.length = pw sq.length) (hxs : NumsL P xs) : revL P (revL P xs) = xs := by
  have h := congrArg Cl.l (Cl.rev_rev (⟨xs, hx, hxs, hp⟩ : Cl P sq))
  rwa [Cl.rev_l, Cl.rev_l] at h
theorem invoL_invoL (hp : 0 < P) (hx : xs.length = pw sq.length) (hxs : NumsL P xs) : invoL P (invoL P xs) = xs := by
  have h := congrArg Cl.l (Cl.invo_invo (⟨xs, hx, hxs, hp⟩ : Cl P sq))
  rwa [Cl.invo_l, Cl.invo_l] at h
end
/-- The parts of xs of the grades below k, together. -/
def uptoG (xs : List Int) (k : Nat) : List Int := tab xs.length fun i => if pc i < k then xs.getD i 0 else 0
theorem uptoG_len (xs : List Int) (k : Nat) : (uptoG xs k).length = xs.length := tab_len _ _
theorem uptoG_nums {p : Int} (hp : 0 < p) {xs : List Int} (h : NumsL p xs) (k : Nat) : NumsL p (uptoG xs k) := NumsL.tab fun i _ => by
  split
  · exact h.getD hp i
  · omega
theorem uptoG_zero (xs : List Int) : uptoG xs 0 = List.replicate xs.length 0 := by
  refine list_ext_getD 0 (by simp [uptoG_len]) fun i hi => ?_
  rw [uptoG_len] at hi
  unfold uptoG
  rw [tab_getD hi]
  simp [hi]
theorem uptoG_succ {p : Int} (hp : 0 < p) {xs : List Int} (h : NumsL p xs) (k : Nat) : plusL p (uptoG xs k) (partG xs k) 1 = uptoG xs (k + 1) := by
  refine list_ext_getD 0 (by rw [plusL_len, uptoG_len, uptoG_len]) fun i hi => ?_
  rw [plusL_len, uptoG_len] at hi
  obtain ⟨h1, h2⟩ := h.getD hp i
  unfold plusL
  rw [uptoG_len, tab_getD hi, partG_getD hi]
  unfold uptoG
  rw [tab_getD hi, tab_getD hi]
  by_cases e : pc i = k
  · rw [if_neg (by omega), if_pos e, if_pos (by omega), Int.zero_add, Int.one_mul]
    exact Int.emod_eq_of_lt h1 h2
  · rw [if_neg e]
    by_cases g : pc i < k
    · rw [if_pos g, if_pos (by omega), Int.mul_zero, Int.add_zero]
      exact Int.emod_eq_of_lt h1 h2
    · rw [if_neg g, if_neg (by omega)]
      simp
theorem uptoG_all {xs : List Int} {n : Nat} (h6 : n ≤ 6) (hl : xs.length = pw n) : uptoG xs (n + 1) = xs := by
  refine list_ext_getD 0 (uptoG_len _ _) fun i hi => ?_
  rw [uptoG_len] at hi
  unfold uptoG
  rw [tab_getD hi, if_pos (by have := pc_le n i (show i < pw n from hl ▸ hi); omega)]
theorem partG_zero_iff (xs : List Int) (hl : xs.length ≤ 64) (k : Nat) : (∀ y ∈ partG xs k, y = 0) ↔ ¬ ((k : Nat) : Int) ∈ gradesL xs := by
  rw [gradesL_mem xs hl]
  constructor
  · rintro h ⟨i, hi, hne, e⟩
    refine hne ?_
    have e2 : pc i = k := by omega
    have hm : (partG xs k).getD i 0 ∈ partG xs k := by
      rw [getD_of_lt 0 (by rw [partG_len]; exact hi)]
      exact List.getElem_mem _
    have := h _ hm
    rwa [partG_getD hi, if_pos e2] at this
  · intro h y hy
    unfold partG at hy
    obtain ⟨i, hi, rfl⟩ := tab_mem hy
    by_cases e : pc i = k
    · rw [if_pos e]
      refine Classical.byContradiction fun hne => h ⟨i, hi, hne, by rw [e]⟩
    · rw [if_neg e]
theorem codeM_mk {P : Int} {sq : List Int} {ms : List (List Int)} (h1 : isSp P sq = true) (h : ∀ ys ∈ ms, ys.length = pw sq.length ∧ NumsL P ys) : codeM P sq ms = 0 := by
  unfold codeM
  rw [if_pos h1, if_neg]
  intro hh
  obtain ⟨ys, hy, e⟩ := List.any_eq_true.1 hh
  obtain ⟨h2, h3⟩ := h ys hy
  have h4 : isMu P sq ys = true := by
    unfold isMu nums
    rw [h2, Bool.and_eq_true]
    refine ⟨by simp, List.all_eq_true.2 fun x hx => ?_⟩
    have := h3 x hx
    simp [inR]
    omega
  rw [h4] at e
  simp at e
end Go.Proofs.YtggigolkncckoaaGreat
namespace Go.Proofs.YtggigolkncckoaaGreat
open Go.RowKit
theorem brR_len (P : Int) (sq xs ys : List Int) : (brR P sq xs ys).1.length ≤ 64 := by
  by_cases h : codeM P sq [xs, ys] = 0
  · rw [brR_ok h]
    show (brkL P sq sq.length xs ys).length ≤ 64
    unfold brkL
    rw [plusL_len, timesL_len]
    exact pw_le (codeM_spec2 h).2.2.2.2.1
  · rw [brR_bad h]; simp
set_option maxHeartbeats 6400000 in
set_option maxRecDepth 8000 in
theorem FnReversals_any (B : Option Addr) (nb cb : Nat) (bs : List Int) (w : World) (r : Rd w B nb (bs.map (Value.int .u8))) (hbs : ∀ b ∈ bs, 0 ≤ b ∧ b < 256) (hbg : ∀ a, B = some a → a.block < w.heap.size) :
    Calls Tryz.prog 3 #[.slice B nb cb] w fun e w' => e = .returned (.bool true) ∧ Below w.heap.size w w' := by
  have hbig := big_any B nb cb w
  by_cases hbb : 4096 < nb
  · rw [decide_eq_true hbb] at hbig
    go_enter Tryz.func3, Tryz.ntmps3
    go_wp2_with fail
    refine hbig.mono ?_
    rintro e w1 ⟨rfl, rfl⟩
    go_wp2
    go_ret
    exact ⟨rfl, Below.refl _ _⟩
  · rw [decide_eq_false hbb] at hbig
    have hdr := DrawBracketOf_any B nb cb bs w (by omega) r hbs hbg
    go_enter Tryz.func3, Tryz.ntmps3
    go_wp2_with fail
    refine hbig.mono ?_
    rintro e w1 ⟨rfl, rfl⟩
    go_wp2_with fail
    refine hdr.mono ?_
    rintro e w2 ⟨P, A, n, c, sq, A1, m1, c1, xs, A2, m2, c2, ys, rfl, hP, hn, h1, h2, ho, hx, hy, hb2⟩
    have hcx : m1 ≤ c1 := hx.cap
    have hcy : m2 ≤ c2 := hy.cap
    have hA : Below w2.heap.size w2 (w2.alloc (.cells #[.int .i64 P, .slice A n c] 26)) := (Below.refl _ _).alloc (Nat.le_refl _) _
    have k3 : Blk (w2.alloc (.cells #[.int .i64 P, .slice A n c] 26)) w2.heap.size 26 #[.int .i64 P, .slice A n c] := Blk.new _ _ _
    have hB3 := hb2.alloc (o := .cells #[.int .i64 P, .slice A n c] 26) hb2.size
    have o3 := (ho.below (w' := w2.alloc (.cells #[.int .i64 P, .slice A n c] 26)) (hA.mono (by first | exact hb2.size | exact Nat.le_refl _))).rd
    have x3 := (hx.below (hA.mono (by first | exact hb2.size | exact Nat.le_refl _))).rd
    have y3 := (hy.below (hA.mono (by first | exact hb2.size | exact Nat.le_refl _))).rd
    obtain ⟨w3, hw3⟩ : ∃ W, W = w2.alloc (.cells #[.int .i64 P, .slice A n c] 26) := ⟨_, rfl⟩
    have hb1 := BracketOf_any P A n c sq A1 m1 c1 xs A2 m2 c2 ys w3 (by omega) (by omega) (by omega) (hw3 ▸ o3) (hw3 ▸ x3) hcx (hw3 ▸ y3) hcy
    obtain ⟨q0, q1⟩ := k3.two
    clear hbig hdr ho hx hy hb2 r
    go_wp2_with fail
    rw [← hw3] at k3 hB3 o3 x3 y3 ⊢
    clear hw3
    refine hb1.mono ?_
    rintro e w4 ⟨A4, m4, c4, rfl, hM4⟩
    have hB4 : Below w3.heap.size w3 w4 := hM4.b
    have k4 := k3.below hB4 k3.lt
    have hb2 := sBracketOf_any P A n c sq A1 m1 c1 xs A2 m2 c2 ys w4 (by omega) (by omega) (by omega) (o3.below hB4) (x3.below hB4) hcx (y3.below hB4) hcy
    clear q0 q1 hb1
    obtain ⟨q0, q1⟩ := k4.two
    go_wp2_with fail
    refine hb2.mono ?_
    rintro e w5 ⟨A5, m5, c5, rfl, hM5⟩
    have hB5 := hB4.trans (hM5.b.mono hB4.size)
    have hlen := brR_len P sq xs ys
    have r4 := (hM4.below hM5.b).rd
    have r5 := hM5.rd
    have l4 := r4.lenI
    have l5 := r5.lenI
    have hl := likeInts_any A4 A5 m4 m5 c4 c5 _ _ w5 (by omega) (by omega) r4 r5
    rw [decide_eq_true rfl] at hl
    have e0 : ((brR P sq xs ys).2 != (brR P sq xs ys).2) = false := by simp
    clear q0 q1 hb2 hM4 hM5 r4 r5 l4 l5 hlen
    go_wp2_with fail
    refine hl.mono ?_
    rintro e w6 ⟨rfl, jj, rfl⟩
    have hB6 : Below w.heap.size w (w5.drewN jj) := below_drewN (hB3.trans (hB5.mono hB3.size)) jj
    have hB56 := below_drewN hB5 jj
    have k6 := k3.below hB56 k3.lt
    by_cases hc : codeM P sq [xs, ys] = 0
    · have e1 : ((brR P sq xs ys).2 != 0) = false := by rw [brR_ok hc]; rfl
      obtain ⟨HP, hp, hp2, hd1, hd2, hs0, hms⟩ := codeM_spec2 hc
      obtain ⟨hx1, hxs0⟩ := hms xs (by simp)
      obtain ⟨hy1, hys0⟩ := hms ys (by simp)
      have hcap := hcx
      have ot := o3.below hB56
      have rx := x3.below hB56
      have ry := y3.below hB56
      obtain ⟨q0, q1⟩ := k6.two
      have ht := times5_ok P A n c sq A1 m1 c1 xs A2 m2 c2 ys _ (by omega) (by omega) (by omega) ot rx hcx ry hcy hc
      clear hms
      go_wp2_with fail
      refine ht.mono ?_
      rintro e w7 ⟨Az, cz, rfl, hMz⟩
      have HSP := (codeM_sp hc).1
      have hnl := o3.lenI
      have hpw : pw n ≤ 64 := pw_le (show n ≤ 6 by omega)
      have l_x := hx1
      have l_y := hy1
      have u_x := hxs0
      have u_y := hys0
      have r_x := rx.below hMz.b
      have r_y := ry.below hMz.b
      have r_z := hMz.rd
      have i_x := hcx
      have i_y := hcy
      have i_z := hMz.2.cap
      have l_z : (mulL P sq xs ys).length = pw sq.length := by unfold mulL; rw [prodL_len]; exact hx1
      have u_z := mulL_nums (show 0 < P by omega) sq xs ys
      have hW : Below w3.heap.size w3 w7 := hB56.trans (hMz.b.mono hB56.size)
      clear q0 q1 rx ry ot ht hl hMz hx1 hy1 hxs0 hys0 k6 hB6 hB56
      have kk := k3.below hW k3.lt
      obtain ⟨q0, q1⟩ := kk.two
      have hcall := ReverseOf_ok P A n c sq A1 m1 c1 xs w7 (by omega) (by omega) (o3.below hW) r_x i_x (codeM_mk HSP (all_one ⟨l_x, u_x⟩))
      clear kk
      go_wp2_with fail
      refine hcall.mono ?_
      rintro e w_a ⟨A_a, c_a, rfl, hM⟩
      replace r_x := r_x.below hM.b
      replace r_y := r_y.below hM.b
      replace r_z := r_z.below hM.b
      have r_a := hM.rd
      have i_a := hM.2.cap
      have l_a : (revL P xs).length = pw sq.length := (sgnL_len _ _ _).trans l_x
      have u_a : NumsL P (revL P xs) := sgnL_nums (by omega) _ u_x
      replace hW := hW.trans (hM.b.mono hW.size)
      clear hcall hM q0 q1
      have kk := k3.below hW k3.lt
      obtain ⟨q0, q1⟩ := kk.two
      have hcall := ReverseOf_ok P A n c sq A2 m2 c2 ys w_a (by omega) (by omega) (o3.below hW) r_y i_y (codeM_mk HSP (all_one ⟨l_y, u_y⟩))
      clear kk
      go_wp2_with fail
      refine hcall.mono ?_
      rintro e w_b ⟨A_b, c_b, rfl, hM⟩
      replace r_x := r_x.below hM.b
      replace r_y := r_y.below hM.b
      replace r_z := r_z.below hM.b
      replace r_a := r_a.below hM.b
      have r_b := hM.rd
      have i_b := hM.2.cap
      have l_b : (revL P ys).length = pw sq.length := (sgnL_len _ _ _).trans l_y
      have u_b : NumsL P (revL P ys) := sgnL_nums (by omega) _ u_y
      replace hW := hW.trans (hM.b.mono hW.size)
      clear hcall hM q0 q1
      have kk := k3.below hW k3.lt
      obtain ⟨q0, q1⟩ := kk.two
      have hcall := ReverseOf_ok P A n c sq Az (pw n) cz (mulL P sq xs ys) w_b (by omega) (by omega) (o3.below hW) r_z i_z (codeM_mk HSP (all_one ⟨l_z, u_z⟩))
      clear kk
      go_wp2_with fail
      refine hcall.mono ?_
      rintro e w_c ⟨A_c, c_c, rfl, hM⟩
      replace r_x := r_x.below hM.b
      replace r_y := r_y.below hM.b
      replace r_z := r_z.below hM.b
      replace r_a := r_a.below hM.b
      replace r_b := r_b.below hM.b
      have r_c := hM.rd
      have i_c := hM.2.cap
      have l_c : (revL P (mulL P sq xs ys)).length = pw sq.length := (sgnL_len _ _ _).trans l_z
      have u_c : NumsL P (revL P (mulL P sq xs ys)) := sgnL_nums (by omega) _ u_z
      replace hW := hW.trans (hM.b.mono hW.size)
      clear hcall hM q0 q1
      have kk := k3.below hW k3.lt
      obtain ⟨q0, q1⟩ := kk.two
      have hcall := InvoluteOf_ok P A n c sq A1 m1 c1 xs w_c (by omega) (by omega) (o3.below hW) r_x i_x (codeM_mk HSP (all_one ⟨l_x, u_x⟩))
      clear kk
      go_wp2_with fail
      refine hcall.mono ?_
      rintro e w_e ⟨A_e, c_e, rfl, hM⟩
      replace r_x := r_x.below hM.b
      replace r_y := r_y.below hM.b
      replace r_z := r_z.below hM.b
      replace r_a := r_a.below hM.b
      replace r_b := r_b.below hM.b
      replace r_c := r_c.below hM.b
      have r_e := hM.rd
      have i_e := hM.2.cap
      have l_e : (invoL P xs).length = pw sq.length := (sgnL_len _ _ _).trans l_x
      have u_e : NumsL P (invoL P xs) := sgnL_nums (by omega) _ u_x
      replace hW := hW.trans (hM.b.mono hW.size)
      clear hcall hM q0 q1
      have kk := k3.below hW k3.lt
      obtain ⟨q0, q1⟩ := kk.two
      have hcall := InvoluteOf_ok P A n c sq A2 m2 c2 ys w_e (by omega) (by omega) (o3.below hW) r_y i_y (codeM_mk HSP (all_one ⟨l_y, u_y⟩))
      clear kk
      go_wp2_with fail
      refine hcall.mono ?_
      rintro e w_f ⟨A_f, c_f, rfl, hM⟩
      replace r_x := r_x.below hM.b
      replace r_y := r_y.below hM.b
      replace r_z := r_z.below hM.b
      replace r_a := r_a.below hM.b
      replace r_b := r_b.below hM.b
      replace r_c := r_c.below hM.b
      replace r_e := r_e.below hM.b
      have r_f := hM.rd
      have i_f := hM.2.cap
      have l_f : (invoL P ys).length = pw sq.length := (sgnL_len _ _ _).trans l_y
      have u_f : NumsL P (invoL P ys) := sgnL_nums (by omega) _ u_y
      replace hW := hW.trans (hM.b.mono hW.size)
      clear hcall hM q0 q1
      have kk := k3.below hW k3.lt
      obtain ⟨q0, q1⟩ := kk.two
      have hcall := InvoluteOf_ok P A n c sq Az (pw n) cz (mulL P sq xs ys) w_f (by omega) (by omega) (o3.below hW) r_z i_z (codeM_mk HSP (all_one ⟨l_z, u_z⟩))
      clear kk
      go_wp2_with fail
      refine hcall.mono ?_
      rintro e w_g ⟨A_g, c_g, rfl, hM⟩
      replace r_x := r_x.below hM.b
      replace r_y := r_y.below hM.b
      replace r_z := r_z.below hM.b
      replace r_a := r_a.below hM.b
      replace r_b := r_b.below hM.b
      replace r_c := r_c.below hM.b
      replace r_e := r_e.below hM.b
      replace r_f := r_f.below hM.b
      have r_g := hM.rd
      have i_g := hM.2.cap
      have l_g : (invoL P (mulL P sq xs ys)).length = pw sq.length := (sgnL_len _ _ _).trans l_z
      have u_g : NumsL P (invoL P (mulL P sq xs ys)) := sgnL_nums (by omega) _ u_z
      replace hW := hW.trans (hM.b.mono hW.size)
      clear hcall hM q0 q1
      have kk := k3.below hW k3.lt
      obtain ⟨q0, q1⟩ := kk.two
      have hcall := ConjugateOf_ok P A n c sq A1 m1 c1 xs w_g (by omega) (by omega) (o3.below hW) r_x i_x (codeM_mk HSP (all_one ⟨l_x, u_x⟩))
      clear kk
      go_wp2_with fail
      refine hcall.mono ?_
      rintro e w_h ⟨A_h, c_h, rfl, hM⟩
      replace r_x := r_x.below hM.b
      replace r_y := r_y.below hM.b
      replace r_z := r_z.below hM.b
      replace r_a := r_a.below hM.b
      replace r_b := r_b.below hM.b
      replace r_c := r_c.below hM.b
      replace r_e := r_e.below hM.b
      replace r_f := r_f.below hM.b
      replace r_g := r_g.below hM.b
      have r_h := hM.rd
      have i_h := hM.2.cap
      replace hW := hW.trans (hM.b.mono hW.size)
      clear hcall hM q0 q1
      have kk := k3.below hW k3.lt
      obtain ⟨q0, q1⟩ := kk.two
      have hcall := ReverseOf_ok P A n c sq A_e m1 c_e (invoL P xs) w_h (by omega) (by omega) (o3.below hW) r_e i_e (codeM_mk HSP (all_one ⟨l_e, u_e⟩))
      clear kk
      go_wp2_with fail
      refine hcall.mono ?_
      rintro e w_k ⟨A_k, c_k, rfl, hM⟩
      replace r_x := r_x.below hM.b
      replace r_y := r_y.below hM.b
      replace r_z := r_z.below hM.b
      replace r_a := r_a.below hM.b
      replace r_b := r_b.below hM.b
      replace r_c := r_c.below hM.b
      replace r_e := r_e.below hM.b
      replace r_f := r_f.below hM.b
      replace r_g := r_g.below hM.b
      replace r_h := r_h.below hM.b
      have r_k := hM.rd
      have i_k := hM.2.cap
      have l_k : (revL P (invoL P xs)).length = pw sq.length := (sgnL_len _ _ _).trans l_e
      have u_k : NumsL P (revL P (invoL P xs)) := sgnL_nums (by omega) _ u_e
      replace hW := hW.trans (hM.b.mono hW.size)
      clear hcall hM q0 q1
      have kk := k3.below hW k3.lt
      obtain ⟨q0, q1⟩ := kk.two
      have hcall := ReverseOf_ok P A n c sq A_a m1 c_a (revL P xs) w_k (by omega) (by omega) (o3.below hW) r_a i_a (codeM_mk HSP (all_one ⟨l_a, u_a⟩))
      clear kk
      go_wp2_with fail
      refine hcall.mono ?_
      rintro e w_back ⟨A_back, c_back, rfl, hM⟩
      replace r_x := r_x.below hM.b
      replace r_y := r_y.below hM.b
      replace r_z := r_z.below hM.b
      replace r_a := r_a.below hM.b
      replace r_b := r_b.below hM.b
      replace r_c := r_c.below hM.b
      replace r_e := r_e.below hM.b
      replace r_f := r_f.below hM.b
      replace r_g := r_g.below hM.b
      replace r_h := r_h.below hM.b
      replace r_k := r_k.below hM.b
      have r_back := hM.rd
      have i_back := hM.2.cap
      have l_back : (revL P (revL P xs)).length = pw sq.length := (sgnL_len _ _ _).trans l_a
      have u_back : NumsL P (revL P (revL P xs)) := sgnL_nums (by omega) _ u_a
      replace hW := hW.trans (hM.b.mono hW.size)
      clear hcall hM q0 q1
      have kk := k3.below hW k3.lt
      obtain ⟨q0, q1⟩ := kk.two
      have hcall := InvoluteOf_ok P A n c sq A_e m1 c_e (invoL P xs) w_back (by omega) (by omega) (o3.below hW) r_e i_e (codeM_mk HSP (all_one ⟨l_e, u_e⟩))
      clear kk
      go_wp2_with fail
      refine hcall.mono ?_
      rintro e w_again ⟨A_again, c_again, rfl, hM⟩
      replace r_x := r_x.below hM.b
      replace r_y := r_y.below hM.b
      replace r_z := r_z.below hM.b
      replace r_a := r_a.below hM.b
      replace r_b := r_b.below hM.b
      replace r_c := r_c.below hM.b
      replace r_e := r_e.below hM.b
      replace r_f := r_f.below hM.b
      replace r_g := r_g.below hM.b
      replace r_h := r_h.below hM.b
      replace r_k := r_k.below hM.b
      replace r_back := r_back.below hM.b
      have r_again := hM.rd
      have i_again := hM.2.cap
      have l_again : (invoL P (invoL P xs)).length = pw sq.length := (sgnL_len _ _ _).trans l_e
      have u_again : NumsL P (invoL P (invoL P xs)) := sgnL_nums (by omega) _ u_e
      replace hW := hW.trans (hM.b.mono hW.size)
      clear hcall hM q0 q1
      have kk := k3.below hW k3.lt
      obtain ⟨q0, q1⟩ := kk.two
      have hcall := IsEven_ok P A n c sq A1 m1 c1 xs w_again (by omega) (by omega) (o3.below hW) r_x i_x (codeM_mk HSP (all_one ⟨l_x, u_x⟩))
      clear kk
      go_wp2_with fail
      refine hcall.mono ?_
      rintro e w_even ⟨rfl, hM⟩
      replace r_x := r_x.below hM
      replace r_y := r_y.below hM
      replace r_z := r_z.below hM
      replace r_a := r_a.below hM
      replace r_b := r_b.below hM
      replace r_c := r_c.below hM
      replace r_e := r_e.below hM
      replace r_f := r_f.below hM
      replace r_g := r_g.below hM
      replace r_h := r_h.below hM
      replace r_k := r_k.below hM
      replace r_back := r_back.below hM
      replace r_again := r_again.below hM
      replace hW := hW.trans (hM.mono hW.size)
      clear hcall hM q0 q1
      have kk := k3.below hW k3.lt
      obtain ⟨q0, q1⟩ := kk.two
      have hcall := GradesOf_ok P A n c sq A1 m1 c1 xs w_even (by omega) (by omega) (o3.below hW) r_x i_x (codeM_mk HSP (all_one ⟨l_x, u_x⟩))
      clear kk
      go_wp2_with fail
      refine hcall.mono ?_
      rintro e w_gr ⟨A_gr, c_gr, rfl, hM⟩
      replace r_x := r_x.below hM.b
      replace r_y := r_y.below hM.b
      replace r_z := r_z.below hM.b
      replace r_a := r_a.below hM.b
      replace r_b := r_b.below hM.b
      replace r_c := r_c.below hM.b
      replace r_e := r_e.below hM.b
      replace r_f := r_f.below hM.b
      replace r_g := r_g.below hM.b
      replace r_h := r_h.below hM.b
      replace r_k := r_k.below hM.b
      replace r_back := r_back.below hM.b
      replace r_again := r_again.below hM.b
      have r_gr := hM.rd
      replace hW := hW.trans (hM.b.mono hW.size)
      clear hcall hM q0 q1
      have kk := k3.below hW k3.lt
      obtain ⟨q0, q1⟩ := kk.two
      have hcall := sGradesOf_ok P A n c sq A1 m1 c1 xs w_gr (by omega) (by omega) (o3.below hW) r_x i_x (codeM_mk HSP (all_one ⟨l_x, u_x⟩))
      clear kk
      go_wp2_with fail
      refine hcall.mono ?_
      rintro e w_due ⟨A_due, c_due, rfl, hM⟩
      replace r_x := r_x.below hM.b
      replace r_y := r_y.below hM.b
      replace r_z := r_z.below hM.b
      replace r_a := r_a.below hM.b
      replace r_b := r_b.below hM.b
      replace r_c := r_c.below hM.b
      replace r_e := r_e.below hM.b
      replace r_f := r_f.below hM.b
      replace r_g := r_g.below hM.b
      replace r_h := r_h.below hM.b
      replace r_k := r_k.below hM.b
      replace r_back := r_back.below hM.b
      replace r_again := r_again.below hM.b
      replace r_gr := r_gr.below hM.b
      have r_due := hM.rd
      replace hW := hW.trans (hM.b.mono hW.size)
      clear hcall hM q0 q1
      have kk := k3.below hW k3.lt
      obtain ⟨q0, q1⟩ := kk.two
      have hcall := times5_ok P A n c sq A_b m2 c_b (revL P ys) A_a m1 c_a (revL P xs) w_due (by omega) (by omega) (by omega) (o3.below hW) r_b i_b r_a i_a (codeM_mk HSP (all_two ⟨l_b, u_b⟩ ⟨l_a, u_a⟩))
      rw [← revL_mulL (by omega) (by omega) l_x u_x l_y u_y] at hcall
      clear kk
      go_wp2_with fail
      refine hcall.mono ?_
      rintro e w_ba ⟨A_ba, c_ba, rfl, hM⟩
      replace r_x := r_x.below hM.b
      replace r_y := r_y.below hM.b
      replace r_z := r_z.below hM.b
      replace r_a := r_a.below hM.b
      replace r_b := r_b.below hM.b
      replace r_c := r_c.below hM.b
      replace r_e := r_e.below hM.b
      replace r_f := r_f.below hM.b
      replace r_g := r_g.below hM.b
      replace r_h := r_h.below hM.b
      replace r_k := r_k.below hM.b
      replace r_back := r_back.below hM.b
      replace r_again := r_again.below hM.b
      replace r_gr := r_gr.below hM.b
      replace r_due := r_due.below hM.b
      replace hW := hW.trans (hM.b.mono hW.size)
      have r_ba := hM.rd
      clear hcall hM q0 q1
      have kk := k3.below hW k3.lt
      obtain ⟨q0, q1⟩ := kk.two
      have hcall := likeInts_any A_c A_ba (pw n) (pw n) c_c c_ba _ _ w_ba (by omega) (by omega) r_c r_ba
      rw [decide_eq_true rfl] at hcall
      clear kk
      go_wp2_with fail
      refine hcall.mono ?_
      rintro e _ ⟨rfl, j1, rfl⟩
      have hM := below_drewN (Below.refl w_ba.heap.size w_ba) j1
      replace r_x := r_x.below hM
      replace r_y := r_y.below hM
      replace r_z := r_z.below hM
      replace r_a := r_a.below hM
      replace r_b := r_b.below hM
      replace r_c := r_c.below hM
      replace r_e := r_e.below hM
      replace r_f := r_f.below hM
      replace r_g := r_g.below hM
      replace r_h := r_h.below hM
      replace r_k := r_k.below hM
      replace r_back := r_back.below hM
      replace r_again := r_again.below hM
      replace r_gr := r_gr.below hM
      replace r_due := r_due.below hM
      replace r_ba := r_ba.below hM
      replace hW := hW.trans (hM.mono hW.size)
      clear hcall hM q0 q1
      have kk := k3.below hW k3.lt
      obtain ⟨q0, q1⟩ := kk.two
      have hcall := times5_ok P A n c sq A_e m1 c_e (invoL P xs) A_f m2 c_f (invoL P ys) (w_ba.drewN j1) (by omega) (by omega) (by omega) (o3.below hW) r_e i_e r_f i_f (codeM_mk HSP (all_two ⟨l_e, u_e⟩ ⟨l_f, u_f⟩))
      rw [← invoL_mulL (by omega) l_x u_x l_y u_y] at hcall
      clear kk
      go_wp2_with fail
      refine hcall.mono ?_
      rintro e w_ef ⟨A_ef, c_ef, rfl, hM⟩
      replace r_x := r_x.below hM.b
      replace r_y := r_y.below hM.b
      replace r_z := r_z.below hM.b
      replace r_a := r_a.below hM.b
      replace r_b := r_b.below hM.b
      replace r_c := r_c.below hM.b
      replace r_e := r_e.below hM.b
      replace r_f := r_f.below hM.b
      replace r_g := r_g.below hM.b
      replace r_h := r_h.below hM.b
      replace r_k := r_k.below hM.b
      replace r_back := r_back.below hM.b
      replace r_again := r_again.below hM.b
      replace r_gr := r_gr.below hM.b
      replace r_due := r_due.below hM.b
      replace r_ba := r_ba.below hM.b
      replace hW := hW.trans (hM.b.mono hW.size)
      have r_ef := hM.rd
      clear hcall hM q0 q1
      have kk := k3.below hW k3.lt
      obtain ⟨q0, q1⟩ := kk.two
      have hcall := likeInts_any A_g A_ef (pw n) (pw n) c_g c_ef _ _ w_ef (by omega) (by omega) r_g r_ef
      rw [decide_eq_true rfl] at hcall
      clear kk
      go_wp2_with fail
      refine hcall.mono ?_
      rintro e _ ⟨rfl, j2, rfl⟩
      have hM := below_drewN (Below.refl w_ef.heap.size w_ef) j2
      replace r_x := r_x.below hM
      replace r_y := r_y.below hM
      replace r_z := r_z.below hM
      replace r_a := r_a.below hM
      replace r_b := r_b.below hM
      replace r_c := r_c.below hM
      replace r_e := r_e.below hM
      replace r_f := r_f.below hM
      replace r_g := r_g.below hM
      replace r_h := r_h.below hM
      replace r_k := r_k.below hM
      replace r_back := r_back.below hM
      replace r_again := r_again.below hM
      replace r_gr := r_gr.below hM
      replace r_due := r_due.below hM
      replace r_ba := r_ba.below hM
      replace r_ef := r_ef.below hM
      replace hW := hW.trans (hM.mono hW.size)
      clear hcall hM q0 q1
      have kk := k3.below hW k3.lt
      obtain ⟨q0, q1⟩ := kk.two
      have hcall := likeInts_any A_h A_k m1 m1 c_h c_k _ _ (w_ef.drewN j2) (by omega) (by omega) r_h r_k
      rw [decide_eq_true rfl] at hcall
      clear kk
      go_wp2_with fail
      refine hcall.mono ?_
      rintro e _ ⟨rfl, j3, rfl⟩
      have hM := below_drewN (Below.refl (w_ef.drewN j2).heap.size (w_ef.drewN j2)) j3
      replace r_x := r_x.below hM
      replace r_y := r_y.below hM
      replace r_z := r_z.below hM
      replace r_a := r_a.below hM
      replace r_b := r_b.below hM
      replace r_c := r_c.below hM
      replace r_e := r_e.below hM
      replace r_f := r_f.below hM
      replace r_g := r_g.below hM
      replace r_h := r_h.below hM
      replace r_k := r_k.below hM
      replace r_back := r_back.below hM
      replace r_again := r_again.below hM
      replace r_gr := r_gr.below hM
      replace r_due := r_due.below hM
      replace r_ba := r_ba.below hM
      replace r_ef := r_ef.below hM
      replace hW := hW.trans (hM.mono hW.size)
      clear hcall hM q0 q1
      simp only [World.drewN_drewN] at hW r_x r_y r_z r_a r_b r_c r_e r_f r_g r_h r_k r_back r_again r_gr r_due r_ba r_ef
      rw [revL_revL (by omega) l_x u_x] at r_back
      rw [invoL_invoL (by omega) l_x u_x] at r_again
      have kk := k3.below hW k3.lt
      obtain ⟨q0, q1⟩ := kk.two
      have hcall := likeInts_any A_back A1 m1 m1 c_back c1 _ _ (w_ef.drewN (j2 + j3)) (by omega) (by omega) r_back r_x
      rw [decide_eq_true rfl] at hcall
      clear kk
      go_wp2_with fail
      refine hcall.mono ?_
      rintro e _ ⟨rfl, j4, rfl⟩
      have hM := below_drewN (Below.refl (w_ef.drewN (j2 + j3)).heap.size (w_ef.drewN (j2 + j3))) j4
      replace r_x := r_x.below hM
      replace r_y := r_y.below hM
      replace r_z := r_z.below hM
      replace r_a := r_a.below hM
      replace r_b := r_b.below hM
      replace r_c := r_c.below hM
      replace r_e := r_e.below hM
      replace r_f := r_f.below hM
      replace r_g := r_g.below hM
      replace r_h := r_h.below hM
      replace r_k := r_k.below hM
      replace r_back := r_back.below hM
      replace r_again := r_again.below hM
      replace r_gr := r_gr.below hM
      replace r_due := r_due.below hM
      replace r_ba := r_ba.below hM
      replace r_ef := r_ef.below hM
      replace hW := hW.trans (hM.mono hW.size)
      clear hcall hM q0 q1
      simp only [World.drewN_drewN] at hW r_x r_y r_z r_a r_b r_c r_e r_f r_g r_h r_k r_back r_again r_gr r_due r_ba r_ef
      have kk := k3.below hW k3.lt
      obtain ⟨q0, q1⟩ := kk.two
      have hcall := likeInts_any A_again A1 m1 m1 c_again c1 _ _ (w_ef.drewN (j2 + j3 + j4)) (by omega) (by omega) r_again r_x
      rw [decide_eq_true rfl] at hcall
      clear kk
      go_wp2_with fail
      refine hcall.mono ?_
      rintro e _ ⟨rfl, j5, rfl⟩
      have hM := below_drewN (Below.refl (w_ef.drewN (j2 + j3 + j4)).heap.size (w_ef.drewN (j2 + j3 + j4))) j5
      replace r_x := r_x.below hM
      replace r_y := r_y.below hM
      replace r_z := r_z.below hM
      replace r_a := r_a.below hM
      replace r_b := r_b.below hM
      replace r_c := r_c.below hM
      replace r_e := r_e.below hM
      replace r_f := r_f.below hM
      replace r_g := r_g.below hM
      replace r_h := r_h.below hM
      replace r_k := r_k.below hM
      replace r_back := r_back.below hM
      replace r_again := r_again.below hM
      replace r_gr := r_gr.below hM
      replace r_due := r_due.below hM
      replace r_ba := r_ba.below hM
      replace r_ef := r_ef.below hM
      replace hW := hW.trans (hM.mono hW.size)
      clear hcall hM q0 q1
      simp only [World.drewN_drewN] at hW r_x r_y r_z r_a r_b r_c r_e r_f r_g r_h r_k r_back r_again r_gr r_due r_ba r_ef
      have e2 : (evenL xs != evenL xs) = false := by simp
      have kk := k3.below hW k3.lt
      obtain ⟨q0, q1⟩ := kk.two
      have hcall := likeInts_any A1 A_e m1 m1 c1 c_e _ _ (w_ef.drewN (j2 + j3 + j4 + j5)) (by omega) (by omega) r_x r_e
      rw [evenL_invo HP (show n ≤ 6 by omega) (by rw [l_x, hnl]) u_x] at hcall
      clear kk
      go_wp2_with fail
      refine hcall.mono ?_
      rintro e _ ⟨rfl, j6, rfl⟩
      have hM := below_drewN (Below.refl (w_ef.drewN (j2 + j3 + j4 + j5)).heap.size (w_ef.drewN (j2 + j3 + j4 + j5))) j6
      replace r_x := r_x.below hM
      replace r_y := r_y.below hM
      replace r_z := r_z.below hM
      replace r_a := r_a.below hM
      replace r_b := r_b.below hM
      replace r_c := r_c.below hM
      replace r_e := r_e.below hM
      replace r_f := r_f.below hM
      replace r_g := r_g.below hM
      replace r_h := r_h.below hM
      replace r_k := r_k.below hM
      replace r_back := r_back.below hM
      replace r_again := r_again.below hM
      replace r_gr := r_gr.below hM
      replace r_due := r_due.below hM
      replace r_ba := r_ba.below hM
      replace r_ef := r_ef.below hM
      replace hW := hW.trans (hM.mono hW.size)
      clear hcall hM q0 q1
      simp only [World.drewN_drewN] at hW r_x r_y r_z r_a r_b r_c r_e r_f r_g r_h r_k r_back r_again r_gr r_due r_ba r_ef
      have hgl := gradesL_len xs
      have kk := k3.below hW k3.lt
      obtain ⟨q0, q1⟩ := kk.two
      have hcall := likeInts_any A_gr A_due (gradesL xs).length (gradesL xs).length c_gr c_due _ _ (w_ef.drewN (j2 + j3 + j4 + j5 + j6)) (by omega) (by omega) r_gr r_due
      rw [decide_eq_true rfl] at hcall
      clear kk
      go_wp2_with fail
      refine hcall.mono ?_
      rintro e _ ⟨rfl, j7, rfl⟩
      have hM := below_drewN (Below.refl (w_ef.drewN (j2 + j3 + j4 + j5 + j6)).heap.size (w_ef.drewN (j2 + j3 + j4 + j5 + j6))) j7
      replace r_x := r_x.below hM
      replace r_y := r_y.below hM
      replace r_z := r_z.below hM
      replace r_a := r_a.below hM
      replace r_b := r_b.below hM
      replace r_c := r_c.below hM
      replace r_e := r_e.below hM
      replace r_f := r_f.below hM
      replace r_g := r_g.below hM
      replace r_h := r_h.below hM
      replace r_k := r_k.below hM
      replace r_back := r_back.below hM
      replace r_again := r_again.below hM
      replace r_gr := r_gr.below hM
      replace r_due := r_due.below hM
      replace r_ba := r_ba.below hM
      replace r_ef := r_ef.below hM
      replace hW := hW.trans (hM.mono hW.size)
      clear hcall hM q0 q1
      simp only [World.drewN_drewN] at hW r_x r_y r_z r_a r_b r_c r_e r_f r_g r_h r_k r_back r_again r_gr r_due r_ba r_ef
      obtain rfl : m1 = pw n := by rw [← r_x.lenI, l_x, hnl]
      have hsz := size5_any P A n c (w_ef.drewN (j2 + j3 + j4 + j5 + j6 + j7)) (show n ≤ 30 by omega)
      have kk := k3.below hW k3.lt
      obtain ⟨q0, q1⟩ := kk.two
      clear kk
      clear r_y r_z r_a r_b r_c r_e r_f r_g r_h r_k r_back r_again r_due r_ba r_ef
      go_wp2_with fail
      refine hsz.mono ?_
      rintro e w8 ⟨rfl, hM⟩
      replace r_x := r_x.below hM
      replace r_gr := r_gr.below hM
      replace hW := hW.trans (hM.mono hW.size)
      clear hsz hM q0 q1
      have hmk := make_i (P := Tryz.prog) 24 2 Tryz.underlying24 info_i (pw n) (by omega)
      have hM0 := Mk.made (E := 2) (n := pw n) (z := .int .i64 0) hW (by simp only [maxLen]; omega)
      rw [ints_replicate, show List.replicate (pw n) (0 : Int) = uptoG xs 0 by rw [uptoG_zero, l_x, hnl]] at hM0
      go_wp2
      clear hmk hW
      replace r_x := r_x.below ((Below.refl _ _).alloc (Nat.le_refl _) (.cells (madeCells #[.int .i64 0] (pw n)) 2))
      replace r_gr := r_gr.below ((Below.refl _ _).alloc (Nat.le_refl _) (.cells (madeCells #[.int .i64 0] (pw n)) 2))
      go_loopw [37, 38] (fun t i wr => ∃ (k : Nat) (A' : Option Addr) (c' : Nat), k ≤ n + 1 ∧ i = .int .i64 k ∧ t = .slice A' (pw n) c' ∧ MkI w3 wr A' (pw n) c' (uptoG xs k) ∧ Rd wr A1 (pw n) (ints xs) ∧ Rd wr A_gr (gradesL xs).length (ints (gradesL xs))) (fun _ i _ => n + 1 - (intOf i).toNat)
      case atStart => exact ⟨0, _, _, by omega, rfl, rfl, hM0, r_x, r_gr⟩
      case round =>
        obtain ⟨k, A', c', hk, rfl, rfl, hM, rx, rg⟩ := hrel
        clear hM0 r_x r_gr
        have kk := k3.below hM.b k3.lt
        obtain ⟨q0, q1⟩ := kk.two
        clear kk
        by_cases hlt : k ≤ n
        · have hz : (decide (∀ y ∈ partG xs k, y = 0) == decide ((k : Int) ∈ gradesL xs)) = false := by
            have := partG_zero_iff xs (by rw [l_x, hnl]; omega) k
            by_cases e : (k : Int) ∈ gradesL xs
            · simp [e, this]
            · simp [e, this]
          have hg := GradePart_ok P A n c sq A1 (pw n) c1 xs k _ (by omega) (by omega) (o3.below hM.b) rx i_x (codeM_mk HSP (all_one ⟨l_x, u_x⟩)) hlt
          have t1 : (k : Int) ≤ (n : Int) := by omega
          go_wp2_with fail
          refine hg.mono ?_
          rintro e w10 ⟨A5', c5', rfl, hM5⟩
          have hM6 := hM.below hM5.b
          have rx6 := rx.below hM5.b
          have rg6 := rg.below hM5.b
          have r5 := hM5.rd
          clear hg hM rx rg q0 q1
          have hz5 := zero5_any A5' (pw n) c5' _ w10 (by omega) r5
          have hh5 := hasInt_any A_gr (gradesL xs).length c_gr _ (k : Int) w10 (by omega) rg6
          have HU := Lib.hid (uptoG_succ (p := P) (by omega) u_x k)
          have kk := k3.below hM6.b k3.lt
          obtain ⟨q0, q1⟩ := kk.two
          clear kk
          go_wp2_with fail
          refine hz5.mono ?_
          rintro e w11 ⟨rfl, rfl⟩
          clear hz5
          go_wp2_with fail
          refine hh5.mono ?_
          rintro e w12 ⟨rfl, rfl⟩
          clear hh5
          have hp5 := plus5_any P A' (pw n) c' A5' c5' 1 (uptoG xs k) (partG xs k) _ (by omega) (by omega) (by omega) hM6.rd (uptoG_nums (by omega) u_x k) r5 (partG_nums (by omega) u_x k) (by omega) (by omega)
          go_wp2_with fail
          refine hp5.mono ?_
          rintro e w13 ⟨A7, c7, rfl, hM7⟩
          have hM8 := hM7.after hM6.b
          rw [HU.out] at hM8
          have rx8 := rx6.below hM7.b
          have rg8 := rg6.below hM7.b
          clear hp5 hM7 hM6 rx6 rg6 r5 hM5 HU q0 q1
          go_wp2
          go_roundw
          case rel => exact ⟨k + 1, A7, c7, by omega, by go_num, rfl, hM8, rx8, rg8⟩
          case measure => simp [intOf]; omega
        · obtain rfl : k = n + 1 := by omega
          have t1 : ¬ ((n + 1 : Nat) : Int) ≤ (n : Int) := by omega
          rw [uptoG_all (show n ≤ 6 by omega) (by rw [l_x, hnl])] at hM
          have hl := likeInts_any A' A1 (pw n) (pw n) c' c1 _ _ _ (by omega) (by omega) hM.rd rx
          rw [decide_eq_true rfl] at hl
          go_wp2_with fail
          refine hl.mono ?_
          rintro e _ ⟨rfl, jz, rfl⟩
          go_wp2
          go_ret
          exact ⟨rfl, below_drewN (hB3.trans (hM.b.mono hB3.size)) jz⟩
    · have e1 : ((brR P sq xs ys).2 != 0) = true := code_ne (by rw [brR_bad hc]; exact hc)
      go_wp2
      go_ret
      exact ⟨rfl, hB6⟩
end Go.Proofs.YtggigolkncckoaaGreat

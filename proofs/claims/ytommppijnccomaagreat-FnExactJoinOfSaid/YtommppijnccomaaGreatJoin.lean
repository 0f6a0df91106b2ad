/-
  JoinOf: the program's function and the reference's return the same.
-/
import Derived.Test.YtommppijnccomaaGreatBld
import Derived.Test.YtommppijnccomaaGreatBlo
import Derived.Test.YtommppijnccomaaGreatApp
import Derived.Test.YtommppijnccomaaGreatTasks2
namespace Go.Proofs.YtommppijnccomaaGreat
open Go.RowKit

/-- The value is the second one of two lists of lists; the first one is x. -/
def VTwo (w0 : World) (n : Nat) (L : List (List Int)) (m : Nat) (M : List (List Int)) (x : Value) : VP :=
  ⟨fun v w => ∃ A c B d, x = .slice A n c ∧ v = .slice B m d ∧ MkII2 w0 w A n c L B m M, fun _ _ _ ⟨A, c, B, d, e, e', h⟩ hb => ⟨A, c, B, d, e, e', h.below hb⟩⟩

/-- JoinOf. -/
def joiR (P : Int) (sq : List Int) (xs : List Int) (ys : List Int) : List Int × Int := if codeL P sq [xs, ys] = 0 then (blaL P sq sq.length (subL P sq sq.length xs ++ subL P sq sq.length ys), 0) else ([], codeL P sq [xs, ys])
theorem joiR_ok {P : Int} {sq xs ys : List Int} (h : codeL P sq [xs, ys] = 0) : joiR P sq xs ys = (blaL P sq sq.length (subL P sq sq.length xs ++ subL P sq sq.length ys), 0) := by unfold joiR; rw [if_pos h]
theorem joiR_bad {P : Int} {sq xs ys : List Int} (h : ¬ codeL P sq [xs, ys] = 0) : joiR P sq xs ys = ([], codeL P sq [xs, ys]) := by unfold joiR; rw [if_neg h]

theorem joiR_len (P : Int) (sq xs ys : List Int) : (joiR P sq xs ys).1.length ≤ 1048576 := by
  by_cases h : codeL P sq [xs, ys] = 0
  · obtain ⟨HP, hp, _, h1, h6, _, _⟩ := codeM_spec3 (codeL_zero h).1
    rw [joiR_ok h]
    show (blaL _ _ _ _).length ≤ _
    rw [blaL_len]
    exact Nat.le_trans (pw_le h6) (by decide)
  · rw [joiR_bad h]; simp

set_option maxHeartbeats 3200000 in
set_option maxRecDepth 8000 in
theorem JoinOf_any (P : Int) (A : Option Addr) (n c : Nat) (sq : List Int) (X : Option Addr) (m cx : Nat) (xs : List Int) (Y : Option Addr) (l cy : Nat) (ys : List Int) (w : World) (hn : n ≤ 1048576) (hm : m ≤ 1048576) (hl : l ≤ 1048576) (ha : Rd w A n (ints sq)) (hx : Rd w X m (ints xs)) (hcx : m ≤ cx) (hy : Rd w Y l (ints ys)) (hcy : l ≤ cy) :
    Calls Tryz.prog 35 #[.agg #[.int .i64 P, .slice A n c], .slice X m cx, .slice Y l cy] w fun e w' => ∃ (A' : Option Addr) (k c' : Nat), e = .returned (.tuple #[.slice A' k c', .int .i64 (joiR P sq xs ys).2]) ∧ MkI w w' A' k c' (joiR P sq xs ys).1 := by
  have hB0 : Below w.heap.size w (w.alloc (.cells #[.int .i64 P, .slice A n c] 28)) := (Below.refl _ _).alloc (Nat.le_refl _) _
  have k0 : Blk (w.alloc (.cells #[.int .i64 P, .slice A n c] 28)) w.heap.size 28 #[.int .i64 P, .slice A n c] := Blk.new _ _ _
  have hB1 : Below w.heap.size w ((w.alloc (.cells #[.int .i64 P, .slice A n c] 28)).alloc (.cells #[.slice X m cx, .slice Y l cy] 22)) := hB0.alloc (by simp) _
  have k1 : Blk ((w.alloc (.cells #[.int .i64 P, .slice A n c] 28)).alloc (.cells #[.slice X m cx, .slice Y l cy] 22)) w.heap.size 28 #[.int .i64 P, .slice A n c] := k0.alloc _
  have hreg := checkBlades_any P A (some ⟨w.heap.size + 1, 0, none⟩) n c 2 2 sq [xs, ys] ((w.alloc (.cells #[.int .i64 P, .slice A n c] 28)).alloc (.cells #[.slice X m cx, .slice Y l cy] 22)) hn (by omega) (ha.below hB1) (rdII_two (Blk.newAt3 (by simp)) (hx.below hB1) (hy.below hB1) hcx hcy) (all_two (by rw [hx.lenI]; exact hm) (by rw [hy.lenI]; exact hl))
  by_cases hr0 : codeL P sq [xs, ys] = 0
  · skip
    have hcM := (codeL_zero hr0).1
    rw [hr0] at hreg
    have HR0 := Lib.hid hr0
    clear hr0
    obtain ⟨HP, hp, hp2, hd1, hd2, hs0, hms⟩ := codeM_spec3 hcM
    have hsl := ha.lenI
    obtain ⟨hx1, hxs0⟩ := hms xs (by simp)
    have hmx : m = pw n := by rw [← hx.lenI, hx1, hsl]
    subst hmx
    obtain ⟨hy1, hys0⟩ := hms ys (by simp)
    have hly : l = pw n := by rw [← hy.lenI, hy1, hsl]
    subst hly
    have HYS := Lib.hid hys0
    clear hy1 hys0
    have HSL := Lib.hid hsl
    have HS0 := Lib.hid hs0
    have HXS := Lib.hid hxs0
    have hn6 : n ≤ 6 := by omega
    have hn0 : 0 < n := by omega
    clear hsl hms hx1 hs0 hxs0 hd1 hd2 hcM
    go_enter Tryz.func35, Tryz.ntmps35
    go_wp2_with fail
    refine hreg.mono ?_
    rintro e w2 ⟨rfl, hb2⟩
    have hB2 := hB1.trans (hb2.mono hB1.size)
    have k2 := k1.below hb2 k1.lt
    obtain ⟨q0, q1⟩ := k2.two
    clear k0 hB0 k1 hB1 hb2
    have HOK : Hid (joiR P sq xs ys = (blaL P sq n (subL P sq n xs ++ subL P sq n ys), 0)) := Lib.hid (by rw [joiR_ok HR0.out, HSL.out])
    have hkl : w.heap.size < w2.heap.size := k2.lt
    have hls := subL_len HP sq n xs
    have hly := subL_len HP sq n ys
    have HLL := Lib.hid (And.intro hls hly)
    have HTT := Lib.hid ((subL_tab hp sq n xs).append (subL_tab hp sq n ys))
    have HSUB := Lib.hid fun (w' : World) (h : Below w2.heap.size w2 w') => subspace_any P A n c sq X cx xs w' HP hn6 hn0 ((ha.below hB2).below h) HS0.out ((hx.below hB2).below h) HXS.out
    have HSUY := Lib.hid fun (w' : World) (h : Below w2.heap.size w2 w') => subspace_any P A n c sq Y cy ys w' HP hn6 hn0 ((ha.below hB2).below h) HS0.out ((hy.below hB2).below h) HYS.out
    have HBLA := Lib.hid fun (w' : World) (B : Option Addr) (d : Nat) (h : Below w2.heap.size w2 w') (hb : RdII w' B ((subL P sq n xs).length + (subL P sq n ys).length) (subL P sq n xs ++ subL P sq n ys)) => bladeOf_any P A n c sq B _ d _ w' HP hn6 hn0 (by omega) ((ha.below hB2).below h) HS0.out hb HTT.out
    clear hls hly HTT
    obtain ⟨LJ, hLJ⟩ : ∃ R, R = blaL P sq n (subL P sq n xs ++ subL P sq n ys) := ⟨_, rfl⟩
    rw [← hLJ] at HOK HBLA
    obtain ⟨LA, hLA⟩ : ∃ R, R = subL P sq n xs := ⟨_, rfl⟩
    obtain ⟨LB, hLB⟩ : ∃ R, R = subL P sq n ys := ⟨_, rfl⟩
    rw [← hLA] at HSUB
    rw [← hLB] at HSUY
    rw [← hLA, ← hLB] at HBLA HLL
    clear hLJ hLA hLB
    go_wp2
    refine wp_obsD 11 w2.heap.size [[], [], [], [1, 2], [], [], [1, 2, 3, 4, 5], [1, 2, 3, 4, 5, 6], [0, 1, 2, 3, 4, 5, 6, 7], [0, 1, 2, 3, 4, 5, 6, 7, 8], []] [[], [], [], [], [], [], [], [3, 6], [], [], []] (fun x => [VIs (.agg #[.int .i64 P, .slice A n c]), VIs (.agg #[.int .i64 P, .slice A n c]), VIs (.slice X (pw n) cx), VMat w2 LA.length LA, VIs (.agg #[.int .i64 P, .slice A n c]), VIs (.slice Y (pw n) cy), VTwo w2 LA.length LA LB.length LB (x 3), VMat w2 (LA.length + LB.length) (LA ++ LB), VSl w2 (pw n) LJ, VSl w2 (pw n) LJ, VIs (.int .i64 0)]) (fun w' => Blk w' w.heap.size 28 #[.int .i64 P, .slice A n c] ∧ Below w2.heap.size w2 w') (by kernel_rfl) (by kernel_rfl) (fun x x' j hx => by
        rcases j with _ | _ | _ | _ | _ | _ | _ | _ | _ | _ | _ | j
        · rfl
        · rfl
        · rfl
        · rfl
        · rfl
        · rfl
        · rw [hx 3 (by decide)]
        · rfl
        · rfl
        · rfl
        · rfl
        · rfl)
      (weak_of [0, 1, 2, 4, 5, 10] (by decide) (fun k hk x => by
        simp only [List.mem_cons, List.not_mem_nil, or_false] at hk
        rcases hk with rfl | rfl | rfl | rfl | rfl | rfl <;> exact ⟨_, rfl⟩)) (fun j _ _ h hb => ⟨h.1.below (hb.mono (lim_ge h.2.size)) hkl, h.2.trans (hb.mono (lim_ge h.2.size))⟩) (⟨k2.drew, (Below.refl _ _).drew⟩) (fun x => ?_)
    refine obs_stepD (Eq.trans (by simp only [List.getElem?_toArray, List.getElem?_cons_zero]; exact rfl) rfl) rfl (fun w' hS hV K hK => ?_) ?_
    · obtain ⟨q0, q1⟩ := hS.1.two
      go_simp
      exact hK.out _ _ _ rfl rfl rfl (Below.refl _ _)
    simp only [List.setIfInBounds_toArray, List.set_cons_zero, List.set_cons_succ]
    refine obs_stepD (Eq.trans (by simp only [List.getElem?_toArray, List.getElem?_cons_succ, List.getElem?_cons_zero]; exact rfl) rfl) rfl (fun w' hS hV K hK => ?_) ?_
    · obtain ⟨q0, q1⟩ := hS.1.two
      go_simp
      exact hK.out _ _ _ rfl rfl rfl (Below.refl _ _)
    simp only [List.setIfInBounds_toArray, List.set_cons_zero, List.set_cons_succ]
    refine obs_stepD (Eq.trans (by simp only [List.getElem?_toArray, List.getElem?_cons_succ, List.getElem?_cons_zero]; exact rfl) rfl) rfl (fun w' hS hV K hK => ?_) ?_
    · obtain ⟨q0, q1⟩ := hS.1.two
      go_simp
      exact hK.out _ _ _ rfl rfl rfl (Below.refl _ _)
    simp only [List.setIfInBounds_toArray, List.set_cons_zero, List.set_cons_succ]
    refine obs_stepD (Eq.trans (by simp only [List.getElem?_toArray, List.getElem?_cons_succ, List.getElem?_cons_zero]; exact rfl) rfl) rfl (fun w' hS hV K hK => ?_) ?_
    · have e1 : x 1 = (.agg #[.int .i64 P, .slice A n c]) := hV 1 (by decide)
      have e2 : x 2 = (.slice X (pw n) cx) := hV 2 (by decide)
      obtain ⟨q0, q1⟩ := hS.1.two
      go_simp
      refine (HSUB.out w' hS.2).mono ?_
      rintro e v1 ⟨A2, c2, rfl, hM⟩
      exact hK.out _ _ _ rfl rfl ⟨_, _, rfl, hM.after hS.2⟩ hM.b
    simp only [List.setIfInBounds_toArray, List.set_cons_zero, List.set_cons_succ]
    refine obs_stepD (Eq.trans (by simp only [List.getElem?_toArray, List.getElem?_cons_succ, List.getElem?_cons_zero]; exact rfl) rfl) rfl (fun w' hS hV K hK => ?_) ?_
    · obtain ⟨q0, q1⟩ := hS.1.two
      go_simp
      exact hK.out _ _ _ rfl rfl rfl (Below.refl _ _)
    simp only [List.setIfInBounds_toArray, List.set_cons_zero, List.set_cons_succ]
    refine obs_stepD (Eq.trans (by simp only [List.getElem?_toArray, List.getElem?_cons_succ, List.getElem?_cons_zero]; exact rfl) rfl) rfl (fun w' hS hV K hK => ?_) ?_
    · obtain ⟨q0, q1⟩ := hS.1.two
      go_simp
      exact hK.out _ _ _ rfl rfl rfl (Below.refl _ _)
    simp only [List.setIfInBounds_toArray, List.set_cons_zero, List.set_cons_succ]
    refine obs_stepD (Eq.trans (by simp only [List.getElem?_toArray, List.getElem?_cons_succ, List.getElem?_cons_zero]; exact rfl) rfl) rfl (fun w' hS hV K hK => ?_) ?_
    · have e1 : x 1 = (.agg #[.int .i64 P, .slice A n c]) := hV 1 (by decide)
      have e2 : x 2 = (.slice X (pw n) cx) := hV 2 (by decide)
      obtain ⟨A3, c3, e3, h3⟩ := hV 3 (by decide)
      have e4 : x 4 = (.agg #[.int .i64 P, .slice A n c]) := hV 4 (by decide)
      have e5 : x 5 = (.slice Y (pw n) cy) := hV 5 (by decide)
      obtain ⟨q0, q1⟩ := hS.1.two
      go_simp
      refine (HSUY.out w' hS.2).mono ?_
      rintro e v1 ⟨A2, c2, rfl, hM⟩
      exact hK.out _ _ _ rfl rfl ⟨_, _, _, _, e3, rfl, MkII2.of_first h3 hM⟩ hM.b
    simp only [List.setIfInBounds_toArray, List.set_cons_zero, List.set_cons_succ]
    refine obs_stepD (Eq.trans (by simp only [List.getElem?_toArray, List.getElem?_cons_succ, List.getElem?_cons_zero]; exact rfl) rfl) rfl (fun w' hS hV K hK => ?_) ?_
    · have e1 : x 1 = (.agg #[.int .i64 P, .slice A n c]) := hV 1 (by decide)
      have e2 : x 2 = (.slice X (pw n) cx) := hV 2 (by decide)
      obtain ⟨A3, c3, e3, h3⟩ := hV 3 (by decide)
      have e4 : x 4 = (.agg #[.int .i64 P, .slice A n c]) := hV 4 (by decide)
      have e5 : x 5 = (.slice Y (pw n) cy) := hV 5 (by decide)
      obtain ⟨A6, c6, B6, d6, e3, e6, h6⟩ := hV 6 (by decide)
      obtain ⟨q0, q1⟩ := hS.1.two
      refine wp_appRows w2 w' _ _ rfl A6 LA.length c6 LA B6 LB.length d6 LB h6 (by have := HLL.out; omega) e3 e6 ?_
      intro A' c' w'' hM hgr
      exact hK.out _ _ _ rfl rfl ⟨_, _, rfl, hM⟩ (h6.grown_below hgr (Below.refl _ _) (Nat.le_refl _))
    simp only [List.setIfInBounds_toArray, List.set_cons_zero, List.set_cons_succ]
    refine obs_stepD (Eq.trans (by simp only [List.getElem?_toArray, List.getElem?_cons_succ, List.getElem?_cons_zero]; exact rfl) rfl) rfl (fun w' hS hV K hK => ?_) ?_
    · have e0 : x 0 = (.agg #[.int .i64 P, .slice A n c]) := hV 0 (by decide)
      have e1 : x 1 = (.agg #[.int .i64 P, .slice A n c]) := hV 1 (by decide)
      have e2 : x 2 = (.slice X (pw n) cx) := hV 2 (by decide)
      have e4 : x 4 = (.agg #[.int .i64 P, .slice A n c]) := hV 4 (by decide)
      have e5 : x 5 = (.slice Y (pw n) cy) := hV 5 (by decide)
      obtain ⟨A7, c7, e7, h7⟩ := hV 7 (by decide)
      obtain ⟨q0, q1⟩ := hS.1.two
      go_simp
      refine (HBLA.out w' _ _ hS.2 h7.rd).mono ?_
      rintro e v1 ⟨A2, c2, rfl, hM⟩
      exact hK.out _ _ _ rfl rfl ⟨_, _, rfl, hM.after hS.2⟩ hM.b
    simp only [List.setIfInBounds_toArray, List.set_cons_zero, List.set_cons_succ]
    refine obs_stepD (Eq.trans (by simp only [List.getElem?_toArray, List.getElem?_cons_succ, List.getElem?_cons_zero]; exact rfl) rfl) rfl (fun w' hS hV K hK => ?_) ?_
    · have e0 : x 0 = (.agg #[.int .i64 P, .slice A n c]) := hV 0 (by decide)
      have e1 : x 1 = (.agg #[.int .i64 P, .slice A n c]) := hV 1 (by decide)
      have e2 : x 2 = (.slice X (pw n) cx) := hV 2 (by decide)
      have e4 : x 4 = (.agg #[.int .i64 P, .slice A n c]) := hV 4 (by decide)
      have e5 : x 5 = (.slice Y (pw n) cy) := hV 5 (by decide)
      obtain ⟨A7, c7, e7, h7⟩ := hV 7 (by decide)
      obtain ⟨A8, c8, e8, h8⟩ := hV 8 (by decide)
      obtain ⟨q0, q1⟩ := hS.1.two
      go_simp
      exact hK.out _ _ _ rfl rfl ⟨_, _, rfl, h8⟩ (Below.refl _ _)
    simp only [List.setIfInBounds_toArray, List.set_cons_zero, List.set_cons_succ]
    refine obs_stepD (Eq.trans (by simp only [List.getElem?_toArray, List.getElem?_cons_succ, List.getElem?_cons_zero]; exact rfl) rfl) rfl (fun w' hS hV K hK => ?_) ?_
    · obtain ⟨q0, q1⟩ := hS.1.two
      go_simp
      exact hK.out _ _ _ rfl rfl rfl (Below.refl _ _)
    simp only [List.setIfInBounds_toArray, List.set_cons_zero, List.set_cons_succ]
    refine fun w' hS hV => ?_
    have e0 : x 0 = (.agg #[.int .i64 P, .slice A n c]) := hV 0 (by decide)
    have e1 : x 1 = (.agg #[.int .i64 P, .slice A n c]) := hV 1 (by decide)
    have e2 : x 2 = (.slice X (pw n) cx) := hV 2 (by decide)
    have e4 : x 4 = (.agg #[.int .i64 P, .slice A n c]) := hV 4 (by decide)
    have e5 : x 5 = (.slice Y (pw n) cy) := hV 5 (by decide)
    obtain ⟨A7, c7, e7, h7⟩ := hV 7 (by decide)
    obtain ⟨A8, c8, e8, h8⟩ := hV 8 (by decide)
    obtain ⟨A9, c9, e9, h9⟩ := hV 9 (by decide)
    have e10 : x 10 = (.int .i64 0) := hV 10 (by decide)
    simp only [e0, e1, e2, e4, e5, e7, e8, e9, e10]
    clear e0 e1 e2 e4 e5 e7 e8 e9 e10
    refine wpAny_done (by kernel_rfl) ?_ _
    go_wp2
    go_ret2
    exact aRow3 HOK.out (h9.after hB2)
  · obtain ⟨r, hr⟩ : ∃ r, r = codeL P sq [xs, ys] := ⟨_, rfl⟩
    have HR := Lib.hid hr
    have HR0 := Lib.hid hr0
    have b0 : (r != 0) = true := code_ne (by rw [hr]; exact hr0)
    rw [← hr] at hreg
    clear hr hr0
    go_enter Tryz.func35, Tryz.ntmps35
    go_wp2_with fail
    refine hreg.mono ?_
    rintro e w2 ⟨rfl, hb2⟩
    have hB2 := hB1.trans (hb2.mono hB1.size)
    have k2 := k1.below hb2 k1.lt
    obtain ⟨q0, q1⟩ := k2.two
    clear k0 hB0 k1 hB1 hb2
    go_wp2
    go_ret2
    exact noRow3 (by rw [joiR_bad HR0.out, HR.out]) hB2

set_option maxHeartbeats 3200000 in
set_option maxRecDepth 8000 in
theorem specJoinOf_any (P : Int) (A : Option Addr) (n c : Nat) (sq : List Int) (X : Option Addr) (m cx : Nat) (xs : List Int) (Y : Option Addr) (l cy : Nat) (ys : List Int) (w : World) (hn : n ≤ 1048576) (hm : m ≤ 1048576) (hl : l ≤ 1048576) (ha : Rd w A n (ints sq)) (hx : Rd w X m (ints xs)) (hcx : m ≤ cx) (hy : Rd w Y l (ints ys)) (hcy : l ≤ cy) :
    Calls Tryz.prog 34 #[.agg #[.int .i64 P, .slice A n c], .slice X m cx, .slice Y l cy] w fun e w' => ∃ (A' : Option Addr) (k c' : Nat), e = .returned (.tuple #[.slice A' k c', .int .i64 (joiR P sq xs ys).2]) ∧ MkI w w' A' k c' (joiR P sq xs ys).1 := by
  have hB0 : Below w.heap.size w (w.alloc (.cells #[.int .i64 P, .slice A n c] 28)) := (Below.refl _ _).alloc (Nat.le_refl _) _
  have k0 : Blk (w.alloc (.cells #[.int .i64 P, .slice A n c] 28)) w.heap.size 28 #[.int .i64 P, .slice A n c] := Blk.new _ _ _
  have hB1 : Below w.heap.size w ((w.alloc (.cells #[.int .i64 P, .slice A n c] 28)).alloc (.cells #[.slice X m cx, .slice Y l cy] 22)) := hB0.alloc (by simp) _
  have k1 : Blk ((w.alloc (.cells #[.int .i64 P, .slice A n c] 28)).alloc (.cells #[.slice X m cx, .slice Y l cy] 22)) w.heap.size 28 #[.int .i64 P, .slice A n c] := k0.alloc _
  have hreg := l06Code_any P A (some ⟨w.heap.size + 1, 0, none⟩) n c 2 2 sq [xs, ys] ((w.alloc (.cells #[.int .i64 P, .slice A n c] 28)).alloc (.cells #[.slice X m cx, .slice Y l cy] 22)) hn (by omega) (ha.below hB1) (rdII_two (Blk.newAt3 (by simp)) (hx.below hB1) (hy.below hB1) hcx hcy) (all_two (by rw [hx.lenI]; exact hm) (by rw [hy.lenI]; exact hl))
  by_cases hr0 : codeL P sq [xs, ys] = 0
  · skip
    have hcM := (codeL_zero hr0).1
    rw [hr0] at hreg
    have HR0 := Lib.hid hr0
    clear hr0
    obtain ⟨HP, hp, hp2, hd1, hd2, hs0, hms⟩ := codeM_spec3 hcM
    have hsl := ha.lenI
    obtain ⟨hx1, hxs0⟩ := hms xs (by simp)
    have hmx : m = pw n := by rw [← hx.lenI, hx1, hsl]
    subst hmx
    obtain ⟨hy1, hys0⟩ := hms ys (by simp)
    have hly : l = pw n := by rw [← hy.lenI, hy1, hsl]
    subst hly
    have HYS := Lib.hid hys0
    clear hy1 hys0
    have HSL := Lib.hid hsl
    have HS0 := Lib.hid hs0
    have HXS := Lib.hid hxs0
    have hn6 : n ≤ 6 := by omega
    have hn0 : 0 < n := by omega
    clear hsl hms hx1 hs0 hxs0 hd1 hd2 hcM
    go_enter Tryz.func34, Tryz.ntmps34
    go_wp2_with fail
    refine hreg.mono ?_
    rintro e w2 ⟨rfl, hb2⟩
    have hB2 := hB1.trans (hb2.mono hB1.size)
    have k2 := k1.below hb2 k1.lt
    obtain ⟨q0, q1⟩ := k2.two
    clear k0 hB0 k1 hB1 hb2
    have HOK : Hid (joiR P sq xs ys = (blaL P sq n (subL P sq n xs ++ subL P sq n ys), 0)) := Lib.hid (by rw [joiR_ok HR0.out, HSL.out])
    have hkl : w.heap.size < w2.heap.size := k2.lt
    have hls := subL_len HP sq n xs
    have hly := subL_len HP sq n ys
    have HLL := Lib.hid (And.intro hls hly)
    have HTT := Lib.hid ((subL_tab hp sq n xs).append (subL_tab hp sq n ys))
    have HSUB := Lib.hid fun (w' : World) (h : Below w2.heap.size w2 w') => l06Subspace_any P A n c sq X cx xs w' HP hn6 hn0 ((ha.below hB2).below h) HS0.out ((hx.below hB2).below h) HXS.out
    have HSUY := Lib.hid fun (w' : World) (h : Below w2.heap.size w2 w') => l06Subspace_any P A n c sq Y cy ys w' HP hn6 hn0 ((ha.below hB2).below h) HS0.out ((hy.below hB2).below h) HYS.out
    have HBLA := Lib.hid fun (w' : World) (B : Option Addr) (d : Nat) (h : Below w2.heap.size w2 w') (hb : RdII w' B ((subL P sq n xs).length + (subL P sq n ys).length) (subL P sq n xs ++ subL P sq n ys)) => l06Blade_any P A n c sq B _ d _ w' HP hn6 hn0 (by omega) ((ha.below hB2).below h) HS0.out hb HTT.out
    clear hls hly HTT
    obtain ⟨LJ, hLJ⟩ : ∃ R, R = blaL P sq n (subL P sq n xs ++ subL P sq n ys) := ⟨_, rfl⟩
    rw [← hLJ] at HOK HBLA
    obtain ⟨LA, hLA⟩ : ∃ R, R = subL P sq n xs := ⟨_, rfl⟩
    obtain ⟨LB, hLB⟩ : ∃ R, R = subL P sq n ys := ⟨_, rfl⟩
    rw [← hLA] at HSUB
    rw [← hLB] at HSUY
    rw [← hLA, ← hLB] at HBLA HLL
    clear hLJ hLA hLB
    go_wp2
    refine wp_obsD 11 w2.heap.size [[], [], [], [1, 2], [], [], [1, 2, 3, 4, 5], [1, 2, 3, 4, 5, 6], [0, 1, 2, 3, 4, 5, 6, 7], [0, 1, 2, 3, 4, 5, 6, 7, 8], []] [[], [], [], [], [], [], [], [3, 6], [], [], []] (fun x => [VIs (.agg #[.int .i64 P, .slice A n c]), VIs (.agg #[.int .i64 P, .slice A n c]), VIs (.slice X (pw n) cx), VMat w2 LA.length LA, VIs (.agg #[.int .i64 P, .slice A n c]), VIs (.slice Y (pw n) cy), VTwo w2 LA.length LA LB.length LB (x 3), VMat w2 (LA.length + LB.length) (LA ++ LB), VSl w2 (pw n) LJ, VSl w2 (pw n) LJ, VIs (.int .i64 0)]) (fun w' => Blk w' w.heap.size 28 #[.int .i64 P, .slice A n c] ∧ Below w2.heap.size w2 w') (by kernel_rfl) (by kernel_rfl) (fun x x' j hx => by
        rcases j with _ | _ | _ | _ | _ | _ | _ | _ | _ | _ | _ | j
        · rfl
        · rfl
        · rfl
        · rfl
        · rfl
        · rfl
        · rw [hx 3 (by decide)]
        · rfl
        · rfl
        · rfl
        · rfl
        · rfl)
      (weak_of [0, 1, 2, 4, 5, 10] (by decide) (fun k hk x => by
        simp only [List.mem_cons, List.not_mem_nil, or_false] at hk
        rcases hk with rfl | rfl | rfl | rfl | rfl | rfl <;> exact ⟨_, rfl⟩)) (fun j _ _ h hb => ⟨h.1.below (hb.mono (lim_ge h.2.size)) hkl, h.2.trans (hb.mono (lim_ge h.2.size))⟩) (⟨k2.drew, (Below.refl _ _).drew⟩) (fun x => ?_)
    refine obs_stepD (Eq.trans (by simp only [List.getElem?_toArray, List.getElem?_cons_zero]; exact rfl) rfl) rfl (fun w' hS hV K hK => ?_) ?_
    · obtain ⟨q0, q1⟩ := hS.1.two
      go_simp
      exact hK.out _ _ _ rfl rfl rfl (Below.refl _ _)
    simp only [List.setIfInBounds_toArray, List.set_cons_zero, List.set_cons_succ]
    refine obs_stepD (Eq.trans (by simp only [List.getElem?_toArray, List.getElem?_cons_succ, List.getElem?_cons_zero]; exact rfl) rfl) rfl (fun w' hS hV K hK => ?_) ?_
    · obtain ⟨q0, q1⟩ := hS.1.two
      go_simp
      exact hK.out _ _ _ rfl rfl rfl (Below.refl _ _)
    simp only [List.setIfInBounds_toArray, List.set_cons_zero, List.set_cons_succ]
    refine obs_stepD (Eq.trans (by simp only [List.getElem?_toArray, List.getElem?_cons_succ, List.getElem?_cons_zero]; exact rfl) rfl) rfl (fun w' hS hV K hK => ?_) ?_
    · obtain ⟨q0, q1⟩ := hS.1.two
      go_simp
      exact hK.out _ _ _ rfl rfl rfl (Below.refl _ _)
    simp only [List.setIfInBounds_toArray, List.set_cons_zero, List.set_cons_succ]
    refine obs_stepD (Eq.trans (by simp only [List.getElem?_toArray, List.getElem?_cons_succ, List.getElem?_cons_zero]; exact rfl) rfl) rfl (fun w' hS hV K hK => ?_) ?_
    · have e1 : x 1 = (.agg #[.int .i64 P, .slice A n c]) := hV 1 (by decide)
      have e2 : x 2 = (.slice X (pw n) cx) := hV 2 (by decide)
      obtain ⟨q0, q1⟩ := hS.1.two
      go_simp
      refine (HSUB.out w' hS.2).mono ?_
      rintro e v1 ⟨A2, c2, rfl, hM⟩
      exact hK.out _ _ _ rfl rfl ⟨_, _, rfl, hM.after hS.2⟩ hM.b
    simp only [List.setIfInBounds_toArray, List.set_cons_zero, List.set_cons_succ]
    refine obs_stepD (Eq.trans (by simp only [List.getElem?_toArray, List.getElem?_cons_succ, List.getElem?_cons_zero]; exact rfl) rfl) rfl (fun w' hS hV K hK => ?_) ?_
    · obtain ⟨q0, q1⟩ := hS.1.two
      go_simp
      exact hK.out _ _ _ rfl rfl rfl (Below.refl _ _)
    simp only [List.setIfInBounds_toArray, List.set_cons_zero, List.set_cons_succ]
    refine obs_stepD (Eq.trans (by simp only [List.getElem?_toArray, List.getElem?_cons_succ, List.getElem?_cons_zero]; exact rfl) rfl) rfl (fun w' hS hV K hK => ?_) ?_
    · obtain ⟨q0, q1⟩ := hS.1.two
      go_simp
      exact hK.out _ _ _ rfl rfl rfl (Below.refl _ _)
    simp only [List.setIfInBounds_toArray, List.set_cons_zero, List.set_cons_succ]
    refine obs_stepD (Eq.trans (by simp only [List.getElem?_toArray, List.getElem?_cons_succ, List.getElem?_cons_zero]; exact rfl) rfl) rfl (fun w' hS hV K hK => ?_) ?_
    · have e1 : x 1 = (.agg #[.int .i64 P, .slice A n c]) := hV 1 (by decide)
      have e2 : x 2 = (.slice X (pw n) cx) := hV 2 (by decide)
      obtain ⟨A3, c3, e3, h3⟩ := hV 3 (by decide)
      have e4 : x 4 = (.agg #[.int .i64 P, .slice A n c]) := hV 4 (by decide)
      have e5 : x 5 = (.slice Y (pw n) cy) := hV 5 (by decide)
      obtain ⟨q0, q1⟩ := hS.1.two
      go_simp
      refine (HSUY.out w' hS.2).mono ?_
      rintro e v1 ⟨A2, c2, rfl, hM⟩
      exact hK.out _ _ _ rfl rfl ⟨_, _, _, _, e3, rfl, MkII2.of_first h3 hM⟩ hM.b
    simp only [List.setIfInBounds_toArray, List.set_cons_zero, List.set_cons_succ]
    refine obs_stepD (Eq.trans (by simp only [List.getElem?_toArray, List.getElem?_cons_succ, List.getElem?_cons_zero]; exact rfl) rfl) rfl (fun w' hS hV K hK => ?_) ?_
    · have e1 : x 1 = (.agg #[.int .i64 P, .slice A n c]) := hV 1 (by decide)
      have e2 : x 2 = (.slice X (pw n) cx) := hV 2 (by decide)
      obtain ⟨A3, c3, e3, h3⟩ := hV 3 (by decide)
      have e4 : x 4 = (.agg #[.int .i64 P, .slice A n c]) := hV 4 (by decide)
      have e5 : x 5 = (.slice Y (pw n) cy) := hV 5 (by decide)
      obtain ⟨A6, c6, B6, d6, e3, e6, h6⟩ := hV 6 (by decide)
      obtain ⟨q0, q1⟩ := hS.1.two
      refine wp_appRows w2 w' _ _ rfl A6 LA.length c6 LA B6 LB.length d6 LB h6 (by have := HLL.out; omega) e3 e6 ?_
      intro A' c' w'' hM hgr
      exact hK.out _ _ _ rfl rfl ⟨_, _, rfl, hM⟩ (h6.grown_below hgr (Below.refl _ _) (Nat.le_refl _))
    simp only [List.setIfInBounds_toArray, List.set_cons_zero, List.set_cons_succ]
    refine obs_stepD (Eq.trans (by simp only [List.getElem?_toArray, List.getElem?_cons_succ, List.getElem?_cons_zero]; exact rfl) rfl) rfl (fun w' hS hV K hK => ?_) ?_
    · have e0 : x 0 = (.agg #[.int .i64 P, .slice A n c]) := hV 0 (by decide)
      have e1 : x 1 = (.agg #[.int .i64 P, .slice A n c]) := hV 1 (by decide)
      have e2 : x 2 = (.slice X (pw n) cx) := hV 2 (by decide)
      have e4 : x 4 = (.agg #[.int .i64 P, .slice A n c]) := hV 4 (by decide)
      have e5 : x 5 = (.slice Y (pw n) cy) := hV 5 (by decide)
      obtain ⟨A7, c7, e7, h7⟩ := hV 7 (by decide)
      obtain ⟨q0, q1⟩ := hS.1.two
      go_simp
      refine (HBLA.out w' _ _ hS.2 h7.rd).mono ?_
      rintro e v1 ⟨A2, c2, rfl, hM⟩
      exact hK.out _ _ _ rfl rfl ⟨_, _, rfl, hM.after hS.2⟩ hM.b
    simp only [List.setIfInBounds_toArray, List.set_cons_zero, List.set_cons_succ]
    refine obs_stepD (Eq.trans (by simp only [List.getElem?_toArray, List.getElem?_cons_succ, List.getElem?_cons_zero]; exact rfl) rfl) rfl (fun w' hS hV K hK => ?_) ?_
    · have e0 : x 0 = (.agg #[.int .i64 P, .slice A n c]) := hV 0 (by decide)
      have e1 : x 1 = (.agg #[.int .i64 P, .slice A n c]) := hV 1 (by decide)
      have e2 : x 2 = (.slice X (pw n) cx) := hV 2 (by decide)
      have e4 : x 4 = (.agg #[.int .i64 P, .slice A n c]) := hV 4 (by decide)
      have e5 : x 5 = (.slice Y (pw n) cy) := hV 5 (by decide)
      obtain ⟨A7, c7, e7, h7⟩ := hV 7 (by decide)
      obtain ⟨A8, c8, e8, h8⟩ := hV 8 (by decide)
      obtain ⟨q0, q1⟩ := hS.1.two
      go_simp
      exact hK.out _ _ _ rfl rfl ⟨_, _, rfl, h8⟩ (Below.refl _ _)
    simp only [List.setIfInBounds_toArray, List.set_cons_zero, List.set_cons_succ]
    refine obs_stepD (Eq.trans (by simp only [List.getElem?_toArray, List.getElem?_cons_succ, List.getElem?_cons_zero]; exact rfl) rfl) rfl (fun w' hS hV K hK => ?_) ?_
    · obtain ⟨q0, q1⟩ := hS.1.two
      go_simp
      exact hK.out _ _ _ rfl rfl rfl (Below.refl _ _)
    simp only [List.setIfInBounds_toArray, List.set_cons_zero, List.set_cons_succ]
    refine fun w' hS hV => ?_
    have e0 : x 0 = (.agg #[.int .i64 P, .slice A n c]) := hV 0 (by decide)
    have e1 : x 1 = (.agg #[.int .i64 P, .slice A n c]) := hV 1 (by decide)
    have e2 : x 2 = (.slice X (pw n) cx) := hV 2 (by decide)
    have e4 : x 4 = (.agg #[.int .i64 P, .slice A n c]) := hV 4 (by decide)
    have e5 : x 5 = (.slice Y (pw n) cy) := hV 5 (by decide)
    obtain ⟨A7, c7, e7, h7⟩ := hV 7 (by decide)
    obtain ⟨A8, c8, e8, h8⟩ := hV 8 (by decide)
    obtain ⟨A9, c9, e9, h9⟩ := hV 9 (by decide)
    have e10 : x 10 = (.int .i64 0) := hV 10 (by decide)
    simp only [e0, e1, e2, e4, e5, e7, e8, e9, e10]
    clear e0 e1 e2 e4 e5 e7 e8 e9 e10
    refine wpAny_done (by kernel_rfl) ?_ _
    go_wp2
    go_ret2
    exact aRow3 HOK.out (h9.after hB2)
  · obtain ⟨r, hr⟩ : ∃ r, r = codeL P sq [xs, ys] := ⟨_, rfl⟩
    have HR := Lib.hid hr
    have HR0 := Lib.hid hr0
    have b0 : (r != 0) = true := code_ne (by rw [hr]; exact hr0)
    rw [← hr] at hreg
    clear hr hr0
    go_enter Tryz.func34, Tryz.ntmps34
    go_wp2_with fail
    refine hreg.mono ?_
    rintro e w2 ⟨rfl, hb2⟩
    have hB2 := hB1.trans (hb2.mono hB1.size)
    have k2 := k1.below hb2 k1.lt
    obtain ⟨q0, q1⟩ := k2.two
    clear k0 hB0 k1 hB1 hb2
    go_wp2
    go_ret2
    exact noRow3 (by rw [joiR_bad HR0.out, HR.out]) hB2

end Go.Proofs.YtommppijnccomaaGreat

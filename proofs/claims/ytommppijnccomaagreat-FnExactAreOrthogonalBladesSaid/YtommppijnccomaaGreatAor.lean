/-
  AreOrthogonalBlades: the program's function and the reference's return the same.
-/
import Derived.Test.YtommppijnccomaaGreatBld
import Derived.Test.YtommppijnccomaaGreatBlo
namespace Go.Proofs.YtommppijnccomaaGreat
open Go.RowKit

/-- Are all vectors of the first list orthogonal to all of the second? -/
def orthB (P : Int) (sq : List Int) (a b : List (List Int)) : Bool := a.all fun v => b.all fun u => pairL P sq v u == 0
theorem orthB_bad {P : Int} {sq : List Int} {a b : List (List Int)} {v u : List Int} (hv : v ∈ a) (hu : u ∈ b) (h : ¬ pairL P sq v u = 0) : orthB P sq a b = false := by
  unfold orthB
  rw [List.all_eq_false]
  refine ⟨v, hv, ?_⟩
  rw [Bool.not_eq_true, List.all_eq_false]
  exact ⟨u, hu, by simpa using h⟩
theorem orthB_good {P : Int} {sq : List Int} {a b : List (List Int)} (h : ∀ i, i < a.length → ∀ j, j < b.length → pairL P sq (a.getD i []) (b.getD j []) = 0) : orthB P sq a b = true := by
  unfold orthB
  rw [List.all_eq_true]
  intro v hv
  rw [List.all_eq_true]
  intro u hu
  obtain ⟨i, hi, rfl⟩ := List.getElem_of_mem hv
  obtain ⟨j, hj, rfl⟩ := List.getElem_of_mem hu
  have := h i hi j hj
  rw [getD_of_lt [] hi, getD_of_lt [] hj] at this
  simpa using this

/-- AreOrthogonalBlades. -/
def aorR (P : Int) (sq : List Int) (xs : List Int) (ys : List Int) : Bool × Int := if codeL P sq [xs, ys] = 0 then (orthB P sq (subL P sq sq.length xs) (subL P sq sq.length ys), 0) else (false, codeL P sq [xs, ys])
theorem aorR_ok {P : Int} {sq xs ys : List Int} (h : codeL P sq [xs, ys] = 0) : aorR P sq xs ys = (orthB P sq (subL P sq sq.length xs) (subL P sq sq.length ys), 0) := by unfold aorR; rw [if_pos h]
theorem aorR_bad {P : Int} {sq xs ys : List Int} (h : ¬ codeL P sq [xs, ys] = 0) : aorR P sq xs ys = (false, codeL P sq [xs, ys]) := by unfold aorR; rw [if_neg h]

set_option maxHeartbeats 3200000 in
set_option maxRecDepth 8000 in
theorem AreOrthogonalBlades_any (P : Int) (A : Option Addr) (n c : Nat) (sq : List Int) (X : Option Addr) (m cx : Nat) (xs : List Int) (Y : Option Addr) (l cy : Nat) (ys : List Int) (w : World) (hn : n ≤ 1048576) (hm : m ≤ 1048576) (hl : l ≤ 1048576) (ha : Rd w A n (ints sq)) (hx : Rd w X m (ints xs)) (hcx : m ≤ cx) (hy : Rd w Y l (ints ys)) (hcy : l ≤ cy) :
    Calls Tryz.prog 26 #[.agg #[.int .i64 P, .slice A n c], .slice X m cx, .slice Y l cy] w fun e w' => e = .returned (.tuple #[.bool (aorR P sq xs ys).1, .int .i64 (aorR P sq xs ys).2]) ∧ Below w.heap.size w w' := by
  have hB0 : Below w.heap.size w (w.alloc (.cells #[.int .i64 P, .slice A n c] 28)) := (Below.refl _ _).alloc (Nat.le_refl _) _
  have k0 : Blk (w.alloc (.cells #[.int .i64 P, .slice A n c] 28)) w.heap.size 28 #[.int .i64 P, .slice A n c] := Blk.new _ _ _
  have hB1 : Below w.heap.size w ((w.alloc (.cells #[.int .i64 P, .slice A n c] 28)).alloc (.cells #[.slice X m cx, .slice Y l cy] 22)) := hB0.alloc (by simp) _
  have k1 : Blk ((w.alloc (.cells #[.int .i64 P, .slice A n c] 28)).alloc (.cells #[.slice X m cx, .slice Y l cy] 22)) w.heap.size 28 #[.int .i64 P, .slice A n c] := k0.alloc _
  have hreg := checkBlades_any P A (some ⟨w.heap.size + 1, 0, none⟩) n c 2 2 sq [xs, ys] ((w.alloc (.cells #[.int .i64 P, .slice A n c] 28)).alloc (.cells #[.slice X m cx, .slice Y l cy] 22)) hn (by omega) (ha.below hB1) (rdII_two (Blk.newAt3 (by simp)) (hx.below hB1) (hy.below hB1) hcx hcy) (all_two (by rw [hx.lenI]; exact hm) (by rw [hy.lenI]; exact hl))
  by_cases hr0 : codeL P sq [xs, ys] = 0
  · skip
    have hcM := (codeL_zero hr0).1
    rw [hr0] at hreg
    have HR0 := Lib.hid hr0
    clear hr0
    obtain ⟨HP, hp, hp2, hd1, hd2, hs0, hms⟩ := codeM_spec3 hcM
    have hsl := ha.lenI
    obtain ⟨hx1, hxs0⟩ := hms xs (by simp)
    have hmx : m = pw n := by rw [← hx.lenI, hx1, hsl]
    subst hmx
    obtain ⟨hy1, hys0⟩ := hms ys (by simp)
    have hly : l = pw n := by rw [← hy.lenI, hy1, hsl]
    subst hly
    have HYS := Lib.hid hys0
    clear hy1 hys0
    have HSL := Lib.hid hsl
    have HS0 := Lib.hid hs0
    have HXS := Lib.hid hxs0
    have hn6 : n ≤ 6 := by omega
    have hn0 : 0 < n := by omega
    clear hsl hms hx1 hs0 hxs0 hd1 hd2 hcM
    go_enter Tryz.func26, Tryz.ntmps26
    go_wp2_with fail
    refine hreg.mono ?_
    rintro e w2 ⟨rfl, hb2⟩
    have hB2 := hB1.trans (hb2.mono hB1.size)
    have k2 := k1.below hb2 k1.lt
    obtain ⟨q0, q1⟩ := k2.two
    clear k0 hB0 k1 hB1 hb2
    have HOK : Hid (aorR P sq xs ys = (orthB P sq (subL P sq n xs) (subL P sq n ys), 0)) := Lib.hid (by rw [aorR_ok HR0.out, HSL.out])
    have hla := subL_len HP sq n xs
    have hlb := subL_len HP sq n ys
    have HTA := Lib.hid (subL_tab hp sq n xs)
    have HTB := Lib.hid (subL_tab hp sq n ys)
    have HSUBX := Lib.hid fun (w' : World) (h : Below w2.heap.size w2 w') => subspace_any P A n c sq X cx xs w' HP hn6 hn0 ((ha.below hB2).below h) HS0.out ((hx.below hB2).below h) HXS.out
    have HSUBY := Lib.hid fun (w' : World) (h : Below w2.heap.size w2 w') => subspace_any P A n c sq Y cy ys w' HP hn6 hn0 ((ha.below hB2).below h) HS0.out ((hy.below hB2).below h) HYS.out
    obtain ⟨LA, hLA⟩ : ∃ R, R = subL P sq n xs := ⟨_, rfl⟩
    obtain ⟨LB, hLB⟩ : ∃ R, R = subL P sq n ys := ⟨_, rfl⟩
    rw [← hLA] at HOK HTA HSUBX hla
    rw [← hLB] at HOK HTB HSUBY hlb
    clear hLA hLB
    go_wp2_with fail
    refine (HSUBX.out _ (Below.refl _ _)).mono ?_
    rintro e w3 ⟨A3, c3, rfl, hMA⟩
    have hb23 := hMA.b
    have k3 := k2.below hb23 k2.lt
    clear k2 q0 q1
    go_wp2
    go_loopw [10, 25] (fun _ i wr => ∃ k : Nat, k ≤ LA.length ∧ i = .int .i64 k ∧ Hid (∀ i, i < k → ∀ j, j < LB.length → pairL P sq (LA.getD i []) (LB.getD j []) = 0) ∧ Below w3.heap.size w3 wr ∧ Blk wr w.heap.size 28 #[.int .i64 P, .slice A n c]) (fun _ i _ => LA.length - (intOf i).toNat)
    case atStart => exact ⟨0, by omega, rfl, Lib.hid (fun i hi => absurd hi (by omega)), Below.refl _ _, k3⟩
    case round =>
      obtain ⟨k, hk, rfl, HZ, hBr, k4⟩ := hrel
      clear k3
      obtain ⟨q0, q1⟩ := k4.two
      have hb2r := hb23.trans (hBr.mono hb23.size)
      by_cases hlt : k < LA.length
      · obtain ⟨g, o, rfl, hxk, A1, c1, hcx, hr1, hcc⟩ := (hMA.rd.below hBr).at_ hlt
        have HRX := Lib.hid (HTA.out LA[k] (List.getElem_mem hxk))
        have HMX := Lib.hid (List.getElem_mem hxk)
        rw [HRX.out.1] at hcx hr1
        have HGX : Hid (LA.getD k [] = LA[k]) := Lib.hid (getD_of_lt [] hxk)
        obtain ⟨va, hva⟩ : ∃ v, v = LA[k] := ⟨_, rfl⟩
        rw [← hva] at hr1 HRX HMX HGX
        clear hva
        obtain ⟨wo, rfl⟩ : ∃ W, W = wr := ⟨_, rfl⟩
        clear hcc hxk
        go_wp2_with fail
        refine (HSUBY.out _ hb2r).mono ?_
        rintro e w4 ⟨A4, c4, rfl, hMB⟩
        have k5 := k4.below hMB.b k4.lt
        clear k4 q0 q1
        go_wp2
        go_loopw [12, 33] (fun _ i wi => ∃ q : Nat, q ≤ LB.length ∧ i = .int .i64 q ∧ Hid (∀ j, j < q → pairL P sq va (LB.getD j []) = 0) ∧ Below w4.heap.size w4 wi ∧ Blk wi w.heap.size 28 #[.int .i64 P, .slice A n c]) (fun _ i _ => LB.length - (intOf i).toNat)
        case atStart => exact ⟨0, by omega, rfl, Lib.hid (fun i hi => absurd hi (by omega)), Below.refl _ _, k5⟩
        case round =>
          obtain ⟨q, hq, rfl, HZq, hBi, k6⟩ := hrel
          clear k5
          obtain ⟨wi, rfl⟩ : ∃ W, W = wr := ⟨_, rfl⟩
          obtain ⟨q0, q1⟩ := k6.two
          have hboi := hMB.b.trans (hBi.mono hMB.b.size)
          have hb2i := hb2r.trans (hboi.mono hb2r.size)
          by_cases hlq : q < LB.length
          · obtain ⟨g2, o2, rfl, hyk, A5, c5, hcy2, hr2, hcc2⟩ := (hMB.rd.below hBi).at_ hlq
            have HRY := Lib.hid (HTB.out LB[q] (List.getElem_mem hyk))
            have HMY := Lib.hid (List.getElem_mem hyk)
            rw [HRY.out.1] at hcy2 hr2
            have HGY : Hid (LB.getD q [] = LB[q]) := Lib.hid (getD_of_lt [] hyk)
            obtain ⟨vb, hvb⟩ : ∃ v, v = LB[q] := ⟨_, rfl⟩
            rw [← hvb] at hr2 HRY HMY HGY
            clear hvb
            have hpair := pair_any P A n c sq A1 c1 va A5 c5 vb wi hp hp2 hn6 ((ha.below hB2).below hb2i) HS0.out (hr1.below hboi) HRX.out.2 hr2 HRY.out.2
            obtain ⟨vp, hvp⟩ : ∃ v, v = pairL P sq va vb := ⟨_, rfl⟩
            have HVP := Lib.hid hvp
            rw [← hvp] at hpair
            clear hvp hcc2 hyk
            by_cases hv0 : vp = 0
            · have HV0 := Lib.hid hv0
              have hv0' : (vp != 0) = false := ne_bool' hv0
              clear hv0
              go_wp2_with fail
              refine hpair.mono ?_
              rintro e w5 ⟨rfl, hb5⟩
              have HB5 := hBi.trans (hb5.mono hBi.size)
              have K5 := k6.below hb5 k6.lt
              go_wp2
              go_roundw
              case rel => exact ⟨q + 1, by omega, by go_num, Lib.hid (fun j hj => by
                by_cases e : j = q
                · rw [e, HGY.out, ← HVP.out, HV0.out]
                · exact HZq.out j (by omega)), HB5, K5⟩
              case measure => simp [intOf]; omega
            · have HV0 : Hid (orthB P sq LA LB = false) := Lib.hid (orthB_bad HMX.out HMY.out (by rw [← HVP.out]; exact hv0))
              have hv0' : (vp != 0) = true := ne_bool hv0
              clear hv0
              go_wp2_with fail
              refine hpair.mono ?_
              rintro e w5 ⟨rfl, hb5⟩
              have hb2w := hb2i.trans (hb5.mono hb2i.size)
              go_wp2
              go_ret2
              exact ⟨ret_bi3 (by rw [HOK.out, HV0.out]), hB2.trans (hb2w.mono hB2.size)⟩
          · obtain rfl : q = LB.length := by omega
            have HB5 := hBr.trans (hboi.mono hBr.size)
            go_wp2
            go_roundw
            case rel => exact ⟨k + 1, by omega, by go_num, Lib.hid (fun i hi j hj => by
              by_cases e : i = k
              · rw [e, HGX.out]; exact HZq.out j hj
              · exact HZ.out i (by omega) j hj), HB5, k6⟩
            case measure => simp [intOf]; omega
      · obtain rfl : k = LA.length := by omega
        have HG : Hid (orthB P sq LA LB = true) := Lib.hid (orthB_good HZ.out)
        go_wp2
        go_ret2
        exact ⟨ret_bi3 (by rw [HOK.out, HG.out]), hB2.trans (hb2r.mono hB2.size)⟩
  · obtain ⟨r, hr⟩ : ∃ r, r = codeL P sq [xs, ys] := ⟨_, rfl⟩
    have HR := Lib.hid hr
    have HR0 := Lib.hid hr0
    have b0 : (r != 0) = true := code_ne (by rw [hr]; exact hr0)
    rw [← hr] at hreg
    clear hr hr0
    go_enter Tryz.func26, Tryz.ntmps26
    go_wp2_with fail
    refine hreg.mono ?_
    rintro e w2 ⟨rfl, hb2⟩
    have hB2 := hB1.trans (hb2.mono hB1.size)
    have k2 := k1.below hb2 k1.lt
    obtain ⟨q0, q1⟩ := k2.two
    clear k0 hB0 k1 hB1 hb2
    go_wp2
    go_ret2
    exact ⟨ret_bi3 (by rw [aorR_bad HR0.out, HR.out]), hB2⟩

set_option maxHeartbeats 3200000 in
set_option maxRecDepth 8000 in
theorem specAreOrthogonalBlades_any (P : Int) (A : Option Addr) (n c : Nat) (sq : List Int) (X : Option Addr) (m cx : Nat) (xs : List Int) (Y : Option Addr) (l cy : Nat) (ys : List Int) (w : World) (hn : n ≤ 1048576) (hm : m ≤ 1048576) (hl : l ≤ 1048576) (ha : Rd w A n (ints sq)) (hx : Rd w X m (ints xs)) (hcx : m ≤ cx) (hy : Rd w Y l (ints ys)) (hcy : l ≤ cy) :
    Calls Tryz.prog 25 #[.agg #[.int .i64 P, .slice A n c], .slice X m cx, .slice Y l cy] w fun e w' => e = .returned (.tuple #[.bool (aorR P sq xs ys).1, .int .i64 (aorR P sq xs ys).2]) ∧ Below w.heap.size w w' := by
  have hB0 : Below w.heap.size w (w.alloc (.cells #[.int .i64 P, .slice A n c] 28)) := (Below.refl _ _).alloc (Nat.le_refl _) _
  have k0 : Blk (w.alloc (.cells #[.int .i64 P, .slice A n c] 28)) w.heap.size 28 #[.int .i64 P, .slice A n c] := Blk.new _ _ _
  have hB1 : Below w.heap.size w ((w.alloc (.cells #[.int .i64 P, .slice A n c] 28)).alloc (.cells #[.slice X m cx, .slice Y l cy] 22)) := hB0.alloc (by simp) _
  have k1 : Blk ((w.alloc (.cells #[.int .i64 P, .slice A n c] 28)).alloc (.cells #[.slice X m cx, .slice Y l cy] 22)) w.heap.size 28 #[.int .i64 P, .slice A n c] := k0.alloc _
  have hreg := l06Code_any P A (some ⟨w.heap.size + 1, 0, none⟩) n c 2 2 sq [xs, ys] ((w.alloc (.cells #[.int .i64 P, .slice A n c] 28)).alloc (.cells #[.slice X m cx, .slice Y l cy] 22)) hn (by omega) (ha.below hB1) (rdII_two (Blk.newAt3 (by simp)) (hx.below hB1) (hy.below hB1) hcx hcy) (all_two (by rw [hx.lenI]; exact hm) (by rw [hy.lenI]; exact hl))
  by_cases hr0 : codeL P sq [xs, ys] = 0
  · skip
    have hcM := (codeL_zero hr0).1
    rw [hr0] at hreg
    have HR0 := Lib.hid hr0
    clear hr0
    obtain ⟨HP, hp, hp2, hd1, hd2, hs0, hms⟩ := codeM_spec3 hcM
    have hsl := ha.lenI
    obtain ⟨hx1, hxs0⟩ := hms xs (by simp)
    have hmx : m = pw n := by rw [← hx.lenI, hx1, hsl]
    subst hmx
    obtain ⟨hy1, hys0⟩ := hms ys (by simp)
    have hly : l = pw n := by rw [← hy.lenI, hy1, hsl]
    subst hly
    have HYS := Lib.hid hys0
    clear hy1 hys0
    have HSL := Lib.hid hsl
    have HS0 := Lib.hid hs0
    have HXS := Lib.hid hxs0
    have hn6 : n ≤ 6 := by omega
    have hn0 : 0 < n := by omega
    clear hsl hms hx1 hs0 hxs0 hd1 hd2 hcM
    go_enter Tryz.func25, Tryz.ntmps25
    go_wp2_with fail
    refine hreg.mono ?_
    rintro e w2 ⟨rfl, hb2⟩
    have hB2 := hB1.trans (hb2.mono hB1.size)
    have k2 := k1.below hb2 k1.lt
    obtain ⟨q0, q1⟩ := k2.two
    clear k0 hB0 k1 hB1 hb2
    have HOK : Hid (aorR P sq xs ys = (orthB P sq (subL P sq n xs) (subL P sq n ys), 0)) := Lib.hid (by rw [aorR_ok HR0.out, HSL.out])
    have hla := subL_len HP sq n xs
    have hlb := subL_len HP sq n ys
    have HTA := Lib.hid (subL_tab hp sq n xs)
    have HTB := Lib.hid (subL_tab hp sq n ys)
    have HSUBX := Lib.hid fun (w' : World) (h : Below w2.heap.size w2 w') => l06Subspace_any P A n c sq X cx xs w' HP hn6 hn0 ((ha.below hB2).below h) HS0.out ((hx.below hB2).below h) HXS.out
    have HSUBY := Lib.hid fun (w' : World) (h : Below w2.heap.size w2 w') => l06Subspace_any P A n c sq Y cy ys w' HP hn6 hn0 ((ha.below hB2).below h) HS0.out ((hy.below hB2).below h) HYS.out
    obtain ⟨LA, hLA⟩ : ∃ R, R = subL P sq n xs := ⟨_, rfl⟩
    obtain ⟨LB, hLB⟩ : ∃ R, R = subL P sq n ys := ⟨_, rfl⟩
    rw [← hLA] at HOK HTA HSUBX hla
    rw [← hLB] at HOK HTB HSUBY hlb
    clear hLA hLB
    go_wp2
    refine wp_obs 8 [[], [], [0, 1], [], [], [3, 4], [0, 1, 2], [3, 4, 5]] [VIs (.agg #[.int .i64 P, .slice A n c]), VIs (.slice X (pw n) cx), VMat w2 LA.length LA, VIs (.agg #[.int .i64 P, .slice A n c]), VIs (.slice Y (pw n) cy), VMat w2 LB.length LB, VMat w2 LA.length LA, VMat w2 LB.length LB] (fun w' => Blk w' w.heap.size 28 #[.int .i64 P, .slice A n c] ∧ Below w2.heap.size w2 w') (by kernel_rfl) (by kernel_rfl) (fun _ _ h hb => ⟨h.1.below hb h.1.lt, h.2.trans (hb.mono h.2.size)⟩) (⟨k2.drew, (Below.refl _ _).drew⟩) (fun x => ?_)
    refine obs_step (Eq.trans (by simp only [List.getElem?_toArray, List.getElem?_cons_zero]; exact rfl) rfl) rfl (fun w' hS hV K hK => ?_) ?_
    · obtain ⟨q0, q1⟩ := hS.1.two
      go_simp
      exact hK.out _ _ _ rfl rfl rfl (Below.refl _ _)
    simp only [List.setIfInBounds_toArray, List.set_cons_zero, List.set_cons_succ]
    refine obs_step (Eq.trans (by simp only [List.getElem?_toArray, List.getElem?_cons_succ, List.getElem?_cons_zero]; exact rfl) rfl) rfl (fun w' hS hV K hK => ?_) ?_
    · obtain ⟨q0, q1⟩ := hS.1.two
      go_simp
      exact hK.out _ _ _ rfl rfl rfl (Below.refl _ _)
    simp only [List.setIfInBounds_toArray, List.set_cons_zero, List.set_cons_succ]
    refine obs_step (Eq.trans (by simp only [List.getElem?_toArray, List.getElem?_cons_succ, List.getElem?_cons_zero]; exact rfl) rfl) rfl (fun w' hS hV K hK => ?_) ?_
    · have e0 : x 0 = (.agg #[.int .i64 P, .slice A n c]) := hV 0 (by decide)
      have e1 : x 1 = (.slice X (pw n) cx) := hV 1 (by decide)
      obtain ⟨q0, q1⟩ := hS.1.two
      go_simp
      refine (HSUBX.out _ hS.2).mono ?_
      rintro e v1 ⟨A2, c2, rfl, hM⟩
      exact hK.out _ _ _ rfl rfl ⟨_, _, rfl, hM.after hS.2⟩ hM.b
    simp only [List.setIfInBounds_toArray, List.set_cons_zero, List.set_cons_succ]
    refine obs_step (Eq.trans (by simp only [List.getElem?_toArray, List.getElem?_cons_succ, List.getElem?_cons_zero]; exact rfl) rfl) rfl (fun w' hS hV K hK => ?_) ?_
    · obtain ⟨q0, q1⟩ := hS.1.two
      go_simp
      exact hK.out _ _ _ rfl rfl rfl (Below.refl _ _)
    simp only [List.setIfInBounds_toArray, List.set_cons_zero, List.set_cons_succ]
    refine obs_step (Eq.trans (by simp only [List.getElem?_toArray, List.getElem?_cons_succ, List.getElem?_cons_zero]; exact rfl) rfl) rfl (fun w' hS hV K hK => ?_) ?_
    · obtain ⟨q0, q1⟩ := hS.1.two
      go_simp
      exact hK.out _ _ _ rfl rfl rfl (Below.refl _ _)
    simp only [List.setIfInBounds_toArray, List.set_cons_zero, List.set_cons_succ]
    refine obs_step (Eq.trans (by simp only [List.getElem?_toArray, List.getElem?_cons_succ, List.getElem?_cons_zero]; exact rfl) rfl) rfl (fun w' hS hV K hK => ?_) ?_
    · have e3 : x 3 = (.agg #[.int .i64 P, .slice A n c]) := hV 3 (by decide)
      have e4 : x 4 = (.slice Y (pw n) cy) := hV 4 (by decide)
      obtain ⟨q0, q1⟩ := hS.1.two
      go_simp
      refine (HSUBY.out _ hS.2).mono ?_
      rintro e v1 ⟨A2, c2, rfl, hM⟩
      exact hK.out _ _ _ rfl rfl ⟨_, _, rfl, hM.after hS.2⟩ hM.b
    simp only [List.setIfInBounds_toArray, List.set_cons_zero, List.set_cons_succ]
    refine obs_step (Eq.trans (by simp only [List.getElem?_toArray, List.getElem?_cons_succ, List.getElem?_cons_zero]; exact rfl) rfl) rfl (fun w' hS hV K hK => ?_) ?_
    · have e0 : x 0 = (.agg #[.int .i64 P, .slice A n c]) := hV 0 (by decide)
      have e1 : x 1 = (.slice X (pw n) cx) := hV 1 (by decide)
      obtain ⟨A2, c2, e2, h2⟩ := hV 2 (by decide)
      obtain ⟨q0, q1⟩ := hS.1.two
      go_simp
      exact hK.out _ _ _ rfl rfl ⟨_, _, rfl, h2⟩ (Below.refl _ _)
    simp only [List.setIfInBounds_toArray, List.set_cons_zero, List.set_cons_succ]
    refine obs_step (Eq.trans (by simp only [List.getElem?_toArray, List.getElem?_cons_succ, List.getElem?_cons_zero]; exact rfl) rfl) rfl (fun w' hS hV K hK => ?_) ?_
    · have e3 : x 3 = (.agg #[.int .i64 P, .slice A n c]) := hV 3 (by decide)
      have e4 : x 4 = (.slice Y (pw n) cy) := hV 4 (by decide)
      obtain ⟨A5, c5, e5, h5⟩ := hV 5 (by decide)
      obtain ⟨q0, q1⟩ := hS.1.two
      go_simp
      exact hK.out _ _ _ rfl rfl ⟨_, _, rfl, h5⟩ (Below.refl _ _)
    simp only [List.setIfInBounds_toArray, List.set_cons_zero, List.set_cons_succ]
    refine fun w' hS hV => ?_
    have e0 : x 0 = (.agg #[.int .i64 P, .slice A n c]) := hV 0 (by decide)
    have e1 : x 1 = (.slice X (pw n) cx) := hV 1 (by decide)
    obtain ⟨A2, c2, e2, h2⟩ := hV 2 (by decide)
    have e3 : x 3 = (.agg #[.int .i64 P, .slice A n c]) := hV 3 (by decide)
    have e4 : x 4 = (.slice Y (pw n) cy) := hV 4 (by decide)
    obtain ⟨A5, c5, e5, h5⟩ := hV 5 (by decide)
    obtain ⟨A6, c6, e6, h6⟩ := hV 6 (by decide)
    obtain ⟨A7, c7, e7, h7⟩ := hV 7 (by decide)
    simp only [e0, e1, e2, e3, e4, e5, e6, e7]
    clear e0 e1 e2 e3 e4 e5 e6 e7
    refine wpAny_done (by kernel_rfl) ?_ _
    obtain ⟨w3, rfl⟩ : ∃ W, W = w' := ⟨_, rfl⟩
    have k3 := hS.1
    have hb23 := hS.2
    have hMA := h6
    have hMB := h7
    obtain ⟨A3, rfl⟩ : ∃ x, x = A6 := ⟨_, rfl⟩
    obtain ⟨c3, rfl⟩ : ∃ x, x = c6 := ⟨_, rfl⟩
    obtain ⟨A4, rfl⟩ : ∃ x, x = A7 := ⟨_, rfl⟩
    obtain ⟨c4, rfl⟩ : ∃ x, x = c7 := ⟨_, rfl⟩
    clear hS k2 h2 h5 h6 h7
    go_wp2
    go_loopw [11] (fun i wr => ∃ k : Nat, k ≤ LA.length ∧ i = .int .i64 k ∧ Hid (∀ i, i < k → ∀ j, j < LB.length → pairL P sq (LA.getD i []) (LB.getD j []) = 0) ∧ Below w3.heap.size w3 wr ∧ Blk wr w.heap.size 28 #[.int .i64 P, .slice A n c]) (fun i _ => LA.length - (intOf i).toNat)
    case atStart => exact ⟨0, by omega, rfl, Lib.hid (fun i hi => absurd hi (by omega)), Below.refl _ _, k3⟩
    case round =>
      obtain ⟨k, hk, rfl, HZ, hBr, k4⟩ := hrel
      clear k3
      obtain ⟨wo, rfl⟩ : ∃ W, W = wr := ⟨_, rfl⟩
      have hb2r := hb23.trans (hBr.mono hb23.size)
      by_cases hlt : k < LA.length
      · obtain ⟨g, o, rfl, hxk, A1, c1, hcx0, hr1, hcc⟩ := (hMA.rd.below hBr).at_ hlt
        have HRX := Lib.hid (HTA.out LA[k] (List.getElem_mem hxk))
        have HMX := Lib.hid (List.getElem_mem hxk)
        rw [HRX.out.1] at hcx0 hr1
        have HGX : Hid (LA.getD k [] = LA[k]) := Lib.hid (getD_of_lt [] hxk)
        obtain ⟨va, hva⟩ : ∃ v, v = LA[k] := ⟨_, rfl⟩
        rw [← hva] at hr1 HRX HMX HGX
        clear hva
        have i1 : (0 : Int) ≤ (k : Int) := by omega
        have i2 : (k : Int) < (LA.length : Int) := by omega
        clear hcc hxk
        go_wp2
        go_loopw [12] (fun i wi => ∃ q : Nat, q ≤ LB.length ∧ i = .int .i64 q ∧ Hid (∀ j, j < q → pairL P sq va (LB.getD j []) = 0) ∧ Below wo.heap.size wo wi ∧ Blk wi w.heap.size 28 #[.int .i64 P, .slice A n c]) (fun i _ => LB.length - (intOf i).toNat)
        case atStart => exact ⟨0, by omega, rfl, Lib.hid (fun i hi => absurd hi (by omega)), Below.refl _ _, k4⟩
        case round =>
          obtain ⟨q, hq, rfl, HZq, hBi, k6⟩ := hrel
          obtain ⟨wi, rfl⟩ : ∃ W, W = wr := ⟨_, rfl⟩
          obtain ⟨q0, q1⟩ := k6.two
          have hboi := hBi
          have hb2i := hb2r.trans (hboi.mono hb2r.size)
          have hcx := (hBi.cell (World.block_lt_of_cell? _ _ hcx0)).trans hcx0
          by_cases hlq : q < LB.length
          · obtain ⟨g2, o2, rfl, hyk, A5, c5, hcy2, hr2, hcc2⟩ := ((hMB.rd.below hBr).below hBi).at_ hlq
            have HRY := Lib.hid (HTB.out LB[q] (List.getElem_mem hyk))
            have HMY := Lib.hid (List.getElem_mem hyk)
            rw [HRY.out.1] at hcy2 hr2
            have HGY : Hid (LB.getD q [] = LB[q]) := Lib.hid (getD_of_lt [] hyk)
            obtain ⟨vb, hvb⟩ : ∃ v, v = LB[q] := ⟨_, rfl⟩
            rw [← hvb] at hr2 HRY HMY HGY
            clear hvb
            have HPAIR := Lib.hid fun (w' : World) (h : Below wi.heap.size wi w') => l03Pair_any P A n c sq A1 c1 va A5 c5 vb w' hp hp2 hn6 (((ha.below hB2).below hb2i).below h) HS0.out ((hr1.below hboi).below h) HRX.out.2 (hr2.below h) HRY.out.2
            obtain ⟨vp, hvp⟩ : ∃ v, v = pairL P sq va vb := ⟨_, rfl⟩
            have HVP := Lib.hid hvp
            rw [← hvp] at HPAIR
            have j1 : (0 : Int) ≤ (q : Int) := by omega
            have j2 : (q : Int) < (LB.length : Int) := by omega
            clear hvp hcc2 hyk
            by_cases hv0 : vp = 0
            · have HV0 := Lib.hid hv0
              have hv0' : (vp != 0) = false := ne_bool' hv0
              clear hv0
              go_wp2
              refine wp_obs 11 [[], [], [], [1, 2], [1, 2, 3], [], [], [5, 6], [5, 6, 7], [0, 1, 2, 3, 4, 5, 6, 7, 8], [0, 1, 2, 3, 4, 5, 6, 7, 8, 9]] [VIs (.agg #[.int .i64 P, .slice A n c]), VIs (.slice (some ⟨g, o, none⟩) LA.length c3), VIs (.int .i64 (k)), VIs (.pointer (some ⟨g, o + k, none⟩)), VIs (.slice A1 n c1), VIs (.slice (some ⟨g2, o2, none⟩) LB.length c4), VIs (.int .i64 (q)), VIs (.pointer (some ⟨g2, o2 + q, none⟩)), VIs (.slice A5 n c5), VIs (.int .i64 (vp)), VIs (.bool false)] (fun w' => w'.cell? ⟨g, o + k, none⟩ = some (.slice A1 n c1) ∧ w'.cell? ⟨g2, o2 + q, none⟩ = some (.slice A5 n c5) ∧ Blk w' w.heap.size 28 #[.int .i64 P, .slice A n c] ∧ Below wi.heap.size wi w') (by kernel_rfl) (by kernel_rfl) (fun _ _ h hb => ⟨(hb.cell (World.block_lt_of_cell? _ _ h.1)).trans h.1, (hb.cell (World.block_lt_of_cell? _ _ h.2.1)).trans h.2.1, h.2.2.1.below hb h.2.2.1.lt, h.2.2.2.trans (hb.mono h.2.2.2.size)⟩) (⟨hcx, hcy2, k6.drew, (Below.refl _ _).drew⟩) (fun x => ?_)
              refine obs_step (Eq.trans (by simp only [List.getElem?_toArray, List.getElem?_cons_zero]; exact rfl) rfl) rfl (fun w' hS hV K hK => ?_) ?_
              · have q2 := hS.1; have q3 := hS.2.1; obtain ⟨q0, q1⟩ := hS.2.2.1.two
                go_simp
                exact hK.out _ _ _ rfl rfl rfl (Below.refl _ _)
              simp only [List.setIfInBounds_toArray, List.set_cons_zero, List.set_cons_succ]
              refine obs_step (Eq.trans (by simp only [List.getElem?_toArray, List.getElem?_cons_succ, List.getElem?_cons_zero]; exact rfl) rfl) rfl (fun w' hS hV K hK => ?_) ?_
              · have q2 := hS.1; have q3 := hS.2.1; obtain ⟨q0, q1⟩ := hS.2.2.1.two
                go_simp
                exact hK.out _ _ _ rfl rfl rfl (Below.refl _ _)
              simp only [List.setIfInBounds_toArray, List.set_cons_zero, List.set_cons_succ]
              refine obs_step (Eq.trans (by simp only [List.getElem?_toArray, List.getElem?_cons_succ, List.getElem?_cons_zero]; exact rfl) rfl) rfl (fun w' hS hV K hK => ?_) ?_
              · have q2 := hS.1; have q3 := hS.2.1; obtain ⟨q0, q1⟩ := hS.2.2.1.two
                go_simp
                exact hK.out _ _ _ rfl rfl rfl (Below.refl _ _)
              simp only [List.setIfInBounds_toArray, List.set_cons_zero, List.set_cons_succ]
              refine obs_step (Eq.trans (by simp only [List.getElem?_toArray, List.getElem?_cons_succ, List.getElem?_cons_zero]; exact rfl) rfl) rfl (fun w' hS hV K hK => ?_) ?_
              · have e1 : x 1 = (.slice (some ⟨g, o, none⟩) LA.length c3) := hV 1 (by decide)
                have e2 : x 2 = (.int .i64 (k)) := hV 2 (by decide)
                have q2 := hS.1; have q3 := hS.2.1; obtain ⟨q0, q1⟩ := hS.2.2.1.two
                go_simp
                exact hK.out _ _ _ rfl rfl rfl (Below.refl _ _)
              simp only [List.setIfInBounds_toArray, List.set_cons_zero, List.set_cons_succ]
              refine obs_step (Eq.trans (by simp only [List.getElem?_toArray, List.getElem?_cons_succ, List.getElem?_cons_zero]; exact rfl) rfl) rfl (fun w' hS hV K hK => ?_) ?_
              · have e1 : x 1 = (.slice (some ⟨g, o, none⟩) LA.length c3) := hV 1 (by decide)
                have e2 : x 2 = (.int .i64 (k)) := hV 2 (by decide)
                have e3 : x 3 = (.pointer (some ⟨g, o + k, none⟩)) := hV 3 (by decide)
                have q2 := hS.1; have q3 := hS.2.1; obtain ⟨q0, q1⟩ := hS.2.2.1.two
                go_simp
                exact hK.out _ _ _ rfl rfl rfl (Below.refl _ _)
              simp only [List.setIfInBounds_toArray, List.set_cons_zero, List.set_cons_succ]
              refine obs_step (Eq.trans (by simp only [List.getElem?_toArray, List.getElem?_cons_succ, List.getElem?_cons_zero]; exact rfl) rfl) rfl (fun w' hS hV K hK => ?_) ?_
              · have q2 := hS.1; have q3 := hS.2.1; obtain ⟨q0, q1⟩ := hS.2.2.1.two
                go_simp
                exact hK.out _ _ _ rfl rfl rfl (Below.refl _ _)
              simp only [List.setIfInBounds_toArray, List.set_cons_zero, List.set_cons_succ]
              refine obs_step (Eq.trans (by simp only [List.getElem?_toArray, List.getElem?_cons_succ, List.getElem?_cons_zero]; exact rfl) rfl) rfl (fun w' hS hV K hK => ?_) ?_
              · have q2 := hS.1; have q3 := hS.2.1; obtain ⟨q0, q1⟩ := hS.2.2.1.two
                go_simp
                exact hK.out _ _ _ rfl rfl rfl (Below.refl _ _)
              simp only [List.setIfInBounds_toArray, List.set_cons_zero, List.set_cons_succ]
              refine obs_step (Eq.trans (by simp only [List.getElem?_toArray, List.getElem?_cons_succ, List.getElem?_cons_zero]; exact rfl) rfl) rfl (fun w' hS hV K hK => ?_) ?_
              · have e5 : x 5 = (.slice (some ⟨g2, o2, none⟩) LB.length c4) := hV 5 (by decide)
                have e6 : x 6 = (.int .i64 (q)) := hV 6 (by decide)
                have q2 := hS.1; have q3 := hS.2.1; obtain ⟨q0, q1⟩ := hS.2.2.1.two
                go_simp
                exact hK.out _ _ _ rfl rfl rfl (Below.refl _ _)
              simp only [List.setIfInBounds_toArray, List.set_cons_zero, List.set_cons_succ]
              refine obs_step (Eq.trans (by simp only [List.getElem?_toArray, List.getElem?_cons_succ, List.getElem?_cons_zero]; exact rfl) rfl) rfl (fun w' hS hV K hK => ?_) ?_
              · have e5 : x 5 = (.slice (some ⟨g2, o2, none⟩) LB.length c4) := hV 5 (by decide)
                have e6 : x 6 = (.int .i64 (q)) := hV 6 (by decide)
                have e7 : x 7 = (.pointer (some ⟨g2, o2 + q, none⟩)) := hV 7 (by decide)
                have q2 := hS.1; have q3 := hS.2.1; obtain ⟨q0, q1⟩ := hS.2.2.1.two
                go_simp
                exact hK.out _ _ _ rfl rfl rfl (Below.refl _ _)
              simp only [List.setIfInBounds_toArray, List.set_cons_zero, List.set_cons_succ]
              refine obs_step (Eq.trans (by simp only [List.getElem?_toArray, List.getElem?_cons_succ, List.getElem?_cons_zero]; exact rfl) rfl) rfl (fun w' hS hV K hK => ?_) ?_
              · have e0 : x 0 = (.agg #[.int .i64 P, .slice A n c]) := hV 0 (by decide)
                have e1 : x 1 = (.slice (some ⟨g, o, none⟩) LA.length c3) := hV 1 (by decide)
                have e2 : x 2 = (.int .i64 (k)) := hV 2 (by decide)
                have e3 : x 3 = (.pointer (some ⟨g, o + k, none⟩)) := hV 3 (by decide)
                have e4 : x 4 = (.slice A1 n c1) := hV 4 (by decide)
                have e5 : x 5 = (.slice (some ⟨g2, o2, none⟩) LB.length c4) := hV 5 (by decide)
                have e6 : x 6 = (.int .i64 (q)) := hV 6 (by decide)
                have e7 : x 7 = (.pointer (some ⟨g2, o2 + q, none⟩)) := hV 7 (by decide)
                have e8 : x 8 = (.slice A5 n c5) := hV 8 (by decide)
                have q2 := hS.1; have q3 := hS.2.1; obtain ⟨q0, q1⟩ := hS.2.2.1.two
                go_simp
                refine (HPAIR.out _ hS.2.2.2).mono ?_
                rintro e v1 ⟨rfl, hb⟩
                exact hK.out _ _ _ rfl rfl rfl hb
              simp only [List.setIfInBounds_toArray, List.set_cons_zero, List.set_cons_succ]
              refine obs_step (Eq.trans (by simp only [List.getElem?_toArray, List.getElem?_cons_succ, List.getElem?_cons_zero]; exact rfl) rfl) rfl (fun w' hS hV K hK => ?_) ?_
              · have e0 : x 0 = (.agg #[.int .i64 P, .slice A n c]) := hV 0 (by decide)
                have e1 : x 1 = (.slice (some ⟨g, o, none⟩) LA.length c3) := hV 1 (by decide)
                have e2 : x 2 = (.int .i64 (k)) := hV 2 (by decide)
                have e3 : x 3 = (.pointer (some ⟨g, o + k, none⟩)) := hV 3 (by decide)
                have e4 : x 4 = (.slice A1 n c1) := hV 4 (by decide)
                have e5 : x 5 = (.slice (some ⟨g2, o2, none⟩) LB.length c4) := hV 5 (by decide)
                have e6 : x 6 = (.int .i64 (q)) := hV 6 (by decide)
                have e7 : x 7 = (.pointer (some ⟨g2, o2 + q, none⟩)) := hV 7 (by decide)
                have e8 : x 8 = (.slice A5 n c5) := hV 8 (by decide)
                have e9 : x 9 = (.int .i64 (vp)) := hV 9 (by decide)
                have q2 := hS.1; have q3 := hS.2.1; obtain ⟨q0, q1⟩ := hS.2.2.1.two
                go_simp
                exact hK.out _ _ _ rfl rfl rfl (Below.refl _ _)
              simp only [List.setIfInBounds_toArray, List.set_cons_zero, List.set_cons_succ]
              refine fun w' hS hV => ?_
              have e0 : x 0 = (.agg #[.int .i64 P, .slice A n c]) := hV 0 (by decide)
              have e1 : x 1 = (.slice (some ⟨g, o, none⟩) LA.length c3) := hV 1 (by decide)
              have e2 : x 2 = (.int .i64 (k)) := hV 2 (by decide)
              have e3 : x 3 = (.pointer (some ⟨g, o + k, none⟩)) := hV 3 (by decide)
              have e4 : x 4 = (.slice A1 n c1) := hV 4 (by decide)
              have e5 : x 5 = (.slice (some ⟨g2, o2, none⟩) LB.length c4) := hV 5 (by decide)
              have e6 : x 6 = (.int .i64 (q)) := hV 6 (by decide)
              have e7 : x 7 = (.pointer (some ⟨g2, o2 + q, none⟩)) := hV 7 (by decide)
              have e8 : x 8 = (.slice A5 n c5) := hV 8 (by decide)
              have e9 : x 9 = (.int .i64 (vp)) := hV 9 (by decide)
              have e10 : x 10 = (.bool false) := hV 10 (by decide)
              simp only [e0, e1, e2, e3, e4, e5, e6, e7, e8, e9, e10]
              clear e0 e1 e2 e3 e4 e5 e6 e7 e8 e9 e10
              refine wpAny_done (by kernel_rfl) ?_ _
              have HB5 := hBi.trans (hS.2.2.2.mono hBi.size)
              have K5 := hS.2.2.1
              clear hS
              go_wp2
              go_roundw
              case rel => exact ⟨q + 1, by omega, by go_num, Lib.hid (fun j hj => by
                by_cases e : j = q
                · rw [e, HGY.out, ← HVP.out, HV0.out]
                · exact HZq.out j (by omega)), HB5, K5⟩
              case measure => simp [intOf]; omega
            · have HV0 : Hid (orthB P sq LA LB = false) := Lib.hid (orthB_bad HMX.out HMY.out (by rw [← HVP.out]; exact hv0))
              have hv0' : (vp != 0) = true := ne_bool hv0
              clear hv0
              go_wp2
              refine wp_obs 11 [[], [], [], [1, 2], [1, 2, 3], [], [], [5, 6], [5, 6, 7], [0, 1, 2, 3, 4, 5, 6, 7, 8], [0, 1, 2, 3, 4, 5, 6, 7, 8, 9]] [VIs (.agg #[.int .i64 P, .slice A n c]), VIs (.slice (some ⟨g, o, none⟩) LA.length c3), VIs (.int .i64 (k)), VIs (.pointer (some ⟨g, o + k, none⟩)), VIs (.slice A1 n c1), VIs (.slice (some ⟨g2, o2, none⟩) LB.length c4), VIs (.int .i64 (q)), VIs (.pointer (some ⟨g2, o2 + q, none⟩)), VIs (.slice A5 n c5), VIs (.int .i64 (vp)), VIs (.bool true)] (fun w' => w'.cell? ⟨g, o + k, none⟩ = some (.slice A1 n c1) ∧ w'.cell? ⟨g2, o2 + q, none⟩ = some (.slice A5 n c5) ∧ Blk w' w.heap.size 28 #[.int .i64 P, .slice A n c] ∧ Below wi.heap.size wi w') (by kernel_rfl) (by kernel_rfl) (fun _ _ h hb => ⟨(hb.cell (World.block_lt_of_cell? _ _ h.1)).trans h.1, (hb.cell (World.block_lt_of_cell? _ _ h.2.1)).trans h.2.1, h.2.2.1.below hb h.2.2.1.lt, h.2.2.2.trans (hb.mono h.2.2.2.size)⟩) (⟨hcx, hcy2, k6.drew, (Below.refl _ _).drew⟩) (fun x => ?_)
              refine obs_step (Eq.trans (by simp only [List.getElem?_toArray, List.getElem?_cons_zero]; exact rfl) rfl) rfl (fun w' hS hV K hK => ?_) ?_
              · have q2 := hS.1; have q3 := hS.2.1; obtain ⟨q0, q1⟩ := hS.2.2.1.two
                go_simp
                exact hK.out _ _ _ rfl rfl rfl (Below.refl _ _)
              simp only [List.setIfInBounds_toArray, List.set_cons_zero, List.set_cons_succ]
              refine obs_step (Eq.trans (by simp only [List.getElem?_toArray, List.getElem?_cons_succ, List.getElem?_cons_zero]; exact rfl) rfl) rfl (fun w' hS hV K hK => ?_) ?_
              · have q2 := hS.1; have q3 := hS.2.1; obtain ⟨q0, q1⟩ := hS.2.2.1.two
                go_simp
                exact hK.out _ _ _ rfl rfl rfl (Below.refl _ _)
              simp only [List.setIfInBounds_toArray, List.set_cons_zero, List.set_cons_succ]
              refine obs_step (Eq.trans (by simp only [List.getElem?_toArray, List.getElem?_cons_succ, List.getElem?_cons_zero]; exact rfl) rfl) rfl (fun w' hS hV K hK => ?_) ?_
              · have q2 := hS.1; have q3 := hS.2.1; obtain ⟨q0, q1⟩ := hS.2.2.1.two
                go_simp
                exact hK.out _ _ _ rfl rfl rfl (Below.refl _ _)
              simp only [List.setIfInBounds_toArray, List.set_cons_zero, List.set_cons_succ]
              refine obs_step (Eq.trans (by simp only [List.getElem?_toArray, List.getElem?_cons_succ, List.getElem?_cons_zero]; exact rfl) rfl) rfl (fun w' hS hV K hK => ?_) ?_
              · have e1 : x 1 = (.slice (some ⟨g, o, none⟩) LA.length c3) := hV 1 (by decide)
                have e2 : x 2 = (.int .i64 (k)) := hV 2 (by decide)
                have q2 := hS.1; have q3 := hS.2.1; obtain ⟨q0, q1⟩ := hS.2.2.1.two
                go_simp
                exact hK.out _ _ _ rfl rfl rfl (Below.refl _ _)
              simp only [List.setIfInBounds_toArray, List.set_cons_zero, List.set_cons_succ]
              refine obs_step (Eq.trans (by simp only [List.getElem?_toArray, List.getElem?_cons_succ, List.getElem?_cons_zero]; exact rfl) rfl) rfl (fun w' hS hV K hK => ?_) ?_
              · have e1 : x 1 = (.slice (some ⟨g, o, none⟩) LA.length c3) := hV 1 (by decide)
                have e2 : x 2 = (.int .i64 (k)) := hV 2 (by decide)
                have e3 : x 3 = (.pointer (some ⟨g, o + k, none⟩)) := hV 3 (by decide)
                have q2 := hS.1; have q3 := hS.2.1; obtain ⟨q0, q1⟩ := hS.2.2.1.two
                go_simp
                exact hK.out _ _ _ rfl rfl rfl (Below.refl _ _)
              simp only [List.setIfInBounds_toArray, List.set_cons_zero, List.set_cons_succ]
              refine obs_step (Eq.trans (by simp only [List.getElem?_toArray, List.getElem?_cons_succ, List.getElem?_cons_zero]; exact rfl) rfl) rfl (fun w' hS hV K hK => ?_) ?_
              · have q2 := hS.1; have q3 := hS.2.1; obtain ⟨q0, q1⟩ := hS.2.2.1.two
                go_simp
                exact hK.out _ _ _ rfl rfl rfl (Below.refl _ _)
              simp only [List.setIfInBounds_toArray, List.set_cons_zero, List.set_cons_succ]
              refine obs_step (Eq.trans (by simp only [List.getElem?_toArray, List.getElem?_cons_succ, List.getElem?_cons_zero]; exact rfl) rfl) rfl (fun w' hS hV K hK => ?_) ?_
              · have q2 := hS.1; have q3 := hS.2.1; obtain ⟨q0, q1⟩ := hS.2.2.1.two
                go_simp
                exact hK.out _ _ _ rfl rfl rfl (Below.refl _ _)
              simp only [List.setIfInBounds_toArray, List.set_cons_zero, List.set_cons_succ]
              refine obs_step (Eq.trans (by simp only [List.getElem?_toArray, List.getElem?_cons_succ, List.getElem?_cons_zero]; exact rfl) rfl) rfl (fun w' hS hV K hK => ?_) ?_
              · have e5 : x 5 = (.slice (some ⟨g2, o2, none⟩) LB.length c4) := hV 5 (by decide)
                have e6 : x 6 = (.int .i64 (q)) := hV 6 (by decide)
                have q2 := hS.1; have q3 := hS.2.1; obtain ⟨q0, q1⟩ := hS.2.2.1.two
                go_simp
                exact hK.out _ _ _ rfl rfl rfl (Below.refl _ _)
              simp only [List.setIfInBounds_toArray, List.set_cons_zero, List.set_cons_succ]
              refine obs_step (Eq.trans (by simp only [List.getElem?_toArray, List.getElem?_cons_succ, List.getElem?_cons_zero]; exact rfl) rfl) rfl (fun w' hS hV K hK => ?_) ?_
              · have e5 : x 5 = (.slice (some ⟨g2, o2, none⟩) LB.length c4) := hV 5 (by decide)
                have e6 : x 6 = (.int .i64 (q)) := hV 6 (by decide)
                have e7 : x 7 = (.pointer (some ⟨g2, o2 + q, none⟩)) := hV 7 (by decide)
                have q2 := hS.1; have q3 := hS.2.1; obtain ⟨q0, q1⟩ := hS.2.2.1.two
                go_simp
                exact hK.out _ _ _ rfl rfl rfl (Below.refl _ _)
              simp only [List.setIfInBounds_toArray, List.set_cons_zero, List.set_cons_succ]
              refine obs_step (Eq.trans (by simp only [List.getElem?_toArray, List.getElem?_cons_succ, List.getElem?_cons_zero]; exact rfl) rfl) rfl (fun w' hS hV K hK => ?_) ?_
              · have e0 : x 0 = (.agg #[.int .i64 P, .slice A n c]) := hV 0 (by decide)
                have e1 : x 1 = (.slice (some ⟨g, o, none⟩) LA.length c3) := hV 1 (by decide)
                have e2 : x 2 = (.int .i64 (k)) := hV 2 (by decide)
                have e3 : x 3 = (.pointer (some ⟨g, o + k, none⟩)) := hV 3 (by decide)
                have e4 : x 4 = (.slice A1 n c1) := hV 4 (by decide)
                have e5 : x 5 = (.slice (some ⟨g2, o2, none⟩) LB.length c4) := hV 5 (by decide)
                have e6 : x 6 = (.int .i64 (q)) := hV 6 (by decide)
                have e7 : x 7 = (.pointer (some ⟨g2, o2 + q, none⟩)) := hV 7 (by decide)
                have e8 : x 8 = (.slice A5 n c5) := hV 8 (by decide)
                have q2 := hS.1; have q3 := hS.2.1; obtain ⟨q0, q1⟩ := hS.2.2.1.two
                go_simp
                refine (HPAIR.out _ hS.2.2.2).mono ?_
                rintro e v1 ⟨rfl, hb⟩
                exact hK.out _ _ _ rfl rfl rfl hb
              simp only [List.setIfInBounds_toArray, List.set_cons_zero, List.set_cons_succ]
              refine obs_step (Eq.trans (by simp only [List.getElem?_toArray, List.getElem?_cons_succ, List.getElem?_cons_zero]; exact rfl) rfl) rfl (fun w' hS hV K hK => ?_) ?_
              · have e0 : x 0 = (.agg #[.int .i64 P, .slice A n c]) := hV 0 (by decide)
                have e1 : x 1 = (.slice (some ⟨g, o, none⟩) LA.length c3) := hV 1 (by decide)
                have e2 : x 2 = (.int .i64 (k)) := hV 2 (by decide)
                have e3 : x 3 = (.pointer (some ⟨g, o + k, none⟩)) := hV 3 (by decide)
                have e4 : x 4 = (.slice A1 n c1) := hV 4 (by decide)
                have e5 : x 5 = (.slice (some ⟨g2, o2, none⟩) LB.length c4) := hV 5 (by decide)
                have e6 : x 6 = (.int .i64 (q)) := hV 6 (by decide)
                have e7 : x 7 = (.pointer (some ⟨g2, o2 + q, none⟩)) := hV 7 (by decide)
                have e8 : x 8 = (.slice A5 n c5) := hV 8 (by decide)
                have e9 : x 9 = (.int .i64 (vp)) := hV 9 (by decide)
                have q2 := hS.1; have q3 := hS.2.1; obtain ⟨q0, q1⟩ := hS.2.2.1.two
                go_simp
                exact hK.out _ _ _ rfl rfl rfl (Below.refl _ _)
              simp only [List.setIfInBounds_toArray, List.set_cons_zero, List.set_cons_succ]
              refine fun w' hS hV => ?_
              have e0 : x 0 = (.agg #[.int .i64 P, .slice A n c]) := hV 0 (by decide)
              have e1 : x 1 = (.slice (some ⟨g, o, none⟩) LA.length c3) := hV 1 (by decide)
              have e2 : x 2 = (.int .i64 (k)) := hV 2 (by decide)
              have e3 : x 3 = (.pointer (some ⟨g, o + k, none⟩)) := hV 3 (by decide)
              have e4 : x 4 = (.slice A1 n c1) := hV 4 (by decide)
              have e5 : x 5 = (.slice (some ⟨g2, o2, none⟩) LB.length c4) := hV 5 (by decide)
              have e6 : x 6 = (.int .i64 (q)) := hV 6 (by decide)
              have e7 : x 7 = (.pointer (some ⟨g2, o2 + q, none⟩)) := hV 7 (by decide)
              have e8 : x 8 = (.slice A5 n c5) := hV 8 (by decide)
              have e9 : x 9 = (.int .i64 (vp)) := hV 9 (by decide)
              have e10 : x 10 = (.bool true) := hV 10 (by decide)
              simp only [e0, e1, e2, e3, e4, e5, e6, e7, e8, e9, e10]
              clear e0 e1 e2 e3 e4 e5 e6 e7 e8 e9 e10
              refine wpAny_done (by kernel_rfl) ?_ _
              have hb2w := hb2i.trans (hS.2.2.2.mono hb2i.size)
              clear hS
              go_wp2
              go_ret2
              exact ⟨ret_bi3 (by rw [HOK.out, HV0.out]), hB2.trans (hb2w.mono hB2.size)⟩
          · obtain rfl : q = LB.length := by omega
            have HB5 := hBr.trans (hboi.mono hBr.size)
            go_wp2
            go_roundw
            case rel => exact ⟨k + 1, by omega, by go_num, Lib.hid (fun i hi j hj => by
              by_cases e : i = k
              · rw [e, HGX.out]; exact HZq.out j hj
              · exact HZ.out i (by omega) j hj), HB5, k6⟩
            case measure => simp [intOf]; omega
      · obtain rfl : k = LA.length := by omega
        have HG : Hid (orthB P sq LA LB = true) := Lib.hid (orthB_good HZ.out)
        go_wp2
        go_ret2
        exact ⟨ret_bi3 (by rw [HOK.out, HG.out]), hB2.trans (hb2r.mono hB2.size)⟩
  · obtain ⟨r, hr⟩ : ∃ r, r = codeL P sq [xs, ys] := ⟨_, rfl⟩
    have HR := Lib.hid hr
    have HR0 := Lib.hid hr0
    have b0 : (r != 0) = true := code_ne (by rw [hr]; exact hr0)
    rw [← hr] at hreg
    clear hr hr0
    go_enter Tryz.func25, Tryz.ntmps25
    go_wp2_with fail
    refine hreg.mono ?_
    rintro e w2 ⟨rfl, hb2⟩
    have hB2 := hB1.trans (hb2.mono hB1.size)
    have k2 := k1.below hb2 k1.lt
    obtain ⟨q0, q1⟩ := k2.two
    clear k0 hB0 k1 hB1 hb2
    go_wp2
    go_ret2
    exact ⟨ret_bi3 (by rw [aorR_bad HR0.out, HR.out]), hB2⟩

end Go.Proofs.YtommppijnccomaaGreat

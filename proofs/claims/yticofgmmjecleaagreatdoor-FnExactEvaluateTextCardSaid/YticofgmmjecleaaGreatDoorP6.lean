/-
  LawEvaluateText: part 6 of the texts that the proof needs. No condition.
-/
import Derived.Test.YticofgmmjecleaaGreatDoorP5
namespace Go.Proofs.YticofgmmjecleaaGreatDoor
open Go Go.RowKit
theorem sreads (P : Int) (sq : List Int) (A : Option Addr) (n c : Nat) (T : By) (hp : 2 ≤ P) (hp2 : P ≤ 13) (hn : n ≤ 6) (hT : T.length ≤ 1048576) (hs : NumsL P sq) (hsp : isSp P sq = true) (hln : sq.length = n) : ∀ L : Nat, ∀ i, i ≤ T.length → T.length ≤ i + L →
    RsC 88 P sq A n c .sum T i ∧ RsC 119 P sq A n c .prod T i ∧ RsC 144 P sq A n c .fac T i ∧ RsC 167 P sq A n c .atom T i := by
  intro L
  induction L using Nat.strongRecOn with
  | ind L ih =>
    have later : ∀ i i', i < i' → i' ≤ T.length → T.length ≤ i + L → _ := fun i i' h1 h2 h3 => ih (T.length - i') (by omega) i' h2 (by omega)
    have hat : ∀ i, i ≤ T.length → T.length ≤ i + L → RsC 167 P sq A n c .atom T i := fun i h1 h2 =>
      satom_any P sq A n c T i hp hp2 hn hT h1 hsp hln fun i' h3 h4 => (later i i' h3 h4 h2).1
    have hfac : ∀ i, i ≤ T.length → T.length ≤ i + L → RsC 144 P sq A n c .fac T i := fun i h1 h2 =>
      sfac_any P sq A n c T i hp hp2 hn hT h1 (fun i' h3 h4 => (later i i' h3 h4 h2).2.2.1) (hat i h1 h2)
    have hprod : ∀ i, i ≤ T.length → T.length ≤ i + L → RsC 119 P sq A n c .prod T i := fun i h1 h2 =>
      sprod_any P sq A n c T i hp hp2 hn hT h1 hs fun i' h3 h4 => hfac i' h4 (by omega)
    have hsum : ∀ i, i ≤ T.length → T.length ≤ i + L → RsC 88 P sq A n c .sum T i := fun i h1 h2 =>
      ssum_any P sq A n c T i hp hp2 hn hT h1 fun i' h3 h4 => hprod i' h4 (by omega)
    exact fun i h1 h2 => ⟨hsum i h1 h2, hprod i h1 h2, hfac i h1 h2, hat i h1 h2⟩
set_option maxHeartbeats 3200000 in
set_option maxRecDepth 8000 in
theorem l19Value_any (P : Int) (A : Option Addr) (n c : Nat) (sq : List Int) (t : By) (w : World) (hsp : isSp P sq = true) (ha : Rd w A n (ints sq)) :
    Calls Tryz.prog 47 #[.agg #[.int .i64 P, .slice A n c], .string ⟨t.toArray⟩] w fun e w' => ∃ (A' : Option Addr) (k c' : Nat), e = .returned (.tuple #[.slice A' k c', .int .i64 (evR P sq t).2]) ∧ MkI w w' A' k c' (evR P sq t).1 := by
  obtain ⟨hP, hd1, hd2, hnum⟩ := isSp_dim hsp
  have hln : sq.length = n := ha.lenI
  obtain ⟨p1, p2⟩ := isP_pos hP
  have hp2' := isP_ge hP
  have hB0 : Below w.heap.size w (w.alloc (.cells #[.int .i64 P, .slice A n c] 28)) := (Below.refl _ _).alloc (Nat.le_refl _) _
  have k0 : Blk (w.alloc (.cells #[.int .i64 P, .slice A n c] 28)) w.heap.size 28 #[.int .i64 P, .slice A n c] := Blk.new _ _ _
  have hlnt : ∀ wx ty, (Builtin.len_ #[9] ty #[.string ⟨t.toArray⟩]).run Tryz.prog wx = .ok (.int .i64 t.length) wx := fun wx ty => str_len wx ty t
  obtain ⟨V, hV⟩ : ∃ V, V = evR P sq t := ⟨_, rfl⟩
  have HV := Lib.hid hV
  rw [← hV]
  clear hV
  by_cases hl : 200 < t.length
  · have d1 : decide ((200 : Int) < (t.length : Int)) = true := by simp; omega
    have hV2 : Hid (V = ([], 3)) := Lib.hid (by rw [HV.out]; unfold evR; rw [if_pos hl])
    clear hln
    go_enter Tryz.func47, Tryz.ntmps47
    go_wp2
    go_ret2
    exact ⟨none, 0, 0, by rw [hV2.out]; rfl, by rw [hV2.out]; exact Mk.nil hB0⟩
  · have d1 : decide ((200 : Int) < (t.length : Int)) = false := by simp; omega
    obtain ⟨q0, q1⟩ := k0.two
    have HSP := Lib.hid hsp
    have HLN := Lib.hid hln
    have hn6 : n ≤ 6 := by omega
    have hn1 : 1 ≤ n := by omega
    clear hln hsp
    go_enter Tryz.func47, Tryz.ntmps47
    go_wp2_with fail
    have hsz : (w.alloc (.cells #[.int .i64 P, .slice A n c] 28)).heap.size = w.heap.size + 1 := by simp
    have hB2 : Below w.heap.size w ((w.alloc (.cells #[.int .i64 P, .slice A n c] 28)).alloc (.cells #[.int .i64 P, .slice A n c, .string ⟨t.toArray⟩, .int .i64 0, .bool false] 105)) := hB0.alloc (by rw [hsz]; omega) _
    have hk : RsB ((w.alloc (.cells #[.int .i64 P, .slice A n c] 28)).alloc (.cells #[.int .i64 P, .slice A n c, .string ⟨t.toArray⟩, .int .i64 0, .bool false] 105)) (w.heap.size + 1) P A n c t 0 false := by
      have h := Blk.new (w.alloc (.cells #[.int .i64 P, .slice A n c] 28)) 105 #[.int .i64 P, .slice A n c, .string ⟨t.toArray⟩, .int .i64 0, .bool false]
      rw [hsz] at h; exact h
    have hcall := (sreads P sq A n c t (by omega) p2 hn6 (by omega) (nums_numsL hnum) HSP.out HLN.out t.length 0 (by omega) (by omega)).1 (w.heap.size + 1) _ (fun a ha' => Nat.lt_succ_of_lt (ha.blk_lt (by omega) a ha')) (ha.below hB2) hk
    generalize (w.alloc (.cells #[.int .i64 P, .slice A n c] 28)).alloc (.cells #[.int .i64 P, .slice A n c, .string ⟨t.toArray⟩, .int .i64 0, .bool false] 105) = w2 at hB2 hk hcall ⊢
    refine hcall.mono ?_
    rintro e w3 ⟨A3, c3, x3, i3, b3, rfl, hk3, hx3, hO3, hl3, hl3b, hev3, hE3⟩
    have hB3 := hB2.trans (hE3.b.mono (Nat.le_succ _))
    have hM : MkI w w3 A3 (pw n) c3 x3 := ⟨hB3, hO3.base hB2.size⟩
    have hval : Hid (V = match (if (b3 || !(t.drop i3).isEmpty) = true then none else some x3) with | some v => (v, 0) | none => ([], 6)) := Lib.hid (by
      rw [HV.out]; unfold evR; rw [if_neg hl, HLN.out, valR_of (by rw [List.drop_zero] at hev3; exact hev3)]
      generalize (if (b3 || !(t.drop i3).isEmpty) = true then none else some x3) = oo
      cases oo <;> rfl)
    clear hcall hk hB2 hE3 hev3 hO3 q0 q1
    obtain ⟨q0, q1, q2, q3, q4⟩ := hk3.five
    cases b3 with
    | true =>
      go_wp2
      go_ret2
      exact ⟨none, 0, 0, by rw [hval.out]; rfl, by rw [hval.out]; exact Mk.nil hB3⟩
    | false =>
      by_cases hi3 : i3 < t.length
      · have d3 : decide ((i3 : Int) < (t.length : Int)) = true := by simp; omega
        have hne : (t.drop i3).isEmpty = false := by rw [List.drop_eq_getElem_cons hi3]; rfl
        rw [hne] at hval
        clear hne hk3
        go_wp2
        go_ret2
        exact ⟨none, 0, 0, by rw [hval.out]; rfl, by rw [hval.out]; exact Mk.nil hB3⟩
      · have d3 : decide ((i3 : Int) < (t.length : Int)) = false := by simp; omega
        have hne : (t.drop i3).isEmpty = true := by rw [List.drop_eq_nil_of_le (by omega)]; rfl
        rw [hne] at hval
        clear hne hk3
        go_wp2
        go_ret2
        exact ⟨A3, pw n, c3, by rw [hval.out]; rfl, by rw [hval.out]; exact hM⟩
set_option maxHeartbeats 1600000 in
set_option maxRecDepth 8000 in
theorem EvaluateText_any (P : Int) (A : Option Addr) (n c : Nat) (sq : List Int) (t : By) (w : World) (hn : n ≤ 1048576) (ha : Rd w A n (ints sq)) (he : EnvX w) :
    Calls Tryz.prog 14 #[.agg #[.int .i64 P, .slice A n c], .string ⟨t.toArray⟩] w fun e w' => ∃ (A' : Option Addr) (k c' : Nat), e = .returned (.tuple #[.slice A' k c', .int .i64 (evalR P sq t).2]) ∧ MkI w w' A' k c' (evalR P sq t).1 := by
  have hB0 : Below w.heap.size w (w.alloc (.cells #[.int .i64 P, .slice A n c] 28)) := (Below.refl _ _).alloc (Nat.le_refl _) _
  have k0 : Blk (w.alloc (.cells #[.int .i64 P, .slice A n c] 28)) w.heap.size 28 #[.int .i64 P, .slice A n c] := Blk.new _ _ _
  obtain ⟨V, hV⟩ : ∃ V, V = evalR P sq t := ⟨_, rfl⟩
  have HR := Lib.hid hV
  rw [← hV]
  clear hV
  cases hsp : isSp P sq
  · have his := IsSpace_b P A n c sq _ (by omega) (ha.below hB0) hsp
    have hm : Hid (V = ([], 1)) := Lib.hid (by rw [HR.out, evalR_ev, hsp]; rfl)
    clear hsp
    go_enter Tryz.func14, Tryz.ntmps14
    go_wp2_with fail
    refine his.mono ?_
    rintro e w1 ⟨rfl, hb1⟩
    go_wp2
    go_ret2
    exact ⟨none, 0, 0, by rw [hm.out]; rfl, by rw [hm.out]; exact Mk.nil (hB0.trans (hb1.mono (by simp)))⟩
  · have his := IsSpace_b P A n c sq _ (by omega) (ha.below hB0) hsp
    have hm : Hid (V = evR P sq t) := Lib.hid (by rw [HR.out, evalR_ev, hsp]; rfl)
    go_enter Tryz.func14, Tryz.ntmps14
    go_wp2_with fail
    refine his.mono ?_
    rintro e w1 ⟨rfl, hb1⟩
    have hB1 : Below w.heap.size w w1 := hB0.trans (hb1.mono (by simp))
    have k1 := k0.below hb1 k0.lt
    have hev := evaluate_any P A n c sq t w1 hsp (ha.below hB1) (he.below hB1 (Nat.le_refl _))
    clear hb1 hB0 k0 hsp his
    obtain ⟨q0, q1⟩ := k1.two
    go_wp2_with fail
    refine hev.mono ?_
    rintro e w2 ⟨A3, k3, c3, rfl, hM⟩
    go_wp2
    go_ret2
    exact ⟨A3, k3, c3, by rw [hm.out]; rfl, by rw [hm.out]; exact hM.after hB1⟩
set_option maxHeartbeats 1600000 in
set_option maxRecDepth 8000 in
theorem specEvaluateText_any (P : Int) (A : Option Addr) (n c : Nat) (sq : List Int) (t : By) (w : World) (hn : n ≤ 1048576) (ha : Rd w A n (ints sq)) :
    Calls Tryz.prog 13 #[.agg #[.int .i64 P, .slice A n c], .string ⟨t.toArray⟩] w fun e w' => ∃ (A' : Option Addr) (k c' : Nat), e = .returned (.tuple #[.slice A' k c', .int .i64 (evalR P sq t).2]) ∧ MkI w w' A' k c' (evalR P sq t).1 := by
  have hB0 : Below w.heap.size w (w.alloc (.cells #[.int .i64 P, .slice A n c] 28)) := (Below.refl _ _).alloc (Nat.le_refl _) _
  have k0 : Blk (w.alloc (.cells #[.int .i64 P, .slice A n c] 28)) w.heap.size 28 #[.int .i64 P, .slice A n c] := Blk.new _ _ _
  obtain ⟨V, hV⟩ : ∃ V, V = evalR P sq t := ⟨_, rfl⟩
  have HR := Lib.hid hV
  rw [← hV]
  clear hV
  cases hsp : isSp P sq
  · have his := l03Is_b P A n c sq _ (by omega) (ha.below hB0) hsp
    have hm : Hid (V = ([], 1)) := Lib.hid (by rw [HR.out, evalR_ev, hsp]; rfl)
    clear hsp
    go_enter Tryz.func13, Tryz.ntmps13
    go_wp2_with fail
    refine his.mono ?_
    rintro e w1 ⟨rfl, hb1⟩
    go_wp2
    go_ret2
    exact ⟨none, 0, 0, by rw [hm.out]; rfl, by rw [hm.out]; exact Mk.nil (hB0.trans (hb1.mono (by simp)))⟩
  · have his := l03Is_b P A n c sq _ (by omega) (ha.below hB0) hsp
    have hm : Hid (V = evR P sq t) := Lib.hid (by rw [HR.out, evalR_ev, hsp]; rfl)
    go_enter Tryz.func13, Tryz.ntmps13
    go_wp2_with fail
    refine his.mono ?_
    rintro e w1 ⟨rfl, hb1⟩
    have hB1 : Below w.heap.size w w1 := hB0.trans (hb1.mono (by simp))
    have k1 := k0.below hb1 k0.lt
    have hev := l19Value_any P A n c sq t w1 hsp (ha.below hB1)
    clear hb1 hB0 k0 hsp his
    obtain ⟨q0, q1⟩ := k1.two
    go_wp2_with fail
    refine hev.mono ?_
    rintro e w2 ⟨A3, k3, c3, rfl, hM⟩
    go_wp2
    go_ret2
    exact ⟨A3, k3, c3, by rw [hm.out]; rfl, by rw [hm.out]; exact hM.after hB1⟩
end Go.Proofs.YticofgmmjecleaaGreatDoor
namespace Go.Proofs.YticofgmmjecleaaGreatDoor
open Go Go.RowKit
theorem sgnL_mu {P : Int} {n : Nat} (hp : 0 < P) {x : List Int} (h : MuL P n x) : MuL P n (revL P x) := by
  unfold revL sgnL
  refine ⟨(tab_len _ _).trans h.1, fun z hz => ?_⟩
  obtain ⟨i, hi, rfl⟩ := tab_mem hz
  split
  · exact ⟨Int.emod_nonneg _ (by omega), Int.emod_lt_of_pos _ hp⟩
  · rw [List.getD_eq_getElem?_getD, List.getElem?_eq_getElem (by omega)]
    exact h.2 _ (List.getElem_mem _)
theorem opL_mu {P : Int} {sq : List Int} {n : Nat} (hp : 0 < P) (c : UInt8) {x : List Int} (h : MuL P n x) (y : List Int) : MuL P n (opL P sq c x y) := by
  unfold opL
  split
  · exact ⟨(mulL_len _ _ _ _).trans h.1, mulL_nums hp _ _ _⟩
  split
  · exact ⟨(wedgeL_len _ _ _ _).trans h.1, wedgeL_nums hp _ _ _⟩
  split
  · exact ⟨(contrL_len _ _ _ _).trans h.1, contrL_nums hp _ _ _⟩
  · exact ⟨(plusL_len _ _ _ _).trans h.1, plusL_nums hp _ _ _⟩
theorem ev_mu {P : Int} {sq : List Int} {n : Nat} (hp : 2 ≤ P) : ∀ (f : Nat) (m : Md) (t : By) (r : List Int × By), MdOk P n m → ev P sq n f m t = some r → MuL P n r.1
  | 0, m, t, r, _, h => by cases h
  | f + 1, .sum, t, r, _, h => by
    unfold ev at h
    obtain ⟨a, ha, hb⟩ := Option.bind_eq_some_iff.1 h
    exact ev_mu hp f (.sumL a.1) _ _ (ev_mu hp f .prod _ _ trivial ha) hb
  | f + 1, .sumL o, t, r, ho, h => by
    unfold ev at h
    split at h
    · injection h with h; subst h; exact ho
    · obtain ⟨a, ha, hb⟩ := Option.bind_eq_some_iff.1 h
      exact ev_mu hp f (.sumL _) _ _ (opL_mu (by omega) _ ho _) hb
  | f + 1, .prod, t, r, _, h => by
    unfold ev at h
    obtain ⟨a, ha, hb⟩ := Option.bind_eq_some_iff.1 h
    exact ev_mu hp f (.prodL a.1) _ _ (ev_mu hp f .fac _ _ trivial ha) hb
  | f + 1, .prodL o, t, r, ho, h => by
    unfold ev at h
    split at h
    · injection h with h; subst h; exact ho
    · obtain ⟨a, ha, hb⟩ := Option.bind_eq_some_iff.1 h
      exact ev_mu hp f (.prodL _) _ _ (opL_mu (by omega) _ ho _) hb
  | f + 1, .fac, t, r, _, h => by
    unfold ev at h
    split at h
    · exact ev_mu hp f .atom _ _ trivial h
    · rename_i c t' _
      obtain ⟨a, ha, rfl⟩ := Option.map_eq_some_iff.1 h
      have := ev_mu hp f .fac _ _ trivial ha
      dsimp only
      split
      · exact ⟨(scaleL_len _ _ _).trans this.1, scaleL_nums (by omega) _ _⟩
      · exact sgnL_mu (by omega) this
  | f + 1, .atom, t, r, _, h => by
    unfold ev at h
    split at h
    · obtain ⟨a, _, rfl⟩ := Option.map_eq_some_iff.1 h
      exact ⟨(scaleL_len _ _ _).trans (bladeL_len _ _), scaleL_nums (by omega) _ _⟩
    · rename_i c t' hn
      by_cases hc : c = 40
      · rw [if_pos hc] at h
        obtain ⟨a, ha, hb⟩ := Option.bind_eq_some_iff.1 h
        obtain ⟨q, hq, rfl⟩ := Option.map_eq_some_iff.1 hb
        exact ev_mu hp f .sum t' a trivial ha
      · rw [if_neg hc] at h
        obtain ⟨a, _, rfl⟩ := Option.map_eq_some_iff.1 h
        exact ⟨bladeL_len _ _, bladeL_nums hp _ _⟩
theorem valR_mu {P : Int} {sq : List Int} {n : Nat} (hp : 2 ≤ P) {t : By} {v : List Int} (h : valR P sq n t = some v) : MuL P n v := by
  unfold valR at h
  split at h
  · rename_i x he
    injection h with h; subst h
    exact ev_mu hp _ .sum _ _ trivial he
  · cases h
theorem evR_mu {P : Int} {sq : List Int} (hp : 2 ≤ P) (t : By) : ((evR P sq t).2 = 0 ∧ MuL P sq.length (evR P sq t).1) ∨ ((evR P sq t).2 ≠ 0 ∧ (evR P sq t).1 = []) := by
  unfold evR
  split
  · exact .inr ⟨by decide, rfl⟩
  · split
    · rename_i v hv
      exact .inl ⟨rfl, valR_mu hp hv⟩
    · exact .inr ⟨by decide, rfl⟩
theorem evalR_len (P : Int) (sq : List Int) (t : By) : (evalR P sq t).1.length ≤ 1048576 := by
  rw [evalR_ev]
  split
  · rename_i hsp
    obtain ⟨hP, hd1, hd2, hnum⟩ := isSp_dim hsp
    obtain ⟨p1, p2⟩ := isP_pos hP
    have h6 : pw sq.length ≤ 64 := pw_le hd2
    rcases evR_mu (P := P) (sq := sq) (by have := isP_ge hP; omega) t with ⟨_, h, _⟩ | ⟨_, h⟩
    · omega
    · rw [h]; simp
  · simp
end Go.Proofs.YticofgmmjecleaaGreatDoor

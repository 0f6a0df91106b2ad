/-
  LawSumOfTexts: part 6 of the texts that the proof needs. No condition.
-/
import Derived.Test.YticofgmmjecleaaGreatDoorP5
namespace Go.Proofs.YticofgmmjecleaaGreatDoor
open Go Go.RowKit
theorem sreads (P : Int) (sq : List Int) (A : Option Addr) (n c : Nat) (T : By) (hp : 2 ≤ P) (hp2 : P ≤ 13) (hn : n ≤ 6) (hT : T.length ≤ 1048576) (hs : NumsL P sq) (hsp : isSp P sq = true) (hln : sq.length = n) : ∀ L : Nat, ∀ i, i ≤ T.length → T.length ≤ i + L →
    RsC 88 P sq A n c .sum T i ∧ RsC 119 P sq A n c .prod T i ∧ RsC 144 P sq A n c .fac T i ∧ RsC 167 P sq A n c .atom T i := by
  intro L
  induction L using Nat.strongRecOn with
  | ind L ih =>
    have later : ∀ i i', i < i' → i' ≤ T.length → T.length ≤ i + L → _ := fun i i' h1 h2 h3 => ih (T.length - i') (by omega) i' h2 (by omega)
    have hat : ∀ i, i ≤ T.length → T.length ≤ i + L → RsC 167 P sq A n c .atom T i := fun i h1 h2 =>
      satom_any P sq A n c T i hp hp2 hn hT h1 hsp hln fun i' h3 h4 => (later i i' h3 h4 h2).1
    have hfac : ∀ i, i ≤ T.length → T.length ≤ i + L → RsC 144 P sq A n c .fac T i := fun i h1 h2 =>
      sfac_any P sq A n c T i hp hp2 hn hT h1 (fun i' h3 h4 => (later i i' h3 h4 h2).2.2.1) (hat i h1 h2)
    have hprod : ∀ i, i ≤ T.length → T.length ≤ i + L → RsC 119 P sq A n c .prod T i := fun i h1 h2 =>
      sprod_any P sq A n c T i hp hp2 hn hT h1 hs fun i' h3 h4 => hfac i' h4 (by omega)
    have hsum : ∀ i, i ≤ T.length → T.length ≤ i + L → RsC 88 P sq A n c .sum T i := fun i h1 h2 =>
      ssum_any P sq A n c T i hp hp2 hn hT h1 fun i' h3 h4 => hprod i' h4 (by omega)
    exact fun i h1 h2 => ⟨hsum i h1 h2, hprod i h1 h2, hfac i h1 h2, hat i h1 h2⟩
set_option maxHeartbeats 3200000 in
set_option maxRecDepth 8000 in
theorem l19Value_any (P : Int) (A : Option Addr) (n c : Nat) (sq : List Int) (t : By) (w : World) (hsp : isSp P sq = true) (ha : Rd w A n (ints sq)) :
    Calls Tryz.prog 47 #[.agg #[.int .i64 P, .slice A n c], .string ⟨t.toArray⟩] w fun e w' => ∃ (A' : Option Addr) (k c' : Nat), e = .returned (.tuple #[.slice A' k c', .int .i64 (evR P sq t).2]) ∧ MkI w w' A' k c' (evR P sq t).1 := by
  obtain ⟨hP, hd1, hd2, hnum⟩ := isSp_dim hsp
  have hln : sq.length = n := ha.lenI
  obtain ⟨p1, p2⟩ := isP_pos hP
  have hp2' := isP_ge hP
  have hB0 : Below w.heap.size w (w.alloc (.cells #[.int .i64 P, .slice A n c] 28)) := (Below.refl _ _).alloc (Nat.le_refl _) _
  have k0 : Blk (w.alloc (.cells #[.int .i64 P, .slice A n c] 28)) w.heap.size 28 #[.int .i64 P, .slice A n c] := Blk.new _ _ _
  have hlnt : ∀ wx ty, (Builtin.len_ #[9] ty #[.string ⟨t.toArray⟩]).run Tryz.prog wx = .ok (.int .i64 t.length) wx := fun wx ty => str_len wx ty t
  obtain ⟨V, hV⟩ : ∃ V, V = evR P sq t := ⟨_, rfl⟩
  have HV := Lib.hid hV
  rw [← hV]
  clear hV
  by_cases hl : 200 < t.length
  · have d1 : decide ((200 : Int) < (t.length : Int)) = true := by simp; omega
    have hV2 : Hid (V = ([], 3)) := Lib.hid (by rw [HV.out]; unfold evR; rw [if_pos hl])
    clear hln
    go_enter Tryz.func47, Tryz.ntmps47
    go_wp2
    go_ret2
    exact ⟨none, 0, 0, by rw [hV2.out]; rfl, by rw [hV2.out]; exact Mk.nil hB0⟩
  · have d1 : decide ((200 : Int) < (t.length : Int)) = false := by simp; omega
    obtain ⟨q0, q1⟩ := k0.two
    have HSP := Lib.hid hsp
    have HLN := Lib.hid hln
    have hn6 : n ≤ 6 := by omega
    have hn1 : 1 ≤ n := by omega
    clear hln hsp
    go_enter Tryz.func47, Tryz.ntmps47
    go_wp2_with fail
    have hsz : (w.alloc (.cells #[.int .i64 P, .slice A n c] 28)).heap.size = w.heap.size + 1 := by simp
    have hB2 : Below w.heap.size w ((w.alloc (.cells #[.int .i64 P, .slice A n c] 28)).alloc (.cells #[.int .i64 P, .slice A n c, .string ⟨t.toArray⟩, .int .i64 0, .bool false] 105)) := hB0.alloc (by rw [hsz]; omega) _
    have hk : RsB ((w.alloc (.cells #[.int .i64 P, .slice A n c] 28)).alloc (.cells #[.int .i64 P, .slice A n c, .string ⟨t.toArray⟩, .int .i64 0, .bool false] 105)) (w.heap.size + 1) P A n c t 0 false := by
      have h := Blk.new (w.alloc (.cells #[.int .i64 P, .slice A n c] 28)) 105 #[.int .i64 P, .slice A n c, .string ⟨t.toArray⟩, .int .i64 0, .bool false]
      rw [hsz] at h; exact h
    have hcall := (sreads P sq A n c t (by omega) p2 hn6 (by omega) (nums_numsL hnum) HSP.out HLN.out t.length 0 (by omega) (by omega)).1 (w.heap.size + 1) _ (fun a ha' => Nat.lt_succ_of_lt (ha.blk_lt (by omega) a ha')) (ha.below hB2) hk
    generalize (w.alloc (.cells #[.int .i64 P, .slice A n c] 28)).alloc (.cells #[.int .i64 P, .slice A n c, .string ⟨t.toArray⟩, .int .i64 0, .bool false] 105) = w2 at hB2 hk hcall ⊢
    refine hcall.mono ?_
    rintro e w3 ⟨A3, c3, x3, i3, b3, rfl, hk3, hx3, hO3, hl3, hl3b, hev3, hE3⟩
    have hB3 := hB2.trans (hE3.b.mono (Nat.le_succ _))
    have hM : MkI w w3 A3 (pw n) c3 x3 := ⟨hB3, hO3.base hB2.size⟩
    have hval : Hid (V = match (if (b3 || !(t.drop i3).isEmpty) = true then none else some x3) with | some v => (v, 0) | none => ([], 6)) := Lib.hid (by
      rw [HV.out]; unfold evR; rw [if_neg hl, HLN.out, valR_of (by rw [List.drop_zero] at hev3; exact hev3)]
      generalize (if (b3 || !(t.drop i3).isEmpty) = true then none else some x3) = oo
      cases oo <;> rfl)
    clear hcall hk hB2 hE3 hev3 hO3 q0 q1
    obtain ⟨q0, q1, q2, q3, q4⟩ := hk3.five
    cases b3 with
    | true =>
      go_wp2
      go_ret2
      exact ⟨none, 0, 0, by rw [hval.out]; rfl, by rw [hval.out]; exact Mk.nil hB3⟩
    | false =>
      by_cases hi3 : i3 < t.length
      · have d3 : decide ((i3 : Int) < (t.length : Int)) = true := by simp; omega
        have hne : (t.drop i3).isEmpty = false := by rw [List.drop_eq_getElem_cons hi3]; rfl
        rw [hne] at hval
        clear hne hk3
        go_wp2
        go_ret2
        exact ⟨none, 0, 0, by rw [hval.out]; rfl, by rw [hval.out]; exact Mk.nil hB3⟩
      · have d3 : decide ((i3 : Int) < (t.length : Int)) = false := by simp; omega
        have hne : (t.drop i3).isEmpty = true := by rw [List.drop_eq_nil_of_le (by omega)]; rfl
        rw [hne] at hval
        clear hne hk3
        go_wp2
        go_ret2
        exact ⟨A3, pw n, c3, by rw [hval.out]; rfl, by rw [hval.out]; exact hM⟩
end Go.Proofs.YticofgmmjecleaaGreatDoor
namespace Go.Proofs.YticofgmmjecleaaGreatDoor
open Go Go.RowKit
theorem sgnL_mu {P : Int} {n : Nat} (hp : 0 < P) {x : List Int} (h : MuL P n x) : MuL P n (revL P x) := by
  unfold revL sgnL
  refine ⟨(tab_len _ _).trans h.1, fun z hz => ?_⟩
  obtain ⟨i, hi, rfl⟩ := tab_mem hz
  split
  · exact ⟨Int.emod_nonneg _ (by omega), Int.emod_lt_of_pos _ hp⟩
  · rw [List.getD_eq_getElem?_getD, List.getElem?_eq_getElem (by omega)]
    exact h.2 _ (List.getElem_mem _)
theorem opL_mu {P : Int} {sq : List Int} {n : Nat} (hp : 0 < P) (c : UInt8) {x : List Int} (h : MuL P n x) (y : List Int) : MuL P n (opL P sq c x y) := by
  unfold opL
  split
  · exact ⟨(mulL_len _ _ _ _).trans h.1, mulL_nums hp _ _ _⟩
  split
  · exact ⟨(wedgeL_len _ _ _ _).trans h.1, wedgeL_nums hp _ _ _⟩
  split
  · exact ⟨(contrL_len _ _ _ _).trans h.1, contrL_nums hp _ _ _⟩
  · exact ⟨(plusL_len _ _ _ _).trans h.1, plusL_nums hp _ _ _⟩
theorem ev_mu {P : Int} {sq : List Int} {n : Nat} (hp : 2 ≤ P) : ∀ (f : Nat) (m : Md) (t : By) (r : List Int × By), MdOk P n m → ev P sq n f m t = some r → MuL P n r.1
  | 0, m, t, r, _, h => by cases h
  | f + 1, .sum, t, r, _, h => by
    unfold ev at h
    obtain ⟨a, ha, hb⟩ := Option.bind_eq_some_iff.1 h
    exact ev_mu hp f (.sumL a.1) _ _ (ev_mu hp f .prod _ _ trivial ha) hb
  | f + 1, .sumL o, t, r, ho, h => by
    unfold ev at h
    split at h
    · injection h with h; subst h; exact ho
    · obtain ⟨a, ha, hb⟩ := Option.bind_eq_some_iff.1 h
      exact ev_mu hp f (.sumL _) _ _ (opL_mu (by omega) _ ho _) hb
  | f + 1, .prod, t, r, _, h => by
    unfold ev at h
    obtain ⟨a, ha, hb⟩ := Option.bind_eq_some_iff.1 h
    exact ev_mu hp f (.prodL a.1) _ _ (ev_mu hp f .fac _ _ trivial ha) hb
  | f + 1, .prodL o, t, r, ho, h => by
    unfold ev at h
    split at h
    · injection h with h; subst h; exact ho
    · obtain ⟨a, ha, hb⟩ := Option.bind_eq_some_iff.1 h
      exact ev_mu hp f (.prodL _) _ _ (opL_mu (by omega) _ ho _) hb
  | f + 1, .fac, t, r, _, h => by
    unfold ev at h
    split at h
    · exact ev_mu hp f .atom _ _ trivial h
    · rename_i c t' _
      obtain ⟨a, ha, rfl⟩ := Option.map_eq_some_iff.1 h
      have := ev_mu hp f .fac _ _ trivial ha
      dsimp only
      split
      · exact ⟨(scaleL_len _ _ _).trans this.1, scaleL_nums (by omega) _ _⟩
      · exact sgnL_mu (by omega) this
  | f + 1, .atom, t, r, _, h => by
    unfold ev at h
    split at h
    · obtain ⟨a, _, rfl⟩ := Option.map_eq_some_iff.1 h
      exact ⟨(scaleL_len _ _ _).trans (bladeL_len _ _), scaleL_nums (by omega) _ _⟩
    · rename_i c t' hn
      by_cases hc : c = 40
      · rw [if_pos hc] at h
        obtain ⟨a, ha, hb⟩ := Option.bind_eq_some_iff.1 h
        obtain ⟨q, hq, rfl⟩ := Option.map_eq_some_iff.1 hb
        exact ev_mu hp f .sum t' a trivial ha
      · rw [if_neg hc] at h
        obtain ⟨a, _, rfl⟩ := Option.map_eq_some_iff.1 h
        exact ⟨bladeL_len _ _, bladeL_nums hp _ _⟩
theorem valR_mu {P : Int} {sq : List Int} {n : Nat} (hp : 2 ≤ P) {t : By} {v : List Int} (h : valR P sq n t = some v) : MuL P n v := by
  unfold valR at h
  split at h
  · rename_i x he
    injection h with h; subst h
    exact ev_mu hp _ .sum _ _ trivial he
  · cases h
theorem evR_mu {P : Int} {sq : List Int} (hp : 2 ≤ P) (t : By) : ((evR P sq t).2 = 0 ∧ MuL P sq.length (evR P sq t).1) ∨ ((evR P sq t).2 ≠ 0 ∧ (evR P sq t).1 = []) := by
  unfold evR
  split
  · exact .inr ⟨by decide, rfl⟩
  · split
    · rename_i v hv
      exact .inl ⟨rfl, valR_mu hp hv⟩
    · exact .inr ⟨by decide, rfl⟩
end Go.Proofs.YticofgmmjecleaaGreatDoor
namespace Go.Proofs.YticofgmmjecleaaGreatDoor
open Go Go.RowKit
/-- The texts' values added up, and the code of the first that has none. -/
def sumT (P : Int) (sq : List Int) : List Int → List By → List Int × Int
  | x, [] => (x, 0)
  | x, t :: r => if (evR P sq t).2 = 0 then sumT P sq (plusL P x (evR P sq t).1 1) r else ([], (evR P sq t).2)
def sumR (P : Int) (sq : List Int) (ts : List By) : List Int × Int :=
  if isSp P sq = true then (if 20 < ts.length then ([], 3) else if (ts.any fun t => decide (200 < t.length)) = true then ([], 3) else sumT P sq (List.replicate (pw sq.length) 0) ts) else ([], 1)
theorem sumT_mu {P : Int} {sq : List Int} (hp : 2 ≤ P) : ∀ (ts : List By) (x : List Int), MuL P sq.length x → MuL P sq.length (sumT P sq x ts).1 ∨ (sumT P sq x ts).1 = []
  | [], x, h => .inl h
  | t :: r, x, h => by
    unfold sumT
    split
    · exact sumT_mu hp r _ ⟨(plusL_len _ _ _ _).trans h.1, plusL_nums (by omega) _ _ _⟩
    · exact .inr rfl
theorem zero_mu {P : Int} (hp : 2 ≤ P) (n : Nat) : MuL P n (List.replicate (pw n) 0) := ⟨List.length_replicate, NumsL.replicate (by omega) _⟩
theorem sumR_len (P : Int) (sq : List Int) (ts : List By) : (sumR P sq ts).1.length ≤ 1048576 := by
  unfold sumR
  split
  · rename_i hsp
    obtain ⟨hP, hd1, hd2, hnum⟩ := isSp_dim hsp
    have h6 : pw sq.length ≤ 64 := pw_le hd2
    have h2 : 2 ≤ P := by have := isP_ge hP; omega
    split
    · simp
    split
    · simp
    · rcases sumT_mu h2 ts _ (zero_mu h2 sq.length) with h | h
      · have := h.1; omega
      · rw [h]; simp
  · simp
/-- A list of n numbers of the call's own, and a code. -/
def VTp (w0 : World) (n : Nat) (k : Int) (L : List Int) : VP := ⟨fun v w => ∃ A c, v = .tuple #[.slice A n c, .int .i64 k] ∧ MkI w0 w A n c L, fun _ _ _ ⟨A, c, e, h⟩ hb => ⟨A, c, e, h.below hb⟩⟩
set_option maxHeartbeats 3200000 in
set_option maxRecDepth 8000 in
theorem SumOfTexts_any (P : Int) (A : Option Addr) (n c : Nat) (sq : List Int) (T : Option Addr) (m d : Nat) (ts : List By) (w : World) (hn : n ≤ 1048576) (hm : m ≤ 1048576) (ha : Rd w A n (ints sq)) (hT : Rd w T m (txts ts)) (hts : ∀ t ∈ ts, t.length ≤ 1048576) (he : EnvX w) :
    Calls Tryz.prog 22 #[.agg #[.int .i64 P, .slice A n c], .slice T m d] w fun e w' => ∃ (A' : Option Addr) (k c' : Nat), e = .returned (.tuple #[.slice A' k c', .int .i64 (sumR P sq ts).2]) ∧ MkI w w' A' k c' (sumR P sq ts).1 := by
  have hB0 : Below w.heap.size w (w.alloc (.cells #[.int .i64 P, .slice A n c] 28)) := (Below.refl _ _).alloc (Nat.le_refl _) _
  have k0 : Blk (w.alloc (.cells #[.int .i64 P, .slice A n c] 28)) w.heap.size 28 #[.int .i64 P, .slice A n c] := Blk.new _ _ _
  obtain ⟨V, hV⟩ : ∃ V, V = sumR P sq ts := ⟨_, rfl⟩
  have HR := Lib.hid hV
  rw [← hV]
  clear hV
  have hlt := hT.lenS
  have HTS := Lib.hid hts
  clear hts
  cases hsp : isSp P sq
  · have his := IsSpace_b P A n c sq _ (by omega) (ha.below hB0) hsp
    have hmm : Hid (V = ([], 1)) := Lib.hid (by rw [HR.out]; unfold sumR; rw [hsp]; rfl)
    clear hsp hlt
    go_enter Tryz.func22, Tryz.ntmps22
    go_wp2_with fail
    refine his.mono ?_
    rintro e w1 ⟨rfl, hb1⟩
    go_wp2
    go_ret2
    exact ⟨none, 0, 0, by rw [hmm.out]; rfl, by rw [hmm.out]; exact Mk.nil (hB0.trans (hb1.mono (by simp)))⟩
  obtain ⟨hP, hd1, hd2, hnum⟩ := isSp_dim hsp
  have hln : sq.length = n := ha.lenI
  have hp2 := isP_ge hP
  have hP2 : 2 ≤ P := by omega
  have hP13 : P ≤ 13 := by omega
  have hn6 : n ≤ 6 := by omega
  have hpw : pw n ≤ 64 := pw_le hn6
  have his := IsSpace_b P A n c sq _ (by omega) (ha.below hB0) hsp
  have HSP := Lib.hid hsp
  have HLN := Lib.hid hln
  have HLT := Lib.hid hlt
  have HV : Hid (V = if 20 < m then ([], 3) else if (ts.any fun t => decide (200 < t.length)) = true then ([], 3) else sumT P sq (List.replicate (pw n) 0) ts) := Lib.hid (by rw [HR.out]; unfold sumR; rw [hsp, hln, hlt]; rfl)
  clear hsp hln hlt hd1 hd2 hnum hP hp2 HR
  by_cases h20 : 20 < m
  · have d20 : decide ((20 : Int) < (m : Int)) = true := by simp; omega
    have hmm : Hid (V = ([], 3)) := Lib.hid (by rw [HV.out, if_pos h20])
    clear h20
    go_enter Tryz.func22, Tryz.ntmps22
    go_wp2_with fail
    refine his.mono ?_
    rintro e w1 ⟨rfl, hb1⟩
    go_wp2
    go_ret2
    exact ⟨none, 0, 0, by rw [hmm.out]; rfl, by rw [hmm.out]; exact Mk.nil (hB0.trans (hb1.mono (by simp)))⟩
  have d20 : decide ((20 : Int) < (m : Int)) = false := by simp; omega
  have hmm : Hid (V = if (ts.any fun t => decide (200 < t.length)) = true then ([], 3) else sumT P sq (List.replicate (pw n) 0) ts) := Lib.hid (by rw [HV.out, if_neg h20])
  clear HV h20
  have hcf := fun (wx : World) (hb : Below w.heap.size w wx) => ContainsFuncT_any 54 _ T m d ts wx (by omega) (hT.below hb) HTS.out longText_tells (fun _ _ => rfl)
  cases hany : (ts.any fun t => decide (200 < t.length))
  · have hmv : Hid (V = sumT P sq (List.replicate (pw n) 0) ts) := Lib.hid (by rw [hmm.out, hany]; rfl)
    rw [hany] at hcf
    clear hany hmm
    have HCF := Lib.hid hcf
    clear hcf
    go_enter Tryz.func22, Tryz.ntmps22
    go_wp2_with fail
    refine his.mono ?_
    rintro e w1 ⟨rfl, hb1⟩
    have hB1 : Below w.heap.size w w1 := hB0.trans (hb1.mono (by simp))
    have k1 := k0.below hb1 k0.lt
    clear hb1 hB0 k0 his
    obtain ⟨q0, q1⟩ := k1.two
    go_wp2_with fail
    refine (HCF.out w1 hB1).mono ?_
    rintro e w2 ⟨rfl, rfl⟩
    clear HCF
    go_wp2_with fail
    refine (nothing_any P A n c _ (by omega)).mono ?_
    rintro e w3 ⟨G0, c0, rfl, hM0⟩
    have hM := hM0.after hB1
    have k3 := k1.below hM0.b k1.lt
    clear hM0 hB1 k1 q0 q1
    obtain ⟨q0, q1⟩ := k3.two
    go_wp2
    have k1 := k3
    clear k3
    go_loopw [6, 25] (fun out i wr => ∃ (k : Nat) (G : Option Addr) (cg : Nat) (x : List Int), k ≤ m ∧ i = .int .i64 k ∧ out = .slice G (pw n) cg ∧ MkI w wr G (pw n) cg x ∧ MuL P n x ∧ Blk wr w.heap.size 28 #[.int .i64 P, .slice A n c] ∧ V = sumT P sq x (ts.drop k)) (fun _ i _ => m - (intOf i).toNat)
    case atStart => exact ⟨0, _, _, _, Nat.zero_le _, rfl, rfl, hM, zero_mu hP2 n, k1, hmv.out⟩
    case round =>
      obtain ⟨k, G, cg, X, hk, rfl, rfl, hM2, hx, k2, hv⟩ := hrel
      clear hM k1
      obtain ⟨q0, q1⟩ := k2.two
      have hB2 := hM2.b
      by_cases hlt : k < m
      · have hT2 := hT.below hB2
        obtain ⟨g, o, rfl, hxk, hcx⟩ := hT2.str hlt
        have hgb := hcx
        rw [List.drop_eq_getElem_cons hxk, sumT] at hv
        have hle := HTS.out ts[k] (List.getElem_mem hxk)
        obtain ⟨t, ht⟩ : ∃ t, t = ts[k] := ⟨_, rfl⟩
        rw [← ht] at hv hcx hle
        have hdr := HLN
        clear ht hT2 hgb
        have hev := evaluate_any P A n c sq t wr HSP.out (ha.below hB2) (he.below hB2 (Nat.le_refl _))
        have hmu := evR_mu (sq := sq) hP2 t
        rw [HLN.out] at hmu
        obtain ⟨⟨Y, code⟩, hY⟩ : ∃ y, y = evR P sq t := ⟨_, rfl⟩
        rw [← hY] at hev hv hmu
        clear hY
        dsimp only at hev hv hmu
        have HVV := Lib.hid hv
        have HX := Lib.hid hx
        clear hv hx hle
        rcases hmu with ⟨hc0, hy⟩ | ⟨hc0, hy⟩
        · have HY := Lib.hid hy
          subst hc0
          clear hy
          go_wp2_with fail
          refine hev.mono ?_
          rintro e w4 ⟨A3, k3, c3, rfl, hM3⟩
          have hk3 : Y.length = k3 := hM3.2.rd.lenI
          obtain rfl : k3 = pw n := by rw [← hk3]; exact HY.out.1
          clear hk3
          have k4 := k2.below hM3.b k2.lt
          have hM4 := hM2.below hM3.b
          clear q0 q1 k2 hM2 hev
          obtain ⟨q0, q1⟩ := k4.two
          go_wp2_with fail
          refine (field_any P A n c w4).mono ?_
          rintro e w5 ⟨rfl, hb5⟩
          have k5 := k4.below hb5 k4.lt
          have hM5 := hM4.below hb5
          have hM35 := hM3.below hb5
          clear q0 q1 k4 hM4 hM3 hb5
          obtain ⟨q0, q1⟩ := k5.two
          go_wp2_with fail
          refine (plus_any P G (pw n) cg A3 (pw n) c3 1 X Y w5 hP2 hP13 (by omega) (Nat.le_refl _) hM5.rd HX.out.2 hM35.rd HY.out.2 (by omega) (by omega)).mono ?_
          rintro e w6 ⟨G6, c6, rfl, hM6⟩
          have k6 := k5.below hM6.b k5.lt
          have HM6 := Lib.hid (hM6.after hM5.b)
          clear q0 q1 k5 hM5 hM35 hM6
          go_wp2
          go_roundw
          case rel => exact ⟨k + 1, G6, c6, _, by omega, by go_num, rfl, HM6.out, ⟨(plusL_len _ _ _ _).trans HX.out.1, plusL_nums (by omega) _ _ _⟩, k6, by rw [HVV.out]; simp⟩
          case measure => simp [intOf]; omega
        · have hne : (code != 0) = true := by simpa using hc0
          go_wp2_with fail
          refine hev.mono ?_
          rintro e w4 ⟨A3, k3, c3, rfl, hM3⟩
          have HM3 := Lib.hid (hM3.after hB2).b
          clear hM3 hev
          go_wp2
          go_ret2
          exact ⟨none, 0, 0, by rw [HVV.out, if_neg hc0]; rfl, by rw [HVV.out, if_neg hc0]; exact Mk.nil HM3.out⟩
      · obtain rfl : k = m := by omega
        have hd : ts.drop k = [] := List.drop_of_length_le (by rw [HLT.out]; exact Nat.le_refl _)
        rw [hd] at hv
        have HVV := Lib.hid hv
        clear hv hd hx
        go_wp2
        go_ret2
        exact ⟨G, pw n, cg, by rw [HVV.out]; rfl, by rw [HVV.out]; exact hM2⟩
  · have hmv : Hid (V = ([], 3)) := Lib.hid (by rw [hmm.out, hany]; rfl)
    rw [hany] at hcf
    clear hany hmm
    have HCF := Lib.hid hcf
    clear hcf
    go_enter Tryz.func22, Tryz.ntmps22
    go_wp2_with fail
    refine his.mono ?_
    rintro e w1 ⟨rfl, hb1⟩
    have hB1 : Below w.heap.size w w1 := hB0.trans (hb1.mono (by simp))
    go_wp2_with fail
    refine (HCF.out w1 hB1).mono ?_
    rintro e w2 ⟨rfl, rfl⟩
    go_wp2
    go_ret2
    exact ⟨none, 0, 0, by rw [hmv.out]; rfl, by rw [hmv.out]; exact Mk.nil hB1⟩
set_option maxHeartbeats 3200000 in
set_option maxRecDepth 8000 in
theorem specSumOfTexts_any (P : Int) (A : Option Addr) (n c : Nat) (sq : List Int) (T : Option Addr) (m d : Nat) (ts : List By) (w : World) (hn : n ≤ 1048576) (hm : m ≤ 1048576) (ha : Rd w A n (ints sq)) (hT : Rd w T m (txts ts)) (hts : ∀ t ∈ ts, t.length ≤ 1048576) :
    Calls Tryz.prog 20 #[.agg #[.int .i64 P, .slice A n c], .slice T m d] w fun e w' => ∃ (A' : Option Addr) (k c' : Nat), e = .returned (.tuple #[.slice A' k c', .int .i64 (sumR P sq ts).2]) ∧ MkI w w' A' k c' (sumR P sq ts).1 := by
  have hB0 : Below w.heap.size w (w.alloc (.cells #[.int .i64 P, .slice A n c] 28)) := (Below.refl _ _).alloc (Nat.le_refl _) _
  have k0 : Blk (w.alloc (.cells #[.int .i64 P, .slice A n c] 28)) w.heap.size 28 #[.int .i64 P, .slice A n c] := Blk.new _ _ _
  obtain ⟨V, hV⟩ : ∃ V, V = sumR P sq ts := ⟨_, rfl⟩
  have HR := Lib.hid hV
  rw [← hV]
  clear hV
  have hlt := hT.lenS
  have HTS := Lib.hid hts
  clear hts
  cases hsp : isSp P sq
  · have his := l03Is_b P A n c sq _ (by omega) (ha.below hB0) hsp
    have hmm : Hid (V = ([], 1)) := Lib.hid (by rw [HR.out]; unfold sumR; rw [hsp]; rfl)
    clear hsp hlt
    go_enter Tryz.func20, Tryz.ntmps20
    go_wp2_with fail
    refine his.mono ?_
    rintro e w1 ⟨rfl, hb1⟩
    go_wp2
    go_ret2
    exact ⟨none, 0, 0, by rw [hmm.out]; rfl, by rw [hmm.out]; exact Mk.nil (hB0.trans (hb1.mono (by simp)))⟩
  obtain ⟨hP, hd1, hd2, hnum⟩ := isSp_dim hsp
  have hln : sq.length = n := ha.lenI
  have hp2 := isP_ge hP
  have hP2 : 2 ≤ P := by omega
  have hP13 : P ≤ 13 := by omega
  have hn6 : n ≤ 6 := by omega
  have hpw : pw n ≤ 64 := pw_le hn6
  have his := l03Is_b P A n c sq _ (by omega) (ha.below hB0) hsp
  have HSP := Lib.hid hsp
  have HLN := Lib.hid hln
  have HLT := Lib.hid hlt
  have HV : Hid (V = if 20 < m then ([], 3) else if (ts.any fun t => decide (200 < t.length)) = true then ([], 3) else sumT P sq (List.replicate (pw n) 0) ts) := Lib.hid (by rw [HR.out]; unfold sumR; rw [hsp, hln, hlt]; rfl)
  clear hsp hln hlt hd1 hd2 hnum hP hp2 HR
  by_cases h20 : 20 < m
  · have d20 : decide ((20 : Int) < (m : Int)) = true := by simp; omega
    have hmm : Hid (V = ([], 3)) := Lib.hid (by rw [HV.out, if_pos h20])
    clear h20
    go_enter Tryz.func20, Tryz.ntmps20
    go_wp2_with fail
    refine his.mono ?_
    rintro e w1 ⟨rfl, hb1⟩
    go_wp2
    go_ret2
    exact ⟨none, 0, 0, by rw [hmm.out]; rfl, by rw [hmm.out]; exact Mk.nil (hB0.trans (hb1.mono (by simp)))⟩
  have d20 : decide ((20 : Int) < (m : Int)) = false := by simp; omega
  have hmm : Hid (V = if (ts.any fun t => decide (200 < t.length)) = true then ([], 3) else sumT P sq (List.replicate (pw n) 0) ts) := Lib.hid (by rw [HV.out, if_neg h20])
  clear HV h20
  go_enter Tryz.func20, Tryz.ntmps20
  go_wp2_with fail
  refine his.mono ?_
  rintro e w1 ⟨rfl, hb1⟩
  have hB1 : Below w.heap.size w w1 := hB0.trans (hb1.mono (by simp))
  have k1 := k0.below hb1 k0.lt
  clear hb1 hB0 k0 his
  obtain ⟨q0, q1⟩ := k1.two
  have hT1 := hT.below hB1
  go_wp2
  go_loop [6] (fun i => ∃ (k : Nat), k ≤ m ∧ i = .int .i64 k ∧ ((ts.take k).any fun t => decide (200 < t.length)) = false) (fun i => m - (intOf i).toNat)
  case atStart => exact ⟨0, Nat.zero_le _, rfl, rfl⟩
  case round =>
    obtain ⟨k, hk, rfl, hnone⟩ := hrel
    have HNO := Lib.hid hnone
    clear hnone
    by_cases hlt : k < m
    · obtain ⟨g, o, rfl, hxk, hcx⟩ := hT1.str hlt
      have hstep : ((ts.take (k + 1)).any fun t => decide (200 < t.length)) = decide (200 < ts[k].length) := by
        rw [List.take_succ_eq_append_getElem hxk, List.any_append, HNO.out]; simp
      have hin : ts[k] ∈ ts := List.getElem_mem hxk
      have HIN := Lib.hid hin
      have HST := Lib.hid hstep
      have hln := fun wx ty => str_len wx ty ts[k]
      generalize ts[k] = t at *
      obtain ⟨z, hz⟩ : ∃ z : Nat, z = t.length := ⟨_, rfl⟩
      rw [← hz] at hln HST
      clear hin hstep hT1
      by_cases h200 : 200 < z
      · have d1 : decide ((200 : Int) < (z : Int)) = true := by simp; omega
        have hmv : Hid (V = ([], 3)) := Lib.hid (by
          rw [hmm.out, if_pos]
          exact List.any_eq_true.2 ⟨t, HIN.out, by rw [← hz]; exact decide_eq_true h200⟩)
        clear hz
        go_wp2
        go_ret2
        exact ⟨none, 0, 0, by rw [hmv.out]; rfl, by rw [hmv.out]; exact Mk.nil hB1⟩
      · have d1 : decide ((200 : Int) < (z : Int)) = false := by simp; omega
        clear hz
        go_wp2
        go_round
        case rel => exact ⟨k + 1, by omega, by go_num, by rw [HST.out]; exact decide_eq_false h200⟩
        case measure => simp [intOf]; omega
    · obtain rfl : k = m := by omega
      have hmv : Hid (V = sumT P sq (List.replicate (pw n) 0) ts) := Lib.hid (by
        rw [hmm.out, if_neg]
        have := HNO.out
        rw [List.take_of_length_le (by rw [HLT.out]; exact Nat.le_refl _)] at this
        rw [this]; decide)
      clear hmm HNO hT1 hlt hk
      go_wp2_with fail
      refine (l04Zero_any P A n c _ (by omega)).mono ?_
      rintro e w3 ⟨G0, c0, rfl, hM0⟩
      have hM := hM0.after hB1
      have k3 := k1.below hM0.b k1.lt
      clear hM0 hB1 k1 q0 q1
      obtain ⟨q0, q1⟩ := k3.two
      go_wp2
      have k1 := k3
      clear k3
      obtain ⟨m, rfl⟩ : ∃ m, m = k := ⟨_, rfl⟩
      go_loopw [7, 8] (fun out i wr => ∃ (k : Nat) (G : Option Addr) (cg : Nat) (x : List Int), k ≤ m ∧ i = .int .i64 k ∧ out = .slice G (pw n) cg ∧ MkI w wr G (pw n) cg x ∧ MuL P n x ∧ Blk wr w.heap.size 28 #[.int .i64 P, .slice A n c] ∧ V = sumT P sq x (ts.drop k)) (fun _ i _ => m - (intOf i).toNat)
      case atStart => exact ⟨0, _, _, _, Nat.zero_le _, rfl, rfl, hM, zero_mu hP2 n, k1, hmv.out⟩
      case round =>
        obtain ⟨k, G, cg, X, hk, rfl, rfl, hM2, hx, k2, hv⟩ := hrel
        clear hM k1
        obtain ⟨q0, q1⟩ := k2.two
        have hB2 := hM2.b
        by_cases hlt : k < m
        · have hT2 := hT.below hB2
          obtain ⟨g, o, rfl, hxk, hcx⟩ := hT2.str hlt
          have hgb := hcx
          rw [List.drop_eq_getElem_cons hxk, sumT] at hv
          have hle := HTS.out ts[k] (List.getElem_mem hxk)
          obtain ⟨t, ht⟩ : ∃ t, t = ts[k] := ⟨_, rfl⟩
          rw [← ht] at hv hcx hle
          have hdr := HLN
          clear ht hT2 hgb
          have hev0 := fun (wx : World) (hax : Rd wx A n (ints sq)) => l19Value_any P A n c sq t wx HSP.out hax
          have hmu := evR_mu (sq := sq) hP2 t
          rw [HLN.out] at hmu
          obtain ⟨⟨Y, code⟩, hY⟩ : ∃ y, y = evR P sq t := ⟨_, rfl⟩
          rw [← hY] at hev0 hv hmu
          clear hY
          dsimp only at hev0 hv hmu
          obtain ⟨K, hK⟩ : ∃ K, K = Y.length := ⟨_, rfl⟩
          have hev : ∀ (wx : World), Rd wx A n (ints sq) → Calls Tryz.prog 47 #[.agg #[.int .i64 P, .slice A n c], .string ⟨t.toArray⟩] wx fun e w' => ∃ (A' : Option Addr) (c' : Nat), e = .returned (.tuple #[.slice A' K c', .int .i64 code]) ∧ MkI wx w' A' K c' Y := fun wx hax => (hev0 wx hax).mono fun e w' ⟨A', k', c', he, hM⟩ => by
            obtain rfl : K = k' := by rw [hK]; exact hM.2.rd.lenI
            exact ⟨A', c', he, hM⟩
          have HKL := Lib.hid hK
          have HVV := Lib.hid hv
          have HX := Lib.hid hx
          have HM2 := Lib.hid hM2
          clear hv hx hle hev0 hK hM2
          go_wp2
          refine wp_obs 11 [[], [], [], [1, 2], [1, 2, 3], [0, 1, 2, 3, 4], [0, 1, 2, 3, 4, 5], [0, 1, 2, 3, 4, 5, 6], [0, 1, 2, 3, 4, 5, 6], [0, 1, 2, 3, 4, 5, 6, 7], [0, 1, 2, 3, 4, 5, 6, 8]] [VIs (.agg #[.int .i64 P, .slice A n c]), VIs (.slice (some ⟨g, o, none⟩) m d), VIs (.int .i64 (k : Int)), VIs (.pointer (some ⟨g, o + k, none⟩)), VIs (.string ⟨t.toArray⟩), VTp wr K code Y, VTp wr K code Y, VSl wr K Y, VIs (.int .i64 code), VSl wr K Y, VIs (.int .i64 code)] (fun w' => w'.cell? ⟨g, o + k, none⟩ = some (.string ⟨t.toArray⟩) ∧ Blk w' w.heap.size 28 #[.int .i64 P, .slice A n c] ∧ Below wr.heap.size wr w') (by kernel_rfl) (by kernel_rfl) (fun _ _ h hb => ⟨(hb.cell (World.block_lt_of_cell? _ _ h.1)).trans h.1, h.2.1.below hb h.2.1.lt, h.2.2.trans (hb.mono h.2.2.size)⟩) (⟨hcx, k2.drew, (Below.refl _ _).drew⟩) (fun x => ?_)
          refine obs_step (Eq.trans (by simp only [List.getElem?_toArray, List.getElem?_cons_zero]; exact rfl) rfl) rfl (fun w' hS hV K hK => ?_) ?_
          · have q2 := hS.1; obtain ⟨q0, q1⟩ := hS.2.1.two
            go_simp
            exact hK.out _ _ _ rfl rfl rfl (Below.refl _ _)
          simp only [List.setIfInBounds_toArray, List.set_cons_zero, List.set_cons_succ]
          refine obs_step (Eq.trans (by simp only [List.getElem?_toArray, List.getElem?_cons_succ, List.getElem?_cons_zero]; exact rfl) rfl) rfl (fun w' hS hV K hK => ?_) ?_
          · have q2 := hS.1; obtain ⟨q0, q1⟩ := hS.2.1.two
            go_simp
            exact hK.out _ _ _ rfl rfl rfl (Below.refl _ _)
          simp only [List.setIfInBounds_toArray, List.set_cons_zero, List.set_cons_succ]
          refine obs_step (Eq.trans (by simp only [List.getElem?_toArray, List.getElem?_cons_succ, List.getElem?_cons_zero]; exact rfl) rfl) rfl (fun w' hS hV K hK => ?_) ?_
          · have q2 := hS.1; obtain ⟨q0, q1⟩ := hS.2.1.two
            go_simp
            exact hK.out _ _ _ rfl rfl rfl (Below.refl _ _)
          simp only [List.setIfInBounds_toArray, List.set_cons_zero, List.set_cons_succ]
          refine obs_step (Eq.trans (by simp only [List.getElem?_toArray, List.getElem?_cons_succ, List.getElem?_cons_zero]; exact rfl) rfl) rfl (fun w' hS hV K hK => ?_) ?_
          · have e1 : x 1 = (.slice (some ⟨g, o, none⟩) m d) := hV 1 (by decide)
            have e2 : x 2 = (.int .i64 (k : Int)) := hV 2 (by decide)
            have q2 := hS.1; obtain ⟨q0, q1⟩ := hS.2.1.two
            go_simp
            exact hK.out _ _ _ rfl rfl rfl (Below.refl _ _)
          simp only [List.setIfInBounds_toArray, List.set_cons_zero, List.set_cons_succ]
          refine obs_step (Eq.trans (by simp only [List.getElem?_toArray, List.getElem?_cons_succ, List.getElem?_cons_zero]; exact rfl) rfl) rfl (fun w' hS hV K hK => ?_) ?_
          · have e1 : x 1 = (.slice (some ⟨g, o, none⟩) m d) := hV 1 (by decide)
            have e2 : x 2 = (.int .i64 (k : Int)) := hV 2 (by decide)
            have e3 : x 3 = (.pointer (some ⟨g, o + k, none⟩)) := hV 3 (by decide)
            have q2 := hS.1; obtain ⟨q0, q1⟩ := hS.2.1.two
            go_simp
            exact hK.out _ _ _ rfl rfl rfl (Below.refl _ _)
          simp only [List.setIfInBounds_toArray, List.set_cons_zero, List.set_cons_succ]
          refine obs_step (Eq.trans (by simp only [List.getElem?_toArray, List.getElem?_cons_succ, List.getElem?_cons_zero]; exact rfl) rfl) rfl (fun w' hS hV K hK => ?_) ?_
          · have e0 : x 0 = (.agg #[.int .i64 P, .slice A n c]) := hV 0 (by decide)
            have e1 : x 1 = (.slice (some ⟨g, o, none⟩) m d) := hV 1 (by decide)
            have e2 : x 2 = (.int .i64 (k : Int)) := hV 2 (by decide)
            have e3 : x 3 = (.pointer (some ⟨g, o + k, none⟩)) := hV 3 (by decide)
            have e4 : x 4 = (.string ⟨t.toArray⟩) := hV 4 (by decide)
            have q2 := hS.1; obtain ⟨q0, q1⟩ := hS.2.1.two
            go_simp
            refine (hev _ (ha.below (hB2.trans (hS.2.2.mono hB2.size)))).mono ?_
            rintro e v1 ⟨A2, c2, rfl, hM⟩
            exact hK.out _ _ _ rfl rfl ⟨_, _, rfl, hM.after hS.2.2⟩ hM.b
          simp only [List.setIfInBounds_toArray, List.set_cons_zero, List.set_cons_succ]
          refine obs_step (Eq.trans (by simp only [List.getElem?_toArray, List.getElem?_cons_succ, List.getElem?_cons_zero]; exact rfl) rfl) rfl (fun w' hS hV K hK => ?_) ?_
          · have e0 : x 0 = (.agg #[.int .i64 P, .slice A n c]) := hV 0 (by decide)
            have e1 : x 1 = (.slice (some ⟨g, o, none⟩) m d) := hV 1 (by decide)
            have e2 : x 2 = (.int .i64 (k : Int)) := hV 2 (by decide)
            have e3 : x 3 = (.pointer (some ⟨g, o + k, none⟩)) := hV 3 (by decide)
            have e4 : x 4 = (.string ⟨t.toArray⟩) := hV 4 (by decide)
            obtain ⟨A5, c5, e5, h5⟩ := hV 5 (by decide)
            have q2 := hS.1; obtain ⟨q0, q1⟩ := hS.2.1.two
            go_simp
            exact hK.out _ _ _ rfl rfl ⟨_, _, rfl, h5⟩ (Below.refl _ _)
          simp only [List.setIfInBounds_toArray, List.set_cons_zero, List.set_cons_succ]
          refine obs_step (Eq.trans (by simp only [List.getElem?_toArray, List.getElem?_cons_succ, List.getElem?_cons_zero]; exact rfl) rfl) rfl (fun w' hS hV K hK => ?_) ?_
          · have e0 : x 0 = (.agg #[.int .i64 P, .slice A n c]) := hV 0 (by decide)
            have e1 : x 1 = (.slice (some ⟨g, o, none⟩) m d) := hV 1 (by decide)
            have e2 : x 2 = (.int .i64 (k : Int)) := hV 2 (by decide)
            have e3 : x 3 = (.pointer (some ⟨g, o + k, none⟩)) := hV 3 (by decide)
            have e4 : x 4 = (.string ⟨t.toArray⟩) := hV 4 (by decide)
            obtain ⟨A5, c5, e5, h5⟩ := hV 5 (by decide)
            obtain ⟨A6, c6, e6, h6⟩ := hV 6 (by decide)
            have q2 := hS.1; obtain ⟨q0, q1⟩ := hS.2.1.two
            go_simp
            exact hK.out _ _ _ rfl rfl ⟨_, _, rfl, h6⟩ (Below.refl _ _)
          simp only [List.setIfInBounds_toArray, List.set_cons_zero, List.set_cons_succ]
          refine obs_step (Eq.trans (by simp only [List.getElem?_toArray, List.getElem?_cons_succ, List.getElem?_cons_zero]; exact rfl) rfl) rfl (fun w' hS hV K hK => ?_) ?_
          · have e0 : x 0 = (.agg #[.int .i64 P, .slice A n c]) := hV 0 (by decide)
            have e1 : x 1 = (.slice (some ⟨g, o, none⟩) m d) := hV 1 (by decide)
            have e2 : x 2 = (.int .i64 (k : Int)) := hV 2 (by decide)
            have e3 : x 3 = (.pointer (some ⟨g, o + k, none⟩)) := hV 3 (by decide)
            have e4 : x 4 = (.string ⟨t.toArray⟩) := hV 4 (by decide)
            obtain ⟨A5, c5, e5, h5⟩ := hV 5 (by decide)
            obtain ⟨A6, c6, e6, h6⟩ := hV 6 (by decide)
            have q2 := hS.1; obtain ⟨q0, q1⟩ := hS.2.1.two
            go_simp
            exact hK.out _ _ _ rfl rfl rfl (Below.refl _ _)
          simp only [List.setIfInBounds_toArray, List.set_cons_zero, List.set_cons_succ]
          refine obs_step (Eq.trans (by simp only [List.getElem?_toArray, List.getElem?_cons_succ, List.getElem?_cons_zero]; exact rfl) rfl) rfl (fun w' hS hV K hK => ?_) ?_
          · have e0 : x 0 = (.agg #[.int .i64 P, .slice A n c]) := hV 0 (by decide)
            have e1 : x 1 = (.slice (some ⟨g, o, none⟩) m d) := hV 1 (by decide)
            have e2 : x 2 = (.int .i64 (k : Int)) := hV 2 (by decide)
            have e3 : x 3 = (.pointer (some ⟨g, o + k, none⟩)) := hV 3 (by decide)
            have e4 : x 4 = (.string ⟨t.toArray⟩) := hV 4 (by decide)
            obtain ⟨A5, c5, e5, h5⟩ := hV 5 (by decide)
            obtain ⟨A6, c6, e6, h6⟩ := hV 6 (by decide)
            obtain ⟨A7, c7, e7, h7⟩ := hV 7 (by decide)
            have q2 := hS.1; obtain ⟨q0, q1⟩ := hS.2.1.two
            go_simp
            exact hK.out _ _ _ rfl rfl ⟨_, _, rfl, h7⟩ (Below.refl _ _)
          simp only [List.setIfInBounds_toArray, List.set_cons_zero, List.set_cons_succ]
          refine obs_step (Eq.trans (by simp only [List.getElem?_toArray, List.getElem?_cons_succ, List.getElem?_cons_zero]; exact rfl) rfl) rfl (fun w' hS hV K hK => ?_) ?_
          · have e0 : x 0 = (.agg #[.int .i64 P, .slice A n c]) := hV 0 (by decide)
            have e1 : x 1 = (.slice (some ⟨g, o, none⟩) m d) := hV 1 (by decide)
            have e2 : x 2 = (.int .i64 (k : Int)) := hV 2 (by decide)
            have e3 : x 3 = (.pointer (some ⟨g, o + k, none⟩)) := hV 3 (by decide)
            have e4 : x 4 = (.string ⟨t.toArray⟩) := hV 4 (by decide)
            obtain ⟨A5, c5, e5, h5⟩ := hV 5 (by decide)
            obtain ⟨A6, c6, e6, h6⟩ := hV 6 (by decide)
            have e8 : x 8 = (.int .i64 code) := hV 8 (by decide)
            have q2 := hS.1; obtain ⟨q0, q1⟩ := hS.2.1.two
            go_simp
            exact hK.out _ _ _ rfl rfl rfl (Below.refl _ _)
          simp only [List.setIfInBounds_toArray, List.set_cons_zero, List.set_cons_succ]
          refine fun w' hS hV => ?_
          have e0 : x 0 = (.agg #[.int .i64 P, .slice A n c]) := hV 0 (by decide)
          have e1 : x 1 = (.slice (some ⟨g, o, none⟩) m d) := hV 1 (by decide)
          have e2 : x 2 = (.int .i64 (k : Int)) := hV 2 (by decide)
          have e3 : x 3 = (.pointer (some ⟨g, o + k, none⟩)) := hV 3 (by decide)
          have e4 : x 4 = (.string ⟨t.toArray⟩) := hV 4 (by decide)
          obtain ⟨A5, c5, e5, h5⟩ := hV 5 (by decide)
          obtain ⟨A6, c6, e6, h6⟩ := hV 6 (by decide)
          obtain ⟨A7, c7, e7, h7⟩ := hV 7 (by decide)
          have e8 : x 8 = (.int .i64 code) := hV 8 (by decide)
          obtain ⟨A9, c9, e9, h9⟩ := hV 9 (by decide)
          have e10 : x 10 = (.int .i64 code) := hV 10 (by decide)
          simp only [e0, e1, e2, e3, e4, e5, e6, e7, e8, e9, e10]
          clear e0 e1 e2 e3 e4 e5 e6 e7 e8 e9 e10
          refine wpAny_done (by kernel_rfl) ?_ _
          have k4 := hS.2.1
          have HM4 := Lib.hid (HM2.out.below hS.2.2)
          have HB4 := Lib.hid (hB2.trans (hS.2.2.mono hB2.size))
          have HY4 := Lib.hid h9
          clear hS HM2 q0 q1 k2 hev hcx h9 h5 h6 h7
          obtain ⟨q0, q1⟩ := k4.two
          rcases hmu with ⟨hc0, hy⟩ | ⟨hc0, hy⟩
          · subst hc0
            obtain rfl : K = pw n := by rw [HKL.out]; exact hy.1
            have HY := Lib.hid hy
            clear hy
            go_wp2_with fail
            refine (l02Plus_any P G (pw n) cg _ (pw n) _ 1 X Y _ hP2 hP13 (by omega) (Nat.le_refl _) HM4.out.rd HX.out.2 HY4.out.rd HY.out.2 (by omega) (by omega)).mono ?_
            rintro e w6 ⟨G6, c6, rfl, hM6⟩
            have k6 := k4.below hM6.b k4.lt
            have HM6 := Lib.hid (hM6.after HM4.out.b)
            clear q0 q1 k4 hM6
            go_wp2
            go_roundw
            case rel => exact ⟨k + 1, G6, c6, _, by omega, by go_num, rfl, HM6.out, ⟨(plusL_len _ _ _ _).trans HX.out.1, plusL_nums (by omega) _ _ _⟩, k6, by rw [HVV.out]; simp⟩
            case measure => simp [intOf]; omega
          · have hne : (code != 0) = true := by simpa using hc0
            go_wp2
            go_ret2
            exact ⟨none, 0, 0, by rw [HVV.out, if_neg hc0]; rfl, by rw [HVV.out, if_neg hc0]; exact Mk.nil HB4.out⟩
        · obtain rfl : k = m := by omega
          have hd : ts.drop k = [] := List.drop_of_length_le (by rw [HLT.out]; exact Nat.le_refl _)
          rw [hd] at hv
          have HVV := Lib.hid hv
          clear hv hd hx
          go_wp2
          go_ret2
          exact ⟨G, pw n, cg, by rw [HVV.out]; rfl, by rw [HVV.out]; exact hM2⟩
end Go.Proofs.YticofgmmjecleaaGreatDoor

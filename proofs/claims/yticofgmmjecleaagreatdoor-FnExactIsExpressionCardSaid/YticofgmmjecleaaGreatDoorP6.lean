/-
  LawIsExpression: part 6 of the texts that the proof needs. No condition.
-/
import Derived.Test.YticofgmmjecleaaGreatDoorP5
namespace Go.Proofs.YticofgmmjecleaaGreatDoor
open Go Go.RowKit
theorem sreads (P : Int) (sq : List Int) (A : Option Addr) (n c : Nat) (T : By) (hp : 2 ≤ P) (hp2 : P ≤ 13) (hn : n ≤ 6) (hT : T.length ≤ 1048576) (hs : NumsL P sq) (hsp : isSp P sq = true) (hln : sq.length = n) : ∀ L : Nat, ∀ i, i ≤ T.length → T.length ≤ i + L →
    RsC 88 P sq A n c .sum T i ∧ RsC 119 P sq A n c .prod T i ∧ RsC 144 P sq A n c .fac T i ∧ RsC 167 P sq A n c .atom T i := by
  intro L
  induction L using Nat.strongRecOn with
  | ind L ih =>
    have later : ∀ i i', i < i' → i' ≤ T.length → T.length ≤ i + L → _ := fun i i' h1 h2 h3 => ih (T.length - i') (by omega) i' h2 (by omega)
    have hat : ∀ i, i ≤ T.length → T.length ≤ i + L → RsC 167 P sq A n c .atom T i := fun i h1 h2 =>
      satom_any P sq A n c T i hp hp2 hn hT h1 hsp hln fun i' h3 h4 => (later i i' h3 h4 h2).1
    have hfac : ∀ i, i ≤ T.length → T.length ≤ i + L → RsC 144 P sq A n c .fac T i := fun i h1 h2 =>
      sfac_any P sq A n c T i hp hp2 hn hT h1 (fun i' h3 h4 => (later i i' h3 h4 h2).2.2.1) (hat i h1 h2)
    have hprod : ∀ i, i ≤ T.length → T.length ≤ i + L → RsC 119 P sq A n c .prod T i := fun i h1 h2 =>
      sprod_any P sq A n c T i hp hp2 hn hT h1 hs fun i' h3 h4 => hfac i' h4 (by omega)
    have hsum : ∀ i, i ≤ T.length → T.length ≤ i + L → RsC 88 P sq A n c .sum T i := fun i h1 h2 =>
      ssum_any P sq A n c T i hp hp2 hn hT h1 fun i' h3 h4 => hprod i' h4 (by omega)
    exact fun i h1 h2 => ⟨hsum i h1 h2, hprod i h1 h2, hfac i h1 h2, hat i h1 h2⟩
set_option maxHeartbeats 3200000 in
set_option maxRecDepth 8000 in
theorem l19Value_any (P : Int) (A : Option Addr) (n c : Nat) (sq : List Int) (t : By) (w : World) (hsp : isSp P sq = true) (ha : Rd w A n (ints sq)) :
    Calls Tryz.prog 47 #[.agg #[.int .i64 P, .slice A n c], .string ⟨t.toArray⟩] w fun e w' => ∃ (A' : Option Addr) (k c' : Nat), e = .returned (.tuple #[.slice A' k c', .int .i64 (evR P sq t).2]) ∧ MkI w w' A' k c' (evR P sq t).1 := by
  obtain ⟨hP, hd1, hd2, hnum⟩ := isSp_dim hsp
  have hln : sq.length = n := ha.lenI
  obtain ⟨p1, p2⟩ := isP_pos hP
  have hp2' := isP_ge hP
  have hB0 : Below w.heap.size w (w.alloc (.cells #[.int .i64 P, .slice A n c] 28)) := (Below.refl _ _).alloc (Nat.le_refl _) _
  have k0 : Blk (w.alloc (.cells #[.int .i64 P, .slice A n c] 28)) w.heap.size 28 #[.int .i64 P, .slice A n c] := Blk.new _ _ _
  have hlnt : ∀ wx ty, (Builtin.len_ #[9] ty #[.string ⟨t.toArray⟩]).run Tryz.prog wx = .ok (.int .i64 t.length) wx := fun wx ty => str_len wx ty t
  obtain ⟨V, hV⟩ : ∃ V, V = evR P sq t := ⟨_, rfl⟩
  have HV := Lib.hid hV
  rw [← hV]
  clear hV
  by_cases hl : 200 < t.length
  · have d1 : decide ((200 : Int) < (t.length : Int)) = true := by simp; omega
    have hV2 : Hid (V = ([], 3)) := Lib.hid (by rw [HV.out]; unfold evR; rw [if_pos hl])
    clear hln
    go_enter Tryz.func47, Tryz.ntmps47
    go_wp2
    go_ret2
    exact ⟨none, 0, 0, by rw [hV2.out]; rfl, by rw [hV2.out]; exact Mk.nil hB0⟩
  · have d1 : decide ((200 : Int) < (t.length : Int)) = false := by simp; omega
    obtain ⟨q0, q1⟩ := k0.two
    have HSP := Lib.hid hsp
    have HLN := Lib.hid hln
    have hn6 : n ≤ 6 := by omega
    have hn1 : 1 ≤ n := by omega
    clear hln hsp
    go_enter Tryz.func47, Tryz.ntmps47
    go_wp2_with fail
    have hsz : (w.alloc (.cells #[.int .i64 P, .slice A n c] 28)).heap.size = w.heap.size + 1 := by simp
    have hB2 : Below w.heap.size w ((w.alloc (.cells #[.int .i64 P, .slice A n c] 28)).alloc (.cells #[.int .i64 P, .slice A n c, .string ⟨t.toArray⟩, .int .i64 0, .bool false] 105)) := hB0.alloc (by rw [hsz]; omega) _
    have hk : RsB ((w.alloc (.cells #[.int .i64 P, .slice A n c] 28)).alloc (.cells #[.int .i64 P, .slice A n c, .string ⟨t.toArray⟩, .int .i64 0, .bool false] 105)) (w.heap.size + 1) P A n c t 0 false := by
      have h := Blk.new (w.alloc (.cells #[.int .i64 P, .slice A n c] 28)) 105 #[.int .i64 P, .slice A n c, .string ⟨t.toArray⟩, .int .i64 0, .bool false]
      rw [hsz] at h; exact h
    have hcall := (sreads P sq A n c t (by omega) p2 hn6 (by omega) (nums_numsL hnum) HSP.out HLN.out t.length 0 (by omega) (by omega)).1 (w.heap.size + 1) _ (fun a ha' => Nat.lt_succ_of_lt (ha.blk_lt (by omega) a ha')) (ha.below hB2) hk
    generalize (w.alloc (.cells #[.int .i64 P, .slice A n c] 28)).alloc (.cells #[.int .i64 P, .slice A n c, .string ⟨t.toArray⟩, .int .i64 0, .bool false] 105) = w2 at hB2 hk hcall ⊢
    refine hcall.mono ?_
    rintro e w3 ⟨A3, c3, x3, i3, b3, rfl, hk3, hx3, hO3, hl3, hl3b, hev3, hE3⟩
    have hB3 := hB2.trans (hE3.b.mono (Nat.le_succ _))
    have hM : MkI w w3 A3 (pw n) c3 x3 := ⟨hB3, hO3.base hB2.size⟩
    have hval : Hid (V = match (if (b3 || !(t.drop i3).isEmpty) = true then none else some x3) with | some v => (v, 0) | none => ([], 6)) := Lib.hid (by
      rw [HV.out]; unfold evR; rw [if_neg hl, HLN.out, valR_of (by rw [List.drop_zero] at hev3; exact hev3)]
      generalize (if (b3 || !(t.drop i3).isEmpty) = true then none else some x3) = oo
      cases oo <;> rfl)
    clear hcall hk hB2 hE3 hev3 hO3 q0 q1
    obtain ⟨q0, q1, q2, q3, q4⟩ := hk3.five
    cases b3 with
    | true =>
      go_wp2
      go_ret2
      exact ⟨none, 0, 0, by rw [hval.out]; rfl, by rw [hval.out]; exact Mk.nil hB3⟩
    | false =>
      by_cases hi3 : i3 < t.length
      · have d3 : decide ((i3 : Int) < (t.length : Int)) = true := by simp; omega
        have hne : (t.drop i3).isEmpty = false := by rw [List.drop_eq_getElem_cons hi3]; rfl
        rw [hne] at hval
        clear hne hk3
        go_wp2
        go_ret2
        exact ⟨none, 0, 0, by rw [hval.out]; rfl, by rw [hval.out]; exact Mk.nil hB3⟩
      · have d3 : decide ((i3 : Int) < (t.length : Int)) = false := by simp; omega
        have hne : (t.drop i3).isEmpty = true := by rw [List.drop_eq_nil_of_le (by omega)]; rfl
        rw [hne] at hval
        clear hne hk3
        go_wp2
        go_ret2
        exact ⟨A3, pw n, c3, by rw [hval.out]; rfl, by rw [hval.out]; exact hM⟩
def isxR (P : Int) (sq : List Int) (t : By) : Bool × Int := if isSp P sq = true then ((evR P sq t).2 == 0, 0) else (false, 1)
set_option maxHeartbeats 1600000 in
set_option maxRecDepth 8000 in
theorem IsExpression_any (P : Int) (A : Option Addr) (n c : Nat) (sq : List Int) (t : By) (w : World) (hn : n ≤ 1048576) (ha : Rd w A n (ints sq)) (he : EnvX w) :
    Calls Tryz.prog 11 #[.agg #[.int .i64 P, .slice A n c], .string ⟨t.toArray⟩] w fun e w' => e = .returned (.tuple #[.bool (isxR P sq t).1, .int .i64 (isxR P sq t).2]) ∧ Below w.heap.size w w' := by
  have hB0 : Below w.heap.size w (w.alloc (.cells #[.int .i64 P, .slice A n c] 28)) := (Below.refl _ _).alloc (Nat.le_refl _) _
  have k0 : Blk (w.alloc (.cells #[.int .i64 P, .slice A n c] 28)) w.heap.size 28 #[.int .i64 P, .slice A n c] := Blk.new _ _ _
  obtain ⟨V, hV⟩ : ∃ V, V = isxR P sq t := ⟨_, rfl⟩
  have HR := Lib.hid hV
  rw [← hV]
  clear hV
  cases hsp : isSp P sq
  · have his := IsSpace_b P A n c sq _ (by omega) (ha.below hB0) hsp
    have hm : Hid (V = (false, 1)) := Lib.hid (by rw [HR.out]; unfold isxR; rw [hsp]; rfl)
    clear hsp
    go_enter Tryz.func11, Tryz.ntmps11
    go_wp2_with fail
    refine his.mono ?_
    rintro e w1 ⟨rfl, hb1⟩
    go_wp2
    go_ret2
    exact ⟨by rw [hm.out]; rfl, hB0.trans (hb1.mono (by simp))⟩
  · have his := IsSpace_b P A n c sq _ (by omega) (ha.below hB0) hsp
    have hm : Hid (V = ((evR P sq t).2 == 0, 0)) := Lib.hid (by rw [HR.out]; unfold isxR; rw [hsp]; rfl)
    go_enter Tryz.func11, Tryz.ntmps11
    go_wp2_with fail
    refine his.mono ?_
    rintro e w1 ⟨rfl, hb1⟩
    have hB1 : Below w.heap.size w w1 := hB0.trans (hb1.mono (by simp))
    have k1 := k0.below hb1 k0.lt
    have hev := evaluate_any P A n c sq t w1 hsp (ha.below hB1) (he.below hB1 (Nat.le_refl _))
    clear hb1 hB0 k0 hsp his
    obtain ⟨q0, q1⟩ := k1.two
    go_wp2_with fail
    refine hev.mono ?_
    rintro e w2 ⟨A3, k3, c3, rfl, hM⟩
    go_wp2
    go_ret2
    exact ⟨by rw [hm.out]; rfl, hB1.trans (hM.b.mono hB1.size)⟩
set_option maxHeartbeats 1600000 in
set_option maxRecDepth 8000 in
theorem specIsExpression_any (P : Int) (A : Option Addr) (n c : Nat) (sq : List Int) (t : By) (w : World) (hn : n ≤ 1048576) (ha : Rd w A n (ints sq)) :
    Calls Tryz.prog 9 #[.agg #[.int .i64 P, .slice A n c], .string ⟨t.toArray⟩] w fun e w' => e = .returned (.tuple #[.bool (isxR P sq t).1, .int .i64 (isxR P sq t).2]) ∧ Below w.heap.size w w' := by
  have hB0 : Below w.heap.size w (w.alloc (.cells #[.int .i64 P, .slice A n c] 28)) := (Below.refl _ _).alloc (Nat.le_refl _) _
  have k0 : Blk (w.alloc (.cells #[.int .i64 P, .slice A n c] 28)) w.heap.size 28 #[.int .i64 P, .slice A n c] := Blk.new _ _ _
  obtain ⟨V, hV⟩ : ∃ V, V = isxR P sq t := ⟨_, rfl⟩
  have HR := Lib.hid hV
  rw [← hV]
  clear hV
  cases hsp : isSp P sq
  · have his := l03Is_b P A n c sq _ (by omega) (ha.below hB0) hsp
    have hm : Hid (V = (false, 1)) := Lib.hid (by rw [HR.out]; unfold isxR; rw [hsp]; rfl)
    clear hsp
    go_enter Tryz.func9, Tryz.ntmps9
    go_wp2_with fail
    refine his.mono ?_
    rintro e w1 ⟨rfl, hb1⟩
    go_wp2
    go_ret2
    exact ⟨by rw [hm.out]; rfl, hB0.trans (hb1.mono (by simp))⟩
  · have his := l03Is_b P A n c sq _ (by omega) (ha.below hB0) hsp
    have hm : Hid (V = ((evR P sq t).2 == 0, 0)) := Lib.hid (by rw [HR.out]; unfold isxR; rw [hsp]; rfl)
    go_enter Tryz.func9, Tryz.ntmps9
    go_wp2_with fail
    refine his.mono ?_
    rintro e w1 ⟨rfl, hb1⟩
    have hB1 : Below w.heap.size w w1 := hB0.trans (hb1.mono (by simp))
    have k1 := k0.below hb1 k0.lt
    have hev := l19Value_any P A n c sq t w1 hsp (ha.below hB1)
    clear hb1 hB0 k0 hsp his
    obtain ⟨q0, q1⟩ := k1.two
    go_wp2_with fail
    refine hev.mono ?_
    rintro e w2 ⟨A3, k3, c3, rfl, hM⟩
    go_wp2
    go_ret2
    exact ⟨by rw [hm.out]; rfl, hB1.trans (hM.b.mono hB1.size)⟩
end Go.Proofs.YticofgmmjecleaaGreatDoor

/-
  LawFnExpressions: part 8 of the texts that the proof needs. No condition.
-/
import Derived.Test.YticofgmmjecleaaGreatDoorP7
namespace Go.Proofs.YticofgmmjecleaaGreatDoor
open Go Go.RowKit
theorem Ex.setNew {R : Nat} {w wr : World} {b : Nat} (d : Ex R w wr) (hb : w.heap.size ≤ b) (hR : R ≤ w.heap.size) (i : Nat) (u : Value) : Ex R w (wr.setCell ⟨b, i, none⟩ u) :=
  ⟨d.b.setCell (p := ⟨b, i, none⟩) (Nat.le_trans hR hb) _, fun k hk hne => (Below.heap_setCell wr ⟨b, i, none⟩ u k (by simp; omega)).trans (d.k k hk hne)⟩
theorem blade_scale {P : Int} (hp : 0 < P) (n : Nat) (k : Int) : (List.replicate (pw n) 0).set 0 (k % P) = scaleL P (bladeL n 0) (k % P) := by
  unfold scaleL bladeL
  rw [List.map_set, List.map_replicate]
  simp
theorem Own.set2 {w : World} {E : TypeId} {B g : Nat} {n c : Nat} {us : List Value} (h : Own w B E (some ⟨g, 0, none⟩) n c us) (k : Nat) (u : Value) : Own (w.setCell ⟨g, k, none⟩ u) B E (some ⟨g, 0, none⟩) n c (us.set k u) ∧ w.grownBy (w.setCell ⟨g, k, none⟩ u) (some g) := World.ownsRow.stored h k u
/-- The value is the text of the digits; they have been read. -/
def VDis (R : Nat) (P : Int) (A : Option Addr) (n c : Nat) (T : By) (i : Nat) (D : By) : VP :=
  ⟨fun v w => v = .string ⟨D.toArray⟩ ∧ RsB w R P A n c T (i + D.length) false, fun _ _ _ ⟨e, hk⟩ hb => ⟨e, hk.below hb hk.lt⟩⟩
/-- The value is u, and the reader lies at i. -/
def VAfs (R : Nat) (P : Int) (A : Option Addr) (n c : Nat) (T : By) (i : Nat) (u : Value) : VP :=
  ⟨fun v w => v = u ∧ RsB w R P A n c T i false, fun _ _ _ ⟨e, hk⟩ hb => ⟨e, hk.below hb hk.lt⟩⟩
set_option maxHeartbeats 25600000 in
set_option maxRecDepth 8000 in
theorem satom_any (P : Int) (sq : List Int) (A : Option Addr) (n c : Nat) (T : By) (i : Nat) (hp : 2 ≤ P) (hp2 : P ≤ 13) (hn : n ≤ 6) (hT : T.length ≤ 1048576) (hi : i ≤ T.length) (hsp : isSp P sq = true) (hln : sq.length = n)
    (hsum : ∀ i' : Nat, i < i' → i' ≤ T.length → RsC 88 P sq A n c .sum T i') : RsC 167 P sq A n c .atom T i := by
  intro R w hA hr hk
  have hpn : pw n ≤ 64 := pw_le hn
  have HG := hk.lt
  have HLN := Lib.hid hln
  have HSP := Lib.hid hsp
  clear hln hsp
  have hze := fun wx => l04Zero_any P A n c wx (show n ≤ 10 by omega)
  obtain ⟨d, hd⟩ : ∃ d, d = pk (T.drop i) := ⟨_, rfl⟩
  by_cases h101 : d = 101
  · subst h101
    have hnx := nxt_pk_some (cs := [40, 101]) (by decide) hd.symm (by decide)
    have hlt : i < T.length := pk_ne_end (by rw [← hd]; decide)
    have HN := Lib.hid (evE_atom_name (P := P) (sq := sq) (n := n) hnx)
    have hdl := dig_le (T.drop (i + 1))
    rw [List.length_drop] at hdl
    have hsd := fun wx (h : RsB wx R P A n c T (i + 1) false) => sdigits_any P A n c T (i + 1) false R wx hT (by omega) h
    have hres : resL (T.drop (i + 1)) = T.drop (i + 1 + (digL (T.drop (i + 1))).length) := by rw [← drop_dig, List.drop_drop]
    rw [hres] at HN
    obtain ⟨D, hD⟩ : ∃ D, D = digL (T.drop (i + 1)) := ⟨_, rfl⟩
    rw [← hD] at HN hdl hsd
    have hcat := fun wx => cat_bs (P := Tryz.prog) wx [101] D (by simp) (by omega)
    obtain ⟨u, hu⟩ : ∃ u, u = 101 :: D := ⟨_, rfl⟩
    have hcu : ([101] ++ D : By) = u := hu.symm
    rw [hcu] at hcat
    rw [← hu] at HN
    have hmn := fun wx (h : Rd wx A n (ints sq)) => specMaskOfName_any P A n c sq u wx (by omega) h
    unfold monR at hmn
    rw [HSP.out, if_pos rfl, HLN.out] at hmn
    have HDL := Lib.hid hdl
    have HCAT := Lib.hid hcat
    have HMN := Lib.hid hmn
    clear hnx hu hcu hsum hres hcat hmn hdl hD
    have hd9 : (pk (T.drop i)).toNat = 101 := by rw [← hd]; rfl
    clear hd
    go_enter Tryz.func167, Tryz.ntmps167
    obtain ⟨q0, q1, q2, q3, q4⟩ := hk.five
    go_wp2_with fail
    refine (hze w).mono ?_
    rintro e w0 ⟨A0, c0, rfl, hM0⟩
    have hk0 := hk.below hM0.b hk.lt
    have hE0 := (Ex.refl R w).then hM0.b (Nat.le_of_lt HG)
    have hO0 := hM0.2
    clear hze hM0 hk q0 q1 q2 q3 q4
    have hpk := peek_any P A n c T i false R w0 hT hk0
    rw [hd9] at hpk
    go_wp2_with fail
    refine hpk.mono ?_
    rintro e w2 ⟨rfl, hbp⟩
    have hk2 := hk0.below hbp hk0.lt
    have hE2 := hE0.then hbp (Nat.le_of_lt HG)
    have hO2 := hO0.below hbp
    clear hpk hbp hk0 hE0 hO0
    clear hd9
    have hpw : 0 < pw n := pw_pos n
    obtain ⟨g0, rfl, hg0, -⟩ : ∃ g0, A0 = some ⟨g0, 0, none⟩ ∧ w.heap.size ≤ g0 ∧ g0 < w2.heap.size := by
      rcases hO2.form with ⟨-, h0⟩ | h
      · omega
      · exact h
    have f3 := hk2.frozen 3
    have q3 := hk2.cell 3
    have W1 : wrap64 ((i : Int) + 1) = (i : Int) + 1 := by unfold wrap64; omega
    have hk3 : RsB (w2.setCell ⟨R, 3, none⟩ (.int .i64 ((i : Int) + 1))) R P A n c T (i + 1) false := hk2.set_ 3 _
    have hE3 := hE2.trans (Ex.set hk2.lt 3 (.int .i64 ((i : Int) + 1)))
    have hO3 := hO2.ex (Ex.set hk2.lt 3 (.int .i64 ((i : Int) + 1))) hk2 (by decide)
    go_wp2_with fail
    generalize w2.setCell ⟨R, 3, none⟩ (.int .i64 ((i : Int) + 1)) = w3 at hk3 hE3 hO3 ⊢
    clear f3 q3 hk2 hE2 hO2
    have hcat := HCAT.out
    have hmn := HMN.out
    clear HCAT HMN
    refine wp_obsK 13 (fun w w' => Ex R w w' ∧ ∃ i b, RsB w' R P A n c T i b) [[], [0], [0, 1], [0, 1, 2], [], [4], [4, 5], [0, 1, 2, 3, 4, 5, 6], [0, 1, 2, 3, 4, 5, 6, 7], [0, 1, 2, 3, 4, 5, 6, 7, 8], [0, 1, 2, 3, 4, 5, 6, 7, 8], [0, 1, 2, 3, 4, 5, 6, 7, 8, 9], [0, 1, 2, 3, 4, 5, 6, 7, 8, 10]] [[], [], [], [], [], [99], [], [], [], [], [], [], []] (fun x => [VIs (.pointer (some ⟨R, 0, none⟩)), VIs (.pointer (some ⟨R, 0, none⟩)), VIs (.pointer (some ⟨R, 0, none⟩)), VIs (.agg #[.int .i64 P, .slice A n c]), VIs (.pointer (some ⟨R, 0, none⟩)), VDis R P A n c T (i + 1) D, VAfs R P A n c T (i + 1 + D.length) (.string ⟨u.toArray⟩), VAfs R P A n c T (i + 1 + D.length) (.tuple #[.int .i64 (markI (maskOf n u)), .int .i64 (codeN (maskOf n u))]), VAfs R P A n c T (i + 1 + D.length) (.tuple #[.int .i64 (markI (maskOf n u)), .int .i64 (codeN (maskOf n u))]), VAfs R P A n c T (i + 1 + D.length) (.int .i64 (markI (maskOf n u))), VAfs R P A n c T (i + 1 + D.length) (.int .i64 (codeN (maskOf n u))), VAfs R P A n c T (i + 1 + D.length) (.int .i64 (markI (maskOf n u))), VAfs R P A n c T (i + 1 + D.length) (.int .i64 (codeN (maskOf n u)))]) 5 (fun b w' => SRs R P A n c T (i + 1) b w' ∧ Ex R w w' ∧ Own w' w.heap.size 2 (some ⟨g0, 0, none⟩) (pw n) c0 (ints (List.replicate (pw n) 0))) (by kernel_rfl) (by kernel_rfl) (fun x x' j hx => by
        rcases j with _ | _ | _ | _ | _ | _ | _ | _ | _ | _ | _ | _ | _ | j
        · rfl
        · rfl
        · rfl
        · rfl
        · rfl
        · rfl
        · rfl
        · rfl
        · rfl
        · rfl
        · rfl
        · rfl
        · rfl
        · rfl)
      (weak_ofR [0, 1, 2, 3, 4] (by decide) (fun k hk x v w w' hp hr => by
        simp only [List.mem_cons, List.not_mem_nil, or_false] at hk
        rcases hk with rfl | rfl | rfl | rfl | rfl
        · exact hp
        · exact hp
        · exact hp
        · exact hp
        · exact hp)) (fun j b _ w' h hst => hst.eitherK 5 (only_at (by decide)) (fun hb => ⟨h.1.below _ hb, h.2.1.then hb (Nat.le_of_lt HG), h.2.2.below hb⟩) (fun e hr => ⟨SRs.rel b e hr.2, h.2.1.trans hr.1, by obtain ⟨⟨t5, b5, k5, _⟩, _, o5⟩ := h; exact o5.ex hr.1 k5 (by decide)⟩)) (⟨⟨i + 1, false, hk3.below (Below.refl _ _).drew hk3.lt, fun _ => ⟨rfl, rfl⟩⟩, hE3.then (Below.refl _ _).drew (Nat.le_of_lt HG), hO3.below (Below.refl _ _).drew⟩) (fun x => ?_)
    refine obs_stepK (Eq.trans (by simp only [List.getElem?_toArray, List.getElem?_cons_zero]; exact rfl) rfl) rfl (fun b w' hb0 hS hV K hK => ?_) ?_
    · obtain ⟨⟨ts, bs, hkk, hbb⟩, hEE, hOO⟩ := hS; obtain ⟨q0, q1, q2, q3, q4⟩ := hkk.five
      go_simp
      exact hK.out _ _ _ rfl rfl rfl (Below.refl _ _)
    simp only [List.setIfInBounds_toArray, List.set_cons_zero, List.set_cons_succ]
    refine obs_stepK (Eq.trans (by simp only [List.getElem?_toArray, List.getElem?_cons_succ, List.getElem?_cons_zero]; exact rfl) rfl) rfl (fun b w' hb0 hS hV K hK => ?_) ?_
    · have e0 : x 0 = (.pointer (some ⟨R, 0, none⟩)) := hV 0 (by decide)
      obtain ⟨⟨ts, bs, hkk, hbb⟩, hEE, hOO⟩ := hS; obtain ⟨q0, q1, q2, q3, q4⟩ := hkk.five
      go_simp
      exact hK.out _ _ _ rfl rfl rfl (Below.refl _ _)
    simp only [List.setIfInBounds_toArray, List.set_cons_zero, List.set_cons_succ]
    refine obs_stepK (Eq.trans (by simp only [List.getElem?_toArray, List.getElem?_cons_succ, List.getElem?_cons_zero]; exact rfl) rfl) rfl (fun b w' hb0 hS hV K hK => ?_) ?_
    · have e0 : x 0 = (.pointer (some ⟨R, 0, none⟩)) := hV 0 (by decide)
      have e1 : x 1 = (.pointer (some ⟨R, 0, none⟩)) := hV 1 (by decide)
      obtain ⟨⟨ts, bs, hkk, hbb⟩, hEE, hOO⟩ := hS; obtain ⟨q0, q1, q2, q3, q4⟩ := hkk.five
      go_simp
      exact hK.out _ _ _ rfl rfl rfl (Below.refl _ _)
    simp only [List.setIfInBounds_toArray, List.set_cons_zero, List.set_cons_succ]
    refine obs_stepK (Eq.trans (by simp only [List.getElem?_toArray, List.getElem?_cons_succ, List.getElem?_cons_zero]; exact rfl) rfl) rfl (fun b w' hb0 hS hV K hK => ?_) ?_
    · have e0 : x 0 = (.pointer (some ⟨R, 0, none⟩)) := hV 0 (by decide)
      have e1 : x 1 = (.pointer (some ⟨R, 0, none⟩)) := hV 1 (by decide)
      have e2 : x 2 = (.pointer (some ⟨R, 0, none⟩)) := hV 2 (by decide)
      obtain ⟨⟨ts, bs, hkk, hbb⟩, hEE, hOO⟩ := hS; obtain ⟨q0, q1, q2, q3, q4⟩ := hkk.five
      go_simp
      exact hK.out _ _ _ rfl rfl rfl (Below.refl _ _)
    simp only [List.setIfInBounds_toArray, List.set_cons_zero, List.set_cons_succ]
    refine obs_stepK (Eq.trans (by simp only [List.getElem?_toArray, List.getElem?_cons_succ, List.getElem?_cons_zero]; exact rfl) rfl) rfl (fun b w' hb0 hS hV K hK => ?_) ?_
    · obtain ⟨⟨ts, bs, hkk, hbb⟩, hEE, hOO⟩ := hS; obtain ⟨q0, q1, q2, q3, q4⟩ := hkk.five
      go_simp
      exact hK.out _ _ _ rfl rfl rfl (Below.refl _ _)
    simp only [List.setIfInBounds_toArray, List.set_cons_zero, List.set_cons_succ]
    refine obs_stepK (Eq.trans (by simp only [List.getElem?_toArray, List.getElem?_cons_succ, List.getElem?_cons_zero]; exact rfl) rfl) rfl (fun b w' hb0 hS hV K hK => ?_) ?_
    · have e4 : x 4 = (.pointer (some ⟨R, 0, none⟩)) := hV 4 (by decide)
      obtain ⟨⟨ts, bs, hkk, hbb⟩, hEE, hOO⟩ := hS; obtain ⟨q0, q1, q2, q3, q4⟩ := hkk.five
      obtain ⟨e8, e9⟩ := hbb (hb0 rfl)
      rw [e8, e9] at hkk
      go_simp
      refine (hsd w' hkk).mono ?_
      rintro e v1 ⟨rfl, hk8, hE8⟩
      exact hK.out _ _ _ rfl rfl ⟨rfl, hk8⟩ (StepR.rel rfl ⟨hE8, _, _, hk8⟩)
    simp only [List.setIfInBounds_toArray, List.set_cons_zero, List.set_cons_succ]
    refine obs_stepK (Eq.trans (by simp only [List.getElem?_toArray, List.getElem?_cons_succ, List.getElem?_cons_zero]; exact rfl) rfl) rfl (fun b w' hb0 hS hV K hK => ?_) ?_
    · have e4 : x 4 = (.pointer (some ⟨R, 0, none⟩)) := hV 4 (by decide)
      obtain ⟨e5, k5⟩ := hV 5 (by decide)
      obtain ⟨⟨ts, bs, hkk, hbb⟩, hEE, hOO⟩ := hS; obtain ⟨q0, q1, q2, q3, q4⟩ := hkk.five
      go_simp
      exact hK.out _ _ _ rfl rfl ⟨rfl, k5⟩ (Below.refl _ _)
    simp only [List.setIfInBounds_toArray, List.set_cons_zero, List.set_cons_succ]
    refine obs_stepK (Eq.trans (by simp only [List.getElem?_toArray, List.getElem?_cons_succ, List.getElem?_cons_zero]; exact rfl) rfl) rfl (fun b w' hb0 hS hV K hK => ?_) ?_
    · have e0 : x 0 = (.pointer (some ⟨R, 0, none⟩)) := hV 0 (by decide)
      have e1 : x 1 = (.pointer (some ⟨R, 0, none⟩)) := hV 1 (by decide)
      have e2 : x 2 = (.pointer (some ⟨R, 0, none⟩)) := hV 2 (by decide)
      have e3 : x 3 = (.agg #[.int .i64 P, .slice A n c]) := hV 3 (by decide)
      have e4 : x 4 = (.pointer (some ⟨R, 0, none⟩)) := hV 4 (by decide)
      obtain ⟨e5, k5⟩ := hV 5 (by decide)
      obtain ⟨e6, k6⟩ := hV 6 (by decide)
      obtain ⟨⟨ts, bs, hkk, hbb⟩, hEE, hOO⟩ := hS; obtain ⟨q0, q1, q2, q3, q4⟩ := hkk.five
      go_simp
      refine (hmn w' (hr.ex hEE hA)).mono ?_
      rintro e v1 ⟨rfl, hb⟩
      exact hK.out _ _ _ rfl rfl ⟨rfl, k6.below hb k6.lt⟩ hb
    simp only [List.setIfInBounds_toArray, List.set_cons_zero, List.set_cons_succ]
    refine obs_stepK (Eq.trans (by simp only [List.getElem?_toArray, List.getElem?_cons_succ, List.getElem?_cons_zero]; exact rfl) rfl) rfl (fun b w' hb0 hS hV K hK => ?_) ?_
    · have e0 : x 0 = (.pointer (some ⟨R, 0, none⟩)) := hV 0 (by decide)
      have e1 : x 1 = (.pointer (some ⟨R, 0, none⟩)) := hV 1 (by decide)
      have e2 : x 2 = (.pointer (some ⟨R, 0, none⟩)) := hV 2 (by decide)
      have e3 : x 3 = (.agg #[.int .i64 P, .slice A n c]) := hV 3 (by decide)
      have e4 : x 4 = (.pointer (some ⟨R, 0, none⟩)) := hV 4 (by decide)
      obtain ⟨e5, k5⟩ := hV 5 (by decide)
      obtain ⟨e6, k6⟩ := hV 6 (by decide)
      obtain ⟨e7, k7⟩ := hV 7 (by decide)
      obtain ⟨⟨ts, bs, hkk, hbb⟩, hEE, hOO⟩ := hS; obtain ⟨q0, q1, q2, q3, q4⟩ := hkk.five
      go_simp
      exact hK.out _ _ _ rfl rfl ⟨rfl, k7⟩ (Below.refl _ _)
    simp only [List.setIfInBounds_toArray, List.set_cons_zero, List.set_cons_succ]
    refine obs_stepK (Eq.trans (by simp only [List.getElem?_toArray, List.getElem?_cons_succ, List.getElem?_cons_zero]; exact rfl) rfl) rfl (fun b w' hb0 hS hV K hK => ?_) ?_
    · have e0 : x 0 = (.pointer (some ⟨R, 0, none⟩)) := hV 0 (by decide)
      have e1 : x 1 = (.pointer (some ⟨R, 0, none⟩)) := hV 1 (by decide)
      have e2 : x 2 = (.pointer (some ⟨R, 0, none⟩)) := hV 2 (by decide)
      have e3 : x 3 = (.agg #[.int .i64 P, .slice A n c]) := hV 3 (by decide)
      have e4 : x 4 = (.pointer (some ⟨R, 0, none⟩)) := hV 4 (by decide)
      obtain ⟨e5, k5⟩ := hV 5 (by decide)
      obtain ⟨e6, k6⟩ := hV 6 (by decide)
      obtain ⟨e7, k7⟩ := hV 7 (by decide)
      obtain ⟨e8, k8⟩ := hV 8 (by decide)
      obtain ⟨⟨ts, bs, hkk, hbb⟩, hEE, hOO⟩ := hS; obtain ⟨q0, q1, q2, q3, q4⟩ := hkk.five
      go_simp
      exact hK.out _ _ _ rfl rfl ⟨rfl, k8⟩ (Below.refl _ _)
    simp only [List.setIfInBounds_toArray, List.set_cons_zero, List.set_cons_succ]
    refine obs_stepK (Eq.trans (by simp only [List.getElem?_toArray, List.getElem?_cons_succ, List.getElem?_cons_zero]; exact rfl) rfl) rfl (fun b w' hb0 hS hV K hK => ?_) ?_
    · have e0 : x 0 = (.pointer (some ⟨R, 0, none⟩)) := hV 0 (by decide)
      have e1 : x 1 = (.pointer (some ⟨R, 0, none⟩)) := hV 1 (by decide)
      have e2 : x 2 = (.pointer (some ⟨R, 0, none⟩)) := hV 2 (by decide)
      have e3 : x 3 = (.agg #[.int .i64 P, .slice A n c]) := hV 3 (by decide)
      have e4 : x 4 = (.pointer (some ⟨R, 0, none⟩)) := hV 4 (by decide)
      obtain ⟨e5, k5⟩ := hV 5 (by decide)
      obtain ⟨e6, k6⟩ := hV 6 (by decide)
      obtain ⟨e7, k7⟩ := hV 7 (by decide)
      obtain ⟨e8, k8⟩ := hV 8 (by decide)
      obtain ⟨⟨ts, bs, hkk, hbb⟩, hEE, hOO⟩ := hS; obtain ⟨q0, q1, q2, q3, q4⟩ := hkk.five
      go_simp
      exact hK.out _ _ _ rfl rfl ⟨rfl, k8⟩ (Below.refl _ _)
    simp only [List.setIfInBounds_toArray, List.set_cons_zero, List.set_cons_succ]
    refine obs_stepK (Eq.trans (by simp only [List.getElem?_toArray, List.getElem?_cons_succ, List.getElem?_cons_zero]; exact rfl) rfl) rfl (fun b w' hb0 hS hV K hK => ?_) ?_
    · have e0 : x 0 = (.pointer (some ⟨R, 0, none⟩)) := hV 0 (by decide)
      have e1 : x 1 = (.pointer (some ⟨R, 0, none⟩)) := hV 1 (by decide)
      have e2 : x 2 = (.pointer (some ⟨R, 0, none⟩)) := hV 2 (by decide)
      have e3 : x 3 = (.agg #[.int .i64 P, .slice A n c]) := hV 3 (by decide)
      have e4 : x 4 = (.pointer (some ⟨R, 0, none⟩)) := hV 4 (by decide)
      obtain ⟨e5, k5⟩ := hV 5 (by decide)
      obtain ⟨e6, k6⟩ := hV 6 (by decide)
      obtain ⟨e7, k7⟩ := hV 7 (by decide)
      obtain ⟨e8, k8⟩ := hV 8 (by decide)
      obtain ⟨e9, k9⟩ := hV 9 (by decide)
      obtain ⟨⟨ts, bs, hkk, hbb⟩, hEE, hOO⟩ := hS; obtain ⟨q0, q1, q2, q3, q4⟩ := hkk.five
      go_simp
      exact hK.out _ _ _ rfl rfl ⟨rfl, k9⟩ (Below.refl _ _)
    simp only [List.setIfInBounds_toArray, List.set_cons_zero, List.set_cons_succ]
    refine obs_stepK (Eq.trans (by simp only [List.getElem?_toArray, List.getElem?_cons_succ, List.getElem?_cons_zero]; exact rfl) rfl) rfl (fun b w' hb0 hS hV K hK => ?_) ?_
    · have e0 : x 0 = (.pointer (some ⟨R, 0, none⟩)) := hV 0 (by decide)
      have e1 : x 1 = (.pointer (some ⟨R, 0, none⟩)) := hV 1 (by decide)
      have e2 : x 2 = (.pointer (some ⟨R, 0, none⟩)) := hV 2 (by decide)
      have e3 : x 3 = (.agg #[.int .i64 P, .slice A n c]) := hV 3 (by decide)
      have e4 : x 4 = (.pointer (some ⟨R, 0, none⟩)) := hV 4 (by decide)
      obtain ⟨e5, k5⟩ := hV 5 (by decide)
      obtain ⟨e6, k6⟩ := hV 6 (by decide)
      obtain ⟨e7, k7⟩ := hV 7 (by decide)
      obtain ⟨e8, k8⟩ := hV 8 (by decide)
      obtain ⟨e10, k10⟩ := hV 10 (by decide)
      obtain ⟨⟨ts, bs, hkk, hbb⟩, hEE, hOO⟩ := hS; obtain ⟨q0, q1, q2, q3, q4⟩ := hkk.five
      go_simp
      exact hK.out _ _ _ rfl rfl ⟨rfl, k10⟩ (Below.refl _ _)
    simp only [List.setIfInBounds_toArray, List.set_cons_zero, List.set_cons_succ]
    refine fun w' bb hS hV => ?_
    have e0 : x 0 = (.pointer (some ⟨R, 0, none⟩)) := hV 0 (by decide)
    have e1 : x 1 = (.pointer (some ⟨R, 0, none⟩)) := hV 1 (by decide)
    have e2 : x 2 = (.pointer (some ⟨R, 0, none⟩)) := hV 2 (by decide)
    have e3 : x 3 = (.agg #[.int .i64 P, .slice A n c]) := hV 3 (by decide)
    have e4 : x 4 = (.pointer (some ⟨R, 0, none⟩)) := hV 4 (by decide)
    obtain ⟨e5, k5⟩ := hV 5 (by decide)
    obtain ⟨e6, k6⟩ := hV 6 (by decide)
    obtain ⟨e7, k7⟩ := hV 7 (by decide)
    obtain ⟨e8, k8⟩ := hV 8 (by decide)
    obtain ⟨e9, k9⟩ := hV 9 (by decide)
    obtain ⟨e10, k10⟩ := hV 10 (by decide)
    obtain ⟨e11, k11⟩ := hV 11 (by decide)
    obtain ⟨e12, k12⟩ := hV 12 (by decide)
    simp only [e0, e1, e2, e3, e4, e5, e6, e7, e8, e9, e10, e11, e12]
    clear e0 e1 e2 e3 e4 e5 e6 e7 e8 e9 e10 e11 e12
    refine wpAny_done (by kernel_rfl) ?_ _
    obtain ⟨hSS, hEE, hOO⟩ := hS
    have hkk := k12
    clear hSS hV k5 k6 k7 k8 k9 k10 k11 k12 hcat hmn
    cases hm : maskOf n u with
    | none =>
      have hEV : Hid (evE P sq n .atom (T.drop i) = none) := Lib.hid (by rw [HN.out, hm]; rfl)
      have hc1 : codeN none = 6 := rfl
      rw [hc1]
      have f4 := hkk.frozen 4
      have q4 := hkk.cell 4
      have HKK := Lib.hid hkk
      clear hkk
      go_wp2
      go_ret
      exact ⟨_, _, List.replicate (pw n) 0, i + 1 + D.length, true, rfl, HKK.out.set_ 4 _, ⟨List.length_replicate, NumsL.replicate (by omega) _⟩, hOO.ex (Ex.set HKK.out.lt 4 _) HKK.out (by decide), by omega, by have := HDL.out; omega, hEV.out, hEE.trans (Ex.set HKK.out.lt 4 _)⟩
    | some m =>
      have hmp : m < pw n := maskOf_lt hm
      have hEV : Hid (evE P sq n .atom (T.drop i) = some (bladeL n m, T.drop (i + 1 + D.length))) := Lib.hid (by rw [HN.out, hm]; rfl)
      have hc1 : codeN (some m) = 0 := rfl
      have hm1 : markI (some m) = (m : Int) := rfl
      rw [hc1, hm1]
      have b1 : (0 : Int) ≤ (m : Int) := by omega
      have b2 : (m : Int) < (pw n : Int) := by omega
      have fg := hOO.frozen_ m
      obtain ⟨z0, hz0⟩ := hOO.cellI hmp
      have hne : R ≠ g0 := by omega
      have HKK := Lib.hid hkk
      have HOO := Lib.hid hOO
      clear hkk hOO
      go_wp2
      go_ret
      refine ⟨_, _, bladeL n m, i + 1 + D.length, false, rfl, HKK.out.far hne _, ⟨bladeL_len n m, bladeL_nums hp n m⟩, ?_, by omega, by have := HDL.out; omega, hEV.out, hEE.setNew hg0 (Nat.le_of_lt HG) m _⟩
      have := (HOO.out.set2 m (.int .i64 1)).1
      rw [ints_set] at this
      exact this
  by_cases h40 : d = 40
  · subst h40
    have hnx := nxt_pk_some (cs := [40, 101]) (by decide) hd.symm (by decide)
    have hlt : i < T.length := pk_ne_end (by rw [← hd]; decide)
    have HN := Lib.hid (evE_atom_bra (P := P) (sq := sq) (n := n) hnx)
    clear hnx h101
    have hd9 : (pk (T.drop i)).toNat = 40 := by rw [← hd]; rfl
    clear hd
    go_enter Tryz.func167, Tryz.ntmps167
    obtain ⟨q0, q1, q2, q3, q4⟩ := hk.five
    go_wp2_with fail
    refine (hze w).mono ?_
    rintro e w0 ⟨A0, c0, rfl, hM0⟩
    have hk0 := hk.below hM0.b hk.lt
    have hE0 := (Ex.refl R w).then hM0.b (Nat.le_of_lt HG)
    have hO0 := hM0.2
    clear hze hM0 hk q0 q1 q2 q3 q4
    have hpk := peek_any P A n c T i false R w0 hT hk0
    rw [hd9] at hpk
    go_wp2_with fail
    refine hpk.mono ?_
    rintro e w2 ⟨rfl, hbp⟩
    have hk2 := hk0.below hbp hk0.lt
    have hE2 := hE0.then hbp (Nat.le_of_lt HG)
    have hO2 := hO0.below hbp
    clear hpk hbp hk0 hE0 hO0
    clear hd9
    have f3 := hk2.frozen 3
    have q3 := hk2.cell 3
    have W1 : wrap64 ((i : Int) + 1) = (i : Int) + 1 := by unfold wrap64; omega
    have hk3 : RsB (w2.setCell ⟨R, 3, none⟩ (.int .i64 ((i : Int) + 1))) R P A n c T (i + 1) false := hk2.set_ 3 _
    have hE3 := hE2.trans (Ex.set hk2.lt 3 (.int .i64 ((i : Int) + 1)))
    have hO3 := hO2.ex (Ex.set hk2.lt 3 (.int .i64 ((i : Int) + 1))) hk2 (by decide)
    go_wp2_with fail
    generalize w2.setCell ⟨R, 3, none⟩ (.int .i64 ((i : Int) + 1)) = w3 at hk3 hE3 hO3 ⊢
    clear f3 q3 hk2 hE2 hO2
    refine (hsum (i + 1) (by omega) (by omega) R w3 hA (hr.ex hE3 hA) hk3).mono ?_
    rintro e w4 ⟨A4, c4, x4, i4, b4, rfl, hk4, hx4, hO4, hl4, hl4b, hev4, hE4⟩
    have HEV := Lib.hid hev4
    have hE5 := hE3.trans hE4
    replace hO4 := hO4.base (B' := w.heap.size) hE3.size
    clear hev4 hE3 hE4 hk3 hO3 hsum
    have hpk := peek_any P A n c T i4 b4 R w4 hT hk4
    obtain ⟨d2, hd2⟩ : ∃ d2, d2 = pk (T.drop i4) := ⟨_, rfl⟩
    rw [← hd2] at hpk
    go_wp2_with fail
    refine hpk.mono ?_
    rintro e w5 ⟨rfl, hb5⟩
    have hk5 := hk4.below hb5 hk4.lt
    have hE6 := hE5.then hb5 (Nat.le_of_lt HG)
    have hO5 := hO4.below hb5
    clear hpk hb5 hk4 hE5 hO4
    by_cases h41 : d2 = 41
    · subst h41
      have hn3 := nxt_pk_some (cs := [41]) (by decide) hd2.symm (by decide)
      have hlt4 : i4 < T.length := pk_ne_end (by rw [← hd2]; decide)
      have hEV : Hid (evE P sq n .atom (T.drop i) = if b4 = true then none else some (x4, T.drop (i4 + 1))) := Lib.hid (by
        rw [HN.out, HEV.out]
        cases b4
        · show (nxt [41] (T.drop i4)).map _ = some (x4, T.drop (i4 + 1))
          rw [hn3]; rfl
        · rfl)
      have f3 := hk5.frozen 3
      have q3 := hk5.cell 3
      have W1 : wrap64 ((i4 : Int) + 1) = (i4 : Int) + 1 := by unfold wrap64; omega
      have HKK := Lib.hid hk5
      clear hn3 hd2 hk5
      go_wp2
      go_ret
      exact ⟨A4, c4, x4, i4 + 1, b4, rfl, HKK.out.set_ 3 _, hx4, hO5.ex (Ex.set HKK.out.lt 3 _) HKK.out (by decide), by omega, by omega, hEV.out, hE6.trans (Ex.set HKK.out.lt 3 _)⟩
    · have hn3 := nxt_pk_none (cs := [41]) (T := T) (i := i4) (by decide) (by rw [← hd2]; simp [h41])
      have hEV : Hid (evE P sq n .atom (T.drop i) = none) := Lib.hid (by
        rw [HN.out, HEV.out]
        cases b4
        · show (nxt [41] (T.drop i4)).map _ = none
          rw [hn3]; rfl
        · rfl)
      have e41 := u8_ne h41
      obtain ⟨z, hz⟩ : ∃ z : Nat, z = d2.toNat := ⟨_, rfl⟩
      rw [← hz] at e41 ⊢
      have c41 : ((z : Int) == 41) = false := by have : (41 : UInt8).toNat = 41 := rfl; simp; omega
      have n41 : ((z : Int) != 41) = true := by simp only [bne, c41]; rfl
      clear hz hd2 h41 e41 hn3
      have f4 := hk5.frozen 4
      have q4 := hk5.cell 4
      have HKK := Lib.hid hk5
      clear hk5
      go_wp2
      go_ret
      exact ⟨A4, c4, x4, i4, true, rfl, HKK.out.set_ 4 _, hx4, hO5.ex (Ex.set HKK.out.lt 4 _) HKK.out (by decide), by omega, by omega, hEV.out, hE6.trans (Ex.set HKK.out.lt 4 _)⟩
  · have hnx := nxt_pk_none (cs := [40, 101]) (T := T) (i := i) (by decide) (by rw [← hd]; simp [h40, h101])
    have HN := Lib.hid (evE_atom_num (P := P) (sq := sq) (n := n) hnx)
    have e40 := u8_ne h40
    have e101 := u8_ne h101
    obtain ⟨z, hz⟩ : ∃ z : Nat, z = d.toNat := ⟨_, rfl⟩
    have hzz : (pk (T.drop i)).toNat = z := by rw [hz, hd]
    rw [← hz] at e40 e101
    have c40 : ((z : Int) == 40) = false := by have : (40 : UInt8).toNat = 40 := rfl; simp; omega
    have c101 : ((z : Int) == 101) = false := by have : (101 : UInt8).toNat = 101 := rfl; simp; omega
    have hdl := dig_le (T.drop i)
    rw [List.length_drop] at hdl
    have hres : resL (T.drop i) = T.drop (i + (digL (T.drop i)).length) := by rw [← drop_dig, List.drop_drop]
    rw [hres] at HN
    have hva := valG_dig (digL_all (T.drop i))
    have hsd := fun wx (h : RsB wx R P A n c T i false) => sdigits_any P A n c T i false R wx hT hi h
    obtain ⟨u, hu⟩ : ∃ u, u = digL (T.drop i) := ⟨_, rfl⟩
    rw [← hu] at HN hva hsd hdl
    have hvl := fun wx => l01Value_any u wx (by omega)
    rw [hva] at hvl
    clear hz hd h40 h101 e40 e101 hnx hsum hres hva hu
    go_enter Tryz.func167, Tryz.ntmps167
    obtain ⟨q0, q1, q2, q3, q4⟩ := hk.five
    go_wp2_with fail
    refine (hze w).mono ?_
    rintro e w0 ⟨A0, c0, rfl, hM0⟩
    have hk0 := hk.below hM0.b hk.lt
    have hE0 := (Ex.refl R w).then hM0.b (Nat.le_of_lt HG)
    have hO0 := hM0.2
    clear hze hM0 hk q0 q1 q2 q3 q4
    have hpk := peek_any P A n c T i false R w0 hT hk0
    rw [hzz] at hpk
    go_wp2_with fail
    refine hpk.mono ?_
    rintro e w2 ⟨rfl, hbp⟩
    have hk2 := hk0.below hbp hk0.lt
    have hE2 := hE0.then hbp (Nat.le_of_lt HG)
    have hO2 := hO0.below hbp
    clear hpk hbp hk0 hE0 hO0
    have hpw : 0 < pw n := pw_pos n
    obtain ⟨g0, rfl, hg0, -⟩ : ∃ g0, A0 = some ⟨g0, 0, none⟩ ∧ w.heap.size ≤ g0 ∧ g0 < w2.heap.size := by
      rcases hO2.form with ⟨-, h0⟩ | h
      · omega
      · exact h
    go_wp2_with fail
    refine (hsd w2 hk2).mono ?_
    rintro e w3 ⟨rfl, hk3, hE3b⟩
    have hE3 := hE2.trans hE3b
    have hO3 := hO2.ex hE3b hk2 (by decide)
    clear hk2 hE2 hO2 hE3b hsd
    go_wp2_with fail
    refine (hvl _).mono ?_
    rintro e w4 ⟨rfl, rfl⟩
    clear hvl
    cases hF : numF u with
    | none =>
      have hEV : Hid (evE P sq n .atom (T.drop i) = none) := Lib.hid (by rw [HN.out, hF]; rfl)
      have hv : valV u = -1 := by unfold valV; rw [hF]
      rw [hv]
      have f4 := hk3.frozen 4
      have q4 := hk3.cell 4
      have HKK := Lib.hid hk3
      clear hk3
      go_wp2
      go_ret
      exact ⟨_, _, List.replicate (pw n) 0, i + u.length, true, rfl, HKK.out.set_ 4 _, ⟨List.length_replicate, NumsL.replicate (by omega) _⟩, hO3.ex (Ex.set HKK.out.lt 4 _) HKK.out (by decide), by omega, by omega, hEV.out, hE3.trans (Ex.set HKK.out.lt 4 _)⟩
    | some k =>
      have hv : valV u = (k : Int) := by unfold valV; rw [hF]
      rw [hv]
      have hEV : Hid (evE P sq n .atom (T.drop i) = some (scaleL P (bladeL n 0) ((k : Int) % P), T.drop (i + u.length))) := Lib.hid (by rw [HN.out, hF]; rfl)
      have dk : decide ((k : Int) < 0) = false := by simp
      have p0 : (P == 0) = false := by simp; omega
      have p1 : (P == -1) = false := by simp; omega
      have p2 : ¬ P = 0 := by omega
      have T1 : (k : Int).tmod P = (k : Int) % P := Int.tmod_eq_emod_of_nonneg (by omega)
      have hm0 := Int.emod_nonneg (k : Int) p2
      have hm1 := Int.emod_lt_of_pos (k : Int) (show 0 < P by omega)
      have W2 : wrap64 ((k : Int) % P) = (k : Int) % P := by unfold wrap64; omega
      have b2 : (0 : Int) < (pw n : Int) := by omega
      have fg := hO3.frozen_ 0
      obtain ⟨z0, hz0⟩ := hO3.cellI hpw
      have hne : R ≠ g0 := by omega
      obtain ⟨q0, q1, q2, q3, q4⟩ := hk3.five
      have HKK := Lib.hid hk3
      have HOO := Lib.hid hO3
      clear hk3 hO3 hv hF
      go_wp2
      go_ret
      refine ⟨_, _, scaleL P (bladeL n 0) ((k : Int) % P), i + u.length, false, rfl, HKK.out.far hne _, ⟨(scaleL_len _ _ _).trans (bladeL_len n 0), scaleL_nums (by omega) _ _⟩, ?_, by omega, by omega, hEV.out, hE3.setNew hg0 (Nat.le_of_lt HG) 0 _⟩
      have := (HOO.out.set2 0 (.int .i64 ((k : Int) % P))).1
      rw [ints_set, blade_scale (by omega)] at this
      exact this
end Go.Proofs.YticofgmmjecleaaGreatDoor
namespace Go.Proofs.YticofgmmjecleaaGreatDoor
open Go Go.RowKit
/-- The value is the text of the digits; they have been read. -/
def VDig (R : Nat) (P : Int) (A : Option Addr) (n c : Nat) (t : By) : VP :=
  ⟨fun v w => v = .string ⟨(digL t).toArray⟩ ∧ RdB w R P A n c (resL t) false, fun _ _ _ ⟨e, hk⟩ hb => ⟨e, hk.below hb hk.lt⟩⟩
/-- .. and the value is u. -/
def VAft (R : Nat) (P : Int) (A : Option Addr) (n c : Nat) (t : By) (u : Value) : VP :=
  ⟨fun v w => v = u ∧ RdB w R P A n c t false, fun _ _ _ ⟨e, hk⟩ hb => ⟨e, hk.below hb hk.lt⟩⟩
set_option maxHeartbeats 25600000 in
set_option maxRecDepth 8000 in
theorem ratom_any (P : Int) (sq : List Int) (A : Option Addr) (n c : Nat) (t : By) (hp : 2 ≤ P) (hp2 : P ≤ 13) (hn : n ≤ 6) (ht : t.length ≤ 1048576)
    (hsum : ∀ t' : By, t'.length < t.length → RdC 92 P sq A n c .sum t') : RdC 170 P sq A n c .atom t := by
  intro R w he hA hr hk
  have hpn : pw n ≤ 64 := pw_le hn
  have HG := hk.lt
  cases hnx : nxt [40, 101] t with
  | none =>
    have hcall := next_none P A n c t [40, 101] false R w he.here.e (by decide) hk hnx
    have HN := Lib.hid (evE_atom_num (P := P) (sq := sq) (n := n) hnx)
    have hdg := digits_any P A n c t false R w ht hk
    have hrl := resL_len t
    have hall := digL_all t
    have hdl : (digL t).length ≤ t.length := by have := congrArg List.length (dig_res t); rw [List.length_append] at this; omega
    obtain ⟨u, hu⟩ : ∃ u, u = digL t := ⟨_, rfl⟩
    rw [← hu] at HN hdg hall hdl
    clear hsum hnx hu
    go_enter Tryz.func170, Tryz.ntmps170
    go_wp2_with fail
    refine hcall.mono ?_
    rintro e w1 ⟨rfl, rfl⟩
    go_wp2_with fail
    refine hdg.mono ?_
    rintro e w2 ⟨rfl, hk2, hE2⟩
    clear hcall hdg
    have hpi := ParseInt_any u w2 (by omega) (he.on hE2.b).here
    go_wp2_with fail
    refine hpi.mono ?_
    rintro e w3 ⟨v, ev, rfl, hev, hb3⟩
    have hk3 := hk2.below hb3 hk2.lt
    have hE3 := hE2.then hb3 (Nat.le_of_lt HG)
    have hln : ∀ wx ty, (Builtin.len_ #[9] ty #[.string ⟨u.toArray⟩]).run Tryz.prog wx = .ok (.int .i64 u.length) wx := fun wx ty => str_len wx ty u
    clear hpi hb3 hE2 hk2
    rcases hev with ⟨rfl, hpar⟩ | ⟨⟨tp, p, rfl⟩, hbad⟩
    · by_cases h9 : u.length ≤ 9
      · obtain ⟨hv, hnum⟩ := num_ok hall hpar h9
        have d9 : decide ((9 : Int) < (u.length : Int)) = false := by simp; omega
        have hfm := FormatInt_any v (by omega) (by omega) w3 (he.on hE3.b).here.e
        obtain ⟨z, hz⟩ : ∃ z, z = Lib.itoa v := ⟨_, rfl⟩
        rw [← hz] at hfm hnum
        rcases hnum with ⟨hsame, hF⟩ | ⟨hne, hF⟩
        · subst hsame
          have hvn : ((v.toNat : Nat) : Int) = v := by omega
          have hEV : Hid (evE P sq n .atom t = some (scaleL P (bladeL n 0) (v % P), resL t)) := Lib.hid (by rw [HN.out, hF]; show some (scaleL P (bladeL n 0) (((v.toNat : Nat) : Int) % P), resL t) = _; rw [hvn])
          have hvP0 := Int.emod_nonneg v (show P ≠ 0 by omega)
          have hvP1 := Int.emod_lt_of_pos v (show 0 < P by omega)
          clear hz hpar hall HN hF hvn
          go_wp2_with fail
          refine hfm.mono ?_
          rintro e w5 ⟨rfl, hb5⟩
          have hk5 := hk3.below hb5 hk3.lt
          have hE5 := hE3.then hb5 (Nat.le_of_lt HG)
          clear hb5 hk3 hfm
          go_wp2_with fail
          refine wp_obs 19 [[], [0], [0, 1], [0, 1, 2], [0, 1, 2, 3], [], [5], [5, 6], [5, 6, 7], [5, 6, 7, 8], [], [10], [10, 11], [10, 11, 12], [10, 11, 12, 13], [], [10, 11, 12, 13, 14, 15], [0, 1, 2, 3, 4, 5, 6, 7, 8, 9, 10, 11, 12, 13, 14, 15, 16], [0, 1, 2, 3, 4, 5, 6, 7, 8, 9, 10, 11, 12, 13, 14, 15, 16, 17]] [VIs (.pointer (some ⟨R, 0, none⟩)), VIs (.pointer (some ⟨R, 0, none⟩)), VIs (.pointer (some ⟨R, 0, none⟩)), VIs (.agg #[.int .i64 P, .slice A n c]), VIs (.int .i64 (P)), VIs (.pointer (some ⟨R, 0, none⟩)), VIs (.pointer (some ⟨R, 0, none⟩)), VIs (.pointer (some ⟨R, 0, none⟩)), VIs (.agg #[.int .i64 P, .slice A n c]), VSl w5 (pw n) (bladeL n 0), VIs (.pointer (some ⟨R, 0, none⟩)), VIs (.pointer (some ⟨R, 0, none⟩)), VIs (.pointer (some ⟨R, 0, none⟩)), VIs (.agg #[.int .i64 P, .slice A n c]), VIs (.int .i64 (P)), VIs (.int .i64 (v)), VIs (.int .i64 (v % P)), VSl w5 (pw n) (scaleL P (bladeL n 0) (v % P)), VSl w5 (pw n) (scaleL P (bladeL n 0) (v % P))] (fun w' => RdB w' R P A n c (resL t) false ∧ Below w5.heap.size w5 w') (by kernel_rfl) (by kernel_rfl) (fun _ _ h hb => ⟨h.1.below hb h.1.lt, h.2.trans (hb.mono h.2.size)⟩) (⟨hk5.below (Below.refl _ _).drew hk5.lt, (Below.refl _ _).drew⟩) (fun x => ?_)
          refine obs_step (Eq.trans (by simp only [List.getElem?_toArray, List.getElem?_cons_zero]; exact rfl) rfl) rfl (fun w' hS hV K hK => ?_) ?_
          · obtain ⟨q0, q1, q2, q3⟩ := hS.1.four
            go_simp
            exact hK.out _ _ _ rfl rfl rfl (Below.refl _ _)
          simp only [List.setIfInBounds_toArray, List.set_cons_zero, List.set_cons_succ]
          refine obs_step (Eq.trans (by simp only [List.getElem?_toArray, List.getElem?_cons_succ, List.getElem?_cons_zero]; exact rfl) rfl) rfl (fun w' hS hV K hK => ?_) ?_
          · have e0 : x 0 = (.pointer (some ⟨R, 0, none⟩)) := hV 0 (by decide)
            obtain ⟨q0, q1, q2, q3⟩ := hS.1.four
            go_simp
            exact hK.out _ _ _ rfl rfl rfl (Below.refl _ _)
          simp only [List.setIfInBounds_toArray, List.set_cons_zero, List.set_cons_succ]
          refine obs_step (Eq.trans (by simp only [List.getElem?_toArray, List.getElem?_cons_succ, List.getElem?_cons_zero]; exact rfl) rfl) rfl (fun w' hS hV K hK => ?_) ?_
          · have e0 : x 0 = (.pointer (some ⟨R, 0, none⟩)) := hV 0 (by decide)
            have e1 : x 1 = (.pointer (some ⟨R, 0, none⟩)) := hV 1 (by decide)
            obtain ⟨q0, q1, q2, q3⟩ := hS.1.four
            go_simp
            exact hK.out _ _ _ rfl rfl rfl (Below.refl _ _)
          simp only [List.setIfInBounds_toArray, List.set_cons_zero, List.set_cons_succ]
          refine obs_step (Eq.trans (by simp only [List.getElem?_toArray, List.getElem?_cons_succ, List.getElem?_cons_zero]; exact rfl) rfl) rfl (fun w' hS hV K hK => ?_) ?_
          · have e0 : x 0 = (.pointer (some ⟨R, 0, none⟩)) := hV 0 (by decide)
            have e1 : x 1 = (.pointer (some ⟨R, 0, none⟩)) := hV 1 (by decide)
            have e2 : x 2 = (.pointer (some ⟨R, 0, none⟩)) := hV 2 (by decide)
            obtain ⟨q0, q1, q2, q3⟩ := hS.1.four
            go_simp
            exact hK.out _ _ _ rfl rfl rfl (Below.refl _ _)
          simp only [List.setIfInBounds_toArray, List.set_cons_zero, List.set_cons_succ]
          refine obs_step (Eq.trans (by simp only [List.getElem?_toArray, List.getElem?_cons_succ, List.getElem?_cons_zero]; exact rfl) rfl) rfl (fun w' hS hV K hK => ?_) ?_
          · have e0 : x 0 = (.pointer (some ⟨R, 0, none⟩)) := hV 0 (by decide)
            have e1 : x 1 = (.pointer (some ⟨R, 0, none⟩)) := hV 1 (by decide)
            have e2 : x 2 = (.pointer (some ⟨R, 0, none⟩)) := hV 2 (by decide)
            have e3 : x 3 = (.agg #[.int .i64 P, .slice A n c]) := hV 3 (by decide)
            obtain ⟨q0, q1, q2, q3⟩ := hS.1.four
            go_simp
            refine (field_any P A n c w').mono ?_
            rintro e v1 ⟨rfl, hb⟩
            exact hK.out _ _ _ rfl rfl rfl hb
          simp only [List.setIfInBounds_toArray, List.set_cons_zero, List.set_cons_succ]
          refine obs_step (Eq.trans (by simp only [List.getElem?_toArray, List.getElem?_cons_succ, List.getElem?_cons_zero]; exact rfl) rfl) rfl (fun w' hS hV K hK => ?_) ?_
          · obtain ⟨q0, q1, q2, q3⟩ := hS.1.four
            go_simp
            exact hK.out _ _ _ rfl rfl rfl (Below.refl _ _)
          simp only [List.setIfInBounds_toArray, List.set_cons_zero, List.set_cons_succ]
          refine obs_step (Eq.trans (by simp only [List.getElem?_toArray, List.getElem?_cons_succ, List.getElem?_cons_zero]; exact rfl) rfl) rfl (fun w' hS hV K hK => ?_) ?_
          · have e5 : x 5 = (.pointer (some ⟨R, 0, none⟩)) := hV 5 (by decide)
            obtain ⟨q0, q1, q2, q3⟩ := hS.1.four
            go_simp
            exact hK.out _ _ _ rfl rfl rfl (Below.refl _ _)
          simp only [List.setIfInBounds_toArray, List.set_cons_zero, List.set_cons_succ]
          refine obs_step (Eq.trans (by simp only [List.getElem?_toArray, List.getElem?_cons_succ, List.getElem?_cons_zero]; exact rfl) rfl) rfl (fun w' hS hV K hK => ?_) ?_
          · have e5 : x 5 = (.pointer (some ⟨R, 0, none⟩)) := hV 5 (by decide)
            have e6 : x 6 = (.pointer (some ⟨R, 0, none⟩)) := hV 6 (by decide)
            obtain ⟨q0, q1, q2, q3⟩ := hS.1.four
            go_simp
            exact hK.out _ _ _ rfl rfl rfl (Below.refl _ _)
          simp only [List.setIfInBounds_toArray, List.set_cons_zero, List.set_cons_succ]
          refine obs_step (Eq.trans (by simp only [List.getElem?_toArray, List.getElem?_cons_succ, List.getElem?_cons_zero]; exact rfl) rfl) rfl (fun w' hS hV K hK => ?_) ?_
          · have e5 : x 5 = (.pointer (some ⟨R, 0, none⟩)) := hV 5 (by decide)
            have e6 : x 6 = (.pointer (some ⟨R, 0, none⟩)) := hV 6 (by decide)
            have e7 : x 7 = (.pointer (some ⟨R, 0, none⟩)) := hV 7 (by decide)
            obtain ⟨q0, q1, q2, q3⟩ := hS.1.four
            go_simp
            exact hK.out _ _ _ rfl rfl rfl (Below.refl _ _)
          simp only [List.setIfInBounds_toArray, List.set_cons_zero, List.set_cons_succ]
          refine obs_step (Eq.trans (by simp only [List.getElem?_toArray, List.getElem?_cons_succ, List.getElem?_cons_zero]; exact rfl) rfl) rfl (fun w' hS hV K hK => ?_) ?_
          · have e5 : x 5 = (.pointer (some ⟨R, 0, none⟩)) := hV 5 (by decide)
            have e6 : x 6 = (.pointer (some ⟨R, 0, none⟩)) := hV 6 (by decide)
            have e7 : x 7 = (.pointer (some ⟨R, 0, none⟩)) := hV 7 (by decide)
            have e8 : x 8 = (.agg #[.int .i64 P, .slice A n c]) := hV 8 (by decide)
            obtain ⟨q0, q1, q2, q3⟩ := hS.1.four
            go_simp
            refine (one_any P A n c w' (by omega)).mono ?_
            rintro e v1 ⟨A9, c9, rfl, hM⟩
            exact hK.out _ _ _ rfl rfl ⟨A9, c9, rfl, hM.after hS.2⟩ hM.b
          simp only [List.setIfInBounds_toArray, List.set_cons_zero, List.set_cons_succ]
          refine obs_step (Eq.trans (by simp only [List.getElem?_toArray, List.getElem?_cons_succ, List.getElem?_cons_zero]; exact rfl) rfl) rfl (fun w' hS hV K hK => ?_) ?_
          · obtain ⟨q0, q1, q2, q3⟩ := hS.1.four
            go_simp
            exact hK.out _ _ _ rfl rfl rfl (Below.refl _ _)
          simp only [List.setIfInBounds_toArray, List.set_cons_zero, List.set_cons_succ]
          refine obs_step (Eq.trans (by simp only [List.getElem?_toArray, List.getElem?_cons_succ, List.getElem?_cons_zero]; exact rfl) rfl) rfl (fun w' hS hV K hK => ?_) ?_
          · have e10 : x 10 = (.pointer (some ⟨R, 0, none⟩)) := hV 10 (by decide)
            obtain ⟨q0, q1, q2, q3⟩ := hS.1.four
            go_simp
            exact hK.out _ _ _ rfl rfl rfl (Below.refl _ _)
          simp only [List.setIfInBounds_toArray, List.set_cons_zero, List.set_cons_succ]
          refine obs_step (Eq.trans (by simp only [List.getElem?_toArray, List.getElem?_cons_succ, List.getElem?_cons_zero]; exact rfl) rfl) rfl (fun w' hS hV K hK => ?_) ?_
          · have e10 : x 10 = (.pointer (some ⟨R, 0, none⟩)) := hV 10 (by decide)
            have e11 : x 11 = (.pointer (some ⟨R, 0, none⟩)) := hV 11 (by decide)
            obtain ⟨q0, q1, q2, q3⟩ := hS.1.four
            go_simp
            exact hK.out _ _ _ rfl rfl rfl (Below.refl _ _)
          simp only [List.setIfInBounds_toArray, List.set_cons_zero, List.set_cons_succ]
          refine obs_step (Eq.trans (by simp only [List.getElem?_toArray, List.getElem?_cons_succ, List.getElem?_cons_zero]; exact rfl) rfl) rfl (fun w' hS hV K hK => ?_) ?_
          · have e10 : x 10 = (.pointer (some ⟨R, 0, none⟩)) := hV 10 (by decide)
            have e11 : x 11 = (.pointer (some ⟨R, 0, none⟩)) := hV 11 (by decide)
            have e12 : x 12 = (.pointer (some ⟨R, 0, none⟩)) := hV 12 (by decide)
            obtain ⟨q0, q1, q2, q3⟩ := hS.1.four
            go_simp
            exact hK.out _ _ _ rfl rfl rfl (Below.refl _ _)
          simp only [List.setIfInBounds_toArray, List.set_cons_zero, List.set_cons_succ]
          refine obs_step (Eq.trans (by simp only [List.getElem?_toArray, List.getElem?_cons_succ, List.getElem?_cons_zero]; exact rfl) rfl) rfl (fun w' hS hV K hK => ?_) ?_
          · have e10 : x 10 = (.pointer (some ⟨R, 0, none⟩)) := hV 10 (by decide)
            have e11 : x 11 = (.pointer (some ⟨R, 0, none⟩)) := hV 11 (by decide)
            have e12 : x 12 = (.pointer (some ⟨R, 0, none⟩)) := hV 12 (by decide)
            have e13 : x 13 = (.agg #[.int .i64 P, .slice A n c]) := hV 13 (by decide)
            obtain ⟨q0, q1, q2, q3⟩ := hS.1.four
            go_simp
            refine (field_any P A n c w').mono ?_
            rintro e v1 ⟨rfl, hb⟩
            exact hK.out _ _ _ rfl rfl rfl hb
          simp only [List.setIfInBounds_toArray, List.set_cons_zero, List.set_cons_succ]
          refine obs_step (Eq.trans (by simp only [List.getElem?_toArray, List.getElem?_cons_succ, List.getElem?_cons_zero]; exact rfl) rfl) rfl (fun w' hS hV K hK => ?_) ?_
          · obtain ⟨q0, q1, q2, q3⟩ := hS.1.four
            go_simp
            exact hK.out _ _ _ rfl rfl rfl (Below.refl _ _)
          simp only [List.setIfInBounds_toArray, List.set_cons_zero, List.set_cons_succ]
          refine obs_step (Eq.trans (by simp only [List.getElem?_toArray, List.getElem?_cons_succ, List.getElem?_cons_zero]; exact rfl) rfl) rfl (fun w' hS hV K hK => ?_) ?_
          · have e10 : x 10 = (.pointer (some ⟨R, 0, none⟩)) := hV 10 (by decide)
            have e11 : x 11 = (.pointer (some ⟨R, 0, none⟩)) := hV 11 (by decide)
            have e12 : x 12 = (.pointer (some ⟨R, 0, none⟩)) := hV 12 (by decide)
            have e13 : x 13 = (.agg #[.int .i64 P, .slice A n c]) := hV 13 (by decide)
            have e14 : x 14 = (.int .i64 (P)) := hV 14 (by decide)
            have e15 : x 15 = (.int .i64 (v)) := hV 15 (by decide)
            obtain ⟨q0, q1, q2, q3⟩ := hS.1.four
            go_simp
            refine (num_any P v w' (by omega) hp2 (by omega) (by omega)).mono ?_
            rintro e v1 ⟨rfl, rfl⟩
            exact hK.out _ _ _ rfl rfl rfl (Below.refl _ _)
          simp only [List.setIfInBounds_toArray, List.set_cons_zero, List.set_cons_succ]
          refine obs_step (Eq.trans (by simp only [List.getElem?_toArray, List.getElem?_cons_succ, List.getElem?_cons_zero]; exact rfl) rfl) rfl (fun w' hS hV K hK => ?_) ?_
          · have e0 : x 0 = (.pointer (some ⟨R, 0, none⟩)) := hV 0 (by decide)
            have e1 : x 1 = (.pointer (some ⟨R, 0, none⟩)) := hV 1 (by decide)
            have e2 : x 2 = (.pointer (some ⟨R, 0, none⟩)) := hV 2 (by decide)
            have e3 : x 3 = (.agg #[.int .i64 P, .slice A n c]) := hV 3 (by decide)
            have e4 : x 4 = (.int .i64 (P)) := hV 4 (by decide)
            have e5 : x 5 = (.pointer (some ⟨R, 0, none⟩)) := hV 5 (by decide)
            have e6 : x 6 = (.pointer (some ⟨R, 0, none⟩)) := hV 6 (by decide)
            have e7 : x 7 = (.pointer (some ⟨R, 0, none⟩)) := hV 7 (by decide)
            have e8 : x 8 = (.agg #[.int .i64 P, .slice A n c]) := hV 8 (by decide)
            obtain ⟨A9, c9, e9, h9⟩ := hV 9 (by decide)
            have e10 : x 10 = (.pointer (some ⟨R, 0, none⟩)) := hV 10 (by decide)
            have e11 : x 11 = (.pointer (some ⟨R, 0, none⟩)) := hV 11 (by decide)
            have e12 : x 12 = (.pointer (some ⟨R, 0, none⟩)) := hV 12 (by decide)
            have e13 : x 13 = (.agg #[.int .i64 P, .slice A n c]) := hV 13 (by decide)
            have e14 : x 14 = (.int .i64 (P)) := hV 14 (by decide)
            have e15 : x 15 = (.int .i64 (v)) := hV 15 (by decide)
            have e16 : x 16 = (.int .i64 (v % P)) := hV 16 (by decide)
            obtain ⟨q0, q1, q2, q3⟩ := hS.1.four
            go_simp
            refine (scaled_any P A9 (pw n) c9 (v % P) _ w' hp hp2 (by omega) h9.rd (bladeL_nums hp n 0) (by omega) (by omega)).mono ?_
            rintro e v1 ⟨A9, c9, rfl, hM⟩
            exact hK.out _ _ _ rfl rfl ⟨A9, c9, rfl, hM.after hS.2⟩ hM.b
          simp only [List.setIfInBounds_toArray, List.set_cons_zero, List.set_cons_succ]
          refine obs_step (Eq.trans (by simp only [List.getElem?_toArray, List.getElem?_cons_succ, List.getElem?_cons_zero]; exact rfl) rfl) rfl (fun w' hS hV K hK => ?_) ?_
          · have e0 : x 0 = (.pointer (some ⟨R, 0, none⟩)) := hV 0 (by decide)
            have e1 : x 1 = (.pointer (some ⟨R, 0, none⟩)) := hV 1 (by decide)
            have e2 : x 2 = (.pointer (some ⟨R, 0, none⟩)) := hV 2 (by decide)
            have e3 : x 3 = (.agg #[.int .i64 P, .slice A n c]) := hV 3 (by decide)
            have e4 : x 4 = (.int .i64 (P)) := hV 4 (by decide)
            have e5 : x 5 = (.pointer (some ⟨R, 0, none⟩)) := hV 5 (by decide)
            have e6 : x 6 = (.pointer (some ⟨R, 0, none⟩)) := hV 6 (by decide)
            have e7 : x 7 = (.pointer (some ⟨R, 0, none⟩)) := hV 7 (by decide)
            have e8 : x 8 = (.agg #[.int .i64 P, .slice A n c]) := hV 8 (by decide)
            obtain ⟨A9, c9, e9, h9⟩ := hV 9 (by decide)
            have e10 : x 10 = (.pointer (some ⟨R, 0, none⟩)) := hV 10 (by decide)
            have e11 : x 11 = (.pointer (some ⟨R, 0, none⟩)) := hV 11 (by decide)
            have e12 : x 12 = (.pointer (some ⟨R, 0, none⟩)) := hV 12 (by decide)
            have e13 : x 13 = (.agg #[.int .i64 P, .slice A n c]) := hV 13 (by decide)
            have e14 : x 14 = (.int .i64 (P)) := hV 14 (by decide)
            have e15 : x 15 = (.int .i64 (v)) := hV 15 (by decide)
            have e16 : x 16 = (.int .i64 (v % P)) := hV 16 (by decide)
            obtain ⟨A17, c17, e17, h17⟩ := hV 17 (by decide)
            obtain ⟨q0, q1, q2, q3⟩ := hS.1.four
            go_simp
            exact hK.out _ _ _ rfl rfl ⟨_, _, rfl, h17⟩ (Below.refl _ _)
          simp only [List.setIfInBounds_toArray, List.set_cons_zero, List.set_cons_succ]
          refine fun w' hS hV => ?_
          have e0 : x 0 = (.pointer (some ⟨R, 0, none⟩)) := hV 0 (by decide)
          have e1 : x 1 = (.pointer (some ⟨R, 0, none⟩)) := hV 1 (by decide)
          have e2 : x 2 = (.pointer (some ⟨R, 0, none⟩)) := hV 2 (by decide)
          have e3 : x 3 = (.agg #[.int .i64 P, .slice A n c]) := hV 3 (by decide)
          have e4 : x 4 = (.int .i64 (P)) := hV 4 (by decide)
          have e5 : x 5 = (.pointer (some ⟨R, 0, none⟩)) := hV 5 (by decide)
          have e6 : x 6 = (.pointer (some ⟨R, 0, none⟩)) := hV 6 (by decide)
          have e7 : x 7 = (.pointer (some ⟨R, 0, none⟩)) := hV 7 (by decide)
          have e8 : x 8 = (.agg #[.int .i64 P, .slice A n c]) := hV 8 (by decide)
          obtain ⟨A9, c9, e9, h9⟩ := hV 9 (by decide)
          have e10 : x 10 = (.pointer (some ⟨R, 0, none⟩)) := hV 10 (by decide)
          have e11 : x 11 = (.pointer (some ⟨R, 0, none⟩)) := hV 11 (by decide)
          have e12 : x 12 = (.pointer (some ⟨R, 0, none⟩)) := hV 12 (by decide)
          have e13 : x 13 = (.agg #[.int .i64 P, .slice A n c]) := hV 13 (by decide)
          have e14 : x 14 = (.int .i64 (P)) := hV 14 (by decide)
          have e15 : x 15 = (.int .i64 (v)) := hV 15 (by decide)
          have e16 : x 16 = (.int .i64 (v % P)) := hV 16 (by decide)
          obtain ⟨A17, c17, e17, h17⟩ := hV 17 (by decide)
          obtain ⟨A18, c18, e18, h18⟩ := hV 18 (by decide)
          simp only [e0, e1, e2, e3, e4, e5, e6, e7, e8, e9, e10, e11, e12, e13, e14, e15, e16, e17, e18]
          clear e0 e1 e2 e3 e4 e5 e6 e7 e8 e9 e10 e11 e12 e13 e14 e15 e16 e17 e18
          refine wpAny_done (by kernel_rfl) ?_ _
          have hEE := hE5.then hS.2 (Nat.le_of_lt HG)
          have hkk := hS.1
          clear hS hV
          go_wp2
          go_ret
          exact ⟨A18, c18, scaleL P (bladeL n 0) (v % P), resL t, false, rfl, hkk, ⟨(scaleL_len _ _ _).trans (bladeL_len n 0), scaleL_nums (by omega) _ _⟩, h18.2.base hE5.size, hrl, hEV.out, hEE⟩
        · have hzu : (z == u) = false := by simpa using hne
          have hEV : Hid (evE P sq n .atom t = none) := Lib.hid (by rw [HN.out, hF]; rfl)
          clear hz hpar hall hF hne
          go_wp2_with fail
          refine hfm.mono ?_
          rintro e w5 ⟨rfl, hb5⟩
          have hk5 := hk3.below hb5 hk3.lt
          have hE5 := hE3.then hb5 (Nat.le_of_lt HG)
          clear hb5 hk3 hfm hE3
          go_wp2_with fail
          refine (fail_any P A n c (resL t) _ R _ hn hk5).mono ?_
          rintro e w9 ⟨A9, c9, rfl, hk9, hO9, hE9⟩
          go_wp2
          go_ret
          exact ⟨A9, c9, List.replicate (pw n) 0, (resL t), true, rfl, hk9, ⟨List.length_replicate, NumsL.replicate (by omega) _⟩, hO9.base hE5.size, by omega, hEV.out, hE5.trans hE9⟩
      · have d9 : decide ((9 : Int) < (u.length : Int)) = true := by simp; omega
        have hF := num_long (w := u) (by omega)
        have hEV : Hid (evE P sq n .atom t = none) := Lib.hid (by rw [HN.out, hF]; rfl)
        clear hpar hall hF
        go_wp2_with fail
        refine (fail_any P A n c (resL t) _ R _ hn hk3).mono ?_
        rintro e w9 ⟨A9, c9, rfl, hk9, hO9, hE9⟩
        go_wp2
        go_ret
        exact ⟨A9, c9, List.replicate (pw n) 0, (resL t), true, rfl, hk9, ⟨List.length_replicate, NumsL.replicate (by omega) _⟩, hO9.base hE3.size, by omega, hEV.out, hE3.trans hE9⟩
    · have hF := num_bad hall hbad
      have hEV : Hid (evE P sq n .atom t = none) := Lib.hid (by rw [HN.out, hF]; rfl)
      clear hbad hall hF
      go_wp2_with fail
      refine (fail_any P A n c (resL t) _ R _ hn hk3).mono ?_
      rintro e w9 ⟨A9, c9, rfl, hk9, hO9, hE9⟩
      go_wp2
      go_ret
      exact ⟨A9, c9, List.replicate (pw n) 0, (resL t), true, rfl, hk9, ⟨List.length_replicate, NumsL.replicate (by omega) _⟩, hO9.base hE3.size, by omega, hEV.out, hE3.trans hE9⟩
  | some q =>
    obtain ⟨d, t2⟩ := q
    have hcall := next_some P A n c t [40, 101] false R w d t2 he.here.e (by decide) hk hnx
    have hat := nxt_at hnx
    have hlt2 : t2.length < t.length := by rw [nxt_len hnx]; omega
    rcases hat with rfl | rfl
    · have HN := Lib.hid (evE_atom_bra (P := P) (sq := sq) (n := n) hnx)
      clear hnx
      go_enter Tryz.func170, Tryz.ntmps170
      go_wp2_with fail
      refine hcall.mono ?_
      rintro e w2 ⟨rfl, hk2, hE2⟩
      clear hcall
      have hcall := hsum t2 hlt2 R w2 (he.on hE2.b) hA (hr.ex hE2 hA) hk2
      go_wp2_with fail
      refine hcall.mono ?_
      rintro e w3 ⟨A3, c3, x3, t3, b3, rfl, hk3, hx3, hO3, hl3, hev3, hE3⟩
      have HEV := Lib.hid hev3
      have hE4 := hE2.trans hE3
      replace hO3 := hO3.base (B' := w.heap.size) hE2.size
      clear hcall hev3 hE2 hE3 hk2
      cases hn3 : nxt [41] t3 with
      | none =>
        have hcall := next_none P A n c t3 [41] b3 R w3 (he.on hE4.b).here.e (by decide) hk3 hn3
        have hEV : Hid (evE P sq n .atom t = none) := Lib.hid (by
          rw [HN.out, HEV.out]
          cases b3
          · show (nxt [41] t3).map _ = none
            rw [hn3]; rfl
          · rfl)
        clear hn3
        go_wp2_with fail
        refine hcall.mono ?_
        rintro e w4 ⟨rfl, rfl⟩
        go_wp2_with fail
        refine (fail_any P A n c t3 _ R _ hn hk3).mono ?_
        rintro e w9 ⟨A9, c9, rfl, hk9, hO9, hE9⟩
        go_wp2
        go_ret
        exact ⟨A9, c9, List.replicate (pw n) 0, t3, true, rfl, hk9, ⟨List.length_replicate, NumsL.replicate (by omega) _⟩, hO9.base hE4.size, by omega, hEV.out, hE4.trans hE9⟩
      | some q3 =>
        obtain ⟨d3, t4⟩ := q3
        have hcall := next_some P A n c t3 [41] b3 R w3 d3 t4 (he.on hE4.b).here.e (by decide) hk3 hn3
        have h41 : d3 = 41 := by have := (nxt_some hn3).2; simpa using this
        subst h41
        have hln := nxt_len hn3
        have hEV : Hid (evE P sq n .atom t = if b3 = true then none else some (x3, t4)) := Lib.hid (by
          rw [HN.out, HEV.out]
          cases b3
          · show (nxt [41] t3).map _ = some (x3, t4)
            rw [hn3]; rfl
          · rfl)
        clear hn3
        go_wp2_with fail
        refine hcall.mono ?_
        rintro e w4 ⟨rfl, hk4, hE5⟩
        have hO4 := hO3.ex hE5 hk3 (by decide)
        go_wp2
        go_ret
        exact ⟨A3, c3, x3, t4, b3, rfl, hk4, hx3, hO4, by omega, hEV.out, hE4.trans hE5⟩
    · have HN := Lib.hid (evE_atom_name (P := P) (sq := sq) (n := n) hnx)
      have hrl := resL_len t2
      have hdl : (digL t2).length ≤ t2.length := by have := congrArg List.length (dig_res t2); rw [List.length_append] at this; omega
      have hcat := fun wx => cat_bs (P := Tryz.prog) wx [101] (digL t2) (by simp) (by omega)
      obtain ⟨u, hu⟩ : ∃ u, u = 101 :: digL t2 := ⟨_, rfl⟩
      have hcu : ([101] ++ digL t2 : By) = u := hu.symm
      rw [hcu] at hcat
      rw [← hu] at HN
      clear hnx hu hcu
      go_enter Tryz.func170, Tryz.ntmps170
      go_wp2_with fail
      refine hcall.mono ?_
      rintro e w2 ⟨rfl, hk2, hE2⟩
      clear hcall hdl
      go_wp2_with fail
      refine wp_obsK 13 (fun w w' => Ex R w w' ∧ ∃ t b, RdB w' R P A n c t b) [[], [0], [0, 1], [0, 1, 2], [], [4], [4, 5], [0, 1, 2, 3, 4, 5, 6], [0, 1, 2, 3, 4, 5, 6, 7], [0, 1, 2, 3, 4, 5, 6, 7, 8], [0, 1, 2, 3, 4, 5, 6, 7, 8], [0, 1, 2, 3, 4, 5, 6, 7, 8, 9], [0, 1, 2, 3, 4, 5, 6, 7, 8, 10]] [[], [], [], [], [], [99], [], [], [], [], [], [], []] (fun x => [VIs (.pointer (some ⟨R, 0, none⟩)), VIs (.pointer (some ⟨R, 0, none⟩)), VIs (.pointer (some ⟨R, 0, none⟩)), VIs (.agg #[.int .i64 P, .slice A n c]), VIs (.pointer (some ⟨R, 0, none⟩)), VDig R P A n c t2, VAft R P A n c (resL t2) (.string ⟨u.toArray⟩), VAft R P A n c (resL t2) (.tuple #[.int .i64 (markI (maskOf n u)), .bool (maskOf n u).isSome]), VAft R P A n c (resL t2) (.tuple #[.int .i64 (markI (maskOf n u)), .bool (maskOf n u).isSome]), VAft R P A n c (resL t2) (.int .i64 (markI (maskOf n u))), VAft R P A n c (resL t2) (.bool (maskOf n u).isSome), VAft R P A n c (resL t2) (.int .i64 (markI (maskOf n u))), VAft R P A n c (resL t2) (.bool (maskOf n u).isSome)]) 5 (fun b w' => SRd R P A n c t2 b w' ∧ Ex R w w') (by kernel_rfl) (by kernel_rfl) (fun x x' j hx => by
          rcases j with _ | _ | _ | _ | _ | _ | _ | _ | _ | _ | _ | _ | _ | j
          · rfl
          · rfl
          · rfl
          · rfl
          · rfl
          · rfl
          · rfl
          · rfl
          · rfl
          · rfl
          · rfl
          · rfl
          · rfl
          · rfl)
        (weak_ofR [0, 1, 2, 3, 4] (by decide) (fun k hk x v w w' hp hr => by
          simp only [List.mem_cons, List.not_mem_nil, or_false] at hk
          rcases hk with rfl | rfl | rfl | rfl | rfl
          · exact hp
          · exact hp
          · exact hp
          · exact hp
          · exact hp)) (fun j b _ w' h hst => hst.eitherK 5 (only_at (by decide)) (fun hb => ⟨h.1.below _ hb, h.2.then hb (Nat.le_of_lt HG)⟩) (fun e hr => ⟨SRd.rel b e hr.2, h.2.trans hr.1⟩)) (⟨⟨t2, false, hk2.below (Below.refl _ _).drew hk2.lt, fun _ => ⟨rfl, rfl⟩⟩, hE2.then (Below.refl _ _).drew (Nat.le_of_lt HG)⟩) (fun x => ?_)
      refine obs_stepK (Eq.trans (by simp only [List.getElem?_toArray, List.getElem?_cons_zero]; exact rfl) rfl) rfl (fun b w' hb0 hS hV K hK => ?_) ?_
      · obtain ⟨⟨ts, bs, hkk, hbb⟩, hEE⟩ := hS; obtain ⟨q0, q1, q2, q3⟩ := hkk.four
        go_simp
        exact hK.out _ _ _ rfl rfl rfl (Below.refl _ _)
      simp only [List.setIfInBounds_toArray, List.set_cons_zero, List.set_cons_succ]
      refine obs_stepK (Eq.trans (by simp only [List.getElem?_toArray, List.getElem?_cons_succ, List.getElem?_cons_zero]; exact rfl) rfl) rfl (fun b w' hb0 hS hV K hK => ?_) ?_
      · have e0 : x 0 = (.pointer (some ⟨R, 0, none⟩)) := hV 0 (by decide)
        obtain ⟨⟨ts, bs, hkk, hbb⟩, hEE⟩ := hS; obtain ⟨q0, q1, q2, q3⟩ := hkk.four
        go_simp
        exact hK.out _ _ _ rfl rfl rfl (Below.refl _ _)
      simp only [List.setIfInBounds_toArray, List.set_cons_zero, List.set_cons_succ]
      refine obs_stepK (Eq.trans (by simp only [List.getElem?_toArray, List.getElem?_cons_succ, List.getElem?_cons_zero]; exact rfl) rfl) rfl (fun b w' hb0 hS hV K hK => ?_) ?_
      · have e0 : x 0 = (.pointer (some ⟨R, 0, none⟩)) := hV 0 (by decide)
        have e1 : x 1 = (.pointer (some ⟨R, 0, none⟩)) := hV 1 (by decide)
        obtain ⟨⟨ts, bs, hkk, hbb⟩, hEE⟩ := hS; obtain ⟨q0, q1, q2, q3⟩ := hkk.four
        go_simp
        exact hK.out _ _ _ rfl rfl rfl (Below.refl _ _)
      simp only [List.setIfInBounds_toArray, List.set_cons_zero, List.set_cons_succ]
      refine obs_stepK (Eq.trans (by simp only [List.getElem?_toArray, List.getElem?_cons_succ, List.getElem?_cons_zero]; exact rfl) rfl) rfl (fun b w' hb0 hS hV K hK => ?_) ?_
      · have e0 : x 0 = (.pointer (some ⟨R, 0, none⟩)) := hV 0 (by decide)
        have e1 : x 1 = (.pointer (some ⟨R, 0, none⟩)) := hV 1 (by decide)
        have e2 : x 2 = (.pointer (some ⟨R, 0, none⟩)) := hV 2 (by decide)
        obtain ⟨⟨ts, bs, hkk, hbb⟩, hEE⟩ := hS; obtain ⟨q0, q1, q2, q3⟩ := hkk.four
        go_simp
        exact hK.out _ _ _ rfl rfl rfl (Below.refl _ _)
      simp only [List.setIfInBounds_toArray, List.set_cons_zero, List.set_cons_succ]
      refine obs_stepK (Eq.trans (by simp only [List.getElem?_toArray, List.getElem?_cons_succ, List.getElem?_cons_zero]; exact rfl) rfl) rfl (fun b w' hb0 hS hV K hK => ?_) ?_
      · obtain ⟨⟨ts, bs, hkk, hbb⟩, hEE⟩ := hS; obtain ⟨q0, q1, q2, q3⟩ := hkk.four
        go_simp
        exact hK.out _ _ _ rfl rfl rfl (Below.refl _ _)
      simp only [List.setIfInBounds_toArray, List.set_cons_zero, List.set_cons_succ]
      refine obs_stepK (Eq.trans (by simp only [List.getElem?_toArray, List.getElem?_cons_succ, List.getElem?_cons_zero]; exact rfl) rfl) rfl (fun b w' hb0 hS hV K hK => ?_) ?_
      · have e4 : x 4 = (.pointer (some ⟨R, 0, none⟩)) := hV 4 (by decide)
        obtain ⟨⟨ts, bs, hkk, hbb⟩, hEE⟩ := hS; obtain ⟨q0, q1, q2, q3⟩ := hkk.four
        obtain ⟨e8, e9⟩ := hbb (hb0 rfl)
        rw [e8, e9] at hkk
        go_simp
        refine (digits_any P A n c t2 false R w' (by omega) hkk).mono ?_
        rintro e v1 ⟨rfl, hk8, hE8⟩
        exact hK.out _ _ _ rfl rfl ⟨rfl, hk8⟩ (StepR.rel rfl ⟨hE8, _, _, hk8⟩)
      simp only [List.setIfInBounds_toArray, List.set_cons_zero, List.set_cons_succ]
      refine obs_stepK (Eq.trans (by simp only [List.getElem?_toArray, List.getElem?_cons_succ, List.getElem?_cons_zero]; exact rfl) rfl) rfl (fun b w' hb0 hS hV K hK => ?_) ?_
      · have e4 : x 4 = (.pointer (some ⟨R, 0, none⟩)) := hV 4 (by decide)
        obtain ⟨e5, k5⟩ := hV 5 (by decide)
        obtain ⟨⟨ts, bs, hkk, hbb⟩, hEE⟩ := hS; obtain ⟨q0, q1, q2, q3⟩ := hkk.four
        go_simp
        exact hK.out _ _ _ rfl rfl ⟨rfl, k5⟩ (Below.refl _ _)
      simp only [List.setIfInBounds_toArray, List.set_cons_zero, List.set_cons_succ]
      refine obs_stepK (Eq.trans (by simp only [List.getElem?_toArray, List.getElem?_cons_succ, List.getElem?_cons_zero]; exact rfl) rfl) rfl (fun b w' hb0 hS hV K hK => ?_) ?_
      · have e0 : x 0 = (.pointer (some ⟨R, 0, none⟩)) := hV 0 (by decide)
        have e1 : x 1 = (.pointer (some ⟨R, 0, none⟩)) := hV 1 (by decide)
        have e2 : x 2 = (.pointer (some ⟨R, 0, none⟩)) := hV 2 (by decide)
        have e3 : x 3 = (.agg #[.int .i64 P, .slice A n c]) := hV 3 (by decide)
        have e4 : x 4 = (.pointer (some ⟨R, 0, none⟩)) := hV 4 (by decide)
        obtain ⟨e5, k5⟩ := hV 5 (by decide)
        obtain ⟨e6, k6⟩ := hV 6 (by decide)
        obtain ⟨⟨ts, bs, hkk, hbb⟩, hEE⟩ := hS; obtain ⟨q0, q1, q2, q3⟩ := hkk.four
        go_simp
        refine (named_any P A n c u w' hn).mono ?_
        rintro e v1 ⟨rfl, hb⟩
        exact hK.out _ _ _ rfl rfl ⟨rfl, k6.below hb k6.lt⟩ hb
      simp only [List.setIfInBounds_toArray, List.set_cons_zero, List.set_cons_succ]
      refine obs_stepK (Eq.trans (by simp only [List.getElem?_toArray, List.getElem?_cons_succ, List.getElem?_cons_zero]; exact rfl) rfl) rfl (fun b w' hb0 hS hV K hK => ?_) ?_
      · have e0 : x 0 = (.pointer (some ⟨R, 0, none⟩)) := hV 0 (by decide)
        have e1 : x 1 = (.pointer (some ⟨R, 0, none⟩)) := hV 1 (by decide)
        have e2 : x 2 = (.pointer (some ⟨R, 0, none⟩)) := hV 2 (by decide)
        have e3 : x 3 = (.agg #[.int .i64 P, .slice A n c]) := hV 3 (by decide)
        have e4 : x 4 = (.pointer (some ⟨R, 0, none⟩)) := hV 4 (by decide)
        obtain ⟨e5, k5⟩ := hV 5 (by decide)
        obtain ⟨e6, k6⟩ := hV 6 (by decide)
        obtain ⟨e7, k7⟩ := hV 7 (by decide)
        obtain ⟨⟨ts, bs, hkk, hbb⟩, hEE⟩ := hS; obtain ⟨q0, q1, q2, q3⟩ := hkk.four
        go_simp
        exact hK.out _ _ _ rfl rfl ⟨rfl, k7⟩ (Below.refl _ _)
      simp only [List.setIfInBounds_toArray, List.set_cons_zero, List.set_cons_succ]
      refine obs_stepK (Eq.trans (by simp only [List.getElem?_toArray, List.getElem?_cons_succ, List.getElem?_cons_zero]; exact rfl) rfl) rfl (fun b w' hb0 hS hV K hK => ?_) ?_
      · have e0 : x 0 = (.pointer (some ⟨R, 0, none⟩)) := hV 0 (by decide)
        have e1 : x 1 = (.pointer (some ⟨R, 0, none⟩)) := hV 1 (by decide)
        have e2 : x 2 = (.pointer (some ⟨R, 0, none⟩)) := hV 2 (by decide)
        have e3 : x 3 = (.agg #[.int .i64 P, .slice A n c]) := hV 3 (by decide)
        have e4 : x 4 = (.pointer (some ⟨R, 0, none⟩)) := hV 4 (by decide)
        obtain ⟨e5, k5⟩ := hV 5 (by decide)
        obtain ⟨e6, k6⟩ := hV 6 (by decide)
        obtain ⟨e7, k7⟩ := hV 7 (by decide)
        obtain ⟨e8, k8⟩ := hV 8 (by decide)
        obtain ⟨⟨ts, bs, hkk, hbb⟩, hEE⟩ := hS; obtain ⟨q0, q1, q2, q3⟩ := hkk.four
        go_simp
        exact hK.out _ _ _ rfl rfl ⟨rfl, k8⟩ (Below.refl _ _)
      simp only [List.setIfInBounds_toArray, List.set_cons_zero, List.set_cons_succ]
      refine obs_stepK (Eq.trans (by simp only [List.getElem?_toArray, List.getElem?_cons_succ, List.getElem?_cons_zero]; exact rfl) rfl) rfl (fun b w' hb0 hS hV K hK => ?_) ?_
      · have e0 : x 0 = (.pointer (some ⟨R, 0, none⟩)) := hV 0 (by decide)
        have e1 : x 1 = (.pointer (some ⟨R, 0, none⟩)) := hV 1 (by decide)
        have e2 : x 2 = (.pointer (some ⟨R, 0, none⟩)) := hV 2 (by decide)
        have e3 : x 3 = (.agg #[.int .i64 P, .slice A n c]) := hV 3 (by decide)
        have e4 : x 4 = (.pointer (some ⟨R, 0, none⟩)) := hV 4 (by decide)
        obtain ⟨e5, k5⟩ := hV 5 (by decide)
        obtain ⟨e6, k6⟩ := hV 6 (by decide)
        obtain ⟨e7, k7⟩ := hV 7 (by decide)
        obtain ⟨e8, k8⟩ := hV 8 (by decide)
        obtain ⟨⟨ts, bs, hkk, hbb⟩, hEE⟩ := hS; obtain ⟨q0, q1, q2, q3⟩ := hkk.four
        go_simp
        exact hK.out _ _ _ rfl rfl ⟨rfl, k8⟩ (Below.refl _ _)
      simp only [List.setIfInBounds_toArray, List.set_cons_zero, List.set_cons_succ]
      refine obs_stepK (Eq.trans (by simp only [List.getElem?_toArray, List.getElem?_cons_succ, List.getElem?_cons_zero]; exact rfl) rfl) rfl (fun b w' hb0 hS hV K hK => ?_) ?_
      · have e0 : x 0 = (.pointer (some ⟨R, 0, none⟩)) := hV 0 (by decide)
        have e1 : x 1 = (.pointer (some ⟨R, 0, none⟩)) := hV 1 (by decide)
        have e2 : x 2 = (.pointer (some ⟨R, 0, none⟩)) := hV 2 (by decide)
        have e3 : x 3 = (.agg #[.int .i64 P, .slice A n c]) := hV 3 (by decide)
        have e4 : x 4 = (.pointer (some ⟨R, 0, none⟩)) := hV 4 (by decide)
        obtain ⟨e5, k5⟩ := hV 5 (by decide)
        obtain ⟨e6, k6⟩ := hV 6 (by decide)
        obtain ⟨e7, k7⟩ := hV 7 (by decide)
        obtain ⟨e8, k8⟩ := hV 8 (by decide)
        obtain ⟨e9, k9⟩ := hV 9 (by decide)
        obtain ⟨⟨ts, bs, hkk, hbb⟩, hEE⟩ := hS; obtain ⟨q0, q1, q2, q3⟩ := hkk.four
        go_simp
        exact hK.out _ _ _ rfl rfl ⟨rfl, k9⟩ (Below.refl _ _)
      simp only [List.setIfInBounds_toArray, List.set_cons_zero, List.set_cons_succ]
      refine obs_stepK (Eq.trans (by simp only [List.getElem?_toArray, List.getElem?_cons_succ, List.getElem?_cons_zero]; exact rfl) rfl) rfl (fun b w' hb0 hS hV K hK => ?_) ?_
      · have e0 : x 0 = (.pointer (some ⟨R, 0, none⟩)) := hV 0 (by decide)
        have e1 : x 1 = (.pointer (some ⟨R, 0, none⟩)) := hV 1 (by decide)
        have e2 : x 2 = (.pointer (some ⟨R, 0, none⟩)) := hV 2 (by decide)
        have e3 : x 3 = (.agg #[.int .i64 P, .slice A n c]) := hV 3 (by decide)
        have e4 : x 4 = (.pointer (some ⟨R, 0, none⟩)) := hV 4 (by decide)
        obtain ⟨e5, k5⟩ := hV 5 (by decide)
        obtain ⟨e6, k6⟩ := hV 6 (by decide)
        obtain ⟨e7, k7⟩ := hV 7 (by decide)
        obtain ⟨e8, k8⟩ := hV 8 (by decide)
        obtain ⟨e10, k10⟩ := hV 10 (by decide)
        obtain ⟨⟨ts, bs, hkk, hbb⟩, hEE⟩ := hS; obtain ⟨q0, q1, q2, q3⟩ := hkk.four
        go_simp
        exact hK.out _ _ _ rfl rfl ⟨rfl, k10⟩ (Below.refl _ _)
      simp only [List.setIfInBounds_toArray, List.set_cons_zero, List.set_cons_succ]
      refine fun w' bb hS hV => ?_
      have e0 : x 0 = (.pointer (some ⟨R, 0, none⟩)) := hV 0 (by decide)
      have e1 : x 1 = (.pointer (some ⟨R, 0, none⟩)) := hV 1 (by decide)
      have e2 : x 2 = (.pointer (some ⟨R, 0, none⟩)) := hV 2 (by decide)
      have e3 : x 3 = (.agg #[.int .i64 P, .slice A n c]) := hV 3 (by decide)
      have e4 : x 4 = (.pointer (some ⟨R, 0, none⟩)) := hV 4 (by decide)
      obtain ⟨e5, k5⟩ := hV 5 (by decide)
      obtain ⟨e6, k6⟩ := hV 6 (by decide)
      obtain ⟨e7, k7⟩ := hV 7 (by decide)
      obtain ⟨e8, k8⟩ := hV 8 (by decide)
      obtain ⟨e9, k9⟩ := hV 9 (by decide)
      obtain ⟨e10, k10⟩ := hV 10 (by decide)
      obtain ⟨e11, k11⟩ := hV 11 (by decide)
      obtain ⟨e12, k12⟩ := hV 12 (by decide)
      simp only [e0, e1, e2, e3, e4, e5, e6, e7, e8, e9, e10, e11, e12]
      clear e0 e1 e2 e3 e4 e5 e6 e7 e8 e9 e10 e11 e12
      refine wpAny_done (by kernel_rfl) ?_ _
      have hEE := hS.2
      have hkk := k12
      clear hS hV k5 k6 k7 k8 k9 k10 k11 k12
      cases hm : maskOf n u with
      | none =>
        have hEV : Hid (evE P sq n .atom t = none) := Lib.hid (by rw [HN.out, hm]; rfl)
        show Exit.then _ _ _ _ _
        go_wp2_with fail
        refine (fail_any P A n c (resL t2) _ R _ hn hkk).mono ?_
        rintro e w9 ⟨A9, c9, rfl, hk9, hO9, hE9⟩
        go_wp2
        go_ret
        exact ⟨A9, c9, List.replicate (pw n) 0, (resL t2), true, rfl, hk9, ⟨List.length_replicate, NumsL.replicate (by omega) _⟩, hO9.base hEE.size, by omega, hEV.out, hEE.trans hE9⟩
      | some m =>
        have hmp : m < pw n := maskOf_lt hm
        have hEV : Hid (evE P sq n .atom t = some (bladeL n m, resL t2)) := Lib.hid (by rw [HN.out, hm]; rfl)
        have hbl := fun wx => blade_any P A n c m wx (show n ≤ 10 by omega) hmp
        have hm1 : markI (some m) = (m : Int) := rfl
        rw [hm1]
        obtain ⟨q0, q1, q2, q3⟩ := hkk.four
        go_wp2_with fail
        refine (hbl _).mono ?_
        rintro e w9 ⟨A9, c9, rfl, hM⟩
        go_wp2
        go_ret
        exact ⟨A9, c9, bladeL n m, resL t2, false, rfl, hkk.below hM.b hkk.lt, ⟨bladeL_len n m, bladeL_nums hp n m⟩, hM.2.base hEE.size, by omega, hEV.out, hEE.then hM.b (Nat.le_of_lt HG)⟩
end Go.Proofs.YticofgmmjecleaaGreatDoor
namespace Go.Proofs.YticofgmmjecleaaGreatDoor
open Go Go.RowKit
theorem reads (P : Int) (sq : List Int) (A : Option Addr) (n c : Nat) (hp : 2 ≤ P) (hp2 : P ≤ 13) (hn : n ≤ 6) (hs : NumsL P sq) : ∀ L : Nat, L ≤ 1048576 → ∀ t : By, t.length ≤ L →
    RdC 92 P sq A n c .sum t ∧ RdC 121 P sq A n c .prod t ∧ RdC 147 P sq A n c .fac t ∧ RdC 170 P sq A n c .atom t := by
  intro L
  induction L using Nat.strongRecOn with
  | ind L ih =>
    intro hL
    have hat : ∀ t : By, t.length ≤ L → RdC 170 P sq A n c .atom t := fun t ht =>
      ratom_any P sq A n c t hp hp2 hn (by omega) fun t' ht' => (ih t'.length (by omega) (by omega) t' (Nat.le_refl _)).1
    have hfac : ∀ t : By, t.length ≤ L → RdC 147 P sq A n c .fac t := fun t ht =>
      rfac_any P sq A n c t hp hp2 hn (by omega) (fun t' ht' => (ih t'.length (by omega) (by omega) t' (Nat.le_refl _)).2.2.1) (hat t ht)
    have hprod : ∀ t : By, t.length ≤ L → RdC 121 P sq A n c .prod t := fun t ht =>
      rprod_any P sq A n c t hp hp2 hn (by omega) hs fun t' ht' => hfac t' (by omega)
    have hsum : ∀ t : By, t.length ≤ L → RdC 92 P sq A n c .sum t := fun t ht =>
      rsum_any P sq A n c t hp hp2 hn (by omega) fun t' ht' => hprod t' (by omega)
    exact fun t ht => ⟨hsum t ht, hprod t ht, hfac t ht, hat t ht⟩
/-- The value of a text, and the code. -/
def evR (P : Int) (sq : List Int) (t : By) : List Int × Int := if 200 < t.length then ([], 3) else match valR P sq sq.length t with
  | some v => (v, 0)
  | none => ([], 6)
theorem evalR_ev (P : Int) (sq : List Int) (t : By) : evalR P sq t = if isSp P sq = true then evR P sq t else ([], 1) := rfl
/-- The value of a whole text out of what the reader leaves. -/
theorem valR_of {P : Int} {sq : List Int} {n : Nat} {t : By} {x : List Int} {t' : By} {b : Bool} (h : evE P sq n .sum t = if b = true then none else some (x, t')) : valR P sq n t = if (b || !t'.isEmpty) = true then none else some x := by
  unfold valR
  rw [h]
  cases b
  · cases t' <;> rfl
  · rfl
set_option maxHeartbeats 3200000 in
set_option maxRecDepth 8000 in
theorem evaluate_any (P : Int) (A : Option Addr) (n c : Nat) (sq : List Int) (t : By) (w : World) (hsp : isSp P sq = true) (ha : Rd w A n (ints sq)) (he : EnvX w) :
    Calls Tryz.prog 50 #[.agg #[.int .i64 P, .slice A n c], .string ⟨t.toArray⟩] w fun e w' => ∃ (A' : Option Addr) (k c' : Nat), e = .returned (.tuple #[.slice A' k c', .int .i64 (evR P sq t).2]) ∧ MkI w w' A' k c' (evR P sq t).1 := by
  obtain ⟨hP, hd1, hd2, hnum⟩ := isSp_dim hsp
  have hln : sq.length = n := ha.lenI
  obtain ⟨p1, p2⟩ := isP_pos hP
  have hp2' := isP_ge hP
  have hB0 : Below w.heap.size w (w.alloc (.cells #[.int .i64 P, .slice A n c] 28)) := (Below.refl _ _).alloc (Nat.le_refl _) _
  have k0 : Blk (w.alloc (.cells #[.int .i64 P, .slice A n c] 28)) w.heap.size 28 #[.int .i64 P, .slice A n c] := Blk.new _ _ _
  have hlnt : ∀ wx ty, (Builtin.len_ #[9] ty #[.string ⟨t.toArray⟩]).run Tryz.prog wx = .ok (.int .i64 t.length) wx := fun wx ty => str_len wx ty t
  obtain ⟨V, hV⟩ : ∃ V, V = evR P sq t := ⟨_, rfl⟩
  have HV := Lib.hid hV
  rw [← hV]
  clear hV
  by_cases hl : 200 < t.length
  · have d1 : decide ((200 : Int) < (t.length : Int)) = true := by simp; omega
    have hV2 : Hid (V = ([], 3)) := Lib.hid (by rw [HV.out]; unfold evR; rw [if_pos hl])
    go_enter Tryz.func50, Tryz.ntmps50
    go_wp2
    go_ret2
    exact ⟨none, 0, 0, by rw [hV2.out]; rfl, by rw [hV2.out]; exact Mk.nil hB0⟩
  · have d1 : decide ((200 : Int) < (t.length : Int)) = false := by simp; omega
    obtain ⟨q0, q1⟩ := k0.two
    go_enter Tryz.func50, Tryz.ntmps50
    go_wp2_with fail
    have hsz : (w.alloc (.cells #[.int .i64 P, .slice A n c] 28)).heap.size = w.heap.size + 1 := by simp
    have hB2 : Below w.heap.size w ((w.alloc (.cells #[.int .i64 P, .slice A n c] 28)).alloc (.cells #[.int .i64 P, .slice A n c, .string ⟨t.toArray⟩, .bool false] 111)) := hB0.alloc (by rw [hsz]; omega) _
    have hk : RdB ((w.alloc (.cells #[.int .i64 P, .slice A n c] 28)).alloc (.cells #[.int .i64 P, .slice A n c, .string ⟨t.toArray⟩, .bool false] 111)) (w.heap.size + 1) P A n c t false := by
      have h := Blk.new (w.alloc (.cells #[.int .i64 P, .slice A n c] 28)) 111 #[.int .i64 P, .slice A n c, .string ⟨t.toArray⟩, .bool false]
      rw [hsz] at h; exact h
    have heB : EnvB (w.heap.size + 1) ((w.alloc (.cells #[.int .i64 P, .slice A n c] 28)).alloc (.cells #[.int .i64 P, .slice A n c, .string ⟨t.toArray⟩, .bool false] 111)) := (he.b.on hB2).mono (Nat.le_succ _)
    have hcall := (reads P sq A n c (by omega) p2 (by omega) (nums_numsL hnum) t.length (by omega) t (Nat.le_refl _)).1 (w.heap.size + 1) _ heB (fun a ha' => Nat.lt_succ_of_lt (ha.blk_lt (by omega) a ha')) (ha.below hB2) hk
    generalize (w.alloc (.cells #[.int .i64 P, .slice A n c] 28)).alloc (.cells #[.int .i64 P, .slice A n c, .string ⟨t.toArray⟩, .bool false] 111) = w2 at hB2 hk heB hcall ⊢
    refine hcall.mono ?_
    rintro e w3 ⟨A3, c3, x3, t3, b3, rfl, hk3, hx3, hO3, hl3, hev3, hE3⟩
    have hB3 := hB2.trans (hE3.b.mono (Nat.le_succ _))
    have hM : MkI w w3 A3 (pw n) c3 x3 := ⟨hB3, hO3.base hB2.size⟩
    have hval : Hid (V = match (if (b3 || !t3.isEmpty) = true then none else some x3) with | some v => (v, 0) | none => ([], 6)) := Lib.hid (by
      rw [HV.out]; unfold evR; rw [if_neg hl, hln, valR_of hev3])
    clear hcall hk heB hB2 hE3 hev3 hO3 q0 q1
    obtain ⟨q0, q1, q2, q3⟩ := hk3.four
    cases b3 with
    | true =>
      go_wp2
      go_ret2
      exact ⟨none, 0, 0, by rw [hval.out]; rfl, by rw [hval.out]; exact Mk.nil hB3⟩
    | false =>
      cases t3 with
      | nil =>
        go_wp2
        go_ret2
        exact ⟨A3, pw n, c3, by rw [hval.out]; rfl, by rw [hval.out]; exact hM⟩
      | cons d r =>
        obtain ⟨u, hu⟩ : ∃ u, u = d :: r := ⟨_, rfl⟩
        rw [← hu] at q2 hval
        have hn1 : u.isEmpty = false := by rw [hu]; rfl
        have hn2 : (u == []) = false := by rw [hu]; rfl
        clear hu hk3
        go_wp2
        go_ret2
        exact ⟨none, 0, 0, by rw [hval.out, hn1]; rfl, by rw [hval.out, hn1]; exact Mk.nil hB3⟩
end Go.Proofs.YticofgmmjecleaaGreatDoor
namespace Go.Proofs.YticofgmmjecleaaGreatDoor
open Go Go.RowKit
theorem sreads (P : Int) (sq : List Int) (A : Option Addr) (n c : Nat) (T : By) (hp : 2 ≤ P) (hp2 : P ≤ 13) (hn : n ≤ 6) (hT : T.length ≤ 1048576) (hs : NumsL P sq) (hsp : isSp P sq = true) (hln : sq.length = n) : ∀ L : Nat, ∀ i, i ≤ T.length → T.length ≤ i + L →
    RsC 88 P sq A n c .sum T i ∧ RsC 119 P sq A n c .prod T i ∧ RsC 144 P sq A n c .fac T i ∧ RsC 167 P sq A n c .atom T i := by
  intro L
  induction L using Nat.strongRecOn with
  | ind L ih =>
    have later : ∀ i i', i < i' → i' ≤ T.length → T.length ≤ i + L → _ := fun i i' h1 h2 h3 => ih (T.length - i') (by omega) i' h2 (by omega)
    have hat : ∀ i, i ≤ T.length → T.length ≤ i + L → RsC 167 P sq A n c .atom T i := fun i h1 h2 =>
      satom_any P sq A n c T i hp hp2 hn hT h1 hsp hln fun i' h3 h4 => (later i i' h3 h4 h2).1
    have hfac : ∀ i, i ≤ T.length → T.length ≤ i + L → RsC 144 P sq A n c .fac T i := fun i h1 h2 =>
      sfac_any P sq A n c T i hp hp2 hn hT h1 (fun i' h3 h4 => (later i i' h3 h4 h2).2.2.1) (hat i h1 h2)
    have hprod : ∀ i, i ≤ T.length → T.length ≤ i + L → RsC 119 P sq A n c .prod T i := fun i h1 h2 =>
      sprod_any P sq A n c T i hp hp2 hn hT h1 hs fun i' h3 h4 => hfac i' h4 (by omega)
    have hsum : ∀ i, i ≤ T.length → T.length ≤ i + L → RsC 88 P sq A n c .sum T i := fun i h1 h2 =>
      ssum_any P sq A n c T i hp hp2 hn hT h1 fun i' h3 h4 => hprod i' h4 (by omega)
    exact fun i h1 h2 => ⟨hsum i h1 h2, hprod i h1 h2, hfac i h1 h2, hat i h1 h2⟩
set_option maxHeartbeats 3200000 in
set_option maxRecDepth 8000 in
theorem l19Value_any (P : Int) (A : Option Addr) (n c : Nat) (sq : List Int) (t : By) (w : World) (hsp : isSp P sq = true) (ha : Rd w A n (ints sq)) :
    Calls Tryz.prog 47 #[.agg #[.int .i64 P, .slice A n c], .string ⟨t.toArray⟩] w fun e w' => ∃ (A' : Option Addr) (k c' : Nat), e = .returned (.tuple #[.slice A' k c', .int .i64 (evR P sq t).2]) ∧ MkI w w' A' k c' (evR P sq t).1 := by
  obtain ⟨hP, hd1, hd2, hnum⟩ := isSp_dim hsp
  have hln : sq.length = n := ha.lenI
  obtain ⟨p1, p2⟩ := isP_pos hP
  have hp2' := isP_ge hP
  have hB0 : Below w.heap.size w (w.alloc (.cells #[.int .i64 P, .slice A n c] 28)) := (Below.refl _ _).alloc (Nat.le_refl _) _
  have k0 : Blk (w.alloc (.cells #[.int .i64 P, .slice A n c] 28)) w.heap.size 28 #[.int .i64 P, .slice A n c] := Blk.new _ _ _
  have hlnt : ∀ wx ty, (Builtin.len_ #[9] ty #[.string ⟨t.toArray⟩]).run Tryz.prog wx = .ok (.int .i64 t.length) wx := fun wx ty => str_len wx ty t
  obtain ⟨V, hV⟩ : ∃ V, V = evR P sq t := ⟨_, rfl⟩
  have HV := Lib.hid hV
  rw [← hV]
  clear hV
  by_cases hl : 200 < t.length
  · have d1 : decide ((200 : Int) < (t.length : Int)) = true := by simp; omega
    have hV2 : Hid (V = ([], 3)) := Lib.hid (by rw [HV.out]; unfold evR; rw [if_pos hl])
    clear hln
    go_enter Tryz.func47, Tryz.ntmps47
    go_wp2
    go_ret2
    exact ⟨none, 0, 0, by rw [hV2.out]; rfl, by rw [hV2.out]; exact Mk.nil hB0⟩
  · have d1 : decide ((200 : Int) < (t.length : Int)) = false := by simp; omega
    obtain ⟨q0, q1⟩ := k0.two
    have HSP := Lib.hid hsp
    have HLN := Lib.hid hln
    have hn6 : n ≤ 6 := by omega
    have hn1 : 1 ≤ n := by omega
    clear hln hsp
    go_enter Tryz.func47, Tryz.ntmps47
    go_wp2_with fail
    have hsz : (w.alloc (.cells #[.int .i64 P, .slice A n c] 28)).heap.size = w.heap.size + 1 := by simp
    have hB2 : Below w.heap.size w ((w.alloc (.cells #[.int .i64 P, .slice A n c] 28)).alloc (.cells #[.int .i64 P, .slice A n c, .string ⟨t.toArray⟩, .int .i64 0, .bool false] 105)) := hB0.alloc (by rw [hsz]; omega) _
    have hk : RsB ((w.alloc (.cells #[.int .i64 P, .slice A n c] 28)).alloc (.cells #[.int .i64 P, .slice A n c, .string ⟨t.toArray⟩, .int .i64 0, .bool false] 105)) (w.heap.size + 1) P A n c t 0 false := by
      have h := Blk.new (w.alloc (.cells #[.int .i64 P, .slice A n c] 28)) 105 #[.int .i64 P, .slice A n c, .string ⟨t.toArray⟩, .int .i64 0, .bool false]
      rw [hsz] at h; exact h
    have hcall := (sreads P sq A n c t (by omega) p2 hn6 (by omega) (nums_numsL hnum) HSP.out HLN.out t.length 0 (by omega) (by omega)).1 (w.heap.size + 1) _ (fun a ha' => Nat.lt_succ_of_lt (ha.blk_lt (by omega) a ha')) (ha.below hB2) hk
    generalize (w.alloc (.cells #[.int .i64 P, .slice A n c] 28)).alloc (.cells #[.int .i64 P, .slice A n c, .string ⟨t.toArray⟩, .int .i64 0, .bool false] 105) = w2 at hB2 hk hcall ⊢
    refine hcall.mono ?_
    rintro e w3 ⟨A3, c3, x3, i3, b3, rfl, hk3, hx3, hO3, hl3, hl3b, hev3, hE3⟩
    have hB3 := hB2.trans (hE3.b.mono (Nat.le_succ _))
    have hM : MkI w w3 A3 (pw n) c3 x3 := ⟨hB3, hO3.base hB2.size⟩
    have hval : Hid (V = match (if (b3 || !(t.drop i3).isEmpty) = true then none else some x3) with | some v => (v, 0) | none => ([], 6)) := Lib.hid (by
      rw [HV.out]; unfold evR; rw [if_neg hl, HLN.out, valR_of (by rw [List.drop_zero] at hev3; exact hev3)]
      all_goals (
        generalize (if (b3 || !(t.drop i3).isEmpty) = true then none else some x3) = oo
        cases oo <;> rfl))
    clear hcall hk hB2 hE3 hev3 hO3 q0 q1
    obtain ⟨q0, q1, q2, q3, q4⟩ := hk3.five
    cases b3 with
    | true =>
      go_wp2
      go_ret2
      exact ⟨none, 0, 0, by rw [hval.out]; rfl, by rw [hval.out]; exact Mk.nil hB3⟩
    | false =>
      by_cases hi3 : i3 < t.length
      · have d3 : decide ((i3 : Int) < (t.length : Int)) = true := by simp; omega
        have hne : (t.drop i3).isEmpty = false := by rw [List.drop_eq_getElem_cons hi3]; rfl
        rw [hne] at hval
        clear hne hk3
        go_wp2
        go_ret2
        exact ⟨none, 0, 0, by rw [hval.out]; rfl, by rw [hval.out]; exact Mk.nil hB3⟩
      · have d3 : decide ((i3 : Int) < (t.length : Int)) = false := by simp; omega
        have hne : (t.drop i3).isEmpty = true := by rw [List.drop_eq_nil_of_le (by omega)]; rfl
        rw [hne] at hval
        clear hne hk3
        go_wp2
        go_ret2
        exact ⟨A3, pw n, c3, by rw [hval.out]; rfl, by rw [hval.out]; exact hM⟩
def isxR (P : Int) (sq : List Int) (t : By) : Bool × Int := if isSp P sq = true then ((evR P sq t).2 == 0, 0) else (false, 1)
set_option maxHeartbeats 1600000 in
set_option maxRecDepth 8000 in
theorem EvaluateText_any (P : Int) (A : Option Addr) (n c : Nat) (sq : List Int) (t : By) (w : World) (hn : n ≤ 1048576) (ha : Rd w A n (ints sq)) (he : EnvX w) :
    Calls Tryz.prog 14 #[.agg #[.int .i64 P, .slice A n c], .string ⟨t.toArray⟩] w fun e w' => ∃ (A' : Option Addr) (k c' : Nat), e = .returned (.tuple #[.slice A' k c', .int .i64 (evalR P sq t).2]) ∧ MkI w w' A' k c' (evalR P sq t).1 := by
  have hB0 : Below w.heap.size w (w.alloc (.cells #[.int .i64 P, .slice A n c] 28)) := (Below.refl _ _).alloc (Nat.le_refl _) _
  have k0 : Blk (w.alloc (.cells #[.int .i64 P, .slice A n c] 28)) w.heap.size 28 #[.int .i64 P, .slice A n c] := Blk.new _ _ _
  obtain ⟨V, hV⟩ : ∃ V, V = evalR P sq t := ⟨_, rfl⟩
  have HR := Lib.hid hV
  rw [← hV]
  clear hV
  cases hsp : isSp P sq
  · have his := IsSpace_b P A n c sq _ (by omega) (ha.below hB0) hsp
    have hm : Hid (V = ([], 1)) := Lib.hid (by rw [HR.out, evalR_ev, hsp]; rfl)
    clear hsp
    go_enter Tryz.func14, Tryz.ntmps14
    go_wp2_with fail
    refine his.mono ?_
    rintro e w1 ⟨rfl, hb1⟩
    go_wp2
    go_ret2
    exact ⟨none, 0, 0, by rw [hm.out]; rfl, by rw [hm.out]; exact Mk.nil (hB0.trans (hb1.mono (by simp)))⟩
  · have his := IsSpace_b P A n c sq _ (by omega) (ha.below hB0) hsp
    have hm : Hid (V = evR P sq t) := Lib.hid (by rw [HR.out, evalR_ev, hsp]; rfl)
    go_enter Tryz.func14, Tryz.ntmps14
    go_wp2_with fail
    refine his.mono ?_
    rintro e w1 ⟨rfl, hb1⟩
    have hB1 : Below w.heap.size w w1 := hB0.trans (hb1.mono (by simp))
    have k1 := k0.below hb1 k0.lt
    have hev := evaluate_any P A n c sq t w1 hsp (ha.below hB1) (he.below hB1 (Nat.le_refl _))
    clear hb1 hB0 k0 hsp his
    obtain ⟨q0, q1⟩ := k1.two
    go_wp2_with fail
    refine hev.mono ?_
    rintro e w2 ⟨A3, k3, c3, rfl, hM⟩
    go_wp2
    go_ret2
    exact ⟨A3, k3, c3, by rw [hm.out]; rfl, by rw [hm.out]; exact hM.after hB1⟩
set_option maxHeartbeats 1600000 in
set_option maxRecDepth 8000 in
theorem specEvaluateText_any (P : Int) (A : Option Addr) (n c : Nat) (sq : List Int) (t : By) (w : World) (hn : n ≤ 1048576) (ha : Rd w A n (ints sq)) :
    Calls Tryz.prog 13 #[.agg #[.int .i64 P, .slice A n c], .string ⟨t.toArray⟩] w fun e w' => ∃ (A' : Option Addr) (k c' : Nat), e = .returned (.tuple #[.slice A' k c', .int .i64 (evalR P sq t).2]) ∧ MkI w w' A' k c' (evalR P sq t).1 := by
  have hB0 : Below w.heap.size w (w.alloc (.cells #[.int .i64 P, .slice A n c] 28)) := (Below.refl _ _).alloc (Nat.le_refl _) _
  have k0 : Blk (w.alloc (.cells #[.int .i64 P, .slice A n c] 28)) w.heap.size 28 #[.int .i64 P, .slice A n c] := Blk.new _ _ _
  obtain ⟨V, hV⟩ : ∃ V, V = evalR P sq t := ⟨_, rfl⟩
  have HR := Lib.hid hV
  rw [← hV]
  clear hV
  cases hsp : isSp P sq
  · have his := l03Is_b P A n c sq _ (by omega) (ha.below hB0) hsp
    have hm : Hid (V = ([], 1)) := Lib.hid (by rw [HR.out, evalR_ev, hsp]; rfl)
    clear hsp
    go_enter Tryz.func13, Tryz.ntmps13
    go_wp2_with fail
    refine his.mono ?_
    rintro e w1 ⟨rfl, hb1⟩
    go_wp2
    go_ret2
    exact ⟨none, 0, 0, by rw [hm.out]; rfl, by rw [hm.out]; exact Mk.nil (hB0.trans (hb1.mono (by simp)))⟩
  · have his := l03Is_b P A n c sq _ (by omega) (ha.below hB0) hsp
    have hm : Hid (V = evR P sq t) := Lib.hid (by rw [HR.out, evalR_ev, hsp]; rfl)
    go_enter Tryz.func13, Tryz.ntmps13
    go_wp2_with fail
    refine his.mono ?_
    rintro e w1 ⟨rfl, hb1⟩
    have hB1 : Below w.heap.size w w1 := hB0.trans (hb1.mono (by simp))
    have k1 := k0.below hb1 k0.lt
    have hev := l19Value_any P A n c sq t w1 hsp (ha.below hB1)
    clear hb1 hB0 k0 hsp his
    obtain ⟨q0, q1⟩ := k1.two
    go_wp2_with fail
    refine hev.mono ?_
    rintro e w2 ⟨A3, k3, c3, rfl, hM⟩
    go_wp2
    go_ret2
    exact ⟨A3, k3, c3, by rw [hm.out]; rfl, by rw [hm.out]; exact hM.after hB1⟩
set_option maxHeartbeats 1600000 in
set_option maxRecDepth 8000 in
theorem IsExpression_any (P : Int) (A : Option Addr) (n c : Nat) (sq : List Int) (t : By) (w : World) (hn : n ≤ 1048576) (ha : Rd w A n (ints sq)) (he : EnvX w) :
    Calls Tryz.prog 11 #[.agg #[.int .i64 P, .slice A n c], .string ⟨t.toArray⟩] w fun e w' => e = .returned (.tuple #[.bool (isxR P sq t).1, .int .i64 (isxR P sq t).2]) ∧ Below w.heap.size w w' := by
  have hB0 : Below w.heap.size w (w.alloc (.cells #[.int .i64 P, .slice A n c] 28)) := (Below.refl _ _).alloc (Nat.le_refl _) _
  have k0 : Blk (w.alloc (.cells #[.int .i64 P, .slice A n c] 28)) w.heap.size 28 #[.int .i64 P, .slice A n c] := Blk.new _ _ _
  obtain ⟨V, hV⟩ : ∃ V, V = isxR P sq t := ⟨_, rfl⟩
  have HR := Lib.hid hV
  rw [← hV]
  clear hV
  cases hsp : isSp P sq
  · have his := IsSpace_b P A n c sq _ (by omega) (ha.below hB0) hsp
    have hm : Hid (V = (false, 1)) := Lib.hid (by rw [HR.out]; unfold isxR; rw [hsp]; rfl)
    clear hsp
    go_enter Tryz.func11, Tryz.ntmps11
    go_wp2_with fail
    refine his.mono ?_
    rintro e w1 ⟨rfl, hb1⟩
    go_wp2
    go_ret2
    exact ⟨by rw [hm.out]; rfl, hB0.trans (hb1.mono (by simp))⟩
  · have his := IsSpace_b P A n c sq _ (by omega) (ha.below hB0) hsp
    have hm : Hid (V = ((evR P sq t).2 == 0, 0)) := Lib.hid (by rw [HR.out]; unfold isxR; rw [hsp]; rfl)
    go_enter Tryz.func11, Tryz.ntmps11
    go_wp2_with fail
    refine his.mono ?_
    rintro e w1 ⟨rfl, hb1⟩
    have hB1 : Below w.heap.size w w1 := hB0.trans (hb1.mono (by simp))
    have k1 := k0.below hb1 k0.lt
    have hev := evaluate_any P A n c sq t w1 hsp (ha.below hB1) (he.below hB1 (Nat.le_refl _))
    clear hb1 hB0 k0 hsp his
    obtain ⟨q0, q1⟩ := k1.two
    go_wp2_with fail
    refine hev.mono ?_
    rintro e w2 ⟨A3, k3, c3, rfl, hM⟩
    go_wp2
    go_ret2
    exact ⟨by rw [hm.out]; rfl, hB1.trans (hM.b.mono hB1.size)⟩
set_option maxHeartbeats 1600000 in
set_option maxRecDepth 8000 in
theorem specIsExpression_any (P : Int) (A : Option Addr) (n c : Nat) (sq : List Int) (t : By) (w : World) (hn : n ≤ 1048576) (ha : Rd w A n (ints sq)) :
    Calls Tryz.prog 9 #[.agg #[.int .i64 P, .slice A n c], .string ⟨t.toArray⟩] w fun e w' => e = .returned (.tuple #[.bool (isxR P sq t).1, .int .i64 (isxR P sq t).2]) ∧ Below w.heap.size w w' := by
  have hB0 : Below w.heap.size w (w.alloc (.cells #[.int .i64 P, .slice A n c] 28)) := (Below.refl _ _).alloc (Nat.le_refl _) _
  have k0 : Blk (w.alloc (.cells #[.int .i64 P, .slice A n c] 28)) w.heap.size 28 #[.int .i64 P, .slice A n c] := Blk.new _ _ _
  obtain ⟨V, hV⟩ : ∃ V, V = isxR P sq t := ⟨_, rfl⟩
  have HR := Lib.hid hV
  rw [← hV]
  clear hV
  cases hsp : isSp P sq
  · have his := l03Is_b P A n c sq _ (by omega) (ha.below hB0) hsp
    have hm : Hid (V = (false, 1)) := Lib.hid (by rw [HR.out]; unfold isxR; rw [hsp]; rfl)
    clear hsp
    go_enter Tryz.func9, Tryz.ntmps9
    go_wp2_with fail
    refine his.mono ?_
    rintro e w1 ⟨rfl, hb1⟩
    go_wp2
    go_ret2
    exact ⟨by rw [hm.out]; rfl, hB0.trans (hb1.mono (by simp))⟩
  · have his := l03Is_b P A n c sq _ (by omega) (ha.below hB0) hsp
    have hm : Hid (V = ((evR P sq t).2 == 0, 0)) := Lib.hid (by rw [HR.out]; unfold isxR; rw [hsp]; rfl)
    go_enter Tryz.func9, Tryz.ntmps9
    go_wp2_with fail
    refine his.mono ?_
    rintro e w1 ⟨rfl, hb1⟩
    have hB1 : Below w.heap.size w w1 := hB0.trans (hb1.mono (by simp))
    have k1 := k0.below hb1 k0.lt
    have hev := l19Value_any P A n c sq t w1 hsp (ha.below hB1)
    clear hb1 hB0 k0 hsp his
    obtain ⟨q0, q1⟩ := k1.two
    go_wp2_with fail
    refine hev.mono ?_
    rintro e w2 ⟨A3, k3, c3, rfl, hM⟩
    go_wp2
    go_ret2
    exact ⟨by rw [hm.out]; rfl, hB1.trans (hM.b.mono hB1.size)⟩
end Go.Proofs.YticofgmmjecleaaGreatDoor
namespace Go.Proofs.YticofgmmjecleaaGreatDoor
open Go Go.RowKit
theorem sgnL_mu {P : Int} {n : Nat} (hp : 0 < P) {x : List Int} (h : MuL P n x) : MuL P n (revL P x) := by
  unfold revL sgnL
  refine ⟨(tab_len _ _).trans h.1, fun z hz => ?_⟩
  obtain ⟨i, hi, rfl⟩ := tab_mem hz
  split
  · exact ⟨Int.emod_nonneg _ (by omega), Int.emod_lt_of_pos _ hp⟩
  · rw [List.getD_eq_getElem?_getD, List.getElem?_eq_getElem (by omega)]
    exact h.2 _ (List.getElem_mem _)
theorem opL_mu {P : Int} {sq : List Int} {n : Nat} (hp : 0 < P) (c : UInt8) {x : List Int} (h : MuL P n x) (y : List Int) : MuL P n (opL P sq c x y) := by
  unfold opL
  split
  · exact ⟨(mulL_len _ _ _ _).trans h.1, mulL_nums hp _ _ _⟩
  split
  · exact ⟨(wedgeL_len _ _ _ _).trans h.1, wedgeL_nums hp _ _ _⟩
  split
  · exact ⟨(contrL_len _ _ _ _).trans h.1, contrL_nums hp _ _ _⟩
  · exact ⟨(plusL_len _ _ _ _).trans h.1, plusL_nums hp _ _ _⟩
theorem ev_mu {P : Int} {sq : List Int} {n : Nat} (hp : 2 ≤ P) : ∀ (f : Nat) (m : Md) (t : By) (r : List Int × By), MdOk P n m → ev P sq n f m t = some r → MuL P n r.1
  | 0, m, t, r, _, h => by cases h
  | f + 1, .sum, t, r, _, h => by
    unfold ev at h
    obtain ⟨a, ha, hb⟩ := Option.bind_eq_some_iff.1 h
    exact ev_mu hp f (.sumL a.1) _ _ (ev_mu hp f .prod _ _ trivial ha) hb
  | f + 1, .sumL o, t, r, ho, h => by
    unfold ev at h
    split at h
    · injection h with h; subst h; exact ho
    · obtain ⟨a, ha, hb⟩ := Option.bind_eq_some_iff.1 h
      exact ev_mu hp f (.sumL _) _ _ (opL_mu (by omega) _ ho _) hb
  | f + 1, .prod, t, r, _, h => by
    unfold ev at h
    obtain ⟨a, ha, hb⟩ := Option.bind_eq_some_iff.1 h
    exact ev_mu hp f (.prodL a.1) _ _ (ev_mu hp f .fac _ _ trivial ha) hb
  | f + 1, .prodL o, t, r, ho, h => by
    unfold ev at h
    split at h
    · injection h with h; subst h; exact ho
    · obtain ⟨a, ha, hb⟩ := Option.bind_eq_some_iff.1 h
      exact ev_mu hp f (.prodL _) _ _ (opL_mu (by omega) _ ho _) hb
  | f + 1, .fac, t, r, _, h => by
    unfold ev at h
    split at h
    · exact ev_mu hp f .atom _ _ trivial h
    · rename_i c t' _
      obtain ⟨a, ha, rfl⟩ := Option.map_eq_some_iff.1 h
      have := ev_mu hp f .fac _ _ trivial ha
      dsimp only
      split
      · exact ⟨(scaleL_len _ _ _).trans this.1, scaleL_nums (by omega) _ _⟩
      · exact sgnL_mu (by omega) this
  | f + 1, .atom, t, r, _, h => by
    unfold ev at h
    split at h
    · obtain ⟨a, _, rfl⟩ := Option.map_eq_some_iff.1 h
      exact ⟨(scaleL_len _ _ _).trans (bladeL_len _ _), scaleL_nums (by omega) _ _⟩
    · rename_i c t' hn
      by_cases hc : c = 40
      · rw [if_pos hc] at h
        obtain ⟨a, ha, hb⟩ := Option.bind_eq_some_iff.1 h
        obtain ⟨q, hq, rfl⟩ := Option.map_eq_some_iff.1 hb
        exact ev_mu hp f .sum t' a trivial ha
      · rw [if_neg hc] at h
        obtain ⟨a, _, rfl⟩ := Option.map_eq_some_iff.1 h
        exact ⟨bladeL_len _ _, bladeL_nums hp _ _⟩
theorem valR_mu {P : Int} {sq : List Int} {n : Nat} (hp : 2 ≤ P) {t : By} {v : List Int} (h : valR P sq n t = some v) : MuL P n v := by
  unfold valR at h
  split at h
  · rename_i x he
    injection h with h; subst h
    exact ev_mu hp _ .sum _ _ trivial he
  · cases h
theorem evR_mu {P : Int} {sq : List Int} (hp : 2 ≤ P) (t : By) : ((evR P sq t).2 = 0 ∧ MuL P sq.length (evR P sq t).1) ∨ ((evR P sq t).2 ≠ 0 ∧ (evR P sq t).1 = []) := by
  unfold evR
  split
  · exact .inr ⟨by decide, rfl⟩
  · split
    · rename_i v hv
      exact .inl ⟨rfl, valR_mu hp hv⟩
    · exact .inr ⟨by decide, rfl⟩
theorem evalR_len (P : Int) (sq : List Int) (t : By) : (evalR P sq t).1.length ≤ 1048576 := by
  rw [evalR_ev]
  split
  · rename_i hsp
    obtain ⟨hP, hd1, hd2, hnum⟩ := isSp_dim hsp
    obtain ⟨p1, p2⟩ := isP_pos hP
    have h6 : pw sq.length ≤ 64 := pw_le hd2
    rcases evR_mu (P := P) (sq := sq) (by have := isP_ge hP; omega) t with ⟨_, h, _⟩ | ⟨_, h⟩
    · omega
    · rw [h]; simp
  · simp
end Go.Proofs.YticofgmmjecleaaGreatDoor
namespace Go.Proofs.YticofgmmjecleaaGreatDoor
open Go Go.RowKit
/-- The texts' values added up, and the code of the first that has none. -/
def sumT (P : Int) (sq : List Int) : List Int → List By → List Int × Int
  | x, [] => (x, 0)
  | x, t :: r => if (evR P sq t).2 = 0 then sumT P sq (plusL P x (evR P sq t).1 1) r else ([], (evR P sq t).2)
def sumR (P : Int) (sq : List Int) (ts : List By) : List Int × Int :=
  if isSp P sq = true then (if 20 < ts.length then ([], 3) else if (ts.any fun t => decide (200 < t.length)) = true then ([], 3) else sumT P sq (List.replicate (pw sq.length) 0) ts) else ([], 1)
theorem zero_mu {P : Int} (hp : 2 ≤ P) (n : Nat) : MuL P n (List.replicate (pw n) 0) := ⟨List.length_replicate, NumsL.replicate (by omega) _⟩
set_option maxHeartbeats 3200000 in
set_option maxRecDepth 8000 in
theorem SumOfTexts_any (P : Int) (A : Option Addr) (n c : Nat) (sq : List Int) (T : Option Addr) (m d : Nat) (ts : List By) (w : World) (hn : n ≤ 1048576) (hm : m ≤ 1048576) (ha : Rd w A n (ints sq)) (hT : Rd w T m (txts ts)) (hts : ∀ t ∈ ts, t.length ≤ 1048576) (he : EnvX w) :
    Calls Tryz.prog 22 #[.agg #[.int .i64 P, .slice A n c], .slice T m d] w fun e w' => ∃ (A' : Option Addr) (k c' : Nat), e = .returned (.tuple #[.slice A' k c', .int .i64 (sumR P sq ts).2]) ∧ MkI w w' A' k c' (sumR P sq ts).1 := by
  have hB0 : Below w.heap.size w (w.alloc (.cells #[.int .i64 P, .slice A n c] 28)) := (Below.refl _ _).alloc (Nat.le_refl _) _
  have k0 : Blk (w.alloc (.cells #[.int .i64 P, .slice A n c] 28)) w.heap.size 28 #[.int .i64 P, .slice A n c] := Blk.new _ _ _
  obtain ⟨V, hV⟩ : ∃ V, V = sumR P sq ts := ⟨_, rfl⟩
  have HR := Lib.hid hV
  rw [← hV]
  clear hV
  have hlt := hT.lenS
  have HTS := Lib.hid hts
  clear hts
  cases hsp : isSp P sq
  · have his := IsSpace_b P A n c sq _ (by omega) (ha.below hB0) hsp
    have hmm : Hid (V = ([], 1)) := Lib.hid (by rw [HR.out]; unfold sumR; rw [hsp]; rfl)
    clear hsp hlt
    go_enter Tryz.func22, Tryz.ntmps22
    go_wp2_with fail
    refine his.mono ?_
    rintro e w1 ⟨rfl, hb1⟩
    go_wp2
    go_ret2
    exact ⟨none, 0, 0, by rw [hmm.out]; rfl, by rw [hmm.out]; exact Mk.nil (hB0.trans (hb1.mono (by simp)))⟩
  obtain ⟨hP, hd1, hd2, hnum⟩ := isSp_dim hsp
  have hln : sq.length = n := ha.lenI
  have hp2 := isP_ge hP
  have hP2 : 2 ≤ P := by omega
  have hP13 : P ≤ 13 := by omega
  have hn6 : n ≤ 6 := by omega
  have hpw : pw n ≤ 64 := pw_le hn6
  have his := IsSpace_b P A n c sq _ (by omega) (ha.below hB0) hsp
  have HSP := Lib.hid hsp
  have HLN := Lib.hid hln
  have HLT := Lib.hid hlt
  have HV : Hid (V = if 20 < m then ([], 3) else if (ts.any fun t => decide (200 < t.length)) = true then ([], 3) else sumT P sq (List.replicate (pw n) 0) ts) := Lib.hid (by rw [HR.out]; unfold sumR; rw [hsp, hln, hlt]; rfl)
  clear hsp hln hlt hd1 hd2 hnum hP hp2 HR
  by_cases h20 : 20 < m
  · have d20 : decide ((20 : Int) < (m : Int)) = true := by simp; omega
    have hmm : Hid (V = ([], 3)) := Lib.hid (by rw [HV.out, if_pos h20])
    clear h20
    go_enter Tryz.func22, Tryz.ntmps22
    go_wp2_with fail
    refine his.mono ?_
    rintro e w1 ⟨rfl, hb1⟩
    go_wp2
    go_ret2
    exact ⟨none, 0, 0, by rw [hmm.out]; rfl, by rw [hmm.out]; exact Mk.nil (hB0.trans (hb1.mono (by simp)))⟩
  have d20 : decide ((20 : Int) < (m : Int)) = false := by simp; omega
  have hmm : Hid (V = if (ts.any fun t => decide (200 < t.length)) = true then ([], 3) else sumT P sq (List.replicate (pw n) 0) ts) := Lib.hid (by rw [HV.out, if_neg h20])
  clear HV h20
  have hcf := fun (wx : World) (hb : Below w.heap.size w wx) => ContainsFuncT_any 54 _ T m d ts wx (by omega) (hT.below hb) HTS.out longText_tells (fun _ _ => rfl)
  cases hany : (ts.any fun t => decide (200 < t.length))
  · have hmv : Hid (V = sumT P sq (List.replicate (pw n) 0) ts) := Lib.hid (by rw [hmm.out, hany]; rfl)
    rw [hany] at hcf
    clear hany hmm
    have HCF := Lib.hid hcf
    clear hcf
    go_enter Tryz.func22, Tryz.ntmps22
    go_wp2_with fail
    refine his.mono ?_
    rintro e w1 ⟨rfl, hb1⟩
    have hB1 : Below w.heap.size w w1 := hB0.trans (hb1.mono (by simp))
    have k1 := k0.below hb1 k0.lt
    clear hb1 hB0 k0 his
    obtain ⟨q0, q1⟩ := k1.two
    go_wp2_with fail
    refine (HCF.out w1 hB1).mono ?_
    rintro e w2 ⟨rfl, rfl⟩
    clear HCF
    go_wp2_with fail
    refine (nothing_any P A n c _ (by omega)).mono ?_
    rintro e w3 ⟨G0, c0, rfl, hM0⟩
    have hM := hM0.after hB1
    have k3 := k1.below hM0.b k1.lt
    clear hM0 hB1 k1 q0 q1
    obtain ⟨q0, q1⟩ := k3.two
    go_wp2
    have k1 := k3
    clear k3
    go_loopw [6, 25] (fun out i wr => ∃ (k : Nat) (G : Option Addr) (cg : Nat) (x : List Int), k ≤ m ∧ i = .int .i64 k ∧ out = .slice G (pw n) cg ∧ MkI w wr G (pw n) cg x ∧ MuL P n x ∧ Blk wr w.heap.size 28 #[.int .i64 P, .slice A n c] ∧ V = sumT P sq x (ts.drop k)) (fun _ i _ => m - (intOf i).toNat)
    case atStart => exact ⟨0, _, _, _, Nat.zero_le _, rfl, rfl, hM, zero_mu hP2 n, k1, hmv.out⟩
    case round =>
      obtain ⟨k, G, cg, X, hk, rfl, rfl, hM2, hx, k2, hv⟩ := hrel
      clear hM k1
      obtain ⟨q0, q1⟩ := k2.two
      have hB2 := hM2.b
      by_cases hlt : k < m
      · have hT2 := hT.below hB2
        obtain ⟨g, o, rfl, hxk, hcx⟩ := hT2.str hlt
        have hgb := hcx
        rw [List.drop_eq_getElem_cons hxk, sumT] at hv
        have hle := HTS.out ts[k] (List.getElem_mem hxk)
        obtain ⟨t, ht⟩ : ∃ t, t = ts[k] := ⟨_, rfl⟩
        rw [← ht] at hv hcx hle
        have hdr := HLN
        clear ht hT2 hgb
        have hev := evaluate_any P A n c sq t wr HSP.out (ha.below hB2) (he.below hB2 (Nat.le_refl _))
        have hmu := evR_mu (sq := sq) hP2 t
        rw [HLN.out] at hmu
        obtain ⟨⟨Y, code⟩, hY⟩ : ∃ y, y = evR P sq t := ⟨_, rfl⟩
        rw [← hY] at hev hv hmu
        clear hY
        dsimp only at hev hv hmu
        have HVV := Lib.hid hv
        have HX := Lib.hid hx
        clear hv hx hle
        rcases hmu with ⟨hc0, hy⟩ | ⟨hc0, hy⟩
        · have HY := Lib.hid hy
          subst hc0
          clear hy
          go_wp2_with fail
          refine hev.mono ?_
          rintro e w4 ⟨A3, k3, c3, rfl, hM3⟩
          have hk3 : Y.length = k3 := hM3.2.rd.lenI
          obtain rfl : k3 = pw n := by rw [← hk3]; exact HY.out.1
          clear hk3
          have k4 := k2.below hM3.b k2.lt
          have hM4 := hM2.below hM3.b
          clear q0 q1 k2 hM2 hev
          obtain ⟨q0, q1⟩ := k4.two
          go_wp2_with fail
          refine (field_any P A n c w4).mono ?_
          rintro e w5 ⟨rfl, hb5⟩
          have k5 := k4.below hb5 k4.lt
          have hM5 := hM4.below hb5
          have hM35 := hM3.below hb5
          clear q0 q1 k4 hM4 hM3 hb5
          obtain ⟨q0, q1⟩ := k5.two
          go_wp2_with fail
          refine (plus_any P G (pw n) cg A3 (pw n) c3 1 X Y w5 hP2 hP13 (by omega) (Nat.le_refl _) hM5.rd HX.out.2 hM35.rd HY.out.2 (by omega) (by omega)).mono ?_
          rintro e w6 ⟨G6, c6, rfl, hM6⟩
          have k6 := k5.below hM6.b k5.lt
          have HM6 := Lib.hid (hM6.after hM5.b)
          clear q0 q1 k5 hM5 hM35 hM6
          go_wp2
          go_roundw
          case rel => exact ⟨k + 1, G6, c6, _, by omega, by go_num, rfl, HM6.out, ⟨(plusL_len _ _ _ _).trans HX.out.1, plusL_nums (by omega) _ _ _⟩, k6, by rw [HVV.out]; simp⟩
          case measure => simp [intOf]; omega
        · have hne : (code != 0) = true := by simpa using hc0
          go_wp2_with fail
          refine hev.mono ?_
          rintro e w4 ⟨A3, k3, c3, rfl, hM3⟩
          have HM3 := Lib.hid (hM3.after hB2).b
          clear hM3 hev
          go_wp2
          go_ret2
          exact ⟨none, 0, 0, by rw [HVV.out, if_neg hc0]; rfl, by rw [HVV.out, if_neg hc0]; exact Mk.nil HM3.out⟩
      · obtain rfl : k = m := by omega
        have hd : ts.drop k = [] := List.drop_of_length_le (by rw [HLT.out]; exact Nat.le_refl _)
        rw [hd] at hv
        have HVV := Lib.hid hv
        clear hv hd hx
        go_wp2
        go_ret2
        exact ⟨G, pw n, cg, by rw [HVV.out]; rfl, by rw [HVV.out]; exact hM2⟩
  · have hmv : Hid (V = ([], 3)) := Lib.hid (by rw [hmm.out, hany]; rfl)
    rw [hany] at hcf
    clear hany hmm
    have HCF := Lib.hid hcf
    clear hcf
    go_enter Tryz.func22, Tryz.ntmps22
    go_wp2_with fail
    refine his.mono ?_
    rintro e w1 ⟨rfl, hb1⟩
    have hB1 : Below w.heap.size w w1 := hB0.trans (hb1.mono (by simp))
    go_wp2_with fail
    refine (HCF.out w1 hB1).mono ?_
    rintro e w2 ⟨rfl, rfl⟩
    go_wp2
    go_ret2
    exact ⟨none, 0, 0, by rw [hmv.out]; rfl, by rw [hmv.out]; exact Mk.nil hB1⟩
end Go.Proofs.YticofgmmjecleaaGreatDoor
namespace Go.Proofs.YticofgmmjecleaaGreatDoor
theorem nxt_app {cs t : By} {d : UInt8} {s : By} (hd : cs.contains d = false) : nxt cs (t ++ d :: s) = (nxt cs t).map fun q => (q.1, q.2 ++ d :: s) := by
  cases t with
  | nil =>
    show (if cs.contains d then some (d, s) else none) = none
    rw [hd]; rfl
  | cons c r =>
    show (if cs.contains c then some (c, r ++ d :: s) else none) = (if cs.contains c then some (c, r) else none).map _
    cases cs.contains c <;> rfl
theorem dig_app {t : By} {d : UInt8} {s : By} (hd : decs.contains d = false) : digL (t ++ d :: s) = digL t ∧ resL (t ++ d :: s) = resL t ++ d :: s := by
  unfold digL resL
  induction t with
  | nil =>
    rw [List.nil_append, List.takeWhile_cons, List.dropWhile_cons, hd]
    exact ⟨rfl, rfl⟩
  | cons c r ih =>
    rw [List.cons_append, List.takeWhile_cons, List.dropWhile_cons, List.takeWhile_cons, List.dropWhile_cons]
    cases decs.contains c
    · exact ⟨rfl, rfl⟩
    · simp only [if_true]
      exact ⟨by rw [ih.1], ih.2⟩
/-- Behind what is read may stand a closing bracket and anything. -/
theorem ev_app {P : Int} {sq : List Int} {n : Nat} (s : By) : ∀ (f : Nat) (m : Md) (t : By) (v : List Int) (r : By), ev P sq n f m t = some (v, r) → ev P sq n f m (t ++ 41 :: s) = some (v, r ++ 41 :: s)
  | 0, m, t, v, r, h => by cases h
  | f + 1, .sum, t, v, r, h => by
    unfold ev at h ⊢
    obtain ⟨⟨a1, a2⟩, ha, hb⟩ := Option.bind_eq_some_iff.1 h
    rw [ev_app s f _ _ _ _ ha]
    exact ev_app s f _ _ _ _ hb
  | f + 1, .sumL o, t, v, r, h => by
    unfold ev at h ⊢
    rw [nxt_app (by decide)]
    cases hn : nxt [43, 45] t with
    | none => rw [hn] at h; injection h with h; injection h with h1 h2; subst h1; subst h2; rfl
    | some q =>
      rw [hn] at h
      obtain ⟨⟨a1, a2⟩, ha, hb⟩ := Option.bind_eq_some_iff.1 h
      show (ev P sq n f .prod (q.2 ++ 41 :: s)).bind _ = _
      rw [ev_app s f _ _ _ _ ha]
      exact ev_app s f _ _ _ _ hb
  | f + 1, .prod, t, v, r, h => by
    unfold ev at h ⊢
    obtain ⟨⟨a1, a2⟩, ha, hb⟩ := Option.bind_eq_some_iff.1 h
    rw [ev_app s f _ _ _ _ ha]
    exact ev_app s f _ _ _ _ hb
  | f + 1, .prodL o, t, v, r, h => by
    unfold ev at h ⊢
    rw [nxt_app (by decide)]
    cases hn : nxt [42, 94, 46] t with
    | none => rw [hn] at h; injection h with h; injection h with h1 h2; subst h1; subst h2; rfl
    | some q =>
      rw [hn] at h
      obtain ⟨⟨a1, a2⟩, ha, hb⟩ := Option.bind_eq_some_iff.1 h
      show (ev P sq n f .fac (q.2 ++ 41 :: s)).bind _ = _
      rw [ev_app s f _ _ _ _ ha]
      exact ev_app s f _ _ _ _ hb
  | f + 1, .fac, t, v, r, h => by
    unfold ev at h ⊢
    rw [nxt_app (by decide)]
    cases hn : nxt [45, 126] t with
    | none => rw [hn] at h; exact ev_app s f _ _ _ _ h
    | some q =>
      rw [hn] at h
      obtain ⟨⟨a1, a2⟩, ha, hb⟩ := Option.map_eq_some_iff.1 h
      injection hb with hb1 hb2
      subst hb1; subst hb2
      show (ev P sq n f .fac (q.2 ++ 41 :: s)).map _ = _
      rw [ev_app s f _ _ _ _ ha]; rfl
  | f + 1, .atom, t, v, r, h => by
    unfold ev at h ⊢
    rw [nxt_app (by decide)]
    cases hn : nxt [40, 101] t with
    | none =>
      rw [hn] at h
      show (numF (digL (t ++ 41 :: s))).map _ = _
      rw [(dig_app (by decide)).1, (dig_app (by decide)).2]
      obtain ⟨k, hk, hb⟩ := Option.map_eq_some_iff.1 h
      injection hb with hb1 hb2
      rw [hk, ← hb1, ← hb2]; rfl
    | some q =>
      rw [hn] at h
      obtain ⟨c, t'⟩ := q
      show (if c = 40 then (ev P sq n f .sum (t' ++ 41 :: s)).bind fun r => (nxt [41] r.2).map fun q => (r.1, q.2) else (maskOf n (101 :: digL (t' ++ 41 :: s))).map fun (m : Nat) => (bladeL n m, resL (t' ++ 41 :: s))) = _
      dsimp only at h
      by_cases hc : c = 40
      · rw [if_pos hc] at h ⊢
        obtain ⟨⟨a1, a2⟩, ha, hb⟩ := Option.bind_eq_some_iff.1 h
        rw [ev_app s f _ _ _ _ ha]
        obtain ⟨⟨q1, q2⟩, hq, hb2⟩ := Option.map_eq_some_iff.1 hb
        injection hb2 with hb2 hb3
        obtain ⟨e, e2⟩ := nxt_some hq
        show (nxt [41] (a2 ++ 41 :: s)).map _ = _
        have e' : a2 = q1 :: q2 := e
        rw [e']
        show (if [41].contains q1 then some (q1, q2 ++ 41 :: s) else none).map _ = _
        rw [e2, ← hb2, ← hb3]; rfl
      · rw [if_neg hc] at h ⊢
        rw [(dig_app (by decide)).1, (dig_app (by decide)).2]
        obtain ⟨k, hk, hb⟩ := Option.map_eq_some_iff.1 h
        injection hb with hb1 hb2
        rw [hk, ← hb1, ← hb2]; rfl
theorem evE_app {P : Int} {sq : List Int} {n : Nat} {m : Md} {t v r} (s : By) (h : evE P sq n m t = some (v, r)) : evE P sq n m (t ++ 41 :: s) = some (v, r ++ 41 :: s) := by
  have hn : need m t ≤ need m (t ++ 41 :: s) := by unfold need; rw [List.length_append]; omega
  rw [← ev_enough hn] at h
  exact ev_app s _ _ _ _ _ h
theorem valR_some {P : Int} {sq : List Int} {n : Nat} {t : By} {v : List Int} (h : valR P sq n t = some v) : evE P sq n .sum t = some (v, []) := by
  unfold valR at h
  cases he : evE P sq n .sum t with
  | none => rw [he] at h; cases h
  | some q =>
    rw [he] at h
    obtain ⟨a, b⟩ := q
    cases b with
    | nil => dsimp only at h; injection h with h; rw [h]
    | cons c r => cases h
/-- A text in brackets. -/
theorem evE_bra {P : Int} {sq : List Int} {n : Nat} {t : By} {v : List Int} (h : valR P sq n t = some v) (s : By) : evE P sq n .fac (40 :: (t ++ 41 :: s)) = some (v, s) := by
  have h1 := evE_app s (valR_some h)
  rw [List.nil_append] at h1
  have e1 : evE P sq n .atom (40 :: (t ++ 41 :: s)) = some (v, s) := by
    rw [← ev_enough (f := need .sum (t ++ 41 :: s) + 1 + 8) (by simp only [need, rk, List.length_cons]; omega)]
    have e2 : ev P sq n (need .sum (t ++ 41 :: s) + 8) .sum (t ++ 41 :: s) = some (v, 41 :: s) := by rw [ev_enough (by omega)]; exact h1
    show (ev P sq n (need .sum (t ++ 41 :: s) + 8) .sum (t ++ 41 :: s)).bind _ = _
    rw [e2]; rfl
  rw [← ev_enough (f := need .atom (40 :: (t ++ 41 :: s)) + 1) (by simp only [need, rk]; omega)]
  show ev P sq n (need .atom (40 :: (t ++ 41 :: s))) .atom (40 :: (t ++ 41 :: s)) = _
  exact e1
/-- A factor and what follows; a product and what follows. -/
theorem evE_prod {P : Int} {sq : List Int} {n : Nat} {t r : By} {v : List Int} (h : evE P sq n .fac t = some (v, r)) : evE P sq n .prod t = evE P sq n (.prodL v) r := by
  have h1 := (ev_len _ _ _ _ h).1
  rw [← ev_enough (f := need .prod t + 1) (by omega)]
  show (ev P sq n (need .prod t) .fac t).bind _ = _
  rw [ev_enough (by simp only [need, rk]; omega), h]
  exact ev_enough (by simp only [need, rk]; dsimp only at h1; omega)
theorem evE_sum {P : Int} {sq : List Int} {n : Nat} {t r : By} {v : List Int} (h : evE P sq n .prod t = some (v, r)) : evE P sq n .sum t = evE P sq n (.sumL v) r := by
  have h1 := (ev_len _ _ _ _ h).1
  rw [← ev_enough (f := need .sum t + 1) (by omega)]
  show (ev P sq n (need .sum t) .prod t).bind _ = _
  rw [ev_enough (by simp only [need, rk]; omega), h]
  exact ev_enough (by simp only [need, rk]; dsimp only at h1; omega)
theorem evE_mul {P : Int} {sq : List Int} {n : Nat} {o : List Int} {c : UInt8} {t r : By} {v : List Int} (hc : [42, 94, 46].contains c = true) (h : evE P sq n .fac t = some (v, r)) : evE P sq n (.prodL o) (c :: t) = evE P sq n (.prodL (opL P sq c o v)) r := by
  have h1 := (ev_len _ _ _ _ h).1
  rw [← ev_enough (f := need (.prodL o) (c :: t) + 1) (by omega)]
  unfold ev
  have e : nxt [42, 94, 46] (c :: t) = some (c, t) := by
    show (if _ then _ else _) = _
    rw [if_pos hc]
  rw [e]
  show (ev P sq n (need (.prodL o) (c :: t)) .fac t).bind _ = _
  rw [ev_enough (by simp only [need, rk, List.length_cons]; omega), h]
  exact ev_enough (by simp only [need, rk, List.length_cons]; dsimp only at h1; omega)
theorem evE_add {P : Int} {sq : List Int} {n : Nat} {o : List Int} {c : UInt8} {t r : By} {v : List Int} (hc : [43, 45].contains c = true) (h : evE P sq n .prod t = some (v, r)) : evE P sq n (.sumL o) (c :: t) = evE P sq n (.sumL (opL P sq c o v)) r := by
  have h1 := (ev_len _ _ _ _ h).1
  rw [← ev_enough (f := need (.sumL o) (c :: t) + 1) (by omega)]
  unfold ev
  have e : nxt [43, 45] (c :: t) = some (c, t) := by
    show (if _ then _ else _) = _
    rw [if_pos hc]
  rw [e]
  show (ev P sq n (need (.sumL o) (c :: t)) .prod t).bind _ = _
  rw [ev_enough (by simp only [need, rk, List.length_cons]; omega), h]
  exact ev_enough (by simp only [need, rk, List.length_cons]; dsimp only at h1; omega)
theorem evE_endP {P : Int} {sq : List Int} {n : Nat} {o : List Int} {t : By} (h : nxt [42, 94, 46] t = none) : evE P sq n (.prodL o) t = some (o, t) := by
  rw [← ev_enough (f := need (.prodL o) t + 1) (by omega)]
  unfold ev
  rw [h]
theorem evE_endS {P : Int} {sq : List Int} {n : Nat} {o : List Int} {t : By} (h : nxt [43, 45] t = none) : evE P sq n (.sumL o) t = some (o, t) := by
  rw [← ev_enough (f := need (.sumL o) t + 1) (by omega)]
  unfold ev
  rw [h]
theorem evE_sign {P : Int} {sq : List Int} {n : Nat} {c : UInt8} {t r : By} {v : List Int} (hc : [45, 126].contains c = true) (h : evE P sq n .fac t = some (v, r)) : evE P sq n .fac (c :: t) = some (if c = 45 then scaleL P v (-1) else revL P v, r) := by
  rw [← ev_enough (f := need .fac (c :: t) + 1) (by omega)]
  unfold ev
  have e : nxt [45, 126] (c :: t) = some (c, t) := by
    show (if _ then _ else _) = _
    rw [if_pos hc]
  rw [e]
  show (ev P sq n (need .fac (c :: t)) .fac t).map _ = _
  rw [ev_enough (by simp only [need, rk, List.length_cons]; omega), h]; rfl
/-- The three laws of FnExpressions. -/
theorem val_times {P : Int} {sq : List Int} {n : Nat} {t u : By} {x y : List Int} (hx : valR P sq n t = some x) (hy : valR P sq n u = some y) : valR P sq n (40 :: (t ++ 41 :: 42 :: 40 :: (u ++ [41]))) = some (mulL P sq x y) := by
  have e : evE P sq n .sum (40 :: (t ++ 41 :: 42 :: 40 :: (u ++ [41]))) = some (mulL P sq x y, []) := by
    rw [evE_sum (v := mulL P sq x y) (r := []) ?_, evE_endS rfl]
    rw [evE_prod (evE_bra hx _), evE_mul (by decide) (evE_bra hy []), evE_endP rfl]; rfl
  unfold valR; rw [e]
theorem val_less {P : Int} {sq : List Int} {n : Nat} {t u : By} {x y : List Int} (hx : valR P sq n t = some x) (hy : valR P sq n u = some y) : valR P sq n (40 :: (t ++ 41 :: 45 :: 40 :: (u ++ [41]))) = some (plusL P x y (-1)) := by
  have e : evE P sq n .sum (40 :: (t ++ 41 :: 45 :: 40 :: (u ++ [41]))) = some (plusL P x y (-1), []) := by
    have h2 : evE P sq n .prod (40 :: (u ++ [41])) = some (y, []) := by rw [evE_prod (evE_bra hy []), evE_endP rfl]
    have h1 : evE P sq n .prod (40 :: (t ++ 41 :: 45 :: 40 :: (u ++ [41]))) = some (x, 45 :: 40 :: (u ++ [41])) := by rw [evE_prod (evE_bra hx _), evE_endP rfl]
    rw [evE_sum h1, evE_add (by decide) h2, evE_endS rfl]; rfl
  unfold valR; rw [e]
theorem val_rev {P : Int} {sq : List Int} {n : Nat} {t : By} {x : List Int} (hx : valR P sq n t = some x) : valR P sq n (126 :: 40 :: (t ++ [41])) = some (revL P x) := by
  have e : evE P sq n .sum (126 :: 40 :: (t ++ [41])) = some (revL P x, []) := by
    have h1 : evE P sq n .prod (126 :: 40 :: (t ++ [41])) = some (revL P x, []) := by
      rw [evE_prod (evE_sign (by decide) (evE_bra hx [])), evE_endP rfl]; rfl
    rw [evE_sum h1, evE_endS rfl]
  unfold valR; rw [e]
end Go.Proofs.YticofgmmjecleaaGreatDoor
namespace Go.Proofs.YticofgmmjecleaaGreatDoor
open Go.RowKit
/-- A function of lists of n numbers is linear, but for multiples of P. -/
def LinF (P : Int) (n : Nat) (F : List Int → Int) : Prop := ∀ v : List Int, v.length = n → NumsL P v → F v % P = (sumTo n fun k => F (unitRow n k) * v.getD k 0) % P
section
variable {P : Int} {n : Nat} {F G : List Int → Int}
theorem LinF.congr (hp : 2 ≤ P) (h : LinF P n F) (he : ∀ v : List Int, v.length = n → NumsL P v → G v % P = F v % P) : LinF P n G := fun v hv hn => by
  rw [he v hv hn, h v hv hn]
  refine sumTo_mod P fun k _ => ?_
  rw [Int.mul_emod, ← he _ (unitRow_len n k) (unitRow_nums hp n k), ← Int.mul_emod]
theorem LinF.add (h : LinF P n F) (h' : LinF P n G) : LinF P n (fun v => F v + G v) := fun v hv hn => by
  show (F v + G v) % P = _
  rw [Int.add_emod, h v hv hn, h' v hv hn, ← Int.add_emod, ← sumTo_add]
  refine sumTo_mod P fun k _ => ?_
  rw [Int.add_mul]
theorem LinF.zero : LinF P n (fun _ => 0) := fun v _ _ => by
  show (0 : Int) % P = _
  rw [sumTo_zero fun k _ => by simp]
theorem LinF.sum {H : Nat → List Int → Int} : ∀ (N : Nat), (∀ a, a < N → LinF P n (H a)) → LinF P n (fun v => sumTo N fun a => H a v)
  | 0, _ => LinF.zero
  | N + 1, h => (LinF.sum N fun a ha => h a (by omega)).add (h N (by omega))
end
end Go.Proofs.YticofgmmjecleaaGreatDoor
namespace Go.Proofs.YticofgmmjecleaaGreatDoor
theorem bit_eq (a i : Nat) : bit a i = (a.testBit i).toNat := by
  unfold bit
  rw [Nat.testBit_eq_decide_div_mod_eq]
  rcases Nat.mod_two_eq_zero_or_one (a / 2 ^ i) with h | h <;> rw [h] <;> rfl
theorem bit_le (a i : Nat) : bit a i < 2 := by unfold bit; exact Nat.mod_lt _ (by decide)
theorem bit_xor (a b i : Nat) : bit (a ^^^ b) i = (bit a i + bit b i) % 2 := by
  rw [bit_eq, bit_eq, bit_eq, Nat.testBit_xor]
  cases a.testBit i <;> cases b.testBit i <;> rfl
/-- The number of the first k bits. -/
def pcn (a : Nat) : Nat → Nat
  | 0 => 0
  | k + 1 => pcn a k + bit a k
theorem bit_half (a i : Nat) : bit (a / 2) i = bit a (i + 1) := by
  unfold bit
  rw [Nat.div_div_eq_div_mul, Nat.pow_succ, Nat.mul_comm]
theorem pcn_half (a : Nat) : ∀ k, pcn a (k + 1) = a % 2 + pcn (a / 2) k := by
  intro k
  induction k with
  | zero => simp [pcn, bit]
  | succ k ih =>
    rw [pcn, ih, pcn, bit_half, Nat.add_assoc]
theorem pc_pcn : ∀ (k a : Nat), a < 2 ^ k → pc a = pcn a k := by
  intro k
  induction k with
  | zero =>
    intro a h
    obtain rfl : a = 0 := by omega
    rw [pc_zero]; rfl
  | succ k ih =>
    intro a h
    rw [pc_rec, pcn_half, ih _ (by rw [Nat.pow_succ] at h; omega)]
theorem pcn_xor (a b : Nat) : ∀ k, pcn (a ^^^ b) k % 2 = (pcn a k + pcn b k) % 2 := by
  intro k
  induction k with
  | zero => rfl
  | succ k ih =>
    simp only [pcn]
    rw [bit_xor]
    omega
theorem pc_xor (a b : Nat) : pc (a ^^^ b) % 2 = (pc a + pc b) % 2 := by
  obtain ⟨k, ha, hb⟩ : ∃ k, a < 2 ^ k ∧ b < 2 ^ k :=
    ⟨a + b, Nat.lt_of_le_of_lt (Nat.le_add_right a b) Nat.lt_two_pow_self, Nat.lt_of_le_of_lt (Nat.le_add_left b a) Nat.lt_two_pow_self⟩
  rw [pc_pcn k _ (Nat.xor_lt_two_pow ha hb), pc_pcn k _ ha, pc_pcn k _ hb]
  exact pcn_xor a b k
theorem xor_div (a b k : Nat) : (a ^^^ b) / 2 ^ k = (a / 2 ^ k) ^^^ (b / 2 ^ k) := by
  rw [← Nat.shiftRight_eq_div_pow, ← Nat.shiftRight_eq_div_pow, ← Nat.shiftRight_eq_div_pow]
  exact Nat.shiftRight_xor_distrib
theorem swaps_left (a c b : Nat) : ∀ n, swaps (a ^^^ c) b n % 2 = (swaps a b n + swaps c b n) % 2 := by
  intro n
  induction n with
  | zero => rfl
  | succ n ih =>
    simp only [swaps]
    by_cases h : bit b n = 1
    · simp only [if_pos h]
      have := pc_xor (a / 2 ^ (n + 1)) (c / 2 ^ (n + 1))
      rw [xor_div]
      omega
    · simp only [if_neg h]; omega
theorem swaps_right (a b c : Nat) : ∀ n, swaps a (b ^^^ c) n % 2 = (swaps a b n + swaps a c n) % 2 := by
  intro n
  induction n with
  | zero => rfl
  | succ n ih =>
    simp only [swaps]
    rw [bit_xor]
    have h1 := bit_le b n
    have h2 := bit_le c n
    rcases (show bit b n = 0 ∨ bit b n = 1 by omega) with e1 | e1 <;> rcases (show bit c n = 0 ∨ bit c n = 1 by omega) with e2 | e2 <;> simp [e1, e2] <;> omega
/-- 1 or -1: the sign of a number of exchanges. -/
def sg (k : Nat) : Int := if k % 2 = 1 then -1 else 1
theorem sg_add (k l : Nat) : sg (k + l) = sg k * sg l := by
  unfold sg
  rcases Nat.mod_two_eq_zero_or_one k with h | h <;> rcases Nat.mod_two_eq_zero_or_one l with h' | h' <;> simp [Nat.add_mod, h, h']
theorem sg_congr {k l : Nat} (h : k % 2 = l % 2) : sg k = sg l := by unfold sg; rw [h]
/-- The product of the first i squares that both masks have, as an integer. -/
def comZ (sq : List Int) (a b : Nat) : Nat → Int
  | 0 => 1
  | i + 1 => comZ sq a b i * (if bit b i = 1 ∧ bit a i = 1 then sq.getD i 0 else 1)
theorem common_comZ (p : Int) (sq : List Int) (a b : Nat) : ∀ i, common p sq a b i % p = comZ sq a b i % p := by
  intro i
  induction i with
  | zero => rfl
  | succ i ih =>
    simp only [common, comZ]
    split
    · rw [Int.emod_emod_of_dvd _ (Int.dvd_refl p), Int.mul_emod, ih, ← Int.mul_emod]
    · rw [Int.mul_one, ih]
theorem comZ_symm (sq : List Int) (a b : Nat) : ∀ i, comZ sq a b i = comZ sq b a i := by
  intro i
  induction i with
  | zero => rfl
  | succ i ih => simp only [comZ]; rw [ih]; congr 1; simp only [And.comm]
theorem comZ_cocycle (sq : List Int) (a b c : Nat) : ∀ i, comZ sq a b i * comZ sq (a ^^^ b) c i = comZ sq b c i * comZ sq a (b ^^^ c) i := by
  intro i
  induction i with
  | zero => rfl
  | succ i ih =>
    simp only [comZ]
    rw [bit_xor, bit_xor]
    have key : ∀ X Y Z W s t u v : Int, X * Y = Z * W → s * t = u * v → (X * s) * (Y * t) = (Z * u) * (W * v) := fun X Y Z W s t u v h1 h2 => by
      rw [show (X * s) * (Y * t) = (X * Y) * (s * t) by rw [Int.mul_assoc, Int.mul_left_comm s, ← Int.mul_assoc], h1, h2]
      rw [Int.mul_assoc, Int.mul_left_comm W, ← Int.mul_assoc]
    refine key _ _ _ _ _ _ _ _ ih ?_
    have h1 := bit_le a i
    have h2 := bit_le b i
    have h3 := bit_le c i
    rcases (show bit a i = 0 ∨ bit a i = 1 by omega) with e1 | e1 <;> rcases (show bit b i = 0 ∨ bit b i = 1 by omega) with e2 | e2 <;> rcases (show bit c i = 0 ∨ bit c i = 1 by omega) with e3 | e3 <;> simp [e1, e2, e3]
/-- The number by which the product of two blades is that of their different bits, as an integer. -/
def facZ (sq : List Int) (a b : Nat) : Int := sg (swaps a b sq.length) * comZ sq a b sq.length
theorem fac_facZ (p : Int) (sq : List Int) (a b : Nat) : fac p sq a b % p = facZ sq a b % p := by
  unfold fac facZ sg
  split
  · rw [Int.emod_emod_of_dvd _ (Int.dvd_refl p), Int.neg_mul, Int.one_mul, ← Int.zero_sub, ← Int.zero_sub, Int.sub_emod, common_comZ, ← Int.sub_emod]
  · rw [Int.one_mul, common_comZ]
theorem facZ_cocycle (sq : List Int) (a b c : Nat) : facZ sq a b * facZ sq (a ^^^ b) c = facZ sq b c * facZ sq a (b ^^^ c) := by
  unfold facZ
  have hs : sg (swaps a b sq.length) * sg (swaps (a ^^^ b) c sq.length) = sg (swaps b c sq.length) * sg (swaps a (b ^^^ c) sq.length) := by
    rw [← sg_add, ← sg_add]
    apply sg_congr
    have h1 := swaps_left a b c sq.length
    have h2 := swaps_right a b c sq.length
    omega
  have hc := comZ_cocycle sq a b c sq.length
  have key : ∀ X Y Z W s t u v : Int, X * Y = Z * W → s * t = u * v → (X * s) * (Y * t) = (Z * u) * (W * v) := fun X Y Z W s t u v h1 h2 => by
    rw [show (X * s) * (Y * t) = (X * Y) * (s * t) by rw [Int.mul_assoc, Int.mul_left_comm s, ← Int.mul_assoc], h1, h2]
    rw [Int.mul_assoc, Int.mul_left_comm W, ← Int.mul_assoc]
  exact key _ _ _ _ _ _ _ _ hs hc
theorem xor_self_left (a b : Nat) : a ^^^ (a ^^^ b) = b := by rw [← Nat.xor_assoc, Nat.xor_self, Nat.zero_xor]
theorem xor_self_right (a b : Nat) : (b ^^^ a) ^^^ a = b := by rw [Nat.xor_assoc, Nat.xor_self, Nat.xor_zero]
theorem sumTo_xor {n : Nat} (f : Nat → Int) {c : Nat} (hc : c < pw n) : sumTo (pw n) f = sumTo (pw n) fun a => f (a ^^^ c) := by
  have h : ∀ b, b < pw n → f b = sumTo (pw n) fun a => if a ^^^ c = b then f b else 0 := fun b hb => by
    rw [sumTo_one (b ^^^ c) (xor_lt hb hc) fun i _ hne => if_neg fun e => hne (by rw [← e, xor_self_right]), if_pos (xor_self_right c b)]
  rw [sumTo_congr h, sumTo_comm]
  refine sumTo_congr fun a ha => ?_
  rw [sumTo_one (a ^^^ c) (xor_lt ha hc) fun i _ hne => if_neg fun e => hne e.symm, if_pos rfl]
theorem sumTo_mul_right (n : Nat) (f : Nat → Int) (c : Int) : sumTo n (fun i => f i * c) = sumTo n f * c := by
  rw [Int.mul_comm, ← sumTo_mul]
  exact sumTo_congr fun i _ => Int.mul_comm _ _
/-- The product of multivectors over the integers, at place m. -/
def mulZ (sq : List Int) (x y : Nat → Int) (m : Nat) : Int := sumTo (pw sq.length) fun a => x a * y (a ^^^ m) * facZ sq a (a ^^^ m)
theorem mulZ_assoc (sq : List Int) (x y z : Nat → Int) {m : Nat} (hm : m < pw sq.length) : mulZ sq (mulZ sq x y) z m = mulZ sq x (mulZ sq y z) m := by
  unfold mulZ
  rw [sumTo_congr (g := fun c => sumTo (pw sq.length) fun a => x a * y (a ^^^ c) * facZ sq a (a ^^^ c) * (z (c ^^^ m) * facZ sq c (c ^^^ m))) fun c _ => by
    rw [sumTo_mul_right, Int.mul_assoc], sumTo_comm]
  refine sumTo_congr fun a ha => ?_
  rw [sumTo_xor _ ha, ← sumTo_mul, ← sumTo_mul_right]
  refine sumTo_congr fun b hb => ?_
  have e1 : a ^^^ (b ^^^ a) = b := by rw [Nat.xor_comm b, xor_self_left]
  have e2 : (b ^^^ a) ^^^ m = b ^^^ (a ^^^ m) := Nat.xor_assoc _ _ _
  rw [e1, e2]
  have h := facZ_cocycle sq a b (b ^^^ (a ^^^ m))
  rw [xor_self_left, Nat.xor_comm a b] at h
  calc x a * y b * facZ sq a b * (z (b ^^^ (a ^^^ m)) * facZ sq (b ^^^ a) (b ^^^ (a ^^^ m)))
      = x a * y b * z (b ^^^ (a ^^^ m)) * (facZ sq a b * facZ sq (b ^^^ a) (b ^^^ (a ^^^ m))) := by
        rw [Int.mul_assoc (x a * y b), Int.mul_left_comm (facZ sq a b), ← Int.mul_assoc]
    _ = x a * y b * z (b ^^^ (a ^^^ m)) * (facZ sq b (b ^^^ (a ^^^ m)) * facZ sq a (a ^^^ m)) := by rw [h]
    _ = _ := by
        rw [← Int.mul_assoc, Int.mul_assoc (x a), Int.mul_assoc (x a)]
theorem mulZ_cg (p : Int) (sq : List Int) {x x' y y' : Nat → Int} (hx : ∀ a, a < pw sq.length → x a % p = x' a % p) (hy : ∀ a, a < pw sq.length → y a % p = y' a % p) {m : Nat} (hm : m < pw sq.length) : mulZ sq x y m % p = mulZ sq x' y' m % p := by
  unfold mulZ
  refine sumTo_mod p fun a ha => ?_
  have h1 := hx a ha
  have h2 := hy _ (xor_lt ha hm)
  rw [Int.mul_emod, Int.mul_emod (x a), h1, h2, ← Int.mul_emod (x' a), ← Int.mul_emod]
structure Cl (p : Int) (sq : List Int) where
  l : List Int
  len : l.length = pw sq.length
  nums : NumsL p l
  pos : 0 < p
section
variable {p : Int} {sq : List Int}
/-- The number at a place. -/
def Cl.co (x : Cl p sq) (m : Nat) : Int := x.l.getD m 0
theorem Cl.ext {x y : Cl p sq} (h : x.l = y.l) : x = y := by
  cases x; cases y; cases h; rfl
theorem Cl.co_small (x : Cl p sq) (m : Nat) : 0 ≤ x.co m ∧ x.co m < p := x.nums.getD x.pos m
theorem Cl.co_mod (x : Cl p sq) (m : Nat) : x.co m % p = x.co m := Int.emod_eq_of_lt (x.co_small m).1 (x.co_small m).2
theorem Cl.same {x y : Cl p sq} (h : ∀ m, m < pw sq.length → x.co m % p = y.co m % p) : x = y := by
  refine Cl.ext (list_ext_getD 0 (by rw [x.len, y.len]) fun m hm => ?_)
  have := h m (by rw [← x.len]; exact hm)
  rwa [x.co_mod, y.co_mod] at this
/-- The multivector with these numbers. -/
def Cl.of (hp : 0 < p) (f : Nat → Int) : Cl p sq := ⟨tab (pw sq.length) fun m => f m % p, tab_len _ _, NumsL.tab fun _ _ => ⟨Int.emod_nonneg _ (by omega), Int.emod_lt_of_pos _ hp⟩, hp⟩
theorem Cl.of_co (hp : 0 < p) (f : Nat → Int) {m : Nat} (hm : m < pw sq.length) : (Cl.of hp f : Cl p sq).co m = f m % p := tab_getD hm 0
theorem Cl.of_cg (hp : 0 < p) (f : Nat → Int) {m : Nat} (hm : m < pw sq.length) : (Cl.of hp f : Cl p sq).co m % p = f m % p := by rw [Cl.of_co hp f hm, Int.emod_emod_of_dvd _ (Int.dvd_refl p)]
instance : Mul (Cl p sq) := ⟨fun x y => Cl.of x.pos (mulZ sq x.co y.co)⟩
instance : Add (Cl p sq) := ⟨fun x y => Cl.of x.pos fun m => x.co m + y.co m⟩
instance : Neg (Cl p sq) := ⟨fun x => Cl.of x.pos fun m => -(x.co m)⟩
instance : HMul Int (Cl p sq) (Cl p sq) := ⟨fun k x => Cl.of x.pos fun m => k * x.co m⟩
theorem Cl.mul_co (x y : Cl p sq) {m : Nat} (hm : m < pw sq.length) : (x * y).co m % p = mulZ sq x.co y.co m % p := Cl.of_cg _ _ hm
theorem Cl.add_co (x y : Cl p sq) {m : Nat} (hm : m < pw sq.length) : (x + y).co m % p = (x.co m + y.co m) % p := Cl.of_cg _ _ hm
theorem Cl.sm_co (k : Int) (x : Cl p sq) {m : Nat} (hm : m < pw sq.length) : (k * x).co m % p = (k * x.co m) % p := Cl.of_cg _ _ hm
theorem Cl.mul_assoc (x y z : Cl p sq) : x * y * z = x * (y * z) := Cl.same fun m hm => by
  rw [Cl.mul_co _ _ hm, Cl.mul_co _ _ hm, mulZ_cg p sq (fun a ha => Cl.mul_co x y ha) (fun _ _ => rfl) hm, mulZ_assoc sq _ _ _ hm]
  exact mulZ_cg p sq (fun _ _ => rfl) (fun a ha => (Cl.mul_co y z ha).symm) hm
theorem Cl.add_mul (x y z : Cl p sq) : (x + y) * z = x * z + y * z := Cl.same fun m hm => by
  rw [Cl.mul_co _ _ hm, mulZ_cg p sq (fun a ha => Cl.add_co x y ha) (fun _ _ => rfl) hm, Cl.add_co _ _ hm, Int.add_emod, Cl.mul_co _ _ hm, Cl.mul_co _ _ hm, ← Int.add_emod]
  unfold mulZ
  rw [← sumTo_add]
  congr 1
  exact sumTo_congr fun a _ => by rw [Int.add_mul, Int.add_mul]
theorem Cl.mul_add (x y z : Cl p sq) : x * (y + z) = x * y + x * z := Cl.same fun m hm => by
  rw [Cl.mul_co _ _ hm, mulZ_cg p sq (fun _ _ => rfl) (fun a ha => Cl.add_co y z ha) hm, Cl.add_co _ _ hm, Int.add_emod, Cl.mul_co _ _ hm, Cl.mul_co _ _ hm, ← Int.add_emod]
  unfold mulZ
  rw [← sumTo_add]
  congr 1
  exact sumTo_congr fun a _ => by rw [Int.mul_add, Int.add_mul]
theorem Cl.sm_mul (k : Int) (x y : Cl p sq) : (k * x) * y = k * (x * y) := Cl.same fun m hm => by
  rw [Cl.mul_co _ _ hm, mulZ_cg p sq (fun a ha => Cl.sm_co k x ha) (fun _ _ => rfl) hm, Cl.sm_co _ _ hm, Int.mul_emod k, Cl.mul_co _ _ hm, ← Int.mul_emod]
  unfold mulZ
  rw [← sumTo_mul]
  congr 1
  exact sumTo_congr fun a _ => by rw [Int.mul_assoc, Int.mul_assoc, Int.mul_assoc]
theorem Cl.add_comm (x y : Cl p sq) : x + y = y + x := Cl.same fun m hm => by rw [Cl.add_co _ _ hm, Cl.add_co _ _ hm, Int.add_comm]
theorem Cl.add_assoc (x y z : Cl p sq) : x + y + z = x + (y + z) := Cl.same fun m hm => by
  rw [Cl.add_co _ _ hm, Cl.add_co _ _ hm, Int.add_emod, Cl.add_co _ _ hm, ← Int.add_emod, Int.add_emod (x.co m), Cl.add_co _ _ hm, ← Int.add_emod, Int.add_assoc]
/-- The numbers of a list, and no more than there are places. -/
def Cl.zero (hp : 0 < p) : Cl p sq := Cl.of hp fun _ => 0
theorem Cl.add_zero (x : Cl p sq) (hp : 0 < p) : x + Cl.zero hp = x := Cl.same fun m hm => by
  rw [Cl.add_co _ _ hm, Int.add_emod]; unfold Cl.zero; rw [Cl.of_cg _ _ hm, ← Int.add_emod, Int.add_zero]
/-- The multivector 1. -/
def Cl.one (hp : 0 < p) : Cl p sq := Cl.of hp fun m => if m = 0 then 1 else 0
theorem Cl.one_co (hp : 0 < p) {m : Nat} (hm : m < pw sq.length) : (Cl.one hp : Cl p sq).co m % p = (if m = 0 then 1 else 0) % p := Cl.of_cg _ _ hm
theorem swaps_zero_right (a : Nat) : ∀ n, swaps a 0 n = 0 := by
  intro n
  induction n with
  | zero => rfl
  | succ n ih => simp [swaps, ih, bit_zero]
theorem swaps_zero_left (b : Nat) : ∀ n, swaps 0 b n = 0 := by
  intro n
  induction n with
  | zero => rfl
  | succ n ih => simp [swaps, ih, pc_zero]
theorem comZ_zero_left (sq : List Int) (b : Nat) : ∀ n, comZ sq 0 b n = 1 := by
  intro n
  induction n with
  | zero => rfl
  | succ n ih => simp [comZ, ih, bit_zero]
theorem facZ_zero_left (sq : List Int) (b : Nat) : facZ sq 0 b = 1 := by unfold facZ; rw [swaps_zero_left, comZ_zero_left]; rfl
theorem facZ_zero_right (sq : List Int) (a : Nat) : facZ sq a 0 = 1 := by unfold facZ; rw [swaps_zero_right, comZ_symm, comZ_zero_left]; rfl
theorem mulZ_one_left (sq : List Int) (x : Nat → Int) (m : Nat) : mulZ sq (fun m => if m = 0 then 1 else 0) x m = x m := by
  unfold mulZ
  rw [sumTo_one 0 (pw_pos _) fun i _ h => by dsimp only; rw [if_neg h, Int.zero_mul, Int.zero_mul]]
  dsimp only
  rw [if_pos rfl, Nat.zero_xor, facZ_zero_left, Int.one_mul, Int.mul_one]
theorem mulZ_one_right (sq : List Int) (x : Nat → Int) {m : Nat} (hm : m < pw sq.length) : mulZ sq x (fun m => if m = 0 then 1 else 0) m = x m := by
  unfold mulZ
  rw [sumTo_one m hm fun i _ h => by dsimp only; rw [if_neg (fun e => h (by have := (xor_eq_iff i m 0).1 e; rw [this, Nat.xor_zero])), Int.mul_zero, Int.zero_mul]]
  dsimp only
  rw [Nat.xor_self, if_pos rfl, facZ_zero_right, Int.mul_one, Int.mul_one]
theorem Cl.one_mul (hp : 0 < p) (x : Cl p sq) : Cl.one hp * x = x := Cl.same fun m hm => by
  rw [Cl.mul_co _ _ hm, mulZ_cg p sq (fun a ha => Cl.one_co hp ha) (fun _ _ => rfl) hm, mulZ_one_left]
theorem Cl.mul_one (hp : 0 < p) (x : Cl p sq) : x * Cl.one hp = x := Cl.same fun m hm => by
  rw [Cl.mul_co _ _ hm, mulZ_cg p sq (fun _ _ => rfl) (fun a ha => Cl.one_co hp ha) hm, mulZ_one_right sq _ hm]
theorem mulL_co {n : Nat} (hn : sq.length = n) {xs ys : List Int} (hx : xs.length = pw n) (hy : ys.length = pw n) {m : Nat} (hm : m < pw n) : (mulL p sq xs ys).getD m 0 % p = mulZ sq (fun a => xs.getD a 0) (fun a => ys.getD a 0) m % p := by
  subst hn
  unfold mulL
  rw [prodL_getD p sq _ xs ys _ m hx hy hm, Int.emod_emod_of_dvd _ (Int.dvd_refl p)]
  unfold mulZ
  refine sumTo_mod p fun a _ => ?_
  unfold term
  rw [if_pos rfl, Int.mul_emod, fac_facZ, ← Int.mul_emod]
theorem Cl.mul_l (x y : Cl p sq) : (x * y).l = mulL p sq x.l y.l := by
  refine list_ext_getD 0 (by rw [(x * y).len, mulL_len, x.len]) fun m hm => ?_
  rw [(x * y).len] at hm
  have h1 := (x * y).co_mod m
  have h2 := Cl.mul_co x y hm
  have h3 := mulL_co (p := p) rfl x.len y.len hm
  have h4 := (mulL_nums x.pos sq x.l y.l).getD x.pos m
  rw [Int.emod_eq_of_lt h4.1 h4.2] at h3
  rw [h3]
  rw [h1] at h2
  exact h2
theorem Cl.one_l (hp : 2 ≤ p) : (Cl.one (by omega) : Cl p sq).l = bladeL sq.length 0 := by
  refine list_ext_getD 0 (by rw [Cl.len, bladeL_len]) fun m hm => ?_
  rw [Cl.len] at hm
  rw [bladeL_getD _ _ _ hm]
  show (Cl.one _ : Cl p sq).co m = _
  unfold Cl.one
  rw [Cl.of_co _ _ hm]
  by_cases h : m = 0
  · rw [if_pos h, if_pos h.symm, Int.emod_eq_of_lt (by omega) (by omega)]
  · rw [if_neg h, if_neg (fun e => h e.symm), Int.zero_emod]
theorem Cl.sm_l (x : Cl p sq) (k : Int) : (k * x).l = scaleL p x.l k := by
  refine list_ext_getD 0 (by rw [Cl.len, scaleL_len, x.len]) fun m hm => ?_
  rw [Cl.len] at hm
  rw [scaleL_getD _ (by rw [x.len]; exact hm)]
  have h1 := (k * x).co_mod m
  rw [Cl.sm_co _ _ hm, Int.mul_comm] at h1
  exact h1.symm
end
end Go.Proofs.YticofgmmjecleaaGreatDoor
namespace Go.Proofs.YticofgmmjecleaaGreatDoor
open Go
/-- A '*' between a digit and an 'e'; q: the byte ahead. -/
def starF : UInt8 → By → By
  | _, [] => []
  | q, c :: r => (if c = 101 ∧ 48 ≤ q.toNat ∧ q.toNat ≤ 57 then [42] else []) ++ c :: starF c r
def lastB (q : UInt8) (a : By) : UInt8 := (q :: a).getLast (by simp)
theorem starF_app : ∀ (a b : By) (q : UInt8), starF q (a ++ b) = starF q a ++ starF (lastB q a) b
  | [], b, q => rfl
  | c :: r, b, q => by
    show (if c = 101 ∧ 48 ≤ q.toNat ∧ q.toNat ≤ 57 then [42] else []) ++ c :: starF c (r ++ b) = ((if c = 101 ∧ 48 ≤ q.toNat ∧ q.toNat ≤ 57 then [42] else []) ++ c :: starF c r) ++ starF (lastB q (c :: r)) b
    rw [starF_app r b c, List.append_assoc, List.cons_append]
    rfl
theorem starF_head {c : UInt8} (hc : c ≠ 101) (q : UInt8) (r : By) : starF q (c :: r) = c :: starF c r := by
  show (if c = 101 ∧ _ then [42] else []) ++ _ = _
  rw [if_neg (fun h => hc h.1)]; rfl
theorem starF_none : ∀ {t : By} (q : UInt8), (∀ b ∈ t, b ≠ 101) → starF q t = t
  | [], _, _ => rfl
  | c :: r, q, h => by rw [starF_head (h c (by simp)), starF_none c fun b hb => h b (List.mem_cons_of_mem c hb)]
/-- The sign of a number and its number without it. -/
def negA (p a : Int) : Bool := decide ((p - 1) / 2 < a)
def absA (p a : Int) : Int := if negA p a = true then p - a else a
theorem abs_all : ([3, 5, 7, 11, 13].all fun p : Nat => (List.range p).all fun a => txtN p a == (if negA p a = true then [45] else []) ++ [UInt8.ofNat (48 + (absA p a).toNat)] && decide (0 ≤ absA p a ∧ absA p a ≤ 6) && (a == 0 || decide (1 ≤ absA p a))) = true := by decide +kernel
theorem abs_facts {p : Int} (hP : isP p = true) {a : Int} (h0 : 0 < a) (h1 : a < p) : ∃ k : Nat, absA p a = k ∧ 1 ≤ k ∧ k ≤ 6 ∧ txtN p a = (if negA p a = true then [45] else []) ++ [UInt8.ofNat (48 + k)] := by
  obtain ⟨q, rfl, hq⟩ := isP_list hP
  have h := List.all_eq_true.1 (List.all_eq_true.1 abs_all q hq) a.toNat (List.mem_range.2 (by omega))
  rw [Bool.and_eq_true, Bool.and_eq_true, Bool.or_eq_true, beq_iff_eq, decide_eq_true_eq, beq_iff_eq, decide_eq_true_eq] at h
  rw [show ((a.toNat : Nat) : Int) = a by omega] at h
  obtain ⟨⟨g1, g2⟩, g3⟩ := h
  have g4 : 1 ≤ absA q a := by rcases g3 with g3 | g3 <;> omega
  exact ⟨(absA q a).toNat, by omega, by omega, by omega, g1⟩
/-- The body of a term with '*'. -/
def bodS (n m k : Nat) : By := if m = 0 then [UInt8.ofNat (48 + k)] else if k = 1 then nameL n m else UInt8.ofNat (48 + k) :: 42 :: nameL n m
theorem dig_val {k : Nat} (hk : k ≤ 6) : (UInt8.ofNat (48 + k)).toNat = 48 + k := by rw [UInt8.toNat_ofNat']; omega
theorem dig_inj {j k : Nat} (hj : j ≤ 6) (hk : k ≤ 6) (h : UInt8.ofNat (48 + j) = UInt8.ofNat (48 + k)) : j = k := by
  have := congrArg UInt8.toNat h
  rw [dig_val hj, dig_val hk] at this; omega
theorem name_form {n m : Nat} (hn : n ≤ 6) (hm : m ≠ 0) : ∃ ds : By, nameL n m = 101 :: ds ∧ ∀ b ∈ ds, 48 ≤ b.toNat ∧ b.toNat ≤ 57 := by
  obtain ⟨ds, e, h⟩ := nameTo_form m n hn
  exact ⟨ds, by unfold nameL; rw [if_neg hm]; exact e, h⟩
theorem ds_no {ds : By} (h : ∀ b ∈ ds, 48 ≤ b.toNat ∧ b.toNat ≤ 57) : ∀ b ∈ ds, b ≠ 101 := fun b hb e => by
  have := h b hb
  rw [e] at this
  revert this; decide
/-- A term with '*'. -/
theorem star_term {p : Int} (hP : isP p = true) {n m : Nat} (hn : n ≤ 6) {a : Int} (h0 : 0 < a) (h1 : a < p) {k : Nat} (hk : absA p a = k) (q : UInt8) (hq : ¬ (48 ≤ q.toNat ∧ q.toNat ≤ 57)) :
    starF q (termL p n m a) = (if negA p a = true then [45] else []) ++ bodS n m k := by
  obtain ⟨k', hk', k1, k6, ht⟩ := abs_facts hP h0 h1
  obtain rfl : k = k' := by omega
  have hd := dig_val k6
  have hne : ∀ c : UInt8, c.toNat < 48 ∨ 57 < c.toNat → UInt8.ofNat (48 + k) ≠ c := fun c hc e => by
    rw [← e, hd] at hc; omega
  unfold termL bodS
  by_cases hm : m = 0
  · rw [if_pos hm, if_pos hm, ht]
    refine starF_none q fun b hb => ?_
    rcases List.mem_append.1 hb with h | h
    · split at h
      · rw [List.mem_singleton.1 h]; decide
      · cases h
    · rw [List.mem_singleton.1 h]; exact hne 101 (by decide)
  · rw [if_neg hm, if_neg hm]
    obtain ⟨ds, e, hds⟩ := name_form hn hm
    rw [e]
    have hnd := starF_none (t := ds) 101 (ds_no hds)
    have hname : ∀ q' : UInt8, ¬ (48 ≤ q'.toNat ∧ q'.toNat ≤ 57) → starF q' (101 :: ds) = 101 :: ds := fun q' h => by
      show (if (101 : UInt8) = 101 ∧ _ then [42] else []) ++ 101 :: starF 101 ds = _
      rw [if_neg (fun hh => h hh.2), hnd]; rfl
    have hdn : ∀ q' : UInt8, starF q' (UInt8.ofNat (48 + k) :: 101 :: ds) = UInt8.ofNat (48 + k) :: 42 :: 101 :: ds := fun q' => by
      rw [starF_head (hne 101 (by decide))]
      show _ :: ((if (101 : UInt8) = 101 ∧ 48 ≤ (UInt8.ofNat (48 + k)).toNat ∧ (UInt8.ofNat (48 + k)).toNat ≤ 57 then [42] else []) ++ 101 :: starF 101 ds) = _
      rw [if_pos ⟨rfl, by omega, by omega⟩, hnd]; rfl
    unfold numP
    rw [ht]
    cases hneg : negA p a
    · simp only [Bool.false_eq_true, if_false, List.nil_append]
      by_cases hk1 : k = 1
      · subst hk1
        rw [if_pos (show ([UInt8.ofNat (48 + 1)] : By) = [49] from rfl), if_pos rfl]
        exact hname q hq
      · have e1 : ([UInt8.ofNat (48 + k)] : By) ≠ [49] := fun e => by
          injection e with e
          have : UInt8.ofNat (48 + k) = UInt8.ofNat (48 + 1) := e
          exact hk1 (dig_inj k6 (by omega) this)
        have e2 : ([UInt8.ofNat (48 + k)] : By) ≠ [45, 49] := fun e => by injection e with _ e; cases e
        rw [if_neg e1, if_neg e2, if_neg hk1]
        exact hdn q
    · simp only [if_true, List.singleton_append]
      have e0 : (45 :: [UInt8.ofNat (48 + k)] : By) ≠ [49] := fun e => by injection e with _ e; cases e
      rw [if_neg e0]
      by_cases hk1 : k = 1
      · subst hk1
        rw [if_pos (show (45 :: [UInt8.ofNat (48 + 1)] : By) = [45, 49] from rfl), if_pos rfl]
        show starF q (45 :: 101 :: ds) = _
        rw [starF_head (by decide), hname 45 (by decide)]
      · have e2 : (45 :: [UInt8.ofNat (48 + k)] : By) ≠ [45, 49] := fun e => by
          injection e with _ e
          injection e with e
          have : UInt8.ofNat (48 + k) = UInt8.ofNat (48 + 1) := e
          exact hk1 (dig_inj k6 (by omega) this)
        rw [if_neg e2, if_neg hk1]
        show starF q (45 :: UInt8.ofNat (48 + k) :: 101 :: ds) = _
        rw [starF_head (by decide), hdn 45]
/-- What follows a term: nothing or a sign. -/
def sgnd : By → Prop
  | [] => True
  | c :: _ => c = 43 ∨ c = 45
theorem dig_stop {ds s : By} (h : ∀ b ∈ ds, 48 ≤ b.toNat ∧ b.toNat ≤ 57) (hs : ∀ c r, s = c :: r → decs.contains c = false) : digL (ds ++ s) = ds ∧ resL (ds ++ s) = s := by
  have hmem : ∀ b : UInt8, 48 ≤ b.toNat ∧ b.toNat ≤ 57 → decs.contains b = true := by
    intro b hb
    have hx : b = UInt8.ofNat b.toNat := (UInt8.ofNat_toNat).symm
    obtain ⟨j, hj⟩ : ∃ j : Nat, b.toNat = 48 + j := ⟨b.toNat - 48, by omega⟩
    have hj9 : j ≤ 9 := by omega
    rw [hx, hj]
    clear hx hj hb
    revert j
    decide
  unfold digL resL
  induction ds with
  | nil =>
    cases s with
    | nil => exact ⟨rfl, rfl⟩
    | cons c r =>
      have := hs c r rfl
      rw [List.nil_append, List.takeWhile_cons, List.dropWhile_cons, this]
      exact ⟨rfl, rfl⟩
  | cons c r ih =>
    have hc := hmem c (h c (by simp))
    obtain ⟨i1, i2⟩ := ih fun b hb => h b (List.mem_cons_of_mem c hb)
    rw [List.cons_append, List.takeWhile_cons, List.dropWhile_cons, hc]
    simp only [if_true]
    exact ⟨by rw [i1], i2⟩
end Go.Proofs.YticofgmmjecleaaGreatDoor

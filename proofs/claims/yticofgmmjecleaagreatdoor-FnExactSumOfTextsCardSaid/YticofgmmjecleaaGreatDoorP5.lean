/-
  LawSumOfTexts: part 5 of the texts that the proof needs. No condition.
-/
import Derived.Test.YticofgmmjecleaaGreatDoorP4
namespace Go.Proofs.YticofgmmjecleaaGreatDoor
open Go Go.RowKit
/-- What a part of the reference's reader leaves. -/
def RsPost (P : Int) (sq : List Int) (A : Option Addr) (n c : Nat) (m : Md) (T : By) (i : Nat) (R : Nat) (w : World) (e : Ending) (w' : World) : Prop :=
  ∃ (A' : Option Addr) (c' : Nat) (x : List Int) (i' : Nat) (b : Bool), e = .returned (.slice A' (pw n) c') ∧ RsB w' R P A n c T i' b ∧ MuL P n x ∧ Own w' w.heap.size 2 A' (pw n) c' (ints x) ∧ i ≤ i' ∧ i' ≤ T.length ∧ evE P sq n m (T.drop i) = (if b = true then none else some (x, T.drop i')) ∧ Ex R w w'
/-- Function F reads a part of kind m at place i. -/
def RsC (F : FuncId) (P : Int) (sq : List Int) (A : Option Addr) (n c : Nat) (m : Md) (T : By) (i : Nat) : Prop :=
  ∀ (R : Nat) (w : World), (∀ a, A = some a → a.block < R) → Rd w A n (ints sq) → RsB w R P A n c T i false → Calls Tryz.prog F #[.pointer (some ⟨R, 0, none⟩)] w (RsPost P sq A n c m T i R w)
theorem plusL_less (P : Int) (x y : List Int) : plusL P x y (P - 1) = plusL P x y (-1) := by
  unfold plusL tab
  refine List.map_congr_left fun i _ => ?_
  generalize x.getD i 0 = a
  generalize y.getD i 0 = b
  rw [show a + (P - 1) * b = a + -1 * b + P * b by grind, Int.add_mul_emod_self_left]
theorem nxt_pk_none {cs T : By} {i : Nat} (h0 : cs.contains 0 = false) (h : cs.contains (pk (T.drop i)) = false) : nxt cs (T.drop i) = none := by rw [nxt_of_pk h0, h]; rfl
theorem nxt_pk_some {cs T : By} {i : Nat} {d : UInt8} (h0 : cs.contains 0 = false) (hd : pk (T.drop i) = d) (h : cs.contains d = true) : nxt cs (T.drop i) = some (d, T.drop (i + 1)) := by rw [nxt_of_pk h0, hd, h, drop_tail]; rfl
theorem u8_ne {d e : UInt8} (h : d ≠ e) : d.toNat ≠ e.toNat := fun h2 => h (UInt8.toNat_inj.1 h2)
/-- Block R is a reader of the reference; as long as b is false, at place i. -/
def SRs (R : Nat) (P : Int) (A : Option Addr) (n c : Nat) (T : By) (i : Nat) (b : Bool) (w : World) : Prop := ∃ i' b', RsB w R P A n c T i' b' ∧ (b = false → i' = i ∧ b' = false)
theorem SRs.below {R : Nat} {P : Int} {A : Option Addr} {n c : Nat} {T : By} {i : Nat} {b : Bool} {w w' : World} (h : SRs R P A n c T i b w) (f : Bool) (hb : Below w.heap.size w w') : SRs R P A n c T i (b || f) w' := by
  obtain ⟨t', b', hk, hf⟩ := h
  exact ⟨t', b', hk.below hb hk.lt, fun e => hf (by cases b <;> simp_all)⟩
theorem SRs.rel {R : Nat} {P : Int} {A : Option Addr} {n c : Nat} {T : By} {i : Nat} {w' : World} (b : Bool) {j k : Nat} (e : j = k) (h : ∃ i b, RsB w' R P A n c T i b) : SRs R P A n c T i (b || j == k) w' := by
  obtain ⟨t', b', hk⟩ := h
  exact ⟨t', b', hk, fun e2 => by subst e; simp at e2⟩
/-- What a part of the reference's reader leaves, as a value. -/
def VSk (R : Nat) (P : Int) (sq : List Int) (A : Option Addr) (n c : Nat) (m : Md) (T : By) (i : Nat) (B : Nat) (f : List Int → List Int) : VP :=
  ⟨fun v w => ∃ (A' : Option Addr) (c' : Nat) (x : List Int) (i' : Nat) (b : Bool), v = .slice A' (pw n) c' ∧ RsB w R P A n c T i' b ∧ MuL P n x ∧ Own w B 2 A' (pw n) c' (ints (f x)) ∧ i ≤ i' ∧ i' ≤ T.length ∧ evE P sq n m (T.drop i) = (if b = true then none else some (x, T.drop i')),
   fun _ _ _ ⟨A', c', x, t', b, e, hk, hx, ho, hl, hev⟩ hb => ⟨A', c', x, t', b, e, hk.below hb hk.lt, hx, ho.below hb, hl, hev⟩⟩
set_option maxHeartbeats 12800000 in
set_option maxRecDepth 8000 in
theorem ssum_any (P : Int) (sq : List Int) (A : Option Addr) (n c : Nat) (T : By) (i : Nat) (hp : 2 ≤ P) (hp2 : P ≤ 13) (hn : n ≤ 6) (hT : T.length ≤ 1048576) (hi : i ≤ T.length)
    (hpr : ∀ i' : Nat, i ≤ i' → i' ≤ T.length → RsC 119 P sq A n c .prod T i') : RsC 88 P sq A n c .sum T i := by
  intro R w hA hr hk
  have hpn : pw n ≤ 64 := pw_le hn
  have HG := hk.lt
  have h0 := hpr i (Nat.le_refl _) hi R w hA hr hk
  obtain ⟨V, hV⟩ : ∃ V, V = evE P sq n .sum (T.drop i) := ⟨_, rfl⟩
  have HV := Lib.hid hV
  clear hV
  go_enter Tryz.func88, Tryz.ntmps88
  go_wp2_with fail
  refine h0.mono ?_
  rintro e w1 ⟨A1, c1, x1, i1, b1, rfl, hk1, hx1, hO1, hl1, hl1b, hev1, hE1⟩
  have hs1 : V = if b1 = true then none else evE P sq n (.sumL x1) (T.drop i1) := by
    rw [HV.out, evE_sum_eq, hev1]; cases b1 <;> rfl
  clear h0 hev1
  go_wp2
  go_loopw [3] (fun out wr => ∃ (A1 : Option Addr) (c1 : Nat) (x1 : List Int) (i1 : Nat) (b1 : Bool), out = .slice A1 (pw n) c1 ∧ RsB wr R P A n c T i1 b1 ∧ MuL P n x1 ∧ Own wr w.heap.size 2 A1 (pw n) c1 (ints x1) ∧ i ≤ i1 ∧ i1 ≤ T.length ∧ V = (if b1 = true then none else evE P sq n (.sumL x1) (T.drop i1)) ∧ Ex R w wr) (fun _ wr => match wr.cell? ⟨R, 3, none⟩ with | some (.int _ x) => T.length - x.toNat | _ => 0)
  case atStart => exact ⟨A1, c1, x1, i1, b1, rfl, hk1, hx1, hO1, hl1, hl1b, hs1, hE1⟩
  case round =>
    clear hk1 hx1 hO1 hl1 hl1b hs1 hE1
    obtain ⟨A1, c1, x1, i1, b1, rfl, hk1, hx1, hO1, hl1, hl1b, hs1, hE1⟩ := hrel
    have q4 := hk1.cell 4
    have HS := Lib.hid hs1
    clear hs1
    cases b1 with
    | true =>
      go_wp2
      go_ret
      exact ⟨A1, c1, x1, i1, true, rfl, hk1, hx1, hO1, hl1, hl1b, HV.out.symm.trans HS.out, hE1⟩
    | false =>
      have hpk := peek_any P A n c T i1 false R wr hT hk1
      obtain ⟨d, hd⟩ : ∃ d, d = pk (T.drop i1) := ⟨_, rfl⟩
      rw [← hd] at hpk
      have hsz : (match wr.cell? ⟨R, 3, none⟩ with | some (.int _ x) => T.length - x.toNat | _ => 0) = T.length - i1 := by rw [hk1.cell 3]; rfl
      rw [hsz]
      clear hsz
      by_cases h43 : d = 43
      · subst h43
        have hnx := nxt_pk_some (cs := [43, 45]) (by decide) hd.symm (by decide)
        have hlt : i1 < T.length := pk_ne_end (by rw [← hd]; decide)
        have HS2 : Hid (V = (evE P sq n .prod (T.drop (i1 + 1))).bind fun r => evE P sq n (.sumL (plusL P x1 r.1 1)) r.2) := Lib.hid (by
          rw [HS.out]
          exact evE_sumL_some x1 hnx)
        clear HS hnx hd
        have HMU := Lib.hid hx1
        clear hx1
        go_wp2_with fail
        refine hpk.mono ?_
        rintro e w2 ⟨rfl, hbp⟩
        have hk2 := hk1.below hbp hk1.lt
        have hO2 := hO1.below hbp
        have hE2 := hE1.then hbp (Nat.le_of_lt HG)
        clear hpk hbp hk1 hO1 hE1 q4
        have f3 := hk2.frozen 3
        have q3 := hk2.cell 3
        have W1 : wrap64 ((i1 : Int) + 1) = (i1 : Int) + 1 := by unfold wrap64; omega
        have hk3 : RsB (w2.setCell ⟨R, 3, none⟩ (.int .i64 ((i1 : Int) + 1))) R P A n c T (i1 + 1) false := hk2.set_ 3 _
        have hE3 := hE2.trans (Ex.set hk2.lt 3 (.int .i64 ((i1 : Int) + 1)))
        have hcall := hpr (i1 + 1) (by omega) (by omega) R _ hA (hr.ex hE3 hA) hk3
        have hO3 := hO2.ex (Ex.set hk2.lt 3 (.int .i64 ((i1 : Int) + 1))) hk2 (by decide)
        go_wp2_with fail
        refine hcall.mono ?_
        rintro e w4 ⟨A2, c2, x2, i2, b2, rfl, hk4, hx2, hO4, hl2, hl3, hev2, hE4⟩
        have hO5 := hO3.ex hE4 hk3 (by decide)
        have hO6 := hO4.base (B' := w.heap.size) hE3.size
        have hE5 := hE3.trans hE4
        have HEV := Lib.hid hev2
        clear hcall hO2 hO3 hE2 hE3 hE4 hk2 hk3 hO4 hev2 f3 q3
        obtain ⟨q0, q1, q2, q3, q4⟩ := hk4.five
        go_wp2_with fail
        refine (l02Plus_any P A1 (pw n) c1 A2 (pw n) c2 1 x1 x2 w4 hp hp2 (by omega) (Nat.le_refl _) hO5.rd HMU.out.2 hO6.rd hx2.2 (by omega) (by omega)).mono ?_
        rintro e w5 ⟨A3, c3, rfl, hM⟩
        have hk5 := hk4.below hM.b hk4.lt
        have hE7 := hE5.then hM.b (Nat.le_of_lt HG)
        have hO7 := hM.2.base (B' := w.heap.size) hE5.size
        clear hE5 hO5 hO6 hk4 hM q0 q1 q2 q3 q4
        go_wp2
        go_roundw
        case rel =>
          refine ⟨A3, c3, _, i2, b2, rfl, hk5, ⟨(plusL_len _ _ _ _).trans HMU.out.1, plusL_nums (by omega) _ _ _⟩, hO7, by omega, hl3, ?_, hE7⟩
          rw [HS2.out, HEV.out]
          cases b2 <;> rfl
        case measure =>
          rw [hk5.cell 3]
          show T.length - (i2 : Int).toNat < _
          omega
      by_cases h45 : d = 45
      · subst h45
        have hnx := nxt_pk_some (cs := [43, 45]) (by decide) hd.symm (by decide)
        have hlt : i1 < T.length := pk_ne_end (by rw [← hd]; decide)
        have HS2 : Hid (V = (evE P sq n .prod (T.drop (i1 + 1))).bind fun r => evE P sq n (.sumL (plusL P x1 r.1 (-1))) r.2) := Lib.hid (by
          rw [HS.out]
          exact evE_sumL_some x1 hnx)
        clear HS hnx hd h43
        have HMU := Lib.hid hx1
        clear hx1
        go_wp2_with fail
        refine hpk.mono ?_
        rintro e w2 ⟨rfl, hbp⟩
        have hk2 := hk1.below hbp hk1.lt
        have hO2 := hO1.below hbp
        have hE2 := hE1.then hbp (Nat.le_of_lt HG)
        clear hpk hbp hk1 hO1 hE1 q4
        have f3 := hk2.frozen 3
        have q3 := hk2.cell 3
        have W1 : wrap64 ((i1 : Int) + 1) = (i1 : Int) + 1 := by unfold wrap64; omega
        have hk3 : RsB (w2.setCell ⟨R, 3, none⟩ (.int .i64 ((i1 : Int) + 1))) R P A n c T (i1 + 1) false := hk2.set_ 3 _
        have hE3 := hE2.trans (Ex.set hk2.lt 3 (.int .i64 ((i1 : Int) + 1)))
        have hcall := hpr (i1 + 1) (by omega) (by omega) R _ hA (hr.ex hE3 hA) hk3
        have hO3 := hO2.ex (Ex.set hk2.lt 3 (.int .i64 ((i1 : Int) + 1))) hk2 (by decide)
        go_wp2_with fail
        refine hcall.mono ?_
        rintro e w4 ⟨A2, c2, x2, i2, b2, rfl, hk4, hx2, hO4, hl2, hl3, hev2, hE4⟩
        have hO5 := hO3.ex hE4 hk3 (by decide)
        have hO6 := hO4.base (B' := w.heap.size) hE3.size
        have hE5 := hE3.trans hE4
        have HEV := Lib.hid hev2
        clear hcall hO2 hO3 hE2 hE3 hE4 hk2 hk3 hO4 hev2 f3 q3
        obtain ⟨q0, q1, q2, q3, q4⟩ := hk4.five
        have WP : IntKind.i64.wrap (P - 1) = P - 1 := by rw [IntWalk.i64_left]; unfold wrap64; omega
        clear q0 q1 q2 q3 q4
        go_wp2_with fail
        refine wp_obs 14 [[], [0], [0, 1], [0, 1, 2], [0, 1, 2, 3], [], [], [], [7], [7, 8], [7, 8, 9], [7, 8, 9, 10], [7, 8, 9, 10, 11], [0, 1, 2, 3, 4, 5, 6, 7, 8, 9, 10, 11, 12], [0, 1, 2, 3, 4, 5, 6, 7, 8, 9, 10, 11, 12, 13]] [VIs (.pointer (some ⟨R, 0, none⟩)), VIs (.pointer (some ⟨R, 0, none⟩)), VIs (.pointer (some ⟨R, 0, none⟩)), VIs (.pointer (some ⟨R, 0, none⟩)), VIs (.int .i64 (P)), VIs (.slice A1 (pw n) c1), VIs (.slice A2 (pw n) c2), VIs (.pointer (some ⟨R, 0, none⟩)), VIs (.pointer (some ⟨R, 0, none⟩)), VIs (.pointer (some ⟨R, 0, none⟩)), VIs (.pointer (some ⟨R, 0, none⟩)), VIs (.int .i64 (P)), VIs (.int .i64 (P - 1)), VSl w4 (pw n) (plusL P x1 x2 (P - 1))] (fun w' => RsB w' R P A n c T i2 b2 ∧ Below w4.heap.size w4 w') (by kernel_rfl) (by kernel_rfl) (fun _ _ h hb => ⟨h.1.below hb h.1.lt, h.2.trans (hb.mono h.2.size)⟩) (⟨hk4.below (Below.refl _ _).drew hk4.lt, (Below.refl _ _).drew⟩) (fun x => ?_)
        refine obs_step (Eq.trans (by simp only [List.getElem?_toArray, List.getElem?_cons_zero]; exact rfl) rfl) rfl (fun w' hS hV K hK => ?_) ?_
        · obtain ⟨q0, q1, q2, q3, q4⟩ := hS.1.five
          go_simp
          exact hK.out _ _ _ rfl rfl rfl (Below.refl _ _)
        simp only [List.setIfInBounds_toArray, List.set_cons_zero, List.set_cons_succ]
        refine obs_step (Eq.trans (by simp only [List.getElem?_toArray, List.getElem?_cons_succ, List.getElem?_cons_zero]; exact rfl) rfl) rfl (fun w' hS hV K hK => ?_) ?_
        · have e0 : x 0 = (.pointer (some ⟨R, 0, none⟩)) := hV 0 (by decide)
          obtain ⟨q0, q1, q2, q3, q4⟩ := hS.1.five
          go_simp
          exact hK.out _ _ _ rfl rfl rfl (Below.refl _ _)
        simp only [List.setIfInBounds_toArray, List.set_cons_zero, List.set_cons_succ]
        refine obs_step (Eq.trans (by simp only [List.getElem?_toArray, List.getElem?_cons_succ, List.getElem?_cons_zero]; exact rfl) rfl) rfl (fun w' hS hV K hK => ?_) ?_
        · have e0 : x 0 = (.pointer (some ⟨R, 0, none⟩)) := hV 0 (by decide)
          have e1 : x 1 = (.pointer (some ⟨R, 0, none⟩)) := hV 1 (by decide)
          obtain ⟨q0, q1, q2, q3, q4⟩ := hS.1.five
          go_simp
          exact hK.out _ _ _ rfl rfl rfl (Below.refl _ _)
        simp only [List.setIfInBounds_toArray, List.set_cons_zero, List.set_cons_succ]
        refine obs_step (Eq.trans (by simp only [List.getElem?_toArray, List.getElem?_cons_succ, List.getElem?_cons_zero]; exact rfl) rfl) rfl (fun w' hS hV K hK => ?_) ?_
        · have e0 : x 0 = (.pointer (some ⟨R, 0, none⟩)) := hV 0 (by decide)
          have e1 : x 1 = (.pointer (some ⟨R, 0, none⟩)) := hV 1 (by decide)
          have e2 : x 2 = (.pointer (some ⟨R, 0, none⟩)) := hV 2 (by decide)
          obtain ⟨q0, q1, q2, q3, q4⟩ := hS.1.five
          go_simp
          exact hK.out _ _ _ rfl rfl rfl (Below.refl _ _)
        simp only [List.setIfInBounds_toArray, List.set_cons_zero, List.set_cons_succ]
        refine obs_step (Eq.trans (by simp only [List.getElem?_toArray, List.getElem?_cons_succ, List.getElem?_cons_zero]; exact rfl) rfl) rfl (fun w' hS hV K hK => ?_) ?_
        · have e0 : x 0 = (.pointer (some ⟨R, 0, none⟩)) := hV 0 (by decide)
          have e1 : x 1 = (.pointer (some ⟨R, 0, none⟩)) := hV 1 (by decide)
          have e2 : x 2 = (.pointer (some ⟨R, 0, none⟩)) := hV 2 (by decide)
          have e3 : x 3 = (.pointer (some ⟨R, 0, none⟩)) := hV 3 (by decide)
          obtain ⟨q0, q1, q2, q3, q4⟩ := hS.1.five
          go_simp
          exact hK.out _ _ _ rfl rfl rfl (Below.refl _ _)
        simp only [List.setIfInBounds_toArray, List.set_cons_zero, List.set_cons_succ]
        refine obs_step (Eq.trans (by simp only [List.getElem?_toArray, List.getElem?_cons_succ, List.getElem?_cons_zero]; exact rfl) rfl) rfl (fun w' hS hV K hK => ?_) ?_
        · obtain ⟨q0, q1, q2, q3, q4⟩ := hS.1.five
          go_simp
          exact hK.out _ _ _ rfl rfl rfl (Below.refl _ _)
        simp only [List.setIfInBounds_toArray, List.set_cons_zero, List.set_cons_succ]
        refine obs_step (Eq.trans (by simp only [List.getElem?_toArray, List.getElem?_cons_succ, List.getElem?_cons_zero]; exact rfl) rfl) rfl (fun w' hS hV K hK => ?_) ?_
        · obtain ⟨q0, q1, q2, q3, q4⟩ := hS.1.five
          go_simp
          exact hK.out _ _ _ rfl rfl rfl (Below.refl _ _)
        simp only [List.setIfInBounds_toArray, List.set_cons_zero, List.set_cons_succ]
        refine obs_step (Eq.trans (by simp only [List.getElem?_toArray, List.getElem?_cons_succ, List.getElem?_cons_zero]; exact rfl) rfl) rfl (fun w' hS hV K hK => ?_) ?_
        · obtain ⟨q0, q1, q2, q3, q4⟩ := hS.1.five
          go_simp
          exact hK.out _ _ _ rfl rfl rfl (Below.refl _ _)
        simp only [List.setIfInBounds_toArray, List.set_cons_zero, List.set_cons_succ]
        refine obs_step (Eq.trans (by simp only [List.getElem?_toArray, List.getElem?_cons_succ, List.getElem?_cons_zero]; exact rfl) rfl) rfl (fun w' hS hV K hK => ?_) ?_
        · have e7 : x 7 = (.pointer (some ⟨R, 0, none⟩)) := hV 7 (by decide)
          obtain ⟨q0, q1, q2, q3, q4⟩ := hS.1.five
          go_simp
          exact hK.out _ _ _ rfl rfl rfl (Below.refl _ _)
        simp only [List.setIfInBounds_toArray, List.set_cons_zero, List.set_cons_succ]
        refine obs_step (Eq.trans (by simp only [List.getElem?_toArray, List.getElem?_cons_succ, List.getElem?_cons_zero]; exact rfl) rfl) rfl (fun w' hS hV K hK => ?_) ?_
        · have e7 : x 7 = (.pointer (some ⟨R, 0, none⟩)) := hV 7 (by decide)
          have e8 : x 8 = (.pointer (some ⟨R, 0, none⟩)) := hV 8 (by decide)
          obtain ⟨q0, q1, q2, q3, q4⟩ := hS.1.five
          go_simp
          exact hK.out _ _ _ rfl rfl rfl (Below.refl _ _)
        simp only [List.setIfInBounds_toArray, List.set_cons_zero, List.set_cons_succ]
        refine obs_step (Eq.trans (by simp only [List.getElem?_toArray, List.getElem?_cons_succ, List.getElem?_cons_zero]; exact rfl) rfl) rfl (fun w' hS hV K hK => ?_) ?_
        · have e7 : x 7 = (.pointer (some ⟨R, 0, none⟩)) := hV 7 (by decide)
          have e8 : x 8 = (.pointer (some ⟨R, 0, none⟩)) := hV 8 (by decide)
          have e9 : x 9 = (.pointer (some ⟨R, 0, none⟩)) := hV 9 (by decide)
          obtain ⟨q0, q1, q2, q3, q4⟩ := hS.1.five
          go_simp
          exact hK.out _ _ _ rfl rfl rfl (Below.refl _ _)
        simp only [List.setIfInBounds_toArray, List.set_cons_zero, List.set_cons_succ]
        refine obs_step (Eq.trans (by simp only [List.getElem?_toArray, List.getElem?_cons_succ, List.getElem?_cons_zero]; exact rfl) rfl) rfl (fun w' hS hV K hK => ?_) ?_
        · have e7 : x 7 = (.pointer (some ⟨R, 0, none⟩)) := hV 7 (by decide)
          have e8 : x 8 = (.pointer (some ⟨R, 0, none⟩)) := hV 8 (by decide)
          have e9 : x 9 = (.pointer (some ⟨R, 0, none⟩)) := hV 9 (by decide)
          have e10 : x 10 = (.pointer (some ⟨R, 0, none⟩)) := hV 10 (by decide)
          obtain ⟨q0, q1, q2, q3, q4⟩ := hS.1.five
          go_simp
          exact hK.out _ _ _ rfl rfl rfl (Below.refl _ _)
        simp only [List.setIfInBounds_toArray, List.set_cons_zero, List.set_cons_succ]
        refine obs_step (Eq.trans (by simp only [List.getElem?_toArray, List.getElem?_cons_succ, List.getElem?_cons_zero]; exact rfl) rfl) rfl (fun w' hS hV K hK => ?_) ?_
        · have e7 : x 7 = (.pointer (some ⟨R, 0, none⟩)) := hV 7 (by decide)
          have e8 : x 8 = (.pointer (some ⟨R, 0, none⟩)) := hV 8 (by decide)
          have e9 : x 9 = (.pointer (some ⟨R, 0, none⟩)) := hV 9 (by decide)
          have e10 : x 10 = (.pointer (some ⟨R, 0, none⟩)) := hV 10 (by decide)
          have e11 : x 11 = (.int .i64 (P)) := hV 11 (by decide)
          obtain ⟨q0, q1, q2, q3, q4⟩ := hS.1.five
          go_simp
          exact hK.out _ _ _ rfl rfl rfl (Below.refl _ _)
        simp only [List.setIfInBounds_toArray, List.set_cons_zero, List.set_cons_succ]
        refine obs_step (Eq.trans (by simp only [List.getElem?_toArray, List.getElem?_cons_succ, List.getElem?_cons_zero]; exact rfl) rfl) rfl (fun w' hS hV K hK => ?_) ?_
        · have e0 : x 0 = (.pointer (some ⟨R, 0, none⟩)) := hV 0 (by decide)
          have e1 : x 1 = (.pointer (some ⟨R, 0, none⟩)) := hV 1 (by decide)
          have e2 : x 2 = (.pointer (some ⟨R, 0, none⟩)) := hV 2 (by decide)
          have e3 : x 3 = (.pointer (some ⟨R, 0, none⟩)) := hV 3 (by decide)
          have e4 : x 4 = (.int .i64 (P)) := hV 4 (by decide)
          have e5 : x 5 = (.slice A1 (pw n) c1) := hV 5 (by decide)
          have e6 : x 6 = (.slice A2 (pw n) c2) := hV 6 (by decide)
          have e7 : x 7 = (.pointer (some ⟨R, 0, none⟩)) := hV 7 (by decide)
          have e8 : x 8 = (.pointer (some ⟨R, 0, none⟩)) := hV 8 (by decide)
          have e9 : x 9 = (.pointer (some ⟨R, 0, none⟩)) := hV 9 (by decide)
          have e10 : x 10 = (.pointer (some ⟨R, 0, none⟩)) := hV 10 (by decide)
          have e11 : x 11 = (.int .i64 (P)) := hV 11 (by decide)
          have e12 : x 12 = (.int .i64 (P - 1)) := hV 12 (by decide)
          obtain ⟨q0, q1, q2, q3, q4⟩ := hS.1.five
          go_simp
          refine (l02Plus_any P A1 (pw n) c1 A2 (pw n) c2 (P - 1) x1 x2 w' hp hp2 (by omega) (Nat.le_refl _) (hO5.rd.below hS.2) HMU.out.2 (hO6.rd.below hS.2) hx2.2 (by omega) (by omega)).mono ?_
          rintro e v1 ⟨A9, c9, rfl, hM⟩
          exact hK.out _ _ _ rfl rfl ⟨A9, c9, rfl, hM.after hS.2⟩ hM.b
        simp only [List.setIfInBounds_toArray, List.set_cons_zero, List.set_cons_succ]
        refine fun w' hS hV => ?_
        have e0 : x 0 = (.pointer (some ⟨R, 0, none⟩)) := hV 0 (by decide)
        have e1 : x 1 = (.pointer (some ⟨R, 0, none⟩)) := hV 1 (by decide)
        have e2 : x 2 = (.pointer (some ⟨R, 0, none⟩)) := hV 2 (by decide)
        have e3 : x 3 = (.pointer (some ⟨R, 0, none⟩)) := hV 3 (by decide)
        have e4 : x 4 = (.int .i64 (P)) := hV 4 (by decide)
        have e5 : x 5 = (.slice A1 (pw n) c1) := hV 5 (by decide)
        have e6 : x 6 = (.slice A2 (pw n) c2) := hV 6 (by decide)
        have e7 : x 7 = (.pointer (some ⟨R, 0, none⟩)) := hV 7 (by decide)
        have e8 : x 8 = (.pointer (some ⟨R, 0, none⟩)) := hV 8 (by decide)
        have e9 : x 9 = (.pointer (some ⟨R, 0, none⟩)) := hV 9 (by decide)
        have e10 : x 10 = (.pointer (some ⟨R, 0, none⟩)) := hV 10 (by decide)
        have e11 : x 11 = (.int .i64 (P)) := hV 11 (by decide)
        have e12 : x 12 = (.int .i64 (P - 1)) := hV 12 (by decide)
        obtain ⟨A13, c13, e13, h13⟩ := hV 13 (by decide)
        simp only [e0, e1, e2, e3, e4, e5, e6, e7, e8, e9, e10, e11, e12, e13]
        clear e0 e1 e2 e3 e4 e5 e6 e7 e8 e9 e10 e11 e12 e13
        refine any_one (j := 14) (by kernel_rfl) (Eq.trans (by simp only [List.getElem?_toArray, List.getElem?_cons_succ, List.getElem?_cons_zero]; exact rfl) rfl) (fun K hK => ?_)
        go_simp
        refine hK.out _ _ (wpAny_done (by kernel_rfl) ?_ _)
        have hM := h13
        rw [plusL_less] at hM
        have hk5 := hS.1
        have hE7 := hE5.then hS.2 (Nat.le_of_lt HG)
        have hO7 := hM.2.base (B' := w.heap.size) hE5.size
        clear hE5 hO5 hO6 hk4 hM hS hV h13
        go_wp2
        go_roundw
        case rel =>
          refine ⟨A13, c13, _, i2, b2, rfl, hk5, ⟨(plusL_len _ _ _ _).trans HMU.out.1, plusL_nums (by omega) _ _ _⟩, hO7, by omega, hl3, ?_, hE7⟩
          rw [HS2.out, HEV.out]
          cases b2 <;> rfl
        case measure =>
          rw [hk5.cell 3]
          show T.length - (i2 : Int).toNat < _
          omega
      · have hnx := nxt_pk_none (cs := [43, 45]) (T := T) (i := i1) (by decide) (by rw [← hd]; simp [h43, h45])
        have e43 := u8_ne h43
        have e45 := u8_ne h45
        obtain ⟨z, hz⟩ : ∃ z : Nat, z = d.toNat := ⟨_, rfl⟩
        rw [← hz] at hpk e43 e45
        have c43 : ((z : Int) == 43) = false := by have : (43 : UInt8).toNat = 43 := rfl; simp; omega
        have c45 : ((z : Int) == 45) = false := by have : (45 : UInt8).toNat = 45 := rfl; simp; omega
        have n43 : ((z : Int) != 43) = true := by simp only [bne, c43]; rfl
        have n45 : ((z : Int) != 45) = true := by simp only [bne, c45]; rfl
        have HNX := Lib.hid hnx
        clear hz hd h43 h45 e43 e45 hnx
        go_wp2_with fail
        refine hpk.mono ?_
        rintro e w2 ⟨rfl, hbp⟩
        go_wp2
        go_ret
        exact ⟨A1, c1, x1, i1, false, rfl, hk1.below hbp hk1.lt, hx1, hO1.below hbp, hl1, hl1b, by rw [← HV.out, HS.out]; exact evE_sumL_none x1 HNX.out, hE1.then hbp (Nat.le_of_lt HG)⟩
set_option maxHeartbeats 12800000 in
set_option maxRecDepth 8000 in
theorem sprod_any (P : Int) (sq : List Int) (A : Option Addr) (n c : Nat) (T : By) (i : Nat) (hp : 2 ≤ P) (hp2 : P ≤ 13) (hn : n ≤ 6) (hT : T.length ≤ 1048576) (hi : i ≤ T.length) (hs : NumsL P sq)
    (hf : ∀ i' : Nat, i ≤ i' → i' ≤ T.length → RsC 144 P sq A n c .fac T i') : RsC 119 P sq A n c .prod T i := by
  intro R w hA hr hk
  have hpn : pw n ≤ 64 := pw_le hn
  have HG := hk.lt
  have h0 := hf i (Nat.le_refl _) hi R w hA hr hk
  obtain ⟨V, hV⟩ : ∃ V, V = evE P sq n .prod (T.drop i) := ⟨_, rfl⟩
  have HV := Lib.hid hV
  clear hV
  go_enter Tryz.func119, Tryz.ntmps119
  go_wp2_with fail
  refine h0.mono ?_
  rintro e w1 ⟨A1, c1, x1, i1, b1, rfl, hk1, hx1, hO1, hl1, hl1b, hev1, hE1⟩
  have hs1 : V = if b1 = true then none else evE P sq n (.prodL x1) (T.drop i1) := by
    rw [HV.out, evE_prod_eq, hev1]; cases b1 <;> rfl
  clear h0 hev1
  go_wp2
  go_loopw [3] (fun out wr => ∃ (A1 : Option Addr) (c1 : Nat) (x1 : List Int) (i1 : Nat) (b1 : Bool), out = .slice A1 (pw n) c1 ∧ RsB wr R P A n c T i1 b1 ∧ MuL P n x1 ∧ Own wr w.heap.size 2 A1 (pw n) c1 (ints x1) ∧ i ≤ i1 ∧ i1 ≤ T.length ∧ V = (if b1 = true then none else evE P sq n (.prodL x1) (T.drop i1)) ∧ Ex R w wr) (fun _ wr => match wr.cell? ⟨R, 3, none⟩ with | some (.int _ x) => T.length - x.toNat | _ => 0)
  case atStart => exact ⟨A1, c1, x1, i1, b1, rfl, hk1, hx1, hO1, hl1, hl1b, hs1, hE1⟩
  case round =>
    clear hk1 hx1 hO1 hl1 hl1b hs1 hE1
    obtain ⟨A1, c1, x1, i1, b1, rfl, hk1, hx1, hO1, hl1, hl1b, hs1, hE1⟩ := hrel
    have q4 := hk1.cell 4
    have HS := Lib.hid hs1
    clear hs1
    cases b1 with
    | true =>
      go_wp2
      go_ret
      exact ⟨A1, c1, x1, i1, true, rfl, hk1, hx1, hO1, hl1, hl1b, HV.out.symm.trans HS.out, hE1⟩
    | false =>
      have hpk := peek_any P A n c T i1 false R wr hT hk1
      obtain ⟨d, hd⟩ : ∃ d, d = pk (T.drop i1) := ⟨_, rfl⟩
      rw [← hd] at hpk
      have hsz : (match wr.cell? ⟨R, 3, none⟩ with | some (.int _ x) => T.length - x.toNat | _ => 0) = T.length - i1 := by rw [hk1.cell 3]; rfl
      rw [hsz]
      clear hsz
      by_cases h42 : d = 42
      · subst h42
        have hnx := nxt_pk_some (cs := [42, 94, 46]) (by decide) hd.symm (by decide)
        have hlt : i1 < T.length := pk_ne_end (by rw [← hd]; decide)
        have HS2 : Hid (V = (evE P sq n .fac (T.drop (i1 + 1))).bind fun r => evE P sq n (.prodL (mulL P sq x1 r.1)) r.2) := Lib.hid (by
          rw [HS.out]
          exact evE_prodL_some x1 hnx)
        clear HS hnx hd
        have HMU := Lib.hid hx1
        clear hx1
        go_wp2_with fail
        refine hpk.mono ?_
        rintro e w2 ⟨rfl, hbp⟩
        have hk2 := hk1.below hbp hk1.lt
        have hO2 := hO1.below hbp
        have hE2 := hE1.then hbp (Nat.le_of_lt HG)
        clear hpk hbp hk1 hO1 hE1 q4
        have f3 := hk2.frozen 3
        have q3 := hk2.cell 3
        have W1 : wrap64 ((i1 : Int) + 1) = (i1 : Int) + 1 := by unfold wrap64; omega
        have hk3 : RsB (w2.setCell ⟨R, 3, none⟩ (.int .i64 ((i1 : Int) + 1))) R P A n c T (i1 + 1) false := hk2.set_ 3 _
        have hE3 := hE2.trans (Ex.set hk2.lt 3 (.int .i64 ((i1 : Int) + 1)))
        have hcall := hf (i1 + 1) (by omega) (by omega) R _ hA (hr.ex hE3 hA) hk3
        have hO3 := hO2.ex (Ex.set hk2.lt 3 (.int .i64 ((i1 : Int) + 1))) hk2 (by decide)
        go_wp2_with fail
        refine hcall.mono ?_
        rintro e w4 ⟨A2, c2, x2, i2, b2, rfl, hk4, hx2, hO4, hl2, hl3, hev2, hE4⟩
        have hO5 := hO3.ex hE4 hk3 (by decide)
        have hO6 := hO4.base (B' := w.heap.size) hE3.size
        have hE5 := hE3.trans hE4
        have HEV := Lib.hid hev2
        clear hcall hO2 hO3 hE2 hE3 hE4 hk2 hk3 hO4 hev2 f3 q3
        obtain ⟨q0, q1, q2, q3, q4⟩ := hk4.five
        go_wp2_with fail
        refine (l04Times_any P A n c sq A1 c1 x1 A2 c2 x2 w4 hp hp2 hn (hr.ex hE5 hA) hs hO5.rd HMU.out.2 hO6.rd hx2.2).mono ?_
        rintro e w5 ⟨A3, c3, rfl, hM⟩
        have hk5 := hk4.below hM.b hk4.lt
        have hE7 := hE5.then hM.b (Nat.le_of_lt HG)
        have hO7 := hM.2.base (B' := w.heap.size) hE5.size
        clear hE5 hO5 hO6 hk4 hM q0 q1 q2 q3 q4
        go_wp2
        go_roundw
        case rel =>
          refine ⟨A3, c3, mulL P sq x1 x2, i2, b2, rfl, hk5, ⟨(mulL_len _ _ _ _).trans HMU.out.1, mulL_nums (by omega) _ _ _⟩, hO7, by omega, hl3, ?_, hE7⟩
          rw [HS2.out, HEV.out]
          cases b2 <;> rfl
        case measure =>
          rw [hk5.cell 3]
          show T.length - (i2 : Int).toNat < _
          omega
      by_cases h94 : d = 94
      · subst h94
        have hnx := nxt_pk_some (cs := [42, 94, 46]) (by decide) hd.symm (by decide)
        have hlt : i1 < T.length := pk_ne_end (by rw [← hd]; decide)
        have HS2 : Hid (V = (evE P sq n .fac (T.drop (i1 + 1))).bind fun r => evE P sq n (.prodL (wedgeL P sq x1 r.1)) r.2) := Lib.hid (by
          rw [HS.out]
          exact evE_prodL_some x1 hnx)
        clear HS hnx hd h42
        have HMU := Lib.hid hx1
        clear hx1
        go_wp2_with fail
        refine hpk.mono ?_
        rintro e w2 ⟨rfl, hbp⟩
        have hk2 := hk1.below hbp hk1.lt
        have hO2 := hO1.below hbp
        have hE2 := hE1.then hbp (Nat.le_of_lt HG)
        clear hpk hbp hk1 hO1 hE1 q4
        have f3 := hk2.frozen 3
        have q3 := hk2.cell 3
        have W1 : wrap64 ((i1 : Int) + 1) = (i1 : Int) + 1 := by unfold wrap64; omega
        have hk3 : RsB (w2.setCell ⟨R, 3, none⟩ (.int .i64 ((i1 : Int) + 1))) R P A n c T (i1 + 1) false := hk2.set_ 3 _
        have hE3 := hE2.trans (Ex.set hk2.lt 3 (.int .i64 ((i1 : Int) + 1)))
        have hcall := hf (i1 + 1) (by omega) (by omega) R _ hA (hr.ex hE3 hA) hk3
        have hO3 := hO2.ex (Ex.set hk2.lt 3 (.int .i64 ((i1 : Int) + 1))) hk2 (by decide)
        go_wp2_with fail
        refine hcall.mono ?_
        rintro e w4 ⟨A2, c2, x2, i2, b2, rfl, hk4, hx2, hO4, hl2, hl3, hev2, hE4⟩
        have hO5 := hO3.ex hE4 hk3 (by decide)
        have hO6 := hO4.base (B' := w.heap.size) hE3.size
        have hE5 := hE3.trans hE4
        have HEV := Lib.hid hev2
        clear hcall hO2 hO3 hE2 hE3 hE4 hk2 hk3 hO4 hev2 f3 q3
        obtain ⟨q0, q1, q2, q3, q4⟩ := hk4.five
        go_wp2_with fail
        refine (l05Wedge_any P A n c sq A1 c1 x1 A2 c2 x2 w4 hp hp2 hn (hr.ex hE5 hA) hs hO5.rd HMU.out.2 hO6.rd hx2.2).mono ?_
        rintro e w5 ⟨A3, c3, rfl, hM⟩
        have hk5 := hk4.below hM.b hk4.lt
        have hE7 := hE5.then hM.b (Nat.le_of_lt HG)
        have hO7 := hM.2.base (B' := w.heap.size) hE5.size
        clear hE5 hO5 hO6 hk4 hM q0 q1 q2 q3 q4
        go_wp2
        go_roundw
        case rel =>
          refine ⟨A3, c3, wedgeL P sq x1 x2, i2, b2, rfl, hk5, ⟨(wedgeL_len _ _ _ _).trans HMU.out.1, wedgeL_nums (by omega) _ _ _⟩, hO7, by omega, hl3, ?_, hE7⟩
          rw [HS2.out, HEV.out]
          cases b2 <;> rfl
        case measure =>
          rw [hk5.cell 3]
          show T.length - (i2 : Int).toNat < _
          omega
      by_cases h46 : d = 46
      · subst h46
        have hnx := nxt_pk_some (cs := [42, 94, 46]) (by decide) hd.symm (by decide)
        have hlt : i1 < T.length := pk_ne_end (by rw [← hd]; decide)
        have HS2 : Hid (V = (evE P sq n .fac (T.drop (i1 + 1))).bind fun r => evE P sq n (.prodL (contrL P sq x1 r.1)) r.2) := Lib.hid (by
          rw [HS.out]
          exact evE_prodL_some x1 hnx)
        clear HS hnx hd h42 h94
        have HMU := Lib.hid hx1
        clear hx1
        go_wp2_with fail
        refine hpk.mono ?_
        rintro e w2 ⟨rfl, hbp⟩
        have hk2 := hk1.below hbp hk1.lt
        have hO2 := hO1.below hbp
        have hE2 := hE1.then hbp (Nat.le_of_lt HG)
        clear hpk hbp hk1 hO1 hE1 q4
        have f3 := hk2.frozen 3
        have q3 := hk2.cell 3
        have W1 : wrap64 ((i1 : Int) + 1) = (i1 : Int) + 1 := by unfold wrap64; omega
        have hk3 : RsB (w2.setCell ⟨R, 3, none⟩ (.int .i64 ((i1 : Int) + 1))) R P A n c T (i1 + 1) false := hk2.set_ 3 _
        have hE3 := hE2.trans (Ex.set hk2.lt 3 (.int .i64 ((i1 : Int) + 1)))
        have hcall := hf (i1 + 1) (by omega) (by omega) R _ hA (hr.ex hE3 hA) hk3
        have hO3 := hO2.ex (Ex.set hk2.lt 3 (.int .i64 ((i1 : Int) + 1))) hk2 (by decide)
        go_wp2_with fail
        refine hcall.mono ?_
        rintro e w4 ⟨A2, c2, x2, i2, b2, rfl, hk4, hx2, hO4, hl2, hl3, hev2, hE4⟩
        have hO5 := hO3.ex hE4 hk3 (by decide)
        have hO6 := hO4.base (B' := w.heap.size) hE3.size
        have hE5 := hE3.trans hE4
        have HEV := Lib.hid hev2
        clear hcall hO2 hO3 hE2 hE3 hE4 hk2 hk3 hO4 hev2 f3 q3
        obtain ⟨q0, q1, q2, q3, q4⟩ := hk4.five
        go_wp2_with fail
        refine (l05Left_any P A n c sq A1 c1 x1 A2 c2 x2 w4 hp hp2 hn (hr.ex hE5 hA) hs hO5.rd HMU.out.2 hO6.rd hx2.2).mono ?_
        rintro e w5 ⟨A3, c3, rfl, hM⟩
        have hk5 := hk4.below hM.b hk4.lt
        have hE7 := hE5.then hM.b (Nat.le_of_lt HG)
        have hO7 := hM.2.base (B' := w.heap.size) hE5.size
        clear hE5 hO5 hO6 hk4 hM q0 q1 q2 q3 q4
        go_wp2
        go_roundw
        case rel =>
          refine ⟨A3, c3, contrL P sq x1 x2, i2, b2, rfl, hk5, ⟨(contrL_len _ _ _ _).trans HMU.out.1, contrL_nums (by omega) _ _ _⟩, hO7, by omega, hl3, ?_, hE7⟩
          rw [HS2.out, HEV.out]
          cases b2 <;> rfl
        case measure =>
          rw [hk5.cell 3]
          show T.length - (i2 : Int).toNat < _
          omega
      have hnx := nxt_pk_none (cs := [42, 94, 46]) (T := T) (i := i1) (by decide) (by rw [← hd]; simp [h42, h94, h46])
      have e42 := u8_ne h42
      have e94 := u8_ne h94
      have e46 := u8_ne h46
      obtain ⟨z, hz⟩ : ∃ z : Nat, z = d.toNat := ⟨_, rfl⟩
      rw [← hz] at hpk e42 e94 e46
      have c42 : ((z : Int) == 42) = false := by have : (42 : UInt8).toNat = 42 := rfl; simp; omega
      have c94 : ((z : Int) == 94) = false := by have : (94 : UInt8).toNat = 94 := rfl; simp; omega
      have c46 : ((z : Int) == 46) = false := by have : (46 : UInt8).toNat = 46 := rfl; simp; omega
      have n42 : ((z : Int) != 42) = true := by simp only [bne, c42]; rfl
      have n94 : ((z : Int) != 94) = true := by simp only [bne, c94]; rfl
      have n46 : ((z : Int) != 46) = true := by simp only [bne, c46]; rfl
      have HNX := Lib.hid hnx
      clear hz hd h42 h94 h46 e42 e94 e46 hnx
      go_wp2_with fail
      refine hpk.mono ?_
      rintro e w2 ⟨rfl, hbp⟩
      go_wp2
      go_ret
      exact ⟨A1, c1, x1, i1, false, rfl, hk1.below hbp hk1.lt, hx1, hO1.below hbp, hl1, hl1b, by rw [← HV.out, HS.out]; exact evE_prodL_none x1 HNX.out, hE1.then hbp (Nat.le_of_lt HG)⟩
set_option maxHeartbeats 12800000 in
set_option maxRecDepth 8000 in
theorem sfac_any (P : Int) (sq : List Int) (A : Option Addr) (n c : Nat) (T : By) (i : Nat) (hp : 2 ≤ P) (hp2 : P ≤ 13) (hn : n ≤ 6) (hT : T.length ≤ 1048576) (hi : i ≤ T.length)
    (hf : ∀ i' : Nat, i < i' → i' ≤ T.length → RsC 144 P sq A n c .fac T i') (hat : RsC 167 P sq A n c .atom T i) : RsC 144 P sq A n c .fac T i := by
  intro R w hA hr hk
  have hpn : pw n ≤ 64 := pw_le hn
  have HG := hk.lt
  have hpk := peek_any P A n c T i false R w hT hk
  obtain ⟨d, hd⟩ : ∃ d, d = pk (T.drop i) := ⟨_, rfl⟩
  rw [← hd] at hpk
  by_cases h45 : d = 45
  · subst h45
    have hnx := nxt_pk_some (cs := [45, 126]) (by decide) hd.symm (by decide)
    have hlt : i < T.length := pk_ne_end (by rw [← hd]; decide)
    have HN := Lib.hid (evE_fac_some (P := P) (sq := sq) (n := n) hnx)
    clear hat hnx hd
    have WP : IntKind.i64.wrap (P - 1) = P - 1 := by rw [IntWalk.i64_left]; unfold wrap64; omega
    go_enter Tryz.func144, Tryz.ntmps144
    go_wp2_with fail
    refine hpk.mono ?_
    rintro e w2 ⟨rfl, hbp⟩
    have hk2 := hk.below hbp hk.lt
    have hE2 := (Ex.refl R w).then hbp (Nat.le_of_lt HG)
    clear hpk hbp hk
    have f3 := hk2.frozen 3
    have q3 := hk2.cell 3
    have W1 : wrap64 ((i : Int) + 1) = (i : Int) + 1 := by unfold wrap64; omega
    have hk3 : RsB (w2.setCell ⟨R, 3, none⟩ (.int .i64 ((i : Int) + 1))) R P A n c T (i + 1) false := hk2.set_ 3 _
    have hE3 := hE2.trans (Ex.set hk2.lt 3 (.int .i64 ((i : Int) + 1)))
    go_wp2_with fail
    generalize w2.setCell ⟨R, 3, none⟩ (.int .i64 ((i : Int) + 1)) = w3 at hk3 hE3 ⊢
    clear f3 q3 hk2 hE2
    refine wp_obsK 15 (fun w w' => Ex R w w' ∧ ∃ i b, RsB w' R P A n c T i b) [[], [0], [0, 1], [0, 1, 2], [0, 1, 2, 3], [], [5], [], [7], [7, 8], [7, 8, 9], [7, 8, 9, 10], [7, 8, 9, 10, 11], [0, 1, 2, 3, 4, 5, 6, 7, 8, 9, 10, 11, 12], [0, 1, 2, 3, 4, 5, 6, 7, 8, 9, 10, 11, 12, 13]] [[], [], [], [], [], [], [99], [], [], [], [], [], [], [], []] (fun x => [VIs (.pointer (some ⟨R, 0, none⟩)), VIs (.pointer (some ⟨R, 0, none⟩)), VIs (.pointer (some ⟨R, 0, none⟩)), VIs (.pointer (some ⟨R, 0, none⟩)), VIs (.int .i64 (P)), VIs (.pointer (some ⟨R, 0, none⟩)), VSk R P sq A n c .fac T (i + 1) w.heap.size (fun x => x), VIs (.pointer (some ⟨R, 0, none⟩)), VIs (.pointer (some ⟨R, 0, none⟩)), VIs (.pointer (some ⟨R, 0, none⟩)), VIs (.pointer (some ⟨R, 0, none⟩)), VIs (.int .i64 (P)), VIs (.int .i64 (P - 1)), VSk R P sq A n c .fac T (i + 1) w.heap.size (fun x => scaleL P x (P - 1)), VSk R P sq A n c .fac T (i + 1) w.heap.size (fun x => scaleL P x (P - 1))]) 6 (fun b w' => SRs R P A n c T (i + 1) b w' ∧ Ex R w w') (by kernel_rfl) (by kernel_rfl) (fun x x' j hx => by
        rcases j with _ | _ | _ | _ | _ | _ | _ | _ | _ | _ | _ | _ | _ | _ | _ | j
        · rfl
        · rfl
        · rfl
        · rfl
        · rfl
        · rfl
        · rfl
        · rfl
        · rfl
        · rfl
        · rfl
        · rfl
        · rfl
        · rfl
        · rfl
        · rfl)
      (weak_ofR [0, 1, 2, 3, 4, 5, 7, 8, 9, 10, 11, 12] (by decide) (fun k hk x v w w' hp hr => by
        simp only [List.mem_cons, List.not_mem_nil, or_false] at hk
        rcases hk with rfl | rfl | rfl | rfl | rfl | rfl | rfl | rfl | rfl | rfl | rfl | rfl
        · exact hp
        · exact hp
        · exact hp
        · exact hp
        · exact hp
        · exact hp
        · exact hp
        · exact hp
        · exact hp
        · exact hp
        · exact hp
        · exact hp)) (fun j b _ w' h hst => hst.eitherK 6 (only_at (by decide)) (fun hb => ⟨h.1.below _ hb, h.2.then hb (Nat.le_of_lt HG)⟩) (fun e hr => ⟨SRs.rel b e hr.2, h.2.trans hr.1⟩)) (⟨⟨i + 1, false, hk3.below (Below.refl _ _).drew hk3.lt, fun _ => ⟨rfl, rfl⟩⟩, hE3.then (Below.refl _ _).drew (Nat.le_of_lt HG)⟩) (fun x => ?_)
    refine obs_stepK (Eq.trans (by simp only [List.getElem?_toArray, List.getElem?_cons_zero]; exact rfl) rfl) rfl (fun b w' hb0 hS hV K hK => ?_) ?_
    · obtain ⟨⟨ts, bs, hkk, hbb⟩, hEE⟩ := hS; obtain ⟨q0, q1, q2, q3, q4⟩ := hkk.five
      go_simp
      exact hK.out _ _ _ rfl rfl rfl (Below.refl _ _)
    simp only [List.setIfInBounds_toArray, List.set_cons_zero, List.set_cons_succ]
    refine obs_stepK (Eq.trans (by simp only [List.getElem?_toArray, List.getElem?_cons_succ, List.getElem?_cons_zero]; exact rfl) rfl) rfl (fun b w' hb0 hS hV K hK => ?_) ?_
    · have e0 : x 0 = (.pointer (some ⟨R, 0, none⟩)) := hV 0 (by decide)
      obtain ⟨⟨ts, bs, hkk, hbb⟩, hEE⟩ := hS; obtain ⟨q0, q1, q2, q3, q4⟩ := hkk.five
      go_simp
      exact hK.out _ _ _ rfl rfl rfl (Below.refl _ _)
    simp only [List.setIfInBounds_toArray, List.set_cons_zero, List.set_cons_succ]
    refine obs_stepK (Eq.trans (by simp only [List.getElem?_toArray, List.getElem?_cons_succ, List.getElem?_cons_zero]; exact rfl) rfl) rfl (fun b w' hb0 hS hV K hK => ?_) ?_
    · have e0 : x 0 = (.pointer (some ⟨R, 0, none⟩)) := hV 0 (by decide)
      have e1 : x 1 = (.pointer (some ⟨R, 0, none⟩)) := hV 1 (by decide)
      obtain ⟨⟨ts, bs, hkk, hbb⟩, hEE⟩ := hS; obtain ⟨q0, q1, q2, q3, q4⟩ := hkk.five
      go_simp
      exact hK.out _ _ _ rfl rfl rfl (Below.refl _ _)
    simp only [List.setIfInBounds_toArray, List.set_cons_zero, List.set_cons_succ]
    refine obs_stepK (Eq.trans (by simp only [List.getElem?_toArray, List.getElem?_cons_succ, List.getElem?_cons_zero]; exact rfl) rfl) rfl (fun b w' hb0 hS hV K hK => ?_) ?_
    · have e0 : x 0 = (.pointer (some ⟨R, 0, none⟩)) := hV 0 (by decide)
      have e1 : x 1 = (.pointer (some ⟨R, 0, none⟩)) := hV 1 (by decide)
      have e2 : x 2 = (.pointer (some ⟨R, 0, none⟩)) := hV 2 (by decide)
      obtain ⟨⟨ts, bs, hkk, hbb⟩, hEE⟩ := hS; obtain ⟨q0, q1, q2, q3, q4⟩ := hkk.five
      go_simp
      exact hK.out _ _ _ rfl rfl rfl (Below.refl _ _)
    simp only [List.setIfInBounds_toArray, List.set_cons_zero, List.set_cons_succ]
    refine obs_stepK (Eq.trans (by simp only [List.getElem?_toArray, List.getElem?_cons_succ, List.getElem?_cons_zero]; exact rfl) rfl) rfl (fun b w' hb0 hS hV K hK => ?_) ?_
    · have e0 : x 0 = (.pointer (some ⟨R, 0, none⟩)) := hV 0 (by decide)
      have e1 : x 1 = (.pointer (some ⟨R, 0, none⟩)) := hV 1 (by decide)
      have e2 : x 2 = (.pointer (some ⟨R, 0, none⟩)) := hV 2 (by decide)
      have e3 : x 3 = (.pointer (some ⟨R, 0, none⟩)) := hV 3 (by decide)
      obtain ⟨⟨ts, bs, hkk, hbb⟩, hEE⟩ := hS; obtain ⟨q0, q1, q2, q3, q4⟩ := hkk.five
      go_simp
      exact hK.out _ _ _ rfl rfl rfl (Below.refl _ _)
    simp only [List.setIfInBounds_toArray, List.set_cons_zero, List.set_cons_succ]
    refine obs_stepK (Eq.trans (by simp only [List.getElem?_toArray, List.getElem?_cons_succ, List.getElem?_cons_zero]; exact rfl) rfl) rfl (fun b w' hb0 hS hV K hK => ?_) ?_
    · obtain ⟨⟨ts, bs, hkk, hbb⟩, hEE⟩ := hS; obtain ⟨q0, q1, q2, q3, q4⟩ := hkk.five
      go_simp
      exact hK.out _ _ _ rfl rfl rfl (Below.refl _ _)
    simp only [List.setIfInBounds_toArray, List.set_cons_zero, List.set_cons_succ]
    refine obs_stepK (Eq.trans (by simp only [List.getElem?_toArray, List.getElem?_cons_succ, List.getElem?_cons_zero]; exact rfl) rfl) rfl (fun b w' hb0 hS hV K hK => ?_) ?_
    · have e5 : x 5 = (.pointer (some ⟨R, 0, none⟩)) := hV 5 (by decide)
      obtain ⟨⟨ts, bs, hkk, hbb⟩, hEE⟩ := hS; obtain ⟨q0, q1, q2, q3, q4⟩ := hkk.five
      obtain ⟨e8, e9⟩ := hbb (hb0 rfl)
      rw [e8, e9] at hkk
      go_simp
      refine (hf (i + 1) (by omega) (by omega) R w' hA (hr.ex hEE hA) hkk).mono ?_
      rintro e v1 ⟨A8, c8, x8, t8, b8, rfl, hk8, hx8, hO8, hl8, hl9, hev8, hE8⟩
      exact hK.out _ _ _ rfl rfl ⟨A8, c8, x8, t8, b8, rfl, hk8, hx8, hO8.base hEE.size, hl8, hl9, hev8⟩ (StepR.rel rfl ⟨hE8, t8, b8, hk8⟩)
    simp only [List.setIfInBounds_toArray, List.set_cons_zero, List.set_cons_succ]
    refine obs_stepK (Eq.trans (by simp only [List.getElem?_toArray, List.getElem?_cons_succ, List.getElem?_cons_zero]; exact rfl) rfl) rfl (fun b w' hb0 hS hV K hK => ?_) ?_
    · obtain ⟨⟨ts, bs, hkk, hbb⟩, hEE⟩ := hS; obtain ⟨q0, q1, q2, q3, q4⟩ := hkk.five
      go_simp
      exact hK.out _ _ _ rfl rfl rfl (Below.refl _ _)
    simp only [List.setIfInBounds_toArray, List.set_cons_zero, List.set_cons_succ]
    refine obs_stepK (Eq.trans (by simp only [List.getElem?_toArray, List.getElem?_cons_succ, List.getElem?_cons_zero]; exact rfl) rfl) rfl (fun b w' hb0 hS hV K hK => ?_) ?_
    · have e7 : x 7 = (.pointer (some ⟨R, 0, none⟩)) := hV 7 (by decide)
      obtain ⟨⟨ts, bs, hkk, hbb⟩, hEE⟩ := hS; obtain ⟨q0, q1, q2, q3, q4⟩ := hkk.five
      go_simp
      exact hK.out _ _ _ rfl rfl rfl (Below.refl _ _)
    simp only [List.setIfInBounds_toArray, List.set_cons_zero, List.set_cons_succ]
    refine obs_stepK (Eq.trans (by simp only [List.getElem?_toArray, List.getElem?_cons_succ, List.getElem?_cons_zero]; exact rfl) rfl) rfl (fun b w' hb0 hS hV K hK => ?_) ?_
    · have e7 : x 7 = (.pointer (some ⟨R, 0, none⟩)) := hV 7 (by decide)
      have e8 : x 8 = (.pointer (some ⟨R, 0, none⟩)) := hV 8 (by decide)
      obtain ⟨⟨ts, bs, hkk, hbb⟩, hEE⟩ := hS; obtain ⟨q0, q1, q2, q3, q4⟩ := hkk.five
      go_simp
      exact hK.out _ _ _ rfl rfl rfl (Below.refl _ _)
    simp only [List.setIfInBounds_toArray, List.set_cons_zero, List.set_cons_succ]
    refine obs_stepK (Eq.trans (by simp only [List.getElem?_toArray, List.getElem?_cons_succ, List.getElem?_cons_zero]; exact rfl) rfl) rfl (fun b w' hb0 hS hV K hK => ?_) ?_
    · have e7 : x 7 = (.pointer (some ⟨R, 0, none⟩)) := hV 7 (by decide)
      have e8 : x 8 = (.pointer (some ⟨R, 0, none⟩)) := hV 8 (by decide)
      have e9 : x 9 = (.pointer (some ⟨R, 0, none⟩)) := hV 9 (by decide)
      obtain ⟨⟨ts, bs, hkk, hbb⟩, hEE⟩ := hS; obtain ⟨q0, q1, q2, q3, q4⟩ := hkk.five
      go_simp
      exact hK.out _ _ _ rfl rfl rfl (Below.refl _ _)
    simp only [List.setIfInBounds_toArray, List.set_cons_zero, List.set_cons_succ]
    refine obs_stepK (Eq.trans (by simp only [List.getElem?_toArray, List.getElem?_cons_succ, List.getElem?_cons_zero]; exact rfl) rfl) rfl (fun b w' hb0 hS hV K hK => ?_) ?_
    · have e7 : x 7 = (.pointer (some ⟨R, 0, none⟩)) := hV 7 (by decide)
      have e8 : x 8 = (.pointer (some ⟨R, 0, none⟩)) := hV 8 (by decide)
      have e9 : x 9 = (.pointer (some ⟨R, 0, none⟩)) := hV 9 (by decide)
      have e10 : x 10 = (.pointer (some ⟨R, 0, none⟩)) := hV 10 (by decide)
      obtain ⟨⟨ts, bs, hkk, hbb⟩, hEE⟩ := hS; obtain ⟨q0, q1, q2, q3, q4⟩ := hkk.five
      go_simp
      exact hK.out _ _ _ rfl rfl rfl (Below.refl _ _)
    simp only [List.setIfInBounds_toArray, List.set_cons_zero, List.set_cons_succ]
    refine obs_stepK (Eq.trans (by simp only [List.getElem?_toArray, List.getElem?_cons_succ, List.getElem?_cons_zero]; exact rfl) rfl) rfl (fun b w' hb0 hS hV K hK => ?_) ?_
    · have e7 : x 7 = (.pointer (some ⟨R, 0, none⟩)) := hV 7 (by decide)
      have e8 : x 8 = (.pointer (some ⟨R, 0, none⟩)) := hV 8 (by decide)
      have e9 : x 9 = (.pointer (some ⟨R, 0, none⟩)) := hV 9 (by decide)
      have e10 : x 10 = (.pointer (some ⟨R, 0, none⟩)) := hV 10 (by decide)
      have e11 : x 11 = (.int .i64 (P)) := hV 11 (by decide)
      obtain ⟨⟨ts, bs, hkk, hbb⟩, hEE⟩ := hS; obtain ⟨q0, q1, q2, q3, q4⟩ := hkk.five
      go_simp
      exact hK.out _ _ _ rfl rfl rfl (Below.refl _ _)
    simp only [List.setIfInBounds_toArray, List.set_cons_zero, List.set_cons_succ]
    refine obs_stepK (Eq.trans (by simp only [List.getElem?_toArray, List.getElem?_cons_succ, List.getElem?_cons_zero]; exact rfl) rfl) rfl (fun b w' hb0 hS hV K hK => ?_) ?_
    · have e0 : x 0 = (.pointer (some ⟨R, 0, none⟩)) := hV 0 (by decide)
      have e1 : x 1 = (.pointer (some ⟨R, 0, none⟩)) := hV 1 (by decide)
      have e2 : x 2 = (.pointer (some ⟨R, 0, none⟩)) := hV 2 (by decide)
      have e3 : x 3 = (.pointer (some ⟨R, 0, none⟩)) := hV 3 (by decide)
      have e4 : x 4 = (.int .i64 (P)) := hV 4 (by decide)
      have e5 : x 5 = (.pointer (some ⟨R, 0, none⟩)) := hV 5 (by decide)
      obtain ⟨A6, c6, X6, T6, B6, e6, k6, m6, o6, l6, y6, v6⟩ := hV 6 (by decide)
      have e7 : x 7 = (.pointer (some ⟨R, 0, none⟩)) := hV 7 (by decide)
      have e8 : x 8 = (.pointer (some ⟨R, 0, none⟩)) := hV 8 (by decide)
      have e9 : x 9 = (.pointer (some ⟨R, 0, none⟩)) := hV 9 (by decide)
      have e10 : x 10 = (.pointer (some ⟨R, 0, none⟩)) := hV 10 (by decide)
      have e11 : x 11 = (.int .i64 (P)) := hV 11 (by decide)
      have e12 : x 12 = (.int .i64 (P - 1)) := hV 12 (by decide)
      obtain ⟨⟨ts, bs, hkk, hbb⟩, hEE⟩ := hS; obtain ⟨q0, q1, q2, q3, q4⟩ := hkk.five
      go_simp
      refine (l02Scale_any P A6 (pw n) c6 (P - 1) X6 w' hp hp2 (by omega) o6.rd m6.2 (by omega) (by omega)).mono ?_
      rintro e v1 ⟨A9, c9, rfl, hM⟩
      exact hK.out _ _ _ rfl rfl ⟨A9, c9, X6, T6, B6, rfl, k6.below hM.b k6.lt, m6, hM.2.base hEE.size, l6, y6, v6⟩ hM.b
    simp only [List.setIfInBounds_toArray, List.set_cons_zero, List.set_cons_succ]
    refine obs_stepK (Eq.trans (by simp only [List.getElem?_toArray, List.getElem?_cons_succ, List.getElem?_cons_zero]; exact rfl) rfl) rfl (fun b w' hb0 hS hV K hK => ?_) ?_
    · have e0 : x 0 = (.pointer (some ⟨R, 0, none⟩)) := hV 0 (by decide)
      have e1 : x 1 = (.pointer (some ⟨R, 0, none⟩)) := hV 1 (by decide)
      have e2 : x 2 = (.pointer (some ⟨R, 0, none⟩)) := hV 2 (by decide)
      have e3 : x 3 = (.pointer (some ⟨R, 0, none⟩)) := hV 3 (by decide)
      have e4 : x 4 = (.int .i64 (P)) := hV 4 (by decide)
      have e5 : x 5 = (.pointer (some ⟨R, 0, none⟩)) := hV 5 (by decide)
      obtain ⟨A6, c6, X6, T6, B6, e6, k6, m6, o6, l6, y6, v6⟩ := hV 6 (by decide)
      have e7 : x 7 = (.pointer (some ⟨R, 0, none⟩)) := hV 7 (by decide)
      have e8 : x 8 = (.pointer (some ⟨R, 0, none⟩)) := hV 8 (by decide)
      have e9 : x 9 = (.pointer (some ⟨R, 0, none⟩)) := hV 9 (by decide)
      have e10 : x 10 = (.pointer (some ⟨R, 0, none⟩)) := hV 10 (by decide)
      have e11 : x 11 = (.int .i64 (P)) := hV 11 (by decide)
      have e12 : x 12 = (.int .i64 (P - 1)) := hV 12 (by decide)
      obtain ⟨A13, c13, X13, T13, B13, e13, k13, m13, o13, l13, y13, v13⟩ := hV 13 (by decide)
      obtain ⟨⟨ts, bs, hkk, hbb⟩, hEE⟩ := hS; obtain ⟨q0, q1, q2, q3, q4⟩ := hkk.five
      go_simp
      exact hK.out _ _ _ rfl rfl ⟨A13, c13, X13, T13, B13, rfl, k13, m13, o13, l13, y13, v13⟩ (Below.refl _ _)
    simp only [List.setIfInBounds_toArray, List.set_cons_zero, List.set_cons_succ]
    refine fun w' bb hS hV => ?_
    have e0 : x 0 = (.pointer (some ⟨R, 0, none⟩)) := hV 0 (by decide)
    have e1 : x 1 = (.pointer (some ⟨R, 0, none⟩)) := hV 1 (by decide)
    have e2 : x 2 = (.pointer (some ⟨R, 0, none⟩)) := hV 2 (by decide)
    have e3 : x 3 = (.pointer (some ⟨R, 0, none⟩)) := hV 3 (by decide)
    have e4 : x 4 = (.int .i64 (P)) := hV 4 (by decide)
    have e5 : x 5 = (.pointer (some ⟨R, 0, none⟩)) := hV 5 (by decide)
    obtain ⟨A6, c6, X6, T6, B6, e6, k6, m6, o6, l6, y6, v6⟩ := hV 6 (by decide)
    have e7 : x 7 = (.pointer (some ⟨R, 0, none⟩)) := hV 7 (by decide)
    have e8 : x 8 = (.pointer (some ⟨R, 0, none⟩)) := hV 8 (by decide)
    have e9 : x 9 = (.pointer (some ⟨R, 0, none⟩)) := hV 9 (by decide)
    have e10 : x 10 = (.pointer (some ⟨R, 0, none⟩)) := hV 10 (by decide)
    have e11 : x 11 = (.int .i64 (P)) := hV 11 (by decide)
    have e12 : x 12 = (.int .i64 (P - 1)) := hV 12 (by decide)
    obtain ⟨A13, c13, X13, T13, B13, e13, k13, m13, o13, l13, y13, v13⟩ := hV 13 (by decide)
    obtain ⟨A14, c14, X14, T14, B14, e14, k14, m14, o14, l14, y14, v14⟩ := hV 14 (by decide)
    simp only [e0, e1, e2, e3, e4, e5, e6, e7, e8, e9, e10, e11, e12, e13, e14]
    clear e0 e1 e2 e3 e4 e5 e6 e7 e8 e9 e10 e11 e12 e13 e14
    refine wpAny_done (by kernel_rfl) ?_ _
    have hEE := hS.2
    have HEV := Lib.hid v14
    clear v14 hS hV
    go_wp2
    go_ret
    refine ⟨A14, c14, scaleL P X14 (-1), T14, B14, rfl, k14, ⟨(scaleL_len _ _ _).trans m14.1, scaleL_nums (by omega) _ _⟩, by rw [← scaleL_less]; exact o14, by omega, y14, ?_, hEE⟩
    rw [HN.out, HEV.out]
    cases B14 <;> rfl
  by_cases h126 : d = 126
  · subst h126
    have hnx := nxt_pk_some (cs := [45, 126]) (by decide) hd.symm (by decide)
    have hlt : i < T.length := pk_ne_end (by rw [← hd]; decide)
    have HN := Lib.hid (evE_fac_some (P := P) (sq := sq) (n := n) hnx)
    clear hat hnx hd h45
    have WP : IntKind.i64.wrap (P - 1) = P - 1 := by rw [IntWalk.i64_left]; unfold wrap64; omega
    go_enter Tryz.func144, Tryz.ntmps144
    go_wp2_with fail
    refine hpk.mono ?_
    rintro e w2 ⟨rfl, hbp⟩
    have hk2 := hk.below hbp hk.lt
    have hE2 := (Ex.refl R w).then hbp (Nat.le_of_lt HG)
    clear hpk hbp hk
    have f3 := hk2.frozen 3
    have q3 := hk2.cell 3
    have W1 : wrap64 ((i : Int) + 1) = (i : Int) + 1 := by unfold wrap64; omega
    have hk3 : RsB (w2.setCell ⟨R, 3, none⟩ (.int .i64 ((i : Int) + 1))) R P A n c T (i + 1) false := hk2.set_ 3 _
    have hE3 := hE2.trans (Ex.set hk2.lt 3 (.int .i64 ((i : Int) + 1)))
    go_wp2_with fail
    generalize w2.setCell ⟨R, 3, none⟩ (.int .i64 ((i : Int) + 1)) = w3 at hk3 hE3 ⊢
    clear f3 q3 hk2 hE2
    refine wp_obsK 8 (fun w w' => Ex R w w' ∧ ∃ i b, RsB w' R P A n c T i b) [[], [0], [0, 1], [0, 1, 2], [], [4], [0, 1, 2, 3, 4, 5], [0, 1, 2, 3, 4, 5, 6]] [[], [], [], [], [], [99], [], []] (fun x => [VIs (.pointer (some ⟨R, 0, none⟩)), VIs (.pointer (some ⟨R, 0, none⟩)), VIs (.pointer (some ⟨R, 0, none⟩)), VIs (.agg #[.int .i64 P, .slice A n c]), VIs (.pointer (some ⟨R, 0, none⟩)), VSk R P sq A n c .fac T (i + 1) w.heap.size (fun x => x), VSk R P sq A n c .fac T (i + 1) w.heap.size (fun x => revL P x), VSk R P sq A n c .fac T (i + 1) w.heap.size (fun x => revL P x)]) 5 (fun b w' => SRs R P A n c T (i + 1) b w' ∧ Ex R w w') (by kernel_rfl) (by kernel_rfl) (fun x x' j hx => by
        rcases j with _ | _ | _ | _ | _ | _ | _ | _ | j
        · rfl
        · rfl
        · rfl
        · rfl
        · rfl
        · rfl
        · rfl
        · rfl
        · rfl)
      (weak_ofR [0, 1, 2, 3, 4] (by decide) (fun k hk x v w w' hp hr => by
        simp only [List.mem_cons, List.not_mem_nil, or_false] at hk
        rcases hk with rfl | rfl | rfl | rfl | rfl
        · exact hp
        · exact hp
        · exact hp
        · exact hp
        · exact hp)) (fun j b _ w' h hst => hst.eitherK 5 (only_at (by decide)) (fun hb => ⟨h.1.below _ hb, h.2.then hb (Nat.le_of_lt HG)⟩) (fun e hr => ⟨SRs.rel b e hr.2, h.2.trans hr.1⟩)) (⟨⟨i + 1, false, hk3.below (Below.refl _ _).drew hk3.lt, fun _ => ⟨rfl, rfl⟩⟩, hE3.then (Below.refl _ _).drew (Nat.le_of_lt HG)⟩) (fun x => ?_)
    refine obs_stepK (Eq.trans (by simp only [List.getElem?_toArray, List.getElem?_cons_zero]; exact rfl) rfl) rfl (fun b w' hb0 hS hV K hK => ?_) ?_
    · obtain ⟨⟨ts, bs, hkk, hbb⟩, hEE⟩ := hS; obtain ⟨q0, q1, q2, q3, q4⟩ := hkk.five
      go_simp
      exact hK.out _ _ _ rfl rfl rfl (Below.refl _ _)
    simp only [List.setIfInBounds_toArray, List.set_cons_zero, List.set_cons_succ]
    refine obs_stepK (Eq.trans (by simp only [List.getElem?_toArray, List.getElem?_cons_succ, List.getElem?_cons_zero]; exact rfl) rfl) rfl (fun b w' hb0 hS hV K hK => ?_) ?_
    · have e0 : x 0 = (.pointer (some ⟨R, 0, none⟩)) := hV 0 (by decide)
      obtain ⟨⟨ts, bs, hkk, hbb⟩, hEE⟩ := hS; obtain ⟨q0, q1, q2, q3, q4⟩ := hkk.five
      go_simp
      exact hK.out _ _ _ rfl rfl rfl (Below.refl _ _)
    simp only [List.setIfInBounds_toArray, List.set_cons_zero, List.set_cons_succ]
    refine obs_stepK (Eq.trans (by simp only [List.getElem?_toArray, List.getElem?_cons_succ, List.getElem?_cons_zero]; exact rfl) rfl) rfl (fun b w' hb0 hS hV K hK => ?_) ?_
    · have e0 : x 0 = (.pointer (some ⟨R, 0, none⟩)) := hV 0 (by decide)
      have e1 : x 1 = (.pointer (some ⟨R, 0, none⟩)) := hV 1 (by decide)
      obtain ⟨⟨ts, bs, hkk, hbb⟩, hEE⟩ := hS; obtain ⟨q0, q1, q2, q3, q4⟩ := hkk.five
      go_simp
      exact hK.out _ _ _ rfl rfl rfl (Below.refl _ _)
    simp only [List.setIfInBounds_toArray, List.set_cons_zero, List.set_cons_succ]
    refine obs_stepK (Eq.trans (by simp only [List.getElem?_toArray, List.getElem?_cons_succ, List.getElem?_cons_zero]; exact rfl) rfl) rfl (fun b w' hb0 hS hV K hK => ?_) ?_
    · have e0 : x 0 = (.pointer (some ⟨R, 0, none⟩)) := hV 0 (by decide)
      have e1 : x 1 = (.pointer (some ⟨R, 0, none⟩)) := hV 1 (by decide)
      have e2 : x 2 = (.pointer (some ⟨R, 0, none⟩)) := hV 2 (by decide)
      obtain ⟨⟨ts, bs, hkk, hbb⟩, hEE⟩ := hS; obtain ⟨q0, q1, q2, q3, q4⟩ := hkk.five
      go_simp
      exact hK.out _ _ _ rfl rfl rfl (Below.refl _ _)
    simp only [List.setIfInBounds_toArray, List.set_cons_zero, List.set_cons_succ]
    refine obs_stepK (Eq.trans (by simp only [List.getElem?_toArray, List.getElem?_cons_succ, List.getElem?_cons_zero]; exact rfl) rfl) rfl (fun b w' hb0 hS hV K hK => ?_) ?_
    · obtain ⟨⟨ts, bs, hkk, hbb⟩, hEE⟩ := hS; obtain ⟨q0, q1, q2, q3, q4⟩ := hkk.five
      go_simp
      exact hK.out _ _ _ rfl rfl rfl (Below.refl _ _)
    simp only [List.setIfInBounds_toArray, List.set_cons_zero, List.set_cons_succ]
    refine obs_stepK (Eq.trans (by simp only [List.getElem?_toArray, List.getElem?_cons_succ, List.getElem?_cons_zero]; exact rfl) rfl) rfl (fun b w' hb0 hS hV K hK => ?_) ?_
    · have e4 : x 4 = (.pointer (some ⟨R, 0, none⟩)) := hV 4 (by decide)
      obtain ⟨⟨ts, bs, hkk, hbb⟩, hEE⟩ := hS; obtain ⟨q0, q1, q2, q3, q4⟩ := hkk.five
      obtain ⟨e8, e9⟩ := hbb (hb0 rfl)
      rw [e8, e9] at hkk
      go_simp
      refine (hf (i + 1) (by omega) (by omega) R w' hA (hr.ex hEE hA) hkk).mono ?_
      rintro e v1 ⟨A8, c8, x8, t8, b8, rfl, hk8, hx8, hO8, hl8, hl9, hev8, hE8⟩
      exact hK.out _ _ _ rfl rfl ⟨A8, c8, x8, t8, b8, rfl, hk8, hx8, hO8.base hEE.size, hl8, hl9, hev8⟩ (StepR.rel rfl ⟨hE8, t8, b8, hk8⟩)
    simp only [List.setIfInBounds_toArray, List.set_cons_zero, List.set_cons_succ]
    refine obs_stepK (Eq.trans (by simp only [List.getElem?_toArray, List.getElem?_cons_succ, List.getElem?_cons_zero]; exact rfl) rfl) rfl (fun b w' hb0 hS hV K hK => ?_) ?_
    · have e0 : x 0 = (.pointer (some ⟨R, 0, none⟩)) := hV 0 (by decide)
      have e1 : x 1 = (.pointer (some ⟨R, 0, none⟩)) := hV 1 (by decide)
      have e2 : x 2 = (.pointer (some ⟨R, 0, none⟩)) := hV 2 (by decide)
      have e3 : x 3 = (.agg #[.int .i64 P, .slice A n c]) := hV 3 (by decide)
      have e4 : x 4 = (.pointer (some ⟨R, 0, none⟩)) := hV 4 (by decide)
      obtain ⟨A5, c5, X5, T5, B5, e5, k5, m5, o5, l5, y5, v5⟩ := hV 5 (by decide)
      obtain ⟨⟨ts, bs, hkk, hbb⟩, hEE⟩ := hS; obtain ⟨q0, q1, q2, q3, q4⟩ := hkk.five
      go_simp
      refine (l04Reverse_any P A n c A5 (pw n) c5 X5 w' hp hp2 (by omega) o5.rd m5.2).mono ?_
      rintro e v1 ⟨A9, c9, rfl, hM⟩
      exact hK.out _ _ _ rfl rfl ⟨A9, c9, X5, T5, B5, rfl, k5.below hM.b k5.lt, m5, hM.2.base hEE.size, l5, y5, v5⟩ hM.b
    simp only [List.setIfInBounds_toArray, List.set_cons_zero, List.set_cons_succ]
    refine obs_stepK (Eq.trans (by simp only [List.getElem?_toArray, List.getElem?_cons_succ, List.getElem?_cons_zero]; exact rfl) rfl) rfl (fun b w' hb0 hS hV K hK => ?_) ?_
    · have e0 : x 0 = (.pointer (some ⟨R, 0, none⟩)) := hV 0 (by decide)
      have e1 : x 1 = (.pointer (some ⟨R, 0, none⟩)) := hV 1 (by decide)
      have e2 : x 2 = (.pointer (some ⟨R, 0, none⟩)) := hV 2 (by decide)
      have e3 : x 3 = (.agg #[.int .i64 P, .slice A n c]) := hV 3 (by decide)
      have e4 : x 4 = (.pointer (some ⟨R, 0, none⟩)) := hV 4 (by decide)
      obtain ⟨A5, c5, X5, T5, B5, e5, k5, m5, o5, l5, y5, v5⟩ := hV 5 (by decide)
      obtain ⟨A6, c6, X6, T6, B6, e6, k6, m6, o6, l6, y6, v6⟩ := hV 6 (by decide)
      obtain ⟨⟨ts, bs, hkk, hbb⟩, hEE⟩ := hS; obtain ⟨q0, q1, q2, q3, q4⟩ := hkk.five
      go_simp
      exact hK.out _ _ _ rfl rfl ⟨A6, c6, X6, T6, B6, rfl, k6, m6, o6, l6, y6, v6⟩ (Below.refl _ _)
    simp only [List.setIfInBounds_toArray, List.set_cons_zero, List.set_cons_succ]
    refine fun w' bb hS hV => ?_
    have e0 : x 0 = (.pointer (some ⟨R, 0, none⟩)) := hV 0 (by decide)
    have e1 : x 1 = (.pointer (some ⟨R, 0, none⟩)) := hV 1 (by decide)
    have e2 : x 2 = (.pointer (some ⟨R, 0, none⟩)) := hV 2 (by decide)
    have e3 : x 3 = (.agg #[.int .i64 P, .slice A n c]) := hV 3 (by decide)
    have e4 : x 4 = (.pointer (some ⟨R, 0, none⟩)) := hV 4 (by decide)
    obtain ⟨A5, c5, X5, T5, B5, e5, k5, m5, o5, l5, y5, v5⟩ := hV 5 (by decide)
    obtain ⟨A6, c6, X6, T6, B6, e6, k6, m6, o6, l6, y6, v6⟩ := hV 6 (by decide)
    obtain ⟨A7, c7, X7, T7, B7, e7, k7, m7, o7, l7, y7, v7⟩ := hV 7 (by decide)
    simp only [e0, e1, e2, e3, e4, e5, e6, e7]
    clear e0 e1 e2 e3 e4 e5 e6 e7
    refine wpAny_done (by kernel_rfl) ?_ _
    have hEE := hS.2
    have HEV := Lib.hid v7
    clear v7 hS hV
    go_wp2
    go_ret
    refine ⟨A7, c7, revL P X7, T7, B7, rfl, k7, ⟨(sgnL_len _ _ _).trans m7.1, sgnL_nums (by omega) _ m7.2⟩, o7, by omega, y7, ?_, hEE⟩
    rw [HN.out, HEV.out]
    cases B7 <;> rfl
  · have hnx := nxt_pk_none (cs := [45, 126]) (T := T) (i := i) (by decide) (by rw [← hd]; simp [h45, h126])
    have HN := Lib.hid (evE_fac_none (P := P) (sq := sq) (n := n) hnx)
    have e45 := u8_ne h45
    have e126 := u8_ne h126
    obtain ⟨z, hz⟩ : ∃ z : Nat, z = d.toNat := ⟨_, rfl⟩
    rw [← hz] at hpk e45 e126
    have c45 : ((z : Int) == 45) = false := by have : (45 : UInt8).toNat = 45 := rfl; simp; omega
    have c126 : ((z : Int) == 126) = false := by have : (126 : UInt8).toNat = 126 := rfl; simp; omega
    clear hz hd h45 h126 e45 e126 hnx hf
    go_enter Tryz.func144, Tryz.ntmps144
    go_wp2_with fail
    refine hpk.mono ?_
    rintro e w2 ⟨rfl, hbp⟩
    have hE2 := (Ex.refl R w).then hbp (Nat.le_of_lt HG)
    have hcall2 := hat R w2 hA (hr.ex hE2 hA) (hk.below hbp hk.lt)
    go_wp2_with fail
    refine hcall2.mono ?_
    rintro e w3 ⟨A3, c3, x3, i3, b3, rfl, hk3, hx3, hO3, hl3, hl3b, hev3, hE3⟩
    go_wp2
    go_ret
    exact ⟨A3, c3, x3, i3, b3, rfl, hk3, hx3, hO3.base hE2.size, hl3, hl3b, by rw [HN.out]; exact hev3, hE2.trans hE3⟩
end Go.Proofs.YticofgmmjecleaaGreatDoor
namespace Go.Proofs.YticofgmmjecleaaGreatDoor
open Go.RowKit
set_option maxHeartbeats 400000 in
set_option maxRecDepth 8000 in
theorem l04Zero_any (P : Int) (A : Option Addr) (n c : Nat) (w : World) (hn : n ≤ 10) :
    Calls Tryz.prog 51 #[.agg #[.int .i64 P, .slice A n c]] w fun e w' => ∃ A' c', e = .returned (.slice A' (pw n) c') ∧ MkI w w' A' (pw n) c' (List.replicate (pw n) 0) := by
  have hp : pw n ≤ 1024 := pw_le hn
  have hmk := make_i (P := Tryz.prog) 22 2 Tryz.underlying22 info_i (pw n) (by omega)
  go_enter Tryz.func51, Tryz.ntmps51
  go_wp2_with (go_at_call 74; refine (l04Size_any _ _ _ _ _ (by omega)).mono ?_; rintro e w1 ⟨rfl, hb1⟩)
  go_ret
  have hb2 := (((Below.refl _ _).alloc (Nat.le_refl _) _).trans (hb1.mono (by simp)))
  exact ⟨_, _, rfl, by have := Mk.made (E := 2) (n := pw n) (z := .int .i64 0) hb2 (by simp only [maxLen]; omega); rwa [ints_replicate] at this⟩
end Go.Proofs.YticofgmmjecleaaGreatDoor
namespace Go.Proofs.YticofgmmjecleaaGreatDoor
open Go Go.RowKit
theorem Ex.setNew {R : Nat} {w wr : World} {b : Nat} (d : Ex R w wr) (hb : w.heap.size ≤ b) (hR : R ≤ w.heap.size) (i : Nat) (u : Value) : Ex R w (wr.setCell ⟨b, i, none⟩ u) :=
  ⟨d.b.setCell (p := ⟨b, i, none⟩) (Nat.le_trans hR hb) _, fun k hk hne => (Below.heap_setCell wr ⟨b, i, none⟩ u k (by simp; omega)).trans (d.k k hk hne)⟩
theorem blade_scale {P : Int} (hp : 0 < P) (n : Nat) (k : Int) : (List.replicate (pw n) 0).set 0 (k % P) = scaleL P (bladeL n 0) (k % P) := by
  unfold scaleL bladeL
  rw [List.map_set, List.map_replicate]
  simp
theorem Own.set2 {w : World} {E : TypeId} {B g : Nat} {n c : Nat} {us : List Value} (h : Own w B E (some ⟨g, 0, none⟩) n c us) (k : Nat) (u : Value) : Own (w.setCell ⟨g, k, none⟩ u) B E (some ⟨g, 0, none⟩) n c (us.set k u) ∧ w.grownBy (w.setCell ⟨g, k, none⟩ u) (some g) := World.ownsRow.stored h k u
/-- The value is the text of the digits; they have been read. -/
def VDis (R : Nat) (P : Int) (A : Option Addr) (n c : Nat) (T : By) (i : Nat) (D : By) : VP :=
  ⟨fun v w => v = .string ⟨D.toArray⟩ ∧ RsB w R P A n c T (i + D.length) false, fun _ _ _ ⟨e, hk⟩ hb => ⟨e, hk.below hb hk.lt⟩⟩
/-- The value is u, and the reader lies at i. -/
def VAfs (R : Nat) (P : Int) (A : Option Addr) (n c : Nat) (T : By) (i : Nat) (u : Value) : VP :=
  ⟨fun v w => v = u ∧ RsB w R P A n c T i false, fun _ _ _ ⟨e, hk⟩ hb => ⟨e, hk.below hb hk.lt⟩⟩
set_option maxHeartbeats 25600000 in
set_option maxRecDepth 8000 in
theorem satom_any (P : Int) (sq : List Int) (A : Option Addr) (n c : Nat) (T : By) (i : Nat) (hp : 2 ≤ P) (hp2 : P ≤ 13) (hn : n ≤ 6) (hT : T.length ≤ 1048576) (hi : i ≤ T.length) (hsp : isSp P sq = true) (hln : sq.length = n)
    (hsum : ∀ i' : Nat, i < i' → i' ≤ T.length → RsC 88 P sq A n c .sum T i') : RsC 167 P sq A n c .atom T i := by
  intro R w hA hr hk
  have hpn : pw n ≤ 64 := pw_le hn
  have HG := hk.lt
  have HLN := Lib.hid hln
  have HSP := Lib.hid hsp
  clear hln hsp
  have hze := fun wx => l04Zero_any P A n c wx (show n ≤ 10 by omega)
  obtain ⟨d, hd⟩ : ∃ d, d = pk (T.drop i) := ⟨_, rfl⟩
  by_cases h101 : d = 101
  · subst h101
    have hnx := nxt_pk_some (cs := [40, 101]) (by decide) hd.symm (by decide)
    have hlt : i < T.length := pk_ne_end (by rw [← hd]; decide)
    have HN := Lib.hid (evE_atom_name (P := P) (sq := sq) (n := n) hnx)
    have hdl := dig_le (T.drop (i + 1))
    rw [List.length_drop] at hdl
    have hsd := fun wx (h : RsB wx R P A n c T (i + 1) false) => sdigits_any P A n c T (i + 1) false R wx hT (by omega) h
    have hres : resL (T.drop (i + 1)) = T.drop (i + 1 + (digL (T.drop (i + 1))).length) := by rw [← drop_dig, List.drop_drop]
    rw [hres] at HN
    obtain ⟨D, hD⟩ : ∃ D, D = digL (T.drop (i + 1)) := ⟨_, rfl⟩
    rw [← hD] at HN hdl hsd
    have hcat := fun wx => cat_bs (P := Tryz.prog) wx [101] D (by simp) (by omega)
    obtain ⟨u, hu⟩ : ∃ u, u = 101 :: D := ⟨_, rfl⟩
    have hcu : ([101] ++ D : By) = u := hu.symm
    rw [hcu] at hcat
    rw [← hu] at HN
    have hmn := fun wx (h : Rd wx A n (ints sq)) => specMaskOfName_any P A n c sq u wx (by omega) h
    unfold monR at hmn
    rw [HSP.out, if_pos rfl, HLN.out] at hmn
    have HDL := Lib.hid hdl
    have HCAT := Lib.hid hcat
    have HMN := Lib.hid hmn
    clear hnx hu hcu hsum hres hcat hmn hdl hD
    have hd9 : (pk (T.drop i)).toNat = 101 := by rw [← hd]; rfl
    clear hd
    go_enter Tryz.func167, Tryz.ntmps167
    obtain ⟨q0, q1, q2, q3, q4⟩ := hk.five
    go_wp2_with fail
    refine (hze w).mono ?_
    rintro e w0 ⟨A0, c0, rfl, hM0⟩
    have hk0 := hk.below hM0.b hk.lt
    have hE0 := (Ex.refl R w).then hM0.b (Nat.le_of_lt HG)
    have hO0 := hM0.2
    clear hze hM0 hk q0 q1 q2 q3 q4
    have hpk := peek_any P A n c T i false R w0 hT hk0
    rw [hd9] at hpk
    go_wp2_with fail
    refine hpk.mono ?_
    rintro e w2 ⟨rfl, hbp⟩
    have hk2 := hk0.below hbp hk0.lt
    have hE2 := hE0.then hbp (Nat.le_of_lt HG)
    have hO2 := hO0.below hbp
    clear hpk hbp hk0 hE0 hO0
    clear hd9
    have hpw : 0 < pw n := pw_pos n
    obtain ⟨g0, rfl, hg0, -⟩ : ∃ g0, A0 = some ⟨g0, 0, none⟩ ∧ w.heap.size ≤ g0 ∧ g0 < w2.heap.size := by
      rcases hO2.form with ⟨-, h0⟩ | h
      · omega
      · exact h
    have f3 := hk2.frozen 3
    have q3 := hk2.cell 3
    have W1 : wrap64 ((i : Int) + 1) = (i : Int) + 1 := by unfold wrap64; omega
    have hk3 : RsB (w2.setCell ⟨R, 3, none⟩ (.int .i64 ((i : Int) + 1))) R P A n c T (i + 1) false := hk2.set_ 3 _
    have hE3 := hE2.trans (Ex.set hk2.lt 3 (.int .i64 ((i : Int) + 1)))
    have hO3 := hO2.ex (Ex.set hk2.lt 3 (.int .i64 ((i : Int) + 1))) hk2 (by decide)
    go_wp2_with fail
    generalize w2.setCell ⟨R, 3, none⟩ (.int .i64 ((i : Int) + 1)) = w3 at hk3 hE3 hO3 ⊢
    clear f3 q3 hk2 hE2 hO2
    have hcat := HCAT.out
    have hmn := HMN.out
    clear HCAT HMN
    refine wp_obsK 13 (fun w w' => Ex R w w' ∧ ∃ i b, RsB w' R P A n c T i b) [[], [0], [0, 1], [0, 1, 2], [], [4], [4, 5], [0, 1, 2, 3, 4, 5, 6], [0, 1, 2, 3, 4, 5, 6, 7], [0, 1, 2, 3, 4, 5, 6, 7, 8], [0, 1, 2, 3, 4, 5, 6, 7, 8], [0, 1, 2, 3, 4, 5, 6, 7, 8, 9], [0, 1, 2, 3, 4, 5, 6, 7, 8, 10]] [[], [], [], [], [], [99], [], [], [], [], [], [], []] (fun x => [VIs (.pointer (some ⟨R, 0, none⟩)), VIs (.pointer (some ⟨R, 0, none⟩)), VIs (.pointer (some ⟨R, 0, none⟩)), VIs (.agg #[.int .i64 P, .slice A n c]), VIs (.pointer (some ⟨R, 0, none⟩)), VDis R P A n c T (i + 1) D, VAfs R P A n c T (i + 1 + D.length) (.string ⟨u.toArray⟩), VAfs R P A n c T (i + 1 + D.length) (.tuple #[.int .i64 (markI (maskOf n u)), .int .i64 (codeN (maskOf n u))]), VAfs R P A n c T (i + 1 + D.length) (.tuple #[.int .i64 (markI (maskOf n u)), .int .i64 (codeN (maskOf n u))]), VAfs R P A n c T (i + 1 + D.length) (.int .i64 (markI (maskOf n u))), VAfs R P A n c T (i + 1 + D.length) (.int .i64 (codeN (maskOf n u))), VAfs R P A n c T (i + 1 + D.length) (.int .i64 (markI (maskOf n u))), VAfs R P A n c T (i + 1 + D.length) (.int .i64 (codeN (maskOf n u)))]) 5 (fun b w' => SRs R P A n c T (i + 1) b w' ∧ Ex R w w' ∧ Own w' w.heap.size 2 (some ⟨g0, 0, none⟩) (pw n) c0 (ints (List.replicate (pw n) 0))) (by kernel_rfl) (by kernel_rfl) (fun x x' j hx => by
        rcases j with _ | _ | _ | _ | _ | _ | _ | _ | _ | _ | _ | _ | _ | j
        · rfl
        · rfl
        · rfl
        · rfl
        · rfl
        · rfl
        · rfl
        · rfl
        · rfl
        · rfl
        · rfl
        · rfl
        · rfl
        · rfl)
      (weak_ofR [0, 1, 2, 3, 4] (by decide) (fun k hk x v w w' hp hr => by
        simp only [List.mem_cons, List.not_mem_nil, or_false] at hk
        rcases hk with rfl | rfl | rfl | rfl | rfl
        · exact hp
        · exact hp
        · exact hp
        · exact hp
        · exact hp)) (fun j b _ w' h hst => hst.eitherK 5 (only_at (by decide)) (fun hb => ⟨h.1.below _ hb, h.2.1.then hb (Nat.le_of_lt HG), h.2.2.below hb⟩) (fun e hr => ⟨SRs.rel b e hr.2, h.2.1.trans hr.1, by obtain ⟨⟨t5, b5, k5, _⟩, _, o5⟩ := h; exact o5.ex hr.1 k5 (by decide)⟩)) (⟨⟨i + 1, false, hk3.below (Below.refl _ _).drew hk3.lt, fun _ => ⟨rfl, rfl⟩⟩, hE3.then (Below.refl _ _).drew (Nat.le_of_lt HG), hO3.below (Below.refl _ _).drew⟩) (fun x => ?_)
    refine obs_stepK (Eq.trans (by simp only [List.getElem?_toArray, List.getElem?_cons_zero]; exact rfl) rfl) rfl (fun b w' hb0 hS hV K hK => ?_) ?_
    · obtain ⟨⟨ts, bs, hkk, hbb⟩, hEE, hOO⟩ := hS; obtain ⟨q0, q1, q2, q3, q4⟩ := hkk.five
      go_simp
      exact hK.out _ _ _ rfl rfl rfl (Below.refl _ _)
    simp only [List.setIfInBounds_toArray, List.set_cons_zero, List.set_cons_succ]
    refine obs_stepK (Eq.trans (by simp only [List.getElem?_toArray, List.getElem?_cons_succ, List.getElem?_cons_zero]; exact rfl) rfl) rfl (fun b w' hb0 hS hV K hK => ?_) ?_
    · have e0 : x 0 = (.pointer (some ⟨R, 0, none⟩)) := hV 0 (by decide)
      obtain ⟨⟨ts, bs, hkk, hbb⟩, hEE, hOO⟩ := hS; obtain ⟨q0, q1, q2, q3, q4⟩ := hkk.five
      go_simp
      exact hK.out _ _ _ rfl rfl rfl (Below.refl _ _)
    simp only [List.setIfInBounds_toArray, List.set_cons_zero, List.set_cons_succ]
    refine obs_stepK (Eq.trans (by simp only [List.getElem?_toArray, List.getElem?_cons_succ, List.getElem?_cons_zero]; exact rfl) rfl) rfl (fun b w' hb0 hS hV K hK => ?_) ?_
    · have e0 : x 0 = (.pointer (some ⟨R, 0, none⟩)) := hV 0 (by decide)
      have e1 : x 1 = (.pointer (some ⟨R, 0, none⟩)) := hV 1 (by decide)
      obtain ⟨⟨ts, bs, hkk, hbb⟩, hEE, hOO⟩ := hS; obtain ⟨q0, q1, q2, q3, q4⟩ := hkk.five
      go_simp
      exact hK.out _ _ _ rfl rfl rfl (Below.refl _ _)
    simp only [List.setIfInBounds_toArray, List.set_cons_zero, List.set_cons_succ]
    refine obs_stepK (Eq.trans (by simp only [List.getElem?_toArray, List.getElem?_cons_succ, List.getElem?_cons_zero]; exact rfl) rfl) rfl (fun b w' hb0 hS hV K hK => ?_) ?_
    · have e0 : x 0 = (.pointer (some ⟨R, 0, none⟩)) := hV 0 (by decide)
      have e1 : x 1 = (.pointer (some ⟨R, 0, none⟩)) := hV 1 (by decide)
      have e2 : x 2 = (.pointer (some ⟨R, 0, none⟩)) := hV 2 (by decide)
      obtain ⟨⟨ts, bs, hkk, hbb⟩, hEE, hOO⟩ := hS; obtain ⟨q0, q1, q2, q3, q4⟩ := hkk.five
      go_simp
      exact hK.out _ _ _ rfl rfl rfl (Below.refl _ _)
    simp only [List.setIfInBounds_toArray, List.set_cons_zero, List.set_cons_succ]
    refine obs_stepK (Eq.trans (by simp only [List.getElem?_toArray, List.getElem?_cons_succ, List.getElem?_cons_zero]; exact rfl) rfl) rfl (fun b w' hb0 hS hV K hK => ?_) ?_
    · obtain ⟨⟨ts, bs, hkk, hbb⟩, hEE, hOO⟩ := hS; obtain ⟨q0, q1, q2, q3, q4⟩ := hkk.five
      go_simp
      exact hK.out _ _ _ rfl rfl rfl (Below.refl _ _)
    simp only [List.setIfInBounds_toArray, List.set_cons_zero, List.set_cons_succ]
    refine obs_stepK (Eq.trans (by simp only [List.getElem?_toArray, List.getElem?_cons_succ, List.getElem?_cons_zero]; exact rfl) rfl) rfl (fun b w' hb0 hS hV K hK => ?_) ?_
    · have e4 : x 4 = (.pointer (some ⟨R, 0, none⟩)) := hV 4 (by decide)
      obtain ⟨⟨ts, bs, hkk, hbb⟩, hEE, hOO⟩ := hS; obtain ⟨q0, q1, q2, q3, q4⟩ := hkk.five
      obtain ⟨e8, e9⟩ := hbb (hb0 rfl)
      rw [e8, e9] at hkk
      go_simp
      refine (hsd w' hkk).mono ?_
      rintro e v1 ⟨rfl, hk8, hE8⟩
      exact hK.out _ _ _ rfl rfl ⟨rfl, hk8⟩ (StepR.rel rfl ⟨hE8, _, _, hk8⟩)
    simp only [List.setIfInBounds_toArray, List.set_cons_zero, List.set_cons_succ]
    refine obs_stepK (Eq.trans (by simp only [List.getElem?_toArray, List.getElem?_cons_succ, List.getElem?_cons_zero]; exact rfl) rfl) rfl (fun b w' hb0 hS hV K hK => ?_) ?_
    · have e4 : x 4 = (.pointer (some ⟨R, 0, none⟩)) := hV 4 (by decide)
      obtain ⟨e5, k5⟩ := hV 5 (by decide)
      obtain ⟨⟨ts, bs, hkk, hbb⟩, hEE, hOO⟩ := hS; obtain ⟨q0, q1, q2, q3, q4⟩ := hkk.five
      go_simp
      exact hK.out _ _ _ rfl rfl ⟨rfl, k5⟩ (Below.refl _ _)
    simp only [List.setIfInBounds_toArray, List.set_cons_zero, List.set_cons_succ]
    refine obs_stepK (Eq.trans (by simp only [List.getElem?_toArray, List.getElem?_cons_succ, List.getElem?_cons_zero]; exact rfl) rfl) rfl (fun b w' hb0 hS hV K hK => ?_) ?_
    · have e0 : x 0 = (.pointer (some ⟨R, 0, none⟩)) := hV 0 (by decide)
      have e1 : x 1 = (.pointer (some ⟨R, 0, none⟩)) := hV 1 (by decide)
      have e2 : x 2 = (.pointer (some ⟨R, 0, none⟩)) := hV 2 (by decide)
      have e3 : x 3 = (.agg #[.int .i64 P, .slice A n c]) := hV 3 (by decide)
      have e4 : x 4 = (.pointer (some ⟨R, 0, none⟩)) := hV 4 (by decide)
      obtain ⟨e5, k5⟩ := hV 5 (by decide)
      obtain ⟨e6, k6⟩ := hV 6 (by decide)
      obtain ⟨⟨ts, bs, hkk, hbb⟩, hEE, hOO⟩ := hS; obtain ⟨q0, q1, q2, q3, q4⟩ := hkk.five
      go_simp
      refine (hmn w' (hr.ex hEE hA)).mono ?_
      rintro e v1 ⟨rfl, hb⟩
      exact hK.out _ _ _ rfl rfl ⟨rfl, k6.below hb k6.lt⟩ hb
    simp only [List.setIfInBounds_toArray, List.set_cons_zero, List.set_cons_succ]
    refine obs_stepK (Eq.trans (by simp only [List.getElem?_toArray, List.getElem?_cons_succ, List.getElem?_cons_zero]; exact rfl) rfl) rfl (fun b w' hb0 hS hV K hK => ?_) ?_
    · have e0 : x 0 = (.pointer (some ⟨R, 0, none⟩)) := hV 0 (by decide)
      have e1 : x 1 = (.pointer (some ⟨R, 0, none⟩)) := hV 1 (by decide)
      have e2 : x 2 = (.pointer (some ⟨R, 0, none⟩)) := hV 2 (by decide)
      have e3 : x 3 = (.agg #[.int .i64 P, .slice A n c]) := hV 3 (by decide)
      have e4 : x 4 = (.pointer (some ⟨R, 0, none⟩)) := hV 4 (by decide)
      obtain ⟨e5, k5⟩ := hV 5 (by decide)
      obtain ⟨e6, k6⟩ := hV 6 (by decide)
      obtain ⟨e7, k7⟩ := hV 7 (by decide)
      obtain ⟨⟨ts, bs, hkk, hbb⟩, hEE, hOO⟩ := hS; obtain ⟨q0, q1, q2, q3, q4⟩ := hkk.five
      go_simp
      exact hK.out _ _ _ rfl rfl ⟨rfl, k7⟩ (Below.refl _ _)
    simp only [List.setIfInBounds_toArray, List.set_cons_zero, List.set_cons_succ]
    refine obs_stepK (Eq.trans (by simp only [List.getElem?_toArray, List.getElem?_cons_succ, List.getElem?_cons_zero]; exact rfl) rfl) rfl (fun b w' hb0 hS hV K hK => ?_) ?_
    · have e0 : x 0 = (.pointer (some ⟨R, 0, none⟩)) := hV 0 (by decide)
      have e1 : x 1 = (.pointer (some ⟨R, 0, none⟩)) := hV 1 (by decide)
      have e2 : x 2 = (.pointer (some ⟨R, 0, none⟩)) := hV 2 (by decide)
      have e3 : x 3 = (.agg #[.int .i64 P, .slice A n c]) := hV 3 (by decide)
      have e4 : x 4 = (.pointer (some ⟨R, 0, none⟩)) := hV 4 (by decide)
      obtain ⟨e5, k5⟩ := hV 5 (by decide)
      obtain ⟨e6, k6⟩ := hV 6 (by decide)
      obtain ⟨e7, k7⟩ := hV 7 (by decide)
      obtain ⟨e8, k8⟩ := hV 8 (by decide)
      obtain ⟨⟨ts, bs, hkk, hbb⟩, hEE, hOO⟩ := hS; obtain ⟨q0, q1, q2, q3, q4⟩ := hkk.five
      go_simp
      exact hK.out _ _ _ rfl rfl ⟨rfl, k8⟩ (Below.refl _ _)
    simp only [List.setIfInBounds_toArray, List.set_cons_zero, List.set_cons_succ]
    refine obs_stepK (Eq.trans (by simp only [List.getElem?_toArray, List.getElem?_cons_succ, List.getElem?_cons_zero]; exact rfl) rfl) rfl (fun b w' hb0 hS hV K hK => ?_) ?_
    · have e0 : x 0 = (.pointer (some ⟨R, 0, none⟩)) := hV 0 (by decide)
      have e1 : x 1 = (.pointer (some ⟨R, 0, none⟩)) := hV 1 (by decide)
      have e2 : x 2 = (.pointer (some ⟨R, 0, none⟩)) := hV 2 (by decide)
      have e3 : x 3 = (.agg #[.int .i64 P, .slice A n c]) := hV 3 (by decide)
      have e4 : x 4 = (.pointer (some ⟨R, 0, none⟩)) := hV 4 (by decide)
      obtain ⟨e5, k5⟩ := hV 5 (by decide)
      obtain ⟨e6, k6⟩ := hV 6 (by decide)
      obtain ⟨e7, k7⟩ := hV 7 (by decide)
      obtain ⟨e8, k8⟩ := hV 8 (by decide)
      obtain ⟨⟨ts, bs, hkk, hbb⟩, hEE, hOO⟩ := hS; obtain ⟨q0, q1, q2, q3, q4⟩ := hkk.five
      go_simp
      exact hK.out _ _ _ rfl rfl ⟨rfl, k8⟩ (Below.refl _ _)
    simp only [List.setIfInBounds_toArray, List.set_cons_zero, List.set_cons_succ]
    refine obs_stepK (Eq.trans (by simp only [List.getElem?_toArray, List.getElem?_cons_succ, List.getElem?_cons_zero]; exact rfl) rfl) rfl (fun b w' hb0 hS hV K hK => ?_) ?_
    · have e0 : x 0 = (.pointer (some ⟨R, 0, none⟩)) := hV 0 (by decide)
      have e1 : x 1 = (.pointer (some ⟨R, 0, none⟩)) := hV 1 (by decide)
      have e2 : x 2 = (.pointer (some ⟨R, 0, none⟩)) := hV 2 (by decide)
      have e3 : x 3 = (.agg #[.int .i64 P, .slice A n c]) := hV 3 (by decide)
      have e4 : x 4 = (.pointer (some ⟨R, 0, none⟩)) := hV 4 (by decide)
      obtain ⟨e5, k5⟩ := hV 5 (by decide)
      obtain ⟨e6, k6⟩ := hV 6 (by decide)
      obtain ⟨e7, k7⟩ := hV 7 (by decide)
      obtain ⟨e8, k8⟩ := hV 8 (by decide)
      obtain ⟨e9, k9⟩ := hV 9 (by decide)
      obtain ⟨⟨ts, bs, hkk, hbb⟩, hEE, hOO⟩ := hS; obtain ⟨q0, q1, q2, q3, q4⟩ := hkk.five
      go_simp
      exact hK.out _ _ _ rfl rfl ⟨rfl, k9⟩ (Below.refl _ _)
    simp only [List.setIfInBounds_toArray, List.set_cons_zero, List.set_cons_succ]
    refine obs_stepK (Eq.trans (by simp only [List.getElem?_toArray, List.getElem?_cons_succ, List.getElem?_cons_zero]; exact rfl) rfl) rfl (fun b w' hb0 hS hV K hK => ?_) ?_
    · have e0 : x 0 = (.pointer (some ⟨R, 0, none⟩)) := hV 0 (by decide)
      have e1 : x 1 = (.pointer (some ⟨R, 0, none⟩)) := hV 1 (by decide)
      have e2 : x 2 = (.pointer (some ⟨R, 0, none⟩)) := hV 2 (by decide)
      have e3 : x 3 = (.agg #[.int .i64 P, .slice A n c]) := hV 3 (by decide)
      have e4 : x 4 = (.pointer (some ⟨R, 0, none⟩)) := hV 4 (by decide)
      obtain ⟨e5, k5⟩ := hV 5 (by decide)
      obtain ⟨e6, k6⟩ := hV 6 (by decide)
      obtain ⟨e7, k7⟩ := hV 7 (by decide)
      obtain ⟨e8, k8⟩ := hV 8 (by decide)
      obtain ⟨e10, k10⟩ := hV 10 (by decide)
      obtain ⟨⟨ts, bs, hkk, hbb⟩, hEE, hOO⟩ := hS; obtain ⟨q0, q1, q2, q3, q4⟩ := hkk.five
      go_simp
      exact hK.out _ _ _ rfl rfl ⟨rfl, k10⟩ (Below.refl _ _)
    simp only [List.setIfInBounds_toArray, List.set_cons_zero, List.set_cons_succ]
    refine fun w' bb hS hV => ?_
    have e0 : x 0 = (.pointer (some ⟨R, 0, none⟩)) := hV 0 (by decide)
    have e1 : x 1 = (.pointer (some ⟨R, 0, none⟩)) := hV 1 (by decide)
    have e2 : x 2 = (.pointer (some ⟨R, 0, none⟩)) := hV 2 (by decide)
    have e3 : x 3 = (.agg #[.int .i64 P, .slice A n c]) := hV 3 (by decide)
    have e4 : x 4 = (.pointer (some ⟨R, 0, none⟩)) := hV 4 (by decide)
    obtain ⟨e5, k5⟩ := hV 5 (by decide)
    obtain ⟨e6, k6⟩ := hV 6 (by decide)
    obtain ⟨e7, k7⟩ := hV 7 (by decide)
    obtain ⟨e8, k8⟩ := hV 8 (by decide)
    obtain ⟨e9, k9⟩ := hV 9 (by decide)
    obtain ⟨e10, k10⟩ := hV 10 (by decide)
    obtain ⟨e11, k11⟩ := hV 11 (by decide)
    obtain ⟨e12, k12⟩ := hV 12 (by decide)
    simp only [e0, e1, e2, e3, e4, e5, e6, e7, e8, e9, e10, e11, e12]
    clear e0 e1 e2 e3 e4 e5 e6 e7 e8 e9 e10 e11 e12
    refine wpAny_done (by kernel_rfl) ?_ _
    obtain ⟨hSS, hEE, hOO⟩ := hS
    have hkk := k12
    clear hSS hV k5 k6 k7 k8 k9 k10 k11 k12 hcat hmn
    cases hm : maskOf n u with
    | none =>
      have hEV : Hid (evE P sq n .atom (T.drop i) = none) := Lib.hid (by rw [HN.out, hm]; rfl)
      have hc1 : codeN none = 6 := rfl
      rw [hc1]
      have f4 := hkk.frozen 4
      have q4 := hkk.cell 4
      have HKK := Lib.hid hkk
      clear hkk
      go_wp2
      go_ret
      exact ⟨_, _, List.replicate (pw n) 0, i + 1 + D.length, true, rfl, HKK.out.set_ 4 _, ⟨List.length_replicate, NumsL.replicate (by omega) _⟩, hOO.ex (Ex.set HKK.out.lt 4 _) HKK.out (by decide), by omega, by have := HDL.out; omega, hEV.out, hEE.trans (Ex.set HKK.out.lt 4 _)⟩
    | some m =>
      have hmp : m < pw n := maskOf_lt hm
      have hEV : Hid (evE P sq n .atom (T.drop i) = some (bladeL n m, T.drop (i + 1 + D.length))) := Lib.hid (by rw [HN.out, hm]; rfl)
      have hc1 : codeN (some m) = 0 := rfl
      have hm1 : markI (some m) = (m : Int) := rfl
      rw [hc1, hm1]
      have b1 : (0 : Int) ≤ (m : Int) := by omega
      have b2 : (m : Int) < (pw n : Int) := by omega
      have fg := hOO.frozen_ m
      obtain ⟨z0, hz0⟩ := hOO.cellI hmp
      have hne : R ≠ g0 := by omega
      have HKK := Lib.hid hkk
      have HOO := Lib.hid hOO
      clear hkk hOO
      go_wp2
      go_ret
      refine ⟨_, _, bladeL n m, i + 1 + D.length, false, rfl, HKK.out.far hne _, ⟨bladeL_len n m, bladeL_nums hp n m⟩, ?_, by omega, by have := HDL.out; omega, hEV.out, hEE.setNew hg0 (Nat.le_of_lt HG) m _⟩
      have := (HOO.out.set2 m (.int .i64 1)).1
      rw [ints_set] at this
      exact this
  by_cases h40 : d = 40
  · subst h40
    have hnx := nxt_pk_some (cs := [40, 101]) (by decide) hd.symm (by decide)
    have hlt : i < T.length := pk_ne_end (by rw [← hd]; decide)
    have HN := Lib.hid (evE_atom_bra (P := P) (sq := sq) (n := n) hnx)
    clear hnx h101
    have hd9 : (pk (T.drop i)).toNat = 40 := by rw [← hd]; rfl
    clear hd
    go_enter Tryz.func167, Tryz.ntmps167
    obtain ⟨q0, q1, q2, q3, q4⟩ := hk.five
    go_wp2_with fail
    refine (hze w).mono ?_
    rintro e w0 ⟨A0, c0, rfl, hM0⟩
    have hk0 := hk.below hM0.b hk.lt
    have hE0 := (Ex.refl R w).then hM0.b (Nat.le_of_lt HG)
    have hO0 := hM0.2
    clear hze hM0 hk q0 q1 q2 q3 q4
    have hpk := peek_any P A n c T i false R w0 hT hk0
    rw [hd9] at hpk
    go_wp2_with fail
    refine hpk.mono ?_
    rintro e w2 ⟨rfl, hbp⟩
    have hk2 := hk0.below hbp hk0.lt
    have hE2 := hE0.then hbp (Nat.le_of_lt HG)
    have hO2 := hO0.below hbp
    clear hpk hbp hk0 hE0 hO0
    clear hd9
    have f3 := hk2.frozen 3
    have q3 := hk2.cell 3
    have W1 : wrap64 ((i : Int) + 1) = (i : Int) + 1 := by unfold wrap64; omega
    have hk3 : RsB (w2.setCell ⟨R, 3, none⟩ (.int .i64 ((i : Int) + 1))) R P A n c T (i + 1) false := hk2.set_ 3 _
    have hE3 := hE2.trans (Ex.set hk2.lt 3 (.int .i64 ((i : Int) + 1)))
    have hO3 := hO2.ex (Ex.set hk2.lt 3 (.int .i64 ((i : Int) + 1))) hk2 (by decide)
    go_wp2_with fail
    generalize w2.setCell ⟨R, 3, none⟩ (.int .i64 ((i : Int) + 1)) = w3 at hk3 hE3 hO3 ⊢
    clear f3 q3 hk2 hE2 hO2
    refine (hsum (i + 1) (by omega) (by omega) R w3 hA (hr.ex hE3 hA) hk3).mono ?_
    rintro e w4 ⟨A4, c4, x4, i4, b4, rfl, hk4, hx4, hO4, hl4, hl4b, hev4, hE4⟩
    have HEV := Lib.hid hev4
    have hE5 := hE3.trans hE4
    replace hO4 := hO4.base (B' := w.heap.size) hE3.size
    clear hev4 hE3 hE4 hk3 hO3 hsum
    have hpk := peek_any P A n c T i4 b4 R w4 hT hk4
    obtain ⟨d2, hd2⟩ : ∃ d2, d2 = pk (T.drop i4) := ⟨_, rfl⟩
    rw [← hd2] at hpk
    go_wp2_with fail
    refine hpk.mono ?_
    rintro e w5 ⟨rfl, hb5⟩
    have hk5 := hk4.below hb5 hk4.lt
    have hE6 := hE5.then hb5 (Nat.le_of_lt HG)
    have hO5 := hO4.below hb5
    clear hpk hb5 hk4 hE5 hO4
    by_cases h41 : d2 = 41
    · subst h41
      have hn3 := nxt_pk_some (cs := [41]) (by decide) hd2.symm (by decide)
      have hlt4 : i4 < T.length := pk_ne_end (by rw [← hd2]; decide)
      have hEV : Hid (evE P sq n .atom (T.drop i) = if b4 = true then none else some (x4, T.drop (i4 + 1))) := Lib.hid (by
        rw [HN.out, HEV.out]
        cases b4
        · show (nxt [41] (T.drop i4)).map _ = some (x4, T.drop (i4 + 1))
          rw [hn3]; rfl
        · rfl)
      have f3 := hk5.frozen 3
      have q3 := hk5.cell 3
      have W1 : wrap64 ((i4 : Int) + 1) = (i4 : Int) + 1 := by unfold wrap64; omega
      have HKK := Lib.hid hk5
      clear hn3 hd2 hk5
      go_wp2
      go_ret
      exact ⟨A4, c4, x4, i4 + 1, b4, rfl, HKK.out.set_ 3 _, hx4, hO5.ex (Ex.set HKK.out.lt 3 _) HKK.out (by decide), by omega, by omega, hEV.out, hE6.trans (Ex.set HKK.out.lt 3 _)⟩
    · have hn3 := nxt_pk_none (cs := [41]) (T := T) (i := i4) (by decide) (by rw [← hd2]; simp [h41])
      have hEV : Hid (evE P sq n .atom (T.drop i) = none) := Lib.hid (by
        rw [HN.out, HEV.out]
        cases b4
        · show (nxt [41] (T.drop i4)).map _ = none
          rw [hn3]; rfl
        · rfl)
      have e41 := u8_ne h41
      obtain ⟨z, hz⟩ : ∃ z : Nat, z = d2.toNat := ⟨_, rfl⟩
      rw [← hz] at e41 ⊢
      have c41 : ((z : Int) == 41) = false := by have : (41 : UInt8).toNat = 41 := rfl; simp; omega
      have n41 : ((z : Int) != 41) = true := by simp only [bne, c41]; rfl
      clear hz hd2 h41 e41 hn3
      have f4 := hk5.frozen 4
      have q4 := hk5.cell 4
      have HKK := Lib.hid hk5
      clear hk5
      go_wp2
      go_ret
      exact ⟨A4, c4, x4, i4, true, rfl, HKK.out.set_ 4 _, hx4, hO5.ex (Ex.set HKK.out.lt 4 _) HKK.out (by decide), by omega, by omega, hEV.out, hE6.trans (Ex.set HKK.out.lt 4 _)⟩
  · have hnx := nxt_pk_none (cs := [40, 101]) (T := T) (i := i) (by decide) (by rw [← hd]; simp [h40, h101])
    have HN := Lib.hid (evE_atom_num (P := P) (sq := sq) (n := n) hnx)
    have e40 := u8_ne h40
    have e101 := u8_ne h101
    obtain ⟨z, hz⟩ : ∃ z : Nat, z = d.toNat := ⟨_, rfl⟩
    have hzz : (pk (T.drop i)).toNat = z := by rw [hz, hd]
    rw [← hz] at e40 e101
    have c40 : ((z : Int) == 40) = false := by have : (40 : UInt8).toNat = 40 := rfl; simp; omega
    have c101 : ((z : Int) == 101) = false := by have : (101 : UInt8).toNat = 101 := rfl; simp; omega
    have hdl := dig_le (T.drop i)
    rw [List.length_drop] at hdl
    have hres : resL (T.drop i) = T.drop (i + (digL (T.drop i)).length) := by rw [← drop_dig, List.drop_drop]
    rw [hres] at HN
    have hva := valG_dig (digL_all (T.drop i))
    have hsd := fun wx (h : RsB wx R P A n c T i false) => sdigits_any P A n c T i false R wx hT hi h
    obtain ⟨u, hu⟩ : ∃ u, u = digL (T.drop i) := ⟨_, rfl⟩
    rw [← hu] at HN hva hsd hdl
    have hvl := fun wx => l01Value_any u wx (by omega)
    rw [hva] at hvl
    clear hz hd h40 h101 e40 e101 hnx hsum hres hva hu
    go_enter Tryz.func167, Tryz.ntmps167
    obtain ⟨q0, q1, q2, q3, q4⟩ := hk.five
    go_wp2_with fail
    refine (hze w).mono ?_
    rintro e w0 ⟨A0, c0, rfl, hM0⟩
    have hk0 := hk.below hM0.b hk.lt
    have hE0 := (Ex.refl R w).then hM0.b (Nat.le_of_lt HG)
    have hO0 := hM0.2
    clear hze hM0 hk q0 q1 q2 q3 q4
    have hpk := peek_any P A n c T i false R w0 hT hk0
    rw [hzz] at hpk
    go_wp2_with fail
    refine hpk.mono ?_
    rintro e w2 ⟨rfl, hbp⟩
    have hk2 := hk0.below hbp hk0.lt
    have hE2 := hE0.then hbp (Nat.le_of_lt HG)
    have hO2 := hO0.below hbp
    clear hpk hbp hk0 hE0 hO0
    have hpw : 0 < pw n := pw_pos n
    obtain ⟨g0, rfl, hg0, -⟩ : ∃ g0, A0 = some ⟨g0, 0, none⟩ ∧ w.heap.size ≤ g0 ∧ g0 < w2.heap.size := by
      rcases hO2.form with ⟨-, h0⟩ | h
      · omega
      · exact h
    go_wp2_with fail
    refine (hsd w2 hk2).mono ?_
    rintro e w3 ⟨rfl, hk3, hE3b⟩
    have hE3 := hE2.trans hE3b
    have hO3 := hO2.ex hE3b hk2 (by decide)
    clear hk2 hE2 hO2 hE3b hsd
    go_wp2_with fail
    refine (hvl _).mono ?_
    rintro e w4 ⟨rfl, rfl⟩
    clear hvl
    cases hF : numF u with
    | none =>
      have hEV : Hid (evE P sq n .atom (T.drop i) = none) := Lib.hid (by rw [HN.out, hF]; rfl)
      have hv : valV u = -1 := by unfold valV; rw [hF]
      rw [hv]
      have f4 := hk3.frozen 4
      have q4 := hk3.cell 4
      have HKK := Lib.hid hk3
      clear hk3
      go_wp2
      go_ret
      exact ⟨_, _, List.replicate (pw n) 0, i + u.length, true, rfl, HKK.out.set_ 4 _, ⟨List.length_replicate, NumsL.replicate (by omega) _⟩, hO3.ex (Ex.set HKK.out.lt 4 _) HKK.out (by decide), by omega, by omega, hEV.out, hE3.trans (Ex.set HKK.out.lt 4 _)⟩
    | some k =>
      have hv : valV u = (k : Int) := by unfold valV; rw [hF]
      rw [hv]
      have hEV : Hid (evE P sq n .atom (T.drop i) = some (scaleL P (bladeL n 0) ((k : Int) % P), T.drop (i + u.length))) := Lib.hid (by rw [HN.out, hF]; rfl)
      have dk : decide ((k : Int) < 0) = false := by simp
      have p0 : (P == 0) = false := by simp; omega
      have p1 : (P == -1) = false := by simp; omega
      have p2 : ¬ P = 0 := by omega
      have T1 : (k : Int).tmod P = (k : Int) % P := Int.tmod_eq_emod_of_nonneg (by omega)
      have hm0 := Int.emod_nonneg (k : Int) p2
      have hm1 := Int.emod_lt_of_pos (k : Int) (show 0 < P by omega)
      have W2 : wrap64 ((k : Int) % P) = (k : Int) % P := by unfold wrap64; omega
      have b2 : (0 : Int) < (pw n : Int) := by omega
      have fg := hO3.frozen_ 0
      obtain ⟨z0, hz0⟩ := hO3.cellI hpw
      have hne : R ≠ g0 := by omega
      obtain ⟨q0, q1, q2, q3, q4⟩ := hk3.five
      have HKK := Lib.hid hk3
      have HOO := Lib.hid hO3
      clear hk3 hO3 hv hF
      go_wp2
      go_ret
      refine ⟨_, _, scaleL P (bladeL n 0) ((k : Int) % P), i + u.length, false, rfl, HKK.out.far hne _, ⟨(scaleL_len _ _ _).trans (bladeL_len n 0), scaleL_nums (by omega) _ _⟩, ?_, by omega, by omega, hEV.out, hE3.setNew hg0 (Nat.le_of_lt HG) 0 _⟩
      have := (HOO.out.set2 0 (.int .i64 ((k : Int) % P))).1
      rw [ints_set, blade_scale (by omega)] at this
      exact this
end Go.Proofs.YticofgmmjecleaaGreatDoor
namespace Go.Proofs.YticofgmmjecleaaGreatDoor
open Go Go.RowKit
/-- The value is the text of the digits; they have been read. -/
def VDig (R : Nat) (P : Int) (A : Option Addr) (n c : Nat) (t : By) : VP :=
  ⟨fun v w => v = .string ⟨(digL t).toArray⟩ ∧ RdB w R P A n c (resL t) false, fun _ _ _ ⟨e, hk⟩ hb => ⟨e, hk.below hb hk.lt⟩⟩
/-- .. and the value is u. -/
def VAft (R : Nat) (P : Int) (A : Option Addr) (n c : Nat) (t : By) (u : Value) : VP :=
  ⟨fun v w => v = u ∧ RdB w R P A n c t false, fun _ _ _ ⟨e, hk⟩ hb => ⟨e, hk.below hb hk.lt⟩⟩
set_option maxHeartbeats 25600000 in
set_option maxRecDepth 8000 in
theorem ratom_any (P : Int) (sq : List Int) (A : Option Addr) (n c : Nat) (t : By) (hp : 2 ≤ P) (hp2 : P ≤ 13) (hn : n ≤ 6) (ht : t.length ≤ 1048576)
    (hsum : ∀ t' : By, t'.length < t.length → RdC 92 P sq A n c .sum t') : RdC 170 P sq A n c .atom t := by
  intro R w he hA hr hk
  have hpn : pw n ≤ 64 := pw_le hn
  have HG := hk.lt
  cases hnx : nxt [40, 101] t with
  | none =>
    have hcall := next_none P A n c t [40, 101] false R w he.here.e (by decide) hk hnx
    have HN := Lib.hid (evE_atom_num (P := P) (sq := sq) (n := n) hnx)
    have hdg := digits_any P A n c t false R w ht hk
    have hrl := resL_len t
    have hall := digL_all t
    have hdl : (digL t).length ≤ t.length := by have := congrArg List.length (dig_res t); rw [List.length_append] at this; omega
    obtain ⟨u, hu⟩ : ∃ u, u = digL t := ⟨_, rfl⟩
    rw [← hu] at HN hdg hall hdl
    clear hsum hnx hu
    go_enter Tryz.func170, Tryz.ntmps170
    go_wp2_with fail
    refine hcall.mono ?_
    rintro e w1 ⟨rfl, rfl⟩
    go_wp2_with fail
    refine hdg.mono ?_
    rintro e w2 ⟨rfl, hk2, hE2⟩
    clear hcall hdg
    have hpi := ParseInt_any u w2 (by omega) (he.on hE2.b).here
    go_wp2_with fail
    refine hpi.mono ?_
    rintro e w3 ⟨v, ev, rfl, hev, hb3⟩
    have hk3 := hk2.below hb3 hk2.lt
    have hE3 := hE2.then hb3 (Nat.le_of_lt HG)
    have hln : ∀ wx ty, (Builtin.len_ #[9] ty #[.string ⟨u.toArray⟩]).run Tryz.prog wx = .ok (.int .i64 u.length) wx := fun wx ty => str_len wx ty u
    clear hpi hb3 hE2 hk2
    rcases hev with ⟨rfl, hpar⟩ | ⟨⟨tp, p, rfl⟩, hbad⟩
    · by_cases h9 : u.length ≤ 9
      · obtain ⟨hv, hnum⟩ := num_ok hall hpar h9
        have d9 : decide ((9 : Int) < (u.length : Int)) = false := by simp; omega
        have hfm := FormatInt_any v (by omega) (by omega) w3 (he.on hE3.b).here.e
        obtain ⟨z, hz⟩ : ∃ z, z = Lib.itoa v := ⟨_, rfl⟩
        rw [← hz] at hfm hnum
        rcases hnum with ⟨hsame, hF⟩ | ⟨hne, hF⟩
        · subst hsame
          have hvn : ((v.toNat : Nat) : Int) = v := by omega
          have hEV : Hid (evE P sq n .atom t = some (scaleL P (bladeL n 0) (v % P), resL t)) := Lib.hid (by rw [HN.out, hF]; show some (scaleL P (bladeL n 0) (((v.toNat : Nat) : Int) % P), resL t) = _; rw [hvn])
          have hvP0 := Int.emod_nonneg v (show P ≠ 0 by omega)
          have hvP1 := Int.emod_lt_of_pos v (show 0 < P by omega)
          clear hz hpar hall HN hF hvn
          go_wp2_with fail
          refine hfm.mono ?_
          rintro e w5 ⟨rfl, hb5⟩
          have hk5 := hk3.below hb5 hk3.lt
          have hE5 := hE3.then hb5 (Nat.le_of_lt HG)
          clear hb5 hk3 hfm
          go_wp2_with fail
          refine wp_obs 19 [[], [0], [0, 1], [0, 1, 2], [0, 1, 2, 3], [], [5], [5, 6], [5, 6, 7], [5, 6, 7, 8], [], [10], [10, 11], [10, 11, 12], [10, 11, 12, 13], [], [10, 11, 12, 13, 14, 15], [0, 1, 2, 3, 4, 5, 6, 7, 8, 9, 10, 11, 12, 13, 14, 15, 16], [0, 1, 2, 3, 4, 5, 6, 7, 8, 9, 10, 11, 12, 13, 14, 15, 16, 17]] [VIs (.pointer (some ⟨R, 0, none⟩)), VIs (.pointer (some ⟨R, 0, none⟩)), VIs (.pointer (some ⟨R, 0, none⟩)), VIs (.agg #[.int .i64 P, .slice A n c]), VIs (.int .i64 (P)), VIs (.pointer (some ⟨R, 0, none⟩)), VIs (.pointer (some ⟨R, 0, none⟩)), VIs (.pointer (some ⟨R, 0, none⟩)), VIs (.agg #[.int .i64 P, .slice A n c]), VSl w5 (pw n) (bladeL n 0), VIs (.pointer (some ⟨R, 0, none⟩)), VIs (.pointer (some ⟨R, 0, none⟩)), VIs (.pointer (some ⟨R, 0, none⟩)), VIs (.agg #[.int .i64 P, .slice A n c]), VIs (.int .i64 (P)), VIs (.int .i64 (v)), VIs (.int .i64 (v % P)), VSl w5 (pw n) (scaleL P (bladeL n 0) (v % P)), VSl w5 (pw n) (scaleL P (bladeL n 0) (v % P))] (fun w' => RdB w' R P A n c (resL t) false ∧ Below w5.heap.size w5 w') (by kernel_rfl) (by kernel_rfl) (fun _ _ h hb => ⟨h.1.below hb h.1.lt, h.2.trans (hb.mono h.2.size)⟩) (⟨hk5.below (Below.refl _ _).drew hk5.lt, (Below.refl _ _).drew⟩) (fun x => ?_)
          refine obs_step (Eq.trans (by simp only [List.getElem?_toArray, List.getElem?_cons_zero]; exact rfl) rfl) rfl (fun w' hS hV K hK => ?_) ?_
          · obtain ⟨q0, q1, q2, q3⟩ := hS.1.four
            go_simp
            exact hK.out _ _ _ rfl rfl rfl (Below.refl _ _)
          simp only [List.setIfInBounds_toArray, List.set_cons_zero, List.set_cons_succ]
          refine obs_step (Eq.trans (by simp only [List.getElem?_toArray, List.getElem?_cons_succ, List.getElem?_cons_zero]; exact rfl) rfl) rfl (fun w' hS hV K hK => ?_) ?_
          · have e0 : x 0 = (.pointer (some ⟨R, 0, none⟩)) := hV 0 (by decide)
            obtain ⟨q0, q1, q2, q3⟩ := hS.1.four
            go_simp
            exact hK.out _ _ _ rfl rfl rfl (Below.refl _ _)
          simp only [List.setIfInBounds_toArray, List.set_cons_zero, List.set_cons_succ]
          refine obs_step (Eq.trans (by simp only [List.getElem?_toArray, List.getElem?_cons_succ, List.getElem?_cons_zero]; exact rfl) rfl) rfl (fun w' hS hV K hK => ?_) ?_
          · have e0 : x 0 = (.pointer (some ⟨R, 0, none⟩)) := hV 0 (by decide)
            have e1 : x 1 = (.pointer (some ⟨R, 0, none⟩)) := hV 1 (by decide)
            obtain ⟨q0, q1, q2, q3⟩ := hS.1.four
            go_simp
            exact hK.out _ _ _ rfl rfl rfl (Below.refl _ _)
          simp only [List.setIfInBounds_toArray, List.set_cons_zero, List.set_cons_succ]
          refine obs_step (Eq.trans (by simp only [List.getElem?_toArray, List.getElem?_cons_succ, List.getElem?_cons_zero]; exact rfl) rfl) rfl (fun w' hS hV K hK => ?_) ?_
          · have e0 : x 0 = (.pointer (some ⟨R, 0, none⟩)) := hV 0 (by decide)
            have e1 : x 1 = (.pointer (some ⟨R, 0, none⟩)) := hV 1 (by decide)
            have e2 : x 2 = (.pointer (some ⟨R, 0, none⟩)) := hV 2 (by decide)
            obtain ⟨q0, q1, q2, q3⟩ := hS.1.four
            go_simp
            exact hK.out _ _ _ rfl rfl rfl (Below.refl _ _)
          simp only [List.setIfInBounds_toArray, List.set_cons_zero, List.set_cons_succ]
          refine obs_step (Eq.trans (by simp only [List.getElem?_toArray, List.getElem?_cons_succ, List.getElem?_cons_zero]; exact rfl) rfl) rfl (fun w' hS hV K hK => ?_) ?_
          · have e0 : x 0 = (.pointer (some ⟨R, 0, none⟩)) := hV 0 (by decide)
            have e1 : x 1 = (.pointer (some ⟨R, 0, none⟩)) := hV 1 (by decide)
            have e2 : x 2 = (.pointer (some ⟨R, 0, none⟩)) := hV 2 (by decide)
            have e3 : x 3 = (.agg #[.int .i64 P, .slice A n c]) := hV 3 (by decide)
            obtain ⟨q0, q1, q2, q3⟩ := hS.1.four
            go_simp
            refine (field_any P A n c w').mono ?_
            rintro e v1 ⟨rfl, hb⟩
            exact hK.out _ _ _ rfl rfl rfl hb
          simp only [List.setIfInBounds_toArray, List.set_cons_zero, List.set_cons_succ]
          refine obs_step (Eq.trans (by simp only [List.getElem?_toArray, List.getElem?_cons_succ, List.getElem?_cons_zero]; exact rfl) rfl) rfl (fun w' hS hV K hK => ?_) ?_
          · obtain ⟨q0, q1, q2, q3⟩ := hS.1.four
            go_simp
            exact hK.out _ _ _ rfl rfl rfl (Below.refl _ _)
          simp only [List.setIfInBounds_toArray, List.set_cons_zero, List.set_cons_succ]
          refine obs_step (Eq.trans (by simp only [List.getElem?_toArray, List.getElem?_cons_succ, List.getElem?_cons_zero]; exact rfl) rfl) rfl (fun w' hS hV K hK => ?_) ?_
          · have e5 : x 5 = (.pointer (some ⟨R, 0, none⟩)) := hV 5 (by decide)
            obtain ⟨q0, q1, q2, q3⟩ := hS.1.four
            go_simp
            exact hK.out _ _ _ rfl rfl rfl (Below.refl _ _)
          simp only [List.setIfInBounds_toArray, List.set_cons_zero, List.set_cons_succ]
          refine obs_step (Eq.trans (by simp only [List.getElem?_toArray, List.getElem?_cons_succ, List.getElem?_cons_zero]; exact rfl) rfl) rfl (fun w' hS hV K hK => ?_) ?_
          · have e5 : x 5 = (.pointer (some ⟨R, 0, none⟩)) := hV 5 (by decide)
            have e6 : x 6 = (.pointer (some ⟨R, 0, none⟩)) := hV 6 (by decide)
            obtain ⟨q0, q1, q2, q3⟩ := hS.1.four
            go_simp
            exact hK.out _ _ _ rfl rfl rfl (Below.refl _ _)
          simp only [List.setIfInBounds_toArray, List.set_cons_zero, List.set_cons_succ]
          refine obs_step (Eq.trans (by simp only [List.getElem?_toArray, List.getElem?_cons_succ, List.getElem?_cons_zero]; exact rfl) rfl) rfl (fun w' hS hV K hK => ?_) ?_
          · have e5 : x 5 = (.pointer (some ⟨R, 0, none⟩)) := hV 5 (by decide)
            have e6 : x 6 = (.pointer (some ⟨R, 0, none⟩)) := hV 6 (by decide)
            have e7 : x 7 = (.pointer (some ⟨R, 0, none⟩)) := hV 7 (by decide)
            obtain ⟨q0, q1, q2, q3⟩ := hS.1.four
            go_simp
            exact hK.out _ _ _ rfl rfl rfl (Below.refl _ _)
          simp only [List.setIfInBounds_toArray, List.set_cons_zero, List.set_cons_succ]
          refine obs_step (Eq.trans (by simp only [List.getElem?_toArray, List.getElem?_cons_succ, List.getElem?_cons_zero]; exact rfl) rfl) rfl (fun w' hS hV K hK => ?_) ?_
          · have e5 : x 5 = (.pointer (some ⟨R, 0, none⟩)) := hV 5 (by decide)
            have e6 : x 6 = (.pointer (some ⟨R, 0, none⟩)) := hV 6 (by decide)
            have e7 : x 7 = (.pointer (some ⟨R, 0, none⟩)) := hV 7 (by decide)
            have e8 : x 8 = (.agg #[.int .i64 P, .slice A n c]) := hV 8 (by decide)
            obtain ⟨q0, q1, q2, q3⟩ := hS.1.four
            go_simp
            refine (one_any P A n c w' (by omega)).mono ?_
            rintro e v1 ⟨A9, c9, rfl, hM⟩
            exact hK.out _ _ _ rfl rfl ⟨A9, c9, rfl, hM.after hS.2⟩ hM.b
          simp only [List.setIfInBounds_toArray, List.set_cons_zero, List.set_cons_succ]
          refine obs_step (Eq.trans (by simp only [List.getElem?_toArray, List.getElem?_cons_succ, List.getElem?_cons_zero]; exact rfl) rfl) rfl (fun w' hS hV K hK => ?_) ?_
          · obtain ⟨q0, q1, q2, q3⟩ := hS.1.four
            go_simp
            exact hK.out _ _ _ rfl rfl rfl (Below.refl _ _)
          simp only [List.setIfInBounds_toArray, List.set_cons_zero, List.set_cons_succ]
          refine obs_step (Eq.trans (by simp only [List.getElem?_toArray, List.getElem?_cons_succ, List.getElem?_cons_zero]; exact rfl) rfl) rfl (fun w' hS hV K hK => ?_) ?_
          · have e10 : x 10 = (.pointer (some ⟨R, 0, none⟩)) := hV 10 (by decide)
            obtain ⟨q0, q1, q2, q3⟩ := hS.1.four
            go_simp
            exact hK.out _ _ _ rfl rfl rfl (Below.refl _ _)
          simp only [List.setIfInBounds_toArray, List.set_cons_zero, List.set_cons_succ]
          refine obs_step (Eq.trans (by simp only [List.getElem?_toArray, List.getElem?_cons_succ, List.getElem?_cons_zero]; exact rfl) rfl) rfl (fun w' hS hV K hK => ?_) ?_
          · have e10 : x 10 = (.pointer (some ⟨R, 0, none⟩)) := hV 10 (by decide)
            have e11 : x 11 = (.pointer (some ⟨R, 0, none⟩)) := hV 11 (by decide)
            obtain ⟨q0, q1, q2, q3⟩ := hS.1.four
            go_simp
            exact hK.out _ _ _ rfl rfl rfl (Below.refl _ _)
          simp only [List.setIfInBounds_toArray, List.set_cons_zero, List.set_cons_succ]
          refine obs_step (Eq.trans (by simp only [List.getElem?_toArray, List.getElem?_cons_succ, List.getElem?_cons_zero]; exact rfl) rfl) rfl (fun w' hS hV K hK => ?_) ?_
          · have e10 : x 10 = (.pointer (some ⟨R, 0, none⟩)) := hV 10 (by decide)
            have e11 : x 11 = (.pointer (some ⟨R, 0, none⟩)) := hV 11 (by decide)
            have e12 : x 12 = (.pointer (some ⟨R, 0, none⟩)) := hV 12 (by decide)
            obtain ⟨q0, q1, q2, q3⟩ := hS.1.four
            go_simp
            exact hK.out _ _ _ rfl rfl rfl (Below.refl _ _)
          simp only [List.setIfInBounds_toArray, List.set_cons_zero, List.set_cons_succ]
          refine obs_step (Eq.trans (by simp only [List.getElem?_toArray, List.getElem?_cons_succ, List.getElem?_cons_zero]; exact rfl) rfl) rfl (fun w' hS hV K hK => ?_) ?_
          · have e10 : x 10 = (.pointer (some ⟨R, 0, none⟩)) := hV 10 (by decide)
            have e11 : x 11 = (.pointer (some ⟨R, 0, none⟩)) := hV 11 (by decide)
            have e12 : x 12 = (.pointer (some ⟨R, 0, none⟩)) := hV 12 (by decide)
            have e13 : x 13 = (.agg #[.int .i64 P, .slice A n c]) := hV 13 (by decide)
            obtain ⟨q0, q1, q2, q3⟩ := hS.1.four
            go_simp
            refine (field_any P A n c w').mono ?_
            rintro e v1 ⟨rfl, hb⟩
            exact hK.out _ _ _ rfl rfl rfl hb
          simp only [List.setIfInBounds_toArray, List.set_cons_zero, List.set_cons_succ]
          refine obs_step (Eq.trans (by simp only [List.getElem?_toArray, List.getElem?_cons_succ, List.getElem?_cons_zero]; exact rfl) rfl) rfl (fun w' hS hV K hK => ?_) ?_
          · obtain ⟨q0, q1, q2, q3⟩ := hS.1.four
            go_simp
            exact hK.out _ _ _ rfl rfl rfl (Below.refl _ _)
          simp only [List.setIfInBounds_toArray, List.set_cons_zero, List.set_cons_succ]
          refine obs_step (Eq.trans (by simp only [List.getElem?_toArray, List.getElem?_cons_succ, List.getElem?_cons_zero]; exact rfl) rfl) rfl (fun w' hS hV K hK => ?_) ?_
          · have e10 : x 10 = (.pointer (some ⟨R, 0, none⟩)) := hV 10 (by decide)
            have e11 : x 11 = (.pointer (some ⟨R, 0, none⟩)) := hV 11 (by decide)
            have e12 : x 12 = (.pointer (some ⟨R, 0, none⟩)) := hV 12 (by decide)
            have e13 : x 13 = (.agg #[.int .i64 P, .slice A n c]) := hV 13 (by decide)
            have e14 : x 14 = (.int .i64 (P)) := hV 14 (by decide)
            have e15 : x 15 = (.int .i64 (v)) := hV 15 (by decide)
            obtain ⟨q0, q1, q2, q3⟩ := hS.1.four
            go_simp
            refine (num_any P v w' (by omega) hp2 (by omega) (by omega)).mono ?_
            rintro e v1 ⟨rfl, rfl⟩
            exact hK.out _ _ _ rfl rfl rfl (Below.refl _ _)
          simp only [List.setIfInBounds_toArray, List.set_cons_zero, List.set_cons_succ]
          refine obs_step (Eq.trans (by simp only [List.getElem?_toArray, List.getElem?_cons_succ, List.getElem?_cons_zero]; exact rfl) rfl) rfl (fun w' hS hV K hK => ?_) ?_
          · have e0 : x 0 = (.pointer (some ⟨R, 0, none⟩)) := hV 0 (by decide)
            have e1 : x 1 = (.pointer (some ⟨R, 0, none⟩)) := hV 1 (by decide)
            have e2 : x 2 = (.pointer (some ⟨R, 0, none⟩)) := hV 2 (by decide)
            have e3 : x 3 = (.agg #[.int .i64 P, .slice A n c]) := hV 3 (by decide)
            have e4 : x 4 = (.int .i64 (P)) := hV 4 (by decide)
            have e5 : x 5 = (.pointer (some ⟨R, 0, none⟩)) := hV 5 (by decide)
            have e6 : x 6 = (.pointer (some ⟨R, 0, none⟩)) := hV 6 (by decide)
            have e7 : x 7 = (.pointer (some ⟨R, 0, none⟩)) := hV 7 (by decide)
            have e8 : x 8 = (.agg #[.int .i64 P, .slice A n c]) := hV 8 (by decide)
            obtain ⟨A9, c9, e9, h9⟩ := hV 9 (by decide)
            have e10 : x 10 = (.pointer (some ⟨R, 0, none⟩)) := hV 10 (by decide)
            have e11 : x 11 = (.pointer (some ⟨R, 0, none⟩)) := hV 11 (by decide)
            have e12 : x 12 = (.pointer (some ⟨R, 0, none⟩)) := hV 12 (by decide)
            have e13 : x 13 = (.agg #[.int .i64 P, .slice A n c]) := hV 13 (by decide)
            have e14 : x 14 = (.int .i64 (P)) := hV 14 (by decide)
            have e15 : x 15 = (.int .i64 (v)) := hV 15 (by decide)
            have e16 : x 16 = (.int .i64 (v % P)) := hV 16 (by decide)
            obtain ⟨q0, q1, q2, q3⟩ := hS.1.four
            go_simp
            refine (scaled_any P A9 (pw n) c9 (v % P) _ w' hp hp2 (by omega) h9.rd (bladeL_nums hp n 0) (by omega) (by omega)).mono ?_
            rintro e v1 ⟨A9, c9, rfl, hM⟩
            exact hK.out _ _ _ rfl rfl ⟨A9, c9, rfl, hM.after hS.2⟩ hM.b
          simp only [List.setIfInBounds_toArray, List.set_cons_zero, List.set_cons_succ]
          refine obs_step (Eq.trans (by simp only [List.getElem?_toArray, List.getElem?_cons_succ, List.getElem?_cons_zero]; exact rfl) rfl) rfl (fun w' hS hV K hK => ?_) ?_
          · have e0 : x 0 = (.pointer (some ⟨R, 0, none⟩)) := hV 0 (by decide)
            have e1 : x 1 = (.pointer (some ⟨R, 0, none⟩)) := hV 1 (by decide)
            have e2 : x 2 = (.pointer (some ⟨R, 0, none⟩)) := hV 2 (by decide)
            have e3 : x 3 = (.agg #[.int .i64 P, .slice A n c]) := hV 3 (by decide)
            have e4 : x 4 = (.int .i64 (P)) := hV 4 (by decide)
            have e5 : x 5 = (.pointer (some ⟨R, 0, none⟩)) := hV 5 (by decide)
            have e6 : x 6 = (.pointer (some ⟨R, 0, none⟩)) := hV 6 (by decide)
            have e7 : x 7 = (.pointer (some ⟨R, 0, none⟩)) := hV 7 (by decide)
            have e8 : x 8 = (.agg #[.int .i64 P, .slice A n c]) := hV 8 (by decide)
            obtain ⟨A9, c9, e9, h9⟩ := hV 9 (by decide)
            have e10 : x 10 = (.pointer (some ⟨R, 0, none⟩)) := hV 10 (by decide)
            have e11 : x 11 = (.pointer (some ⟨R, 0, none⟩)) := hV 11 (by decide)
            have e12 : x 12 = (.pointer (some ⟨R, 0, none⟩)) := hV 12 (by decide)
            have e13 : x 13 = (.agg #[.int .i64 P, .slice A n c]) := hV 13 (by decide)
            have e14 : x 14 = (.int .i64 (P)) := hV 14 (by decide)
            have e15 : x 15 = (.int .i64 (v)) := hV 15 (by decide)
            have e16 : x 16 = (.int .i64 (v % P)) := hV 16 (by decide)
            obtain ⟨A17, c17, e17, h17⟩ := hV 17 (by decide)
            obtain ⟨q0, q1, q2, q3⟩ := hS.1.four
            go_simp
            exact hK.out _ _ _ rfl rfl ⟨_, _, rfl, h17⟩ (Below.refl _ _)
          simp only [List.setIfInBounds_toArray, List.set_cons_zero, List.set_cons_succ]
          refine fun w' hS hV => ?_
          have e0 : x 0 = (.pointer (some ⟨R, 0, none⟩)) := hV 0 (by decide)
          have e1 : x 1 = (.pointer (some ⟨R, 0, none⟩)) := hV 1 (by decide)
          have e2 : x 2 = (.pointer (some ⟨R, 0, none⟩)) := hV 2 (by decide)
          have e3 : x 3 = (.agg #[.int .i64 P, .slice A n c]) := hV 3 (by decide)
          have e4 : x 4 = (.int .i64 (P)) := hV 4 (by decide)
          have e5 : x 5 = (.pointer (some ⟨R, 0, none⟩)) := hV 5 (by decide)
          have e6 : x 6 = (.pointer (some ⟨R, 0, none⟩)) := hV 6 (by decide)
          have e7 : x 7 = (.pointer (some ⟨R, 0, none⟩)) := hV 7 (by decide)
          have e8 : x 8 = (.agg #[.int .i64 P, .slice A n c]) := hV 8 (by decide)
          obtain ⟨A9, c9, e9, h9⟩ := hV 9 (by decide)
          have e10 : x 10 = (.pointer (some ⟨R, 0, none⟩)) := hV 10 (by decide)
          have e11 : x 11 = (.pointer (some ⟨R, 0, none⟩)) := hV 11 (by decide)
          have e12 : x 12 = (.pointer (some ⟨R, 0, none⟩)) := hV 12 (by decide)
          have e13 : x 13 = (.agg #[.int .i64 P, .slice A n c]) := hV 13 (by decide)
          have e14 : x 14 = (.int .i64 (P)) := hV 14 (by decide)
          have e15 : x 15 = (.int .i64 (v)) := hV 15 (by decide)
          have e16 : x 16 = (.int .i64 (v % P)) := hV 16 (by decide)
          obtain ⟨A17, c17, e17, h17⟩ := hV 17 (by decide)
          obtain ⟨A18, c18, e18, h18⟩ := hV 18 (by decide)
          simp only [e0, e1, e2, e3, e4, e5, e6, e7, e8, e9, e10, e11, e12, e13, e14, e15, e16, e17, e18]
          clear e0 e1 e2 e3 e4 e5 e6 e7 e8 e9 e10 e11 e12 e13 e14 e15 e16 e17 e18
          refine wpAny_done (by kernel_rfl) ?_ _
          have hEE := hE5.then hS.2 (Nat.le_of_lt HG)
          have hkk := hS.1
          clear hS hV
          go_wp2
          go_ret
          exact ⟨A18, c18, scaleL P (bladeL n 0) (v % P), resL t, false, rfl, hkk, ⟨(scaleL_len _ _ _).trans (bladeL_len n 0), scaleL_nums (by omega) _ _⟩, h18.2.base hE5.size, hrl, hEV.out, hEE⟩
        · have hzu : (z == u) = false := by simpa using hne
          have hEV : Hid (evE P sq n .atom t = none) := Lib.hid (by rw [HN.out, hF]; rfl)
          clear hz hpar hall hF hne
          go_wp2_with fail
          refine hfm.mono ?_
          rintro e w5 ⟨rfl, hb5⟩
          have hk5 := hk3.below hb5 hk3.lt
          have hE5 := hE3.then hb5 (Nat.le_of_lt HG)
          clear hb5 hk3 hfm hE3
          go_wp2_with fail
          refine (fail_any P A n c (resL t) _ R _ hn hk5).mono ?_
          rintro e w9 ⟨A9, c9, rfl, hk9, hO9, hE9⟩
          go_wp2
          go_ret
          exact ⟨A9, c9, List.replicate (pw n) 0, (resL t), true, rfl, hk9, ⟨List.length_replicate, NumsL.replicate (by omega) _⟩, hO9.base hE5.size, by omega, hEV.out, hE5.trans hE9⟩
      · have d9 : decide ((9 : Int) < (u.length : Int)) = true := by simp; omega
        have hF := num_long (w := u) (by omega)
        have hEV : Hid (evE P sq n .atom t = none) := Lib.hid (by rw [HN.out, hF]; rfl)
        clear hpar hall hF
        go_wp2_with fail
        refine (fail_any P A n c (resL t) _ R _ hn hk3).mono ?_
        rintro e w9 ⟨A9, c9, rfl, hk9, hO9, hE9⟩
        go_wp2
        go_ret
        exact ⟨A9, c9, List.replicate (pw n) 0, (resL t), true, rfl, hk9, ⟨List.length_replicate, NumsL.replicate (by omega) _⟩, hO9.base hE3.size, by omega, hEV.out, hE3.trans hE9⟩
    · have hF := num_bad hall hbad
      have hEV : Hid (evE P sq n .atom t = none) := Lib.hid (by rw [HN.out, hF]; rfl)
      clear hbad hall hF
      go_wp2_with fail
      refine (fail_any P A n c (resL t) _ R _ hn hk3).mono ?_
      rintro e w9 ⟨A9, c9, rfl, hk9, hO9, hE9⟩
      go_wp2
      go_ret
      exact ⟨A9, c9, List.replicate (pw n) 0, (resL t), true, rfl, hk9, ⟨List.length_replicate, NumsL.replicate (by omega) _⟩, hO9.base hE3.size, by omega, hEV.out, hE3.trans hE9⟩
  | some q =>
    obtain ⟨d, t2⟩ := q
    have hcall := next_some P A n c t [40, 101] false R w d t2 he.here.e (by decide) hk hnx
    have hat := nxt_at hnx
    have hlt2 : t2.length < t.length := by rw [nxt_len hnx]; omega
    rcases hat with rfl | rfl
    · have HN := Lib.hid (evE_atom_bra (P := P) (sq := sq) (n := n) hnx)
      clear hnx
      go_enter Tryz.func170, Tryz.ntmps170
      go_wp2_with fail
      refine hcall.mono ?_
      rintro e w2 ⟨rfl, hk2, hE2⟩
      clear hcall
      have hcall := hsum t2 hlt2 R w2 (he.on hE2.b) hA (hr.ex hE2 hA) hk2
      go_wp2_with fail
      refine hcall.mono ?_
      rintro e w3 ⟨A3, c3, x3, t3, b3, rfl, hk3, hx3, hO3, hl3, hev3, hE3⟩
      have HEV := Lib.hid hev3
      have hE4 := hE2.trans hE3
      replace hO3 := hO3.base (B' := w.heap.size) hE2.size
      clear hcall hev3 hE2 hE3 hk2
      cases hn3 : nxt [41] t3 with
      | none =>
        have hcall := next_none P A n c t3 [41] b3 R w3 (he.on hE4.b).here.e (by decide) hk3 hn3
        have hEV : Hid (evE P sq n .atom t = none) := Lib.hid (by
          rw [HN.out, HEV.out]
          cases b3
          · show (nxt [41] t3).map _ = none
            rw [hn3]; rfl
          · rfl)
        clear hn3
        go_wp2_with fail
        refine hcall.mono ?_
        rintro e w4 ⟨rfl, rfl⟩
        go_wp2_with fail
        refine (fail_any P A n c t3 _ R _ hn hk3).mono ?_
        rintro e w9 ⟨A9, c9, rfl, hk9, hO9, hE9⟩
        go_wp2
        go_ret
        exact ⟨A9, c9, List.replicate (pw n) 0, t3, true, rfl, hk9, ⟨List.length_replicate, NumsL.replicate (by omega) _⟩, hO9.base hE4.size, by omega, hEV.out, hE4.trans hE9⟩
      | some q3 =>
        obtain ⟨d3, t4⟩ := q3
        have hcall := next_some P A n c t3 [41] b3 R w3 d3 t4 (he.on hE4.b).here.e (by decide) hk3 hn3
        have h41 : d3 = 41 := by have := (nxt_some hn3).2; simpa using this
        subst h41
        have hln := nxt_len hn3
        have hEV : Hid (evE P sq n .atom t = if b3 = true then none else some (x3, t4)) := Lib.hid (by
          rw [HN.out, HEV.out]
          cases b3
          · show (nxt [41] t3).map _ = some (x3, t4)
            rw [hn3]; rfl
          · rfl)
        clear hn3
        go_wp2_with fail
        refine hcall.mono ?_
        rintro e w4 ⟨rfl, hk4, hE5⟩
        have hO4 := hO3.ex hE5 hk3 (by decide)
        go_wp2
        go_ret
        exact ⟨A3, c3, x3, t4, b3, rfl, hk4, hx3, hO4, by omega, hEV.out, hE4.trans hE5⟩
    · have HN := Lib.hid (evE_atom_name (P := P) (sq := sq) (n := n) hnx)
      have hrl := resL_len t2
      have hdl : (digL t2).length ≤ t2.length := by have := congrArg List.length (dig_res t2); rw [List.length_append] at this; omega
      have hcat := fun wx => cat_bs (P := Tryz.prog) wx [101] (digL t2) (by simp) (by omega)
      obtain ⟨u, hu⟩ : ∃ u, u = 101 :: digL t2 := ⟨_, rfl⟩
      have hcu : ([101] ++ digL t2 : By) = u := hu.symm
      rw [hcu] at hcat
      rw [← hu] at HN
      clear hnx hu hcu
      go_enter Tryz.func170, Tryz.ntmps170
      go_wp2_with fail
      refine hcall.mono ?_
      rintro e w2 ⟨rfl, hk2, hE2⟩
      clear hcall hdl
      go_wp2_with fail
      refine wp_obsK 13 (fun w w' => Ex R w w' ∧ ∃ t b, RdB w' R P A n c t b) [[], [0], [0, 1], [0, 1, 2], [], [4], [4, 5], [0, 1, 2, 3, 4, 5, 6], [0, 1, 2, 3, 4, 5, 6, 7], [0, 1, 2, 3, 4, 5, 6, 7, 8], [0, 1, 2, 3, 4, 5, 6, 7, 8], [0, 1, 2, 3, 4, 5, 6, 7, 8, 9], [0, 1, 2, 3, 4, 5, 6, 7, 8, 10]] [[], [], [], [], [], [99], [], [], [], [], [], [], []] (fun x => [VIs (.pointer (some ⟨R, 0, none⟩)), VIs (.pointer (some ⟨R, 0, none⟩)), VIs (.pointer (some ⟨R, 0, none⟩)), VIs (.agg #[.int .i64 P, .slice A n c]), VIs (.pointer (some ⟨R, 0, none⟩)), VDig R P A n c t2, VAft R P A n c (resL t2) (.string ⟨u.toArray⟩), VAft R P A n c (resL t2) (.tuple #[.int .i64 (markI (maskOf n u)), .bool (maskOf n u).isSome]), VAft R P A n c (resL t2) (.tuple #[.int .i64 (markI (maskOf n u)), .bool (maskOf n u).isSome]), VAft R P A n c (resL t2) (.int .i64 (markI (maskOf n u))), VAft R P A n c (resL t2) (.bool (maskOf n u).isSome), VAft R P A n c (resL t2) (.int .i64 (markI (maskOf n u))), VAft R P A n c (resL t2) (.bool (maskOf n u).isSome)]) 5 (fun b w' => SRd R P A n c t2 b w' ∧ Ex R w w') (by kernel_rfl) (by kernel_rfl) (fun x x' j hx => by
          rcases j with _ | _ | _ | _ | _ | _ | _ | _ | _ | _ | _ | _ | _ | j
          · rfl
          · rfl
          · rfl
          · rfl
          · rfl
          · rfl
          · rfl
          · rfl
          · rfl
          · rfl
          · rfl
          · rfl
          · rfl
          · rfl)
        (weak_ofR [0, 1, 2, 3, 4] (by decide) (fun k hk x v w w' hp hr => by
          simp only [List.mem_cons, List.not_mem_nil, or_false] at hk
          rcases hk with rfl | rfl | rfl | rfl | rfl
          · exact hp
          · exact hp
          · exact hp
          · exact hp
          · exact hp)) (fun j b _ w' h hst => hst.eitherK 5 (only_at (by decide)) (fun hb => ⟨h.1.below _ hb, h.2.then hb (Nat.le_of_lt HG)⟩) (fun e hr => ⟨SRd.rel b e hr.2, h.2.trans hr.1⟩)) (⟨⟨t2, false, hk2.below (Below.refl _ _).drew hk2.lt, fun _ => ⟨rfl, rfl⟩⟩, hE2.then (Below.refl _ _).drew (Nat.le_of_lt HG)⟩) (fun x => ?_)
      refine obs_stepK (Eq.trans (by simp only [List.getElem?_toArray, List.getElem?_cons_zero]; exact rfl) rfl) rfl (fun b w' hb0 hS hV K hK => ?_) ?_
      · obtain ⟨⟨ts, bs, hkk, hbb⟩, hEE⟩ := hS; obtain ⟨q0, q1, q2, q3⟩ := hkk.four
        go_simp
        exact hK.out _ _ _ rfl rfl rfl (Below.refl _ _)
      simp only [List.setIfInBounds_toArray, List.set_cons_zero, List.set_cons_succ]
      refine obs_stepK (Eq.trans (by simp only [List.getElem?_toArray, List.getElem?_cons_succ, List.getElem?_cons_zero]; exact rfl) rfl) rfl (fun b w' hb0 hS hV K hK => ?_) ?_
      · have e0 : x 0 = (.pointer (some ⟨R, 0, none⟩)) := hV 0 (by decide)
        obtain ⟨⟨ts, bs, hkk, hbb⟩, hEE⟩ := hS; obtain ⟨q0, q1, q2, q3⟩ := hkk.four
        go_simp
        exact hK.out _ _ _ rfl rfl rfl (Below.refl _ _)
      simp only [List.setIfInBounds_toArray, List.set_cons_zero, List.set_cons_succ]
      refine obs_stepK (Eq.trans (by simp only [List.getElem?_toArray, List.getElem?_cons_succ, List.getElem?_cons_zero]; exact rfl) rfl) rfl (fun b w' hb0 hS hV K hK => ?_) ?_
      · have e0 : x 0 = (.pointer (some ⟨R, 0, none⟩)) := hV 0 (by decide)
        have e1 : x 1 = (.pointer (some ⟨R, 0, none⟩)) := hV 1 (by decide)
        obtain ⟨⟨ts, bs, hkk, hbb⟩, hEE⟩ := hS; obtain ⟨q0, q1, q2, q3⟩ := hkk.four
        go_simp
        exact hK.out _ _ _ rfl rfl rfl (Below.refl _ _)
      simp only [List.setIfInBounds_toArray, List.set_cons_zero, List.set_cons_succ]
      refine obs_stepK (Eq.trans (by simp only [List.getElem?_toArray, List.getElem?_cons_succ, List.getElem?_cons_zero]; exact rfl) rfl) rfl (fun b w' hb0 hS hV K hK => ?_) ?_
      · have e0 : x 0 = (.pointer (some ⟨R, 0, none⟩)) := hV 0 (by decide)
        have e1 : x 1 = (.pointer (some ⟨R, 0, none⟩)) := hV 1 (by decide)
        have e2 : x 2 = (.pointer (some ⟨R, 0, none⟩)) := hV 2 (by decide)
        obtain ⟨⟨ts, bs, hkk, hbb⟩, hEE⟩ := hS; obtain ⟨q0, q1, q2, q3⟩ := hkk.four
        go_simp
        exact hK.out _ _ _ rfl rfl rfl (Below.refl _ _)
      simp only [List.setIfInBounds_toArray, List.set_cons_zero, List.set_cons_succ]
      refine obs_stepK (Eq.trans (by simp only [List.getElem?_toArray, List.getElem?_cons_succ, List.getElem?_cons_zero]; exact rfl) rfl) rfl (fun b w' hb0 hS hV K hK => ?_) ?_
      · obtain ⟨⟨ts, bs, hkk, hbb⟩, hEE⟩ := hS; obtain ⟨q0, q1, q2, q3⟩ := hkk.four
        go_simp
        exact hK.out _ _ _ rfl rfl rfl (Below.refl _ _)
      simp only [List.setIfInBounds_toArray, List.set_cons_zero, List.set_cons_succ]
      refine obs_stepK (Eq.trans (by simp only [List.getElem?_toArray, List.getElem?_cons_succ, List.getElem?_cons_zero]; exact rfl) rfl) rfl (fun b w' hb0 hS hV K hK => ?_) ?_
      · have e4 : x 4 = (.pointer (some ⟨R, 0, none⟩)) := hV 4 (by decide)
        obtain ⟨⟨ts, bs, hkk, hbb⟩, hEE⟩ := hS; obtain ⟨q0, q1, q2, q3⟩ := hkk.four
        obtain ⟨e8, e9⟩ := hbb (hb0 rfl)
        rw [e8, e9] at hkk
        go_simp
        refine (digits_any P A n c t2 false R w' (by omega) hkk).mono ?_
        rintro e v1 ⟨rfl, hk8, hE8⟩
        exact hK.out _ _ _ rfl rfl ⟨rfl, hk8⟩ (StepR.rel rfl ⟨hE8, _, _, hk8⟩)
      simp only [List.setIfInBounds_toArray, List.set_cons_zero, List.set_cons_succ]
      refine obs_stepK (Eq.trans (by simp only [List.getElem?_toArray, List.getElem?_cons_succ, List.getElem?_cons_zero]; exact rfl) rfl) rfl (fun b w' hb0 hS hV K hK => ?_) ?_
      · have e4 : x 4 = (.pointer (some ⟨R, 0, none⟩)) := hV 4 (by decide)
        obtain ⟨e5, k5⟩ := hV 5 (by decide)
        obtain ⟨⟨ts, bs, hkk, hbb⟩, hEE⟩ := hS; obtain ⟨q0, q1, q2, q3⟩ := hkk.four
        go_simp
        exact hK.out _ _ _ rfl rfl ⟨rfl, k5⟩ (Below.refl _ _)
      simp only [List.setIfInBounds_toArray, List.set_cons_zero, List.set_cons_succ]
      refine obs_stepK (Eq.trans (by simp only [List.getElem?_toArray, List.getElem?_cons_succ, List.getElem?_cons_zero]; exact rfl) rfl) rfl (fun b w' hb0 hS hV K hK => ?_) ?_
      · have e0 : x 0 = (.pointer (some ⟨R, 0, none⟩)) := hV 0 (by decide)
        have e1 : x 1 = (.pointer (some ⟨R, 0, none⟩)) := hV 1 (by decide)
        have e2 : x 2 = (.pointer (some ⟨R, 0, none⟩)) := hV 2 (by decide)
        have e3 : x 3 = (.agg #[.int .i64 P, .slice A n c]) := hV 3 (by decide)
        have e4 : x 4 = (.pointer (some ⟨R, 0, none⟩)) := hV 4 (by decide)
        obtain ⟨e5, k5⟩ := hV 5 (by decide)
        obtain ⟨e6, k6⟩ := hV 6 (by decide)
        obtain ⟨⟨ts, bs, hkk, hbb⟩, hEE⟩ := hS; obtain ⟨q0, q1, q2, q3⟩ := hkk.four
        go_simp
        refine (named_any P A n c u w' hn).mono ?_
        rintro e v1 ⟨rfl, hb⟩
        exact hK.out _ _ _ rfl rfl ⟨rfl, k6.below hb k6.lt⟩ hb
      simp only [List.setIfInBounds_toArray, List.set_cons_zero, List.set_cons_succ]
      refine obs_stepK (Eq.trans (by simp only [List.getElem?_toArray, List.getElem?_cons_succ, List.getElem?_cons_zero]; exact rfl) rfl) rfl (fun b w' hb0 hS hV K hK => ?_) ?_
      · have e0 : x 0 = (.pointer (some ⟨R, 0, none⟩)) := hV 0 (by decide)
        have e1 : x 1 = (.pointer (some ⟨R, 0, none⟩)) := hV 1 (by decide)
        have e2 : x 2 = (.pointer (some ⟨R, 0, none⟩)) := hV 2 (by decide)
        have e3 : x 3 = (.agg #[.int .i64 P, .slice A n c]) := hV 3 (by decide)
        have e4 : x 4 = (.pointer (some ⟨R, 0, none⟩)) := hV 4 (by decide)
        obtain ⟨e5, k5⟩ := hV 5 (by decide)
        obtain ⟨e6, k6⟩ := hV 6 (by decide)
        obtain ⟨e7, k7⟩ := hV 7 (by decide)
        obtain ⟨⟨ts, bs, hkk, hbb⟩, hEE⟩ := hS; obtain ⟨q0, q1, q2, q3⟩ := hkk.four
        go_simp
        exact hK.out _ _ _ rfl rfl ⟨rfl, k7⟩ (Below.refl _ _)
      simp only [List.setIfInBounds_toArray, List.set_cons_zero, List.set_cons_succ]
      refine obs_stepK (Eq.trans (by simp only [List.getElem?_toArray, List.getElem?_cons_succ, List.getElem?_cons_zero]; exact rfl) rfl) rfl (fun b w' hb0 hS hV K hK => ?_) ?_
      · have e0 : x 0 = (.pointer (some ⟨R, 0, none⟩)) := hV 0 (by decide)
        have e1 : x 1 = (.pointer (some ⟨R, 0, none⟩)) := hV 1 (by decide)
        have e2 : x 2 = (.pointer (some ⟨R, 0, none⟩)) := hV 2 (by decide)
        have e3 : x 3 = (.agg #[.int .i64 P, .slice A n c]) := hV 3 (by decide)
        have e4 : x 4 = (.pointer (some ⟨R, 0, none⟩)) := hV 4 (by decide)
        obtain ⟨e5, k5⟩ := hV 5 (by decide)
        obtain ⟨e6, k6⟩ := hV 6 (by decide)
        obtain ⟨e7, k7⟩ := hV 7 (by decide)
        obtain ⟨e8, k8⟩ := hV 8 (by decide)
        obtain ⟨⟨ts, bs, hkk, hbb⟩, hEE⟩ := hS; obtain ⟨q0, q1, q2, q3⟩ := hkk.four
        go_simp
        exact hK.out _ _ _ rfl rfl ⟨rfl, k8⟩ (Below.refl _ _)
      simp only [List.setIfInBounds_toArray, List.set_cons_zero, List.set_cons_succ]
      refine obs_stepK (Eq.trans (by simp only [List.getElem?_toArray, List.getElem?_cons_succ, List.getElem?_cons_zero]; exact rfl) rfl) rfl (fun b w' hb0 hS hV K hK => ?_) ?_
      · have e0 : x 0 = (.pointer (some ⟨R, 0, none⟩)) := hV 0 (by decide)
        have e1 : x 1 = (.pointer (some ⟨R, 0, none⟩)) := hV 1 (by decide)
        have e2 : x 2 = (.pointer (some ⟨R, 0, none⟩)) := hV 2 (by decide)
        have e3 : x 3 = (.agg #[.int .i64 P, .slice A n c]) := hV 3 (by decide)
        have e4 : x 4 = (.pointer (some ⟨R, 0, none⟩)) := hV 4 (by decide)
        obtain ⟨e5, k5⟩ := hV 5 (by decide)
        obtain ⟨e6, k6⟩ := hV 6 (by decide)
        obtain ⟨e7, k7⟩ := hV 7 (by decide)
        obtain ⟨e8, k8⟩ := hV 8 (by decide)
        obtain ⟨⟨ts, bs, hkk, hbb⟩, hEE⟩ := hS; obtain ⟨q0, q1, q2, q3⟩ := hkk.four
        go_simp
        exact hK.out _ _ _ rfl rfl ⟨rfl, k8⟩ (Below.refl _ _)
      simp only [List.setIfInBounds_toArray, List.set_cons_zero, List.set_cons_succ]
      refine obs_stepK (Eq.trans (by simp only [List.getElem?_toArray, List.getElem?_cons_succ, List.getElem?_cons_zero]; exact rfl) rfl) rfl (fun b w' hb0 hS hV K hK => ?_) ?_
      · have e0 : x 0 = (.pointer (some ⟨R, 0, none⟩)) := hV 0 (by decide)
        have e1 : x 1 = (.pointer (some ⟨R, 0, none⟩)) := hV 1 (by decide)
        have e2 : x 2 = (.pointer (some ⟨R, 0, none⟩)) := hV 2 (by decide)
        have e3 : x 3 = (.agg #[.int .i64 P, .slice A n c]) := hV 3 (by decide)
        have e4 : x 4 = (.pointer (some ⟨R, 0, none⟩)) := hV 4 (by decide)
        obtain ⟨e5, k5⟩ := hV 5 (by decide)
        obtain ⟨e6, k6⟩ := hV 6 (by decide)
        obtain ⟨e7, k7⟩ := hV 7 (by decide)
        obtain ⟨e8, k8⟩ := hV 8 (by decide)
        obtain ⟨e9, k9⟩ := hV 9 (by decide)
        obtain ⟨⟨ts, bs, hkk, hbb⟩, hEE⟩ := hS; obtain ⟨q0, q1, q2, q3⟩ := hkk.four
        go_simp
        exact hK.out _ _ _ rfl rfl ⟨rfl, k9⟩ (Below.refl _ _)
      simp only [List.setIfInBounds_toArray, List.set_cons_zero, List.set_cons_succ]
      refine obs_stepK (Eq.trans (by simp only [List.getElem?_toArray, List.getElem?_cons_succ, List.getElem?_cons_zero]; exact rfl) rfl) rfl (fun b w' hb0 hS hV K hK => ?_) ?_
      · have e0 : x 0 = (.pointer (some ⟨R, 0, none⟩)) := hV 0 (by decide)
        have e1 : x 1 = (.pointer (some ⟨R, 0, none⟩)) := hV 1 (by decide)
        have e2 : x 2 = (.pointer (some ⟨R, 0, none⟩)) := hV 2 (by decide)
        have e3 : x 3 = (.agg #[.int .i64 P, .slice A n c]) := hV 3 (by decide)
        have e4 : x 4 = (.pointer (some ⟨R, 0, none⟩)) := hV 4 (by decide)
        obtain ⟨e5, k5⟩ := hV 5 (by decide)
        obtain ⟨e6, k6⟩ := hV 6 (by decide)
        obtain ⟨e7, k7⟩ := hV 7 (by decide)
        obtain ⟨e8, k8⟩ := hV 8 (by decide)
        obtain ⟨e10, k10⟩ := hV 10 (by decide)
        obtain ⟨⟨ts, bs, hkk, hbb⟩, hEE⟩ := hS; obtain ⟨q0, q1, q2, q3⟩ := hkk.four
        go_simp
        exact hK.out _ _ _ rfl rfl ⟨rfl, k10⟩ (Below.refl _ _)
      simp only [List.setIfInBounds_toArray, List.set_cons_zero, List.set_cons_succ]
      refine fun w' bb hS hV => ?_
      have e0 : x 0 = (.pointer (some ⟨R, 0, none⟩)) := hV 0 (by decide)
      have e1 : x 1 = (.pointer (some ⟨R, 0, none⟩)) := hV 1 (by decide)
      have e2 : x 2 = (.pointer (some ⟨R, 0, none⟩)) := hV 2 (by decide)
      have e3 : x 3 = (.agg #[.int .i64 P, .slice A n c]) := hV 3 (by decide)
      have e4 : x 4 = (.pointer (some ⟨R, 0, none⟩)) := hV 4 (by decide)
      obtain ⟨e5, k5⟩ := hV 5 (by decide)
      obtain ⟨e6, k6⟩ := hV 6 (by decide)
      obtain ⟨e7, k7⟩ := hV 7 (by decide)
      obtain ⟨e8, k8⟩ := hV 8 (by decide)
      obtain ⟨e9, k9⟩ := hV 9 (by decide)
      obtain ⟨e10, k10⟩ := hV 10 (by decide)
      obtain ⟨e11, k11⟩ := hV 11 (by decide)
      obtain ⟨e12, k12⟩ := hV 12 (by decide)
      simp only [e0, e1, e2, e3, e4, e5, e6, e7, e8, e9, e10, e11, e12]
      clear e0 e1 e2 e3 e4 e5 e6 e7 e8 e9 e10 e11 e12
      refine wpAny_done (by kernel_rfl) ?_ _
      have hEE := hS.2
      have hkk := k12
      clear hS hV k5 k6 k7 k8 k9 k10 k11 k12
      cases hm : maskOf n u with
      | none =>
        have hEV : Hid (evE P sq n .atom t = none) := Lib.hid (by rw [HN.out, hm]; rfl)
        show Exit.then _ _ _ _ _
        go_wp2_with fail
        refine (fail_any P A n c (resL t2) _ R _ hn hkk).mono ?_
        rintro e w9 ⟨A9, c9, rfl, hk9, hO9, hE9⟩
        go_wp2
        go_ret
        exact ⟨A9, c9, List.replicate (pw n) 0, (resL t2), true, rfl, hk9, ⟨List.length_replicate, NumsL.replicate (by omega) _⟩, hO9.base hEE.size, by omega, hEV.out, hEE.trans hE9⟩
      | some m =>
        have hmp : m < pw n := maskOf_lt hm
        have hEV : Hid (evE P sq n .atom t = some (bladeL n m, resL t2)) := Lib.hid (by rw [HN.out, hm]; rfl)
        have hbl := fun wx => blade_any P A n c m wx (show n ≤ 10 by omega) hmp
        have hm1 : markI (some m) = (m : Int) := rfl
        rw [hm1]
        obtain ⟨q0, q1, q2, q3⟩ := hkk.four
        go_wp2_with fail
        refine (hbl _).mono ?_
        rintro e w9 ⟨A9, c9, rfl, hM⟩
        go_wp2
        go_ret
        exact ⟨A9, c9, bladeL n m, resL t2, false, rfl, hkk.below hM.b hkk.lt, ⟨bladeL_len n m, bladeL_nums hp n m⟩, hM.2.base hEE.size, by omega, hEV.out, hEE.then hM.b (Nat.le_of_lt HG)⟩
end Go.Proofs.YticofgmmjecleaaGreatDoor
namespace Go.Proofs.YticofgmmjecleaaGreatDoor
open Go.RowKit
theorem IsSpace_b {b : Bool} (P : Int) (A : Option Addr) (n c : Nat) (xs : List Int) (w : World) (hn : n ≤ 1099511627776) (ha : Rd w A n (ints xs)) (h : isSp P xs = b) :
    Calls Tryz.prog 49 #[.agg #[.int .i64 P, .slice A n c]] w fun e w' => e = .returned (.bool b) ∧ Below w.heap.size w w' := h ▸ IsSpace_any P A n c xs w hn ha
end Go.Proofs.YticofgmmjecleaaGreatDoor
namespace Go.Proofs.YticofgmmjecleaaGreatDoor
open Go.RowKit
theorem nums_numsL {P : Int} {xs : List Int} (h : nums P xs = true) : NumsL P xs := fun x hx => by
  have := List.all_eq_true.1 h x hx
  simp [inR] at this
  omega
end Go.Proofs.YticofgmmjecleaaGreatDoor
namespace Go.Proofs.YticofgmmjecleaaGreatDoor
open Go Go.RowKit
theorem reads (P : Int) (sq : List Int) (A : Option Addr) (n c : Nat) (hp : 2 ≤ P) (hp2 : P ≤ 13) (hn : n ≤ 6) (hs : NumsL P sq) : ∀ L : Nat, L ≤ 1048576 → ∀ t : By, t.length ≤ L →
    RdC 92 P sq A n c .sum t ∧ RdC 121 P sq A n c .prod t ∧ RdC 147 P sq A n c .fac t ∧ RdC 170 P sq A n c .atom t := by
  intro L
  induction L using Nat.strongRecOn with
  | ind L ih =>
    intro hL
    have hat : ∀ t : By, t.length ≤ L → RdC 170 P sq A n c .atom t := fun t ht =>
      ratom_any P sq A n c t hp hp2 hn (by omega) fun t' ht' => (ih t'.length (by omega) (by omega) t' (Nat.le_refl _)).1
    have hfac : ∀ t : By, t.length ≤ L → RdC 147 P sq A n c .fac t := fun t ht =>
      rfac_any P sq A n c t hp hp2 hn (by omega) (fun t' ht' => (ih t'.length (by omega) (by omega) t' (Nat.le_refl _)).2.2.1) (hat t ht)
    have hprod : ∀ t : By, t.length ≤ L → RdC 121 P sq A n c .prod t := fun t ht =>
      rprod_any P sq A n c t hp hp2 hn (by omega) hs fun t' ht' => hfac t' (by omega)
    have hsum : ∀ t : By, t.length ≤ L → RdC 92 P sq A n c .sum t := fun t ht =>
      rsum_any P sq A n c t hp hp2 hn (by omega) fun t' ht' => hprod t' (by omega)
    exact fun t ht => ⟨hsum t ht, hprod t ht, hfac t ht, hat t ht⟩
/-- The value of a text, and the code. -/
def evR (P : Int) (sq : List Int) (t : By) : List Int × Int := if 200 < t.length then ([], 3) else match valR P sq sq.length t with
  | some v => (v, 0)
  | none => ([], 6)
/-- The value of a whole text out of what the reader leaves. -/
theorem valR_of {P : Int} {sq : List Int} {n : Nat} {t : By} {x : List Int} {t' : By} {b : Bool} (h : evE P sq n .sum t = if b = true then none else some (x, t')) : valR P sq n t = if (b || !t'.isEmpty) = true then none else some x := by
  unfold valR
  rw [h]
  cases b
  · cases t' <;> rfl
  · rfl
set_option maxHeartbeats 3200000 in
set_option maxRecDepth 8000 in
theorem evaluate_any (P : Int) (A : Option Addr) (n c : Nat) (sq : List Int) (t : By) (w : World) (hsp : isSp P sq = true) (ha : Rd w A n (ints sq)) (he : EnvX w) :
    Calls Tryz.prog 50 #[.agg #[.int .i64 P, .slice A n c], .string ⟨t.toArray⟩] w fun e w' => ∃ (A' : Option Addr) (k c' : Nat), e = .returned (.tuple #[.slice A' k c', .int .i64 (evR P sq t).2]) ∧ MkI w w' A' k c' (evR P sq t).1 := by
  obtain ⟨hP, hd1, hd2, hnum⟩ := isSp_dim hsp
  have hln : sq.length = n := ha.lenI
  obtain ⟨p1, p2⟩ := isP_pos hP
  have hp2' := isP_ge hP
  have hB0 : Below w.heap.size w (w.alloc (.cells #[.int .i64 P, .slice A n c] 28)) := (Below.refl _ _).alloc (Nat.le_refl _) _
  have k0 : Blk (w.alloc (.cells #[.int .i64 P, .slice A n c] 28)) w.heap.size 28 #[.int .i64 P, .slice A n c] := Blk.new _ _ _
  have hlnt : ∀ wx ty, (Builtin.len_ #[9] ty #[.string ⟨t.toArray⟩]).run Tryz.prog wx = .ok (.int .i64 t.length) wx := fun wx ty => str_len wx ty t
  obtain ⟨V, hV⟩ : ∃ V, V = evR P sq t := ⟨_, rfl⟩
  have HV := Lib.hid hV
  rw [← hV]
  clear hV
  by_cases hl : 200 < t.length
  · have d1 : decide ((200 : Int) < (t.length : Int)) = true := by simp; omega
    have hV2 : Hid (V = ([], 3)) := Lib.hid (by rw [HV.out]; unfold evR; rw [if_pos hl])
    go_enter Tryz.func50, Tryz.ntmps50
    go_wp2
    go_ret2
    exact ⟨none, 0, 0, by rw [hV2.out]; rfl, by rw [hV2.out]; exact Mk.nil hB0⟩
  · have d1 : decide ((200 : Int) < (t.length : Int)) = false := by simp; omega
    obtain ⟨q0, q1⟩ := k0.two
    go_enter Tryz.func50, Tryz.ntmps50
    go_wp2_with fail
    have hsz : (w.alloc (.cells #[.int .i64 P, .slice A n c] 28)).heap.size = w.heap.size + 1 := by simp
    have hB2 : Below w.heap.size w ((w.alloc (.cells #[.int .i64 P, .slice A n c] 28)).alloc (.cells #[.int .i64 P, .slice A n c, .string ⟨t.toArray⟩, .bool false] 111)) := hB0.alloc (by rw [hsz]; omega) _
    have hk : RdB ((w.alloc (.cells #[.int .i64 P, .slice A n c] 28)).alloc (.cells #[.int .i64 P, .slice A n c, .string ⟨t.toArray⟩, .bool false] 111)) (w.heap.size + 1) P A n c t false := by
      have h := Blk.new (w.alloc (.cells #[.int .i64 P, .slice A n c] 28)) 111 #[.int .i64 P, .slice A n c, .string ⟨t.toArray⟩, .bool false]
      rw [hsz] at h; exact h
    have heB : EnvB (w.heap.size + 1) ((w.alloc (.cells #[.int .i64 P, .slice A n c] 28)).alloc (.cells #[.int .i64 P, .slice A n c, .string ⟨t.toArray⟩, .bool false] 111)) := (he.b.on hB2).mono (Nat.le_succ _)
    have hcall := (reads P sq A n c (by omega) p2 (by omega) (nums_numsL hnum) t.length (by omega) t (Nat.le_refl _)).1 (w.heap.size + 1) _ heB (fun a ha' => Nat.lt_succ_of_lt (ha.blk_lt (by omega) a ha')) (ha.below hB2) hk
    generalize (w.alloc (.cells #[.int .i64 P, .slice A n c] 28)).alloc (.cells #[.int .i64 P, .slice A n c, .string ⟨t.toArray⟩, .bool false] 111) = w2 at hB2 hk heB hcall ⊢
    refine hcall.mono ?_
    rintro e w3 ⟨A3, c3, x3, t3, b3, rfl, hk3, hx3, hO3, hl3, hev3, hE3⟩
    have hB3 := hB2.trans (hE3.b.mono (Nat.le_succ _))
    have hM : MkI w w3 A3 (pw n) c3 x3 := ⟨hB3, hO3.base hB2.size⟩
    have hval : Hid (V = match (if (b3 || !t3.isEmpty) = true then none else some x3) with | some v => (v, 0) | none => ([], 6)) := Lib.hid (by
      rw [HV.out]; unfold evR; rw [if_neg hl, hln, valR_of hev3])
    clear hcall hk heB hB2 hE3 hev3 hO3 q0 q1
    obtain ⟨q0, q1, q2, q3⟩ := hk3.four
    cases b3 with
    | true =>
      go_wp2
      go_ret2
      exact ⟨none, 0, 0, by rw [hval.out]; rfl, by rw [hval.out]; exact Mk.nil hB3⟩
    | false =>
      cases t3 with
      | nil =>
        go_wp2
        go_ret2
        exact ⟨A3, pw n, c3, by rw [hval.out]; rfl, by rw [hval.out]; exact hM⟩
      | cons d r =>
        obtain ⟨u, hu⟩ : ∃ u, u = d :: r := ⟨_, rfl⟩
        rw [← hu] at q2 hval
        have hn1 : u.isEmpty = false := by rw [hu]; rfl
        have hn2 : (u == []) = false := by rw [hu]; rfl
        clear hu hk3
        go_wp2
        go_ret2
        exact ⟨none, 0, 0, by rw [hval.out, hn1]; rfl, by rw [hval.out, hn1]; exact Mk.nil hB3⟩
end Go.Proofs.YticofgmmjecleaaGreatDoor

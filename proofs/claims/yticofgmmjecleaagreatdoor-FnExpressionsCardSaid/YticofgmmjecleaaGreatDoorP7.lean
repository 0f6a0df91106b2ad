/-
  LawFnExpressions: part 7 of the texts that the proof needs. No condition.
-/
import Derived.Test.YticofgmmjecleaaGreatDoorP6
namespace Go.Proofs.YticofgmmjecleaaGreatDoor
open Go Go.RowKit
/-- Block R is a reader; as long as b is false, at the text t. -/
def SRd (R : Nat) (P : Int) (A : Option Addr) (n c : Nat) (t : By) (b : Bool) (w : World) : Prop := ∃ t' b', RdB w R P A n c t' b' ∧ (b = false → t' = t ∧ b' = false)
theorem SRd.below {R : Nat} {P : Int} {A : Option Addr} {n c : Nat} {t : By} {b : Bool} {w w' : World} (h : SRd R P A n c t b w) (f : Bool) (hb : Below w.heap.size w w') : SRd R P A n c t (b || f) w' := by
  obtain ⟨t', b', hk, hf⟩ := h
  exact ⟨t', b', hk.below hb hk.lt, fun e => hf (by cases b <;> simp_all)⟩
theorem SRd.rel {R : Nat} {P : Int} {A : Option Addr} {n c : Nat} {t : By} {w' : World} (b : Bool) {j k : Nat} (e : j = k) (h : ∃ t b, RdB w' R P A n c t b) : SRd R P A n c t (b || j == k) w' := by
  obtain ⟨t', b', hk⟩ := h
  exact ⟨t', b', hk, fun e2 => by subst e; simp at e2⟩
theorem only_at {C : List (List Nat)} {k0 : Nat} (h : ((List.range C.length).all fun j => j == k0 || (C.getD j []).isEmpty) = true) : ∀ j, j ≠ k0 → (C.getD j []).isEmpty = true := fun j hj => by
  by_cases hl : j < C.length
  · have := List.all_eq_true.1 h j (List.mem_range.2 hl)
    rw [Bool.or_eq_true, beq_iff_eq] at this
    exact this.resolve_left hj
  · rw [List.getD_eq_getElem?_getD, List.getElem?_eq_none (by omega)]; rfl
theorem StepR.eitherK {C : List (List Nat)} {Rel : World → World → Prop} {j : Nat} {w w' : World} {q : Prop} (h : StepR C Rel j w w') (k0 : Nat) (hC : ∀ j, j ≠ k0 → (C.getD j []).isEmpty = true) (h1 : Below w.heap.size w w' → q) (h2 : j = k0 → Rel w w' → q) : q := by
  by_cases e : j = k0
  · exact h.either h1 (h2 e)
  · unfold StepR at h
    rw [hC j e] at h
    exact h1 h
/-- What a part of the reader leaves, as a value: f makes the list out of what was read. -/
def VRk (R : Nat) (P : Int) (sq : List Int) (A : Option Addr) (n c : Nat) (m : Md) (t : By) (B : Nat) (f : List Int → List Int) : VP :=
  ⟨fun v w => ∃ (A' : Option Addr) (c' : Nat) (x : List Int) (t' : By) (b : Bool), v = .slice A' (pw n) c' ∧ RdB w R P A n c t' b ∧ MuL P n x ∧ Own w B 2 A' (pw n) c' (ints (f x)) ∧ t'.length ≤ t.length ∧ evE P sq n m t = (if b = true then none else some (x, t')),
   fun _ _ _ ⟨A', c', x, t', b, e, hk, hx, ho, hl, hev⟩ hb => ⟨A', c', x, t', b, e, hk.below hb hk.lt, hx, ho.below hb, hl, hev⟩⟩
/-- .. the slice of a new block of two lists. -/
def VRk2 (R : Nat) (P : Int) (sq : List Int) (A : Option Addr) (n c : Nat) (m : Md) (t : By) (B : Nat) (x1 : List Int) : VP :=
  ⟨fun v w => ∃ (A' : Option Addr) (x : List Int) (t' : By) (b : Bool), v = .slice A' 2 2 ∧ RdB w R P A n c t' b ∧ MuL P n x ∧ RdII w A' 2 [x1, x] ∧ t'.length ≤ t.length ∧ evE P sq n m t = (if b = true then none else some (x, t')),
   fun _ _ _ ⟨A', x, t', b, e, hk, hx, ho, hl, hev⟩ hb => ⟨A', x, t', b, e, hk.below hb hk.lt, hx, ho.below hb, hl, hev⟩⟩
set_option maxHeartbeats 12800000 in
set_option maxRecDepth 8000 in
theorem rfac_any (P : Int) (sq : List Int) (A : Option Addr) (n c : Nat) (t : By) (hp : 2 ≤ P) (hp2 : P ≤ 13) (hn : n ≤ 6) (ht : t.length ≤ 1048576)
    (hf : ∀ t' : By, t'.length < t.length → RdC 147 P sq A n c .fac t') (hat : RdC 170 P sq A n c .atom t) : RdC 147 P sq A n c .fac t := by
  intro R w he hA hr hk
  have hpn : pw n ≤ 64 := pw_le hn
  have HG := hk.lt
  cases hnx : nxt [45, 126] t with
  | none =>
    have hcall := next_none P A n c t [45, 126] false R w he.here.e (by decide) hk hnx
    have hcall2 := hat R w he hA hr hk
    have HN := Lib.hid (evE_fac_none (P := P) (sq := sq) (n := n) hnx)
    clear hf hat hnx
    go_enter Tryz.func147, Tryz.ntmps147
    go_wp2_with fail
    refine hcall.mono ?_
    rintro e w2 ⟨rfl, rfl⟩
    go_wp2_with fail
    refine hcall2.mono ?_
    rintro e w3 ⟨A3, c3, x3, t3, b3, rfl, hk3, hx3, hO3, hl3, hev3, hE3⟩
    go_wp2
    go_ret
    exact ⟨A3, c3, x3, t3, b3, rfl, hk3, hx3, hO3, hl3, by rw [HN.out]; exact hev3, hE3⟩
  | some q =>
    obtain ⟨d, t2⟩ := q
    have hcall := next_some P A n c t [45, 126] false R w d t2 he.here.e (by decide) hk hnx
    have hsg := nxt_sg hnx
    have hlt2 : t2.length < t.length := by rw [nxt_len hnx]; omega
    have HN := Lib.hid (evE_fac_some (P := P) (sq := sq) (n := n) hnx)
    clear hat hnx
    rcases hsg with rfl | rfl
    · go_enter Tryz.func147, Tryz.ntmps147
      go_wp2_with fail
      refine hcall.mono ?_
      rintro e w2 ⟨rfl, hk2, hE2⟩
      clear hcall
      obtain ⟨q0, q1, q2, q3⟩ := hk2.four
      go_wp2_with fail
      refine (field_any P A n c w2).mono ?_
      rintro e w3 ⟨rfl, hb3⟩
      have hk3 := hk2.below hb3 hk2.lt
      have hE3 := hE2.then hb3 (Nat.le_of_lt HG)
      clear q0 q1 q2 q3 hb3 hE2 hk2
      have hcall := hf t2 hlt2 R w3 (he.on hE3.b) hA (hr.ex hE3 hA) hk3
      go_wp2_with fail
      refine hcall.mono ?_
      rintro e w4 ⟨A4, c4, x4, t4, b4, rfl, hk4, hx4, hO4, hl4, hev4, hE4⟩
      have HEV := Lib.hid hev4
      have hE5 := hE3.trans hE4
      clear hcall hE4 hev4
      go_wp2_with fail
      refine (scaled_any P A4 (pw n) c4 (-1) x4 w4 hp hp2 (by omega) hO4.rd hx4.2 (by omega) (by omega)).mono ?_
      rintro e w5 ⟨A5, c5, rfl, hM⟩
      have hE6 := hE5.then hM.b (Nat.le_of_lt HG)
      have hk5 := hk4.below hM.b hk4.lt
      go_wp2
      go_ret
      refine ⟨A5, c5, scaleL P x4 (-1), t4, b4, rfl, hk5, ⟨(scaleL_len _ _ _).trans hx4.1, scaleL_nums (by omega) _ _⟩, hM.2.base hE5.size, by omega, ?_, hE6⟩
      rw [HN.out, HEV.out]
      cases b4 <;> rfl
    · go_enter Tryz.func147, Tryz.ntmps147
      go_wp2_with fail
      refine hcall.mono ?_
      rintro e w2 ⟨rfl, hk2, hE2⟩
      clear hcall
      go_wp2_with fail
      refine wp_obsK 8 (fun w w' => Ex R w w' ∧ ∃ t b, RdB w' R P A n c t b) [[], [0], [0, 1], [0, 1, 2], [], [4], [0, 1, 2, 3, 4, 5], [0, 1, 2, 3, 4, 5, 6]] [[], [], [], [], [], [99], [], []] (fun x => [VIs (.pointer (some ⟨R, 0, none⟩)), VIs (.pointer (some ⟨R, 0, none⟩)), VIs (.pointer (some ⟨R, 0, none⟩)), VIs (.agg #[.int .i64 P, .slice A n c]), VIs (.pointer (some ⟨R, 0, none⟩)), VRk R P sq A n c .fac t2 w.heap.size (fun x => x), VRk R P sq A n c .fac t2 w.heap.size (fun x => revL P x), VRk R P sq A n c .fac t2 w.heap.size (fun x => revL P x)]) 5 (fun b w' => SRd R P A n c t2 b w' ∧ Ex R w w') (by kernel_rfl) (by kernel_rfl) (fun x x' j hx => by
          rcases j with _ | _ | _ | _ | _ | _ | _ | _ | j
          · rfl
          · rfl
          · rfl
          · rfl
          · rfl
          · rfl
          · rfl
          · rfl
          · rfl)
        (weak_ofR [0, 1, 2, 3, 4] (by decide) (fun k hk x v w w' hp hr => by
          simp only [List.mem_cons, List.not_mem_nil, or_false] at hk
          rcases hk with rfl | rfl | rfl | rfl | rfl
          · exact hp
          · exact hp
          · exact hp
          · exact hp
          · exact hp)) (fun j b _ w' h hst => hst.eitherK 5 (only_at (by decide)) (fun hb => ⟨h.1.below _ hb, h.2.then hb (Nat.le_of_lt HG)⟩) (fun e hr => ⟨SRd.rel b e hr.2, h.2.trans hr.1⟩)) (⟨⟨t2, false, hk2.below (Below.refl _ _).drew hk2.lt, fun _ => ⟨rfl, rfl⟩⟩, hE2.then (Below.refl _ _).drew (Nat.le_of_lt HG)⟩) (fun x => ?_)
      refine obs_stepK (Eq.trans (by simp only [List.getElem?_toArray, List.getElem?_cons_zero]; exact rfl) rfl) rfl (fun b w' hb0 hS hV K hK => ?_) ?_
      · obtain ⟨⟨ts, bs, hkk, hbb⟩, hEE⟩ := hS; obtain ⟨q0, q1, q2, q3⟩ := hkk.four
        go_simp
        exact hK.out _ _ _ rfl rfl rfl (Below.refl _ _)
      simp only [List.setIfInBounds_toArray, List.set_cons_zero, List.set_cons_succ]
      refine obs_stepK (Eq.trans (by simp only [List.getElem?_toArray, List.getElem?_cons_succ, List.getElem?_cons_zero]; exact rfl) rfl) rfl (fun b w' hb0 hS hV K hK => ?_) ?_
      · have e0 : x 0 = (.pointer (some ⟨R, 0, none⟩)) := hV 0 (by decide)
        obtain ⟨⟨ts, bs, hkk, hbb⟩, hEE⟩ := hS; obtain ⟨q0, q1, q2, q3⟩ := hkk.four
        go_simp
        exact hK.out _ _ _ rfl rfl rfl (Below.refl _ _)
      simp only [List.setIfInBounds_toArray, List.set_cons_zero, List.set_cons_succ]
      refine obs_stepK (Eq.trans (by simp only [List.getElem?_toArray, List.getElem?_cons_succ, List.getElem?_cons_zero]; exact rfl) rfl) rfl (fun b w' hb0 hS hV K hK => ?_) ?_
      · have e0 : x 0 = (.pointer (some ⟨R, 0, none⟩)) := hV 0 (by decide)
        have e1 : x 1 = (.pointer (some ⟨R, 0, none⟩)) := hV 1 (by decide)
        obtain ⟨⟨ts, bs, hkk, hbb⟩, hEE⟩ := hS; obtain ⟨q0, q1, q2, q3⟩ := hkk.four
        go_simp
        exact hK.out _ _ _ rfl rfl rfl (Below.refl _ _)
      simp only [List.setIfInBounds_toArray, List.set_cons_zero, List.set_cons_succ]
      refine obs_stepK (Eq.trans (by simp only [List.getElem?_toArray, List.getElem?_cons_succ, List.getElem?_cons_zero]; exact rfl) rfl) rfl (fun b w' hb0 hS hV K hK => ?_) ?_
      · have e0 : x 0 = (.pointer (some ⟨R, 0, none⟩)) := hV 0 (by decide)
        have e1 : x 1 = (.pointer (some ⟨R, 0, none⟩)) := hV 1 (by decide)
        have e2 : x 2 = (.pointer (some ⟨R, 0, none⟩)) := hV 2 (by decide)
        obtain ⟨⟨ts, bs, hkk, hbb⟩, hEE⟩ := hS; obtain ⟨q0, q1, q2, q3⟩ := hkk.four
        go_simp
        exact hK.out _ _ _ rfl rfl rfl (Below.refl _ _)
      simp only [List.setIfInBounds_toArray, List.set_cons_zero, List.set_cons_succ]
      refine obs_stepK (Eq.trans (by simp only [List.getElem?_toArray, List.getElem?_cons_succ, List.getElem?_cons_zero]; exact rfl) rfl) rfl (fun b w' hb0 hS hV K hK => ?_) ?_
      · obtain ⟨⟨ts, bs, hkk, hbb⟩, hEE⟩ := hS; obtain ⟨q0, q1, q2, q3⟩ := hkk.four
        go_simp
        exact hK.out _ _ _ rfl rfl rfl (Below.refl _ _)
      simp only [List.setIfInBounds_toArray, List.set_cons_zero, List.set_cons_succ]
      refine obs_stepK (Eq.trans (by simp only [List.getElem?_toArray, List.getElem?_cons_succ, List.getElem?_cons_zero]; exact rfl) rfl) rfl (fun b w' hb0 hS hV K hK => ?_) ?_
      · have e4 : x 4 = (.pointer (some ⟨R, 0, none⟩)) := hV 4 (by decide)
        obtain ⟨⟨ts, bs, hkk, hbb⟩, hEE⟩ := hS; obtain ⟨q0, q1, q2, q3⟩ := hkk.four
        obtain ⟨e8, e9⟩ := hbb (hb0 rfl)
        rw [e8, e9] at hkk
        go_simp
        refine (hf t2 hlt2 R w' (he.on hEE.b) hA (hr.ex hEE hA) hkk).mono ?_
        rintro e v1 ⟨A8, c8, x8, t8, b8, rfl, hk8, hx8, hO8, hl8, hev8, hE8⟩
        exact hK.out _ _ _ rfl rfl ⟨A8, c8, x8, t8, b8, rfl, hk8, hx8, hO8.base hEE.size, hl8, hev8⟩ (StepR.rel rfl ⟨hE8, t8, b8, hk8⟩)
      simp only [List.setIfInBounds_toArray, List.set_cons_zero, List.set_cons_succ]
      refine obs_stepK (Eq.trans (by simp only [List.getElem?_toArray, List.getElem?_cons_succ, List.getElem?_cons_zero]; exact rfl) rfl) rfl (fun b w' hb0 hS hV K hK => ?_) ?_
      · have e0 : x 0 = (.pointer (some ⟨R, 0, none⟩)) := hV 0 (by decide)
        have e1 : x 1 = (.pointer (some ⟨R, 0, none⟩)) := hV 1 (by decide)
        have e2 : x 2 = (.pointer (some ⟨R, 0, none⟩)) := hV 2 (by decide)
        have e3 : x 3 = (.agg #[.int .i64 P, .slice A n c]) := hV 3 (by decide)
        have e4 : x 4 = (.pointer (some ⟨R, 0, none⟩)) := hV 4 (by decide)
        obtain ⟨A5, c5, X5, T5, B5, e5, k5, m5, o5, l5, v5⟩ := hV 5 (by decide)
        obtain ⟨⟨ts, bs, hkk, hbb⟩, hEE⟩ := hS; obtain ⟨q0, q1, q2, q3⟩ := hkk.four
        go_simp
        refine (reverse_any P A n c A5 (pw n) c5 X5 w' hp hp2 (by omega) o5.rd m5.2).mono ?_
        rintro e v1 ⟨A9, c9, rfl, hM⟩
        exact hK.out _ _ _ rfl rfl ⟨A9, c9, X5, T5, B5, rfl, k5.below hM.b k5.lt, m5, hM.2.base hEE.size, l5, v5⟩ hM.b
      simp only [List.setIfInBounds_toArray, List.set_cons_zero, List.set_cons_succ]
      refine obs_stepK (Eq.trans (by simp only [List.getElem?_toArray, List.getElem?_cons_succ, List.getElem?_cons_zero]; exact rfl) rfl) rfl (fun b w' hb0 hS hV K hK => ?_) ?_
      · have e0 : x 0 = (.pointer (some ⟨R, 0, none⟩)) := hV 0 (by decide)
        have e1 : x 1 = (.pointer (some ⟨R, 0, none⟩)) := hV 1 (by decide)
        have e2 : x 2 = (.pointer (some ⟨R, 0, none⟩)) := hV 2 (by decide)
        have e3 : x 3 = (.agg #[.int .i64 P, .slice A n c]) := hV 3 (by decide)
        have e4 : x 4 = (.pointer (some ⟨R, 0, none⟩)) := hV 4 (by decide)
        obtain ⟨A5, c5, X5, T5, B5, e5, k5, m5, o5, l5, v5⟩ := hV 5 (by decide)
        obtain ⟨A6, c6, X6, T6, B6, e6, k6, m6, o6, l6, v6⟩ := hV 6 (by decide)
        obtain ⟨⟨ts, bs, hkk, hbb⟩, hEE⟩ := hS; obtain ⟨q0, q1, q2, q3⟩ := hkk.four
        go_simp
        exact hK.out _ _ _ rfl rfl ⟨A6, c6, X6, T6, B6, rfl, k6, m6, o6, l6, v6⟩ (Below.refl _ _)
      simp only [List.setIfInBounds_toArray, List.set_cons_zero, List.set_cons_succ]
      refine fun w' bb hS hV => ?_
      have e0 : x 0 = (.pointer (some ⟨R, 0, none⟩)) := hV 0 (by decide)
      have e1 : x 1 = (.pointer (some ⟨R, 0, none⟩)) := hV 1 (by decide)
      have e2 : x 2 = (.pointer (some ⟨R, 0, none⟩)) := hV 2 (by decide)
      have e3 : x 3 = (.agg #[.int .i64 P, .slice A n c]) := hV 3 (by decide)
      have e4 : x 4 = (.pointer (some ⟨R, 0, none⟩)) := hV 4 (by decide)
      obtain ⟨A5, c5, X5, T5, B5, e5, k5, m5, o5, l5, v5⟩ := hV 5 (by decide)
      obtain ⟨A6, c6, X6, T6, B6, e6, k6, m6, o6, l6, v6⟩ := hV 6 (by decide)
      obtain ⟨A7, c7, X7, T7, B7, e7, k7, m7, o7, l7, v7⟩ := hV 7 (by decide)
      simp only [e0, e1, e2, e3, e4, e5, e6, e7]
      clear e0 e1 e2 e3 e4 e5 e6 e7
      refine wpAny_done (by kernel_rfl) ?_ _
      have hEE := hS.2
      have HEV := Lib.hid v7
      clear v7 hS hV
      go_wp2
      go_ret
      refine ⟨A7, c7, revL P X7, T7, B7, rfl, k7, ⟨(sgnL_len _ _ _).trans m7.1, sgnL_nums (by omega) _ m7.2⟩, o7, by omega, ?_, hEE⟩
      rw [HN.out, HEV.out]
      cases B7 <;> rfl
set_option maxHeartbeats 25600000 in
set_option maxRecDepth 8000 in
theorem rprod_any (P : Int) (sq : List Int) (A : Option Addr) (n c : Nat) (t : By) (hp : 2 ≤ P) (hp2 : P ≤ 13) (hn : n ≤ 6) (ht : t.length ≤ 1048576) (hs : NumsL P sq)
    (hf : ∀ t' : By, t'.length ≤ t.length → RdC 147 P sq A n c .fac t') : RdC 121 P sq A n c .prod t := by
  intro R w he hA hr hk
  have hpn : pw n ≤ 64 := pw_le hn
  have HG := hk.lt
  have h0 := hf t (Nat.le_refl _) R w he hA hr hk
  obtain ⟨V, hV⟩ : ∃ V, V = evE P sq n .prod t := ⟨_, rfl⟩
  have HV := Lib.hid hV
  clear hV
  go_enter Tryz.func121, Tryz.ntmps121
  go_wp2_with fail
  refine h0.mono ?_
  rintro e w1 ⟨A1, c1, x1, t1, b1, rfl, hk1, hx1, hO1, hl1, hev1, hE1⟩
  have hs1 : V = if b1 = true then none else evE P sq n (.prodL x1) t1 := by
    rw [HV.out, evE_prod_eq, hev1]; cases b1 <;> rfl
  clear h0 hev1
  go_wp2
  go_loopw [3] (fun out wr => ∃ (A1 : Option Addr) (c1 : Nat) (x1 : List Int) (t1 : By) (b1 : Bool), out = .slice A1 (pw n) c1 ∧ RdB wr R P A n c t1 b1 ∧ MuL P n x1 ∧ Own wr w.heap.size 2 A1 (pw n) c1 (ints x1) ∧ t1.length ≤ t.length ∧ V = (if b1 = true then none else evE P sq n (.prodL x1) t1) ∧ Ex R w wr) (fun _ wr => match wr.cell? ⟨R, 2, none⟩ with | some (.string s) => s.size | _ => 0)
  case atStart => exact ⟨A1, c1, x1, t1, b1, rfl, hk1, hx1, hO1, hl1, hs1, hE1⟩
  case round =>
    clear hk1 hx1 hO1 hl1 hs1 hE1
    obtain ⟨A1, c1, x1, t1, b1, rfl, hk1, hx1, hO1, hl1, hs1, hE1⟩ := hrel
    have q3 := hk1.cell 3
    have HS := Lib.hid hs1
    clear hs1
    cases b1 with
    | true =>
      go_wp2
      go_ret
      exact ⟨A1, c1, x1, t1, true, rfl, hk1, hx1, hO1, hl1, HV.out.symm.trans HS.out, hE1⟩
    | false =>
      have heB := he.on hE1.b
      cases hnx : nxt [42, 94, 46] t1 with
      | none =>
        have hcall := next_none P A n c t1 [42, 94, 46] false R wr heB.here.e (by decide) hk1 hnx
        go_wp2_with (go_at_call 122; refine hcall.mono ?_; rintro e w2 ⟨rfl, rfl⟩)
        go_ret
        exact ⟨A1, c1, x1, t1, false, rfl, hk1, hx1, hO1, hl1, by rw [← HV.out, HS.out]; exact evE_prodL_none x1 hnx, hE1⟩
      | some q =>
        obtain ⟨d, t2⟩ := q
        have hcall := next_some P A n c t1 [42, 94, 46] false R wr d t2 heB.here.e (by decide) hk1 hnx
        have hpm := nxt_op hnx
        have hln := nxt_len hnx
        have hlt2 : t2.length ≤ t.length := by omega
        have HS2 : Hid (V = (evE P sq n .fac t2).bind fun r => evE P sq n (.prodL (opL P sq d x1 r.1)) r.2) := Lib.hid (by
          rw [HS.out]
          exact evE_prodL_some x1 hnx)
        have hsz : (match wr.cell? ⟨R, 2, none⟩ with | some (.string s) => s.size | _ => 0) = t1.length := by rw [hk1.cell 2]; exact bs_len t1
        rw [hsz]
        clear HS hnx hsz heB
        have HMU := Lib.hid hx1
        clear hx1
        rcases hpm with rfl | rfl | rfl
        · go_wp2_with fail
          refine hcall.mono ?_
          rintro e w2 ⟨rfl, hk2, hE2b⟩
          have hO2 := hO1.ex hE2b hk1 (by decide)
          have hE2 := hE1.trans hE2b
          clear hcall hO1 hE1 hE2b hk1 q3
          go_wp2_with fail
          refine wp_obsK 9 (fun w w' => Ex R w w' ∧ ∃ t b, RdB w' R P A n c t b) [[], [0], [0, 1], [0, 1, 2], [], [], [5], [4, 5, 6], [0, 1, 2, 3, 4, 5, 6, 7], [0, 1, 2, 3, 4, 5, 6, 7, 8]] [[], [], [], [], [], [], [99], [], []] (fun x => [VIs (.pointer (some ⟨R, 0, none⟩)), VIs (.pointer (some ⟨R, 0, none⟩)), VIs (.pointer (some ⟨R, 0, none⟩)), VIs (.agg #[.int .i64 P, .slice A n c]), VIs (.slice A1 (pw n) c1), VIs (.pointer (some ⟨R, 0, none⟩)), VRk R P sq A n c .fac t2 w.heap.size (fun x => x), VRk2 R P sq A n c .fac t2 w.heap.size x1, VRk R P sq A n c .fac t2 w.heap.size (fun x => mulL P sq x1 x)]) 6 (fun b w' => SRd R P A n c t2 b w' ∧ Ex R w w' ∧ Own w' w.heap.size 2 A1 (pw n) c1 (ints x1)) (by kernel_rfl) (by kernel_rfl) (fun x x' j hx => by
              rcases j with _ | _ | _ | _ | _ | _ | _ | _ | _ | j
              · rfl
              · rfl
              · rfl
              · rfl
              · rfl
              · rfl
              · rfl
              · rfl
              · rfl
              · rfl)
            (weak_ofR [0, 1, 2, 3, 4, 5] (by decide) (fun k hk x v w w' hp hr => by
              simp only [List.mem_cons, List.not_mem_nil, or_false] at hk
              rcases hk with rfl | rfl | rfl | rfl | rfl | rfl
              · exact hp
              · exact hp
              · exact hp
              · exact hp
              · exact hp
              · exact hp)) (fun j b _ w' h hst => hst.eitherK 6 (only_at (by decide)) (fun hb => ⟨h.1.below _ hb, h.2.1.then hb (Nat.le_of_lt HG), h.2.2.below hb⟩) (fun e hr => ⟨SRd.rel b e hr.2, h.2.1.trans hr.1, by obtain ⟨⟨t5, b5, k5, _⟩, _, o5⟩ := h; exact o5.ex hr.1 k5 (by decide)⟩)) (⟨⟨t2, false, hk2.below (Below.refl _ _).drew hk2.lt, fun _ => ⟨rfl, rfl⟩⟩, hE2.then (Below.refl _ _).drew (Nat.le_of_lt HG), hO2.below (Below.refl _ _).drew⟩) (fun x => ?_)
          refine obs_stepK (Eq.trans (by simp only [List.getElem?_toArray, List.getElem?_cons_zero]; exact rfl) rfl) rfl (fun b w' hb0 hS hV K hK => ?_) ?_
          · obtain ⟨⟨ts, bs, hkk, hbb⟩, hEE, hOO⟩ := hS; obtain ⟨q0, q1, q2, q3⟩ := hkk.four
            go_simp
            exact hK.out _ _ _ rfl rfl rfl (Below.refl _ _)
          simp only [List.setIfInBounds_toArray, List.set_cons_zero, List.set_cons_succ]
          refine obs_stepK (Eq.trans (by simp only [List.getElem?_toArray, List.getElem?_cons_succ, List.getElem?_cons_zero]; exact rfl) rfl) rfl (fun b w' hb0 hS hV K hK => ?_) ?_
          · have e0 : x 0 = (.pointer (some ⟨R, 0, none⟩)) := hV 0 (by decide)
            obtain ⟨⟨ts, bs, hkk, hbb⟩, hEE, hOO⟩ := hS; obtain ⟨q0, q1, q2, q3⟩ := hkk.four
            go_simp
            exact hK.out _ _ _ rfl rfl rfl (Below.refl _ _)
          simp only [List.setIfInBounds_toArray, List.set_cons_zero, List.set_cons_succ]
          refine obs_stepK (Eq.trans (by simp only [List.getElem?_toArray, List.getElem?_cons_succ, List.getElem?_cons_zero]; exact rfl) rfl) rfl (fun b w' hb0 hS hV K hK => ?_) ?_
          · have e0 : x 0 = (.pointer (some ⟨R, 0, none⟩)) := hV 0 (by decide)
            have e1 : x 1 = (.pointer (some ⟨R, 0, none⟩)) := hV 1 (by decide)
            obtain ⟨⟨ts, bs, hkk, hbb⟩, hEE, hOO⟩ := hS; obtain ⟨q0, q1, q2, q3⟩ := hkk.four
            go_simp
            exact hK.out _ _ _ rfl rfl rfl (Below.refl _ _)
          simp only [List.setIfInBounds_toArray, List.set_cons_zero, List.set_cons_succ]
          refine obs_stepK (Eq.trans (by simp only [List.getElem?_toArray, List.getElem?_cons_succ, List.getElem?_cons_zero]; exact rfl) rfl) rfl (fun b w' hb0 hS hV K hK => ?_) ?_
          · have e0 : x 0 = (.pointer (some ⟨R, 0, none⟩)) := hV 0 (by decide)
            have e1 : x 1 = (.pointer (some ⟨R, 0, none⟩)) := hV 1 (by decide)
            have e2 : x 2 = (.pointer (some ⟨R, 0, none⟩)) := hV 2 (by decide)
            obtain ⟨⟨ts, bs, hkk, hbb⟩, hEE, hOO⟩ := hS; obtain ⟨q0, q1, q2, q3⟩ := hkk.four
            go_simp
            exact hK.out _ _ _ rfl rfl rfl (Below.refl _ _)
          simp only [List.setIfInBounds_toArray, List.set_cons_zero, List.set_cons_succ]
          refine obs_stepK (Eq.trans (by simp only [List.getElem?_toArray, List.getElem?_cons_succ, List.getElem?_cons_zero]; exact rfl) rfl) rfl (fun b w' hb0 hS hV K hK => ?_) ?_
          · obtain ⟨⟨ts, bs, hkk, hbb⟩, hEE, hOO⟩ := hS; obtain ⟨q0, q1, q2, q3⟩ := hkk.four
            go_simp
            exact hK.out _ _ _ rfl rfl rfl (Below.refl _ _)
          simp only [List.setIfInBounds_toArray, List.set_cons_zero, List.set_cons_succ]
          refine obs_stepK (Eq.trans (by simp only [List.getElem?_toArray, List.getElem?_cons_succ, List.getElem?_cons_zero]; exact rfl) rfl) rfl (fun b w' hb0 hS hV K hK => ?_) ?_
          · obtain ⟨⟨ts, bs, hkk, hbb⟩, hEE, hOO⟩ := hS; obtain ⟨q0, q1, q2, q3⟩ := hkk.four
            go_simp
            exact hK.out _ _ _ rfl rfl rfl (Below.refl _ _)
          simp only [List.setIfInBounds_toArray, List.set_cons_zero, List.set_cons_succ]
          refine obs_stepK (Eq.trans (by simp only [List.getElem?_toArray, List.getElem?_cons_succ, List.getElem?_cons_zero]; exact rfl) rfl) rfl (fun b w' hb0 hS hV K hK => ?_) ?_
          · have e5 : x 5 = (.pointer (some ⟨R, 0, none⟩)) := hV 5 (by decide)
            obtain ⟨⟨ts, bs, hkk, hbb⟩, hEE, hOO⟩ := hS; obtain ⟨q0, q1, q2, q3⟩ := hkk.four
            obtain ⟨e8, e9⟩ := hbb (hb0 rfl)
            rw [e8, e9] at hkk
            go_simp
            refine (hf t2 hlt2 R w' (he.on hEE.b) hA (hr.ex hEE hA) hkk).mono ?_
            rintro e v1 ⟨A8, c8, x8, t8, b8, rfl, hk8, hx8, hO8, hl8, hev8, hE8⟩
            exact hK.out _ _ _ rfl rfl ⟨A8, c8, x8, t8, b8, rfl, hk8, hx8, hO8.base hEE.size, hl8, hev8⟩ (StepR.rel rfl ⟨hE8, t8, b8, hk8⟩)
          simp only [List.setIfInBounds_toArray, List.set_cons_zero, List.set_cons_succ]
          refine obs_stepK (Eq.trans (by simp only [List.getElem?_toArray, List.getElem?_cons_succ, List.getElem?_cons_zero]; exact rfl) rfl) rfl (fun b w' hb0 hS hV K hK => ?_) ?_
          · have e4 : x 4 = (.slice A1 (pw n) c1) := hV 4 (by decide)
            have e5 : x 5 = (.pointer (some ⟨R, 0, none⟩)) := hV 5 (by decide)
            obtain ⟨A6, c6, X6, T6, B6, e6, k6, m6, o6, l6, v6⟩ := hV 6 (by decide)
            obtain ⟨⟨ts, bs, hkk, hbb⟩, hEE, hOO⟩ := hS; obtain ⟨q0, q1, q2, q3⟩ := hkk.four
            go_simp
            have hbw : Below w'.heap.size w' (w'.alloc (.cells #[.slice A1 (pw n) c1, .slice A6 (pw n) c6] 22)) := (Below.refl _ _).alloc (Nat.le_refl _) _
            exact hK.out _ _ _ rfl rfl ⟨_, X6, T6, B6, rfl, k6.below hbw k6.lt, m6, rdII_two (Blk.new w' _ _) (hOO.rd.below hbw) (o6.rd.below hbw) hOO.cap o6.cap, l6, v6⟩ hbw
          simp only [List.setIfInBounds_toArray, List.set_cons_zero, List.set_cons_succ]
          refine obs_stepK (Eq.trans (by simp only [List.getElem?_toArray, List.getElem?_cons_succ, List.getElem?_cons_zero]; exact rfl) rfl) rfl (fun b w' hb0 hS hV K hK => ?_) ?_
          · have e0 : x 0 = (.pointer (some ⟨R, 0, none⟩)) := hV 0 (by decide)
            have e1 : x 1 = (.pointer (some ⟨R, 0, none⟩)) := hV 1 (by decide)
            have e2 : x 2 = (.pointer (some ⟨R, 0, none⟩)) := hV 2 (by decide)
            have e3 : x 3 = (.agg #[.int .i64 P, .slice A n c]) := hV 3 (by decide)
            have e4 : x 4 = (.slice A1 (pw n) c1) := hV 4 (by decide)
            have e5 : x 5 = (.pointer (some ⟨R, 0, none⟩)) := hV 5 (by decide)
            obtain ⟨A6, c6, X6, T6, B6, e6, k6, m6, o6, l6, v6⟩ := hV 6 (by decide)
            obtain ⟨A7, X7, T7, B7, e7, k7, m7, o7, l7, v7⟩ := hV 7 (by decide)
            obtain ⟨⟨ts, bs, hkk, hbb⟩, hEE, hOO⟩ := hS; obtain ⟨q0, q1, q2, q3⟩ := hkk.four
            go_simp
            refine (times_any P A n c sq A7 2 2 [x1, X7] w' hp hp2 hn (by omega) (hr.ex hEE hA) hs o7 (fun y hy => by rcases List.mem_cons.1 hy with h | h; exact h ▸ ⟨HMU.out.2, HMU.out.1⟩; rw [List.mem_singleton.1 h]; exact ⟨m7.2, m7.1⟩)).mono ?_
            rintro e v1 ⟨A9, c9, rfl, hM⟩
            rw [timesL_two P sq n x1 X7 HMU.out.1 HMU.out.2] at hM
            exact hK.out _ _ _ rfl rfl ⟨A9, c9, X7, T7, B7, rfl, k7.below hM.b k7.lt, m7, hM.2.base hEE.size, l7, v7⟩ hM.b
          simp only [List.setIfInBounds_toArray, List.set_cons_zero, List.set_cons_succ]
          refine fun w' bb hS hV => ?_
          have e0 : x 0 = (.pointer (some ⟨R, 0, none⟩)) := hV 0 (by decide)
          have e1 : x 1 = (.pointer (some ⟨R, 0, none⟩)) := hV 1 (by decide)
          have e2 : x 2 = (.pointer (some ⟨R, 0, none⟩)) := hV 2 (by decide)
          have e3 : x 3 = (.agg #[.int .i64 P, .slice A n c]) := hV 3 (by decide)
          have e4 : x 4 = (.slice A1 (pw n) c1) := hV 4 (by decide)
          have e5 : x 5 = (.pointer (some ⟨R, 0, none⟩)) := hV 5 (by decide)
          obtain ⟨A6, c6, X6, T6, B6, e6, k6, m6, o6, l6, v6⟩ := hV 6 (by decide)
          obtain ⟨A7, X7, T7, B7, e7, k7, m7, o7, l7, v7⟩ := hV 7 (by decide)
          obtain ⟨A8, c8, X8, T8, B8, e8, k8, m8, o8, l8, v8⟩ := hV 8 (by decide)
          simp only [e0, e1, e2, e3, e4, e5, e6, e7, e8]
          clear e0 e1 e2 e3 e4 e5 e6 e7 e8
          refine any_one (j := 9) (by kernel_rfl) (Eq.trans (by simp only [List.getElem?_toArray, List.getElem?_cons_succ, List.getElem?_cons_zero]; exact rfl) rfl) (fun K hK => ?_)
          go_simp
          refine hK.out _ _ (wpAny_done (by kernel_rfl) ?_ _)
          have hEE := hS.2.1
          have HEV := Lib.hid v8
          clear v8 hS hV
          go_wp2
          go_roundw
          case rel =>
            refine ⟨A8, c8, mulL P sq x1 X8, T8, B8, rfl, k8, ⟨(mulL_len _ _ _ _).trans HMU.out.1, mulL_nums (by omega) _ _ _⟩, o8, by omega, ?_, hEE⟩
            rw [HS2.out, HEV.out]
            cases B8 <;> rfl
          case measure =>
            rw [k8.cell 2]
            show (ByteArray.mk T8.toArray).size < _
            rw [bs_len]; omega
        · go_wp2_with fail
          refine hcall.mono ?_
          rintro e w2 ⟨rfl, hk2, hE2b⟩
          have hO2 := hO1.ex hE2b hk1 (by decide)
          have hE2 := hE1.trans hE2b
          clear hcall hO1 hE1 hE2b hk1 q3
          go_wp2_with fail
          refine wp_obsK 8 (fun w w' => Ex R w w' ∧ ∃ t b, RdB w' R P A n c t b) [[], [0], [0, 1], [0, 1, 2], [], [], [5], [0, 1, 2, 3, 4, 5, 6], [0, 1, 2, 3, 4, 5, 6, 7]] [[], [], [], [], [], [], [99], []] (fun x => [VIs (.pointer (some ⟨R, 0, none⟩)), VIs (.pointer (some ⟨R, 0, none⟩)), VIs (.pointer (some ⟨R, 0, none⟩)), VIs (.agg #[.int .i64 P, .slice A n c]), VIs (.slice A1 (pw n) c1), VIs (.pointer (some ⟨R, 0, none⟩)), VRk R P sq A n c .fac t2 w.heap.size (fun x => x), VRk R P sq A n c .fac t2 w.heap.size (fun x => wedgeL P sq x1 x)]) 6 (fun b w' => SRd R P A n c t2 b w' ∧ Ex R w w' ∧ Own w' w.heap.size 2 A1 (pw n) c1 (ints x1)) (by kernel_rfl) (by kernel_rfl) (fun x x' j hx => by
              rcases j with _ | _ | _ | _ | _ | _ | _ | _ | j
              · rfl
              · rfl
              · rfl
              · rfl
              · rfl
              · rfl
              · rfl
              · rfl
              · rfl)
            (weak_ofR [0, 1, 2, 3, 4, 5] (by decide) (fun k hk x v w w' hp hr => by
              simp only [List.mem_cons, List.not_mem_nil, or_false] at hk
              rcases hk with rfl | rfl | rfl | rfl | rfl | rfl
              · exact hp
              · exact hp
              · exact hp
              · exact hp
              · exact hp
              · exact hp)) (fun j b _ w' h hst => hst.eitherK 6 (only_at (by decide)) (fun hb => ⟨h.1.below _ hb, h.2.1.then hb (Nat.le_of_lt HG), h.2.2.below hb⟩) (fun e hr => ⟨SRd.rel b e hr.2, h.2.1.trans hr.1, by obtain ⟨⟨t5, b5, k5, _⟩, _, o5⟩ := h; exact o5.ex hr.1 k5 (by decide)⟩)) (⟨⟨t2, false, hk2.below (Below.refl _ _).drew hk2.lt, fun _ => ⟨rfl, rfl⟩⟩, hE2.then (Below.refl _ _).drew (Nat.le_of_lt HG), hO2.below (Below.refl _ _).drew⟩) (fun x => ?_)
          refine obs_stepK (Eq.trans (by simp only [List.getElem?_toArray, List.getElem?_cons_zero]; exact rfl) rfl) rfl (fun b w' hb0 hS hV K hK => ?_) ?_
          · obtain ⟨⟨ts, bs, hkk, hbb⟩, hEE, hOO⟩ := hS; obtain ⟨q0, q1, q2, q3⟩ := hkk.four
            go_simp
            exact hK.out _ _ _ rfl rfl rfl (Below.refl _ _)
          simp only [List.setIfInBounds_toArray, List.set_cons_zero, List.set_cons_succ]
          refine obs_stepK (Eq.trans (by simp only [List.getElem?_toArray, List.getElem?_cons_succ, List.getElem?_cons_zero]; exact rfl) rfl) rfl (fun b w' hb0 hS hV K hK => ?_) ?_
          · have e0 : x 0 = (.pointer (some ⟨R, 0, none⟩)) := hV 0 (by decide)
            obtain ⟨⟨ts, bs, hkk, hbb⟩, hEE, hOO⟩ := hS; obtain ⟨q0, q1, q2, q3⟩ := hkk.four
            go_simp
            exact hK.out _ _ _ rfl rfl rfl (Below.refl _ _)
          simp only [List.setIfInBounds_toArray, List.set_cons_zero, List.set_cons_succ]
          refine obs_stepK (Eq.trans (by simp only [List.getElem?_toArray, List.getElem?_cons_succ, List.getElem?_cons_zero]; exact rfl) rfl) rfl (fun b w' hb0 hS hV K hK => ?_) ?_
          · have e0 : x 0 = (.pointer (some ⟨R, 0, none⟩)) := hV 0 (by decide)
            have e1 : x 1 = (.pointer (some ⟨R, 0, none⟩)) := hV 1 (by decide)
            obtain ⟨⟨ts, bs, hkk, hbb⟩, hEE, hOO⟩ := hS; obtain ⟨q0, q1, q2, q3⟩ := hkk.four
            go_simp
            exact hK.out _ _ _ rfl rfl rfl (Below.refl _ _)
          simp only [List.setIfInBounds_toArray, List.set_cons_zero, List.set_cons_succ]
          refine obs_stepK (Eq.trans (by simp only [List.getElem?_toArray, List.getElem?_cons_succ, List.getElem?_cons_zero]; exact rfl) rfl) rfl (fun b w' hb0 hS hV K hK => ?_) ?_
          · have e0 : x 0 = (.pointer (some ⟨R, 0, none⟩)) := hV 0 (by decide)
            have e1 : x 1 = (.pointer (some ⟨R, 0, none⟩)) := hV 1 (by decide)
            have e2 : x 2 = (.pointer (some ⟨R, 0, none⟩)) := hV 2 (by decide)
            obtain ⟨⟨ts, bs, hkk, hbb⟩, hEE, hOO⟩ := hS; obtain ⟨q0, q1, q2, q3⟩ := hkk.four
            go_simp
            exact hK.out _ _ _ rfl rfl rfl (Below.refl _ _)
          simp only [List.setIfInBounds_toArray, List.set_cons_zero, List.set_cons_succ]
          refine obs_stepK (Eq.trans (by simp only [List.getElem?_toArray, List.getElem?_cons_succ, List.getElem?_cons_zero]; exact rfl) rfl) rfl (fun b w' hb0 hS hV K hK => ?_) ?_
          · obtain ⟨⟨ts, bs, hkk, hbb⟩, hEE, hOO⟩ := hS; obtain ⟨q0, q1, q2, q3⟩ := hkk.four
            go_simp
            exact hK.out _ _ _ rfl rfl rfl (Below.refl _ _)
          simp only [List.setIfInBounds_toArray, List.set_cons_zero, List.set_cons_succ]
          refine obs_stepK (Eq.trans (by simp only [List.getElem?_toArray, List.getElem?_cons_succ, List.getElem?_cons_zero]; exact rfl) rfl) rfl (fun b w' hb0 hS hV K hK => ?_) ?_
          · obtain ⟨⟨ts, bs, hkk, hbb⟩, hEE, hOO⟩ := hS; obtain ⟨q0, q1, q2, q3⟩ := hkk.four
            go_simp
            exact hK.out _ _ _ rfl rfl rfl (Below.refl _ _)
          simp only [List.setIfInBounds_toArray, List.set_cons_zero, List.set_cons_succ]
          refine obs_stepK (Eq.trans (by simp only [List.getElem?_toArray, List.getElem?_cons_succ, List.getElem?_cons_zero]; exact rfl) rfl) rfl (fun b w' hb0 hS hV K hK => ?_) ?_
          · have e5 : x 5 = (.pointer (some ⟨R, 0, none⟩)) := hV 5 (by decide)
            obtain ⟨⟨ts, bs, hkk, hbb⟩, hEE, hOO⟩ := hS; obtain ⟨q0, q1, q2, q3⟩ := hkk.four
            obtain ⟨e8, e9⟩ := hbb (hb0 rfl)
            rw [e8, e9] at hkk
            go_simp
            refine (hf t2 hlt2 R w' (he.on hEE.b) hA (hr.ex hEE hA) hkk).mono ?_
            rintro e v1 ⟨A8, c8, x8, t8, b8, rfl, hk8, hx8, hO8, hl8, hev8, hE8⟩
            exact hK.out _ _ _ rfl rfl ⟨A8, c8, x8, t8, b8, rfl, hk8, hx8, hO8.base hEE.size, hl8, hev8⟩ (StepR.rel rfl ⟨hE8, t8, b8, hk8⟩)
          simp only [List.setIfInBounds_toArray, List.set_cons_zero, List.set_cons_succ]
          refine obs_stepK (Eq.trans (by simp only [List.getElem?_toArray, List.getElem?_cons_succ, List.getElem?_cons_zero]; exact rfl) rfl) rfl (fun b w' hb0 hS hV K hK => ?_) ?_
          · have e0 : x 0 = (.pointer (some ⟨R, 0, none⟩)) := hV 0 (by decide)
            have e1 : x 1 = (.pointer (some ⟨R, 0, none⟩)) := hV 1 (by decide)
            have e2 : x 2 = (.pointer (some ⟨R, 0, none⟩)) := hV 2 (by decide)
            have e3 : x 3 = (.agg #[.int .i64 P, .slice A n c]) := hV 3 (by decide)
            have e4 : x 4 = (.slice A1 (pw n) c1) := hV 4 (by decide)
            have e5 : x 5 = (.pointer (some ⟨R, 0, none⟩)) := hV 5 (by decide)
            obtain ⟨A6, c6, X6, T6, B6, e6, k6, m6, o6, l6, v6⟩ := hV 6 (by decide)
            obtain ⟨⟨ts, bs, hkk, hbb⟩, hEE, hOO⟩ := hS; obtain ⟨q0, q1, q2, q3⟩ := hkk.four
            go_simp
            refine (wedge_any P A n c sq A1 c1 x1 A6 c6 X6 w' hp hp2 hn (hr.ex hEE hA) hs hOO.rd HMU.out.2 o6.rd m6.2).mono ?_
            rintro e v1 ⟨A9, c9, rfl, hM⟩
            exact hK.out _ _ _ rfl rfl ⟨A9, c9, X6, T6, B6, rfl, k6.below hM.b k6.lt, m6, hM.2.base hEE.size, l6, v6⟩ hM.b
          simp only [List.setIfInBounds_toArray, List.set_cons_zero, List.set_cons_succ]
          refine fun w' bb hS hV => ?_
          have e0 : x 0 = (.pointer (some ⟨R, 0, none⟩)) := hV 0 (by decide)
          have e1 : x 1 = (.pointer (some ⟨R, 0, none⟩)) := hV 1 (by decide)
          have e2 : x 2 = (.pointer (some ⟨R, 0, none⟩)) := hV 2 (by decide)
          have e3 : x 3 = (.agg #[.int .i64 P, .slice A n c]) := hV 3 (by decide)
          have e4 : x 4 = (.slice A1 (pw n) c1) := hV 4 (by decide)
          have e5 : x 5 = (.pointer (some ⟨R, 0, none⟩)) := hV 5 (by decide)
          obtain ⟨A6, c6, X6, T6, B6, e6, k6, m6, o6, l6, v6⟩ := hV 6 (by decide)
          obtain ⟨A7, c7, X7, T7, B7, e7, k7, m7, o7, l7, v7⟩ := hV 7 (by decide)
          simp only [e0, e1, e2, e3, e4, e5, e6, e7]
          clear e0 e1 e2 e3 e4 e5 e6 e7
          refine any_one (j := 8) (by kernel_rfl) (Eq.trans (by simp only [List.getElem?_toArray, List.getElem?_cons_succ, List.getElem?_cons_zero]; exact rfl) rfl) (fun K hK => ?_)
          go_simp
          refine hK.out _ _ (wpAny_done (by kernel_rfl) ?_ _)
          have hEE := hS.2.1
          have HEV := Lib.hid v7
          clear v7 hS hV
          go_wp2
          go_roundw
          case rel =>
            refine ⟨A7, c7, wedgeL P sq x1 X7, T7, B7, rfl, k7, ⟨(wedgeL_len _ _ _ _).trans HMU.out.1, wedgeL_nums (by omega) _ _ _⟩, o7, by omega, ?_, hEE⟩
            rw [HS2.out, HEV.out]
            cases B7 <;> rfl
          case measure =>
            rw [k7.cell 2]
            show (ByteArray.mk T7.toArray).size < _
            rw [bs_len]; omega
        · go_wp2_with fail
          refine hcall.mono ?_
          rintro e w2 ⟨rfl, hk2, hE2b⟩
          have hO2 := hO1.ex hE2b hk1 (by decide)
          have hE2 := hE1.trans hE2b
          clear hcall hO1 hE1 hE2b hk1 q3
          go_wp2_with fail
          refine wp_obsK 8 (fun w w' => Ex R w w' ∧ ∃ t b, RdB w' R P A n c t b) [[], [0], [0, 1], [0, 1, 2], [], [], [5], [0, 1, 2, 3, 4, 5, 6], [0, 1, 2, 3, 4, 5, 6, 7]] [[], [], [], [], [], [], [99], []] (fun x => [VIs (.pointer (some ⟨R, 0, none⟩)), VIs (.pointer (some ⟨R, 0, none⟩)), VIs (.pointer (some ⟨R, 0, none⟩)), VIs (.agg #[.int .i64 P, .slice A n c]), VIs (.slice A1 (pw n) c1), VIs (.pointer (some ⟨R, 0, none⟩)), VRk R P sq A n c .fac t2 w.heap.size (fun x => x), VRk R P sq A n c .fac t2 w.heap.size (fun x => contrL P sq x1 x)]) 6 (fun b w' => SRd R P A n c t2 b w' ∧ Ex R w w' ∧ Own w' w.heap.size 2 A1 (pw n) c1 (ints x1)) (by kernel_rfl) (by kernel_rfl) (fun x x' j hx => by
              rcases j with _ | _ | _ | _ | _ | _ | _ | _ | j
              · rfl
              · rfl
              · rfl
              · rfl
              · rfl
              · rfl
              · rfl
              · rfl
              · rfl)
            (weak_ofR [0, 1, 2, 3, 4, 5] (by decide) (fun k hk x v w w' hp hr => by
              simp only [List.mem_cons, List.not_mem_nil, or_false] at hk
              rcases hk with rfl | rfl | rfl | rfl | rfl | rfl
              · exact hp
              · exact hp
              · exact hp
              · exact hp
              · exact hp
              · exact hp)) (fun j b _ w' h hst => hst.eitherK 6 (only_at (by decide)) (fun hb => ⟨h.1.below _ hb, h.2.1.then hb (Nat.le_of_lt HG), h.2.2.below hb⟩) (fun e hr => ⟨SRd.rel b e hr.2, h.2.1.trans hr.1, by obtain ⟨⟨t5, b5, k5, _⟩, _, o5⟩ := h; exact o5.ex hr.1 k5 (by decide)⟩)) (⟨⟨t2, false, hk2.below (Below.refl _ _).drew hk2.lt, fun _ => ⟨rfl, rfl⟩⟩, hE2.then (Below.refl _ _).drew (Nat.le_of_lt HG), hO2.below (Below.refl _ _).drew⟩) (fun x => ?_)
          refine obs_stepK (Eq.trans (by simp only [List.getElem?_toArray, List.getElem?_cons_zero]; exact rfl) rfl) rfl (fun b w' hb0 hS hV K hK => ?_) ?_
          · obtain ⟨⟨ts, bs, hkk, hbb⟩, hEE, hOO⟩ := hS; obtain ⟨q0, q1, q2, q3⟩ := hkk.four
            go_simp
            exact hK.out _ _ _ rfl rfl rfl (Below.refl _ _)
          simp only [List.setIfInBounds_toArray, List.set_cons_zero, List.set_cons_succ]
          refine obs_stepK (Eq.trans (by simp only [List.getElem?_toArray, List.getElem?_cons_succ, List.getElem?_cons_zero]; exact rfl) rfl) rfl (fun b w' hb0 hS hV K hK => ?_) ?_
          · have e0 : x 0 = (.pointer (some ⟨R, 0, none⟩)) := hV 0 (by decide)
            obtain ⟨⟨ts, bs, hkk, hbb⟩, hEE, hOO⟩ := hS; obtain ⟨q0, q1, q2, q3⟩ := hkk.four
            go_simp
            exact hK.out _ _ _ rfl rfl rfl (Below.refl _ _)
          simp only [List.setIfInBounds_toArray, List.set_cons_zero, List.set_cons_succ]
          refine obs_stepK (Eq.trans (by simp only [List.getElem?_toArray, List.getElem?_cons_succ, List.getElem?_cons_zero]; exact rfl) rfl) rfl (fun b w' hb0 hS hV K hK => ?_) ?_
          · have e0 : x 0 = (.pointer (some ⟨R, 0, none⟩)) := hV 0 (by decide)
            have e1 : x 1 = (.pointer (some ⟨R, 0, none⟩)) := hV 1 (by decide)
            obtain ⟨⟨ts, bs, hkk, hbb⟩, hEE, hOO⟩ := hS; obtain ⟨q0, q1, q2, q3⟩ := hkk.four
            go_simp
            exact hK.out _ _ _ rfl rfl rfl (Below.refl _ _)
          simp only [List.setIfInBounds_toArray, List.set_cons_zero, List.set_cons_succ]
          refine obs_stepK (Eq.trans (by simp only [List.getElem?_toArray, List.getElem?_cons_succ, List.getElem?_cons_zero]; exact rfl) rfl) rfl (fun b w' hb0 hS hV K hK => ?_) ?_
          · have e0 : x 0 = (.pointer (some ⟨R, 0, none⟩)) := hV 0 (by decide)
            have e1 : x 1 = (.pointer (some ⟨R, 0, none⟩)) := hV 1 (by decide)
            have e2 : x 2 = (.pointer (some ⟨R, 0, none⟩)) := hV 2 (by decide)
            obtain ⟨⟨ts, bs, hkk, hbb⟩, hEE, hOO⟩ := hS; obtain ⟨q0, q1, q2, q3⟩ := hkk.four
            go_simp
            exact hK.out _ _ _ rfl rfl rfl (Below.refl _ _)
          simp only [List.setIfInBounds_toArray, List.set_cons_zero, List.set_cons_succ]
          refine obs_stepK (Eq.trans (by simp only [List.getElem?_toArray, List.getElem?_cons_succ, List.getElem?_cons_zero]; exact rfl) rfl) rfl (fun b w' hb0 hS hV K hK => ?_) ?_
          · obtain ⟨⟨ts, bs, hkk, hbb⟩, hEE, hOO⟩ := hS; obtain ⟨q0, q1, q2, q3⟩ := hkk.four
            go_simp
            exact hK.out _ _ _ rfl rfl rfl (Below.refl _ _)
          simp only [List.setIfInBounds_toArray, List.set_cons_zero, List.set_cons_succ]
          refine obs_stepK (Eq.trans (by simp only [List.getElem?_toArray, List.getElem?_cons_succ, List.getElem?_cons_zero]; exact rfl) rfl) rfl (fun b w' hb0 hS hV K hK => ?_) ?_
          · obtain ⟨⟨ts, bs, hkk, hbb⟩, hEE, hOO⟩ := hS; obtain ⟨q0, q1, q2, q3⟩ := hkk.four
            go_simp
            exact hK.out _ _ _ rfl rfl rfl (Below.refl _ _)
          simp only [List.setIfInBounds_toArray, List.set_cons_zero, List.set_cons_succ]
          refine obs_stepK (Eq.trans (by simp only [List.getElem?_toArray, List.getElem?_cons_succ, List.getElem?_cons_zero]; exact rfl) rfl) rfl (fun b w' hb0 hS hV K hK => ?_) ?_
          · have e5 : x 5 = (.pointer (some ⟨R, 0, none⟩)) := hV 5 (by decide)
            obtain ⟨⟨ts, bs, hkk, hbb⟩, hEE, hOO⟩ := hS; obtain ⟨q0, q1, q2, q3⟩ := hkk.four
            obtain ⟨e8, e9⟩ := hbb (hb0 rfl)
            rw [e8, e9] at hkk
            go_simp
            refine (hf t2 hlt2 R w' (he.on hEE.b) hA (hr.ex hEE hA) hkk).mono ?_
            rintro e v1 ⟨A8, c8, x8, t8, b8, rfl, hk8, hx8, hO8, hl8, hev8, hE8⟩
            exact hK.out _ _ _ rfl rfl ⟨A8, c8, x8, t8, b8, rfl, hk8, hx8, hO8.base hEE.size, hl8, hev8⟩ (StepR.rel rfl ⟨hE8, t8, b8, hk8⟩)
          simp only [List.setIfInBounds_toArray, List.set_cons_zero, List.set_cons_succ]
          refine obs_stepK (Eq.trans (by simp only [List.getElem?_toArray, List.getElem?_cons_succ, List.getElem?_cons_zero]; exact rfl) rfl) rfl (fun b w' hb0 hS hV K hK => ?_) ?_
          · have e0 : x 0 = (.pointer (some ⟨R, 0, none⟩)) := hV 0 (by decide)
            have e1 : x 1 = (.pointer (some ⟨R, 0, none⟩)) := hV 1 (by decide)
            have e2 : x 2 = (.pointer (some ⟨R, 0, none⟩)) := hV 2 (by decide)
            have e3 : x 3 = (.agg #[.int .i64 P, .slice A n c]) := hV 3 (by decide)
            have e4 : x 4 = (.slice A1 (pw n) c1) := hV 4 (by decide)
            have e5 : x 5 = (.pointer (some ⟨R, 0, none⟩)) := hV 5 (by decide)
            obtain ⟨A6, c6, X6, T6, B6, e6, k6, m6, o6, l6, v6⟩ := hV 6 (by decide)
            obtain ⟨⟨ts, bs, hkk, hbb⟩, hEE, hOO⟩ := hS; obtain ⟨q0, q1, q2, q3⟩ := hkk.four
            go_simp
            refine (contract_any P A n c sq A1 c1 x1 A6 c6 X6 w' hp hp2 hn (hr.ex hEE hA) hs hOO.rd HMU.out.2 o6.rd m6.2).mono ?_
            rintro e v1 ⟨A9, c9, rfl, hM⟩
            exact hK.out _ _ _ rfl rfl ⟨A9, c9, X6, T6, B6, rfl, k6.below hM.b k6.lt, m6, hM.2.base hEE.size, l6, v6⟩ hM.b
          simp only [List.setIfInBounds_toArray, List.set_cons_zero, List.set_cons_succ]
          refine fun w' bb hS hV => ?_
          have e0 : x 0 = (.pointer (some ⟨R, 0, none⟩)) := hV 0 (by decide)
          have e1 : x 1 = (.pointer (some ⟨R, 0, none⟩)) := hV 1 (by decide)
          have e2 : x 2 = (.pointer (some ⟨R, 0, none⟩)) := hV 2 (by decide)
          have e3 : x 3 = (.agg #[.int .i64 P, .slice A n c]) := hV 3 (by decide)
          have e4 : x 4 = (.slice A1 (pw n) c1) := hV 4 (by decide)
          have e5 : x 5 = (.pointer (some ⟨R, 0, none⟩)) := hV 5 (by decide)
          obtain ⟨A6, c6, X6, T6, B6, e6, k6, m6, o6, l6, v6⟩ := hV 6 (by decide)
          obtain ⟨A7, c7, X7, T7, B7, e7, k7, m7, o7, l7, v7⟩ := hV 7 (by decide)
          simp only [e0, e1, e2, e3, e4, e5, e6, e7]
          clear e0 e1 e2 e3 e4 e5 e6 e7
          refine any_one (j := 8) (by kernel_rfl) (Eq.trans (by simp only [List.getElem?_toArray, List.getElem?_cons_succ, List.getElem?_cons_zero]; exact rfl) rfl) (fun K hK => ?_)
          go_simp
          refine hK.out _ _ (wpAny_done (by kernel_rfl) ?_ _)
          have hEE := hS.2.1
          have HEV := Lib.hid v7
          clear v7 hS hV
          go_wp2
          go_roundw
          case rel =>
            refine ⟨A7, c7, contrL P sq x1 X7, T7, B7, rfl, k7, ⟨(contrL_len _ _ _ _).trans HMU.out.1, contrL_nums (by omega) _ _ _⟩, o7, by omega, ?_, hEE⟩
            rw [HS2.out, HEV.out]
            cases B7 <;> rfl
          case measure =>
            rw [k7.cell 2]
            show (ByteArray.mk T7.toArray).size < _
            rw [bs_len]; omega
end Go.Proofs.YticofgmmjecleaaGreatDoor
namespace Go.Proofs.YticofgmmjecleaaGreatDoor
open Go.RowKit
set_option maxHeartbeats 1600000 in
set_option maxRecDepth 8000 in
theorem l04Signs_rev (P : Int) (A : Option Addr) (n c : Nat) (X : Option Addr) (m cx : Nat) (xs : List Int) (w : World) (hp : 2 ≤ P) (hp2 : P ≤ 13) (hm : m ≤ 64) (hx : Rd w X m (ints xs)) (hxs : NumsL P xs) :
    Calls Tryz.prog 183 #[.agg #[.int .i64 P, .slice A n c], .slice X m cx, .bool true, .bool false] w fun e w' => ∃ A' c', e = .returned (.slice A' m c') ∧ MkI w w' A' m c' (sgnL P revT xs) := by
  have hxl : xs.length = m := by have := hx.1; rwa [ints_length] at this
  have hB0 : Below w.heap.size w (w.alloc (.cells #[.int .i64 P, .slice A n c] 28)) := (Below.refl _ w).alloc (Nat.le_refl _) _
  have k0 : Blk (w.alloc (.cells #[.int .i64 P, .slice A n c] 28)) w.heap.size 28 #[.int .i64 P, .slice A n c] := Blk.new _ _ _
  have hM0 := Mk.lit (E := 2) hB0 #[] (by simp)
  have hM1 : MkI w ((w.alloc (.cells #[.int .i64 P, .slice A n c] 28)).alloc (.cells #[] 2)) (some ⟨w.heap.size + 1, 0, none⟩) 0 0 [] := by simpa [MkI, ints] using hM0
  have k1 := k0.alloc (.cells #[] 2)
  have HX := Lib.hid hxl; clear hxl
  go_enter Tryz.func183, Tryz.ntmps183
  go_wp2
  clear hM0 hB0 k0
  obtain ⟨w1, hw1⟩ : ∃ W, W = (w.alloc (.cells #[.int .i64 P, .slice A n c] 28)).alloc (.cells #[] 2) := ⟨_, rfl⟩
  rw [← hw1] at hM1 k1 ⊢
  clear hw1
  go_loopw [9, 10, 11, 12] (fun o i _ _ wr => ∃ (k : Nat) (A' : Option Addr) (c' : Nat), k ≤ m ∧ i = .int .i64 k ∧ o = .slice A' k c' ∧ MkI w wr A' k c' (tab k fun i => if revT (pc i) then (-(xs.getD i 0)) % P else xs.getD i 0) ∧ Blk wr w.heap.size 28 #[.int .i64 P, .slice A n c]) (fun _ i _ _ _ => m - (intOf i).toNat)
  case atStart => exact ⟨0, _, _, by omega, rfl, rfl, by simpa [tab] using hM1, k1⟩
  case round =>
    obtain ⟨k, A', c', hk, rfl, rfl, hM, hk2⟩ := hrel
    clear hM1 k1
    by_cases hlt : k < m
    · obtain ⟨gx, ox, rfl, hxk, hcx⟩ := (hx.below hM.b).int hlt
      obtain ⟨x1, x2⟩ := hxs _ (List.getElem_mem hxk)
      have hpk := pc_le 6 k (by omega)
      have hxd := getD_of_lt 0 hxk
      have HXD := Lib.hid hxd; clear hxd
      have hmm : 0 ≤ ((pc k : Nat) : Int) * (((pc k : Nat) : Int) - 1) ∧ ((pc k : Nat) : Int) * (((pc k : Nat) : Int) - 1) ≤ 1000000 := by
        rcases Nat.eq_zero_or_pos (pc k) with h | h
        · rw [h]; simp
        · have := mul_small (show (0 : Int) ≤ (pc k : Nat) by omega) (show ((pc k : Nat) : Int) ≤ 1000 by omega) (show (0 : Int) ≤ ((pc k : Nat) : Int) - 1 by omega) (show ((pc k : Nat) : Int) - 1 ≤ 1000 by omega)
          omega
      obtain ⟨m1, m2⟩ := hmm
      have hbT := rev_bool (pc k) (by omega)
      cases ht : revT (pc k)
      · rw [ht] at hbT
        have HV : Hid ((tab (k + 1) fun i => if revT (pc i) then (-(xs.getD i 0)) % P else xs.getD i 0) = (tab k fun i => if revT (pc i) then (-(xs.getD i 0)) % P else xs.getD i 0) ++ [xs[k]]) := Lib.hid (by rw [tab_succ, if_neg (by rw [ht]; decide), HXD.out])
        have HM := Lib.hid hM
        clear hM ht
        go_wp2_with (first
          | (go_at_call 136; refine (l04Grade_any k _ (by omega)).mono ?_; rintro e w' ⟨rfl, rfl⟩)
          | (at_builtin; refine wpList_app1 w _ 22 2 _ _ Tryz.underlying22 info_i rfl (by omega) rfl _ _ rfl A' k c' _ _ HM.out (by omega) rfl rfl rfl ?_; intro A2 c2 w2 hM2 hgr _))
        have hne := HM.out.2.ne_blk hk2 (by decide)
        have hk3 := hk2.grown hgr hne
        go_roundw
        case rel => exact ⟨k + 1, A2, c2, by omega, by go_num, rfl, by rw [HV.out]; simpa [MkI, ints] using hM2, hk3⟩
        case measure => simp [intOf]; omega
      · rw [ht] at hbT
        have HV : Hid ((tab (k + 1) fun i => if revT (pc i) then (-(xs.getD i 0)) % P else xs.getD i 0) = (tab k fun i => if revT (pc i) then (-(xs.getD i 0)) % P else xs.getD i 0) ++ [(-xs[k]) % P]) := Lib.hid (by rw [tab_succ, if_pos ht, HXD.out])
        clear ht
        have W1 := i64_fit (P - xs[k]) (by omega) (by omega)
        have W2 : (P - xs[k]).tmod P = (-xs[k]) % P := by rw [Int.tmod_eq_emod_of_nonneg (by omega), show P - xs[k] = -xs[k] + P by omega, Int.add_emod_right]
        have i1 : (0 : Int) ≤ (k : Int) := by omega
        have hP0 : ¬ P = 0 := by omega
        have i2 : (k : Int) < (m : Int) := by omega
        go_wp2_with (go_at_call 136; refine (l04Grade_any k _ (by omega)).mono ?_; rintro e w' ⟨rfl, rfl⟩)
        go_wp2
        refine wp_obs 12 [[], [], [1], [], [], [3, 4], [3, 4, 5], [1, 2, 3, 4, 5, 6], [], [8], [1, 2, 3, 4, 5, 6, 7, 8, 9], [1, 2, 3, 4, 5, 6, 7, 8, 9, 10], [0, 1, 2, 3, 4, 5, 6, 7, 8, 9, 10, 11], [0, 1, 2, 3, 4, 5, 6, 7, 8, 9, 10, 11, 12]] [VIs (.slice A' k c'), VIs (.pointer (some ⟨w.heap.size, 0, none⟩)), VIs (.int .i64 P), VIs (.slice (some ⟨gx, ox, none⟩) m cx), VIs (.int .i64 k), VIs (.pointer (some ⟨gx, ox + k, none⟩)), VIs (.int .i64 xs[k]), VIs (.int .i64 (P - xs[k])), VIs (.pointer (some ⟨w.heap.size, 0, none⟩)), VIs (.int .i64 P), VIs (.int .i64 ((-xs[k]) % P)), VBs 2 #[.int .i64 ((-xs[k]) % P)]] (fun w' => Blk w' w.heap.size 28 #[.int .i64 P, .slice A n c] ∧ MkI w w' A' k c' (tab k fun i => if revT (pc i) then (-(xs.getD i 0)) % P else xs.getD i 0) ∧ w'.cell? ⟨gx, ox + k, none⟩ = some (.int .i64 xs[k])) (by kernel_rfl) (by kernel_rfl) (fun _ _ h hb => ⟨h.1.below hb h.1.lt, h.2.1.below hb, (hb.cell (World.block_lt_of_cell? _ _ h.2.2)).trans h.2.2⟩) (⟨hk2.drew, hM.drew, hcx⟩) (fun x => ?_)
        refine obs_step (Eq.trans (by simp only [List.getElem?_toArray, List.getElem?_cons_zero]; exact rfl) rfl) rfl (fun w' hS hV K hK => ?_) ?_
        · obtain ⟨q0, q1⟩ := hS.1.two; have q2 := hS.2.2
          go_simp
          exact hK.out _ _ _ rfl rfl rfl (Below.refl _ _)
        simp only [List.setIfInBounds_toArray, List.set_cons_zero, List.set_cons_succ]
        refine obs_step (Eq.trans (by simp only [List.getElem?_toArray, List.getElem?_cons_succ, List.getElem?_cons_zero]; exact rfl) rfl) rfl (fun w' hS hV K hK => ?_) ?_
        · obtain ⟨q0, q1⟩ := hS.1.two; have q2 := hS.2.2
          go_simp
          exact hK.out _ _ _ rfl rfl rfl (Below.refl _ _)
        simp only [List.setIfInBounds_toArray, List.set_cons_zero, List.set_cons_succ]
        refine obs_step (Eq.trans (by simp only [List.getElem?_toArray, List.getElem?_cons_succ, List.getElem?_cons_zero]; exact rfl) rfl) rfl (fun w' hS hV K hK => ?_) ?_
        · simp only [List.mem_cons, List.not_mem_nil, or_false, forall_eq, List.getD_cons_succ, List.getD_cons_zero, VIs, VAny, VBs] at hV
          obtain e1 := hV
          obtain ⟨q0, q1⟩ := hS.1.two; have q2 := hS.2.2
          go_simp
          exact hK.out _ _ _ rfl rfl rfl (Below.refl _ _)
        simp only [List.setIfInBounds_toArray, List.set_cons_zero, List.set_cons_succ]
        refine obs_step (Eq.trans (by simp only [List.getElem?_toArray, List.getElem?_cons_succ, List.getElem?_cons_zero]; exact rfl) rfl) rfl (fun w' hS hV K hK => ?_) ?_
        · obtain ⟨q0, q1⟩ := hS.1.two; have q2 := hS.2.2
          go_simp
          exact hK.out _ _ _ rfl rfl rfl (Below.refl _ _)
        simp only [List.setIfInBounds_toArray, List.set_cons_zero, List.set_cons_succ]
        refine obs_step (Eq.trans (by simp only [List.getElem?_toArray, List.getElem?_cons_succ, List.getElem?_cons_zero]; exact rfl) rfl) rfl (fun w' hS hV K hK => ?_) ?_
        · obtain ⟨q0, q1⟩ := hS.1.two; have q2 := hS.2.2
          go_simp
          exact hK.out _ _ _ rfl rfl rfl (Below.refl _ _)
        simp only [List.setIfInBounds_toArray, List.set_cons_zero, List.set_cons_succ]
        refine obs_step (Eq.trans (by simp only [List.getElem?_toArray, List.getElem?_cons_succ, List.getElem?_cons_zero]; exact rfl) rfl) rfl (fun w' hS hV K hK => ?_) ?_
        · simp only [List.mem_cons, List.not_mem_nil, or_false, forall_eq_or_imp, forall_eq, List.getD_cons_succ, List.getD_cons_zero, VIs, VAny, VBs] at hV
          obtain ⟨e3, e4⟩ := hV
          obtain ⟨q0, q1⟩ := hS.1.two; have q2 := hS.2.2
          go_simp
          exact hK.out _ _ _ rfl rfl rfl (Below.refl _ _)
        simp only [List.setIfInBounds_toArray, List.set_cons_zero, List.set_cons_succ]
        refine obs_step (Eq.trans (by simp only [List.getElem?_toArray, List.getElem?_cons_succ, List.getElem?_cons_zero]; exact rfl) rfl) rfl (fun w' hS hV K hK => ?_) ?_
        · simp only [List.mem_cons, List.not_mem_nil, or_false, forall_eq_or_imp, forall_eq, List.getD_cons_succ, List.getD_cons_zero, VIs, VAny, VBs] at hV
          obtain ⟨e3, e4, e5⟩ := hV
          obtain ⟨q0, q1⟩ := hS.1.two; have q2 := hS.2.2
          go_simp
          exact hK.out _ _ _ rfl rfl rfl (Below.refl _ _)
        simp only [List.setIfInBounds_toArray, List.set_cons_zero, List.set_cons_succ]
        refine obs_step (Eq.trans (by simp only [List.getElem?_toArray, List.getElem?_cons_succ, List.getElem?_cons_zero]; exact rfl) rfl) rfl (fun w' hS hV K hK => ?_) ?_
        · simp only [List.mem_cons, List.not_mem_nil, or_false, forall_eq_or_imp, forall_eq, List.getD_cons_succ, List.getD_cons_zero, VIs, VAny, VBs] at hV
          obtain ⟨e1, e2, e3, e4, e5, e6⟩ := hV
          obtain ⟨q0, q1⟩ := hS.1.two; have q2 := hS.2.2
          go_simp
          exact hK.out _ _ _ rfl rfl rfl (Below.refl _ _)
        simp only [List.setIfInBounds_toArray, List.set_cons_zero, List.set_cons_succ]
        refine obs_step (Eq.trans (by simp only [List.getElem?_toArray, List.getElem?_cons_succ, List.getElem?_cons_zero]; exact rfl) rfl) rfl (fun w' hS hV K hK => ?_) ?_
        · obtain ⟨q0, q1⟩ := hS.1.two; have q2 := hS.2.2
          go_simp
          exact hK.out _ _ _ rfl rfl rfl (Below.refl _ _)
        simp only [List.setIfInBounds_toArray, List.set_cons_zero, List.set_cons_succ]
        refine obs_step (Eq.trans (by simp only [List.getElem?_toArray, List.getElem?_cons_succ, List.getElem?_cons_zero]; exact rfl) rfl) rfl (fun w' hS hV K hK => ?_) ?_
        · simp only [List.mem_cons, List.not_mem_nil, or_false, forall_eq, List.getD_cons_succ, List.getD_cons_zero, VIs, VAny, VBs] at hV
          obtain e8 := hV
          obtain ⟨q0, q1⟩ := hS.1.two; have q2 := hS.2.2
          go_simp
          exact hK.out _ _ _ rfl rfl rfl (Below.refl _ _)
        simp only [List.setIfInBounds_toArray, List.set_cons_zero, List.set_cons_succ]
        refine obs_step (Eq.trans (by simp only [List.getElem?_toArray, List.getElem?_cons_succ, List.getElem?_cons_zero]; exact rfl) rfl) rfl (fun w' hS hV K hK => ?_) ?_
        · simp only [List.mem_cons, List.not_mem_nil, or_false, forall_eq_or_imp, forall_eq, List.getD_cons_succ, List.getD_cons_zero, VIs, VAny, VBs] at hV
          obtain ⟨e1, e2, e3, e4, e5, e6, e7, e8, e9⟩ := hV
          obtain ⟨q0, q1⟩ := hS.1.two; have q2 := hS.2.2
          go_simp
          exact hK.out _ _ _ rfl rfl rfl (Below.refl _ _)
        simp only [List.setIfInBounds_toArray, List.set_cons_zero, List.set_cons_succ]
        refine obs_step (Eq.trans (by simp only [List.getElem?_toArray, List.getElem?_cons_succ, List.getElem?_cons_zero]; exact rfl) rfl) rfl (fun w' hS hV K hK => ?_) ?_
        · simp only [List.mem_cons, List.not_mem_nil, or_false, forall_eq_or_imp, forall_eq, List.getD_cons_succ, List.getD_cons_zero, VIs, VAny, VBs] at hV
          obtain ⟨e1, e2, e3, e4, e5, e6, e7, e8, e9, e10⟩ := hV
          obtain ⟨q0, q1⟩ := hS.1.two; have q2 := hS.2.2
          go_simp
          exact hK.out _ _ _ rfl rfl ⟨_, rfl, Blk.new _ _ _⟩ ((Below.refl _ _).alloc (Nat.le_refl _) _)
        simp only [List.setIfInBounds_toArray, List.set_cons_zero, List.set_cons_succ]
        refine fun w' hS hV => ?_
        have hV := fun i hi => hV i (List.mem_range.1 hi)
        simp only [List.range, List.range.loop, List.mem_cons, List.not_mem_nil, or_false, forall_eq_or_imp, forall_eq, List.getD_cons_succ, List.getD_cons_zero, VIs, VAny, VBs] at hV
        obtain ⟨e0, e1, e2, e3, e4, e5, e6, e7, e8, e9, e10, ⟨b11, e11, h11⟩⟩ := hV
        simp only [e0, e1, e2, e3, e4, e5, e6, e7, e8, e9, e10, e11]
        clear e0 e1 e2 e3 e4 e5 e6 e7 e8 e9 e10 e11
        obtain ⟨s1, s2, s3⟩ := hS
        refine any_plain (j := 12) (by kernel_rfl) (Eq.trans (by simp only [List.getElem?_toArray, List.getElem?_cons_succ, List.getElem?_cons_zero]; exact rfl) rfl) rfl (fun K hK => ?_)
        refine wp_app1 w w' 22 2 _ _ Tryz.underlying22 info_i rfl (by omega) _ _ rfl A' k c' _ _ s2 (by omega) rfl _ h11 (by rfl) (by rfl) ?_
        intro A2 c2 w2 hM2 hgr
        refine hK.out _ _ ?_
        have hne := s2.2.ne_blk s1 (by decide)
        have hk3 := s1.grown hgr hne
        simp only [Act.put, List.setIfInBounds_toArray, List.set_cons_zero, List.set_cons_succ]
        refine any_one (j := 13) (by kernel_rfl) (Eq.trans (by simp only [List.getElem?_toArray, List.getElem?_cons_succ, List.getElem?_cons_zero]; exact rfl) rfl) (fun K hK => ?_)
        go_simp
        refine hK.out _ _ (wpAny_done (by kernel_rfl) ?_ _)
        clear W1 W2 s2 s3 hM
        go_wp2
        go_roundw
        case rel => exact ⟨k + 1, A2, c2, by omega, by go_num, rfl, by rw [HV.out]; simpa [MkI, ints] using hM2, hk3⟩
        case measure => simp [intOf]; omega
    · obtain rfl : k = m := by omega
      go_wp2
      go_ret
      exact ⟨_, _, rfl, by unfold sgnL; rw [HX.out]; exact hM⟩
set_option maxHeartbeats 400000 in
set_option maxRecDepth 8000 in
theorem l04Reverse_any (P : Int) (A : Option Addr) (n c : Nat) (X : Option Addr) (m cx : Nat) (xs : List Int) (w : World) (hp : 2 ≤ P) (hp2 : P ≤ 13) (hm : m ≤ 64) (hx : Rd w X m (ints xs)) (hxs : NumsL P xs) :
    Calls Tryz.prog 166 #[.agg #[.int .i64 P, .slice A n c], .slice X m cx] w fun e w' => ∃ A' c', e = .returned (.slice A' m c') ∧ MkI w w' A' m c' (revL P xs) := by
  have hB0 : Below w.heap.size w (w.alloc (.cells #[.int .i64 P, .slice A n c] 28)) := (Below.refl _ w).alloc (Nat.le_refl _) _
  have hcall := l04Signs_rev P A n c X m cx xs _ hp hp2 hm (hx.below hB0) hxs
  go_enter Tryz.func166, Tryz.ntmps166
  go_wp2_with (go_at_call 183; refine hcall.mono ?_; rintro e w1 ⟨A', c', rfl, hM⟩)
  go_ret
  exact ⟨_, _, rfl, hM.after hB0⟩
end Go.Proofs.YticofgmmjecleaaGreatDoor
namespace Go.Proofs.YticofgmmjecleaaGreatDoor
open Go Go.RowKit
/-- What a part of the reference's reader leaves. -/
def RsPost (P : Int) (sq : List Int) (A : Option Addr) (n c : Nat) (m : Md) (T : By) (i : Nat) (R : Nat) (w : World) (e : Ending) (w' : World) : Prop :=
  ∃ (A' : Option Addr) (c' : Nat) (x : List Int) (i' : Nat) (b : Bool), e = .returned (.slice A' (pw n) c') ∧ RsB w' R P A n c T i' b ∧ MuL P n x ∧ Own w' w.heap.size 2 A' (pw n) c' (ints x) ∧ i ≤ i' ∧ i' ≤ T.length ∧ evE P sq n m (T.drop i) = (if b = true then none else some (x, T.drop i')) ∧ Ex R w w'
/-- Function F reads a part of kind m at place i. -/
def RsC (F : FuncId) (P : Int) (sq : List Int) (A : Option Addr) (n c : Nat) (m : Md) (T : By) (i : Nat) : Prop :=
  ∀ (R : Nat) (w : World), (∀ a, A = some a → a.block < R) → Rd w A n (ints sq) → RsB w R P A n c T i false → Calls Tryz.prog F #[.pointer (some ⟨R, 0, none⟩)] w (RsPost P sq A n c m T i R w)
theorem plusL_less (P : Int) (x y : List Int) : plusL P x y (P - 1) = plusL P x y (-1) := by
  unfold plusL tab
  refine List.map_congr_left fun i _ => ?_
  generalize x.getD i 0 = a
  generalize y.getD i 0 = b
  rw [show a + (P - 1) * b = a + -1 * b + P * b by grind, Int.add_mul_emod_self_left]
theorem nxt_pk_none {cs T : By} {i : Nat} (h0 : cs.contains 0 = false) (h : cs.contains (pk (T.drop i)) = false) : nxt cs (T.drop i) = none := by rw [nxt_of_pk h0, h]; rfl
theorem nxt_pk_some {cs T : By} {i : Nat} {d : UInt8} (h0 : cs.contains 0 = false) (hd : pk (T.drop i) = d) (h : cs.contains d = true) : nxt cs (T.drop i) = some (d, T.drop (i + 1)) := by rw [nxt_of_pk h0, hd, h, drop_tail]; rfl
theorem u8_ne {d e : UInt8} (h : d ≠ e) : d.toNat ≠ e.toNat := fun h2 => h (UInt8.toNat_inj.1 h2)
/-- Block R is a reader of the reference; as long as b is false, at place i. -/
def SRs (R : Nat) (P : Int) (A : Option Addr) (n c : Nat) (T : By) (i : Nat) (b : Bool) (w : World) : Prop := ∃ i' b', RsB w R P A n c T i' b' ∧ (b = false → i' = i ∧ b' = false)
theorem SRs.below {R : Nat} {P : Int} {A : Option Addr} {n c : Nat} {T : By} {i : Nat} {b : Bool} {w w' : World} (h : SRs R P A n c T i b w) (f : Bool) (hb : Below w.heap.size w w') : SRs R P A n c T i (b || f) w' := by
  obtain ⟨t', b', hk, hf⟩ := h
  exact ⟨t', b', hk.below hb hk.lt, fun e => hf (by cases b <;> simp_all)⟩
theorem SRs.rel {R : Nat} {P : Int} {A : Option Addr} {n c : Nat} {T : By} {i : Nat} {w' : World} (b : Bool) {j k : Nat} (e : j = k) (h : ∃ i b, RsB w' R P A n c T i b) : SRs R P A n c T i (b || j == k) w' := by
  obtain ⟨t', b', hk⟩ := h
  exact ⟨t', b', hk, fun e2 => by subst e; simp at e2⟩
/-- What a part of the reference's reader leaves, as a value. -/
def VSk (R : Nat) (P : Int) (sq : List Int) (A : Option Addr) (n c : Nat) (m : Md) (T : By) (i : Nat) (B : Nat) (f : List Int → List Int) : VP :=
  ⟨fun v w => ∃ (A' : Option Addr) (c' : Nat) (x : List Int) (i' : Nat) (b : Bool), v = .slice A' (pw n) c' ∧ RsB w R P A n c T i' b ∧ MuL P n x ∧ Own w B 2 A' (pw n) c' (ints (f x)) ∧ i ≤ i' ∧ i' ≤ T.length ∧ evE P sq n m (T.drop i) = (if b = true then none else some (x, T.drop i')),
   fun _ _ _ ⟨A', c', x, t', b, e, hk, hx, ho, hl, hev⟩ hb => ⟨A', c', x, t', b, e, hk.below hb hk.lt, hx, ho.below hb, hl, hev⟩⟩
set_option maxHeartbeats 12800000 in
set_option maxRecDepth 8000 in
theorem ssum_any (P : Int) (sq : List Int) (A : Option Addr) (n c : Nat) (T : By) (i : Nat) (hp : 2 ≤ P) (hp2 : P ≤ 13) (hn : n ≤ 6) (hT : T.length ≤ 1048576) (hi : i ≤ T.length)
    (hpr : ∀ i' : Nat, i ≤ i' → i' ≤ T.length → RsC 119 P sq A n c .prod T i') : RsC 88 P sq A n c .sum T i := by
  intro R w hA hr hk
  have hpn : pw n ≤ 64 := pw_le hn
  have HG := hk.lt
  have h0 := hpr i (Nat.le_refl _) hi R w hA hr hk
  obtain ⟨V, hV⟩ : ∃ V, V = evE P sq n .sum (T.drop i) := ⟨_, rfl⟩
  have HV := Lib.hid hV
  clear hV
  go_enter Tryz.func88, Tryz.ntmps88
  go_wp2_with fail
  refine h0.mono ?_
  rintro e w1 ⟨A1, c1, x1, i1, b1, rfl, hk1, hx1, hO1, hl1, hl1b, hev1, hE1⟩
  have hs1 : V = if b1 = true then none else evE P sq n (.sumL x1) (T.drop i1) := by
    rw [HV.out, evE_sum_eq, hev1]; cases b1 <;> rfl
  clear h0 hev1
  go_wp2
  go_loopw [3] (fun out wr => ∃ (A1 : Option Addr) (c1 : Nat) (x1 : List Int) (i1 : Nat) (b1 : Bool), out = .slice A1 (pw n) c1 ∧ RsB wr R P A n c T i1 b1 ∧ MuL P n x1 ∧ Own wr w.heap.size 2 A1 (pw n) c1 (ints x1) ∧ i ≤ i1 ∧ i1 ≤ T.length ∧ V = (if b1 = true then none else evE P sq n (.sumL x1) (T.drop i1)) ∧ Ex R w wr) (fun _ wr => match wr.cell? ⟨R, 3, none⟩ with | some (.int _ x) => T.length - x.toNat | _ => 0)
  case atStart => exact ⟨A1, c1, x1, i1, b1, rfl, hk1, hx1, hO1, hl1, hl1b, hs1, hE1⟩
  case round =>
    clear hk1 hx1 hO1 hl1 hl1b hs1 hE1
    obtain ⟨A1, c1, x1, i1, b1, rfl, hk1, hx1, hO1, hl1, hl1b, hs1, hE1⟩ := hrel
    have q4 := hk1.cell 4
    have HS := Lib.hid hs1
    clear hs1
    cases b1 with
    | true =>
      go_wp2
      go_ret
      exact ⟨A1, c1, x1, i1, true, rfl, hk1, hx1, hO1, hl1, hl1b, HV.out.symm.trans HS.out, hE1⟩
    | false =>
      have hpk := peek_any P A n c T i1 false R wr hT hk1
      obtain ⟨d, hd⟩ : ∃ d, d = pk (T.drop i1) := ⟨_, rfl⟩
      rw [← hd] at hpk
      have hsz : (match wr.cell? ⟨R, 3, none⟩ with | some (.int _ x) => T.length - x.toNat | _ => 0) = T.length - i1 := by rw [hk1.cell 3]; rfl
      rw [hsz]
      clear hsz
      by_cases h43 : d = 43
      · subst h43
        have hnx := nxt_pk_some (cs := [43, 45]) (by decide) hd.symm (by decide)
        have hlt : i1 < T.length := pk_ne_end (by rw [← hd]; decide)
        have HS2 : Hid (V = (evE P sq n .prod (T.drop (i1 + 1))).bind fun r => evE P sq n (.sumL (plusL P x1 r.1 1)) r.2) := Lib.hid (by
          rw [HS.out]
          exact evE_sumL_some x1 hnx)
        clear HS hnx hd
        have HMU := Lib.hid hx1
        clear hx1
        go_wp2_with fail
        refine hpk.mono ?_
        rintro e w2 ⟨rfl, hbp⟩
        have hk2 := hk1.below hbp hk1.lt
        have hO2 := hO1.below hbp
        have hE2 := hE1.then hbp (Nat.le_of_lt HG)
        clear hpk hbp hk1 hO1 hE1 q4
        have f3 := hk2.frozen 3
        have q3 := hk2.cell 3
        have W1 : wrap64 ((i1 : Int) + 1) = (i1 : Int) + 1 := by unfold wrap64; omega
        have hk3 : RsB (w2.setCell ⟨R, 3, none⟩ (.int .i64 ((i1 : Int) + 1))) R P A n c T (i1 + 1) false := hk2.set_ 3 _
        have hE3 := hE2.trans (Ex.set hk2.lt 3 (.int .i64 ((i1 : Int) + 1)))
        have hcall := hpr (i1 + 1) (by omega) (by omega) R _ hA (hr.ex hE3 hA) hk3
        have hO3 := hO2.ex (Ex.set hk2.lt 3 (.int .i64 ((i1 : Int) + 1))) hk2 (by decide)
        go_wp2_with fail
        refine hcall.mono ?_
        rintro e w4 ⟨A2, c2, x2, i2, b2, rfl, hk4, hx2, hO4, hl2, hl3, hev2, hE4⟩
        have hO5 := hO3.ex hE4 hk3 (by decide)
        have hO6 := hO4.base (B' := w.heap.size) hE3.size
        have hE5 := hE3.trans hE4
        have HEV := Lib.hid hev2
        clear hcall hO2 hO3 hE2 hE3 hE4 hk2 hk3 hO4 hev2 f3 q3
        obtain ⟨q0, q1, q2, q3, q4⟩ := hk4.five
        go_wp2_with fail
        refine (l02Plus_any P A1 (pw n) c1 A2 (pw n) c2 1 x1 x2 w4 hp hp2 (by omega) (Nat.le_refl _) hO5.rd HMU.out.2 hO6.rd hx2.2 (by omega) (by omega)).mono ?_
        rintro e w5 ⟨A3, c3, rfl, hM⟩
        have hk5 := hk4.below hM.b hk4.lt
        have hE7 := hE5.then hM.b (Nat.le_of_lt HG)
        have hO7 := hM.2.base (B' := w.heap.size) hE5.size
        clear hE5 hO5 hO6 hk4 hM q0 q1 q2 q3 q4
        go_wp2
        go_roundw
        case rel =>
          refine ⟨A3, c3, _, i2, b2, rfl, hk5, ⟨(plusL_len _ _ _ _).trans HMU.out.1, plusL_nums (by omega) _ _ _⟩, hO7, by omega, hl3, ?_, hE7⟩
          rw [HS2.out, HEV.out]
          cases b2 <;> rfl
        case measure =>
          rw [hk5.cell 3]
          show T.length - (i2 : Int).toNat < _
          omega
      by_cases h45 : d = 45
      · subst h45
        have hnx := nxt_pk_some (cs := [43, 45]) (by decide) hd.symm (by decide)
        have hlt : i1 < T.length := pk_ne_end (by rw [← hd]; decide)
        have HS2 : Hid (V = (evE P sq n .prod (T.drop (i1 + 1))).bind fun r => evE P sq n (.sumL (plusL P x1 r.1 (-1))) r.2) := Lib.hid (by
          rw [HS.out]
          exact evE_sumL_some x1 hnx)
        clear HS hnx hd h43
        have HMU := Lib.hid hx1
        clear hx1
        go_wp2_with fail
        refine hpk.mono ?_
        rintro e w2 ⟨rfl, hbp⟩
        have hk2 := hk1.below hbp hk1.lt
        have hO2 := hO1.below hbp
        have hE2 := hE1.then hbp (Nat.le_of_lt HG)
        clear hpk hbp hk1 hO1 hE1 q4
        have f3 := hk2.frozen 3
        have q3 := hk2.cell 3
        have W1 : wrap64 ((i1 : Int) + 1) = (i1 : Int) + 1 := by unfold wrap64; omega
        have hk3 : RsB (w2.setCell ⟨R, 3, none⟩ (.int .i64 ((i1 : Int) + 1))) R P A n c T (i1 + 1) false := hk2.set_ 3 _
        have hE3 := hE2.trans (Ex.set hk2.lt 3 (.int .i64 ((i1 : Int) + 1)))
        have hcall := hpr (i1 + 1) (by omega) (by omega) R _ hA (hr.ex hE3 hA) hk3
        have hO3 := hO2.ex (Ex.set hk2.lt 3 (.int .i64 ((i1 : Int) + 1))) hk2 (by decide)
        go_wp2_with fail
        refine hcall.mono ?_
        rintro e w4 ⟨A2, c2, x2, i2, b2, rfl, hk4, hx2, hO4, hl2, hl3, hev2, hE4⟩
        have hO5 := hO3.ex hE4 hk3 (by decide)
        have hO6 := hO4.base (B' := w.heap.size) hE3.size
        have hE5 := hE3.trans hE4
        have HEV := Lib.hid hev2
        clear hcall hO2 hO3 hE2 hE3 hE4 hk2 hk3 hO4 hev2 f3 q3
        obtain ⟨q0, q1, q2, q3, q4⟩ := hk4.five
        have WP : IntKind.i64.wrap (P - 1) = P - 1 := by rw [IntWalk.i64_left]; unfold wrap64; omega
        clear q0 q1 q2 q3 q4
        go_wp2_with fail
        refine wp_obs 14 [[], [0], [0, 1], [0, 1, 2], [0, 1, 2, 3], [], [], [], [7], [7, 8], [7, 8, 9], [7, 8, 9, 10], [7, 8, 9, 10, 11], [0, 1, 2, 3, 4, 5, 6, 7, 8, 9, 10, 11, 12], [0, 1, 2, 3, 4, 5, 6, 7, 8, 9, 10, 11, 12, 13]] [VIs (.pointer (some ⟨R, 0, none⟩)), VIs (.pointer (some ⟨R, 0, none⟩)), VIs (.pointer (some ⟨R, 0, none⟩)), VIs (.pointer (some ⟨R, 0, none⟩)), VIs (.int .i64 (P)), VIs (.slice A1 (pw n) c1), VIs (.slice A2 (pw n) c2), VIs (.pointer (some ⟨R, 0, none⟩)), VIs (.pointer (some ⟨R, 0, none⟩)), VIs (.pointer (some ⟨R, 0, none⟩)), VIs (.pointer (some ⟨R, 0, none⟩)), VIs (.int .i64 (P)), VIs (.int .i64 (P - 1)), VSl w4 (pw n) (plusL P x1 x2 (P - 1))] (fun w' => RsB w' R P A n c T i2 b2 ∧ Below w4.heap.size w4 w') (by kernel_rfl) (by kernel_rfl) (fun _ _ h hb => ⟨h.1.below hb h.1.lt, h.2.trans (hb.mono h.2.size)⟩) (⟨hk4.below (Below.refl _ _).drew hk4.lt, (Below.refl _ _).drew⟩) (fun x => ?_)
        refine obs_step (Eq.trans (by simp only [List.getElem?_toArray, List.getElem?_cons_zero]; exact rfl) rfl) rfl (fun w' hS hV K hK => ?_) ?_
        · obtain ⟨q0, q1, q2, q3, q4⟩ := hS.1.five
          go_simp
          exact hK.out _ _ _ rfl rfl rfl (Below.refl _ _)
        simp only [List.setIfInBounds_toArray, List.set_cons_zero, List.set_cons_succ]
        refine obs_step (Eq.trans (by simp only [List.getElem?_toArray, List.getElem?_cons_succ, List.getElem?_cons_zero]; exact rfl) rfl) rfl (fun w' hS hV K hK => ?_) ?_
        · have e0 : x 0 = (.pointer (some ⟨R, 0, none⟩)) := hV 0 (by decide)
          obtain ⟨q0, q1, q2, q3, q4⟩ := hS.1.five
          go_simp
          exact hK.out _ _ _ rfl rfl rfl (Below.refl _ _)
        simp only [List.setIfInBounds_toArray, List.set_cons_zero, List.set_cons_succ]
        refine obs_step (Eq.trans (by simp only [List.getElem?_toArray, List.getElem?_cons_succ, List.getElem?_cons_zero]; exact rfl) rfl) rfl (fun w' hS hV K hK => ?_) ?_
        · have e0 : x 0 = (.pointer (some ⟨R, 0, none⟩)) := hV 0 (by decide)
          have e1 : x 1 = (.pointer (some ⟨R, 0, none⟩)) := hV 1 (by decide)
          obtain ⟨q0, q1, q2, q3, q4⟩ := hS.1.five
          go_simp
          exact hK.out _ _ _ rfl rfl rfl (Below.refl _ _)
        simp only [List.setIfInBounds_toArray, List.set_cons_zero, List.set_cons_succ]
        refine obs_step (Eq.trans (by simp only [List.getElem?_toArray, List.getElem?_cons_succ, List.getElem?_cons_zero]; exact rfl) rfl) rfl (fun w' hS hV K hK => ?_) ?_
        · have e0 : x 0 = (.pointer (some ⟨R, 0, none⟩)) := hV 0 (by decide)
          have e1 : x 1 = (.pointer (some ⟨R, 0, none⟩)) := hV 1 (by decide)
          have e2 : x 2 = (.pointer (some ⟨R, 0, none⟩)) := hV 2 (by decide)
          obtain ⟨q0, q1, q2, q3, q4⟩ := hS.1.five
          go_simp
          exact hK.out _ _ _ rfl rfl rfl (Below.refl _ _)
        simp only [List.setIfInBounds_toArray, List.set_cons_zero, List.set_cons_succ]
        refine obs_step (Eq.trans (by simp only [List.getElem?_toArray, List.getElem?_cons_succ, List.getElem?_cons_zero]; exact rfl) rfl) rfl (fun w' hS hV K hK => ?_) ?_
        · have e0 : x 0 = (.pointer (some ⟨R, 0, none⟩)) := hV 0 (by decide)
          have e1 : x 1 = (.pointer (some ⟨R, 0, none⟩)) := hV 1 (by decide)
          have e2 : x 2 = (.pointer (some ⟨R, 0, none⟩)) := hV 2 (by decide)
          have e3 : x 3 = (.pointer (some ⟨R, 0, none⟩)) := hV 3 (by decide)
          obtain ⟨q0, q1, q2, q3, q4⟩ := hS.1.five
          go_simp
          exact hK.out _ _ _ rfl rfl rfl (Below.refl _ _)
        simp only [List.setIfInBounds_toArray, List.set_cons_zero, List.set_cons_succ]
        refine obs_step (Eq.trans (by simp only [List.getElem?_toArray, List.getElem?_cons_succ, List.getElem?_cons_zero]; exact rfl) rfl) rfl (fun w' hS hV K hK => ?_) ?_
        · obtain ⟨q0, q1, q2, q3, q4⟩ := hS.1.five
          go_simp
          exact hK.out _ _ _ rfl rfl rfl (Below.refl _ _)
        simp only [List.setIfInBounds_toArray, List.set_cons_zero, List.set_cons_succ]
        refine obs_step (Eq.trans (by simp only [List.getElem?_toArray, List.getElem?_cons_succ, List.getElem?_cons_zero]; exact rfl) rfl) rfl (fun w' hS hV K hK => ?_) ?_
        · obtain ⟨q0, q1, q2, q3, q4⟩ := hS.1.five
          go_simp
          exact hK.out _ _ _ rfl rfl rfl (Below.refl _ _)
        simp only [List.setIfInBounds_toArray, List.set_cons_zero, List.set_cons_succ]
        refine obs_step (Eq.trans (by simp only [List.getElem?_toArray, List.getElem?_cons_succ, List.getElem?_cons_zero]; exact rfl) rfl) rfl (fun w' hS hV K hK => ?_) ?_
        · obtain ⟨q0, q1, q2, q3, q4⟩ := hS.1.five
          go_simp
          exact hK.out _ _ _ rfl rfl rfl (Below.refl _ _)
        simp only [List.setIfInBounds_toArray, List.set_cons_zero, List.set_cons_succ]
        refine obs_step (Eq.trans (by simp only [List.getElem?_toArray, List.getElem?_cons_succ, List.getElem?_cons_zero]; exact rfl) rfl) rfl (fun w' hS hV K hK => ?_) ?_
        · have e7 : x 7 = (.pointer (some ⟨R, 0, none⟩)) := hV 7 (by decide)
          obtain ⟨q0, q1, q2, q3, q4⟩ := hS.1.five
          go_simp
          exact hK.out _ _ _ rfl rfl rfl (Below.refl _ _)
        simp only [List.setIfInBounds_toArray, List.set_cons_zero, List.set_cons_succ]
        refine obs_step (Eq.trans (by simp only [List.getElem?_toArray, List.getElem?_cons_succ, List.getElem?_cons_zero]; exact rfl) rfl) rfl (fun w' hS hV K hK => ?_) ?_
        · have e7 : x 7 = (.pointer (some ⟨R, 0, none⟩)) := hV 7 (by decide)
          have e8 : x 8 = (.pointer (some ⟨R, 0, none⟩)) := hV 8 (by decide)
          obtain ⟨q0, q1, q2, q3, q4⟩ := hS.1.five
          go_simp
          exact hK.out _ _ _ rfl rfl rfl (Below.refl _ _)
        simp only [List.setIfInBounds_toArray, List.set_cons_zero, List.set_cons_succ]
        refine obs_step (Eq.trans (by simp only [List.getElem?_toArray, List.getElem?_cons_succ, List.getElem?_cons_zero]; exact rfl) rfl) rfl (fun w' hS hV K hK => ?_) ?_
        · have e7 : x 7 = (.pointer (some ⟨R, 0, none⟩)) := hV 7 (by decide)
          have e8 : x 8 = (.pointer (some ⟨R, 0, none⟩)) := hV 8 (by decide)
          have e9 : x 9 = (.pointer (some ⟨R, 0, none⟩)) := hV 9 (by decide)
          obtain ⟨q0, q1, q2, q3, q4⟩ := hS.1.five
          go_simp
          exact hK.out _ _ _ rfl rfl rfl (Below.refl _ _)
        simp only [List.setIfInBounds_toArray, List.set_cons_zero, List.set_cons_succ]
        refine obs_step (Eq.trans (by simp only [List.getElem?_toArray, List.getElem?_cons_succ, List.getElem?_cons_zero]; exact rfl) rfl) rfl (fun w' hS hV K hK => ?_) ?_
        · have e7 : x 7 = (.pointer (some ⟨R, 0, none⟩)) := hV 7 (by decide)
          have e8 : x 8 = (.pointer (some ⟨R, 0, none⟩)) := hV 8 (by decide)
          have e9 : x 9 = (.pointer (some ⟨R, 0, none⟩)) := hV 9 (by decide)
          have e10 : x 10 = (.pointer (some ⟨R, 0, none⟩)) := hV 10 (by decide)
          obtain ⟨q0, q1, q2, q3, q4⟩ := hS.1.five
          go_simp
          exact hK.out _ _ _ rfl rfl rfl (Below.refl _ _)
        simp only [List.setIfInBounds_toArray, List.set_cons_zero, List.set_cons_succ]
        refine obs_step (Eq.trans (by simp only [List.getElem?_toArray, List.getElem?_cons_succ, List.getElem?_cons_zero]; exact rfl) rfl) rfl (fun w' hS hV K hK => ?_) ?_
        · have e7 : x 7 = (.pointer (some ⟨R, 0, none⟩)) := hV 7 (by decide)
          have e8 : x 8 = (.pointer (some ⟨R, 0, none⟩)) := hV 8 (by decide)
          have e9 : x 9 = (.pointer (some ⟨R, 0, none⟩)) := hV 9 (by decide)
          have e10 : x 10 = (.pointer (some ⟨R, 0, none⟩)) := hV 10 (by decide)
          have e11 : x 11 = (.int .i64 (P)) := hV 11 (by decide)
          obtain ⟨q0, q1, q2, q3, q4⟩ := hS.1.five
          go_simp
          exact hK.out _ _ _ rfl rfl rfl (Below.refl _ _)
        simp only [List.setIfInBounds_toArray, List.set_cons_zero, List.set_cons_succ]
        refine obs_step (Eq.trans (by simp only [List.getElem?_toArray, List.getElem?_cons_succ, List.getElem?_cons_zero]; exact rfl) rfl) rfl (fun w' hS hV K hK => ?_) ?_
        · have e0 : x 0 = (.pointer (some ⟨R, 0, none⟩)) := hV 0 (by decide)
          have e1 : x 1 = (.pointer (some ⟨R, 0, none⟩)) := hV 1 (by decide)
          have e2 : x 2 = (.pointer (some ⟨R, 0, none⟩)) := hV 2 (by decide)
          have e3 : x 3 = (.pointer (some ⟨R, 0, none⟩)) := hV 3 (by decide)
          have e4 : x 4 = (.int .i64 (P)) := hV 4 (by decide)
          have e5 : x 5 = (.slice A1 (pw n) c1) := hV 5 (by decide)
          have e6 : x 6 = (.slice A2 (pw n) c2) := hV 6 (by decide)
          have e7 : x 7 = (.pointer (some ⟨R, 0, none⟩)) := hV 7 (by decide)
          have e8 : x 8 = (.pointer (some ⟨R, 0, none⟩)) := hV 8 (by decide)
          have e9 : x 9 = (.pointer (some ⟨R, 0, none⟩)) := hV 9 (by decide)
          have e10 : x 10 = (.pointer (some ⟨R, 0, none⟩)) := hV 10 (by decide)
          have e11 : x 11 = (.int .i64 (P)) := hV 11 (by decide)
          have e12 : x 12 = (.int .i64 (P - 1)) := hV 12 (by decide)
          obtain ⟨q0, q1, q2, q3, q4⟩ := hS.1.five
          go_simp
          refine (l02Plus_any P A1 (pw n) c1 A2 (pw n) c2 (P - 1) x1 x2 w' hp hp2 (by omega) (Nat.le_refl _) (hO5.rd.below hS.2) HMU.out.2 (hO6.rd.below hS.2) hx2.2 (by omega) (by omega)).mono ?_
          rintro e v1 ⟨A9, c9, rfl, hM⟩
          exact hK.out _ _ _ rfl rfl ⟨A9, c9, rfl, hM.after hS.2⟩ hM.b
        simp only [List.setIfInBounds_toArray, List.set_cons_zero, List.set_cons_succ]
        refine fun w' hS hV => ?_
        have e0 : x 0 = (.pointer (some ⟨R, 0, none⟩)) := hV 0 (by decide)
        have e1 : x 1 = (.pointer (some ⟨R, 0, none⟩)) := hV 1 (by decide)
        have e2 : x 2 = (.pointer (some ⟨R, 0, none⟩)) := hV 2 (by decide)
        have e3 : x 3 = (.pointer (some ⟨R, 0, none⟩)) := hV 3 (by decide)
        have e4 : x 4 = (.int .i64 (P)) := hV 4 (by decide)
        have e5 : x 5 = (.slice A1 (pw n) c1) := hV 5 (by decide)
        have e6 : x 6 = (.slice A2 (pw n) c2) := hV 6 (by decide)
        have e7 : x 7 = (.pointer (some ⟨R, 0, none⟩)) := hV 7 (by decide)
        have e8 : x 8 = (.pointer (some ⟨R, 0, none⟩)) := hV 8 (by decide)
        have e9 : x 9 = (.pointer (some ⟨R, 0, none⟩)) := hV 9 (by decide)
        have e10 : x 10 = (.pointer (some ⟨R, 0, none⟩)) := hV 10 (by decide)
        have e11 : x 11 = (.int .i64 (P)) := hV 11 (by decide)
        have e12 : x 12 = (.int .i64 (P - 1)) := hV 12 (by decide)
        obtain ⟨A13, c13, e13, h13⟩ := hV 13 (by decide)
        simp only [e0, e1, e2, e3, e4, e5, e6, e7, e8, e9, e10, e11, e12, e13]
        clear e0 e1 e2 e3 e4 e5 e6 e7 e8 e9 e10 e11 e12 e13
        refine any_one (j := 14) (by kernel_rfl) (Eq.trans (by simp only [List.getElem?_toArray, List.getElem?_cons_succ, List.getElem?_cons_zero]; exact rfl) rfl) (fun K hK => ?_)
        go_simp
        refine hK.out _ _ (wpAny_done (by kernel_rfl) ?_ _)
        have hM := h13
        rw [plusL_less] at hM
        have hk5 := hS.1
        have hE7 := hE5.then hS.2 (Nat.le_of_lt HG)
        have hO7 := hM.2.base (B' := w.heap.size) hE5.size
        clear hE5 hO5 hO6 hk4 hM hS hV h13
        go_wp2
        go_roundw
        case rel =>
          refine ⟨A13, c13, _, i2, b2, rfl, hk5, ⟨(plusL_len _ _ _ _).trans HMU.out.1, plusL_nums (by omega) _ _ _⟩, hO7, by omega, hl3, ?_, hE7⟩
          rw [HS2.out, HEV.out]
          cases b2 <;> rfl
        case measure =>
          rw [hk5.cell 3]
          show T.length - (i2 : Int).toNat < _
          omega
      · have hnx := nxt_pk_none (cs := [43, 45]) (T := T) (i := i1) (by decide) (by rw [← hd]; simp [h43, h45])
        have e43 := u8_ne h43
        have e45 := u8_ne h45
        obtain ⟨z, hz⟩ : ∃ z : Nat, z = d.toNat := ⟨_, rfl⟩
        rw [← hz] at hpk e43 e45
        have c43 : ((z : Int) == 43) = false := by have : (43 : UInt8).toNat = 43 := rfl; simp; omega
        have c45 : ((z : Int) == 45) = false := by have : (45 : UInt8).toNat = 45 := rfl; simp; omega
        have n43 : ((z : Int) != 43) = true := by simp only [bne, c43]; rfl
        have n45 : ((z : Int) != 45) = true := by simp only [bne, c45]; rfl
        have HNX := Lib.hid hnx
        clear hz hd h43 h45 e43 e45 hnx
        go_wp2_with fail
        refine hpk.mono ?_
        rintro e w2 ⟨rfl, hbp⟩
        go_wp2
        go_ret
        exact ⟨A1, c1, x1, i1, false, rfl, hk1.below hbp hk1.lt, hx1, hO1.below hbp, hl1, hl1b, by rw [← HV.out, HS.out]; exact evE_sumL_none x1 HNX.out, hE1.then hbp (Nat.le_of_lt HG)⟩
set_option maxHeartbeats 12800000 in
set_option maxRecDepth 8000 in
theorem sprod_any (P : Int) (sq : List Int) (A : Option Addr) (n c : Nat) (T : By) (i : Nat) (hp : 2 ≤ P) (hp2 : P ≤ 13) (hn : n ≤ 6) (hT : T.length ≤ 1048576) (hi : i ≤ T.length) (hs : NumsL P sq)
    (hf : ∀ i' : Nat, i ≤ i' → i' ≤ T.length → RsC 144 P sq A n c .fac T i') : RsC 119 P sq A n c .prod T i := by
  intro R w hA hr hk
  have hpn : pw n ≤ 64 := pw_le hn
  have HG := hk.lt
  have h0 := hf i (Nat.le_refl _) hi R w hA hr hk
  obtain ⟨V, hV⟩ : ∃ V, V = evE P sq n .prod (T.drop i) := ⟨_, rfl⟩
  have HV := Lib.hid hV
  clear hV
  go_enter Tryz.func119, Tryz.ntmps119
  go_wp2_with fail
  refine h0.mono ?_
  rintro e w1 ⟨A1, c1, x1, i1, b1, rfl, hk1, hx1, hO1, hl1, hl1b, hev1, hE1⟩
  have hs1 : V = if b1 = true then none else evE P sq n (.prodL x1) (T.drop i1) := by
    rw [HV.out, evE_prod_eq, hev1]; cases b1 <;> rfl
  clear h0 hev1
  go_wp2
  go_loopw [3] (fun out wr => ∃ (A1 : Option Addr) (c1 : Nat) (x1 : List Int) (i1 : Nat) (b1 : Bool), out = .slice A1 (pw n) c1 ∧ RsB wr R P A n c T i1 b1 ∧ MuL P n x1 ∧ Own wr w.heap.size 2 A1 (pw n) c1 (ints x1) ∧ i ≤ i1 ∧ i1 ≤ T.length ∧ V = (if b1 = true then none else evE P sq n (.prodL x1) (T.drop i1)) ∧ Ex R w wr) (fun _ wr => match wr.cell? ⟨R, 3, none⟩ with | some (.int _ x) => T.length - x.toNat | _ => 0)
  case atStart => exact ⟨A1, c1, x1, i1, b1, rfl, hk1, hx1, hO1, hl1, hl1b, hs1, hE1⟩
  case round =>
    clear hk1 hx1 hO1 hl1 hl1b hs1 hE1
    obtain ⟨A1, c1, x1, i1, b1, rfl, hk1, hx1, hO1, hl1, hl1b, hs1, hE1⟩ := hrel
    have q4 := hk1.cell 4
    have HS := Lib.hid hs1
    clear hs1
    cases b1 with
    | true =>
      go_wp2
      go_ret
      exact ⟨A1, c1, x1, i1, true, rfl, hk1, hx1, hO1, hl1, hl1b, HV.out.symm.trans HS.out, hE1⟩
    | false =>
      have hpk := peek_any P A n c T i1 false R wr hT hk1
      obtain ⟨d, hd⟩ : ∃ d, d = pk (T.drop i1) := ⟨_, rfl⟩
      rw [← hd] at hpk
      have hsz : (match wr.cell? ⟨R, 3, none⟩ with | some (.int _ x) => T.length - x.toNat | _ => 0) = T.length - i1 := by rw [hk1.cell 3]; rfl
      rw [hsz]
      clear hsz
      by_cases h42 : d = 42
      · subst h42
        have hnx := nxt_pk_some (cs := [42, 94, 46]) (by decide) hd.symm (by decide)
        have hlt : i1 < T.length := pk_ne_end (by rw [← hd]; decide)
        have HS2 : Hid (V = (evE P sq n .fac (T.drop (i1 + 1))).bind fun r => evE P sq n (.prodL (mulL P sq x1 r.1)) r.2) := Lib.hid (by
          rw [HS.out]
          exact evE_prodL_some x1 hnx)
        clear HS hnx hd
        have HMU := Lib.hid hx1
        clear hx1
        go_wp2_with fail
        refine hpk.mono ?_
        rintro e w2 ⟨rfl, hbp⟩
        have hk2 := hk1.below hbp hk1.lt
        have hO2 := hO1.below hbp
        have hE2 := hE1.then hbp (Nat.le_of_lt HG)
        clear hpk hbp hk1 hO1 hE1 q4
        have f3 := hk2.frozen 3
        have q3 := hk2.cell 3
        have W1 : wrap64 ((i1 : Int) + 1) = (i1 : Int) + 1 := by unfold wrap64; omega
        have hk3 : RsB (w2.setCell ⟨R, 3, none⟩ (.int .i64 ((i1 : Int) + 1))) R P A n c T (i1 + 1) false := hk2.set_ 3 _
        have hE3 := hE2.trans (Ex.set hk2.lt 3 (.int .i64 ((i1 : Int) + 1)))
        have hcall := hf (i1 + 1) (by omega) (by omega) R _ hA (hr.ex hE3 hA) hk3
        have hO3 := hO2.ex (Ex.set hk2.lt 3 (.int .i64 ((i1 : Int) + 1))) hk2 (by decide)
        go_wp2_with fail
        refine hcall.mono ?_
        rintro e w4 ⟨A2, c2, x2, i2, b2, rfl, hk4, hx2, hO4, hl2, hl3, hev2, hE4⟩
        have hO5 := hO3.ex hE4 hk3 (by decide)
        have hO6 := hO4.base (B' := w.heap.size) hE3.size
        have hE5 := hE3.trans hE4
        have HEV := Lib.hid hev2
        clear hcall hO2 hO3 hE2 hE3 hE4 hk2 hk3 hO4 hev2 f3 q3
        obtain ⟨q0, q1, q2, q3, q4⟩ := hk4.five
        go_wp2_with fail
        refine (l04Times_any P A n c sq A1 c1 x1 A2 c2 x2 w4 hp hp2 hn (hr.ex hE5 hA) hs hO5.rd HMU.out.2 hO6.rd hx2.2).mono ?_
        rintro e w5 ⟨A3, c3, rfl, hM⟩
        have hk5 := hk4.below hM.b hk4.lt
        have hE7 := hE5.then hM.b (Nat.le_of_lt HG)
        have hO7 := hM.2.base (B' := w.heap.size) hE5.size
        clear hE5 hO5 hO6 hk4 hM q0 q1 q2 q3 q4
        go_wp2
        go_roundw
        case rel =>
          refine ⟨A3, c3, mulL P sq x1 x2, i2, b2, rfl, hk5, ⟨(mulL_len _ _ _ _).trans HMU.out.1, mulL_nums (by omega) _ _ _⟩, hO7, by omega, hl3, ?_, hE7⟩
          rw [HS2.out, HEV.out]
          cases b2 <;> rfl
        case measure =>
          rw [hk5.cell 3]
          show T.length - (i2 : Int).toNat < _
          omega
      by_cases h94 : d = 94
      · subst h94
        have hnx := nxt_pk_some (cs := [42, 94, 46]) (by decide) hd.symm (by decide)
        have hlt : i1 < T.length := pk_ne_end (by rw [← hd]; decide)
        have HS2 : Hid (V = (evE P sq n .fac (T.drop (i1 + 1))).bind fun r => evE P sq n (.prodL (wedgeL P sq x1 r.1)) r.2) := Lib.hid (by
          rw [HS.out]
          exact evE_prodL_some x1 hnx)
        clear HS hnx hd h42
        have HMU := Lib.hid hx1
        clear hx1
        go_wp2_with fail
        refine hpk.mono ?_
        rintro e w2 ⟨rfl, hbp⟩
        have hk2 := hk1.below hbp hk1.lt
        have hO2 := hO1.below hbp
        have hE2 := hE1.then hbp (Nat.le_of_lt HG)
        clear hpk hbp hk1 hO1 hE1 q4
        have f3 := hk2.frozen 3
        have q3 := hk2.cell 3
        have W1 : wrap64 ((i1 : Int) + 1) = (i1 : Int) + 1 := by unfold wrap64; omega
        have hk3 : RsB (w2.setCell ⟨R, 3, none⟩ (.int .i64 ((i1 : Int) + 1))) R P A n c T (i1 + 1) false := hk2.set_ 3 _
        have hE3 := hE2.trans (Ex.set hk2.lt 3 (.int .i64 ((i1 : Int) + 1)))
        have hcall := hf (i1 + 1) (by omega) (by omega) R _ hA (hr.ex hE3 hA) hk3
        have hO3 := hO2.ex (Ex.set hk2.lt 3 (.int .i64 ((i1 : Int) + 1))) hk2 (by decide)
        go_wp2_with fail
        refine hcall.mono ?_
        rintro e w4 ⟨A2, c2, x2, i2, b2, rfl, hk4, hx2, hO4, hl2, hl3, hev2, hE4⟩
        have hO5 := hO3.ex hE4 hk3 (by decide)
        have hO6 := hO4.base (B' := w.heap.size) hE3.size
        have hE5 := hE3.trans hE4
        have HEV := Lib.hid hev2
        clear hcall hO2 hO3 hE2 hE3 hE4 hk2 hk3 hO4 hev2 f3 q3
        obtain ⟨q0, q1, q2, q3, q4⟩ := hk4.five
        go_wp2_with fail
        refine (l05Wedge_any P A n c sq A1 c1 x1 A2 c2 x2 w4 hp hp2 hn (hr.ex hE5 hA) hs hO5.rd HMU.out.2 hO6.rd hx2.2).mono ?_
        rintro e w5 ⟨A3, c3, rfl, hM⟩
        have hk5 := hk4.below hM.b hk4.lt
        have hE7 := hE5.then hM.b (Nat.le_of_lt HG)
        have hO7 := hM.2.base (B' := w.heap.size) hE5.size
        clear hE5 hO5 hO6 hk4 hM q0 q1 q2 q3 q4
        go_wp2
        go_roundw
        case rel =>
          refine ⟨A3, c3, wedgeL P sq x1 x2, i2, b2, rfl, hk5, ⟨(wedgeL_len _ _ _ _).trans HMU.out.1, wedgeL_nums (by omega) _ _ _⟩, hO7, by omega, hl3, ?_, hE7⟩
          rw [HS2.out, HEV.out]
          cases b2 <;> rfl
        case measure =>
          rw [hk5.cell 3]
          show T.length - (i2 : Int).toNat < _
          omega
      by_cases h46 : d = 46
      · subst h46
        have hnx := nxt_pk_some (cs := [42, 94, 46]) (by decide) hd.symm (by decide)
        have hlt : i1 < T.length := pk_ne_end (by rw [← hd]; decide)
        have HS2 : Hid (V = (evE P sq n .fac (T.drop (i1 + 1))).bind fun r => evE P sq n (.prodL (contrL P sq x1 r.1)) r.2) := Lib.hid (by
          rw [HS.out]
          exact evE_prodL_some x1 hnx)
        clear HS hnx hd h42 h94
        have HMU := Lib.hid hx1
        clear hx1
        go_wp2_with fail
        refine hpk.mono ?_
        rintro e w2 ⟨rfl, hbp⟩
        have hk2 := hk1.below hbp hk1.lt
        have hO2 := hO1.below hbp
        have hE2 := hE1.then hbp (Nat.le_of_lt HG)
        clear hpk hbp hk1 hO1 hE1 q4
        have f3 := hk2.frozen 3
        have q3 := hk2.cell 3
        have W1 : wrap64 ((i1 : Int) + 1) = (i1 : Int) + 1 := by unfold wrap64; omega
        have hk3 : RsB (w2.setCell ⟨R, 3, none⟩ (.int .i64 ((i1 : Int) + 1))) R P A n c T (i1 + 1) false := hk2.set_ 3 _
        have hE3 := hE2.trans (Ex.set hk2.lt 3 (.int .i64 ((i1 : Int) + 1)))
        have hcall := hf (i1 + 1) (by omega) (by omega) R _ hA (hr.ex hE3 hA) hk3
        have hO3 := hO2.ex (Ex.set hk2.lt 3 (.int .i64 ((i1 : Int) + 1))) hk2 (by decide)
        go_wp2_with fail
        refine hcall.mono ?_
        rintro e w4 ⟨A2, c2, x2, i2, b2, rfl, hk4, hx2, hO4, hl2, hl3, hev2, hE4⟩
        have hO5 := hO3.ex hE4 hk3 (by decide)
        have hO6 := hO4.base (B' := w.heap.size) hE3.size
        have hE5 := hE3.trans hE4
        have HEV := Lib.hid hev2
        clear hcall hO2 hO3 hE2 hE3 hE4 hk2 hk3 hO4 hev2 f3 q3
        obtain ⟨q0, q1, q2, q3, q4⟩ := hk4.five
        go_wp2_with fail
        refine (l05Left_any P A n c sq A1 c1 x1 A2 c2 x2 w4 hp hp2 hn (hr.ex hE5 hA) hs hO5.rd HMU.out.2 hO6.rd hx2.2).mono ?_
        rintro e w5 ⟨A3, c3, rfl, hM⟩
        have hk5 := hk4.below hM.b hk4.lt
        have hE7 := hE5.then hM.b (Nat.le_of_lt HG)
        have hO7 := hM.2.base (B' := w.heap.size) hE5.size
        clear hE5 hO5 hO6 hk4 hM q0 q1 q2 q3 q4
        go_wp2
        go_roundw
        case rel =>
          refine ⟨A3, c3, contrL P sq x1 x2, i2, b2, rfl, hk5, ⟨(contrL_len _ _ _ _).trans HMU.out.1, contrL_nums (by omega) _ _ _⟩, hO7, by omega, hl3, ?_, hE7⟩
          rw [HS2.out, HEV.out]
          cases b2 <;> rfl
        case measure =>
          rw [hk5.cell 3]
          show T.length - (i2 : Int).toNat < _
          omega
      have hnx := nxt_pk_none (cs := [42, 94, 46]) (T := T) (i := i1) (by decide) (by rw [← hd]; simp [h42, h94, h46])
      have e42 := u8_ne h42
      have e94 := u8_ne h94
      have e46 := u8_ne h46
      obtain ⟨z, hz⟩ : ∃ z : Nat, z = d.toNat := ⟨_, rfl⟩
      rw [← hz] at hpk e42 e94 e46
      have c42 : ((z : Int) == 42) = false := by have : (42 : UInt8).toNat = 42 := rfl; simp; omega
      have c94 : ((z : Int) == 94) = false := by have : (94 : UInt8).toNat = 94 := rfl; simp; omega
      have c46 : ((z : Int) == 46) = false := by have : (46 : UInt8).toNat = 46 := rfl; simp; omega
      have n42 : ((z : Int) != 42) = true := by simp only [bne, c42]; rfl
      have n94 : ((z : Int) != 94) = true := by simp only [bne, c94]; rfl
      have n46 : ((z : Int) != 46) = true := by simp only [bne, c46]; rfl
      have HNX := Lib.hid hnx
      clear hz hd h42 h94 h46 e42 e94 e46 hnx
      go_wp2_with fail
      refine hpk.mono ?_
      rintro e w2 ⟨rfl, hbp⟩
      go_wp2
      go_ret
      exact ⟨A1, c1, x1, i1, false, rfl, hk1.below hbp hk1.lt, hx1, hO1.below hbp, hl1, hl1b, by rw [← HV.out, HS.out]; exact evE_prodL_none x1 HNX.out, hE1.then hbp (Nat.le_of_lt HG)⟩
set_option maxHeartbeats 12800000 in
set_option maxRecDepth 8000 in
theorem sfac_any (P : Int) (sq : List Int) (A : Option Addr) (n c : Nat) (T : By) (i : Nat) (hp : 2 ≤ P) (hp2 : P ≤ 13) (hn : n ≤ 6) (hT : T.length ≤ 1048576) (hi : i ≤ T.length)
    (hf : ∀ i' : Nat, i < i' → i' ≤ T.length → RsC 144 P sq A n c .fac T i') (hat : RsC 167 P sq A n c .atom T i) : RsC 144 P sq A n c .fac T i := by
  intro R w hA hr hk
  have hpn : pw n ≤ 64 := pw_le hn
  have HG := hk.lt
  have hpk := peek_any P A n c T i false R w hT hk
  obtain ⟨d, hd⟩ : ∃ d, d = pk (T.drop i) := ⟨_, rfl⟩
  rw [← hd] at hpk
  by_cases h45 : d = 45
  · subst h45
    have hnx := nxt_pk_some (cs := [45, 126]) (by decide) hd.symm (by decide)
    have hlt : i < T.length := pk_ne_end (by rw [← hd]; decide)
    have HN := Lib.hid (evE_fac_some (P := P) (sq := sq) (n := n) hnx)
    clear hat hnx hd
    have WP : IntKind.i64.wrap (P - 1) = P - 1 := by rw [IntWalk.i64_left]; unfold wrap64; omega
    go_enter Tryz.func144, Tryz.ntmps144
    go_wp2_with fail
    refine hpk.mono ?_
    rintro e w2 ⟨rfl, hbp⟩
    have hk2 := hk.below hbp hk.lt
    have hE2 := (Ex.refl R w).then hbp (Nat.le_of_lt HG)
    clear hpk hbp hk
    have f3 := hk2.frozen 3
    have q3 := hk2.cell 3
    have W1 : wrap64 ((i : Int) + 1) = (i : Int) + 1 := by unfold wrap64; omega
    have hk3 : RsB (w2.setCell ⟨R, 3, none⟩ (.int .i64 ((i : Int) + 1))) R P A n c T (i + 1) false := hk2.set_ 3 _
    have hE3 := hE2.trans (Ex.set hk2.lt 3 (.int .i64 ((i : Int) + 1)))
    go_wp2_with fail
    generalize w2.setCell ⟨R, 3, none⟩ (.int .i64 ((i : Int) + 1)) = w3 at hk3 hE3 ⊢
    clear f3 q3 hk2 hE2
    refine wp_obsK 15 (fun w w' => Ex R w w' ∧ ∃ i b, RsB w' R P A n c T i b) [[], [0], [0, 1], [0, 1, 2], [0, 1, 2, 3], [], [5], [], [7], [7, 8], [7, 8, 9], [7, 8, 9, 10], [7, 8, 9, 10, 11], [0, 1, 2, 3, 4, 5, 6, 7, 8, 9, 10, 11, 12], [0, 1, 2, 3, 4, 5, 6, 7, 8, 9, 10, 11, 12, 13]] [[], [], [], [], [], [], [99], [], [], [], [], [], [], [], []] (fun x => [VIs (.pointer (some ⟨R, 0, none⟩)), VIs (.pointer (some ⟨R, 0, none⟩)), VIs (.pointer (some ⟨R, 0, none⟩)), VIs (.pointer (some ⟨R, 0, none⟩)), VIs (.int .i64 (P)), VIs (.pointer (some ⟨R, 0, none⟩)), VSk R P sq A n c .fac T (i + 1) w.heap.size (fun x => x), VIs (.pointer (some ⟨R, 0, none⟩)), VIs (.pointer (some ⟨R, 0, none⟩)), VIs (.pointer (some ⟨R, 0, none⟩)), VIs (.pointer (some ⟨R, 0, none⟩)), VIs (.int .i64 (P)), VIs (.int .i64 (P - 1)), VSk R P sq A n c .fac T (i + 1) w.heap.size (fun x => scaleL P x (P - 1)), VSk R P sq A n c .fac T (i + 1) w.heap.size (fun x => scaleL P x (P - 1))]) 6 (fun b w' => SRs R P A n c T (i + 1) b w' ∧ Ex R w w') (by kernel_rfl) (by kernel_rfl) (fun x x' j hx => by
        rcases j with _ | _ | _ | _ | _ | _ | _ | _ | _ | _ | _ | _ | _ | _ | _ | j
        · rfl
        · rfl
        · rfl
        · rfl
        · rfl
        · rfl
        · rfl
        · rfl
        · rfl
        · rfl
        · rfl
        · rfl
        · rfl
        · rfl
        · rfl
        · rfl)
      (weak_ofR [0, 1, 2, 3, 4, 5, 7, 8, 9, 10, 11, 12] (by decide) (fun k hk x v w w' hp hr => by
        simp only [List.mem_cons, List.not_mem_nil, or_false] at hk
        rcases hk with rfl | rfl | rfl | rfl | rfl | rfl | rfl | rfl | rfl | rfl | rfl | rfl
        · exact hp
        · exact hp
        · exact hp
        · exact hp
        · exact hp
        · exact hp
        · exact hp
        · exact hp
        · exact hp
        · exact hp
        · exact hp
        · exact hp)) (fun j b _ w' h hst => hst.eitherK 6 (only_at (by decide)) (fun hb => ⟨h.1.below _ hb, h.2.then hb (Nat.le_of_lt HG)⟩) (fun e hr => ⟨SRs.rel b e hr.2, h.2.trans hr.1⟩)) (⟨⟨i + 1, false, hk3.below (Below.refl _ _).drew hk3.lt, fun _ => ⟨rfl, rfl⟩⟩, hE3.then (Below.refl _ _).drew (Nat.le_of_lt HG)⟩) (fun x => ?_)
    refine obs_stepK (Eq.trans (by simp only [List.getElem?_toArray, List.getElem?_cons_zero]; exact rfl) rfl) rfl (fun b w' hb0 hS hV K hK => ?_) ?_
    · obtain ⟨⟨ts, bs, hkk, hbb⟩, hEE⟩ := hS; obtain ⟨q0, q1, q2, q3, q4⟩ := hkk.five
      go_simp
      exact hK.out _ _ _ rfl rfl rfl (Below.refl _ _)
    simp only [List.setIfInBounds_toArray, List.set_cons_zero, List.set_cons_succ]
    refine obs_stepK (Eq.trans (by simp only [List.getElem?_toArray, List.getElem?_cons_succ, List.getElem?_cons_zero]; exact rfl) rfl) rfl (fun b w' hb0 hS hV K hK => ?_) ?_
    · have e0 : x 0 = (.pointer (some ⟨R, 0, none⟩)) := hV 0 (by decide)
      obtain ⟨⟨ts, bs, hkk, hbb⟩, hEE⟩ := hS; obtain ⟨q0, q1, q2, q3, q4⟩ := hkk.five
      go_simp
      exact hK.out _ _ _ rfl rfl rfl (Below.refl _ _)
    simp only [List.setIfInBounds_toArray, List.set_cons_zero, List.set_cons_succ]
    refine obs_stepK (Eq.trans (by simp only [List.getElem?_toArray, List.getElem?_cons_succ, List.getElem?_cons_zero]; exact rfl) rfl) rfl (fun b w' hb0 hS hV K hK => ?_) ?_
    · have e0 : x 0 = (.pointer (some ⟨R, 0, none⟩)) := hV 0 (by decide)
      have e1 : x 1 = (.pointer (some ⟨R, 0, none⟩)) := hV 1 (by decide)
      obtain ⟨⟨ts, bs, hkk, hbb⟩, hEE⟩ := hS; obtain ⟨q0, q1, q2, q3, q4⟩ := hkk.five
      go_simp
      exact hK.out _ _ _ rfl rfl rfl (Below.refl _ _)
    simp only [List.setIfInBounds_toArray, List.set_cons_zero, List.set_cons_succ]
    refine obs_stepK (Eq.trans (by simp only [List.getElem?_toArray, List.getElem?_cons_succ, List.getElem?_cons_zero]; exact rfl) rfl) rfl (fun b w' hb0 hS hV K hK => ?_) ?_
    · have e0 : x 0 = (.pointer (some ⟨R, 0, none⟩)) := hV 0 (by decide)
      have e1 : x 1 = (.pointer (some ⟨R, 0, none⟩)) := hV 1 (by decide)
      have e2 : x 2 = (.pointer (some ⟨R, 0, none⟩)) := hV 2 (by decide)
      obtain ⟨⟨ts, bs, hkk, hbb⟩, hEE⟩ := hS; obtain ⟨q0, q1, q2, q3, q4⟩ := hkk.five
      go_simp
      exact hK.out _ _ _ rfl rfl rfl (Below.refl _ _)
    simp only [List.setIfInBounds_toArray, List.set_cons_zero, List.set_cons_succ]
    refine obs_stepK (Eq.trans (by simp only [List.getElem?_toArray, List.getElem?_cons_succ, List.getElem?_cons_zero]; exact rfl) rfl) rfl (fun b w' hb0 hS hV K hK => ?_) ?_
    · have e0 : x 0 = (.pointer (some ⟨R, 0, none⟩)) := hV 0 (by decide)
      have e1 : x 1 = (.pointer (some ⟨R, 0, none⟩)) := hV 1 (by decide)
      have e2 : x 2 = (.pointer (some ⟨R, 0, none⟩)) := hV 2 (by decide)
      have e3 : x 3 = (.pointer (some ⟨R, 0, none⟩)) := hV 3 (by decide)
      obtain ⟨⟨ts, bs, hkk, hbb⟩, hEE⟩ := hS; obtain ⟨q0, q1, q2, q3, q4⟩ := hkk.five
      go_simp
      exact hK.out _ _ _ rfl rfl rfl (Below.refl _ _)
    simp only [List.setIfInBounds_toArray, List.set_cons_zero, List.set_cons_succ]
    refine obs_stepK (Eq.trans (by simp only [List.getElem?_toArray, List.getElem?_cons_succ, List.getElem?_cons_zero]; exact rfl) rfl) rfl (fun b w' hb0 hS hV K hK => ?_) ?_
    · obtain ⟨⟨ts, bs, hkk, hbb⟩, hEE⟩ := hS; obtain ⟨q0, q1, q2, q3, q4⟩ := hkk.five
      go_simp
      exact hK.out _ _ _ rfl rfl rfl (Below.refl _ _)
    simp only [List.setIfInBounds_toArray, List.set_cons_zero, List.set_cons_succ]
    refine obs_stepK (Eq.trans (by simp only [List.getElem?_toArray, List.getElem?_cons_succ, List.getElem?_cons_zero]; exact rfl) rfl) rfl (fun b w' hb0 hS hV K hK => ?_) ?_
    · have e5 : x 5 = (.pointer (some ⟨R, 0, none⟩)) := hV 5 (by decide)
      obtain ⟨⟨ts, bs, hkk, hbb⟩, hEE⟩ := hS; obtain ⟨q0, q1, q2, q3, q4⟩ := hkk.five
      obtain ⟨e8, e9⟩ := hbb (hb0 rfl)
      rw [e8, e9] at hkk
      go_simp
      refine (hf (i + 1) (by omega) (by omega) R w' hA (hr.ex hEE hA) hkk).mono ?_
      rintro e v1 ⟨A8, c8, x8, t8, b8, rfl, hk8, hx8, hO8, hl8, hl9, hev8, hE8⟩
      exact hK.out _ _ _ rfl rfl ⟨A8, c8, x8, t8, b8, rfl, hk8, hx8, hO8.base hEE.size, hl8, hl9, hev8⟩ (StepR.rel rfl ⟨hE8, t8, b8, hk8⟩)
    simp only [List.setIfInBounds_toArray, List.set_cons_zero, List.set_cons_succ]
    refine obs_stepK (Eq.trans (by simp only [List.getElem?_toArray, List.getElem?_cons_succ, List.getElem?_cons_zero]; exact rfl) rfl) rfl (fun b w' hb0 hS hV K hK => ?_) ?_
    · obtain ⟨⟨ts, bs, hkk, hbb⟩, hEE⟩ := hS; obtain ⟨q0, q1, q2, q3, q4⟩ := hkk.five
      go_simp
      exact hK.out _ _ _ rfl rfl rfl (Below.refl _ _)
    simp only [List.setIfInBounds_toArray, List.set_cons_zero, List.set_cons_succ]
    refine obs_stepK (Eq.trans (by simp only [List.getElem?_toArray, List.getElem?_cons_succ, List.getElem?_cons_zero]; exact rfl) rfl) rfl (fun b w' hb0 hS hV K hK => ?_) ?_
    · have e7 : x 7 = (.pointer (some ⟨R, 0, none⟩)) := hV 7 (by decide)
      obtain ⟨⟨ts, bs, hkk, hbb⟩, hEE⟩ := hS; obtain ⟨q0, q1, q2, q3, q4⟩ := hkk.five
      go_simp
      exact hK.out _ _ _ rfl rfl rfl (Below.refl _ _)
    simp only [List.setIfInBounds_toArray, List.set_cons_zero, List.set_cons_succ]
    refine obs_stepK (Eq.trans (by simp only [List.getElem?_toArray, List.getElem?_cons_succ, List.getElem?_cons_zero]; exact rfl) rfl) rfl (fun b w' hb0 hS hV K hK => ?_) ?_
    · have e7 : x 7 = (.pointer (some ⟨R, 0, none⟩)) := hV 7 (by decide)
      have e8 : x 8 = (.pointer (some ⟨R, 0, none⟩)) := hV 8 (by decide)
      obtain ⟨⟨ts, bs, hkk, hbb⟩, hEE⟩ := hS; obtain ⟨q0, q1, q2, q3, q4⟩ := hkk.five
      go_simp
      exact hK.out _ _ _ rfl rfl rfl (Below.refl _ _)
    simp only [List.setIfInBounds_toArray, List.set_cons_zero, List.set_cons_succ]
    refine obs_stepK (Eq.trans (by simp only [List.getElem?_toArray, List.getElem?_cons_succ, List.getElem?_cons_zero]; exact rfl) rfl) rfl (fun b w' hb0 hS hV K hK => ?_) ?_
    · have e7 : x 7 = (.pointer (some ⟨R, 0, none⟩)) := hV 7 (by decide)
      have e8 : x 8 = (.pointer (some ⟨R, 0, none⟩)) := hV 8 (by decide)
      have e9 : x 9 = (.pointer (some ⟨R, 0, none⟩)) := hV 9 (by decide)
      obtain ⟨⟨ts, bs, hkk, hbb⟩, hEE⟩ := hS; obtain ⟨q0, q1, q2, q3, q4⟩ := hkk.five
      go_simp
      exact hK.out _ _ _ rfl rfl rfl (Below.refl _ _)
    simp only [List.setIfInBounds_toArray, List.set_cons_zero, List.set_cons_succ]
    refine obs_stepK (Eq.trans (by simp only [List.getElem?_toArray, List.getElem?_cons_succ, List.getElem?_cons_zero]; exact rfl) rfl) rfl (fun b w' hb0 hS hV K hK => ?_) ?_
    · have e7 : x 7 = (.pointer (some ⟨R, 0, none⟩)) := hV 7 (by decide)
      have e8 : x 8 = (.pointer (some ⟨R, 0, none⟩)) := hV 8 (by decide)
      have e9 : x 9 = (.pointer (some ⟨R, 0, none⟩)) := hV 9 (by decide)
      have e10 : x 10 = (.pointer (some ⟨R, 0, none⟩)) := hV 10 (by decide)
      obtain ⟨⟨ts, bs, hkk, hbb⟩, hEE⟩ := hS; obtain ⟨q0, q1, q2, q3, q4⟩ := hkk.five
      go_simp
      exact hK.out _ _ _ rfl rfl rfl (Below.refl _ _)
    simp only [List.setIfInBounds_toArray, List.set_cons_zero, List.set_cons_succ]
    refine obs_stepK (Eq.trans (by simp only [List.getElem?_toArray, List.getElem?_cons_succ, List.getElem?_cons_zero]; exact rfl) rfl) rfl (fun b w' hb0 hS hV K hK => ?_) ?_
    · have e7 : x 7 = (.pointer (some ⟨R, 0, none⟩)) := hV 7 (by decide)
      have e8 : x 8 = (.pointer (some ⟨R, 0, none⟩)) := hV 8 (by decide)
      have e9 : x 9 = (.pointer (some ⟨R, 0, none⟩)) := hV 9 (by decide)
      have e10 : x 10 = (.pointer (some ⟨R, 0, none⟩)) := hV 10 (by decide)
      have e11 : x 11 = (.int .i64 (P)) := hV 11 (by decide)
      obtain ⟨⟨ts, bs, hkk, hbb⟩, hEE⟩ := hS; obtain ⟨q0, q1, q2, q3, q4⟩ := hkk.five
      go_simp
      exact hK.out _ _ _ rfl rfl rfl (Below.refl _ _)
    simp only [List.setIfInBounds_toArray, List.set_cons_zero, List.set_cons_succ]
    refine obs_stepK (Eq.trans (by simp only [List.getElem?_toArray, List.getElem?_cons_succ, List.getElem?_cons_zero]; exact rfl) rfl) rfl (fun b w' hb0 hS hV K hK => ?_) ?_
    · have e0 : x 0 = (.pointer (some ⟨R, 0, none⟩)) := hV 0 (by decide)
      have e1 : x 1 = (.pointer (some ⟨R, 0, none⟩)) := hV 1 (by decide)
      have e2 : x 2 = (.pointer (some ⟨R, 0, none⟩)) := hV 2 (by decide)
      have e3 : x 3 = (.pointer (some ⟨R, 0, none⟩)) := hV 3 (by decide)
      have e4 : x 4 = (.int .i64 (P)) := hV 4 (by decide)
      have e5 : x 5 = (.pointer (some ⟨R, 0, none⟩)) := hV 5 (by decide)
      obtain ⟨A6, c6, X6, T6, B6, e6, k6, m6, o6, l6, y6, v6⟩ := hV 6 (by decide)
      have e7 : x 7 = (.pointer (some ⟨R, 0, none⟩)) := hV 7 (by decide)
      have e8 : x 8 = (.pointer (some ⟨R, 0, none⟩)) := hV 8 (by decide)
      have e9 : x 9 = (.pointer (some ⟨R, 0, none⟩)) := hV 9 (by decide)
      have e10 : x 10 = (.pointer (some ⟨R, 0, none⟩)) := hV 10 (by decide)
      have e11 : x 11 = (.int .i64 (P)) := hV 11 (by decide)
      have e12 : x 12 = (.int .i64 (P - 1)) := hV 12 (by decide)
      obtain ⟨⟨ts, bs, hkk, hbb⟩, hEE⟩ := hS; obtain ⟨q0, q1, q2, q3, q4⟩ := hkk.five
      go_simp
      refine (l02Scale_any P A6 (pw n) c6 (P - 1) X6 w' hp hp2 (by omega) o6.rd m6.2 (by omega) (by omega)).mono ?_
      rintro e v1 ⟨A9, c9, rfl, hM⟩
      exact hK.out _ _ _ rfl rfl ⟨A9, c9, X6, T6, B6, rfl, k6.below hM.b k6.lt, m6, hM.2.base hEE.size, l6, y6, v6⟩ hM.b
    simp only [List.setIfInBounds_toArray, List.set_cons_zero, List.set_cons_succ]
    refine obs_stepK (Eq.trans (by simp only [List.getElem?_toArray, List.getElem?_cons_succ, List.getElem?_cons_zero]; exact rfl) rfl) rfl (fun b w' hb0 hS hV K hK => ?_) ?_
    · have e0 : x 0 = (.pointer (some ⟨R, 0, none⟩)) := hV 0 (by decide)
      have e1 : x 1 = (.pointer (some ⟨R, 0, none⟩)) := hV 1 (by decide)
      have e2 : x 2 = (.pointer (some ⟨R, 0, none⟩)) := hV 2 (by decide)
      have e3 : x 3 = (.pointer (some ⟨R, 0, none⟩)) := hV 3 (by decide)
      have e4 : x 4 = (.int .i64 (P)) := hV 4 (by decide)
      have e5 : x 5 = (.pointer (some ⟨R, 0, none⟩)) := hV 5 (by decide)
      obtain ⟨A6, c6, X6, T6, B6, e6, k6, m6, o6, l6, y6, v6⟩ := hV 6 (by decide)
      have e7 : x 7 = (.pointer (some ⟨R, 0, none⟩)) := hV 7 (by decide)
      have e8 : x 8 = (.pointer (some ⟨R, 0, none⟩)) := hV 8 (by decide)
      have e9 : x 9 = (.pointer (some ⟨R, 0, none⟩)) := hV 9 (by decide)
      have e10 : x 10 = (.pointer (some ⟨R, 0, none⟩)) := hV 10 (by decide)
      have e11 : x 11 = (.int .i64 (P)) := hV 11 (by decide)
      have e12 : x 12 = (.int .i64 (P - 1)) := hV 12 (by decide)
      obtain ⟨A13, c13, X13, T13, B13, e13, k13, m13, o13, l13, y13, v13⟩ := hV 13 (by decide)
      obtain ⟨⟨ts, bs, hkk, hbb⟩, hEE⟩ := hS; obtain ⟨q0, q1, q2, q3, q4⟩ := hkk.five
      go_simp
      exact hK.out _ _ _ rfl rfl ⟨A13, c13, X13, T13, B13, rfl, k13, m13, o13, l13, y13, v13⟩ (Below.refl _ _)
    simp only [List.setIfInBounds_toArray, List.set_cons_zero, List.set_cons_succ]
    refine fun w' bb hS hV => ?_
    have e0 : x 0 = (.pointer (some ⟨R, 0, none⟩)) := hV 0 (by decide)
    have e1 : x 1 = (.pointer (some ⟨R, 0, none⟩)) := hV 1 (by decide)
    have e2 : x 2 = (.pointer (some ⟨R, 0, none⟩)) := hV 2 (by decide)
    have e3 : x 3 = (.pointer (some ⟨R, 0, none⟩)) := hV 3 (by decide)
    have e4 : x 4 = (.int .i64 (P)) := hV 4 (by decide)
    have e5 : x 5 = (.pointer (some ⟨R, 0, none⟩)) := hV 5 (by decide)
    obtain ⟨A6, c6, X6, T6, B6, e6, k6, m6, o6, l6, y6, v6⟩ := hV 6 (by decide)
    have e7 : x 7 = (.pointer (some ⟨R, 0, none⟩)) := hV 7 (by decide)
    have e8 : x 8 = (.pointer (some ⟨R, 0, none⟩)) := hV 8 (by decide)
    have e9 : x 9 = (.pointer (some ⟨R, 0, none⟩)) := hV 9 (by decide)
    have e10 : x 10 = (.pointer (some ⟨R, 0, none⟩)) := hV 10 (by decide)
    have e11 : x 11 = (.int .i64 (P)) := hV 11 (by decide)
    have e12 : x 12 = (.int .i64 (P - 1)) := hV 12 (by decide)
    obtain ⟨A13, c13, X13, T13, B13, e13, k13, m13, o13, l13, y13, v13⟩ := hV 13 (by decide)
    obtain ⟨A14, c14, X14, T14, B14, e14, k14, m14, o14, l14, y14, v14⟩ := hV 14 (by decide)
    simp only [e0, e1, e2, e3, e4, e5, e6, e7, e8, e9, e10, e11, e12, e13, e14]
    clear e0 e1 e2 e3 e4 e5 e6 e7 e8 e9 e10 e11 e12 e13 e14
    refine wpAny_done (by kernel_rfl) ?_ _
    have hEE := hS.2
    have HEV := Lib.hid v14
    clear v14 hS hV
    go_wp2
    go_ret
    refine ⟨A14, c14, scaleL P X14 (-1), T14, B14, rfl, k14, ⟨(scaleL_len _ _ _).trans m14.1, scaleL_nums (by omega) _ _⟩, by rw [← scaleL_less]; exact o14, by omega, y14, ?_, hEE⟩
    rw [HN.out, HEV.out]
    cases B14 <;> rfl
  by_cases h126 : d = 126
  · subst h126
    have hnx := nxt_pk_some (cs := [45, 126]) (by decide) hd.symm (by decide)
    have hlt : i < T.length := pk_ne_end (by rw [← hd]; decide)
    have HN := Lib.hid (evE_fac_some (P := P) (sq := sq) (n := n) hnx)
    clear hat hnx hd h45
    have WP : IntKind.i64.wrap (P - 1) = P - 1 := by rw [IntWalk.i64_left]; unfold wrap64; omega
    go_enter Tryz.func144, Tryz.ntmps144
    go_wp2_with fail
    refine hpk.mono ?_
    rintro e w2 ⟨rfl, hbp⟩
    have hk2 := hk.below hbp hk.lt
    have hE2 := (Ex.refl R w).then hbp (Nat.le_of_lt HG)
    clear hpk hbp hk
    have f3 := hk2.frozen 3
    have q3 := hk2.cell 3
    have W1 : wrap64 ((i : Int) + 1) = (i : Int) + 1 := by unfold wrap64; omega
    have hk3 : RsB (w2.setCell ⟨R, 3, none⟩ (.int .i64 ((i : Int) + 1))) R P A n c T (i + 1) false := hk2.set_ 3 _
    have hE3 := hE2.trans (Ex.set hk2.lt 3 (.int .i64 ((i : Int) + 1)))
    go_wp2_with fail
    generalize w2.setCell ⟨R, 3, none⟩ (.int .i64 ((i : Int) + 1)) = w3 at hk3 hE3 ⊢
    clear f3 q3 hk2 hE2
    refine wp_obsK 8 (fun w w' => Ex R w w' ∧ ∃ i b, RsB w' R P A n c T i b) [[], [0], [0, 1], [0, 1, 2], [], [4], [0, 1, 2, 3, 4, 5], [0, 1, 2, 3, 4, 5, 6]] [[], [], [], [], [], [99], [], []] (fun x => [VIs (.pointer (some ⟨R, 0, none⟩)), VIs (.pointer (some ⟨R, 0, none⟩)), VIs (.pointer (some ⟨R, 0, none⟩)), VIs (.agg #[.int .i64 P, .slice A n c]), VIs (.pointer (some ⟨R, 0, none⟩)), VSk R P sq A n c .fac T (i + 1) w.heap.size (fun x => x), VSk R P sq A n c .fac T (i + 1) w.heap.size (fun x => revL P x), VSk R P sq A n c .fac T (i + 1) w.heap.size (fun x => revL P x)]) 5 (fun b w' => SRs R P A n c T (i + 1) b w' ∧ Ex R w w') (by kernel_rfl) (by kernel_rfl) (fun x x' j hx => by
        rcases j with _ | _ | _ | _ | _ | _ | _ | _ | j
        · rfl
        · rfl
        · rfl
        · rfl
        · rfl
        · rfl
        · rfl
        · rfl
        · rfl)
      (weak_ofR [0, 1, 2, 3, 4] (by decide) (fun k hk x v w w' hp hr => by
        simp only [List.mem_cons, List.not_mem_nil, or_false] at hk
        rcases hk with rfl | rfl | rfl | rfl | rfl
        · exact hp
        · exact hp
        · exact hp
        · exact hp
        · exact hp)) (fun j b _ w' h hst => hst.eitherK 5 (only_at (by decide)) (fun hb => ⟨h.1.below _ hb, h.2.then hb (Nat.le_of_lt HG)⟩) (fun e hr => ⟨SRs.rel b e hr.2, h.2.trans hr.1⟩)) (⟨⟨i + 1, false, hk3.below (Below.refl _ _).drew hk3.lt, fun _ => ⟨rfl, rfl⟩⟩, hE3.then (Below.refl _ _).drew (Nat.le_of_lt HG)⟩) (fun x => ?_)
    refine obs_stepK (Eq.trans (by simp only [List.getElem?_toArray, List.getElem?_cons_zero]; exact rfl) rfl) rfl (fun b w' hb0 hS hV K hK => ?_) ?_
    · obtain ⟨⟨ts, bs, hkk, hbb⟩, hEE⟩ := hS; obtain ⟨q0, q1, q2, q3, q4⟩ := hkk.five
      go_simp
      exact hK.out _ _ _ rfl rfl rfl (Below.refl _ _)
    simp only [List.setIfInBounds_toArray, List.set_cons_zero, List.set_cons_succ]
    refine obs_stepK (Eq.trans (by simp only [List.getElem?_toArray, List.getElem?_cons_succ, List.getElem?_cons_zero]; exact rfl) rfl) rfl (fun b w' hb0 hS hV K hK => ?_) ?_
    · have e0 : x 0 = (.pointer (some ⟨R, 0, none⟩)) := hV 0 (by decide)
      obtain ⟨⟨ts, bs, hkk, hbb⟩, hEE⟩ := hS; obtain ⟨q0, q1, q2, q3, q4⟩ := hkk.five
      go_simp
      exact hK.out _ _ _ rfl rfl rfl (Below.refl _ _)
    simp only [List.setIfInBounds_toArray, List.set_cons_zero, List.set_cons_succ]
    refine obs_stepK (Eq.trans (by simp only [List.getElem?_toArray, List.getElem?_cons_succ, List.getElem?_cons_zero]; exact rfl) rfl) rfl (fun b w' hb0 hS hV K hK => ?_) ?_
    · have e0 : x 0 = (.pointer (some ⟨R, 0, none⟩)) := hV 0 (by decide)
      have e1 : x 1 = (.pointer (some ⟨R, 0, none⟩)) := hV 1 (by decide)
      obtain ⟨⟨ts, bs, hkk, hbb⟩, hEE⟩ := hS; obtain ⟨q0, q1, q2, q3, q4⟩ := hkk.five
      go_simp
      exact hK.out _ _ _ rfl rfl rfl (Below.refl _ _)
    simp only [List.setIfInBounds_toArray, List.set_cons_zero, List.set_cons_succ]
    refine obs_stepK (Eq.trans (by simp only [List.getElem?_toArray, List.getElem?_cons_succ, List.getElem?_cons_zero]; exact rfl) rfl) rfl (fun b w' hb0 hS hV K hK => ?_) ?_
    · have e0 : x 0 = (.pointer (some ⟨R, 0, none⟩)) := hV 0 (by decide)
      have e1 : x 1 = (.pointer (some ⟨R, 0, none⟩)) := hV 1 (by decide)
      have e2 : x 2 = (.pointer (some ⟨R, 0, none⟩)) := hV 2 (by decide)
      obtain ⟨⟨ts, bs, hkk, hbb⟩, hEE⟩ := hS; obtain ⟨q0, q1, q2, q3, q4⟩ := hkk.five
      go_simp
      exact hK.out _ _ _ rfl rfl rfl (Below.refl _ _)
    simp only [List.setIfInBounds_toArray, List.set_cons_zero, List.set_cons_succ]
    refine obs_stepK (Eq.trans (by simp only [List.getElem?_toArray, List.getElem?_cons_succ, List.getElem?_cons_zero]; exact rfl) rfl) rfl (fun b w' hb0 hS hV K hK => ?_) ?_
    · obtain ⟨⟨ts, bs, hkk, hbb⟩, hEE⟩ := hS; obtain ⟨q0, q1, q2, q3, q4⟩ := hkk.five
      go_simp
      exact hK.out _ _ _ rfl rfl rfl (Below.refl _ _)
    simp only [List.setIfInBounds_toArray, List.set_cons_zero, List.set_cons_succ]
    refine obs_stepK (Eq.trans (by simp only [List.getElem?_toArray, List.getElem?_cons_succ, List.getElem?_cons_zero]; exact rfl) rfl) rfl (fun b w' hb0 hS hV K hK => ?_) ?_
    · have e4 : x 4 = (.pointer (some ⟨R, 0, none⟩)) := hV 4 (by decide)
      obtain ⟨⟨ts, bs, hkk, hbb⟩, hEE⟩ := hS; obtain ⟨q0, q1, q2, q3, q4⟩ := hkk.five
      obtain ⟨e8, e9⟩ := hbb (hb0 rfl)
      rw [e8, e9] at hkk
      go_simp
      refine (hf (i + 1) (by omega) (by omega) R w' hA (hr.ex hEE hA) hkk).mono ?_
      rintro e v1 ⟨A8, c8, x8, t8, b8, rfl, hk8, hx8, hO8, hl8, hl9, hev8, hE8⟩
      exact hK.out _ _ _ rfl rfl ⟨A8, c8, x8, t8, b8, rfl, hk8, hx8, hO8.base hEE.size, hl8, hl9, hev8⟩ (StepR.rel rfl ⟨hE8, t8, b8, hk8⟩)
    simp only [List.setIfInBounds_toArray, List.set_cons_zero, List.set_cons_succ]
    refine obs_stepK (Eq.trans (by simp only [List.getElem?_toArray, List.getElem?_cons_succ, List.getElem?_cons_zero]; exact rfl) rfl) rfl (fun b w' hb0 hS hV K hK => ?_) ?_
    · have e0 : x 0 = (.pointer (some ⟨R, 0, none⟩)) := hV 0 (by decide)
      have e1 : x 1 = (.pointer (some ⟨R, 0, none⟩)) := hV 1 (by decide)
      have e2 : x 2 = (.pointer (some ⟨R, 0, none⟩)) := hV 2 (by decide)
      have e3 : x 3 = (.agg #[.int .i64 P, .slice A n c]) := hV 3 (by decide)
      have e4 : x 4 = (.pointer (some ⟨R, 0, none⟩)) := hV 4 (by decide)
      obtain ⟨A5, c5, X5, T5, B5, e5, k5, m5, o5, l5, y5, v5⟩ := hV 5 (by decide)
      obtain ⟨⟨ts, bs, hkk, hbb⟩, hEE⟩ := hS; obtain ⟨q0, q1, q2, q3, q4⟩ := hkk.five
      go_simp
      refine (l04Reverse_any P A n c A5 (pw n) c5 X5 w' hp hp2 (by omega) o5.rd m5.2).mono ?_
      rintro e v1 ⟨A9, c9, rfl, hM⟩
      exact hK.out _ _ _ rfl rfl ⟨A9, c9, X5, T5, B5, rfl, k5.below hM.b k5.lt, m5, hM.2.base hEE.size, l5, y5, v5⟩ hM.b
    simp only [List.setIfInBounds_toArray, List.set_cons_zero, List.set_cons_succ]
    refine obs_stepK (Eq.trans (by simp only [List.getElem?_toArray, List.getElem?_cons_succ, List.getElem?_cons_zero]; exact rfl) rfl) rfl (fun b w' hb0 hS hV K hK => ?_) ?_
    · have e0 : x 0 = (.pointer (some ⟨R, 0, none⟩)) := hV 0 (by decide)
      have e1 : x 1 = (.pointer (some ⟨R, 0, none⟩)) := hV 1 (by decide)
      have e2 : x 2 = (.pointer (some ⟨R, 0, none⟩)) := hV 2 (by decide)
      have e3 : x 3 = (.agg #[.int .i64 P, .slice A n c]) := hV 3 (by decide)
      have e4 : x 4 = (.pointer (some ⟨R, 0, none⟩)) := hV 4 (by decide)
      obtain ⟨A5, c5, X5, T5, B5, e5, k5, m5, o5, l5, y5, v5⟩ := hV 5 (by decide)
      obtain ⟨A6, c6, X6, T6, B6, e6, k6, m6, o6, l6, y6, v6⟩ := hV 6 (by decide)
      obtain ⟨⟨ts, bs, hkk, hbb⟩, hEE⟩ := hS; obtain ⟨q0, q1, q2, q3, q4⟩ := hkk.five
      go_simp
      exact hK.out _ _ _ rfl rfl ⟨A6, c6, X6, T6, B6, rfl, k6, m6, o6, l6, y6, v6⟩ (Below.refl _ _)
    simp only [List.setIfInBounds_toArray, List.set_cons_zero, List.set_cons_succ]
    refine fun w' bb hS hV => ?_
    have e0 : x 0 = (.pointer (some ⟨R, 0, none⟩)) := hV 0 (by decide)
    have e1 : x 1 = (.pointer (some ⟨R, 0, none⟩)) := hV 1 (by decide)
    have e2 : x 2 = (.pointer (some ⟨R, 0, none⟩)) := hV 2 (by decide)
    have e3 : x 3 = (.agg #[.int .i64 P, .slice A n c]) := hV 3 (by decide)
    have e4 : x 4 = (.pointer (some ⟨R, 0, none⟩)) := hV 4 (by decide)
    obtain ⟨A5, c5, X5, T5, B5, e5, k5, m5, o5, l5, y5, v5⟩ := hV 5 (by decide)
    obtain ⟨A6, c6, X6, T6, B6, e6, k6, m6, o6, l6, y6, v6⟩ := hV 6 (by decide)
    obtain ⟨A7, c7, X7, T7, B7, e7, k7, m7, o7, l7, y7, v7⟩ := hV 7 (by decide)
    simp only [e0, e1, e2, e3, e4, e5, e6, e7]
    clear e0 e1 e2 e3 e4 e5 e6 e7
    refine wpAny_done (by kernel_rfl) ?_ _
    have hEE := hS.2
    have HEV := Lib.hid v7
    clear v7 hS hV
    go_wp2
    go_ret
    refine ⟨A7, c7, revL P X7, T7, B7, rfl, k7, ⟨(sgnL_len _ _ _).trans m7.1, sgnL_nums (by omega) _ m7.2⟩, o7, by omega, y7, ?_, hEE⟩
    rw [HN.out, HEV.out]
    cases B7 <;> rfl
  · have hnx := nxt_pk_none (cs := [45, 126]) (T := T) (i := i) (by decide) (by rw [← hd]; simp [h45, h126])
    have HN := Lib.hid (evE_fac_none (P := P) (sq := sq) (n := n) hnx)
    have e45 := u8_ne h45
    have e126 := u8_ne h126
    obtain ⟨z, hz⟩ : ∃ z : Nat, z = d.toNat := ⟨_, rfl⟩
    rw [← hz] at hpk e45 e126
    have c45 : ((z : Int) == 45) = false := by have : (45 : UInt8).toNat = 45 := rfl; simp; omega
    have c126 : ((z : Int) == 126) = false := by have : (126 : UInt8).toNat = 126 := rfl; simp; omega
    clear hz hd h45 h126 e45 e126 hnx hf
    go_enter Tryz.func144, Tryz.ntmps144
    go_wp2_with fail
    refine hpk.mono ?_
    rintro e w2 ⟨rfl, hbp⟩
    have hE2 := (Ex.refl R w).then hbp (Nat.le_of_lt HG)
    have hcall2 := hat R w2 hA (hr.ex hE2 hA) (hk.below hbp hk.lt)
    go_wp2_with fail
    refine hcall2.mono ?_
    rintro e w3 ⟨A3, c3, x3, i3, b3, rfl, hk3, hx3, hO3, hl3, hl3b, hev3, hE3⟩
    go_wp2
    go_ret
    exact ⟨A3, c3, x3, i3, b3, rfl, hk3, hx3, hO3.base hE2.size, hl3, hl3b, by rw [HN.out]; exact hev3, hE2.trans hE3⟩
end Go.Proofs.YticofgmmjecleaaGreatDoor

/-
  LawFnVersors: part 6 of the texts that the proof needs. No condition.
-/
import Derived.Test.YtggigolkncckoaaGreatP5
namespace Go.Proofs.YtggigolkncckoaaGreat
open Go.RowKit
theorem bind_own {rows : List Value} {i : Nat} {v : Value} (h : rows[i]? = some v) : (rows[i]?).bind Value.ownBlock = v.ownBlock := by rw [h]; rfl
theorem Nest.set {w w' : World} {B : Nat} {rows : List Value} {xss : List (List Int)} (h : Nest w B rows xss) {j : Nat} (hj : j < xss.length) {A : Option Addr} {c : Nat} (hr : rows[j]? = some (.slice A xss[j].length c)) {ys : List Int} (hl : ys.length = xss[j].length)
    (ho : Own w' B 2 A xss[j].length c (ints ys)) (hg : w.grownBy w' (Value.slice A xss[j].length c).ownBlock) : Nest w' B rows (xss.set j ys) := by
  refine ⟨by rw [List.length_set]; exact h.len, fun k hk => ?_, h.apart⟩
  have hk' : k < xss.length := by rw [List.length_set] at hk; exact hk
  rw [List.getElem_set]
  by_cases e : j = k
  · subst e
    rw [if_pos rfl, hl]
    exact ⟨A, c, hr, ho⟩
  · rw [if_neg e]
    obtain ⟨A', c', e', ho'⟩ := h.row k hk'
    refine ⟨A', c', e', ho'.grown hg ?_⟩
    cases hb : (Value.slice A' xss[k].length c').ownBlock with
    | none => exact .inl rfl
    | some g =>
      right
      intro hh
      rcases Nat.lt_or_ge j k with hlt | hge
      · exact h.apart j k g hlt ((bind_own hr).trans hh.symm) ((bind_own e').trans hb)
      · exact h.apart k j g (by omega) ((bind_own e').trans hb) ((bind_own hr).trans hh.symm)
/-- A slice of rows of numbers of the call's own, from block B on. -/
def OwnII (w : World) (B : Nat) (A : Option Addr) (n c : Nat) (xss : List (List Int)) : Prop := ∃ rows, Own w B 24 A n c rows ∧ Nest w B rows xss
theorem MkII.own {w0 w : World} {A : Option Addr} {n c : Nat} {xss : List (List Int)} (h : MkII w0 w A n c xss) : OwnII w w0.heap.size A n c xss := by
  obtain ⟨rows, h1, h2⟩ := h
  exact ⟨rows, h1.2, h2⟩
section
variable {w w' : World} {B B' : Nat} {A : Option Addr} {n c : Nat} {xss : List (List Int)}
theorem OwnII.len (h : OwnII w B A n c xss) : xss.length = n := by
  obtain ⟨rows, h1, h2⟩ := h
  rw [← h2.len]
  exact h1.len
theorem OwnII.rd (h : OwnII w B A n c xss) : RdII w A n xss := by
  obtain ⟨rows, hm, hn⟩ := h
  exact ⟨rows, hm.rd, hn.len, fun k hk => by obtain ⟨A', c', e, ho⟩ := hn.row k hk; exact ⟨A', c', e, ho.rd, ho.cap⟩⟩
theorem OwnII.below (h : OwnII w B A n c xss) (hb : Below w.heap.size w w') : OwnII w' B A n c xss := by
  obtain ⟨rows, hm, hn⟩ := h
  exact ⟨rows, hm.below hb, hn.below hb⟩
/-- A block below the base grows. -/
theorem OwnII.grown (h : OwnII w B A n c xss) {row : Option Nat} (hg : w.grownBy w' row) (hlow : ∀ g, row = some g → g < B) : OwnII w' B A n c xss := by
  obtain ⟨rows, hm, hn⟩ := h
  have key : ∀ {E : TypeId} {A' : Option Addr} {n' c' : Nat} {us : List Value}, Own w B E A' n' c' us → ((Value.slice A' n' c').ownBlock = none ∨ (Value.slice A' n' c').ownBlock ≠ row) := by
    intro E A' n' c' us ho
    cases hb : (Value.slice A' n' c').ownBlock with
    | none => exact .inl rfl
    | some g =>
      right
      intro e
      have h1 := hlow g e.symm
      have h2 := (World.ownsRow.lt ho g hb).1
      omega
  exact ⟨rows, hm.grown hg (key hm), hn.len, fun k hk => by obtain ⟨A', c', e, ho⟩ := hn.row k hk; exact ⟨A', c', e, ho.grown hg (key ho)⟩, hn.apart⟩
end
end Go.Proofs.YtggigolkncckoaaGreat
namespace Go.Proofs.YtggigolkncckoaaGreat
open Go.RowKit
theorem Blk.newAt3 {w : World} {t : TypeId} {cs : Array Value} {g : Nat} (hg : g = w.heap.size) : Blk (w.alloc (.cells cs t)) g t cs := hg ▸ Blk.new w t cs
theorem noRow3 {w w' : World} {R : List Int × Int} {x : Int} (hR : R = ([], x)) (hB : Below w.heap.size w w') :
    ∃ (A' : Option Addr) (k c' : Nat), Ending.returned (.tuple #[.slice none 0 0, .int .i64 x]) = .returned (.tuple #[.slice A' k c', .int .i64 R.2]) ∧ MkI w w' A' k c' R.1 := by
  subst hR
  exact ⟨none, 0, 0, rfl, Mk.nil hB⟩
end Go.Proofs.YtggigolkncckoaaGreat
namespace Go.Proofs.YtggigolkncckoaaGreat
open Go.RowKit
/-- The code of a regular space and of vectors. -/
def codeVb (P : Int) (sq : List Int) (vs : List (List Int)) : Int := if codeV P sq vs = 0 then (if regB sq then 0 else 5) else codeV P sq vs
/-- The code of a list of at most 16 vectors. -/
def codeLs (P : Int) (sq : List Int) (vs : List (List Int)) : Int := if codeV P sq vs = 0 then (if 16 < vs.length then 2 else 0) else codeV P sq vs
theorem codeVs_no (P : Int) (sq : List Int) (vs : List (List Int)) : codeVs P sq [] vs = codeVb P sq vs := by
  unfold codeVs codeVb
  by_cases h : isSp P sq = true
  · have : codeM P sq [] = 0 := by unfold codeM; simp [h]
    rw [if_pos this]
  · have h1 : codeM P sq [] = 1 := by unfold codeM; rw [if_neg h]
    have h2 : codeV P sq vs = 1 := by unfold codeV; rw [if_neg h]
    rw [h1, h2]; rfl
theorem codeV_sp {P : Int} {sq : List Int} {vs : List (List Int)} (h : codeV P sq vs = 0) : isSp P sq = true ∧ ∀ v ∈ vs, isVe P sq v = true := by
  unfold codeV at h
  by_cases h1 : isSp P sq = true
  · rw [if_pos h1] at h
    refine ⟨h1, fun v hv => ?_⟩
    cases h2 : isVe P sq v
    · rw [if_pos (List.any_eq_true.2 ⟨v, hv, by rw [h2]; rfl⟩)] at h
      exact absurd h (by decide)
    · rfl
  · rw [if_neg h1] at h; exact absurd h (by decide)
theorem codeV_mk {P : Int} {sq : List Int} {vs : List (List Int)} (h1 : isSp P sq = true) (h : ∀ v ∈ vs, isVe P sq v = true) : codeV P sq vs = 0 := by
  unfold codeV
  rw [if_pos h1, if_neg]
  intro hh
  obtain ⟨v, hv, e⟩ := List.any_eq_true.1 hh
  rw [h v hv] at e
  cases e
theorem isVe_spec5 {P : Int} {sq ys : List Int} (h : isVe P sq ys = true) : ys.length = sq.length ∧ NumsL P ys := by
  unfold isVe at h
  simp only [Bool.and_eq_true, beq_iff_eq] at h
  exact ⟨by have := h.1; omega, nums_numsL h.2⟩
theorem isVe_mk {P : Int} {sq ys : List Int} (h1 : ys.length = sq.length) (h2 : NumsL P ys) : isVe P sq ys = true := by
  unfold isVe nums
  rw [h1, Bool.and_eq_true]
  refine ⟨by simp, List.all_eq_true.2 fun x hx => ?_⟩
  have := h2 x hx
  simp [inR]
  omega
theorem codeV_spec {P : Int} {sq : List Int} {vs : List (List Int)} (h : codeV P sq vs = 0) : isP P = true ∧ 2 ≤ P ∧ P ≤ 13 ∧ 1 ≤ sq.length ∧ sq.length ≤ 6 ∧ NumsL P sq ∧ ∀ v ∈ vs, v.length = sq.length ∧ NumsL P v := by
  obtain ⟨h1, h2⟩ := codeV_sp h
  obtain ⟨hp, hd1, hd2, hnum⟩ := isSp_dim h1
  have := isP_ge hp
  exact ⟨hp, by omega, by omega, hd1, hd2, nums_numsL hnum, fun v hv => isVe_spec5 (h2 v hv)⟩
theorem checkVersV_any (P : Int) (A C : Option Addr) (n c l f : Nat) (sq : List Int) (vs : List (List Int)) (w : World) (hn : n ≤ 1048576) (hl : l ≤ 1048576) (ha : Rd w A n (ints sq)) (hc : RdII w C l vs) (hvs : ∀ ys ∈ vs, ys.length ≤ 1048576) :
    Calls Tryz.prog 150 #[.agg #[.int .i64 P, .slice A n c], .slice none 0 0, .slice C l f] w fun e w' => e = .returned (.int .i64 (codeVb P sq vs)) ∧ Below w.heap.size w w' := by
  have h := checkVersors_any P A none C n c 0 0 l f sq [] vs w hn (by omega) hl ha ⟨[], Rd.nil _ _, rfl, fun k h => absurd h (by simp)⟩ (by simp) hc hvs
  rwa [codeVs_no] at h
set_option maxHeartbeats 1600000 in
set_option maxRecDepth 8000 in
theorem l03List_any (P : Int) (A : Option Addr) (n c : Nat) (sq : List Int) (B : Option Addr) (m d : Nat) (L : List (List Int)) (w : World) (hp0 : 0 < P) (hp1 : P ≤ 13) (hn : n ≤ 1048576) (hm : m ≤ 1048576) (ha : Rd w A n (ints sq)) (hb : RdII w B m L) (hL : ∀ ys ∈ L, ys.length ≤ 1048576) :
    Calls Tryz.prog 303 #[.agg #[.int .i64 P, .slice A n c], .slice B m d] w fun e w' => e = .returned (.bool (L.all (isVe P sq) && decide (m ≤ 16))) ∧ Below w.heap.size w w' := by
  have hsl := ha.lenI
  have HSL := Lib.hid hsl
  have HML := Lib.hid hb.len
  have hB0 : Below w.heap.size w (w.alloc (.cells #[.int .i64 P, .slice A n c] 26)) := (Below.refl _ _).alloc (Nat.le_refl _) _
  have k0 : Blk (w.alloc (.cells #[.int .i64 P, .slice A n c] 26)) w.heap.size 26 #[.int .i64 P, .slice A n c] := Blk.new _ _ _
  clear hsl
  go_enter Tryz.func303, Tryz.ntmps303
  go_wp2
  go_loopw [5] (fun i wr => ∃ k : Nat, k ≤ m ∧ i = .int .i64 k ∧ (∀ v ∈ L.take k, isVe P sq v = true) ∧ Blk wr w.heap.size 26 #[.int .i64 P, .slice A n c] ∧ Below w.heap.size w wr) (fun i _ => m - (intOf i).toNat)
  case atStart => exact ⟨0, by omega, rfl, by simp, k0, hB0⟩
  case round =>
    obtain ⟨k, hk, rfl, hall, k2, hB2⟩ := hrel
    have HALL := Lib.hid hall
    clear hall k0 hB0
    by_cases hlt : k < m
    · obtain ⟨g, o, rfl, hxk, A1, c1', hcx, hr, hcc⟩ := (hb.below hB2).at_ hlt
      have hlk := hL _ (List.getElem_mem hxk)
      have HMEM := Lib.hid (List.getElem_mem hxk)
      have HT := Lib.hid (List.take_succ_eq_append_getElem hxk)
      have HVE := Lib.hid fun (w' : World) (h : Below wr.heap.size wr w') => l03Vector_any P A A1 n c L[k].length c1' sq L[k] w' hn HSL.out hlk hp0 hp1 (hr.below h)
      have b1 : (0 : Int) ≤ (k : Int) := by omega
      have b2 : (k : Int) < (m : Int) := by omega
      obtain ⟨bv, hbv⟩ : ∃ b, b = isVe P sq L[k] := ⟨_, rfl⟩
      have HBV := Lib.hid hbv
      rw [← hbv] at HVE
      obtain ⟨q0, q1⟩ := k2.two
      clear hbv hr hcc
      go_wp2
      refine wp_obs 7 [[], [], [], [1, 2], [1, 2, 3], [0, 1, 2, 3, 4], [0, 1, 2, 3, 4, 5]] [VIs (.agg #[.int .i64 P, .slice A n c]), VIs (.slice (some ⟨g, o, none⟩) m d), VIs (.int .i64 (k)), VIs (.pointer (some ⟨g, o + k, none⟩)), VIs (.slice A1 L[k].length c1'), VIs (.bool bv), VIs (.bool (!bv))] (fun w' => w'.cell? ⟨g, o + k, none⟩ = some (.slice A1 L[k].length c1') ∧ Blk w' w.heap.size 26 #[.int .i64 P, .slice A n c] ∧ Below wr.heap.size wr w') (by kernel_rfl) (by kernel_rfl) (fun _ _ h hb => ⟨(hb.cell (World.block_lt_of_cell? _ _ h.1)).trans h.1, h.2.1.below hb h.2.1.lt, h.2.2.trans (hb.mono h.2.2.size)⟩) (⟨hcx, k2.drew, (Below.refl _ _).drew⟩) (fun x => ?_)
      refine obs_step (Eq.trans (by simp only [List.getElem?_toArray, List.getElem?_cons_zero]; exact rfl) rfl) rfl (fun w' hS hV K hK => ?_) ?_
      · have q2 := hS.1; obtain ⟨q0, q1⟩ := hS.2.1.two
        go_simp
        exact hK.out _ _ _ rfl rfl rfl (Below.refl _ _)
      simp only [List.setIfInBounds_toArray, List.set_cons_zero, List.set_cons_succ]
      refine obs_step (Eq.trans (by simp only [List.getElem?_toArray, List.getElem?_cons_succ, List.getElem?_cons_zero]; exact rfl) rfl) rfl (fun w' hS hV K hK => ?_) ?_
      · have q2 := hS.1; obtain ⟨q0, q1⟩ := hS.2.1.two
        go_simp
        exact hK.out _ _ _ rfl rfl rfl (Below.refl _ _)
      simp only [List.setIfInBounds_toArray, List.set_cons_zero, List.set_cons_succ]
      refine obs_step (Eq.trans (by simp only [List.getElem?_toArray, List.getElem?_cons_succ, List.getElem?_cons_zero]; exact rfl) rfl) rfl (fun w' hS hV K hK => ?_) ?_
      · have q2 := hS.1; obtain ⟨q0, q1⟩ := hS.2.1.two
        go_simp
        exact hK.out _ _ _ rfl rfl rfl (Below.refl _ _)
      simp only [List.setIfInBounds_toArray, List.set_cons_zero, List.set_cons_succ]
      refine obs_step (Eq.trans (by simp only [List.getElem?_toArray, List.getElem?_cons_succ, List.getElem?_cons_zero]; exact rfl) rfl) rfl (fun w' hS hV K hK => ?_) ?_
      · have e1 : x 1 = (.slice (some ⟨g, o, none⟩) m d) := hV 1 (by decide)
        have e2 : x 2 = (.int .i64 (k)) := hV 2 (by decide)
        have q2 := hS.1; obtain ⟨q0, q1⟩ := hS.2.1.two
        go_simp
        exact hK.out _ _ _ rfl rfl rfl (Below.refl _ _)
      simp only [List.setIfInBounds_toArray, List.set_cons_zero, List.set_cons_succ]
      refine obs_step (Eq.trans (by simp only [List.getElem?_toArray, List.getElem?_cons_succ, List.getElem?_cons_zero]; exact rfl) rfl) rfl (fun w' hS hV K hK => ?_) ?_
      · have e1 : x 1 = (.slice (some ⟨g, o, none⟩) m d) := hV 1 (by decide)
        have e2 : x 2 = (.int .i64 (k)) := hV 2 (by decide)
        have e3 : x 3 = (.pointer (some ⟨g, o + k, none⟩)) := hV 3 (by decide)
        have q2 := hS.1; obtain ⟨q0, q1⟩ := hS.2.1.two
        go_simp
        exact hK.out _ _ _ rfl rfl rfl (Below.refl _ _)
      simp only [List.setIfInBounds_toArray, List.set_cons_zero, List.set_cons_succ]
      refine obs_step (Eq.trans (by simp only [List.getElem?_toArray, List.getElem?_cons_succ, List.getElem?_cons_zero]; exact rfl) rfl) rfl (fun w' hS hV K hK => ?_) ?_
      · have e0 : x 0 = (.agg #[.int .i64 P, .slice A n c]) := hV 0 (by decide)
        have e1 : x 1 = (.slice (some ⟨g, o, none⟩) m d) := hV 1 (by decide)
        have e2 : x 2 = (.int .i64 (k)) := hV 2 (by decide)
        have e3 : x 3 = (.pointer (some ⟨g, o + k, none⟩)) := hV 3 (by decide)
        have e4 : x 4 = (.slice A1 L[k].length c1') := hV 4 (by decide)
        have q2 := hS.1; obtain ⟨q0, q1⟩ := hS.2.1.two
        go_simp
        refine (HVE.out _ hS.2.2).mono ?_
        rintro e v1 ⟨rfl, hb⟩
        exact hK.out _ _ _ rfl rfl rfl hb
      simp only [List.setIfInBounds_toArray, List.set_cons_zero, List.set_cons_succ]
      refine obs_step (Eq.trans (by simp only [List.getElem?_toArray, List.getElem?_cons_succ, List.getElem?_cons_zero]; exact rfl) rfl) rfl (fun w' hS hV K hK => ?_) ?_
      · have e0 : x 0 = (.agg #[.int .i64 P, .slice A n c]) := hV 0 (by decide)
        have e1 : x 1 = (.slice (some ⟨g, o, none⟩) m d) := hV 1 (by decide)
        have e2 : x 2 = (.int .i64 (k)) := hV 2 (by decide)
        have e3 : x 3 = (.pointer (some ⟨g, o + k, none⟩)) := hV 3 (by decide)
        have e4 : x 4 = (.slice A1 L[k].length c1') := hV 4 (by decide)
        have e5 : x 5 = (.bool bv) := hV 5 (by decide)
        have q2 := hS.1; obtain ⟨q0, q1⟩ := hS.2.1.two
        go_simp
        exact hK.out _ _ _ rfl rfl rfl (Below.refl _ _)
      simp only [List.setIfInBounds_toArray, List.set_cons_zero, List.set_cons_succ]
      refine fun w' hS hV => ?_
      have e0 : x 0 = (.agg #[.int .i64 P, .slice A n c]) := hV 0 (by decide)
      have e1 : x 1 = (.slice (some ⟨g, o, none⟩) m d) := hV 1 (by decide)
      have e2 : x 2 = (.int .i64 (k)) := hV 2 (by decide)
      have e3 : x 3 = (.pointer (some ⟨g, o + k, none⟩)) := hV 3 (by decide)
      have e4 : x 4 = (.slice A1 L[k].length c1') := hV 4 (by decide)
      have e5 : x 5 = (.bool bv) := hV 5 (by decide)
      have e6 : x 6 = (.bool (!bv)) := hV 6 (by decide)
      simp only [e0, e1, e2, e3, e4, e5, e6]
      clear e0 e1 e2 e3 e4 e5 e6
      refine wpAny_done (by kernel_rfl) ?_ _
      obtain ⟨_, k3, hB3⟩ := hS
      obtain ⟨w3, rfl⟩ : ∃ W, W = w' := ⟨_, rfl⟩
      have hB4 := hB2.trans (hB3.mono hB2.size)
      clear hB3 hB2 k2 hcx q0 q1 HVE
      cases bv
      · go_wp2
        go_ret
        refine ⟨ret_bool ?_, hB4⟩
        have : L.all (isVe P sq) = false := by
          rw [← Bool.not_eq_true, List.all_eq_true]
          intro h
          have h1 := h _ HMEM.out
          rw [← HBV.out] at h1
          cases h1
        rw [this]; rfl
      · go_wp2
        go_roundw
        case rel => exact ⟨k + 1, by omega, by go_num, fun v hv => by
          rw [HT.out] at hv
          rcases List.mem_append.1 hv with hv | hv
          · exact HALL.out v hv
          · rw [List.mem_singleton.1 hv]; exact HBV.out.symm, k3, hB4⟩
        case measure => simp [intOf]; omega
    · have e1 : L.all (isVe P sq) = true := List.all_eq_true.2 fun v hv => HALL.out v (by rw [List.take_of_length_le (by rw [HML.out]; omega)]; exact hv)
      have HE := Lib.hid e1
      clear e1
      by_cases h16 : m ≤ 16
      · have t1 : decide ((m : Int) ≤ 16) = true := by simp; omega
        go_wp2
        go_ret
        exact ⟨ret_bool (by rw [HE.out]; simp; omega), hB2⟩
      · have t1 : decide ((m : Int) ≤ 16) = false := by simp; omega
        go_wp2
        go_ret
        exact ⟨ret_bool (by rw [HE.out]; simp; omega), hB2⟩
theorem codeLs_sp {P : Int} {sq : List Int} {L : List (List Int)} (h : isSp P sq = true) : codeLs P sq L = if (L.all (isVe P sq) && decide (L.length ≤ 16)) = true then 0 else 2 := by
  unfold codeLs codeV
  rw [if_pos h]
  have e : (L.any fun ys => !(isVe P sq ys)) = !(L.all (isVe P sq)) := by rw [List.all_eq_not_any_not, Bool.not_not]
  rw [e]
  cases L.all (isVe P sq)
  · simp
  · by_cases h16 : L.length ≤ 16
    · simp [h16, Nat.not_lt.2 h16]
    · simp [h16, Nat.lt_of_not_le h16]
theorem codeLs_no {P : Int} {sq : List Int} {L : List (List Int)} (h : isSp P sq = false) : codeLs P sq L = 1 := by
  unfold codeLs codeV
  rw [h]; rfl
set_option maxHeartbeats 1600000 in
theorem l05List_any (P : Int) (A : Option Addr) (n c : Nat) (sq : List Int) (B : Option Addr) (m d : Nat) (L : List (List Int)) (w : World) (hn : n ≤ 1048576) (hm : m ≤ 1048576) (ha : Rd w A n (ints sq)) (hb : RdII w B m L) (hL : ∀ ys ∈ L, ys.length ≤ 1048576) :
    Calls Tryz.prog 170 #[.agg #[.int .i64 P, .slice A n c], .slice B m d] w fun e w' => e = .returned (.int .i64 (codeLs P sq L)) ∧ Below w.heap.size w w' := by
  have hB0 : Below w.heap.size w (w.alloc (.cells #[.int .i64 P, .slice A n c] 26)) := (Below.refl _ _).alloc (Nat.le_refl _) _
  have k0 : Blk (w.alloc (.cells #[.int .i64 P, .slice A n c] 26)) w.heap.size 26 #[.int .i64 P, .slice A n c] := Blk.new _ _ _
  have HLN := Lib.hid hb.len
  cases h1 : isSp P sq
  · have his := l03Is_b P A n c sq (w.alloc (.cells #[.int .i64 P, .slice A n c] 26)) (by omega) (ha.below hB0) h1
    have HC := Lib.hid (codeLs_no (L := L) h1)
    obtain ⟨q0, q1⟩ := k0.two
    clear h1
    go_enter Tryz.func170, Tryz.ntmps170
    go_wp2_with fail
    refine his.mono ?_
    rintro e w2 ⟨rfl, hb2⟩
    go_wp2
    go_ret
    exact ⟨ret_int HC.out.symm, hB0.trans (hb2.mono hB0.size)⟩
  · have his := l03Is_b P A n c sq (w.alloc (.cells #[.int .i64 P, .slice A n c] 26)) (by omega) (ha.below hB0) h1
    have HC := Lib.hid (codeLs_sp (L := L) h1)
    obtain ⟨HP, -, -, -⟩ := isSp_dim h1
    obtain ⟨hp3, hp2⟩ := isP_ge HP
    obtain ⟨q0, q1⟩ := k0.two
    clear h1
    go_enter Tryz.func170, Tryz.ntmps170
    go_wp2_with fail
    refine his.mono ?_
    rintro e w2 ⟨rfl, hb2⟩
    have hB2 := hB0.trans (hb2.mono hB0.size)
    have k2 := k0.below hb2 k0.lt
    have hli := l03List_any P A n c sq B m d L w2 (by omega) hp2 hn hm (ha.below hB2) (hb.below hB2) hL
    obtain ⟨bv, hbv⟩ : ∃ b, b = (L.all (isVe P sq) && decide (m ≤ 16)) := ⟨_, rfl⟩
    rw [← hbv] at hli
    have HBV := Lib.hid hbv
    clear hbv q0 q1 k0 hB0 hb2
    obtain ⟨q0, q1⟩ := k2.two
    cases bv
    all_goals
      go_wp2_with fail
      refine hli.mono ?_
      rintro e w3 ⟨rfl, hb3⟩
      go_wp2
      go_ret
      exact ⟨ret_int (by rw [HC.out, HLN.out, ← HBV.out]; rfl), hB2.trans (hb3.mono hB2.size)⟩
end Go.Proofs.YtggigolkncckoaaGreat
namespace Go.Proofs.YtggigolkncckoaaGreat
open Go.RowKit
set_option maxHeartbeats 1600000 in
theorem checkList_any (P : Int) (A : Option Addr) (n c : Nat) (sq : List Int) (B : Option Addr) (m d : Nat) (L : List (List Int)) (w : World) (hn : n ≤ 1048576) (hm : m ≤ 1048576) (ha : Rd w A n (ints sq)) (hb : RdII w B m L) (hL : ∀ ys ∈ L, ys.length ≤ 1048576) :
    Calls Tryz.prog 167 #[.agg #[.int .i64 P, .slice A n c], .slice B m d] w fun e w' => e = .returned (.int .i64 (codeLs P sq L)) ∧ Below w.heap.size w w' := by
  have hB0 : Below w.heap.size w (w.alloc (.cells #[.int .i64 P, .slice A n c] 26)) := (Below.refl _ _).alloc (Nat.le_refl _) _
  have k0 : Blk (w.alloc (.cells #[.int .i64 P, .slice A n c] 26)) w.heap.size 26 #[.int .i64 P, .slice A n c] := Blk.new _ _ _
  have hli := checkVectors_any P A B n c m d sq L (w.alloc (.cells #[.int .i64 P, .slice A n c] 26)) hn hm (ha.below hB0) (hb.below hB0) hL
  have hlen := hb.len
  obtain ⟨r1, h1⟩ : ∃ r, r = codeV P sq L := ⟨_, rfl⟩
  rw [← h1] at hli
  obtain ⟨q0, q1⟩ := k0.two
  by_cases e1 : r1 = 0
  · have b1 : (r1 != 0) = false := by simp [e1]
    by_cases h16 : m ≤ 16
    · have HC : Hid (codeLs P sq L = 0) := Lib.hid (by unfold codeLs; rw [← h1, if_pos e1, if_neg (by omega)])
      have t1 : decide ((16 : Int) < (m : Int)) = false := by simp; omega
      clear h1 e1 hlen
      go_enter Tryz.func167, Tryz.ntmps167
      go_wp2_with fail
      refine hli.mono ?_
      rintro e w1 ⟨rfl, hb1⟩
      go_wp2
      go_ret
      exact ⟨ret_int HC.out.symm, hB0.trans (hb1.mono hB0.size)⟩
    · have HC : Hid (codeLs P sq L = 2) := Lib.hid (by unfold codeLs; rw [← h1, if_pos e1, if_pos (by omega)])
      have t1 : decide ((16 : Int) < (m : Int)) = true := by simp; omega
      clear h1 e1 hlen
      go_enter Tryz.func167, Tryz.ntmps167
      go_wp2_with fail
      refine hli.mono ?_
      rintro e w1 ⟨rfl, hb1⟩
      go_wp2
      go_ret
      exact ⟨ret_int HC.out.symm, hB0.trans (hb1.mono hB0.size)⟩
  · have b1 : (r1 != 0) = true := by simp [e1]
    have HC : Hid (codeLs P sq L = r1) := Lib.hid (by unfold codeLs; rw [← h1, if_neg e1])
    clear h1 e1 hlen
    go_enter Tryz.func167, Tryz.ntmps167
    go_wp2_with fail
    refine hli.mono ?_
    rintro e w1 ⟨rfl, hb1⟩
    go_wp2
    go_ret
    exact ⟨ret_int HC.out.symm, hB0.trans (hb1.mono hB0.size)⟩
set_option maxHeartbeats 1600000 in
theorem NormOf_ok (P : Int) (A : Option Addr) (n c : Nat) (sq : List Int) (X : Option Addr) (cx : Nat) (v : List Int) (w : World) (hsp : isSp P sq = true) (ha : Rd w A n (ints sq)) (hx : Rd w X n (ints v)) (hcx : n ≤ cx) (hv : NumsL P v) :
    Calls Tryz.prog 36 #[.agg #[.int .i64 P, .slice A n c], .slice X n cx] w fun e w' => e = .returned (.tuple #[.int .i64 (pairL P sq v v), .int .i64 0]) ∧ Below w.heap.size w w' := by
  have hB0 : Below w.heap.size w (w.alloc (.cells #[.int .i64 P, .slice A n c] 26)) := (Below.refl _ _).alloc (Nat.le_refl _) _
  have k0 : Blk (w.alloc (.cells #[.int .i64 P, .slice A n c] 26)) w.heap.size 26 #[.int .i64 P, .slice A n c] := Blk.new _ _ _
  have hsl := ha.lenI
  obtain ⟨HP, hd1, hd2, hnum⟩ := isSp_dim hsp
  obtain ⟨hp3, hp2⟩ := isP_ge HP
  have hB1 : Below w.heap.size w ((w.alloc (.cells #[.int .i64 P, .slice A n c] 26)).alloc (.cells #[.slice X n cx] 24)) := hB0.alloc (by simp) _
  have k1 : Blk ((w.alloc (.cells #[.int .i64 P, .slice A n c] 26)).alloc (.cells #[.slice X n cx] 24)) w.heap.size 26 #[.int .i64 P, .slice A n c] := k0.alloc _
  have hck := checkVectors_any P A (some ⟨w.heap.size + 1, 0, none⟩) n c 1 1 sq [v] ((w.alloc (.cells #[.int .i64 P, .slice A n c] 26)).alloc (.cells #[.slice X n cx] 24)) (by omega) (by omega) (ha.below hB1) (rdII_one' (Blk.newAt3 (by simp)) (hx.below hB1) hcx) (all_one (by rw [hx.lenI]; omega))
  rw [codeV_mk hsp (all_one (isVe_mk (by rw [hx.lenI, hsl]) hv))] at hck
  have HN := Lib.hid (nums_numsL hnum)
  have HVN := Lib.hid hv
  rw [hsl] at hd1 hd2
  obtain ⟨q0, q1⟩ := k1.two
  clear hsl hnum hv hsp k0 hB0
  go_enter Tryz.func36, Tryz.ntmps36
  go_wp2_with fail
  refine hck.mono ?_
  rintro e w2 ⟨rfl, hb2⟩
  have hB2 := hB1.trans (hb2.mono hB1.size)
  have k2 := k1.below hb2 k1.lt
  clear q0 q1 hck
  obtain ⟨q0, q1⟩ := k2.two
  go_wp2_with fail
  refine (norm_any P A n c sq X cx v w2 (by omega) hp2 (by omega) (ha.below hB2) HN.out (hx.below hB2) HVN.out).mono ?_
  rintro e w3 ⟨rfl, hb3⟩
  go_wp2
  go_ret2
  exact ⟨rfl, hB2.trans (hb3.mono hB2.size)⟩
end Go.Proofs.YtggigolkncckoaaGreat
namespace Go.Proofs.YtggigolkncckoaaGreat
open Go.RowKit
theorem Blk.new_at {w : World} {t : TypeId} {cs : Array Value} {g : Nat} (hg : g = w.heap.size) : Blk (w.alloc (.cells cs t)) g t cs := hg ▸ Blk.new w t cs
theorem RdII.nil (w : World) (A : Option Addr) : RdII w A 0 [] := ⟨[], Rd.nil w A, rfl, fun k h => absurd h (by simp)⟩
theorem codeVs_nil (P : Int) (sq : List Int) (ms : List (List Int)) : codeVs P sq ms [] = codeR P sq ms := by
  unfold codeVs codeR
  by_cases h : codeM P sq ms = 0
  · rw [if_pos h, if_pos h]
    have : codeV P sq [] = 0 := by unfold codeV; rw [(codeM_sp h).1]; rfl
    rw [if_pos this]
  · rw [if_neg h, if_neg h]
/-- What a code 0 says. -/
theorem codeR_zero {P : Int} {sq : List Int} {ms : List (List Int)} (h : codeR P sq ms = 0) : codeM P sq ms = 0 ∧ regB sq = true := by
  unfold codeR at h
  by_cases h1 : codeM P sq ms = 0
  · rw [if_pos h1] at h
    cases h2 : regB sq
    · rw [h2] at h; simp at h
    · exact ⟨h1, rfl⟩
  · rw [if_neg h1] at h; exact absurd h h1
theorem isMu_spec {P : Int} {sq ys : List Int} (h : isMu P sq ys = true) : ys.length = pw sq.length ∧ NumsL P ys := by
  unfold isMu at h
  simp only [Bool.and_eq_true, beq_iff_eq] at h
  exact ⟨by have := h.1; omega, nums_numsL h.2⟩
theorem isVe_spec {P : Int} {sq ys : List Int} (h : isVe P sq ys = true) : ys.length = sq.length ∧ NumsL P ys := by
  unfold isVe at h
  simp only [Bool.and_eq_true, beq_iff_eq] at h
  exact ⟨by have := h.1; omega, nums_numsL h.2⟩
theorem codeM_spec {P : Int} {sq : List Int} {ms : List (List Int)} (h : codeM P sq ms = 0) : isP P = true ∧ 2 ≤ P ∧ P ≤ 13 ∧ 1 ≤ sq.length ∧ sq.length ≤ 6 ∧ NumsL P sq ∧ ∀ ys ∈ ms, ys.length = pw sq.length ∧ NumsL P ys := by
  obtain ⟨h1, h2⟩ := codeM_sp h
  obtain ⟨hp, hd1, hd2, hnum⟩ := isSp_dim h1
  have := isP_ge hp
  exact ⟨hp, by omega, by omega, hd1, hd2, nums_numsL hnum, fun ys hy => isMu_spec (h2 ys hy)⟩
/-- The code of a regular space and a versor. -/
def codeVr (P : Int) (sq xs : List Int) : Int := if codeR P sq [xs] = 0 then (if versB P sq sq.length xs then 0 else 5) else codeR P sq [xs]
/-- IsVersor. -/
def isVersR (P : Int) (sq xs : List Int) : Bool × Int := if codeR P sq [xs] = 0 then (versB P sq sq.length xs, 0) else (false, codeR P sq [xs])
/-- IsRotor. -/
def isRotR (P : Int) (sq xs : List Int) : Bool × Int := if codeR P sq [xs] = 0 then (versB P sq sq.length xs && evenL xs, 0) else (false, codeR P sq [xs])
theorem ret_tup2 {a b : Bool} {x y : Int} (h1 : a = b) (h2 : x = y) : Ending.returned (.tuple #[.bool a, .int .i64 x]) = .returned (.tuple #[.bool b, .int .i64 y]) := by rw [h1, h2]
theorem ret_tupS {A : Option Addr} {k c : Nat} {x y : Int} (h2 : x = y) : Ending.returned (.tuple #[.slice A k c, .int .i64 x]) = .returned (.tuple #[.slice A k c, .int .i64 y]) := by rw [h2]
set_option maxHeartbeats 1600000 in
set_option maxRecDepth 8000 in
theorem IsVersor_any (P : Int) (A : Option Addr) (n c : Nat) (sq : List Int) (X : Option Addr) (m cx : Nat) (xs : List Int) (w : World) (hn : n ≤ 1048576) (hm : m ≤ 1048576) (ha : Rd w A n (ints sq)) (hx : Rd w X m (ints xs)) (hcx : m ≤ cx) :
    Calls Tryz.prog 38 #[.agg #[.int .i64 P, .slice A n c], .slice X m cx] w fun e w' => e = .returned (.tuple #[.bool (isVersR P sq xs).1, .int .i64 (isVersR P sq xs).2]) ∧ Below w.heap.size w w' := by
  have hB0 : Below w.heap.size w (w.alloc (.cells #[.int .i64 P, .slice A n c] 26)) := (Below.refl _ _).alloc (Nat.le_refl _) _
  have k0 : Blk (w.alloc (.cells #[.int .i64 P, .slice A n c] 26)) w.heap.size 26 #[.int .i64 P, .slice A n c] := Blk.new _ _ _
  have hB1 : Below w.heap.size w ((w.alloc (.cells #[.int .i64 P, .slice A n c] 26)).alloc (.cells #[.slice X m cx] 24)) := hB0.alloc (by simp) _
  have k1 : Blk ((w.alloc (.cells #[.int .i64 P, .slice A n c] 26)).alloc (.cells #[.slice X m cx] 24)) w.heap.size 26 #[.int .i64 P, .slice A n c] := k0.alloc _
  have hreg := checkVersors_any P A (some ⟨w.heap.size + 1, 0, none⟩) none n c 1 1 0 0 sq [xs] [] ((w.alloc (.cells #[.int .i64 P, .slice A n c] 26)).alloc (.cells #[.slice X m cx] 24)) hn (by omega) (by omega) (ha.below hB1) (rdII_one' (Blk.new_at (by simp)) (hx.below hB1) hcx) (all_one (by rw [hx.lenI]; exact hm)) (RdII.nil _ _) (by simp)
  rw [codeVs_nil] at hreg
  obtain ⟨r, hr⟩ : ∃ r, r = codeR P sq [xs] := ⟨_, rfl⟩
  have HR := Lib.hid hr
  by_cases hr0 : r = 0
  · have hcM := (codeR_zero (hr.symm.trans hr0)).1
    obtain ⟨HP, hp, hp2, hd1, hd2, hs, hms⟩ := codeM_spec hcM
    have hxl := hx.lenI
    have hsl := ha.lenI
    obtain ⟨hl1, hxs⟩ := hms xs (by simp)
    have hn6 : n ≤ 6 := by omega
    have hmn : m = pw n := by rw [← hxl, hl1, hsl]
    subst hmn
    have HSL := Lib.hid hsl
    have HS := Lib.hid hs
    have HXS := Lib.hid hxs
    clear hxl hsl hms hl1 hd1 hd2 hcM hs hxs
    have HR0 := Lib.hid hr0
    have b0 := code_eq hr0
    clear hr hr0

    go_enter Tryz.func38, Tryz.ntmps38
    go_wp2_with fail
    refine hreg.mono ?_
    rintro e w2 ⟨rfl, hb2⟩
    rw [← HR.out]
    have hB2 := hB1.trans (hb2.mono hB1.size)
    have k2 := k1.below hb2 k1.lt
    obtain ⟨q0, q1⟩ := k2.two
    clear k1 hB1 hb2
    go_wp2_with fail
    refine (isVersor_any P A n c sq X cx xs _ hp hp2 hn6 (ha.below hB2) HS.out (hx.below hB2) HXS.out hcx).mono ?_
    rintro e w3 ⟨rfl, hb3⟩
    go_wp2
    go_ret2
    exact ⟨ret_tup2 (by unfold isVersR; rw [← HR.out, if_pos HR0.out, HSL.out]) (by unfold isVersR; rw [← HR.out, if_pos HR0.out]), hB2.trans (hb3.mono hB2.size)⟩
  · have HR0 := Lib.hid hr0
    have b0 := code_ne hr0
    clear hr hr0
    go_enter Tryz.func38, Tryz.ntmps38
    go_wp2_with fail
    refine hreg.mono ?_
    rintro e w2 ⟨rfl, hb2⟩
    rw [← HR.out]
    have hB2 := hB1.trans (hb2.mono hB1.size)
    have k2 := k1.below hb2 k1.lt
    obtain ⟨q0, q1⟩ := k2.two
    clear k1 hB1 hb2
    go_wp2
    go_ret2
    exact ⟨ret_tup2 (by unfold isVersR; rw [← HR.out, if_neg HR0.out]) (by unfold isVersR; rw [← HR.out, if_neg HR0.out]), hB2⟩
set_option maxHeartbeats 1600000 in
set_option maxRecDepth 8000 in
theorem IsRotor_any (P : Int) (A : Option Addr) (n c : Nat) (sq : List Int) (X : Option Addr) (m cx : Nat) (xs : List Int) (w : World) (hn : n ≤ 1048576) (hm : m ≤ 1048576) (ha : Rd w A n (ints sq)) (hx : Rd w X m (ints xs)) (hcx : m ≤ cx) :
    Calls Tryz.prog 44 #[.agg #[.int .i64 P, .slice A n c], .slice X m cx] w fun e w' => e = .returned (.tuple #[.bool (isRotR P sq xs).1, .int .i64 (isRotR P sq xs).2]) ∧ Below w.heap.size w w' := by
  have hB0 : Below w.heap.size w (w.alloc (.cells #[.int .i64 P, .slice A n c] 26)) := (Below.refl _ _).alloc (Nat.le_refl _) _
  have k0 : Blk (w.alloc (.cells #[.int .i64 P, .slice A n c] 26)) w.heap.size 26 #[.int .i64 P, .slice A n c] := Blk.new _ _ _
  have hB1 : Below w.heap.size w ((w.alloc (.cells #[.int .i64 P, .slice A n c] 26)).alloc (.cells #[.slice X m cx] 24)) := hB0.alloc (by simp) _
  have k1 : Blk ((w.alloc (.cells #[.int .i64 P, .slice A n c] 26)).alloc (.cells #[.slice X m cx] 24)) w.heap.size 26 #[.int .i64 P, .slice A n c] := k0.alloc _
  have hreg := checkVersors_any P A (some ⟨w.heap.size + 1, 0, none⟩) none n c 1 1 0 0 sq [xs] [] ((w.alloc (.cells #[.int .i64 P, .slice A n c] 26)).alloc (.cells #[.slice X m cx] 24)) hn (by omega) (by omega) (ha.below hB1) (rdII_one' (Blk.new_at (by simp)) (hx.below hB1) hcx) (all_one (by rw [hx.lenI]; exact hm)) (RdII.nil _ _) (by simp)
  rw [codeVs_nil] at hreg
  obtain ⟨r, hr⟩ : ∃ r, r = codeR P sq [xs] := ⟨_, rfl⟩
  have HR := Lib.hid hr
  by_cases hr0 : r = 0
  · have hcM := (codeR_zero (hr.symm.trans hr0)).1
    obtain ⟨HP, hp, hp2, hd1, hd2, hs, hms⟩ := codeM_spec hcM
    have hxl := hx.lenI
    have hsl := ha.lenI
    obtain ⟨hl1, hxs⟩ := hms xs (by simp)
    have hn6 : n ≤ 6 := by omega
    have hmn : m = pw n := by rw [← hxl, hl1, hsl]
    subst hmn
    have HSL := Lib.hid hsl
    have HS := Lib.hid hs
    have HXS := Lib.hid hxs
    clear hxl hsl hms hl1 hd1 hd2 hcM hs hxs
    have HR0 := Lib.hid hr0
    have b0 := code_eq hr0
    clear hr hr0

    cases hv : versB P sq n xs
    all_goals
      have HV := Lib.hid hv
      clear hv
      go_enter Tryz.func44, Tryz.ntmps44
      go_wp2_with fail
      refine hreg.mono ?_
      rintro e w2 ⟨rfl, hb2⟩
      rw [← HR.out]
      have hB2 := hB1.trans (hb2.mono hB1.size)
      have k2 := k1.below hb2 k1.lt
      obtain ⟨q0, q1⟩ := k2.two
      clear k1 hB1 hb2
      go_wp2_with fail
      refine (isVersor_any P A n c sq X cx xs _ hp hp2 hn6 (ha.below hB2) HS.out (hx.below hB2) HXS.out hcx).mono ?_
      rintro e w3 ⟨rfl, hb3⟩
      rw [HV.out]
      have hB3 := hB2.trans (hb3.mono hB2.size)
      have k3 := k2.below hb3 k2.lt
      clear q0 q1
      obtain ⟨q0, q1⟩ := k3.two
      go_wp2_with fail
    · go_ret2
      exact ⟨ret_tup2 (by unfold isRotR; rw [← HR.out, if_pos HR0.out, HSL.out, HV.out]; rfl) (by unfold isRotR; rw [← HR.out, if_pos HR0.out]), hB3⟩
    · refine (isEven_any _ _ _ _ _ (pw_le hn6) (hx.below hB3)).mono ?_
      rintro e w4 ⟨rfl, hb4⟩
      go_wp2
      go_ret2
      exact ⟨ret_tup2 (by unfold isRotR; rw [← HR.out, if_pos HR0.out, HSL.out, HV.out]; rfl) (by unfold isRotR; rw [← HR.out, if_pos HR0.out]), hB3.trans (hb4.mono hB3.size)⟩
  · have HR0 := Lib.hid hr0
    have b0 := code_ne hr0
    clear hr hr0
    go_enter Tryz.func44, Tryz.ntmps44
    go_wp2_with fail
    refine hreg.mono ?_
    rintro e w2 ⟨rfl, hb2⟩
    rw [← HR.out]
    have hB2 := hB1.trans (hb2.mono hB1.size)
    have k2 := k1.below hb2 k1.lt
    obtain ⟨q0, q1⟩ := k2.two
    clear k1 hB1 hb2
    go_wp2
    go_ret2
    exact ⟨ret_tup2 (by unfold isRotR; rw [← HR.out, if_neg HR0.out]) (by unfold isRotR; rw [← HR.out, if_neg HR0.out]), hB2⟩
/-- VersorInverse. -/
def vinvR (P : Int) (sq xs : List Int) : List Int × Int := if codeVr P sq xs = 0 then (vinvL P sq xs, 0) else ([], codeVr P sq xs)
/-- SandwichOf. -/
def sandR (P : Int) (sq xs v : List Int) : List Int × Int :=
  if codeM P sq [xs] = 0 then (if isVe P sq v then (if codeVr P sq xs = 0 then (sandL P sq sq.length xs v, 0) else ([], codeVr P sq xs)) else ([], 2)) else ([], codeM P sq [xs])
theorem codeVr_eq {P : Int} {sq xs : List Int} (h : codeR P sq [xs] = 0) : codeVr P sq xs = if versB P sq sq.length xs then 0 else 5 := by unfold codeVr; rw [if_pos h]
theorem codeVr_ne {P : Int} {sq xs : List Int} (h : ¬ codeR P sq [xs] = 0) : codeVr P sq xs = codeR P sq [xs] := by unfold codeVr; rw [if_neg h]
set_option maxHeartbeats 1600000 in
set_option maxRecDepth 8000 in
theorem VersorInverse_any (P : Int) (A : Option Addr) (n c : Nat) (sq : List Int) (X : Option Addr) (m cx : Nat) (xs : List Int) (w : World) (hn : n ≤ 1048576) (hm : m ≤ 1048576) (ha : Rd w A n (ints sq)) (hx : Rd w X m (ints xs)) (hcx : m ≤ cx) :
    Calls Tryz.prog 43 #[.agg #[.int .i64 P, .slice A n c], .slice X m cx] w fun e w' => ∃ (A' : Option Addr) (k c' : Nat), e = .returned (.tuple #[.slice A' k c', .int .i64 (vinvR P sq xs).2]) ∧ MkI w w' A' k c' (vinvR P sq xs).1 := by
  have hB0 : Below w.heap.size w (w.alloc (.cells #[.int .i64 P, .slice A n c] 26)) := (Below.refl _ _).alloc (Nat.le_refl _) _
  have k0 : Blk (w.alloc (.cells #[.int .i64 P, .slice A n c] 26)) w.heap.size 26 #[.int .i64 P, .slice A n c] := Blk.new _ _ _
  have hB1 : Below w.heap.size w ((w.alloc (.cells #[.int .i64 P, .slice A n c] 26)).alloc (.cells #[.slice X m cx] 24)) := hB0.alloc (by simp) _
  have k1 : Blk ((w.alloc (.cells #[.int .i64 P, .slice A n c] 26)).alloc (.cells #[.slice X m cx] 24)) w.heap.size 26 #[.int .i64 P, .slice A n c] := k0.alloc _
  have hreg := checkVersors_any P A (some ⟨w.heap.size + 1, 0, none⟩) none n c 1 1 0 0 sq [xs] [] ((w.alloc (.cells #[.int .i64 P, .slice A n c] 26)).alloc (.cells #[.slice X m cx] 24)) hn (by omega) (by omega) (ha.below hB1) (rdII_one' (Blk.new_at (by simp)) (hx.below hB1) hcx) (all_one (by rw [hx.lenI]; exact hm)) (RdII.nil _ _) (by simp)
  rw [codeVs_nil] at hreg
  obtain ⟨r, hr⟩ : ∃ r, r = codeR P sq [xs] := ⟨_, rfl⟩
  have HR := Lib.hid hr
  by_cases hr0 : r = 0
  · have hcM := (codeR_zero (hr.symm.trans hr0)).1
    obtain ⟨HP, hp, hp2, hd1, hd2, hs, hms⟩ := codeM_spec hcM
    have hxl := hx.lenI
    have hsl := ha.lenI
    obtain ⟨hl1, hxs⟩ := hms xs (by simp)
    have hn6 : n ≤ 6 := by omega
    have hmn : m = pw n := by rw [← hxl, hl1, hsl]
    subst hmn
    have HSL := Lib.hid hsl
    have HS := Lib.hid hs
    have HXS := Lib.hid hxs
    clear hxl hsl hms hl1 hd1 hd2 hcM hs hxs
    have HR0 := Lib.hid hr0
    have b0 := code_eq hr0
    clear hr hr0

    cases hv : versB P sq n xs
    all_goals
      have hcv := codeVr_eq (P := P) (sq := sq) (xs := xs) (by rw [← HR.out]; exact HR0.out)
      rw [HSL.out, hv] at hcv
      have HCV := Lib.hid hcv
      have HV := Lib.hid hv
      clear hv hcv
      go_enter Tryz.func43, Tryz.ntmps43
      go_wp2_with fail
      refine hreg.mono ?_
      rintro e w2 ⟨rfl, hb2⟩
      rw [← HR.out]
      have hB2 := hB1.trans (hb2.mono hB1.size)
      have k2 := k1.below hb2 k1.lt
      obtain ⟨q0, q1⟩ := k2.two
      clear k1 hB1 hb2
      go_wp2_with fail
      refine (isVersor_any P A n c sq X cx xs _ hp hp2 hn6 (ha.below hB2) HS.out (hx.below hB2) HXS.out hcx).mono ?_
      rintro e w3 ⟨rfl, hb3⟩
      rw [HV.out]
      have hB3 := hB2.trans (hb3.mono hB2.size)
      have k3 := k2.below hb3 k2.lt
      clear q0 q1
      obtain ⟨q0, q1⟩ := k3.two
      go_wp2_with fail
    · go_ret2
      refine ⟨none, 0, 0, ret_tupS ?_, ?_⟩
      · unfold vinvR; rw [HCV.out]; rfl
      · unfold vinvR; rw [HCV.out]
        exact Mk.nil hB3
    · refine (versorInverse_any P A n c sq X cx xs _ hp hp2 hn6 (ha.below hB3) HS.out (hx.below hB3) HXS.out hcx).mono ?_
      rintro e w4 ⟨A4, c4, rfl, hM⟩
      go_wp2
      go_ret2
      exact ⟨_, _, _, ret_tupS (by unfold vinvR; rw [HCV.out]; rfl), by unfold vinvR; rw [HCV.out]; exact hM.after hB3⟩
  · have HR0 := Lib.hid hr0
    have b0 := code_ne hr0
    clear hr hr0
    go_enter Tryz.func43, Tryz.ntmps43
    go_wp2_with fail
    refine hreg.mono ?_
    rintro e w2 ⟨rfl, hb2⟩
    rw [← HR.out]
    have hB2 := hB1.trans (hb2.mono hB1.size)
    have k2 := k1.below hb2 k1.lt
    obtain ⟨q0, q1⟩ := k2.two
    clear k1 hB1 hb2
    go_wp2
    go_ret2
    have hv : codeVr P sq xs = r := by rw [codeVr_ne (by rw [← HR.out]; exact HR0.out), HR.out]
    refine ⟨none, 0, 0, ret_tupS ?_, ?_⟩
    · unfold vinvR; rw [hv, if_neg HR0.out]
    · unfold vinvR; rw [hv, if_neg HR0.out]
      exact Mk.nil hB2
end Go.Proofs.YtggigolkncckoaaGreat
namespace Go.Proofs.YtggigolkncckoaaGreat
open Go.RowKit
theorem codeM_one {P : Int} {sq xs ys : List Int} (h : codeM P sq [xs] = 0) (hy : isVe P sq ys = true) : codeV P sq [ys] = 0 := by
  unfold codeV
  rw [(codeM_sp h).1, if_pos rfl]
  simp [hy]
/-- What the code of the program's check says. -/
theorem codeVs_zero {P : Int} {sq xs v : List Int} (h : codeVs P sq [xs] [v] = 0) : codeM P sq [xs] = 0 ∧ isVe P sq v = true ∧ codeR P sq [xs] = 0 := by
  unfold codeVs at h
  by_cases h1 : codeM P sq [xs] = 0
  · rw [if_pos h1] at h
    by_cases h2 : codeV P sq [v] = 0
    · rw [if_pos h2] at h
      refine ⟨h1, ?_, by unfold codeR; rw [if_pos h1]; exact h⟩
      unfold codeV at h2
      rw [(codeM_sp h1).1, if_pos rfl] at h2
      cases h3 : isVe P sq v
      · simp [h3] at h2
      · rfl
    · rw [if_neg h2] at h; exact absurd h h2
  · rw [if_neg h1] at h; exact absurd h h1
theorem codeVs_bad {P : Int} {sq xs v : List Int} (h : ¬ codeVs P sq [xs] [v] = 0) : sandR P sq xs v = ([], codeVs P sq [xs] [v]) := by
  unfold sandR
  by_cases h1 : codeM P sq [xs] = 0
  · rw [if_pos h1]
    cases h2 : isVe P sq v
    · rw [if_neg (by decide)]
      have h3 : codeV P sq [v] = 2 := by unfold codeV; rw [(codeM_sp h1).1, if_pos rfl]; simp [h2]
      have : codeVs P sq [xs] [v] = 2 := by unfold codeVs; rw [if_pos h1, h3]; rfl
      rw [this]
    · rw [if_pos rfl]
      have h3 := codeM_one h1 h2
      have h4 : codeVs P sq [xs] [v] = codeR P sq [xs] := by unfold codeVs codeR; rw [if_pos h1, if_pos h3, if_pos h1]
      rw [h4] at h ⊢
      rw [codeVr_ne h, if_neg h]
  · rw [if_neg h1]
    have : codeVs P sq [xs] [v] = codeM P sq [xs] := by unfold codeVs; rw [if_neg h1]
    rw [this]
theorem sandR_ok {P : Int} {sq xs v : List Int} (h : codeM P sq [xs] = 0) (h1 : isVe P sq v = true) (h2 : codeVr P sq xs = 0) : sandR P sq xs v = (sandL P sq sq.length xs v, 0) := by unfold sandR; rw [if_pos h, if_pos h1, if_pos h2]
theorem sandR_vr {P : Int} {sq xs v : List Int} (h : codeM P sq [xs] = 0) (h1 : isVe P sq v = true) (h2 : ¬ codeVr P sq xs = 0) : sandR P sq xs v = ([], codeVr P sq xs) := by unfold sandR; rw [if_pos h, if_pos h1, if_neg h2]
theorem codeVr_5 {P : Int} {sq xs : List Int} (h : codeR P sq [xs] = 0) (hv : versB P sq sq.length xs = false) : codeVr P sq xs = 5 := by unfold codeVr; rw [if_pos h, hv]; rfl
theorem codeVr_0 {P : Int} {sq xs : List Int} (h : codeR P sq [xs] = 0) (hv : versB P sq sq.length xs = true) : codeVr P sq xs = 0 := by unfold codeVr; rw [if_pos h, hv]; rfl
/-- An ending with no list. -/
theorem no_list {w w' : World} {R : List Int × Int} {x : Int} (hR : R = ([], x)) (hB : Below w.heap.size w w') :
    ∃ (A' : Option Addr) (k c' : Nat), Ending.returned (.tuple #[.slice none 0 0, .int .i64 x]) = .returned (.tuple #[.slice A' k c', .int .i64 R.2]) ∧ MkI w w' A' k c' R.1 := by
  subst hR
  exact ⟨none, 0, 0, rfl, Mk.nil hB⟩
/-- An ending with a list. -/
theorem a_list {w w' : World} {R : List Int × Int} {A : Option Addr} {k c : Nat} {L : List Int} {x : Int} (hR : R = (L, x)) (hM : MkI w w' A k c L) :
    ∃ (A' : Option Addr) (k' c' : Nat), Ending.returned (.tuple #[.slice A k c, .int .i64 x]) = .returned (.tuple #[.slice A' k' c', .int .i64 R.2]) ∧ MkI w w' A' k' c' R.1 := by
  subst hR
  exact ⟨_, _, _, rfl, hM⟩
set_option maxHeartbeats 3200000 in
set_option maxRecDepth 8000 in
theorem SandwichOf_any (P : Int) (A : Option Addr) (n c : Nat) (sq : List Int) (X : Option Addr) (m cx : Nat) (xs : List Int) (Y : Option Addr) (l cy : Nat) (ys : List Int) (w : World) (hn : n ≤ 1048576) (hm : m ≤ 1048576) (hl : l ≤ 1048576) (ha : Rd w A n (ints sq)) (hx : Rd w X m (ints xs)) (hcx : m ≤ cx) (hy : Rd w Y l (ints ys)) (hcy : l ≤ cy) :
    Calls Tryz.prog 37 #[.agg #[.int .i64 P, .slice A n c], .slice X m cx, .slice Y l cy] w fun e w' => ∃ (A' : Option Addr) (k c' : Nat), e = .returned (.tuple #[.slice A' k c', .int .i64 (sandR P sq xs ys).2]) ∧ MkI w w' A' k c' (sandR P sq xs ys).1 := by
  have hB0 : Below w.heap.size w (w.alloc (.cells #[.int .i64 P, .slice A n c] 26)) := (Below.refl _ _).alloc (Nat.le_refl _) _
  have k0 : Blk (w.alloc (.cells #[.int .i64 P, .slice A n c] 26)) w.heap.size 26 #[.int .i64 P, .slice A n c] := Blk.new _ _ _
  have hB1 : Below w.heap.size w (((w.alloc (.cells #[.int .i64 P, .slice A n c] 26)).alloc (.cells #[.slice X m cx] 24)).alloc (.cells #[.slice Y l cy] 24)) := (hB0.alloc (by simp) _).alloc (by simp; omega) _
  have k1 : Blk (((w.alloc (.cells #[.int .i64 P, .slice A n c] 26)).alloc (.cells #[.slice X m cx] 24)).alloc (.cells #[.slice Y l cy] 24)) w.heap.size 26 #[.int .i64 P, .slice A n c] := (k0.alloc _).alloc _
  have hreg := checkVersors_any P A (some ⟨w.heap.size + 1, 0, none⟩) (some ⟨w.heap.size + 2, 0, none⟩) n c 1 1 1 1 sq [xs] [ys] (((w.alloc (.cells #[.int .i64 P, .slice A n c] 26)).alloc (.cells #[.slice X m cx] 24)).alloc (.cells #[.slice Y l cy] 24)) hn (by omega) (by omega) (ha.below hB1) (rdII_one' ((Blk.new_at (by simp)).alloc _) (hx.below hB1) hcx) (all_one (by rw [hx.lenI]; exact hm)) (rdII_one' (Blk.new_at (by simp)) (hy.below hB1) hcy) (all_one (by rw [hy.lenI]; exact hl))
  by_cases hr0 : codeVs P sq [xs] [ys] = 0
  · skip
    obtain ⟨hcM, hve, hcR⟩ := codeVs_zero hr0
    have hcM2 := Lib.hid hcM
    rw [hr0] at hreg
    obtain ⟨HP, hp, hp2, hd1, hd2, hs, hms⟩ := codeM_spec hcM
    have hxl := hx.lenI
    have hsl := ha.lenI
    obtain ⟨hl1, hxs⟩ := hms xs (by simp)
    have hn6 : n ≤ 6 := by omega
    have hmn : m = pw n := by rw [← hxl, hl1, hsl]
    subst hmn
    have HSL := Lib.hid hsl
    have HS := Lib.hid hs
    have HXS := Lib.hid hxs
    clear hxl hsl hms hl1 hd1 hd2 hcM hs hxs
    obtain ⟨hyl, hyn⟩ := isVe_spec hve
    have hyll := hy.lenI
    have hln : n = l := by rw [← hyll, hyl, HSL.out]
    subst hln
    clear hyll hyl
    have HCR := Lib.hid hcR
    have HVE := Lib.hid hve
    clear hcR hve hr0
    cases hv : versB P sq n xs
    all_goals
      have HV := Lib.hid hv
      clear hv
      go_enter Tryz.func37, Tryz.ntmps37
      go_wp2_with fail
      refine (hreg).mono ?_
      rintro e w2 ⟨rfl, hb2⟩
      have hB2 := hB1.trans (hb2.mono hB1.size)
      have k2 := k1.below hb2 k1.lt
      obtain ⟨q0, q1⟩ := k2.two
      clear k1 hB1 hb2
      go_wp2_with fail
      refine (isVersor_any P A n c sq X cx xs _ hp hp2 hn6 (ha.below hB2) HS.out (hx.below hB2) HXS.out hcx).mono ?_
      rintro e w3 ⟨rfl, hb3⟩
      rw [HV.out]
      clear q0 q1
      have hB3 := hB2.trans (hb3.mono hB2.size)
      have k3 := k2.below hb3 k2.lt
      obtain ⟨q0, q1⟩ := k3.two
    · go_wp2
      go_ret2
      exact no_list (by rw [sandR_vr hcM2.out HVE.out (by rw [codeVr_5 HCR.out (by rw [HSL.out]; exact HV.out)]; decide), codeVr_5 HCR.out (by rw [HSL.out]; exact HV.out)]) hB3
    · go_wp2_with fail
      refine (sandwich_any P A n c sq X cx xs Y cy ys _ hp hp2 hn6 (ha.below hB3) HS.out (hx.below hB3) HXS.out hcx (hy.below hB3) hyn hcy).mono ?_
      rintro e w4 ⟨A4, c4, rfl, hM⟩
      go_wp2
      go_ret2
      exact a_list (by rw [sandR_ok hcM2.out HVE.out (codeVr_0 HCR.out (by rw [HSL.out]; exact HV.out)), HSL.out]) (hM.after hB3)
  · obtain ⟨r, hr⟩ : ∃ r, r = codeVs P sq [xs] [ys] := ⟨_, rfl⟩
    have HR := Lib.hid hr
    have HR0 := Lib.hid hr0
    have b0 : (r != 0) = true := code_ne (by rw [hr]; exact hr0)
    clear hr hr0
    go_enter Tryz.func37, Tryz.ntmps37
    go_wp2_with fail
    refine (hreg).mono ?_
    rintro e w2 ⟨rfl, hb2⟩
    rw [← HR.out]
    have hB2 := hB1.trans (hb2.mono hB1.size)
    have k2 := k1.below hb2 k1.lt
    obtain ⟨q0, q1⟩ := k2.two
    go_wp2
    go_ret2
    exact no_list (by rw [codeVs_bad HR0.out, HR.out]) hB2
end Go.Proofs.YtggigolkncckoaaGreat
namespace Go.Proofs.YtggigolkncckoaaGreat
section
variable {P : Int} {sq xs ys : List Int}
end
theorem codeM_mk {P : Int} {sq : List Int} {ms : List (List Int)} (h1 : isSp P sq = true) (h : ∀ ys ∈ ms, ys.length = pw sq.length ∧ NumsL P ys) : codeM P sq ms = 0 := by
  unfold codeM
  rw [if_pos h1, if_neg]
  intro hh
  obtain ⟨ys, hy, e⟩ := List.any_eq_true.1 hh
  obtain ⟨h2, h3⟩ := h ys hy
  have h4 : isMu P sq ys = true := by
    unfold isMu nums
    rw [h2, Bool.and_eq_true]
    refine ⟨by simp, List.all_eq_true.2 fun x hx => ?_⟩
    have := h3 x hx
    simp [inR]
    omega
  rw [h4] at e
  simp at e
end Go.Proofs.YtggigolkncckoaaGreat
namespace Go.Proofs.YtggigolkncckoaaGreat
section
variable {p : Int} {sq : List Int}
theorem cg_wit {p a b : Int} : a % p = b % p ↔ ∃ k, a = b + p * k := by
  constructor
  · intro h
    have h1 := Int.emod_add_mul_ediv a p
    have h2 := Int.emod_add_mul_ediv b p
    exact ⟨a / p - b / p, by grind⟩
  · rintro ⟨k, rfl⟩
    rw [Int.add_mul_emod_self_left]
theorem versL_prod (hp : 0 < p) (h2 : 2 ≤ p) (vs : List (List Int)) (hvs : ∀ v ∈ vs, NumsL p v) : versL p sq sq.length vs = (Cl.prod hp vs : Cl p sq).l := by
  unfold versL Cl.prod
  have key : ∀ (y : Cl p sq), vs.foldl (fun o v => mulL p sq o (vecTo sq.length v sq.length)) y.l = (vs.foldl (fun x v => x * Cl.vec hp v) y).l := by
    induction vs with
    | nil => intro y; rfl
    | cons v vs ih =>
      intro y
      rw [List.foldl_cons, List.foldl_cons, ← ih (fun u hu => hvs u (List.mem_cons_of_mem _ hu)), Cl.mul_l, Cl.vec_l hp (hvs v (List.mem_cons_self ..))]
  rw [← key, Cl.one_l h2]
theorem bil_same (hP : isP p = true) {v : List Int} (hl : v.length = sq.length) : pairL p sq v v = 0 ↔ bil sq v v % p = 0 := by
  have h1 := pairL_bil (p := p) (u := v) hl
  have h3 := (isP_ge hP).1
  have h2 := pairL_small (P := p) (by omega) sq v v
  rw [Int.emod_eq_of_lt h2.1 h2.2] at h1
  rw [h1]
/-- The sandwich of a product of vectors. -/
theorem sand_prod (hP : isP p = true) (h6 : sq.length ≤ 6) (vs : List (List Int)) (hvs : ∀ v ∈ vs, v.length = sq.length ∧ NumsL p v ∧ bil sq v v % p ≠ 0) {w : List Int} (hw : w.length = sq.length) (hwn : NumsL p w) :
    sandL p sq sq.length (versL p sq sq.length vs) w = refls p sq vs w := by
  have h3 := (isP_ge hP).1
  have hp : 0 < p := by omega
  have hne : ∀ v ∈ vs, bil sq v v % p ≠ 0 := fun v hv => (hvs v hv).2.2
  obtain ⟨-, hn⟩ := Cl.prod_vers hP hp h6 vs hne
  have hact := Cl.prod_acts hp hP h6 vs hne hw
  have hnn := nrmP_ne hP vs hne
  rw [versL_prod hp (by omega) vs fun v hv => (hvs v hv).2.1]
  obtain ⟨x, hx⟩ : ∃ x : Cl p sq, x = Cl.prod hp vs := ⟨_, rfl⟩
  rw [← hx] at hn hact ⊢
  unfold sandL vinvL
  rw [hn, ← Cl.rev_l, ← Cl.sm_l, ← Cl.invo_l, ← Cl.vec_l hp hwn, ← Cl.mul_l, ← Cl.mul_l, Cl.mul_sm, hact, Cl.sm_sm]
  have h1 : (invF p (nrmP sq vs % p) * nrmP sq vs) % p = (1 : Int) % p := by
    rw [Int.mul_comm, inv_mod hP hnn, Int.emod_eq_of_lt (by omega) (by omega)]
  rw [Cl.sm_cg h1, Cl.one_sm, Cl.vec_at hp (refls_nums hp vs hwn) ((refls_len vs w).trans hw)]
theorem getD_plus {x y : List Int} {k : Int} {i : Nat} (hi : i < x.length) : (plusL p x y k).getD i 0 = (x.getD i 0 + k * y.getD i 0) % p := by
  unfold plusL
  rw [tab_getD hi]
/-- Products of vectors are versors: as lists. -/
theorem versL_vers (hP : isP p = true) (h6 : sq.length ≤ 6) (vs : List (List Int)) (hvs : ∀ v ∈ vs, v.length = sq.length ∧ NumsL p v ∧ bil sq v v % p ≠ 0) :
    versB p sq sq.length (versL p sq sq.length vs) = true ∧ nrmL p sq (versL p sq sq.length vs) = nrmP sq vs % p := by
  have h3 := (isP_ge hP).1
  have hp : 0 < p := by omega
  rw [versL_prod hp (by omega) vs fun v hv => (hvs v hv).2.1]
  exact Cl.prod_vers hP hp h6 vs fun v hv => (hvs v hv).2.2
theorem codeVr_mk {x : List Int} (hsp : isSp p sq = true) (hr : regB sq = true) (hx : x.length = pw sq.length) (hxn : NumsL p x) (hv : versB p sq sq.length x = true) : codeM p sq [x] = 0 ∧ codeR p sq [x] = 0 ∧ codeVr p sq x = 0 := by
  have h1 : codeM p sq [x] = 0 := codeM_mk hsp (fun ys hy => by rw [List.mem_singleton.1 hy]; exact ⟨hx, hxn⟩)
  have h2 : codeR p sq [x] = 0 := by unfold codeR; rw [if_pos h1, hr]; rfl
  exact ⟨h1, h2, by unfold codeVr; rw [if_pos h2, hv]; rfl⟩
end
end Go.Proofs.YtggigolkncckoaaGreat
namespace Go.Proofs.YtggigolkncckoaaGreat
section
variable {p : Int} {sq : List Int}
/-- A multiple of a versor is one. -/
theorem Cl.vers_sm (hP : isP p = true) (hp : 0 < p) (h6 : sq.length ≤ 6) {x : Cl p sq} {k : Int} (hk : k % p ≠ 0) (h : versB p sq sq.length x.l = true) :
    versB p sq sq.length (k * x : Cl p sq).l = true ∧ nrmL p sq (k * x : Cl p sq).l = k * k * nrmL p sq x.l % p := by
  have h3 := (isP_ge hP).1
  obtain ⟨h1, h2, h4, h5⟩ := (Cl.vers_iff hP hp h6 x).1 h
  have hs := nrmL_small (P := p) (by omega) sq x.l
  have e1 : (k * x : Cl p sq) * (k * x).rev = (k * k * nrmL p sq x.l) * Cl.one hp := by
    rw [Cl.rev_sm, Cl.sm_mul, Cl.mul_sm, h2, Cl.sm_sm, Cl.sm_sm]
  have hn : nrmL p sq (k * x : Cl p sq).l = k * k * nrmL p sq x.l % p := by
    rw [Cl.nrm_co, e1, ← Cl.co_mod, Cl.sm_co _ _ (pw_pos _), Int.mul_emod, Cl.one_co hp (pw_pos _), ← Int.mul_emod, if_pos rfl, Int.mul_one]
  refine ⟨(Cl.vers_iff hP hp h6 _).2 ⟨?_, ?_, ?_, fun i hi => ?_⟩, hn⟩
  · rw [hn]
    exact mul_ne hP (mul_ne hP hk hk) (by rw [Int.emod_eq_of_lt hs.1 hs.2]; exact h1)
  · rw [hn, e1]
    exact Cl.sm_cg (Int.emod_emod_of_dvd _ (Int.dvd_refl p)).symm _
  · obtain ⟨c, _, hc, _⟩ := Cl.mix_some h6 x h4
    refine Cl.mix_none hP h6 _ c ?_
    rw [Cl.invo_sm, hc, Cl.sm_sm, Cl.sm_sm, Int.mul_comm]
  · have e2 : (k * x : Cl p sq).invo * Cl.vec hp (unitRow sq.length i) * (k * x).rev = (k * k) * (x.invo * Cl.vec hp (unitRow sq.length i) * x.rev) := by
      rw [Cl.invo_sm, Cl.rev_sm, Cl.sm_mul, Cl.sm_mul, Cl.mul_sm, Cl.sm_sm]
    rw [e2]
    refine (Cl.only_co h6 _ 1).2 fun m hm hne => ?_
    rw [← Cl.co_mod, Cl.sm_co _ _ hm, (Cl.only_co h6 _ 1).1 (h5 i hi) m hm hne, Int.mul_zero, Int.zero_emod]
/-- Two inverses of a number are the same. -/
theorem inv_uniq {p a b c : Int} (hb : a * b % p = 1 % p) (hc : a * c % p = 1 % p) : b % p = c % p := by
  obtain ⟨r, hr⟩ := cg_wit.1 hb
  obtain ⟨s, hs⟩ := cg_wit.1 hc
  exact cg_wit.2 ⟨b * (r - s) - r * (b - c) , by grind⟩
/-- The sandwich of a versor, in the algebra. -/
theorem sand_cl (hp : 0 < p) {x : Cl p sq} {w : List Int} (hwn : NumsL p w) :
    sandL p sq sq.length x.l w = partL sq.length ((invF p (nrmL p sq x.l)) * (x.invo * Cl.vec hp w * x.rev) : Cl p sq).l := by
  unfold sandL vinvL
  rw [← Cl.rev_l, ← Cl.sm_l, ← Cl.invo_l, ← Cl.vec_l hp hwn, ← Cl.mul_l, ← Cl.mul_l, Cl.mul_sm]
theorem inv_one (hP : isP p = true) {a : Int} (h0 : 0 ≤ a ∧ a < p) (ha : a ≠ 0) : a * invF p a % p = 1 % p := by
  have h3 := (isP_ge hP).1
  have := inv_mod hP (a := a) (by rw [Int.emod_eq_of_lt h0.1 h0.2]; exact ha)
  rw [Int.emod_eq_of_lt h0.1 h0.2] at this
  rw [this, Int.emod_eq_of_lt (by omega) (by omega)]
/-- A multiple of a versor has the same sandwich. -/
theorem sand_sm (hP : isP p = true) (hp : 0 < p) (h6 : sq.length ≤ 6) {x : Cl p sq} {k : Int} (hk : k % p ≠ 0) (h : versB p sq sq.length x.l = true) {w : List Int} (hwn : NumsL p w) :
    sandL p sq sq.length (k * x : Cl p sq).l w = sandL p sq sq.length x.l w := by
  have h3 := (isP_ge hP).1
  have hs := nrmL_small (P := p) (by omega) sq x.l
  have h1 := ((Cl.vers_iff hP hp h6 x).1 h).1
  obtain ⟨hv, hn⟩ := Cl.vers_sm hP hp h6 hk h
  have h1' := ((Cl.vers_iff hP hp h6 _).1 hv).1
  have hs' := nrmL_small (P := p) (by omega) sq (k * x : Cl p sq).l
  rw [sand_cl hp hwn, sand_cl hp hwn]
  have e2 : (k * x : Cl p sq).invo * Cl.vec hp w * (k * x).rev = (k * k) * (x.invo * Cl.vec hp w * x.rev) := by
    rw [Cl.invo_sm, Cl.rev_sm, Cl.sm_mul, Cl.sm_mul, Cl.mul_sm, Cl.sm_sm]
  have hi := inv_one hP hs h1
  have hi' := inv_one hP hs' h1'
  rw [e2, Cl.sm_sm]
  congr 2
  refine Cl.sm_cg ?_ _
  refine inv_uniq (a := nrmL p sq x.l) ?_ hi
  obtain ⟨N, hN⟩ : ∃ N, N = nrmL p sq (k * x : Cl p sq).l := ⟨_, rfl⟩
  rw [← hN] at hi' hn ⊢
  obtain ⟨M, hM⟩ : ∃ M, M = nrmL p sq x.l := ⟨_, rfl⟩
  rw [← hM] at hn ⊢
  have hn2 : N % p = k * k * M % p := by rw [hn, cg_self]
  obtain ⟨r, hr⟩ := cg_wit.1 hn2
  obtain ⟨s, hs2⟩ := cg_wit.1 hi'
  exact cg_wit.2 ⟨s - r * invF p N, by grind⟩
theorem Cl.prod_rev (hp : 0 < p) (h6 : sq.length ≤ 6) (vs : List (List Int)) : (Cl.prod hp vs : Cl p sq).rev = Cl.prod hp vs.reverse := by
  induction vs with
  | nil => exact Cl.one_rev hp
  | cons v vs ih => rw [Cl.prod_cons, Cl.rev_mul h6, ih, Cl.vec_rev, List.reverse_cons, Cl.prod_snoc]
/-- What a reflection does to products. -/
theorem bil_plus2 {w v : List Int} (hw : w.length = sq.length) (k : Int) : bil sq (plusL p w v k) (plusL p w v k) % p = (bil sq w w + 2 * k * bil sq v w + k * k * bil sq v v) % p := by
  have e1 : bil sq (plusL p w v k) (plusL p w v k) % p = _ := bil_plus hw k
  have e2 : bil sq (plusL p w v k) w % p = _ := bil_plus hw k
  have e3 : bil sq (plusL p w v k) v % p = _ := bil_plus hw k
  rw [bil_symm sq w, bil_symm sq v] at e1
  rw [bil_symm sq w v] at e3
  obtain ⟨r1, e1⟩ := cg_wit.1 e1
  obtain ⟨r2, e2⟩ := cg_wit.1 e2
  obtain ⟨r3, e3⟩ := cg_wit.1 e3
  exact cg_wit.2 ⟨r1 + r2 + k * r3, by grind⟩
theorem refl_norm (hP : isP p = true) {v w : List Int} (hw : w.length = sq.length) (hv : bil sq v v % p ≠ 0) : bil sq (reflF p sq v w) (reflF p sq v w) % p = bil sq w w % p := by
  have h3 := (isP_ge hP).1
  have hi : bil sq v v * invF p (bil sq v v % p) % p = 1 % p := by rw [inv_mod hP hv, Int.emod_eq_of_lt (by omega) (by omega)]
  unfold reflF
  rw [bil_plus2 hw]
  obtain ⟨k, hk⟩ := cg_wit.1 hi
  obtain ⟨i, hi⟩ : ∃ i, i = invF p (bil sq v v % p) := ⟨_, rfl⟩
  rw [← hi] at hk ⊢
  exact cg_wit.2 ⟨4 * bil sq v w * bil sq v w * i * k, by grind⟩
theorem refl_refl (hP : isP p = true) {v w : List Int} (hw : w.length = sq.length) (hwn : NumsL p w) (hv : bil sq v v % p ≠ 0) : reflF p sq v (reflF p sq v w) = w := by
  have h3 := (isP_ge hP).1
  have hp : 0 < p := by omega
  have hi : bil sq v v * invF p (bil sq v v % p) % p = 1 % p := by rw [inv_mod hP hv, Int.emod_eq_of_lt (by omega) (by omega)]
  obtain ⟨i, hii⟩ : ∃ i, i = invF p (bil sq v v % p) := ⟨_, rfl⟩
  obtain ⟨k, hk⟩ := cg_wit.1 hi
  have hb : bil sq v (reflF p sq v w) % p = (-bil sq v w) % p := by
    have e : bil sq (reflF p sq v w) v % p = (bil sq w v + -(2 * bil sq v w * i) * bil sq v v) % p := by rw [hii]; exact bil_plus hw _
    rw [bil_symm sq w v] at e
    rw [bil_symm sq v, e]
    rw [← hii] at hk
    exact cg_wit.2 ⟨-(2 * bil sq v w * k), by grind⟩
  obtain ⟨m, hm⟩ : ∃ m, m = reflF p sq v w := ⟨_, rfl⟩
  have hml : m.length = sq.length := by rw [hm]; exact reflF_len.trans hw
  rw [← hm] at hb ⊢
  have hc : (-(2 * bil sq v m * invF p (bil sq v v % p))) % p = (2 * bil sq v w * i) % p := by
    rw [← hii]
    obtain ⟨l, hl⟩ := cg_wit.1 hb
    exact cg_wit.2 ⟨-(2 * l * i), by grind⟩
  unfold reflF
  rw [plusL_mod p m _ hc]
  refine list_ext_getD 0 (by rw [plusL_len, hml, hw]) fun j hj => ?_
  rw [plusL_len] at hj
  rw [getD_plus hj]
  obtain ⟨v1, v2⟩ := hwn.getD hp j
  refine cg_eq ⟨Int.emod_nonneg _ (by omega), Int.emod_lt_of_pos _ hp⟩ ⟨v1, v2⟩ ?_
  have e4 : m.getD j 0 = (w.getD j 0 + -(2 * bil sq v w * i) * v.getD j 0) % p := by rw [hm, hii]; unfold reflF; exact getD_plus (by omega)
  rw [cg_self, e4, Int.add_emod, cg_self, ← Int.add_emod]
  congr 1
  grind
theorem refls_norm (hP : isP p = true) (vs : List (List Int)) (hvs : ∀ v ∈ vs, bil sq v v % p ≠ 0) {w : List Int} (hw : w.length = sq.length) : bil sq (refls p sq vs w) (refls p sq vs w) % p = bil sq w w % p := by
  induction vs with
  | nil => rfl
  | cons v vs ih =>
    show bil sq (reflF p sq v (refls p sq vs w)) (reflF p sq v (refls p sq vs w)) % p = _
    rw [refl_norm hP ((refls_len vs w).trans hw) (hvs v (List.mem_cons_self ..)), ih fun u hu => hvs u (List.mem_cons_of_mem _ hu)]
theorem refls_append (a b : List (List Int)) (w : List Int) : refls p sq (a ++ b) w = refls p sq a (refls p sq b w) := by
  unfold refls
  rw [List.foldr_append]
theorem refls_back (hP : isP p = true) (vs : List (List Int)) (hvs : ∀ v ∈ vs, bil sq v v % p ≠ 0) {w : List Int} (hw : w.length = sq.length) (hwn : NumsL p w) : refls p sq vs.reverse (refls p sq vs w) = w := by
  have h3 := (isP_ge hP).1
  induction vs with
  | nil => rfl
  | cons v vs ih =>
    rw [List.reverse_cons, refls_append]
    show refls p sq vs.reverse (reflF p sq v (reflF p sq v (refls p sq vs w))) = w
    rw [refl_refl hP ((refls_len vs w).trans hw) (refls_nums (by omega) vs hwn) (hvs v (List.mem_cons_self ..)), ih fun u hu => hvs u (List.mem_cons_of_mem _ hu)]
theorem rflL_reflF (hP : isP p = true) {u v : List Int} (hu : u.length = sq.length) : rflL p sq u v = reflF p sq u v := by
  have h3 := (isP_ge hP).1
  have h1 := pairL_bil (p := p) (u := v) hu
  have h2 := pairL_bil (p := p) (u := u) hu
  have hs := pairL_small (P := p) (by omega) sq u u
  rw [Int.emod_eq_of_lt hs.1 hs.2] at h2
  unfold rflL reflF
  rw [h2]
  refine plusL_mod p v u ?_
  obtain ⟨k, hk⟩ := cg_wit.1 h1
  exact cg_wit.2 ⟨-(2 * k * invF p (bil sq u u % p)), by grind⟩
/-- A good list of vectors: of the right length, numbers, norms other than 0. -/
def Good (p : Int) (sq : List Int) (L : List (List Int)) : Prop := ∀ v ∈ L, v.length = sq.length ∧ NumsL p v ∧ bil sq v v % p ≠ 0
theorem Good.ne {L : List (List Int)} (h : Good p sq L) : ∀ v ∈ L, bil sq v v % p ≠ 0 := fun v hv => (h v hv).2.2
theorem Good.nums {L : List (List Int)} (h : Good p sq L) : ∀ v ∈ L, NumsL p v := fun v hv => (h v hv).2.1
/-- The inverse of a product of vectors: a versor whose sandwich undoes that of the product. -/
theorem vinv_prod (hP : isP p = true) (h6 : sq.length ≤ 6) {L : List (List Int)} (hL : Good p sq L) :
    versB p sq sq.length (vinvL p sq (versL p sq sq.length L)) = true ∧ (vinvL p sq (versL p sq sq.length L)).length = pw sq.length ∧
    (∀ w, w.length = sq.length → NumsL p w → sandL p sq sq.length (vinvL p sq (versL p sq sq.length L)) (refls p sq L w) = w) ∧
    mulL p sq (versL p sq sq.length L) (vinvL p sq (versL p sq sq.length L)) = bladeL sq.length 0 := by
  have h3 := (isP_ge hP).1
  have hp : 0 < p := by omega
  obtain ⟨hv, hn⟩ := versL_vers hP h6 L hL
  have hs := nrmL_small (P := p) (by omega) sq (versL p sq sq.length L)
  have hn0 : nrmL p sq (versL p sq sq.length L) ≠ 0 := by rw [hn]; exact nrmP_ne hP L hL.ne
  have hi := inv_one hP hs hn0
  obtain ⟨k, hk⟩ : ∃ k, k = invF p (nrmL p sq (versL p sq sq.length L)) := ⟨_, rfl⟩
  have hk0 : k % p ≠ 0 := fun h => by
    rw [← hk, Int.mul_emod, h, Int.mul_zero, Int.zero_emod, Int.emod_eq_of_lt (by omega) (by omega)] at hi
    omega
  have e : vinvL p sq (versL p sq sq.length L) = (k * Cl.prod hp L.reverse : Cl p sq).l := by
    unfold vinvL
    rw [← hk, versL_prod hp (by omega) L hL.nums, ← Cl.rev_l, ← Cl.sm_l, Cl.prod_rev hp h6]
  have hLr : Good p sq L.reverse := fun v hv => hL v (List.mem_reverse.1 hv)
  obtain ⟨hvr, _⟩ := Cl.prod_vers hP hp h6 L.reverse hLr.ne
  refine ⟨?_, ?_, fun w hw hwn => ?_, ?_⟩
  · rw [e]; exact (Cl.vers_sm hP hp h6 hk0 hvr).1
  · rw [e]; exact Cl.len _
  · rw [e, sand_sm hP hp h6 hk0 hvr (refls_nums hp L hwn), ← versL_prod hp (by omega) L.reverse hLr.nums,
      sand_prod hP h6 L.reverse hLr ((refls_len L w).trans hw) (refls_nums hp L hwn), refls_back hP L hL.ne hw hwn]
  · rw [e, versL_prod hp (by omega) L hL.nums, ← Cl.mul_l, Cl.mul_sm, ← Cl.prod_rev hp h6, Cl.prod_norm hp hP h6, Cl.sm_sm]
    have : k * nrmP sq L % p = 1 % p := by
      rw [← hk, hn] at hi
      rw [Int.mul_comm]
      exact (cg_mul (cg_self p _).symm rfl).trans hi
    rw [Cl.sm_cg this, Cl.one_sm, Cl.one_l (by omega)]
/-- A product of vectors is even exactly if they are evenly many. -/
theorem even_prod (hP : isP p = true) (h6 : sq.length ≤ 6) {L : List (List Int)} (hL : Good p sq L) : evenL (versL p sq sq.length L) = decide (L.length % 2 = 0) := by
  have h3 := (isP_ge hP).1
  have hp : 0 < p := by omega
  rw [versL_prod hp (by omega) L hL.nums]
  obtain ⟨x, hx⟩ : ∃ x : Cl p sq, x = Cl.prod hp L := ⟨_, rfl⟩
  have hin := Cl.prod_invo hp L (sq := sq)
  have hnm := Cl.prod_norm hp hP h6 L (sq := sq)
  rw [← hx] at hin hnm ⊢
  rw [← evenL_invo hP h6 x.len x.nums, ← Cl.invo_l]
  by_cases h2 : L.length % 2 = 0
  · have : x.invo = x := by rw [hin, show sg L.length = 1 by unfold sg; rw [if_neg (by omega)], Cl.one_sm]
    rw [this]; simp [h2]
  · rw [decide_eq_false h2, decide_eq_false_iff_not]
    intro h
    have e1 : x = x.invo := Cl.ext h
    rw [hin, show sg L.length = -1 by unfold sg; rw [if_pos (by omega)]] at e1
    have e2 : (nrmP sq L) * (Cl.one hp : Cl p sq) = (-(nrmP sq L)) * Cl.one hp := by
      calc (nrmP sq L) * (Cl.one hp : Cl p sq) = x * x.rev := hnm.symm
        _ = ((-1 : Int) * x) * x.rev := by rw [← e1]
        _ = (-1 : Int) * (x * x.rev) := Cl.sm_mul _ _ _
        _ = (-1 : Int) * ((nrmP sq L) * Cl.one hp) := by rw [hnm]
        _ = _ := by rw [Cl.sm_sm, Int.neg_mul, Int.one_mul]
    have e3 := congrArg (fun y : Cl p sq => y.co 0 % p) e2
    simp only [Cl.sm_co _ _ (pw_pos sq.length)] at e3
    rw [Int.mul_emod, Cl.one_co hp (pw_pos _), ← Int.mul_emod, Int.mul_emod (-nrmP sq L), Cl.one_co hp (pw_pos _), ← Int.mul_emod, if_pos rfl, Int.mul_one, Int.mul_one] at e3
    have hne := nrmP_ne hP L hL.ne
    have hq : 0 ≤ nrmP sq L % p ∧ nrmP sq L % p < p := ⟨Int.emod_nonneg _ (by omega), Int.emod_lt_of_pos _ hp⟩
    refine neg_ne hP hq hne ?_
    rw [cg_self, e3]
    obtain ⟨r, hr⟩ := cg_wit.1 (cg_self p (nrmP sq L)).symm
    exact cg_wit.2 ⟨-r, by grind⟩
end
end Go.Proofs.YtggigolkncckoaaGreat
namespace Go.Proofs.YtggigolkncckoaaGreat
open Go.RowKit
/-- Has no vector the norm 0? -/
def noneZ (P : Int) (sq : List Int) (L : List (List Int)) : Bool := !(L.any fun v => decide (pairL P sq v v = 0))
/-- The code of VersorOf. -/
def codeVo (P : Int) (sq : List Int) (L : List (List Int)) : Int := if codeLs P sq L = 0 then (if regB sq && noneZ P sq L then 0 else 5) else codeLs P sq L
/-- VersorOf. -/
def voR (P : Int) (sq : List Int) (L : List (List Int)) : List Int × Int := if codeVo P sq L = 0 then (versL P sq sq.length L, 0) else ([], codeVo P sq L)
theorem voR_ok {P : Int} {sq : List Int} {L : List (List Int)} (h : codeVo P sq L = 0) : voR P sq L = (versL P sq sq.length L, 0) := by unfold voR; rw [if_pos h]
theorem voR_bad {P : Int} {sq : List Int} {L : List (List Int)} (h : ¬ codeVo P sq L = 0) : voR P sq L = ([], codeVo P sq L) := by unfold voR; rw [if_neg h]
theorem codeLs_zero {P : Int} {sq : List Int} {L : List (List Int)} (h : codeLs P sq L = 0) : codeV P sq L = 0 ∧ L.length ≤ 16 := by
  unfold codeLs at h
  by_cases h1 : codeV P sq L = 0
  · rw [if_pos h1] at h
    by_cases h2 : 16 < L.length
    · rw [if_pos h2] at h; exact absurd h (by decide)
    · exact ⟨h1, by omega⟩
  · rw [if_neg h1] at h; exact absurd h h1
theorem codeVo_zero {P : Int} {sq : List Int} {L : List (List Int)} (h : codeVo P sq L = 0) : codeV P sq L = 0 ∧ L.length ≤ 16 ∧ regB sq = true ∧ ∀ v ∈ L, ¬ pairL P sq v v = 0 := by
  unfold codeVo at h
  by_cases h1 : codeLs P sq L = 0
  · rw [if_pos h1] at h
    cases h2 : regB sq && noneZ P sq L
    · rw [h2] at h; exact absurd h (by decide)
    · rw [Bool.and_eq_true] at h2
      obtain ⟨h3, h4⟩ := codeLs_zero h1
      refine ⟨h3, h4, h2.1, fun v hv h5 => ?_⟩
      have h6 := h2.2
      unfold noneZ at h6
      rw [List.any_eq_true.2 ⟨v, hv, by simp [h5]⟩] at h6
      cases h6
  · rw [if_neg h1] at h; exact absurd h h1
set_option maxHeartbeats 800000 in
theorem zeroNorm (P : Int) (n : Nat) (g : Nat) (A : Option Addr) (c : Nat) (sq : List Int) (w : World) (hp : 2 ≤ P) (hp2 : P ≤ 13) (hn : n ≤ 6) (ha : Rd w A n (ints sq)) (hs : NumsL P sq) (hk : Blk w g 26 #[.int .i64 P, .slice A n c]) :
    Tells 169 #[.pointer (some ⟨g, 0, none⟩)] w (fun v => decide (pairL P sq v v = 0)) (fun v => v.length = n ∧ NumsL P v) := by
  intro w' D m d ys hb hr hm
  have hyl : ys.length = m := hr.lenI
  obtain ⟨hm1, hm2⟩ := hm
  obtain rfl : m = n := by omega
  have HN := Lib.hid hm2
  have k0 := hk.below hb hk.lt
  obtain ⟨q0, q1⟩ := k0.two
  clear hyl hm1 hm2
  have hno := norm_any P A m c sq D d ys w' hp hp2 hn (ha.below hb) hs hr HN.out
  obtain ⟨a, ha'⟩ : ∃ a, a = pairL P sq ys ys := ⟨_, rfl⟩
  rw [← ha'] at hno
  have HAV := Lib.hid ha'
  clear ha'
  simp only [List.append_toArray, List.cons_append, List.nil_append]
  go_enter Tryz.func169, Tryz.ntmps169
  go_wp2_with fail
  refine hno.mono ?_
  rintro e w1 ⟨rfl, hb1⟩
  go_wp2
  go_ret
  exact ⟨ret_bool (by rw [← HAV.out]; by_cases h : a = 0 <;> simp [h]), hb1⟩
set_option maxHeartbeats 3200000 in
set_option maxRecDepth 8000 in
theorem VersorOf_any (P : Int) (A : Option Addr) (n c : Nat) (sq : List Int) (B : Option Addr) (m d : Nat) (L : List (List Int)) (w : World) (hn : n ≤ 1048576) (hm : m ≤ 1048576) (ha : Rd w A n (ints sq)) (hb : RdII w B m L) (hL : ∀ ys ∈ L, ys.length ≤ 1048576) :
    Calls Tryz.prog 40 #[.agg #[.int .i64 P, .slice A n c], .slice B m d] w fun e w' => ∃ (A' : Option Addr) (k c' : Nat), e = .returned (.tuple #[.slice A' k c', .int .i64 (voR P sq L).2]) ∧ MkI w w' A' k c' (voR P sq L).1 := by
  have hreg := checkList_any P A n c sq B m d L (w.alloc (.cells #[.int .i64 P, .slice A n c] 26)) hn hm (ha.below ((Below.refl _ _).alloc (Nat.le_refl _) _)) (hb.below ((Below.refl _ _).alloc (Nat.le_refl _) _)) hL
  have hB0 : Below w.heap.size w (w.alloc (.cells #[.int .i64 P, .slice A n c] 26)) := (Below.refl _ _).alloc (Nat.le_refl _) _
  have k0 : Blk (w.alloc (.cells #[.int .i64 P, .slice A n c] 26)) w.heap.size 26 #[.int .i64 P, .slice A n c] := Blk.new _ _ _
  have hsl := ha.lenI
  by_cases hr0 : codeLs P sq L = 0
  · rw [hr0] at hreg
    have HR0 := Lib.hid hr0
    obtain ⟨hcv, -⟩ := codeLs_zero hr0
    obtain ⟨HP, hp, hp2, hd1, hd2, hs0, hvs⟩ := codeV_spec hcv
    have HT : Hid (Tab P n L) := Lib.hid (fun v hv => by rw [← hsl]; exact hvs v hv)
    have HSQ := Lib.hid hs0
    have HSL := Lib.hid hsl
    have hn6 : n ≤ 6 := by omega
    have hn0 : 0 < n := by omega
    have HPP := Lib.hid HP
    have HM16 : Hid (m ≤ 16) := Lib.hid (by rw [← hb.len]; exact (codeLs_zero hr0).2)
    have hrg := fun (w' : World) (h : Below w.heap.size w w') => regular_any P A n c sq w' hn (ha.below h)
    clear hr0 hcv hd1 hd2 hs0 hvs hsl HP
    obtain ⟨rb, hrb⟩ : ∃ b, b = regB sq := ⟨_, rfl⟩
    rw [← hrb] at hrg
    have HRB := Lib.hid hrb
    clear hrb
    obtain ⟨q0, q1⟩ := k0.two
    cases rb
    · have HC : Hid (codeVo P sq L = 5) := Lib.hid (by unfold codeVo; rw [if_pos HR0.out, ← HRB.out]; rfl)
      go_enter Tryz.func40, Tryz.ntmps40
      go_wp2_with fail
      refine hreg.mono ?_
      rintro e w2 ⟨rfl, hb2⟩
      have hB2 := hB0.trans (hb2.mono hB0.size)
      have k2 := k0.below hb2 k0.lt
      clear q0 q1 hreg
      obtain ⟨q0, q1⟩ := k2.two
      go_wp2_with fail
      refine (hrg _ hB2).mono ?_
      rintro e w3 ⟨rfl, hb3⟩
      go_wp2
      go_ret2
      exact noRow3 (by rw [voR_bad (by rw [HC.out]; decide), HC.out]) (hB2.trans (hb3.mono hB2.size))
    · obtain ⟨zb, hzb⟩ : ∃ b, b = (L.any fun v => decide (pairL P sq v v = 0)) := ⟨_, rfl⟩
      have HC : Hid (codeVo P sq L = if zb then 5 else 0) := Lib.hid (by unfold codeVo noneZ; rw [if_pos HR0.out, ← HRB.out, ← hzb]; cases zb <;> rfl)
      have hLN : ∀ v ∈ L, v.length = n ∧ NumsL P v := HT.out
      go_enter Tryz.func40, Tryz.ntmps40
      go_wp2_with fail
      refine hreg.mono ?_
      rintro e w2 ⟨rfl, hb2⟩
      have hB2 := hB0.trans (hb2.mono hB0.size)
      have k2 := k0.below hb2 k0.lt
      clear q0 q1 hreg
      obtain ⟨q0, q1⟩ := k2.two
      go_wp2_with fail
      refine (hrg _ hB2).mono ?_
      rintro e w3 ⟨rfl, hb3⟩
      have hB3 := hB2.trans (hb3.mono hB2.size)
      have k3 := k2.below hb3 k2.lt
      have hT := zeroNorm P n w.heap.size A c sq w3 hp hp2 hn6 (ha.below hB3) HSQ.out k3
      have hcf := ContainsFunc_any 169 ⟨w.heap.size, 0, none⟩ _ _ B m d L w3 (by omega) (hb.below hB3) hLN hT (fun _ _ => rfl)
      rw [← hzb] at hcf
      clear q0 q1 hb3 hb2 k2 hB2 hrg hT hLN hzb
      obtain ⟨q0, q1⟩ := k3.two
      go_wp2_with fail
      refine hcf.mono ?_
      rintro e w4 ⟨rfl, hb4⟩
      have hB4 := hB3.trans (hb4.mono hB3.size)
      have k4 := k3.below hb4 k3.lt
      clear q0 q1 hcf
      cases zb
      · obtain ⟨q0, q1⟩ := k4.two
        have hve := versor_any P A n c sq B m d L w4 HPP.out hn6 hn0 (by have := HM16.out; omega) (ha.below hB4) HSQ.out (hb.below hB4) HT.out
        go_wp2_with fail
        refine hve.mono ?_
        rintro e w5 ⟨A5, c5, rfl, hM5⟩
        go_wp2
        go_ret2
        exact ⟨A5, pw n, c5, (by rw [voR_ok HC.out]; first | done | rfl), by rw [voR_ok HC.out, HSL.out]; exact hM5.after hB4⟩
      · go_wp2
        go_ret2
        exact noRow3 (by rw [voR_bad (by rw [HC.out]; decide), HC.out]; rfl) hB4
  · obtain ⟨r, hr⟩ : ∃ r, r = codeLs P sq L := ⟨_, rfl⟩
    have HC : Hid (codeVo P sq L = r) := Lib.hid (by unfold codeVo; rw [if_neg hr0, hr])
    have HRN : Hid (¬ r = 0) := Lib.hid (by rw [hr]; exact hr0)
    have b0 : (r != 0) = true := code_ne (by rw [hr]; exact hr0)
    rw [← hr] at hreg
    obtain ⟨q0, q1⟩ := k0.two
    clear hr hr0 hsl
    go_enter Tryz.func40, Tryz.ntmps40
    go_wp2_with fail
    refine hreg.mono ?_
    rintro e w2 ⟨rfl, hb2⟩
    go_wp2
    go_ret2
    exact noRow3 (by rw [voR_bad (by rw [HC.out]; exact HRN.out), HC.out]) (hB0.trans (hb2.mono hB0.size))
set_option maxHeartbeats 6400000 in
set_option maxRecDepth 8000 in
theorem specVersorOf_any (P : Int) (A : Option Addr) (n c : Nat) (sq : List Int) (B : Option Addr) (m d : Nat) (L : List (List Int)) (w : World) (hn : n ≤ 1048576) (hm : m ≤ 1048576) (ha : Rd w A n (ints sq)) (hb : RdII w B m L) (hL : ∀ ys ∈ L, ys.length ≤ 1048576) :
    Calls Tryz.prog 41 #[.agg #[.int .i64 P, .slice A n c], .slice B m d] w fun e w' => ∃ (A' : Option Addr) (k c' : Nat), e = .returned (.tuple #[.slice A' k c', .int .i64 (voR P sq L).2]) ∧ MkI w w' A' k c' (voR P sq L).1 := by
  have hreg := l05List_any P A n c sq B m d L (w.alloc (.cells #[.int .i64 P, .slice A n c] 26)) hn hm (ha.below ((Below.refl _ _).alloc (Nat.le_refl _) _)) (hb.below ((Below.refl _ _).alloc (Nat.le_refl _) _)) hL
  have hB0 : Below w.heap.size w (w.alloc (.cells #[.int .i64 P, .slice A n c] 26)) := (Below.refl _ _).alloc (Nat.le_refl _) _
  have k0 : Blk (w.alloc (.cells #[.int .i64 P, .slice A n c] 26)) w.heap.size 26 #[.int .i64 P, .slice A n c] := Blk.new _ _ _
  have hsl := ha.lenI
  by_cases hr0 : codeLs P sq L = 0
  · rw [hr0] at hreg
    have HR0 := Lib.hid hr0
    obtain ⟨hcv, -⟩ := codeLs_zero hr0
    obtain ⟨HP, hp, hp2, hd1, hd2, hs0, hvs⟩ := codeV_spec hcv
    have HT : Hid (Tab P n L) := Lib.hid (fun v hv => by rw [← hsl]; exact hvs v hv)
    have HSQ := Lib.hid hs0
    have HSL := Lib.hid hsl
    have hn6 : n ≤ 6 := by omega
    have hn0 : 0 < n := by omega
    have HPP := Lib.hid HP
    have HM16 : Hid (m ≤ 16) := Lib.hid (by rw [← hb.len]; exact (codeLs_zero hr0).2)
    have hdi := fun (w' : World) (h : Below w.heap.size w w') => l03Disc_any P A n c sq w' hp hp2 hn (ha.below h) HSQ.out
    have hdz := disc_reg HP hs0
    rw [hsl] at hdz
    clear hr0 hcv hd1 hd2 hs0 hvs hsl HP
    obtain ⟨rb, hrb⟩ : ∃ b, b = regB sq := ⟨_, rfl⟩
    rw [← hrb] at hdz
    have HRB := Lib.hid hrb
    have HML := Lib.hid hb.len
    obtain ⟨dt, hdt⟩ : ∃ x, x = discT P sq n := ⟨_, rfl⟩
    rw [← hdt] at hdi hdz
    clear hrb hdt
    obtain ⟨q0, q1⟩ := k0.two
    go_enter Tryz.func41, Tryz.ntmps41
    go_wp2_with fail
    refine hreg.mono ?_
    rintro e w2 ⟨rfl, hb2⟩
    have hB2 := hB0.trans (hb2.mono hB0.size)
    have k2 := k0.below hb2 k0.lt
    clear q0 q1 hreg
    obtain ⟨q0, q1⟩ := k2.two
    go_wp2_with fail
    refine (hdi _ hB2).mono ?_
    rintro e w3 ⟨rfl, hb3⟩
    have hB3 := hB2.trans (hb3.mono hB2.size)
    have k3 := k2.below hb3 k2.lt
    clear q0 q1 hdi k2 hB2 hb2 hb3 k0 hB0
    cases rb
    all_goals simp only [Bool.not_true, Bool.not_false] at hdz
    all_goals go_wp2
    · go_loopw [6, 7] (fun cc i wr => ∃ (k : Nat), k ≤ m ∧ i = .int .i64 k ∧ cc = .int .i64 5 ∧ Below w.heap.size w wr) (fun _ i _ => m - (intOf i).toNat)
      case atStart => exact ⟨0, by omega, rfl, rfl, hB3⟩
      case round =>
        obtain ⟨k, hk, rfl, rfl, hB2⟩ := hrel
        have HC : Hid (codeVo P sq L = 5) := Lib.hid (by unfold codeVo; rw [if_pos HR0.out, ← HRB.out]; rfl)
        clear k3 hB3
        by_cases hlt : k < m
        · have t1 : decide ((k : Int) < (m : Int)) = true := by simp; omega
          go_wp2
          go_ret2
          exact noRow3 (by rw [voR_bad (by rw [HC.out]; decide), HC.out]) hB2
        · have t1 : decide ((k : Int) < (m : Int)) = false := by simp; omega
          go_wp2
          go_ret2
          exact noRow3 (by rw [voR_bad (by rw [HC.out]; decide), HC.out]) hB2
    · go_loopw [6, 7] (fun cc i wr => ∃ (k : Nat) (cv : Int), k ≤ m ∧ i = .int .i64 k ∧ cc = .int .i64 cv ∧ (cv = 0 ∨ cv = 5) ∧ (cv = 0 ↔ ∀ v ∈ L.take k, ¬ pairL P sq v v = 0) ∧ Blk wr w.heap.size 26 #[.int .i64 P, .slice A n c] ∧ Below w.heap.size w wr) (fun _ i _ => m - (intOf i).toNat)
      case atStart => exact ⟨0, 0, by omega, rfl, rfl, .inl rfl, by simp, k3, hB3⟩
      case round =>
        obtain ⟨k, cv, hk, rfl, rfl, hcv, hiff, k2, hB2⟩ := hrel
        clear k3 hB3
        rcases hcv with rfl | rfl
        · have HOK := Lib.hid (hiff.1 rfl)
          clear hiff
          by_cases hlt : k < m
          · obtain ⟨g, o, rfl, hxk, A1, c1', hcx, hr, hcc⟩ := (hb.below hB2).at_ hlt
            have HRN := Lib.hid (HT.out L[k] (List.getElem_mem hxk))
            have HTK := Lib.hid (List.take_succ_eq_append_getElem hxk)
            have hl1 := HRN.out.1
            rw [hl1] at hcx hr
            obtain ⟨v, hv⟩ : ∃ v, v = L[k] := ⟨_, rfl⟩
            rw [← hv] at HRN hr HTK
            have HPR := Lib.hid fun (w' : World) (h : Below wr.heap.size wr w') => l03Pair_any P A n c sq A1 c1' v A1 c1' v w' hp hp2 hn6 ((ha.below hB2).below h) HSQ.out (hr.below h) HRN.out.2 (hr.below h) HRN.out.2
            obtain ⟨a, ha'⟩ : ∃ a, a = pairL P sq v v := ⟨_, rfl⟩
            rw [← ha'] at HPR
            have HAV := Lib.hid ha'
            have b1 : (0 : Int) ≤ (k : Int) := by omega
            have b2 : (k : Int) < (m : Int) := by omega
            obtain ⟨q0, q1⟩ := k2.two
            clear hl1 hr hcc hv hxk ha'
            go_wp2
            refine wp_obs 11 [[], [], [], [1, 2], [1, 2, 3], [], [], [5, 6], [5, 6, 7], [0, 1, 2, 3, 4, 5, 6, 7, 8], [0, 1, 2, 3, 4, 5, 6, 7, 8, 9]] [VIs (.agg #[.int .i64 P, .slice A n c]), VIs (.slice (some ⟨g, o, none⟩) m d), VIs (.int .i64 (k)), VIs (.pointer (some ⟨g, o + k, none⟩)), VIs (.slice A1 n c1'), VIs (.slice (some ⟨g, o, none⟩) m d), VIs (.int .i64 (k)), VIs (.pointer (some ⟨g, o + k, none⟩)), VIs (.slice A1 n c1'), VIs (.int .i64 (a)), VIs (.bool (a == 0))] (fun w' => w'.cell? ⟨g, o + k, none⟩ = some (.slice A1 n c1') ∧ Blk w' w.heap.size 26 #[.int .i64 P, .slice A n c] ∧ Below wr.heap.size wr w') (by kernel_rfl) (by kernel_rfl) (fun _ _ h hb => ⟨(hb.cell (World.block_lt_of_cell? _ _ h.1)).trans h.1, h.2.1.below hb h.2.1.lt, h.2.2.trans (hb.mono h.2.2.size)⟩) (⟨hcx, k2.drew, (Below.refl _ _).drew⟩) (fun x => ?_)
            refine obs_step (Eq.trans (by simp only [List.getElem?_toArray, List.getElem?_cons_zero]; exact rfl) rfl) rfl (fun w' hS hV K hK => ?_) ?_
            · have q2 := hS.1; obtain ⟨q0, q1⟩ := hS.2.1.two
              go_simp
              exact hK.out _ _ _ rfl rfl rfl (Below.refl _ _)
            simp only [List.setIfInBounds_toArray, List.set_cons_zero, List.set_cons_succ]
            refine obs_step (Eq.trans (by simp only [List.getElem?_toArray, List.getElem?_cons_succ, List.getElem?_cons_zero]; exact rfl) rfl) rfl (fun w' hS hV K hK => ?_) ?_
            · have q2 := hS.1; obtain ⟨q0, q1⟩ := hS.2.1.two
              go_simp
              exact hK.out _ _ _ rfl rfl rfl (Below.refl _ _)
            simp only [List.setIfInBounds_toArray, List.set_cons_zero, List.set_cons_succ]
            refine obs_step (Eq.trans (by simp only [List.getElem?_toArray, List.getElem?_cons_succ, List.getElem?_cons_zero]; exact rfl) rfl) rfl (fun w' hS hV K hK => ?_) ?_
            · have q2 := hS.1; obtain ⟨q0, q1⟩ := hS.2.1.two
              go_simp
              exact hK.out _ _ _ rfl rfl rfl (Below.refl _ _)
            simp only [List.setIfInBounds_toArray, List.set_cons_zero, List.set_cons_succ]
            refine obs_step (Eq.trans (by simp only [List.getElem?_toArray, List.getElem?_cons_succ, List.getElem?_cons_zero]; exact rfl) rfl) rfl (fun w' hS hV K hK => ?_) ?_
            · have e1 : x 1 = (.slice (some ⟨g, o, none⟩) m d) := hV 1 (by decide)
              have e2 : x 2 = (.int .i64 (k)) := hV 2 (by decide)
              have q2 := hS.1; obtain ⟨q0, q1⟩ := hS.2.1.two
              go_simp
              exact hK.out _ _ _ rfl rfl rfl (Below.refl _ _)
            simp only [List.setIfInBounds_toArray, List.set_cons_zero, List.set_cons_succ]
            refine obs_step (Eq.trans (by simp only [List.getElem?_toArray, List.getElem?_cons_succ, List.getElem?_cons_zero]; exact rfl) rfl) rfl (fun w' hS hV K hK => ?_) ?_
            · have e1 : x 1 = (.slice (some ⟨g, o, none⟩) m d) := hV 1 (by decide)
              have e2 : x 2 = (.int .i64 (k)) := hV 2 (by decide)
              have e3 : x 3 = (.pointer (some ⟨g, o + k, none⟩)) := hV 3 (by decide)
              have q2 := hS.1; obtain ⟨q0, q1⟩ := hS.2.1.two
              go_simp
              exact hK.out _ _ _ rfl rfl rfl (Below.refl _ _)
            simp only [List.setIfInBounds_toArray, List.set_cons_zero, List.set_cons_succ]
            refine obs_step (Eq.trans (by simp only [List.getElem?_toArray, List.getElem?_cons_succ, List.getElem?_cons_zero]; exact rfl) rfl) rfl (fun w' hS hV K hK => ?_) ?_
            · have q2 := hS.1; obtain ⟨q0, q1⟩ := hS.2.1.two
              go_simp
              exact hK.out _ _ _ rfl rfl rfl (Below.refl _ _)
            simp only [List.setIfInBounds_toArray, List.set_cons_zero, List.set_cons_succ]
            refine obs_step (Eq.trans (by simp only [List.getElem?_toArray, List.getElem?_cons_succ, List.getElem?_cons_zero]; exact rfl) rfl) rfl (fun w' hS hV K hK => ?_) ?_
            · have q2 := hS.1; obtain ⟨q0, q1⟩ := hS.2.1.two
              go_simp
              exact hK.out _ _ _ rfl rfl rfl (Below.refl _ _)
            simp only [List.setIfInBounds_toArray, List.set_cons_zero, List.set_cons_succ]
            refine obs_step (Eq.trans (by simp only [List.getElem?_toArray, List.getElem?_cons_succ, List.getElem?_cons_zero]; exact rfl) rfl) rfl (fun w' hS hV K hK => ?_) ?_
            · have e5 : x 5 = (.slice (some ⟨g, o, none⟩) m d) := hV 5 (by decide)
              have e6 : x 6 = (.int .i64 (k)) := hV 6 (by decide)
              have q2 := hS.1; obtain ⟨q0, q1⟩ := hS.2.1.two
              go_simp
              exact hK.out _ _ _ rfl rfl rfl (Below.refl _ _)
            simp only [List.setIfInBounds_toArray, List.set_cons_zero, List.set_cons_succ]
            refine obs_step (Eq.trans (by simp only [List.getElem?_toArray, List.getElem?_cons_succ, List.getElem?_cons_zero]; exact rfl) rfl) rfl (fun w' hS hV K hK => ?_) ?_
            · have e5 : x 5 = (.slice (some ⟨g, o, none⟩) m d) := hV 5 (by decide)
              have e6 : x 6 = (.int .i64 (k)) := hV 6 (by decide)
              have e7 : x 7 = (.pointer (some ⟨g, o + k, none⟩)) := hV 7 (by decide)
              have q2 := hS.1; obtain ⟨q0, q1⟩ := hS.2.1.two
              go_simp
              exact hK.out _ _ _ rfl rfl rfl (Below.refl _ _)
            simp only [List.setIfInBounds_toArray, List.set_cons_zero, List.set_cons_succ]
            refine obs_step (Eq.trans (by simp only [List.getElem?_toArray, List.getElem?_cons_succ, List.getElem?_cons_zero]; exact rfl) rfl) rfl (fun w' hS hV K hK => ?_) ?_
            · have e0 : x 0 = (.agg #[.int .i64 P, .slice A n c]) := hV 0 (by decide)
              have e1 : x 1 = (.slice (some ⟨g, o, none⟩) m d) := hV 1 (by decide)
              have e2 : x 2 = (.int .i64 (k)) := hV 2 (by decide)
              have e3 : x 3 = (.pointer (some ⟨g, o + k, none⟩)) := hV 3 (by decide)
              have e4 : x 4 = (.slice A1 n c1') := hV 4 (by decide)
              have e5 : x 5 = (.slice (some ⟨g, o, none⟩) m d) := hV 5 (by decide)
              have e6 : x 6 = (.int .i64 (k)) := hV 6 (by decide)
              have e7 : x 7 = (.pointer (some ⟨g, o + k, none⟩)) := hV 7 (by decide)
              have e8 : x 8 = (.slice A1 n c1') := hV 8 (by decide)
              have q2 := hS.1; obtain ⟨q0, q1⟩ := hS.2.1.two
              go_simp
              refine (HPR.out _ hS.2.2).mono ?_
              rintro e v1 ⟨rfl, hb⟩
              exact hK.out _ _ _ rfl rfl rfl hb
            simp only [List.setIfInBounds_toArray, List.set_cons_zero, List.set_cons_succ]
            refine obs_step (Eq.trans (by simp only [List.getElem?_toArray, List.getElem?_cons_succ, List.getElem?_cons_zero]; exact rfl) rfl) rfl (fun w' hS hV K hK => ?_) ?_
            · have e0 : x 0 = (.agg #[.int .i64 P, .slice A n c]) := hV 0 (by decide)
              have e1 : x 1 = (.slice (some ⟨g, o, none⟩) m d) := hV 1 (by decide)
              have e2 : x 2 = (.int .i64 (k)) := hV 2 (by decide)
              have e3 : x 3 = (.pointer (some ⟨g, o + k, none⟩)) := hV 3 (by decide)
              have e4 : x 4 = (.slice A1 n c1') := hV 4 (by decide)
              have e5 : x 5 = (.slice (some ⟨g, o, none⟩) m d) := hV 5 (by decide)
              have e6 : x 6 = (.int .i64 (k)) := hV 6 (by decide)
              have e7 : x 7 = (.pointer (some ⟨g, o + k, none⟩)) := hV 7 (by decide)
              have e8 : x 8 = (.slice A1 n c1') := hV 8 (by decide)
              have e9 : x 9 = (.int .i64 (a)) := hV 9 (by decide)
              have q2 := hS.1; obtain ⟨q0, q1⟩ := hS.2.1.two
              go_simp
              exact hK.out _ _ _ rfl rfl rfl (Below.refl _ _)
            simp only [List.setIfInBounds_toArray, List.set_cons_zero, List.set_cons_succ]
            refine fun w' hS hV => ?_
            have e0 : x 0 = (.agg #[.int .i64 P, .slice A n c]) := hV 0 (by decide)
            have e1 : x 1 = (.slice (some ⟨g, o, none⟩) m d) := hV 1 (by decide)
            have e2 : x 2 = (.int .i64 (k)) := hV 2 (by decide)
            have e3 : x 3 = (.pointer (some ⟨g, o + k, none⟩)) := hV 3 (by decide)
            have e4 : x 4 = (.slice A1 n c1') := hV 4 (by decide)
            have e5 : x 5 = (.slice (some ⟨g, o, none⟩) m d) := hV 5 (by decide)
            have e6 : x 6 = (.int .i64 (k)) := hV 6 (by decide)
            have e7 : x 7 = (.pointer (some ⟨g, o + k, none⟩)) := hV 7 (by decide)
            have e8 : x 8 = (.slice A1 n c1') := hV 8 (by decide)
            have e9 : x 9 = (.int .i64 (a)) := hV 9 (by decide)
            have e10 : x 10 = (.bool (a == 0)) := hV 10 (by decide)
            simp only [e0, e1, e2, e3, e4, e5, e6, e7, e8, e9, e10]
            clear e0 e1 e2 e3 e4 e5 e6 e7 e8 e9 e10
            refine wpAny_done (by kernel_rfl) ?_ _
            obtain ⟨_, k3, hB3⟩ := hS
            obtain ⟨w3, rfl⟩ : ∃ W, W = w' := ⟨_, rfl⟩
            have hB4 := hB2.trans (hB3.mono hB2.size)
            clear hB3 hB2 k2 hcx q0 q1 HPR
            by_cases ha0 : a = 0
            · have e9 : (a == 0) = true := by simp [ha0]
              have HNI : Hid (¬ ∀ u ∈ L.take (k + 1), ¬ pairL P sq u u = 0) := Lib.hid (fun h => h v (by rw [HTK.out]; simp) (HAV.out.symm.trans ha0))
              clear ha0
              go_wp2
              go_roundw
              case rel => exact ⟨k + 1, 5, by omega, by go_num, rfl, .inr rfl, ⟨fun h => absurd h (by decide), fun h => absurd h HNI.out⟩, k3, hB4⟩
              case measure => simp [intOf]; omega
            · have e9 : (a == 0) = false := by simp [ha0]
              have HNI : Hid (∀ u ∈ L.take (k + 1), ¬ pairL P sq u u = 0) := Lib.hid (fun u hu => by
                rw [HTK.out] at hu
                rcases List.mem_append.1 hu with hu | hu
                · exact HOK.out u hu
                · rw [List.mem_singleton.1 hu, ← HAV.out]; exact ha0)
              clear ha0
              go_wp2
              go_roundw
              case rel => exact ⟨k + 1, 0, by omega, by go_num, rfl, .inl rfl, ⟨fun _ => HNI.out, fun _ => rfl⟩, k3, hB4⟩
              case measure => simp [intOf]; omega
          · have HZ : Hid (noneZ P sq L = true) := Lib.hid (by
              have h2 := HOK.out
              rw [List.take_of_length_le (by rw [HML.out]; omega)] at h2
              unfold noneZ
              rw [Bool.not_eq_true', ← Bool.not_eq_true, List.any_eq_true]
              rintro ⟨v, hv, hh⟩
              exact h2 v hv (by simpa using hh))
            have HC : Hid (codeVo P sq L = 0) := Lib.hid (by unfold codeVo; rw [if_pos HR0.out, ← HRB.out, HZ.out]; rfl)
            have t1 : decide ((k : Int) < (m : Int)) = false := by simp; omega
            have hve := l07Versor_any P A n c sq B m d L wr HPP.out hn6 hn0 (by have := HM16.out; omega) (ha.below hB2) HSQ.out (hb.below hB2) HT.out
            obtain ⟨q0, q1⟩ := k2.two
            go_wp2_with fail
            refine hve.mono ?_
            rintro e w5 ⟨A5, c5, rfl, hM5⟩
            go_wp2
            go_ret2
            exact ⟨A5, pw n, c5, (by rw [voR_ok HC.out]; first | done | rfl), by rw [voR_ok HC.out, HSL.out]; exact hM5.after hB2⟩
        · have HZ : Hid (noneZ P sq L = false) := Lib.hid (by
            cases h1 : noneZ P sq L
            · rfl
            · have h3 : ∀ v ∈ L.take k, ¬ pairL P sq v v = 0 := fun v hv h5 => by
                unfold noneZ at h1
                rw [List.any_eq_true.2 ⟨v, List.mem_of_mem_take hv, by simp [h5]⟩] at h1
                cases h1
              exact absurd (hiff.2 h3) (by decide))
          have HC : Hid (codeVo P sq L = 5) := Lib.hid (by unfold codeVo; rw [if_pos HR0.out, ← HRB.out, HZ.out]; rfl)
          clear hiff
          by_cases hlt : k < m
          · have t1 : decide ((k : Int) < (m : Int)) = true := by simp; omega
            go_wp2
            go_ret2
            exact noRow3 (by rw [voR_bad (by rw [HC.out]; decide), HC.out]) hB2
          · have t1 : decide ((k : Int) < (m : Int)) = false := by simp; omega
            go_wp2
            go_ret2
            exact noRow3 (by rw [voR_bad (by rw [HC.out]; decide), HC.out]) hB2
  · obtain ⟨r, hr⟩ : ∃ r, r = codeLs P sq L := ⟨_, rfl⟩
    have HC : Hid (codeVo P sq L = r) := Lib.hid (by unfold codeVo; rw [if_neg hr0, hr])
    have HRN : Hid (¬ r = 0) := Lib.hid (by rw [hr]; exact hr0)
    have b0 : (r != 0) = true := code_ne (by rw [hr]; exact hr0)
    have b1 : (r == 0) = false := by simp; rw [hr]; exact hr0
    rw [← hr] at hreg
    obtain ⟨q0, q1⟩ := k0.two
    clear hr hr0 hsl
    go_enter Tryz.func41, Tryz.ntmps41
    go_wp2_with fail
    refine hreg.mono ?_
    rintro e w2 ⟨rfl, hb2⟩
    have hB2 := hB0.trans (hb2.mono hB0.size)
    clear hreg q0 q1 hB0 hb2 k0
    go_wp2
    go_loopw [6, 7] (fun cc i wr => ∃ (k : Nat), k ≤ m ∧ i = .int .i64 k ∧ cc = .int .i64 r ∧ Below w.heap.size w wr) (fun _ i _ => m - (intOf i).toNat)
    case atStart => exact ⟨0, by omega, rfl, rfl, hB2⟩
    case round =>
      obtain ⟨k, hk, rfl, rfl, hB3⟩ := hrel
      clear hB2
      by_cases hlt : k < m
      · have t1 : decide ((k : Int) < (m : Int)) = true := by simp; omega
        go_wp2
        go_ret2
        exact noRow3 (by rw [voR_bad (by rw [HC.out]; exact HRN.out), HC.out]) hB3
      · have t1 : decide ((k : Int) < (m : Int)) = false := by simp; omega
        go_wp2
        go_ret2
        exact noRow3 (by rw [voR_bad (by rw [HC.out]; exact HRN.out), HC.out]) hB3
set_option maxHeartbeats 1600000 in
theorem SpinorNormOf_ok (P : Int) (A : Option Addr) (n c : Nat) (sq : List Int) (X : Option Addr) (cx : Nat) (xs : List Int) (w : World) (hsp : isSp P sq = true) (hreg : regB sq = true) (ha : Rd w A n (ints sq)) (hx : Rd w X (pw n) (ints xs)) (hcx : pw n ≤ cx) (hv : NumsL P xs) :
    Calls Tryz.prog 42 #[.agg #[.int .i64 P, .slice A n c], .slice X (pw n) cx] w fun e w' => e = .returned (.tuple #[.int .i64 (nrmL P sq xs), .int .i64 0]) ∧ Below w.heap.size w w' := by
  have hB0 : Below w.heap.size w (w.alloc (.cells #[.int .i64 P, .slice A n c] 26)) := (Below.refl _ _).alloc (Nat.le_refl _) _
  have k0 : Blk (w.alloc (.cells #[.int .i64 P, .slice A n c] 26)) w.heap.size 26 #[.int .i64 P, .slice A n c] := Blk.new _ _ _
  have hsl := ha.lenI
  obtain ⟨HP, hd1, hd2, hnum⟩ := isSp_dim hsp
  obtain ⟨hp3, hp2⟩ := isP_ge HP
  rw [hsl] at hd1 hd2
  have hpw : pw n ≤ 64 := pw_le hd2
  have hB1 : Below w.heap.size w ((w.alloc (.cells #[.int .i64 P, .slice A n c] 26)).alloc (.cells #[.slice X (pw n) cx] 24)) := hB0.alloc (by simp) _
  have k1 : Blk ((w.alloc (.cells #[.int .i64 P, .slice A n c] 26)).alloc (.cells #[.slice X (pw n) cx] 24)) w.heap.size 26 #[.int .i64 P, .slice A n c] := k0.alloc _
  have hM : codeM P sq [xs] = 0 := by
    unfold codeM
    rw [hsp, if_pos rfl, if_neg]
    intro hh
    obtain ⟨ys, hy, e⟩ := List.any_eq_true.1 hh
    rw [List.mem_singleton.1 hy] at e
    have : isMu P sq xs = true := by
      unfold isMu nums
      rw [hx.lenI, hsl, Bool.and_eq_true]
      exact ⟨by simp, List.all_eq_true.2 fun x hx' => by have := hv x hx'; simp [inR]; omega⟩
    rw [this] at e
    cases e
  have hck := checkVersors_any P A (some ⟨w.heap.size + 1, 0, none⟩) none n c 1 1 0 0 sq [xs] [] ((w.alloc (.cells #[.int .i64 P, .slice A n c] 26)).alloc (.cells #[.slice X (pw n) cx] 24)) (by omega) (by omega) (by omega) (ha.below hB1) (rdII_one' (Blk.newAt3 (by simp)) (hx.below hB1) hcx) (all_one (by rw [hx.lenI]; omega)) ⟨[], Rd.nil _ _, rfl, fun k h => absurd h (by simp)⟩ (by simp)
  have hz : codeVs P sq [xs] [] = 0 := by
    unfold codeVs
    rw [if_pos hM, if_pos (codeV_mk hsp (by simp)), hreg]; rfl
  rw [hz] at hck
  have HN := Lib.hid (nums_numsL hnum)
  have HVN := Lib.hid hv
  obtain ⟨q0, q1⟩ := k1.two
  clear hsl hnum hv hsp k0 hB0 hM hz
  go_enter Tryz.func42, Tryz.ntmps42
  go_wp2_with fail
  refine hck.mono ?_
  rintro e w2 ⟨rfl, hb2⟩
  have hB2 := hB1.trans (hb2.mono hB1.size)
  have k2 := k1.below hb2 k1.lt
  clear q0 q1 hck
  obtain ⟨q0, q1⟩ := k2.two
  go_wp2_with fail
  refine (spinorNorm_any P A n c sq X cx xs w2 (by omega) hp2 hd2 (ha.below hB2) HN.out (hx.below hB2) HVN.out hcx).mono ?_
  rintro e w3 ⟨rfl, hb3⟩
  go_wp2
  go_ret2
  exact ⟨rfl, hB2.trans (hb3.mono hB2.size)⟩
set_option maxHeartbeats 1600000 in
theorem ReflectIn_ok (P : Int) (A : Option Addr) (n c : Nat) (sq : List Int) (X : Option Addr) (cx : Nat) (u : List Int) (Y : Option Addr) (cy : Nat) (v : List Int) (w : World) (hsp : isSp P sq = true) (hreg : regB sq = true) (ha : Rd w A n (ints sq)) (hx : Rd w X n (ints u)) (hcx : n ≤ cx) (hu : NumsL P u) (hy : Rd w Y n (ints v)) (hcy : n ≤ cy) (hv : NumsL P v) (hne : ¬ pairL P sq u u = 0) :
    Calls Tryz.prog 47 #[.agg #[.int .i64 P, .slice A n c], .slice X n cx, .slice Y n cy] w fun e w' => ∃ (A' : Option Addr) (c' : Nat), e = .returned (.tuple #[.slice A' n c', .int .i64 0]) ∧ MkI w w' A' n c' (rflL P sq u v) := by
  have hB0 : Below w.heap.size w (w.alloc (.cells #[.int .i64 P, .slice A n c] 26)) := (Below.refl _ _).alloc (Nat.le_refl _) _
  have k0 : Blk (w.alloc (.cells #[.int .i64 P, .slice A n c] 26)) w.heap.size 26 #[.int .i64 P, .slice A n c] := Blk.new _ _ _
  have hsl := ha.lenI
  obtain ⟨HP, hd1, hd2, hnum⟩ := isSp_dim hsp
  obtain ⟨hp3, hp2⟩ := isP_ge HP
  rw [hsl] at hd1 hd2
  have hB1 : Below w.heap.size w ((w.alloc (.cells #[.int .i64 P, .slice A n c] 26)).alloc (.cells #[.slice X n cx, .slice Y n cy] 24)) := hB0.alloc (by simp) _
  have k1 : Blk ((w.alloc (.cells #[.int .i64 P, .slice A n c] 26)).alloc (.cells #[.slice X n cx, .slice Y n cy] 24)) w.heap.size 26 #[.int .i64 P, .slice A n c] := k0.alloc _
  have hck := checkVersV_any P A (some ⟨w.heap.size + 1, 0, none⟩) n c 2 2 sq [u, v] ((w.alloc (.cells #[.int .i64 P, .slice A n c] 26)).alloc (.cells #[.slice X n cx, .slice Y n cy] 24)) (by omega) (by omega) (ha.below hB1) (rdII_two (Blk.newAt3 (by simp)) (hx.below hB1) (hy.below hB1) hcx hcy) (all_two (by rw [hx.lenI]; omega) (by rw [hy.lenI]; omega))
  have hz : codeVb P sq [u, v] = 0 := by
    unfold codeVb
    rw [if_pos (codeV_mk hsp (all_two (isVe_mk (by rw [hx.lenI, hsl]) hu) (isVe_mk (by rw [hy.lenI, hsl]) hv))), hreg]; rfl
  rw [hz] at hck
  have HN := Lib.hid (nums_numsL hnum)
  have HUN := Lib.hid hu
  have HVN := Lib.hid hv
  have hno := fun (w' : World) (h : Below w.heap.size w w') => norm_any P A n c sq X cx u w' (by omega) hp2 hd2 (ha.below h) HN.out (hx.below h) HUN.out
  have hrf := fun (w' : World) (h : Below w.heap.size w w') => reflected_any P A n c sq X cx u Y cy v w' HP hd2 (ha.below h) HN.out (hx.below h) HUN.out (hy.below h) HVN.out hne
  obtain ⟨a, haa⟩ : ∃ a, a = pairL P sq u u := ⟨_, rfl⟩
  rw [← haa] at hno hne
  have e1 : (a == 0) = false := by simp [hne]
  obtain ⟨q0, q1⟩ := k1.two
  clear hsl hnum hv hu hsp k0 hB0 hz haa hne
  go_enter Tryz.func47, Tryz.ntmps47
  go_wp2_with fail
  refine hck.mono ?_
  rintro e w2 ⟨rfl, hb2⟩
  have hB2 := hB1.trans (hb2.mono hB1.size)
  have k2 := k1.below hb2 k1.lt
  clear q0 q1 hck
  obtain ⟨q0, q1⟩ := k2.two
  go_wp2_with fail
  refine (hno _ hB2).mono ?_
  rintro e w3 ⟨rfl, hb3⟩
  have hB3 := hB2.trans (hb3.mono hB2.size)
  have k3 := k2.below hb3 k2.lt
  clear q0 q1
  obtain ⟨q0, q1⟩ := k3.two
  go_wp2_with fail
  refine (hrf _ hB3).mono ?_
  rintro e w4 ⟨A4, c4, rfl, hM4⟩
  go_wp2
  go_ret2
  exact ⟨A4, c4, rfl, hM4.after hB3⟩
end Go.Proofs.YtggigolkncckoaaGreat
namespace Go.Proofs.YtggigolkncckoaaGreat
open Go.RowKit
section
variable {P : Program} {ops : Array Oper} {Q : Exit → Act → World → Prop}
/-- Those whose values are good still when operation j is done (C: what each uses up). -/
def availR (R C : List (List Nat)) (m j : Nat) : List Nat := (R.getD j []).filter fun i => (List.range m).all fun k => !((C.getD k []).contains i) || k == j || (R.getD k []).contains j
/-- .. and at the end of the first m. -/
def endR (C : List (List Nat)) (m : Nat) : List Nat := (List.range m).filter fun i => (List.range m).all fun k => !((C.getD k []).contains i)
/-- What operation j may do to the world: add to it, or, where C has something at j, what Rel allows. -/
def StepR (C : List (List Nat)) (Rel : World → World → Prop) (j : Nat) (w w' : World) : Prop := if (C.getD j []).isEmpty then Below w.heap.size w w' else Rel w w'
theorem StepR.plain {C : List (List Nat)} {Rel : World → World → Prop} {j : Nat} {w w' : World} (h : (C.getD j []).isEmpty = true) (hb : Below w.heap.size w w') : StepR C Rel j w w' := by unfold StepR; rw [h]; exact hb
theorem StepR.rel {C : List (List Nat)} {Rel : World → World → Prop} {j : Nat} {w w' : World} (h : (C.getD j []).isEmpty = false) (hb : Rel w w') : StepR C Rel j w w' := by unfold StepR; rw [h]; exact hb
theorem StepR.either {C : List (List Nat)} {Rel : World → World → Prop} {j : Nat} {w w' : World} {q : Prop} (h : StepR C Rel j w w') (h1 : Below w.heap.size w w' → q) (h2 : Rel w w' → q) : q := by
  unfold StepR at h
  split at h
  · exact h1 h
  · exact h2 h
theorem not_containsR {L : List Nat} {i : Nat} : (!(L.contains i)) = true ↔ i ∉ L := by
  rw [Bool.not_eq_true', ← Bool.not_eq_true, List.contains_iff_mem]
theorem availR_spec {R C : List (List Nat)} {m j i : Nat} : i ∈ availR R C m j ↔ i ∈ R.getD j [] ∧ ∀ k, k < m → i ∈ C.getD k [] → k = j ∨ j ∈ R.getD k [] := by
  unfold availR
  rw [List.mem_filter, List.all_eq_true]
  refine and_congr_right fun _ => ⟨fun h k hk hi => ?_, fun h k hk => ?_⟩
  · have h1 := h k (List.mem_range.2 hk)
    rw [Bool.or_eq_true, Bool.or_eq_true, not_containsR, beq_iff_eq, List.contains_iff_mem] at h1
    rcases h1 with (h1 | h1) | h1
    · exact absurd hi h1
    · exact .inl h1
    · exact .inr h1
  · rw [Bool.or_eq_true, Bool.or_eq_true, not_containsR, beq_iff_eq, List.contains_iff_mem]
    by_cases hi : i ∈ C.getD k []
    · rcases h k (List.mem_range.1 hk) hi with h1 | h1
      · exact .inl (.inr h1)
      · exact .inr h1
    · exact .inl (.inl hi)
theorem endR_spec {C : List (List Nat)} {m i : Nat} : i ∈ endR C m ↔ i < m ∧ ∀ k, k < m → i ∉ C.getD k [] := by
  unfold endR
  rw [List.mem_filter, List.all_eq_true, List.mem_range]
  exact and_congr_right fun _ => ⟨fun h k hk => not_containsR.1 (h k (List.mem_range.2 hk)), fun h k hk => not_containsR.2 (h k (List.mem_range.1 hk))⟩
/-- What is to be shown of operation j. -/
def ObR (P : Program) (ops : Array Oper) (S : World → Prop) (R C : List (List Nat)) (Rel : World → World → Prop) (m : Nat) (V : (Nat → Value) → List VP) (x : Nat → Value) (a0 : Act) (j : Nat) : Prop :=
  ∀ w, S w → (∀ i ∈ availR R C m j, ((V x).getD i VAny).p (x i) w) →
    wpOp P ops NoWay j (fun a' w' => ∃ v, (∀ d, dstOf ops j = some d → a'.tmps[d]? = some v) ∧ a'.defers = a0.defers ∧ ((V x).getD j VAny).p v w' ∧ StepR C Rel j w w') (putS ops x a0 j) w
theorem tasks_goR {m : Nat} {Rel : World → World → Prop} {R C : List (List Nat)} {V : (Nat → Value) → List VP} {S : World → Prop} {a0 : Act} (hok : tasksOk ops m a0.tmps.size R = true)
    (hdep : ∀ x x' j, (∀ i ∈ R.getD j [], x i = x' i) → (V x).getD j VAny = (V x').getD j VAny) (hweak : ∀ i, i < m → (C.getD i []).isEmpty = false → ∀ k, k < m → k ≠ i → i ∉ R.getD k [] → k ∉ C.getD i [] → ∀ x v w w', ((V x).getD k VAny).p v w → Rel w w' → ((V x).getD k VAny).p v w') (hSt : ∀ j w w', S w → StepR C Rel j w w' → S w') (hob : ∀ x j, j < m → ObR P ops S R C Rel m V x a0 j)
    (hend : ∀ x w', S w' → (∀ i ∈ endR C m, ((V x).getD i VAny).p (x i) w') → wpAny P .any ops Q (ops.size - m) (listedTo ops.size m) (putS ops x a0 m) w') :
    ∀ (c : Nat) (U : List Nat) (listed : Array Bool) (w : World) (x : Nat → Value), U.length = c → U.Nodup → (∀ i, i ∈ U ↔ i < m ∧ listed.getD i false = false) → listed.size = ops.size →
      (∀ i, m ≤ i → i < ops.size → listed.getD i false = false) → (∀ (j : Nat) (o : Oper), ops[j]? = some o → listed.getD j false = true → ∀ e ∈ o.after, Region.binds .any e = true → listed.getD e.on false = true) →
      S w → (∀ i, i < m → listed.getD i false = true → (∀ j, j < m → i ∈ C.getD j [] → listed.getD j false = false) → ((V x).getD i VAny).p (x i) w) → wpAny P .any ops Q (ops.size - m + c) listed (putD ops (fun i => listed.getD i false) x a0 m) w := by
  obtain ⟨hmn, hspec, htail⟩ := tasks_spec hok
  have hsel : Region.noSelect ops = true := by unfold tasksOk at hok; simp only [Bool.and_eq_true] at hok; exact hok.1.1
  intro c
  induction c with
  | zero =>
    intro U listed w x hU hnd hmem hsz hun hcl hS hV
    obtain rfl : U = [] := List.eq_nil_of_length_eq_zero hU
    have hall : ∀ i, i < m → listed.getD i false = true := fun i hi => by
      cases h : listed.getD i false
      · exact absurd ((hmem i).2 ⟨hi, h⟩) (by simp)
      · rfl
    have hl : listed = listedTo ops.size m := by
      apply Array.ext
      · simp [listedTo, hsz]
      · intro i h1 h2
        have e : listed.getD i false = listed[i] := by simp [Array.getD, h1]
        by_cases hi : i < m
        · have := hall i hi
          rw [e] at this
          simp [listedTo, this, hi]
        · have := hun i (by omega) (by omega)
          rw [e] at this
          simp [listedTo, this, hi]
    rw [Nat.add_zero, putD_congr (ops := ops) _ (fun _ => true) x x a0 m (fun i hi => ⟨hall i hi, fun _ => rfl⟩), hl]
    exact hend x w hS (fun i hi => hV i (endR_spec.1 hi).1 (hall i (endR_spec.1 hi).1) (fun j hj hc => absurd hc ((endR_spec.1 hi).2 j hj)))
  | succ c ih =>
    intro U listed w x hU hnd hmem hsz hun hcl hS hV
    have hne : U ≠ [] := fun e => by rw [e] at hU; simp at hU
    show (_ → _) ∧ _
    refine ⟨fun hr => ?_, fun i hi => ?_⟩
    · exfalso
      obtain ⟨i, hiU, hmin⟩ := min_mem U hne
      obtain ⟨him, hil⟩ := (hmem i).1 hiU
      have hlt : i < ops.size := by omega
      have : i ∈ Region.ready .any ops listed := mem_ready.2 ⟨by simpa [Array.getD, hsz, hlt] using hil, _, Array.getElem?_eq_getElem hlt, fun e he hb => by
        have hlti := (hspec i _ (Array.getElem?_eq_getElem hlt) him).1 e he hb
        cases h : listed.getD e.on false
        · have := hmin e.on ((hmem _).2 ⟨by omega, h⟩); omega
        · rfl⟩
      rw [hr] at this
      cases this
    · obtain ⟨hil, o, ho, hdeps⟩ := mem_ready.1 hi
      have hlt : i < ops.size := (Array.getElem?_eq_some_iff.1 ho).1
      have hil' : listed.getD i false = false := by simpa [Array.getD, hsz, hlt] using hil
      have hreach := listed_reach hok (fun i => listed.getD i false) hcl i o ho hdeps
      have him : i < m := by
        rcases Nat.lt_or_ge i m with h | h
        · exact h
        · exfalso
          obtain ⟨k, hk⟩ := List.exists_mem_of_ne_nil U hne
          obtain ⟨hkm, hkl⟩ := (hmem k).1 hk
          have := hreach k (htail i hlt h k hkm)
          rw [hkl] at this; cases this
      obtain ⟨_, ⟨d, hd, hdsz, hduniq⟩, hlook⟩ := hspec i o ho him
      have hdst : dstOf ops i = some d := by simp [dstOf, ho, hd]
      have hso : ∀ cs b, o.op ≠ .select cs b := fun cs b => Region.noSelect_spec hsel i o cs b ho
      -- the two frames agree on what o looks at
      have hagree : ∀ t ∈ o.looksAt ops, (putD ops (fun i => listed.getD i false) x a0 m).tmps[t]? = (putS ops x a0 i).tmps[t]? := fun t ht => by
        by_cases hex : ∃ k, k < m ∧ dstOf ops k = some t
        · obtain ⟨k, hkm, hkd⟩ := hex
          have hkR := hlook t ht k hkm hkd
          have hki := reach_lt hok i hlt k hkR
          have hkl := hreach k hkR
          have hks : k < ops.size := by omega
          obtain ⟨_, ⟨d', hd', hdsz', hu'⟩, _⟩ := hspec k _ (Array.getElem?_eq_getElem hks) hkm
          have htd : d' = t := by
            have : dstOf ops k = some d' := by simp [dstOf, Array.getElem?_eq_getElem hks, hd']
            rw [hkd] at this; injection this with this; exact this.symm
          rw [putD_at _ _ _ _ k hkd hkl (htd ▸ hdsz') m hkm (fun l hl hlk => htd ▸ hu' l hl hlk)]
          unfold putS
          rw [putD_at _ _ _ _ k hkd rfl (htd ▸ hdsz') i hki (fun l hl hlk => htd ▸ hu' l (by omega) hlk)]
        · rw [putD_other _ _ _ _ m (fun k hk hkd => absurd ⟨k, hk, hkd⟩ hex)]
          unfold putS
          rw [putD_other _ _ _ _ i (fun k hk hkd => absurd ⟨k, by omega, hkd⟩ hex)]
      have hob' := hob x i him w hS (fun k hk => by
        obtain ⟨hkR, hkC⟩ := availR_spec.1 hk
        refine hV k (by have := reach_lt hok i hlt k hkR; omega) (hreach k hkR) (fun j hj hc => ?_)
        rcases hkC j hj hc with rfl | hij
        · exact hil'
        · cases hjl : listed.getD j false
          · rfl
          · have hjs : j < ops.size := by omega
            have := listed_reach hok (fun i => listed.getD i false) hcl j _ (Array.getElem?_eq_getElem hjs) (hcl j _ (Array.getElem?_eq_getElem hjs) hjl) i hij
            rw [hil'] at this; cases this)
      have hsz1 := putD_size (ops := ops) (fun _ => true) x a0 i
      -- what comes behind
      have next : ∀ v w', ((V x).getD i VAny).p v w' → StepR C Rel i w w' → wpAny P .any ops Q (ops.size - m + c) (listed.setIfInBounds i true) ((putD ops (fun i => listed.getD i false) x a0 m).put (some d) v) w' := fun v w' hv hb => by
        have hput := putD_put (ops := ops) (fun k => listed.getD k false) (fun k => (listed.setIfInBounds i true).getD k false) x (fun k => if k = i then v else x k) a0 i hil'
          (by simp [hsz, hlt]) (fun k hk => ⟨by rw [getD_set_ne _ (Ne.symm hk)], by simp [hk]⟩) m him
          (fun d' k hk hki hd' => by rw [hdst] at hd'; injection hd' with hd'; exact hd' ▸ hduniq k hk hki)
        simp only [if_true] at hput
        rw [← hdst, hput]
        refine ih (U.erase i) _ _ _ ?_ (hnd.erase _) (fun k => ?_) (by simpa using hsz) (fun k h1 h2 => ?_) (fun j oj hoj hj e he hb' => ?_) (hSt i _ _ hS hb) (fun k hk hkl hcons => ?_)
        · rw [List.length_erase_of_mem ((hmem i).2 ⟨him, hil'⟩), hU]; rfl
        · rw [hnd.mem_erase_iff, hmem]
          by_cases hk : k = i
          · subst hk; simp [hsz, hlt]
          · rw [getD_set_ne _ (Ne.symm hk)]; simp [hk]
        · rw [getD_set_ne _ (by omega)]; exact hun k h1 h2
        · by_cases hji : j = i
          · subst hji
            rw [ho] at hoj; injection hoj with hoj; subst hoj
            exact getD_set_true (hdeps e he hb')
          · rw [getD_set_ne _ (Ne.symm hji)] at hj
            exact getD_set_true (hcl j oj hoj hj e he hb')
        · by_cases hki : k = i
          · subst hki
            rw [hdep _ x k (fun l hl => by have := reach_lt hok k hlt l hl; simp only [show l ≠ k by omega, if_false])]
            simpa using hv
          · rw [getD_set_ne _ (Ne.symm hki)] at hkl
            have hks : k < ops.size := by omega
            have hdk : (V fun l => if l = i then v else x l).getD k VAny = (V x).getD k VAny := hdep _ x k (fun l hl => by
              have hll := listed_reach hok (fun i => listed.getD i false) hcl k _ (Array.getElem?_eq_getElem hks) (hcl k _ (Array.getElem?_eq_getElem hks) hkl) l hl
              have hne : l ≠ i := fun e => by rw [e] at hll; rw [hil'] at hll; cases hll
              simp only [hne, if_false])
            simp only [hki, if_false]
            rw [hdk]
            have hb0 : ∀ j, j < m → k ∈ C.getD j [] → listed.getD j false = false := fun j hj hc => by
              have h1 := hcons j hj hc
              by_cases hji : j = i
              · rw [hji]; exact hil'
              · rwa [getD_set_ne _ (Ne.symm hji)] at h1
            have hkC : k ∉ C.getD i [] := fun hc => by
              have h1 := hcons i him hc
              simp [hsz, hlt] at h1
            have hiR : i ∉ R.getD k [] := fun hik => by
              have := listed_reach hok (fun i => listed.getD i false) hcl k _ (Array.getElem?_eq_getElem hks) (hcl k _ (Array.getElem?_eq_getElem hks) hkl) i hik
              rw [hil'] at this; cases this
            cases he : (C.getD i []).isEmpty
            · replace hb : Rel w w' := by unfold StepR at hb; rw [he] at hb; exact hb
              exact hweak i him he k hk hki hiR hkC x _ _ _ (hV k hk hkl hb0) hb
            · replace hb : Below w.heap.size w w' := by unfold StepR at hb; rw [he] at hb; exact hb
              exact ((V x).getD k VAny).st _ _ _ (hV k hk hkl hb0) hb
      unfold wpOp at hob' ⊢
      simp only [ho] at hob' ⊢
      rw [wanted_same hagree]
      split
      · rename_i hw
        rw [if_pos hw] at hob'
        rcases hob' with h | ⟨_, h⟩
        case inr => exact absurd h NoWay.lets
        refine .inl (Oper.wp_mono ?_ (wp_move (Q := Q) (d := d) (R := fun v w' => ((V x).getD i VAny).p v w' ∧ StepR C Rel i w w') (exec_same hso hagree) hd (by unfold putS; rw [hsz1.1]; exact hdsz)
          (Oper.wp_mono (fun a' w' ⟨v, h1, h2, h3, h4⟩ => ⟨v, h1 d hdst, by unfold putS; rw [hsz1.2]; exact h2, h3, h4⟩) h)))
        rintro a' w' ⟨v, rfl, hv, hb⟩
        exact next v w' hv hb
      · rename_i hw
        rw [if_neg hw] at hob'
        obtain ⟨v, h1, _, h3, h4⟩ := hob'
        have hvu : v = undef := by
          have := h1 d hdst
          rw [hd] at this
          simp [Act.put, putS, hsz1.1, hdsz] at this
          exact this.symm
        rw [hd]
        exact next undef w (hvu ▸ h3) h4
/-- **A region that draws its order**: each of its first m operations is shown once; what is left behind them goes on. -/
theorem wp_tasksR {id m : Nat} {Rel : World → World → Prop} (R C : List (List Nat)) (V : (Nat → Value) → List VP) (S : World → Prop) {a0 : Act} {w : World} (hm : P.follows .mixedOrders = true) (hok : tasksOk ops m a0.tmps.size R = true)
    (hdep : ∀ x x' j, (∀ i ∈ R.getD j [], x i = x' i) → (V x).getD j VAny = (V x').getD j VAny) (hweak : ∀ i, i < m → (C.getD i []).isEmpty = false → ∀ k, k < m → k ≠ i → i ∉ R.getD k [] → k ∉ C.getD i [] → ∀ x v w w', ((V x).getD k VAny).p v w → Rel w w' → ((V x).getD k VAny).p v w') (hS0 : S w.drew) (hSt : ∀ j w w', S w → StepR C Rel j w w' → S w') (hob : ∀ x j, j < m → ObR P ops S R C Rel m V x a0 j)
    (hend : ∀ x w', S w' → (∀ i ∈ endR C m, ((V x).getD i VAny).p (x i) w') → wpAny P .any ops Q (ops.size - m) (listedTo ops.size m) (putS ops x a0 m) w') : (Code.region id ops true).wp P Q a0 w := by
  have hmn := (tasks_spec hok).1
  have hf : ∀ i, (Array.replicate ops.size false).getD i false = false := fun i => by simp [Array.getD]
  have h := tasks_goR (Q := Q) hok hdep hweak hSt hob hend m (List.range m) (Array.replicate ops.size false) w.drew (fun _ => undef) (by simp) List.nodup_range (fun i => by rw [hf]; simp) (by simp) (fun i _ _ => hf i) (fun j o _ hj => by rw [hf] at hj; cases hj) hS0
    (fun i _ hi => by rw [hf] at hi; cases hi)
  refine wp_region_any hm ?_
  rw [show ops.size - m + m = ops.size by omega, putD_congr (ops := ops) _ (fun _ => false) _ (fun _ => undef) a0 m (fun i _ => ⟨hf i, fun _ => rfl⟩)] at h
  have e : ∀ n, putD ops (fun _ => false) (fun _ => undef) a0 n = a0 := fun n => by
    induction n with
    | zero => rfl
    | succ n ih => unfold putD; simpa using ih
  rw [e] at h
  exact h
/-- What is to be shown, operation by operation, in the text's order; the frame goes along. -/
def ObsR (P : Program) (ops : Array Oper) (Q : Exit → Act → World → Prop) (S : World → Prop) (R C : List (List Nat)) (Rel : World → World → Prop) (m : Nat) (V : (Nat → Value) → List VP) (x : Nat → Value) : Nat → Nat → Act → Prop
  | 0, j, a => ∀ w, S w → (∀ i ∈ endR C m, ((V x).getD i VAny).p (x i) w) → wpAny P .any ops Q (ops.size - j) (listedTo ops.size j) a w
  | r + 1, j, a => (∀ w, S w → (∀ i ∈ availR R C m j, ((V x).getD i VAny).p (x i) w) →
      wpOp P ops NoWay j (fun a' w' => ∃ v, (∀ d, dstOf ops j = some d → a'.tmps[d]? = some v) ∧ a'.defers = a.defers ∧ ((V x).getD j VAny).p v w' ∧ StepR C Rel j w w') a w) ∧
    ObsR P ops Q S R C Rel m V x r (j + 1) (a.put (dstOf ops j) (x j))
theorem obs_allR {S : World → Prop} {R C : List (List Nat)} {Rel : World → World → Prop} {m : Nat} {V : (Nat → Value) → List VP} {x : Nat → Value} {a0 : Act} : ∀ (r j : Nat), ObsR P ops Q S R C Rel m V x r j (putS ops x a0 j) →
    (∀ k, j ≤ k → k < j + r → ObR P ops S R C Rel m V x a0 k) ∧ ∀ w, S w → (∀ i ∈ endR C m, ((V x).getD i VAny).p (x i) w) → wpAny P .any ops Q (ops.size - (j + r)) (listedTo ops.size (j + r)) (putS ops x a0 (j + r)) w := by
  intro r
  induction r with
  | zero => intro j h; exact ⟨fun k h1 h2 => by omega, h⟩
  | succ r ih =>
    intro j h
    obtain ⟨h1, h2⟩ := h
    have h2' : ObsR P ops Q S R C Rel m V x r (j + 1) (putS ops x a0 (j + 1)) := h2
    obtain ⟨h3, h4⟩ := ih (j + 1) h2'
    refine ⟨fun k hk1 hk2 => ?_, by rw [show j + (r + 1) = j + 1 + r by omega]; exact h4⟩
    by_cases hk : k = j
    · subst hk
      intro w hS hV
      have h := h1 w hS hV
      rw [show (putS ops x a0 k).defers = a0.defers from (putD_size _ _ _ _).2] at h
      exact h
    · exact h3 k (by omega) (by omega)
theorem wp_obsR {id : Nat} (m : Nat) (Rel : World → World → Prop) (R C : List (List Nat)) (V : (Nat → Value) → List VP) (S : World → Prop) {a0 : Act} {w : World} (hm : P.follows .mixedOrders = true) (hok : tasksOk ops m a0.tmps.size R = true)
    (hdep : ∀ x x' j, (∀ i ∈ R.getD j [], x i = x' i) → (V x).getD j VAny = (V x').getD j VAny) (hweak : ∀ i, i < m → (C.getD i []).isEmpty = false → ∀ k, k < m → k ≠ i → i ∉ R.getD k [] → k ∉ C.getD i [] → ∀ x v w w', ((V x).getD k VAny).p v w → Rel w w' → ((V x).getD k VAny).p v w') (hSt : ∀ j w w', S w → StepR C Rel j w w' → S w') (hS0 : S w.drew) (h : ∀ x, ObsR P ops Q S R C Rel m V x m 0 a0) : (Code.region id ops true).wp P Q a0 w :=
  wp_tasksR (m := m) (Rel := Rel) R C V S hm hok hdep hweak hS0 hSt (fun x j hj => (obs_allR m 0 (h x)).1 j (by omega) (by omega)) (fun x w' hS hV => by
    have := (obs_allR m 0 (h x)).2 w' hS (hV)
    rwa [Nat.zero_add] at this)
theorem obs_stepR {S : World → Prop} {R C : List (List Nat)} {Rel : World → World → Prop} {m : Nat} {V : (Nat → Value) → List VP} {x : Nat → Value} {r j : Nat} {a : Act} {o : Oper} {d : Tmp} (ho : ops[j]? = some o) (hd : o.dst = some d)
    (h : ∀ w, S w → (∀ i ∈ availR R C m j, ((V x).getD i VAny).p (x i) w) → ∀ K : Act → World → Prop, Shut (∀ a' w' v, a'.tmps[d]? = some v → a'.defers = a.defers → ((V x).getD j VAny).p v w' → StepR C Rel j w w' → K a' w') →
      if Region.wanted o (yielded ops a.tmps) = true then Oper.wp P o a w K NoWay else K (a.put o.dst undef) w)
    (hr : ObsR P ops Q S R C Rel m V x r (j + 1) { a with tmps := a.tmps.setIfInBounds d (x j) }) : ObsR P ops Q S R C Rel m V x (r + 1) j a := by
  have hdst : dstOf ops j = some d := by simp [dstOf, ho, hd]
  refine ⟨fun w hS hV => wpOp_step ho (fun K hK => ?_), by rw [hdst]; exact hr⟩
  exact h w hS hV K (fun a' w' v h1 h2 h3 h4 => hK a' w' ⟨v, fun d' hd' => by rw [hdst] at hd'; injection hd' with hd'; exact hd' ▸ h1, h2, h3, h4⟩)
/-- Those that bear an append in place: their values are plain. -/
theorem weak_ofR {m : Nat} {Rel : World → World → Prop} {R C : List (List Nat)} {V : (Nat → Value) → List VP} (Wk : List Nat)
    (hchk : ((List.range m).all fun i => (C.getD i []).isEmpty || (List.range m).all fun k => k == i || (R.getD k []).contains i || (C.getD i []).contains k || Wk.contains k) = true)
    (hW : ∀ k ∈ Wk, ∀ x v w w', ((V x).getD k VAny).p v w → Rel w w' → ((V x).getD k VAny).p v w') :
    ∀ i, i < m → (C.getD i []).isEmpty = false → ∀ k, k < m → k ≠ i → i ∉ R.getD k [] → k ∉ C.getD i [] → ∀ x v w w', ((V x).getD k VAny).p v w → Rel w w' → ((V x).getD k VAny).p v w' := by
  intro i hi he k hk hne hR hC x v w w' hp hrel
  have h1 := List.all_eq_true.1 hchk i (List.mem_range.2 hi)
  rw [he, Bool.false_or] at h1
  have h2 := List.all_eq_true.1 h1 k (List.mem_range.2 hk)
  rw [Bool.or_eq_true, Bool.or_eq_true, Bool.or_eq_true, beq_iff_eq, List.contains_iff_mem, List.contains_iff_mem, List.contains_iff_mem] at h2
  rcases h2 with ((h2 | h2) | h2) | h2
  · exact absurd h2 hne
  · exact absurd h2 hR
  · exact absurd h2 hC
  · exact hW k h2 x v w w' hp hrel
end
end Go.Proofs.YtggigolkncckoaaGreat

/-
  What the exact laws with lists of lists need: equality, marks.
-/
import Derived.Test.YtommppijnccomaaGreatLawKit
namespace Go.Proofs.YtommppijnccomaaGreat
open Go.RowKit

set_option maxHeartbeats 1600000 in
set_option maxRecDepth 8000 in
theorem eqInt64SS_same (A B : Option Addr) (n c d : Nat) (M : List (List Int)) (w : World) (hn : n ≤ 1099511627776) (ha : RdII w A n M) (hb : RdII w B n M) (hr : ∀ x ∈ M, x.length ≤ 1099511627776) :
    Calls Tryz.prog 29 #[.slice A n c, .slice B n d] w fun e w' => e = .returned (.bool true) ∧ Below w.heap.size w w' := by
  have HR := Lib.hid hr
  clear hr
  go_enter Tryz.func29, Tryz.ntmps29
  go_wp2
  go_loopw [5] (fun i wr => ∃ k : Nat, k ≤ n ∧ i = .int .i64 k ∧ Below w.heap.size w wr) (fun i _ => n - (intOf i).toNat)
  case atStart => exact ⟨0, by omega, rfl, Below.refl _ _⟩
  case round =>
    obtain ⟨k, hk, rfl, hBr⟩ := hrel
    by_cases hlt : k < n
    · obtain ⟨g, o, rfl, hxk, A1, c1, hcx, hr1, _⟩ := (ha.below hBr).at_ hlt
      obtain ⟨g2, o2, rfl, _, B1, d1, hcy, hr2, _⟩ := (hb.below hBr).at_ hlt
      have HL : M[k].length ≤ 1099511627776 := HR.out M[k] (List.getElem_mem hxk)
      have i1 : (0 : Int) ≤ (k : Int) := by omega
      have i2 : (k : Int) < (n : Int) := by omega
      clear ha hb
      go_wp2
      refine wp_obs 10 [[], [], [0, 1], [0, 1, 2], [], [], [4, 5], [4, 5, 6], [0, 1, 2, 3, 4, 5, 6, 7], [0, 1, 2, 3, 4, 5, 6, 7, 8]] [VIs (.slice (some ⟨g, o, none⟩) n c), VIs (.int .i64 (k)), VIs (.pointer (some ⟨g, o + k, none⟩)), VIs (.slice A1 M[k].length c1), VIs (.slice (some ⟨g2, o2, none⟩) n d), VIs (.int .i64 (k)), VIs (.pointer (some ⟨g2, o2 + k, none⟩)), VIs (.slice B1 M[k].length d1), VIs (.bool true), VIs (.bool false)] (fun w' => w'.cell? ⟨g, o + k, none⟩ = some (.slice A1 M[k].length c1) ∧ w'.cell? ⟨g2, o2 + k, none⟩ = some (.slice B1 M[k].length d1) ∧ Below w.heap.size w w' ∧ Below wr.heap.size wr w') (by kernel_rfl) (by kernel_rfl) (fun _ _ h hb => ⟨(hb.cell (World.block_lt_of_cell? _ _ h.1)).trans h.1, (hb.cell (World.block_lt_of_cell? _ _ h.2.1)).trans h.2.1, h.2.2.1.trans (hb.mono h.2.2.1.size), h.2.2.2.trans (hb.mono h.2.2.2.size)⟩) (⟨hcx, hcy, hBr.drew, (Below.refl _ _).drew⟩) (fun x => ?_)
      refine obs_step (Eq.trans (by simp only [List.getElem?_toArray, List.getElem?_cons_zero]; exact rfl) rfl) rfl (fun w' hS hV K hK => ?_) ?_
      · have q0 := hS.1; have q1 := hS.2.1
        go_simp
        exact hK.out _ _ _ rfl rfl rfl (Below.refl _ _)
      simp only [List.setIfInBounds_toArray, List.set_cons_zero, List.set_cons_succ]
      refine obs_step (Eq.trans (by simp only [List.getElem?_toArray, List.getElem?_cons_succ, List.getElem?_cons_zero]; exact rfl) rfl) rfl (fun w' hS hV K hK => ?_) ?_
      · have q0 := hS.1; have q1 := hS.2.1
        go_simp
        exact hK.out _ _ _ rfl rfl rfl (Below.refl _ _)
      simp only [List.setIfInBounds_toArray, List.set_cons_zero, List.set_cons_succ]
      refine obs_step (Eq.trans (by simp only [List.getElem?_toArray, List.getElem?_cons_succ, List.getElem?_cons_zero]; exact rfl) rfl) rfl (fun w' hS hV K hK => ?_) ?_
      · have e0 : x 0 = (.slice (some ⟨g, o, none⟩) n c) := hV 0 (by decide)
        have e1 : x 1 = (.int .i64 (k)) := hV 1 (by decide)
        have q0 := hS.1; have q1 := hS.2.1
        go_simp
        exact hK.out _ _ _ rfl rfl rfl (Below.refl _ _)
      simp only [List.setIfInBounds_toArray, List.set_cons_zero, List.set_cons_succ]
      refine obs_step (Eq.trans (by simp only [List.getElem?_toArray, List.getElem?_cons_succ, List.getElem?_cons_zero]; exact rfl) rfl) rfl (fun w' hS hV K hK => ?_) ?_
      · have e0 : x 0 = (.slice (some ⟨g, o, none⟩) n c) := hV 0 (by decide)
        have e1 : x 1 = (.int .i64 (k)) := hV 1 (by decide)
        have e2 : x 2 = (.pointer (some ⟨g, o + k, none⟩)) := hV 2 (by decide)
        have q0 := hS.1; have q1 := hS.2.1
        go_simp
        exact hK.out _ _ _ rfl rfl rfl (Below.refl _ _)
      simp only [List.setIfInBounds_toArray, List.set_cons_zero, List.set_cons_succ]
      refine obs_step (Eq.trans (by simp only [List.getElem?_toArray, List.getElem?_cons_succ, List.getElem?_cons_zero]; exact rfl) rfl) rfl (fun w' hS hV K hK => ?_) ?_
      · have q0 := hS.1; have q1 := hS.2.1
        go_simp
        exact hK.out _ _ _ rfl rfl rfl (Below.refl _ _)
      simp only [List.setIfInBounds_toArray, List.set_cons_zero, List.set_cons_succ]
      refine obs_step (Eq.trans (by simp only [List.getElem?_toArray, List.getElem?_cons_succ, List.getElem?_cons_zero]; exact rfl) rfl) rfl (fun w' hS hV K hK => ?_) ?_
      · have q0 := hS.1; have q1 := hS.2.1
        go_simp
        exact hK.out _ _ _ rfl rfl rfl (Below.refl _ _)
      simp only [List.setIfInBounds_toArray, List.set_cons_zero, List.set_cons_succ]
      refine obs_step (Eq.trans (by simp only [List.getElem?_toArray, List.getElem?_cons_succ, List.getElem?_cons_zero]; exact rfl) rfl) rfl (fun w' hS hV K hK => ?_) ?_
      · have e4 : x 4 = (.slice (some ⟨g2, o2, none⟩) n d) := hV 4 (by decide)
        have e5 : x 5 = (.int .i64 (k)) := hV 5 (by decide)
        have q0 := hS.1; have q1 := hS.2.1
        go_simp
        exact hK.out _ _ _ rfl rfl rfl (Below.refl _ _)
      simp only [List.setIfInBounds_toArray, List.set_cons_zero, List.set_cons_succ]
      refine obs_step (Eq.trans (by simp only [List.getElem?_toArray, List.getElem?_cons_succ, List.getElem?_cons_zero]; exact rfl) rfl) rfl (fun w' hS hV K hK => ?_) ?_
      · have e4 : x 4 = (.slice (some ⟨g2, o2, none⟩) n d) := hV 4 (by decide)
        have e5 : x 5 = (.int .i64 (k)) := hV 5 (by decide)
        have e6 : x 6 = (.pointer (some ⟨g2, o2 + k, none⟩)) := hV 6 (by decide)
        have q0 := hS.1; have q1 := hS.2.1
        go_simp
        exact hK.out _ _ _ rfl rfl rfl (Below.refl _ _)
      simp only [List.setIfInBounds_toArray, List.set_cons_zero, List.set_cons_succ]
      refine obs_step (Eq.trans (by simp only [List.getElem?_toArray, List.getElem?_cons_succ, List.getElem?_cons_zero]; exact rfl) rfl) rfl (fun w' hS hV K hK => ?_) ?_
      · have e0 : x 0 = (.slice (some ⟨g, o, none⟩) n c) := hV 0 (by decide)
        have e1 : x 1 = (.int .i64 (k)) := hV 1 (by decide)
        have e2 : x 2 = (.pointer (some ⟨g, o + k, none⟩)) := hV 2 (by decide)
        have e3 : x 3 = (.slice A1 M[k].length c1) := hV 3 (by decide)
        have e4 : x 4 = (.slice (some ⟨g2, o2, none⟩) n d) := hV 4 (by decide)
        have e5 : x 5 = (.int .i64 (k)) := hV 5 (by decide)
        have e6 : x 6 = (.pointer (some ⟨g2, o2 + k, none⟩)) := hV 6 (by decide)
        have e7 : x 7 = (.slice B1 M[k].length d1) := hV 7 (by decide)
        have q0 := hS.1; have q1 := hS.2.1
        go_simp
        refine (eqInt64S_same A1 B1 _ _ c1 d1 M[k] _ HL HL (hr1.below hS.2.2.2) (hr2.below hS.2.2.2)).mono ?_
        rintro e w1 ⟨rfl, hb⟩
        exact hK.out _ _ _ rfl rfl rfl hb
      simp only [List.setIfInBounds_toArray, List.set_cons_zero, List.set_cons_succ]
      refine obs_step (Eq.trans (by simp only [List.getElem?_toArray, List.getElem?_cons_succ, List.getElem?_cons_zero]; exact rfl) rfl) rfl (fun w' hS hV K hK => ?_) ?_
      · have e0 : x 0 = (.slice (some ⟨g, o, none⟩) n c) := hV 0 (by decide)
        have e1 : x 1 = (.int .i64 (k)) := hV 1 (by decide)
        have e2 : x 2 = (.pointer (some ⟨g, o + k, none⟩)) := hV 2 (by decide)
        have e3 : x 3 = (.slice A1 M[k].length c1) := hV 3 (by decide)
        have e4 : x 4 = (.slice (some ⟨g2, o2, none⟩) n d) := hV 4 (by decide)
        have e5 : x 5 = (.int .i64 (k)) := hV 5 (by decide)
        have e6 : x 6 = (.pointer (some ⟨g2, o2 + k, none⟩)) := hV 6 (by decide)
        have e7 : x 7 = (.slice B1 M[k].length d1) := hV 7 (by decide)
        have e8 : x 8 = (.bool true) := hV 8 (by decide)
        have q0 := hS.1; have q1 := hS.2.1
        go_simp
        exact hK.out _ _ _ rfl rfl rfl (Below.refl _ _)
      simp only [List.setIfInBounds_toArray, List.set_cons_zero, List.set_cons_succ]
      refine fun w' hS hV => ?_
      have e0 : x 0 = (.slice (some ⟨g, o, none⟩) n c) := hV 0 (by decide)
      have e1 : x 1 = (.int .i64 (k)) := hV 1 (by decide)
      have e2 : x 2 = (.pointer (some ⟨g, o + k, none⟩)) := hV 2 (by decide)
      have e3 : x 3 = (.slice A1 M[k].length c1) := hV 3 (by decide)
      have e4 : x 4 = (.slice (some ⟨g2, o2, none⟩) n d) := hV 4 (by decide)
      have e5 : x 5 = (.int .i64 (k)) := hV 5 (by decide)
      have e6 : x 6 = (.pointer (some ⟨g2, o2 + k, none⟩)) := hV 6 (by decide)
      have e7 : x 7 = (.slice B1 M[k].length d1) := hV 7 (by decide)
      have e8 : x 8 = (.bool true) := hV 8 (by decide)
      have e9 : x 9 = (.bool false) := hV 9 (by decide)
      simp only [e0, e1, e2, e3, e4, e5, e6, e7, e8, e9]
      clear e0 e1 e2 e3 e4 e5 e6 e7 e8 e9
      refine wpAny_done (by kernel_rfl) ?_ _
      have hB5 := hS.2.2.1
      go_wp2
      go_roundw
      case rel => exact ⟨k + 1, by omega, by go_num, hB5⟩
      case measure => simp [intOf]; omega
    · go_wp2
      go_ret
      exact ⟨rfl, hBr⟩

/-- Rows of marks, on and on. -/
def markSS : Int → List (List Int) → List (List Int)
  | _, [] => []
  | k, x :: r => marks k x.length :: markSS (k + x.length) r
/-- How many numbers in all. -/
def totL : List (List Int) → Nat
  | [] => 0
  | x :: r => x.length + totL r
theorem totL_append (a b : List (List Int)) : totL (a ++ b) = totL a + totL b := by
  induction a with
  | nil => simp [totL]
  | cons x r ih => simp only [List.cons_append, totL, ih]; omega
theorem markSS_len (k : Int) (M : List (List Int)) : (markSS k M).length = M.length := by
  induction M generalizing k with
  | nil => rfl
  | cons x r ih => simp [markSS, ih]
theorem markSS_snoc (k : Int) (M : List (List Int)) (x : List Int) : markSS k (M ++ [x]) = markSS k M ++ [marks (k + totL M) x.length] := by
  induction M generalizing k with
  | nil => simp [markSS, totL]
  | cons y r ih => simp only [List.cons_append, markSS, totL, ih]; rw [show k + ((y.length + totL r : Nat) : Int) = k + y.length + totL r by omega]
theorem totL_take {M : List (List Int)} {j : Nat} (hj : j < M.length) : totL (M.take (j + 1)) = totL (M.take j) + M[j].length := by
  rw [List.take_succ_eq_append_getElem hj, totL_append]; simp [totL]
theorem totL_le {M : List (List Int)} (j : Nat) : totL (M.take j) ≤ totL M := by
  have := totL_append (M.take j) (M.drop j)
  rw [List.take_append_drop] at this
  omega
/-- One row is marked. -/
theorem markSS_step (k : Int) (M : List (List Int)) (j : Nat) (hj : j < M.length) :
    (markSS k (M.take j) ++ M.drop j).set j (marks (k + totL (M.take j)) M[j].length) = markSS k (M.take (j + 1)) ++ M.drop (j + 1) := by
  have hl : (markSS k (M.take j)).length = j := by rw [markSS_len, List.length_take]; omega
  rw [List.set_append, if_neg (by omega), hl, Nat.sub_self, List.take_succ_eq_append_getElem hj, markSS_snoc, List.append_assoc]
  congr 1
  rw [List.drop_eq_getElem_cons hj]
  rfl
theorem markSS_at {k : Int} {M : List (List Int)} {j : Nat} (hj : j < M.length) (h : j < (markSS k (M.take j) ++ M.drop j).length) : (markSS k (M.take j) ++ M.drop j)[j] = M[j] := by
  have hl : (markSS k (M.take j)).length = j := by rw [markSS_len, List.length_take]; omega
  rw [List.getElem_append_right (by omega)]
  simp [hl]
theorem bind_own {rows : List Value} {i : Nat} {v : Value} (h : rows[i]? = some v) : (rows[i]?).bind Value.ownBlock = v.ownBlock := by rw [h]; rfl
theorem Nest.set {w w' : World} {B : Nat} {rows : List Value} {xss : List (List Int)} (h : Nest w B rows xss) {j : Nat} (hj : j < xss.length) {A : Option Addr} {c : Nat} (hr : rows[j]? = some (.slice A xss[j].length c)) {ys : List Int} (hl : ys.length = xss[j].length)
    (ho : Own w' B 2 A xss[j].length c (ints ys)) (hg : w.grownBy w' (Value.slice A xss[j].length c).ownBlock) : Nest w' B rows (xss.set j ys) := by
  refine ⟨by rw [List.length_set]; exact h.len, fun k hk => ?_, h.apart⟩
  have hk' : k < xss.length := by rw [List.length_set] at hk; exact hk
  rw [List.getElem_set]
  by_cases e : j = k
  · subst e
    rw [if_pos rfl, hl]
    exact ⟨A, c, hr, ho⟩
  · rw [if_neg e]
    obtain ⟨A', c', e', ho'⟩ := h.row k hk'
    refine ⟨A', c', e', ho'.grown hg ?_⟩
    cases hb : (Value.slice A' xss[k].length c').ownBlock with
    | none => exact .inl rfl
    | some g =>
      right
      intro hh
      rcases Nat.lt_or_ge j k with hlt | hge
      · exact h.apart j k g hlt ((bind_own hr).trans hh.symm) ((bind_own e').trans hb)
      · exact h.apart k j g (by omega) ((bind_own e').trans hb) ((bind_own hr).trans hh.symm)

/-- A slice of rows of numbers of the call's own, from block B on. -/
def OwnII (w : World) (B : Nat) (A : Option Addr) (n c : Nat) (xss : List (List Int)) : Prop := ∃ rows, Own w B 22 A n c rows ∧ Nest w B rows xss
theorem MkII.own {w0 w : World} {A : Option Addr} {n c : Nat} {xss : List (List Int)} (h : MkII w0 w A n c xss) : OwnII w w0.heap.size A n c xss := by
  obtain ⟨rows, h1, h2⟩ := h
  exact ⟨rows, h1.2, h2⟩
section
variable {w w' : World} {B B' : Nat} {A : Option Addr} {n c : Nat} {xss : List (List Int)}
theorem OwnII.len (h : OwnII w B A n c xss) : xss.length = n := by
  obtain ⟨rows, h1, h2⟩ := h
  rw [← h2.len]
  exact h1.len
theorem OwnII.rd (h : OwnII w B A n c xss) : RdII w A n xss := by
  obtain ⟨rows, hm, hn⟩ := h
  exact ⟨rows, hm.rd, hn.len, fun k hk => by obtain ⟨A', c', e, ho⟩ := hn.row k hk; exact ⟨A', c', e, ho.rd, ho.cap⟩⟩
theorem OwnII.below (h : OwnII w B A n c xss) (hb : Below w.heap.size w w') : OwnII w' B A n c xss := by
  obtain ⟨rows, hm, hn⟩ := h
  exact ⟨rows, hm.below hb, hn.below hb⟩
/-- A block below the base grows. -/
theorem OwnII.grown (h : OwnII w B A n c xss) {row : Option Nat} (hg : w.grownBy w' row) (hlow : ∀ g, row = some g → g < B) : OwnII w' B A n c xss := by
  obtain ⟨rows, hm, hn⟩ := h
  have key : ∀ {E : TypeId} {A' : Option Addr} {n' c' : Nat} {us : List Value}, Own w B E A' n' c' us → ((Value.slice A' n' c').ownBlock = none ∨ (Value.slice A' n' c').ownBlock ≠ row) := by
    intro E A' n' c' us ho
    cases hb : (Value.slice A' n' c').ownBlock with
    | none => exact .inl rfl
    | some g =>
      right
      intro e
      have h1 := hlow g e.symm
      have h2 := (World.ownsRow.lt ho g hb).1
      omega
  exact ⟨rows, hm.grown hg (key hm), hn.len, fun k hk => by obtain ⟨A', c', e, ho⟩ := hn.row k hk; exact ⟨A', c', e, ho.grown hg (key ho)⟩, hn.apart⟩
end

set_option maxHeartbeats 800000 in
theorem markInt64SS_any (B : Nat) (A : Option Addr) (n c : Nat) (M : List (List Int)) (k : Int) (w : World) (hn : n ≤ 1099511627776) (hk0 : 0 ≤ k) (hk : k + totL M ≤ 1099511627776) (h : OwnII w B A n c M) (hsz : B ≤ w.heap.size) (hr : ∀ x ∈ M, x.length ≤ 1099511627776) :
    Calls Tryz.prog 32 #[.slice A n c, .int .i64 k] w fun e w' => e = .returned (.int .i64 (k + totL M)) ∧ OwnII w' B A n c (markSS k M) ∧ Below B w w' := by
  have HML := Lib.hid h.len
  have HR := Lib.hid hr
  obtain ⟨rows, hm, hN⟩ := h
  clear hr
  go_enter Tryz.func32, Tryz.ntmps32
  go_wp2
  go_loopw [1, 5] (fun m i wr => ∃ j : Nat, j ≤ n ∧ i = .int .i64 j ∧ m = .int .i64 (k + totL (M.take j)) ∧ Own wr B 22 A n c rows ∧ Nest wr B rows (markSS k (M.take j) ++ M.drop j) ∧ Below B w wr) (fun _ i _ => n - (intOf i).toNat)
  case atStart => exact ⟨0, by omega, rfl, by simp [totL], hm, by simpa [markSS] using hN, Below.refl _ _⟩
  case round =>
    obtain ⟨j, hj, rfl, rfl, hm2, hN2, hB⟩ := hrel
    clear hm hN
    by_cases hlt : j < n
    · have hxj : j < M.length := by rw [HML.out]; exact hlt
      have hlen : (markSS k (M.take j) ++ M.drop j).length = M.length := by rw [List.length_append, markSS_len, List.length_take, List.length_drop]; omega
      obtain ⟨Aj, cj, er, ho⟩ := hN2.row j (by rw [hlen]; exact hxj)
      have hat := markSS_at (k := k) hxj (by rw [hlen]; exact hxj)
      have hN3 := fun (ys : List Int) (w' : World) (hl : ys.length = M[j].length) (ho' : Own w' B 2 Aj M[j].length cj (ints ys)) (hg : wr.grownBy w' (Value.slice Aj M[j].length cj).ownBlock) =>
        hN2.set (w' := w') (show j < (markSS k (M.take j) ++ M.drop j).length by rw [hlen]; exact hxj) (A := Aj) (c := cj) er (ys := ys) (by rw [hat]; exact hl) (by rw [hat]; exact ho') (by rw [hat]; exact hg)
      rw [hat] at er ho
      obtain ⟨g, o, e', hc⟩ := hm2.rd.2 (by omega)
      subst e'
      have hcx := hc j _ er
      have HLj := HR.out M[j] (List.getElem_mem hxj)
      have ht1 := totL_take hxj
      have ht2 := totL_le (M := M) (j + 1)
      have ht3 := totL_le (M := M) j
      have hcall := markInt64S_any B Aj M[j].length cj M[j] (k + totL (M.take j)) wr HLj (by omega) (by omega) ho
      have HT1 := Lib.hid ht1
      have HM2 := Lib.hid hm2
      have HN3 := Lib.hid hN3
      have HO := Lib.hid ho
      clear hlen hat hN2 hN3 er ho hc ht1 ht2 ht3 hm2
      go_wp2_with fail
      refine hcall.mono ?_
      rintro e w5 ⟨rfl, ho5, hg5⟩
      clear hcall
      have hN4 := HN3.out _ _ (marks_length _ _) ho5 hg5
      rw [markSS_step k M j hxj] at hN4
      have hB5 := hB.grown hg5 (by have := hB.size; omega) (fun g' hg' => (World.ownsRow.lt HO.out g' hg').1)
      have hm5 : Own w5 B 22 (some ⟨g, o, none⟩) n c rows := HM2.out.grown hg5 (HM2.out.ne HO.out (by decide))
      clear ho5 hg5
      go_wp2
      go_roundw
      case rel => exact ⟨j + 1, by omega, by go_num, by rw [HT1.out]; congr 1; omega, hm5, hN4, hB5⟩
      case measure => simp [intOf]; omega
    · obtain rfl : j = n := by omega
      go_wp2
      go_ret
      rw [List.take_of_length_le (by rw [HML.out]; omega), List.drop_of_length_le (by rw [HML.out]; omega), List.append_nil] at hN2
      exact ⟨ret_int (by rw [List.take_of_length_le (by rw [HML.out]; omega)]), ⟨rows, hm2, hN2⟩, hB⟩

theorem markSS_get {k : Int} {M : List (List Int)} {j : Nat} (hj : j < M.length) (h : j < (markSS k M).length) : (markSS k M)[j] = marks (k + totL (M.take j)) M[j].length := by
  have h1 : markSS k M = markSS k (M.take (j + 1) ++ M.drop (j + 1)) := by rw [List.take_append_drop]
  have happ : ∀ (a b : List (List Int)) (q : Int), markSS q (a ++ b) = markSS q a ++ markSS (q + totL a) b := by
    intro a
    induction a with
    | nil => intro b q; simp [markSS, totL]
    | cons x r ih => intro b q; simp only [List.cons_append, markSS, ih, totL]; rw [show q + ((x.length + totL r : Nat) : Int) = q + x.length + totL r by omega]
  have hl : (markSS k (M.take j)).length = j := by rw [markSS_len, List.length_take]; omega
  have h2 : markSS k M = (markSS k (M.take j) ++ [marks (k + totL (M.take j)) M[j].length]) ++ markSS (k + totL (M.take (j + 1))) (M.drop (j + 1)) := by
    rw [h1, happ, List.take_succ_eq_append_getElem hj, markSS_snoc]
  have h3 : (markSS k M)[j]? = some (marks (k + totL (M.take j)) M[j].length) := by
    rw [h2, List.append_assoc, List.getElem?_append_right (by omega), hl, Nat.sub_self]
    rfl
  rw [List.getElem?_eq_getElem h] at h3
  exact Option.some.inj h3
set_option maxHeartbeats 800000 in
theorem heldInt64SS_any (A : Option Addr) (n c : Nat) (M : List (List Int)) (k : Int) (w : World) (hn : n ≤ 1099511627776) (hk0 : 0 ≤ k) (hk : k + totL M ≤ 1099511627776) (ha : RdII w A n (markSS k M)) (hr : ∀ x ∈ M, x.length ≤ 1099511627776) :
    Calls Tryz.prog 33 #[.slice A n c, .int .i64 k] w fun e w' => e = .returned (.int .i64 (k + totL M)) ∧ w = w' := by
  have HML := Lib.hid (show M.length = n by have := ha.len; rwa [markSS_len] at this)
  have HR := Lib.hid hr
  clear hr
  go_enter Tryz.func33, Tryz.ntmps33
  go_wp2
  go_loopw [1, 5] (fun m i wr => ∃ j : Nat, j ≤ n ∧ i = .int .i64 j ∧ m = .int .i64 (k + totL (M.take j)) ∧ wr = w) (fun _ i _ => n - (intOf i).toNat)
  case atStart => exact ⟨0, by omega, rfl, by simp [totL], rfl⟩
  case round =>
    obtain ⟨j, hj, rfl, rfl, rfl⟩ := hrel
    by_cases hlt : j < n
    · have hxj : j < M.length := by rw [HML.out]; exact hlt
      obtain ⟨g, o, rfl, hxk, Aj, cj, hcx, hr1, _⟩ := ha.at_ hlt
      have hg := markSS_get hxj hxk
      rw [hg, marks_length] at hcx hr1
      have HLj := HR.out M[j] (List.getElem_mem hxj)
      have ht1 := totL_take hxj
      have ht2 := totL_le (M := M) (j + 1)
      have hcall := heldInt64S_any Aj M[j].length cj (k + totL (M.take j)) wr HLj (by omega) (by omega) hr1
      have hd : decide (k + (totL (M.take j) : Int) + (M[j].length : Int) < 0) = false := by simp; omega
      have HT1 := Lib.hid ht1
      clear hg hr1 ht1 ht2 ha
      go_wp2_with fail
      refine hcall.mono ?_
      rintro e w5 ⟨rfl, rfl⟩
      clear hcall
      go_wp2
      go_roundw
      case rel => exact ⟨j + 1, by omega, by go_num, by rw [HT1.out]; congr 1; omega, trivial⟩
      case measure => simp [intOf]; omega
    · obtain rfl : j = n := by omega
      go_wp2
      go_ret
      exact ⟨ret_int (by rw [List.take_of_length_le (by rw [HML.out]; omega)]), rfl⟩

end Go.Proofs.YtommppijnccomaaGreat

/-
  What the exact laws with lists of lists need: equality, marks.
-/
import Derived.Test.YtommppijnccomaaLawKit
namespace Go.Proofs.Ytommppijnccomaa
open Go.RowKit


/-- Rows of marks, on and on. -/
def markSS : Int → List (List Int) → List (List Int)
  | _, [] => []
  | k, x :: r => marks k x.length :: markSS (k + x.length) r
/-- How many numbers in all. -/
def totL : List (List Int) → Nat
  | [] => 0
  | x :: r => x.length + totL r
theorem totL_append (a b : List (List Int)) : totL (a ++ b) = totL a + totL b := by
  induction a with
  | nil => simp [totL]
  | cons x r ih => simp only [List.cons_append, totL, ih]; omega
theorem markSS_len (k : Int) (M : List (List Int)) : (markSS k M).length = M.length := by
  induction M generalizing k with
  | nil => rfl
  | cons x r ih => simp [markSS, ih]
theorem markSS_snoc (k : Int) (M : List (List Int)) (x : List Int) : markSS k (M ++ [x]) = markSS k M ++ [marks (k + totL M) x.length] := by
  induction M generalizing k with
  | nil => simp [markSS, totL]
  | cons y r ih => simp only [List.cons_append, markSS, totL, ih]; rw [show k + ((y.length + totL r : Nat) : Int) = k + y.length + totL r by omega]
theorem totL_take {M : List (List Int)} {j : Nat} (hj : j < M.length) : totL (M.take (j + 1)) = totL (M.take j) + M[j].length := by
  rw [List.take_succ_eq_append_getElem hj, totL_append]; simp [totL]
theorem totL_le {M : List (List Int)} (j : Nat) : totL (M.take j) ≤ totL M := by
  have := totL_append (M.take j) (M.drop j)
  rw [List.take_append_drop] at this
  omega
/-- One row is marked. -/
theorem markSS_step (k : Int) (M : List (List Int)) (j : Nat) (hj : j < M.length) :
    (markSS k (M.take j) ++ M.drop j).set j (marks (k + totL (M.take j)) M[j].length) = markSS k (M.take (j + 1)) ++ M.drop (j + 1) := by
  have hl : (markSS k (M.take j)).length = j := by rw [markSS_len, List.length_take]; omega
  rw [List.set_append, if_neg (by omega), hl, Nat.sub_self, List.take_succ_eq_append_getElem hj, markSS_snoc, List.append_assoc]
  congr 1
  rw [List.drop_eq_getElem_cons hj]
  rfl
theorem markSS_at {k : Int} {M : List (List Int)} {j : Nat} (hj : j < M.length) (h : j < (markSS k (M.take j) ++ M.drop j).length) : (markSS k (M.take j) ++ M.drop j)[j] = M[j] := by
  have hl : (markSS k (M.take j)).length = j := by rw [markSS_len, List.length_take]; omega
  rw [List.getElem_append_right (by omega)]
  simp [hl]
theorem bind_own {rows : List Value} {i : Nat} {v : Value} (h : rows[i]? = some v) : (rows[i]?).bind Value.ownBlock = v.ownBlock := by rw [h]; rfl
theorem Nest.set {w w' : World} {B : Nat} {rows : List Value} {xss : List (List Int)} (h : Nest w B rows xss) {j : Nat} (hj : j < xss.length) {A : Option Addr} {c : Nat} (hr : rows[j]? = some (.slice A xss[j].length c)) {ys : List Int} (hl : ys.length = xss[j].length)
    (ho : Own w' B 2 A xss[j].length c (ints ys)) (hg : w.grownBy w' (Value.slice A xss[j].length c).ownBlock) : Nest w' B rows (xss.set j ys) := by
  refine ⟨by rw [List.length_set]; exact h.len, fun k hk => ?_, h.apart⟩
  have hk' : k < xss.length := by rw [List.length_set] at hk; exact hk
  rw [List.getElem_set]
  by_cases e : j = k
  · subst e
    rw [if_pos rfl, hl]
    exact ⟨A, c, hr, ho⟩
  · rw [if_neg e]
    obtain ⟨A', c', e', ho'⟩ := h.row k hk'
    refine ⟨A', c', e', ho'.grown hg ?_⟩
    cases hb : (Value.slice A' xss[k].length c').ownBlock with
    | none => exact .inl rfl
    | some g =>
      right
      intro hh
      rcases Nat.lt_or_ge j k with hlt | hge
      · exact h.apart j k g hlt ((bind_own hr).trans hh.symm) ((bind_own e').trans hb)
      · exact h.apart k j g (by omega) ((bind_own e').trans hb) ((bind_own hr).trans hh.symm)

/-- A slice of rows of numbers of the call's own, from block B on. -/
def OwnII (w : World) (B : Nat) (A : Option Addr) (n c : Nat) (xss : List (List Int)) : Prop := ∃ rows, Own w B 22 A n c rows ∧ Nest w B rows xss
theorem MkII.own {w0 w : World} {A : Option Addr} {n c : Nat} {xss : List (List Int)} (h : MkII w0 w A n c xss) : OwnII w w0.heap.size A n c xss := by
  obtain ⟨rows, h1, h2⟩ := h
  exact ⟨rows, h1.2, h2⟩
section
variable {w w' : World} {B B' : Nat} {A : Option Addr} {n c : Nat} {xss : List (List Int)}
theorem OwnII.len (h : OwnII w B A n c xss) : xss.length = n := by
  obtain ⟨rows, h1, h2⟩ := h
  rw [← h2.len]
  exact h1.len
theorem OwnII.rd (h : OwnII w B A n c xss) : RdII w A n xss := by
  obtain ⟨rows, hm, hn⟩ := h
  exact ⟨rows, hm.rd, hn.len, fun k hk => by obtain ⟨A', c', e, ho⟩ := hn.row k hk; exact ⟨A', c', e, ho.rd, ho.cap⟩⟩
theorem OwnII.below (h : OwnII w B A n c xss) (hb : Below w.heap.size w w') : OwnII w' B A n c xss := by
  obtain ⟨rows, hm, hn⟩ := h
  exact ⟨rows, hm.below hb, hn.below hb⟩
/-- A block below the base grows. -/
theorem OwnII.grown (h : OwnII w B A n c xss) {row : Option Nat} (hg : w.grownBy w' row) (hlow : ∀ g, row = some g → g < B) : OwnII w' B A n c xss := by
  obtain ⟨rows, hm, hn⟩ := h
  have key : ∀ {E : TypeId} {A' : Option Addr} {n' c' : Nat} {us : List Value}, Own w B E A' n' c' us → ((Value.slice A' n' c').ownBlock = none ∨ (Value.slice A' n' c').ownBlock ≠ row) := by
    intro E A' n' c' us ho
    cases hb : (Value.slice A' n' c').ownBlock with
    | none => exact .inl rfl
    | some g =>
      right
      intro e
      have h1 := hlow g e.symm
      have h2 := (World.ownsRow.lt ho g hb).1
      omega
  exact ⟨rows, hm.grown hg (key hm), hn.len, fun k hk => by obtain ⟨A', c', e, ho⟩ := hn.row k hk; exact ⟨A', c', e, ho.grown hg (key ho)⟩, hn.apart⟩
end


theorem markSS_get {k : Int} {M : List (List Int)} {j : Nat} (hj : j < M.length) (h : j < (markSS k M).length) : (markSS k M)[j] = marks (k + totL (M.take j)) M[j].length := by
  have h1 : markSS k M = markSS k (M.take (j + 1) ++ M.drop (j + 1)) := by rw [List.take_append_drop]
  have happ : ∀ (a b : List (List Int)) (q : Int), markSS q (a ++ b) = markSS q a ++ markSS (q + totL a) b := by
    intro a
    induction a with
    | nil => intro b q; simp [markSS, totL]
    | cons x r ih => intro b q; simp only [List.cons_append, markSS, ih, totL]; rw [show q + ((x.length + totL r : Nat) : Int) = q + x.length + totL r by omega]
  have hl : (markSS k (M.take j)).length = j := by rw [markSS_len, List.length_take]; omega
  have h2 : markSS k M = (markSS k (M.take j) ++ [marks (k + totL (M.take j)) M[j].length]) ++ markSS (k + totL (M.take (j + 1))) (M.drop (j + 1)) := by
    rw [h1, happ, List.take_succ_eq_append_getElem hj, markSS_snoc]
  have h3 : (markSS k M)[j]? = some (marks (k + totL (M.take j)) M[j].length) := by
    rw [h2, List.append_assoc, List.getElem?_append_right (by omega), hl, Nat.sub_self]
    rfl
  rw [List.getElem?_eq_getElem h] at h3
  exact Option.some.inj h3

end Go.Proofs.Ytommppijnccomaa

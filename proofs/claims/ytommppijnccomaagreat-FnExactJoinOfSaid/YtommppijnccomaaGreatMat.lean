/-
  Words for memory: lists of lists of numbers.
-/
import Derived.Test.YtommppijnccomaaGreatMem
namespace Go.Proofs.YtommppijnccomaaGreat
open Go.RowKit

theorem Own.ne {w : World} {B B' : Nat} {E E' : TypeId} {A A' : Option Addr} {n n' c c' : Nat} {us us' : List Value} (h : Own w B E A n c us) (h' : Own w B' E' A' n' c' us') (hE : E ≠ E') :
    (Value.slice A n c).ownBlock = none ∨ (Value.slice A n c).ownBlock ≠ (Value.slice A' n' c').ownBlock := by
  rcases h.2 with ⟨he, _⟩ | ⟨g, cap, cur, he, _, hg, _⟩
  · left; injection he with hA; subst hA; rfl
  · rcases h'.2 with ⟨he', _⟩ | ⟨g', cap', cur', he', _, hg', _⟩
    · right; injection he with hA; injection he' with hA'; subst hA; subst hA'; simp [Value.ownBlock]
    · right
      injection he with hA; injection he' with hA'; subst hA; subst hA'
      simp only [Value.ownBlock, ne_eq, Option.some.injEq]
      rintro rfl
      rw [hg] at hg'
      injection hg' with hg'
      injection hg' with _ ht
      exact hE ht

/-- Rows of numbers, each of the call's own, no two in one block. -/
structure Nest (w : World) (B : Nat) (rows : List Value) (xss : List (List Int)) : Prop where
  len : rows.length = xss.length
  row : ∀ (k : Nat) (h : k < xss.length), ∃ A c, rows[k]? = some (.slice A xss[k].length c) ∧ Own w B 2 A xss[k].length c (ints xss[k])
  apart : ∀ i j g : Nat, i < j → (rows[i]?).bind Value.ownBlock = some g → (rows[j]?).bind Value.ownBlock ≠ some g

theorem Nest.nil (w : World) (B : Nat) : Nest w B [] [] := ⟨rfl, fun k h => absurd h (by simp), fun i j g _ h => by simp at h⟩
theorem Nest.below {w w' : World} {B : Nat} {rows : List Value} {xss : List (List Int)} (h : Nest w B rows xss) (hb : Below w.heap.size w w') : Nest w' B rows xss :=
  ⟨h.len, fun k hk => by obtain ⟨A, c, e, ho⟩ := h.row k hk; exact ⟨A, c, e, ho.below hb⟩, h.apart⟩
theorem Nest.base {w : World} {B B' : Nat} {rows : List Value} {xss : List (List Int)} (h : Nest w B rows xss) (hB : B' ≤ B) : Nest w B' rows xss :=
  ⟨h.len, fun k hk => by obtain ⟨A, c, e, ho⟩ := h.row k hk; exact ⟨A, c, e, ho.base hB⟩, h.apart⟩
theorem Nest.grown {w w' : World} {B B' : Nat} {rows : List Value} {xss : List (List Int)} {E : TypeId} {A : Option Addr} {n c : Nat} {us : List Value} (h : Nest w B rows xss)
    (ho : Own w B' E A n c us) (hE : 2 ≠ E) (hg : w.grownBy w' (Value.slice A n c).ownBlock) : Nest w' B rows xss :=
  ⟨h.len, fun k hk => by obtain ⟨A', c', e, ho'⟩ := h.row k hk; exact ⟨A', c', e, ho'.grown hg (ho'.ne ho hE)⟩, h.apart⟩
theorem Nest.block {w : World} {B : Nat} {rows : List Value} {xss : List (List Int)} (h : Nest w B rows xss) (i g : Nat) (hi : (rows[i]?).bind Value.ownBlock = some g) : B ≤ g ∧ g < w.heap.size := by
  by_cases hk : i < xss.length
  · obtain ⟨A, c, e, ho⟩ := h.row i hk
    rw [e] at hi
    exact World.ownsRow.lt ho g hi
  · rw [List.getElem?_eq_none (by rw [h.len]; omega)] at hi; cases hi
theorem Nest.snoc {w w' : World} {B : Nat} {rows : List Value} {xss : List (List Int)} {A : Option Addr} {n c : Nat} {xs : List Int} (h : Nest w B rows xss) (hr : Mk w w' 2 A n c (ints xs)) (hB : B ≤ w.heap.size) :
    Nest w' B (rows ++ [.slice A n c]) (xss ++ [xs]) := by
  have hn : xs.length = n := by have := hr.2.len; rwa [ints_length] at this
  subst hn
  refine ⟨by simp [h.len], fun k hk => ?_, fun i j g hij hi => ?_⟩
  · by_cases hlt : k < xss.length
    · obtain ⟨A', c', e, ho⟩ := h.row k hlt
      rw [List.getElem_append_left hlt]
      exact ⟨A', c', by rw [List.getElem?_append_left (by rw [h.len]; exact hlt)]; exact e, ho.below hr.1⟩
    · have hk' : k = xss.length := by simp at hk; omega
      subst hk'
      simp only [List.getElem_append_right (Nat.le_refl _), Nat.sub_self, List.getElem_cons_zero]
      exact ⟨A, c, by rw [List.getElem?_append_right (by rw [h.len]; exact Nat.le_refl _), h.len, Nat.sub_self]; rfl, hr.2.base hB⟩
  · rcases Nat.lt_or_ge j rows.length with hj | hj
    · rw [List.getElem?_append_left (by omega)] at hi
      rw [List.getElem?_append_left hj]
      exact h.apart i j g hij hi
    · rcases Nat.lt_or_ge i rows.length with hil | hil
      · rw [List.getElem?_append_left hil] at hi
        have hg := (h.block i g hi).2
        rw [List.getElem?_append_right hj]
        by_cases hj0 : j - rows.length = 0
        · rw [hj0]
          intro he
          have := (World.ownsRow.lt hr.2 g (by simpa using he)).1
          omega
        · rw [List.getElem?_eq_none (by simp; omega)]; simp
      · rw [List.getElem?_append_right hj, List.getElem?_eq_none (by simp; omega)]; simp

/-- A slice of rows of numbers that the call made. -/
def MkII (w0 w : World) (A : Option Addr) (n c : Nat) (xss : List (List Int)) : Prop := ∃ rows, Mk w0 w 22 A n c rows ∧ Nest w w0.heap.size rows xss

/-- A slice of rows of numbers that is read. -/
def RdII (w : World) (A : Option Addr) (n : Nat) (xss : List (List Int)) : Prop := ∃ rows, Rd w A n rows ∧ rows.length = xss.length ∧
  ∀ (k : Nat) (h : k < xss.length), ∃ A' c', rows[k]? = some (.slice A' xss[k].length c') ∧ Rd w A' xss[k].length (ints xss[k]) ∧ xss[k].length ≤ c'

section
variable {w w' w0 w1 : World} {A : Option Addr} {n c : Nat} {xss : List (List Int)}
theorem RdII.len (h : RdII w A n xss) : xss.length = n := by obtain ⟨rows, hr, hl, _⟩ := h; rw [← hl]; exact hr.1
theorem RdII.below (h : RdII w A n xss) (hb : Below w.heap.size w w') : RdII w' A n xss := by
  obtain ⟨rows, hr, hl, hk⟩ := h
  exact ⟨rows, hr.below hb, hl, fun k hlt => by obtain ⟨A', c', e, h1, h2⟩ := hk k hlt; exact ⟨A', c', e, h1.below hb, h2⟩⟩
theorem RdII.at_ (h : RdII w A n xss) {k : Nat} (hk : k < n) : ∃ g o, A = some ⟨g, o, none⟩ ∧ ∃ (hx : k < xss.length) (A' : Option Addr) (c' : Nat),
    w.cell? ⟨g, o + k, none⟩ = some (.slice A' xss[k].length c') ∧ Rd w A' xss[k].length (ints xss[k]) ∧ xss[k].length ≤ c' := by
  have hlen := h.len
  obtain ⟨rows, hr, hl, hrow⟩ := h
  obtain ⟨g, o, e, hc⟩ := hr.2 (by omega)
  have hx : k < xss.length := by omega
  obtain ⟨A', c', he, h1, h2⟩ := hrow k hx
  exact ⟨g, o, e, hx, A', c', hc k _ he, h1, h2⟩
theorem MkII.rd (h : MkII w0 w A n c xss) : RdII w A n xss := by
  obtain ⟨rows, hm, hn⟩ := h
  exact ⟨rows, hm.rd, hn.len, fun k hk => by obtain ⟨A', c', e, ho⟩ := hn.row k hk; exact ⟨A', c', e, ho.rd, ho.cap⟩⟩
theorem MkII.len (h : MkII w0 w A n c xss) : xss.length = n := h.rd.len
theorem MkII.nil (h : Below w0.heap.size w0 w) : MkII w0 w none 0 0 [] := ⟨[], Mk.nil h, Nest.nil _ _⟩
theorem MkII.empty (h : Below w0.heap.size w0 w) : MkII w0 (w.alloc (.cells #[] 22)) (some ⟨w.heap.size, 0, none⟩) 0 0 [] := ⟨[], Mk.lit h #[] (by simp), Nest.nil _ _⟩
theorem MkII.b (h : MkII w0 w A n c xss) : Below w0.heap.size w0 w := by obtain ⟨_, h, _⟩ := h; exact h.1
theorem MkII.below (h : MkII w0 w A n c xss) (hb : Below w.heap.size w w') : MkII w0 w' A n c xss := by
  obtain ⟨rows, hm, hn⟩ := h; exact ⟨rows, hm.below hb, hn.below hb⟩
theorem MkII.after (h : MkII w1 w A n c xss) (hb : Below w0.heap.size w0 w1) : MkII w0 w A n c xss := by
  obtain ⟨rows, hm, hn⟩ := h; exact ⟨rows, hm.after hb, hn.base hb.size⟩

theorem MkII.at_ (h : MkII w0 w A n c xss) {k : Nat} (hk : k < n) : ∃ g, A = some ⟨g, 0, none⟩ ∧ ∃ (hx : k < xss.length) (A' : Option Addr) (c' : Nat),
    w.cell? ⟨g, k, none⟩ = some (.slice A' xss[k].length c') ∧ Mk w0 w 2 A' xss[k].length c' (ints xss[k]) := by
  have hlen := h.len
  obtain ⟨rows, hm, hn⟩ := h
  have hx : k < xss.length := by omega
  obtain ⟨A', c', e, ho⟩ := hn.row k hx
  rcases hm.2.form with ⟨_, h0⟩ | ⟨g, rfl, hB, hgl⟩
  · omega
  obtain ⟨u, hu, hc⟩ := hm.2.cell_ hk
  rw [e] at hu
  obtain rfl := Option.some.inj hu
  exact ⟨g, rfl, hx, A', c', hc, hm.1, ho⟩

/-- A new row is appended. -/
theorem wpList_appRow {ops : Array Oper} {rest : List Oper} {o : Oper} {a : Act} {Q : Exit → Act → World → Prop} (w0 wr w1 : World)
    (hgd : o.guard = none) (s x : Operand) (ho : o.op = .call { callee := .builtin .append, args := #[s, x], argTypes := #[37, 37] })
    (A : Option Addr) (n c : Nat) (xss : List (List Int)) (A1 : Option Addr) (m c1 : Nat) (xs : List Int) (hM : MkII w0 wr A n c xss) (hr : Mk wr w1 2 A1 m c1 (ints xs)) (hn : n ≤ 1099511627776)
    (hs : a.eval s = .slice A n c) (hx : a.eval x = .slice (some ⟨w1.heap.size, 0, none⟩) 1 1)
    (h : ∀ A' c' w', MkII w0 w' A' (n + 1) c' (xss ++ [xs]) → wpList Tryz.prog ops Q rest (a.put o.dst (.slice A' (n + 1) c')) w') :
    wpList Tryz.prog ops Q (o :: rest) a (w1.alloc (.cells #[.slice A1 m c1] 22)) := by
  obtain ⟨rows, hm, hnest⟩ := hM
  have hm1 := hm.below hr.1
  have hn1 := hnest.snoc hr hm.1.size
  refine wpList_app1 w0 w1 37 22 (.slice none 0 0) 24 Tryz.underlying37 info_s rfl (by omega) hgd s x ho A n c rows (.slice A1 m c1) hm1 hn rfl hs hx ?_
  intro A' c' w' hM' hg _
  exact h A' c' w' ⟨_, hM', hn1.grown hm1.2 (by decide) hg⟩
end

end Go.Proofs.YtommppijnccomaaGreat

/-
  Lists of lists put together: what is known of both, and the built-in append.
-/
import Derived.Test.YtommppijnccomaaGreatSub
import Derived.Deep.Upon
namespace Go.Proofs.YtommppijnccomaaGreat
open Go.RowKit

theorem Nest.join {w : World} {B : Nat} {rows rows' : List Value} {xss yss : List (List Int)} (h : Nest w B rows xss) (h' : Nest w B rows' yss)
    (hap : ∀ i j g : Nat, (rows[i]?).bind Value.ownBlock = some g → (rows'[j]?).bind Value.ownBlock ≠ some g) : Nest w B (rows ++ rows') (xss ++ yss) := by
  have hl := h.len
  have hl' := h'.len
  refine ⟨by simp [hl, hl'], fun k hk => ?_, fun i j g hij hi => ?_⟩
  · by_cases hlt : k < xss.length
    · obtain ⟨A, c, e, ho⟩ := h.row k hlt
      rw [List.getElem_append_left hlt]
      exact ⟨A, c, by rw [List.getElem?_append_left (by omega)]; exact e, ho⟩
    · have hk2 : k - xss.length < yss.length := by rw [List.length_append] at hk; omega
      obtain ⟨A, c, e, ho⟩ := h'.row (k - xss.length) hk2
      rw [List.getElem_append_right (by omega)]
      exact ⟨A, c, by rw [List.getElem?_append_right (by omega), hl]; exact e, ho⟩
  · by_cases hj : j < rows.length
    · rw [List.getElem?_append_left (by omega)] at hi
      rw [List.getElem?_append_left hj]
      exact h.apart i j g hij hi
    · rw [List.getElem?_append_right (by omega)]
      by_cases hil : i < rows.length
      · rw [List.getElem?_append_left hil] at hi
        exact hap i _ g hi
      · rw [List.getElem?_append_right (by omega)] at hi
        exact h'.apart _ _ g (by omega) hi
/-- Two lists of lists, no rows of which lie in one block; the first one is the call's own. -/
def MkII2 (w0 w : World) (A : Option Addr) (n c : Nat) (xss : List (List Int)) (B : Option Addr) (m : Nat) (yss : List (List Int)) : Prop :=
  ∃ rows rows', Mk w0 w 22 A n c rows ∧ Rd w B m rows' ∧ rows.length = xss.length ∧ Nest w w0.heap.size (rows ++ rows') (xss ++ yss)
theorem MkII2.of_first {w0 w1 w2 : World} {A B : Option Addr} {n c m d : Nat} {xss yss : List (List Int)} (h : MkII w0 w1 A n c xss) (h' : MkII w1 w2 B m d yss) : MkII2 w0 w2 A n c xss B m yss := by
  obtain ⟨rows, hm, hn⟩ := h
  obtain ⟨rows', hm', hn'⟩ := h'
  have hs := hm.1.size
  refine ⟨rows, rows', hm.below hm'.1, hm'.rd, hn.len, Nest.join (hn.below hm'.1) (hn'.base hs) fun i j g hi hj => ?_⟩
  have := (hn.block i g hi).2
  have := (hn'.block j g hj).1
  omega
theorem MkII2.of_second {w0 w1 w2 : World} {A B : Option Addr} {n c m d : Nat} {xss yss : List (List Int)} (h' : MkII w0 w1 B m d yss) (h : MkII w1 w2 A n c xss) : MkII2 w0 w2 A n c xss B m yss := by
  obtain ⟨rows, hm, hn⟩ := h
  obtain ⟨rows', hm', hn'⟩ := h'
  have hs := hm'.1.size
  refine ⟨rows, rows', hm.after hm'.1, hm'.rd.below hm.1, hn.len, Nest.join (hn.base hs) (hn'.below hm.1) fun i j g hi hj => ?_⟩
  have := (hn.block i g hi).1
  have := (hn'.block j g hj).2
  omega
theorem MkII2.below {w0 w w' : World} {A B : Option Addr} {n c m : Nat} {xss yss : List (List Int)} (h : MkII2 w0 w A n c xss B m yss) (hb : Below w.heap.size w w') : MkII2 w0 w' A n c xss B m yss := by
  obtain ⟨rows, rows', h1, h2, h3, h4⟩ := h
  exact ⟨rows, rows', h1.below hb, h2.below hb, h3, h4.below hb⟩
theorem MkII2.ne_blk {w0 w : World} {A B : Option Addr} {n c m g : Nat} {xss yss : List (List Int)} {t : TypeId} {cs : Array Value} (h : MkII2 w0 w A n c xss B m yss) (hb : Blk w g t cs) (hE : 22 ≠ t) : some g ≠ (Value.slice A n c).ownBlock := by
  obtain ⟨rows, _, hm, _⟩ := h
  exact hm.2.ne_blk hb hE
theorem MkII2.grown_below {w0 w w' : World} {A B : Option Addr} {n c m : Nat} {xss yss : List (List Int)} {X : Nat} {a : World} (h : MkII2 w0 w A n c xss B m yss) (hg : w.grownBy w' (Value.slice A n c).ownBlock) (hb : Below X a w) (hX : X ≤ w0.heap.size) : Below X a w' := by
  obtain ⟨rows, _, hm, _⟩ := h
  exact (hm.2.base hX).grown_below hg hb (Nat.le_trans hX hm.1.size)
/-- The second list is appended to the first one. -/
theorem wp_appRows {o : Oper} {a : Act} {K : Act → World → Prop} {Q : Exit → Act → World → Prop} (w0 wr : World)
    (s x : Operand) (ho : o.op = .call { callee := .builtin .append, args := #[s, x], argTypes := #[37, 37] })
    (A : Option Addr) (n c : Nat) (xss : List (List Int)) (B : Option Addr) (m d : Nat) (yss : List (List Int)) (hM : MkII2 w0 wr A n c xss B m yss) (hn : n + m ≤ 1099511627775)
    (hs : a.eval s = .slice A n c) (hx : a.eval x = .slice B m d)
    (h : ∀ A' c' w', MkII w0 w' A' (n + m) c' (xss ++ yss) → wr.grownBy w' (Value.slice A n c).ownBlock → K (a.put o.dst (.slice A' (n + m) c')) w') : o.wp Tryz.prog a wr K Q := by
  obtain ⟨rows, rows', hm, hr, hrl, hnest⟩ := hM
  obtain ⟨i, hi, h1, h2, h3⟩ := info_parts info_s
  obtain ⟨b1, b2⟩ := bound_of (show n + m - 1 ≤ 1099511627776 by omega)
  have hr1 : rows'.length = m := hr.1
  have hone : ∀ u ∈ rows', u.oneCell' = true := fun u hu => by
    obtain ⟨k, hk, rfl⟩ := List.getElem_of_mem hu
    have hkl : rows.length + k < (xss ++ yss).length := by rw [← hnest.len, List.length_append]; omega
    obtain ⟨A2, c2, e, _⟩ := hnest.row (rows.length + k) hkl
    rw [List.getElem?_append_right (by omega), Nat.add_sub_cancel_left, List.getElem?_eq_getElem hk] at e
    rw [Option.some.inj e]; rfl
  have key : ∃ A' c' w', (Builtin.append_ #[37, 37] o.type #[.slice A n c, .slice B m d]).run Tryz.prog wr = .ok (.slice A' (n + m) c') w' ∧ Own w' w0.heap.size 22 A' (n + m) c' (rows ++ rows') ∧ wr.grownBy w' (Value.slice A n c).ownBlock := by
    by_cases hm0 : m = 0
    · subst hm0
      obtain rfl : rows' = [] := List.eq_nil_of_length_eq_zero hr1
      have hsrc : Src Tryz.prog i.size 37 (.slice B 0 d) 0 [] wr := by
        cases B with
        | none => exact Src.ofNil wr Tryz.underlying37 d
        | some ad => exact Src.ofSlice wr Tryz.underlying37 ad 0 d [] (by simp) (fun j u hu => by simp at hu) (fun u hu => by simp at hu)
      refine ⟨A, c, wr, run_append_nothing wr _ _ _ _ i Tryz.underlying37 hi A n c hm.2.cap _ hsrc, ?_, World.grownBy.refl _ _⟩
      rw [List.append_nil]
      exact hm.2
    · obtain ⟨g, o', rfl, hc⟩ := hr.2 (by omega)
      obtain ⟨g', cap, w', hrun, hown, hg, _, _⟩ := run_append_lies (P := Tryz.prog) (w := wr) 37 o.type w0.heap.size 22 i (.slice none 0 0) 1 24 Tryz.underlying37 hi h1 h2 h3 rfl (by omega) (.slice A n c) n rows hm.2 ⟨g, o', none⟩ m d rows' (by omega)
        (fun j u hu => by rw [Addr.add_lit]; exact hc j u hu) hone (by omega) (by simp only [maxLen]; omega) (by omega) hm.1.size _ rfl
      exact ⟨_, _, _, hrun, hown, hg⟩
  obtain ⟨A', c', w', hrun, hown, hg⟩ := key
  unfold Oper.wp execOp
  simp only [ho, resolve, invoke, builtin, Sem.run_bind, Sem.run_pure, Result.andThen_ok, List.map_toArray, List.map_cons, List.map_nil, hs, hx, hrun]
  exact h A' c' w' ⟨rows ++ rows', ⟨hm.1.grown hg hm.1.size (fun k hk => (hm.2.lt k hk).1), hown⟩, hnest.grown hm.2 (by decide) hg⟩ hg
end Go.Proofs.YtommppijnccomaaGreat

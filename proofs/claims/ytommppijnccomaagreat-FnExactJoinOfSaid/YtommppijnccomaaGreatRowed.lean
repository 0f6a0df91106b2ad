/-
  Lists of lists in memory: a row replaced by a new one, rows exchanged. No condition.
-/
import Derived.Test.YtommppijnccomaaGreatLin
import Derived.Test.YtommppijnccomaaGreatTasks
namespace Go.Proofs.YtommppijnccomaaGreat
open Go.RowKit

theorem Nest.setNew {w1 w2 : World} {B : Nat} {rows : List Value} {xss : List (List Int)} {A : Option Addr} {n c : Nat} {xs : List Int} (h : Nest w1 B rows xss) (hr : Mk w1 w2 2 A n c (ints xs)) (hB : B ≤ w1.heap.size) (k : Nat) :
    Nest w2 B (rows.set k (.slice A n c)) (xss.set k xs) := by
  have hn : xs.length = n := by have := hr.2.len; rwa [ints_length] at this
  subst hn
  have hnew : ∀ g, (Value.slice A xs.length c).ownBlock = some g → w1.heap.size ≤ g := fun g hg => (World.ownsRow.lt hr.2 g hg).1
  refine ⟨by simp [h.len], fun j hj => ?_, fun i j g hij hi => ?_⟩
  · have hj' : j < xss.length := by simpa using hj
    by_cases hk : k = j
    · subst hk
      rw [List.getElem_set_self]
      exact ⟨A, c, by rw [List.getElem?_set_self (by rw [h.len]; exact hj')], hr.2.base hB⟩
    · obtain ⟨A', c', e, ho⟩ := h.row j hj'
      rw [List.getElem_set_ne hk]
      exact ⟨A', c', by rw [List.getElem?_set_ne hk]; exact e, ho.below hr.1⟩
  · rw [List.getElem?_set] at hi ⊢
    by_cases hki : k = i
    · subst hki
      rw [if_pos rfl] at hi
      rw [if_neg (by omega)]
      split at hi
      · intro hj
        have h1 := (h.block j g hj).2
        have h2 := hnew g (by simpa using hi)
        omega
      · simp at hi
    · rw [if_neg hki] at hi
      have hgi := (h.block i g hi).2
      by_cases hkj : k = j
      · rw [if_pos hkj]
        split
        · intro hj
          have h2 := hnew g (by simpa using hj)
          omega
        · simp
      · rw [if_neg hkj]
        exact h.apart i j g hij hi

theorem Nest.apart_ne {w : World} {B : Nat} {rows : List Value} {xss : List (List Int)} (h : Nest w B rows xss) (i j g : Nat) (hij : i ≠ j) (hi : (rows[i]?).bind Value.ownBlock = some g) : (rows[j]?).bind Value.ownBlock ≠ some g := by
  rcases Nat.lt_or_gt_of_ne hij with hlt | hgt
  · exact h.apart i j g hlt hi
  · intro hj
    exact h.apart j i g hgt hj hi
/-- The rows in another order. -/
theorem Nest.moved {w : World} {B : Nat} {rows rows' : List Value} {xss xss' : List (List Int)} (h : Nest w B rows xss) (s : Nat → Nat) (hs : ∀ i j, i ≠ j → s i ≠ s j) (hl : rows'.length = xss'.length) (hr : ∀ k, rows'[k]? = rows[s k]?) (hx : ∀ k, xss'[k]? = xss[s k]?) : Nest w B rows' xss' := by
  refine ⟨hl, fun k hk => ?_, fun i j g hij hi => ?_⟩
  · have e := hx k
    rw [List.getElem?_eq_getElem hk] at e
    obtain ⟨hk', e'⟩ := List.getElem?_eq_some_iff.1 e.symm
    obtain ⟨A, c, er, ho⟩ := h.row (s k) hk'
    rw [e'] at er ho
    exact ⟨A, c, by rw [hr k, er], ho⟩
  · rw [hr] at hi ⊢
    exact h.apart_ne _ _ _ (hs i j (by omega)) hi

theorem swapL_get? (m : List (List Int)) {i j : Nat} (hi : i < m.length) (hj : j < m.length) (k : Nat) : (swapL m i j)[k]? = m[if k = j then i else if k = i then j else k]? := by
  unfold swapL
  rw [List.getElem?_set, List.getElem?_set]
  by_cases h1 : j = k
  · subst h1
    rw [if_pos rfl, if_pos rfl, List.length_set, if_pos hj, getD_of_lt [] hi, List.getElem?_eq_getElem hi]
  · have h1' : ¬ k = j := fun e => h1 e.symm
    rw [if_neg h1, if_neg h1']
    by_cases h2 : i = k
    · subst h2
      rw [if_pos rfl, if_pos rfl, if_pos hi, getD_of_lt [] hj, List.getElem?_eq_getElem hj]
    · have h2' : ¬ k = i := fun e => h2 e.symm
      rw [if_neg h2, if_neg h2']
theorem swapV_get? (m : List Value) {i j : Nat} {ri rj : Value} (hi : m[i]? = some ri) (hj : m[j]? = some rj) (k : Nat) : ((m.set i rj).set j ri)[k]? = m[if k = j then i else if k = i then j else k]? := by
  have hil := (List.getElem?_eq_some_iff.1 hi).1
  have hjl := (List.getElem?_eq_some_iff.1 hj).1
  rw [List.getElem?_set, List.getElem?_set]
  by_cases h1 : j = k
  · subst h1
    rw [if_pos rfl, if_pos rfl, List.length_set, if_pos hjl, hi]
  · have h1' : ¬ k = j := fun e => h1 e.symm
    rw [if_neg h1, if_neg h1']
    by_cases h2 : i = k
    · subst h2
      rw [if_pos rfl, if_pos rfl, if_pos hil, hj]
    · have h2' : ¬ k = i := fun e => h2 e.symm
      rw [if_neg h2, if_neg h2']
theorem Nest.swap {w : World} {B : Nat} {rows : List Value} {xss : List (List Int)} (h : Nest w B rows xss) {i j : Nat} {ri rj : Value} (hi : rows[i]? = some ri) (hj : rows[j]? = some rj) : Nest w B ((rows.set i rj).set j ri) (swapL xss i j) := by
  have hil := (List.getElem?_eq_some_iff.1 hi).1
  have hjl := (List.getElem?_eq_some_iff.1 hj).1
  rw [h.len] at hil hjl
  refine h.moved (fun k => if k = j then i else if k = i then j else k) (fun a b hab => ?_) (by simp [swapL, h.len]) (swapV_get? rows hi hj) (swapL_get? xss hil hjl)
  show (if a = j then i else if a = i then j else a) ≠ (if b = j then i else if b = i then j else b)
  split <;> split <;> (try split) <;> (try split) <;> omega

section
variable {w0 w w1 w2 : World} {g n c : Nat} {xss : List (List Int)}
/-- Rows exchanged. -/
theorem MkII.swap (h : MkII w0 w (some ⟨g, 0, none⟩) n c xss) {i j : Nat} (hi : i < n) (hj : j < n) {ri rj : Value} (ci : w.cell? ⟨g, i, none⟩ = some ri) (cj : w.cell? ⟨g, j, none⟩ = some rj) :
    MkII w0 ((w.setCell ⟨g, i, none⟩ rj).setCell ⟨g, j, none⟩ ri) (some ⟨g, 0, none⟩) n c (swapL xss i j) := by
  obtain ⟨rows, hm, hn⟩ := h
  have ei : rows[i]? = some ri := by
    obtain ⟨u, hu, hc⟩ := hm.2.cell_ hi
    rw [hu, ← ci, hc]
  have ej : rows[j]? = some rj := by
    obtain ⟨u, hu, hc⟩ := hm.2.cell_ hj
    rw [hu, ← cj, hc]
  obtain ⟨m1, g1⟩ := hm.set i rj
  obtain ⟨m2, g2⟩ := m1.set j ri
  exact ⟨_, m2, ((hn.grown hm.2 (by decide) g1).grown m1.2 (by decide) g2).swap ei ej⟩
/-- A row replaced by a new one. -/
theorem MkII.setRow (h : MkII w0 w1 (some ⟨g, 0, none⟩) n c xss) {A1 : Option Addr} {m c1 : Nat} {xs : List Int} (hr : Mk w1 w2 2 A1 m c1 (ints xs)) (k : Nat) :
    MkII w0 (w2.setCell ⟨g, k, none⟩ (.slice A1 m c1)) (some ⟨g, 0, none⟩) n c (xss.set k xs) := by
  obtain ⟨rows, hm, hn⟩ := h
  have hm2 := hm.below hr.1
  obtain ⟨m1, g1⟩ := hm2.set k (.slice A1 m c1)
  exact ⟨_, m1, (hn.setNew hr hm.1.size k).grown hm2.2 (by decide) g1⟩
/-- A row of its own stays when a cell of the outer list is written. -/
theorem MkII.rowKept (h : MkII w0 w (some ⟨g, 0, none⟩) n c xss) {B : Nat} {A' : Option Addr} {m c' : Nat} {us : List Value} (ho : Own w B 2 A' m c' us) (k : Nat) (u : Value) : Own (w.setCell ⟨g, k, none⟩ u) B 2 A' m c' us := by
  obtain ⟨rows, hm, hn⟩ := h
  obtain ⟨m1, g1⟩ := hm.set k u
  exact ho.grown g1 (ho.ne hm.2 (by decide))
/-- One row's place is given to another row, which is then replaced by a new one. -/
theorem MkII.swapSet (h : MkII w0 w (some ⟨g, 0, none⟩) n c xss) {f d : Nat} (hf : f < n) (hd : d < n) {rf rd : Value} (cf : w.cell? ⟨g, f, none⟩ = some rf) (cd : w.cell? ⟨g, d, none⟩ = some rd)
    {A1 : Option Addr} {m c1 : Nat} {xs : List Int} (hr : Mk (w.setCell ⟨g, f, none⟩ rd) w2 2 A1 m c1 (ints xs)) :
    MkII w0 (w2.setCell ⟨g, d, none⟩ (.slice A1 m c1)) (some ⟨g, 0, none⟩) n c ((swapL xss d f).set d xs) := by
  obtain ⟨rows, hm, hn⟩ := h
  have ef : rows[f]? = some rf := by
    obtain ⟨u, hu, hc⟩ := hm.2.cell_ hf
    rw [hu, ← cf, hc]
  have ed : rows[d]? = some rd := by
    obtain ⟨u, hu, hc⟩ := hm.2.cell_ hd
    rw [hu, ← cd, hc]
  obtain ⟨m1, g1⟩ := hm.set f rd
  have hm2 := m1.below hr.1
  obtain ⟨m3, g3⟩ := hm2.set d (.slice A1 m c1)
  have hsz : w0.heap.size ≤ (w.setCell ⟨g, f, none⟩ rd).heap.size := m1.1.size
  have hns := ((hn.grown hm.2 (by decide) g1).swap ed ef).setNew hr hsz d
  have e1 : (((rows.set d rf).set f rd).set d (.slice A1 m c1)) = ((rows.set f rd).set d (.slice A1 m c1)) := by
    apply List.ext_getElem?
    intro k
    simp only [List.getElem?_set, List.length_set]
    by_cases h1 : d = k
    · simp [h1]
    · simp only [h1, if_false]
  rw [e1] at hns
  exact ⟨_, m3, hns.grown hm2.2 (by decide) g3⟩
theorem MkII.frozen_ (h : MkII w0 w (some ⟨g, 0, none⟩) n c xss) (k : Nat) : w.frozen? ⟨g, k, none⟩ = false := by
  obtain ⟨rows, hm, _⟩ := h
  exact hm.2.frozen_ k
theorem MkII.cellSet (h : MkII w0 w (some ⟨g, 0, none⟩) n c xss) (k : Nat) {A1 : Option Addr} {m c1 : Nat} {j : Nat} (hj : j < n) : ∃ v, (w.setCell ⟨g, k, none⟩ (.slice A1 m c1)).cell? ⟨g, j, none⟩ = some v := by
  obtain ⟨rows, hm, _⟩ := h
  obtain ⟨m1, _⟩ := hm.set k (.slice A1 m c1)
  obtain ⟨v, _, hv⟩ := m1.2.cell_ hj
  exact ⟨v, hv⟩
theorem MkII.outSet (h : MkII w0 w (some ⟨g, 0, none⟩) n c xss) (k : Nat) (u : Value) : ∃ us, Mk w0 (w.setCell ⟨g, k, none⟩ u) 22 (some ⟨g, 0, none⟩) n c us := by
  obtain ⟨rows, hm, _⟩ := h
  exact ⟨_, (hm.set k u).1⟩
theorem MkII.outer {A : Option Addr} (h : MkII w0 w A n c xss) : ∃ us, Mk w0 w 22 A n c us := by
  obtain ⟨rows, hm, _⟩ := h
  exact ⟨_, hm⟩
/-- The list cut down. -/
theorem MkII.cut {A : Option Addr} {k : Nat} (h : MkII w0 w A n c xss) (hk : k ≤ n) : MkII w0 w A k c (xss.take k) := by
  obtain ⟨rows, hm, hn⟩ := h
  refine ⟨rows.take k, ⟨hm.1, hm.2.cut hk⟩, by rw [List.length_take, List.length_take, hn.len], fun j hj => ?_, fun i j b hij hi => ?_⟩
  · have hj2 : j < k ∧ j < xss.length := by rw [List.length_take] at hj; omega
    obtain ⟨A', c', e, ho⟩ := hn.row j hj2.2
    rw [List.getElem_take]
    exact ⟨A', c', by rw [List.getElem?_take, if_pos hj2.1]; exact e, ho⟩
  · rw [List.getElem?_take] at hi ⊢
    split at hi
    · split
      · exact hn.apart i j b hij hi
      · simp
    · simp at hi
end

theorem ent_at {M : List (List Int)} {i k : Nat} (hi : i < M.length) (hk : k < M[i].length) : ent M i k = M[i][k] := by
  unfold ent
  rw [getD_of_lt [] hi, getD_of_lt 0 hk]

theorem Own.keep {w w' : World} {B : Nat} {E : TypeId} {A : Option Addr} {n c : Nat} {us : List Value} (h : Own w B E A n c us) (hk : ∀ b, B ≤ b → b < w.heap.size → w'.heap[b]? = w.heap[b]?) : Rd w' A n us := by
  refine ⟨h.len, fun hn => ?_⟩
  rcases h.form with ⟨_, h0⟩ | ⟨g, rfl, hg, hg2⟩
  · omega
  · obtain ⟨g', o, e, hc⟩ := h.rd.2 hn
    refine ⟨g', o, e, fun k u hu => ?_⟩
    injection e with e
    injection e with e1 _ _
    subst e1
    exact (World.cell?_of_block (hk g hg hg2)).trans (hc k u hu)
theorem MkII.keep {w0 w w' : World} {A : Option Addr} {n c : Nat} {xss : List (List Int)} (h : MkII w0 w A n c xss) (hk : ∀ b, w0.heap.size ≤ b → b < w.heap.size → w'.heap[b]? = w.heap[b]?) : RdII w' A n xss := by
  obtain ⟨rows, hm, hn⟩ := h
  exact ⟨rows, hm.2.keep hk, hn.len, fun k hk' => by obtain ⟨A', c', e, ho⟩ := hn.row k hk'; exact ⟨A', c', e, ho.keep hk, ho.cap⟩⟩
/-- A new row is appended: what else is said of memory, too. -/
theorem wpList_appRowG {ops : Array Oper} {rest : List Oper} {o : Oper} {a : Act} {Q : Exit → Act → World → Prop} (w0 wr w1 : World)
    (hgd : o.guard = none) (s x : Operand) (ho : o.op = .call { callee := .builtin .append, args := #[s, x], argTypes := #[37, 37] })
    (A : Option Addr) (n c : Nat) (xss : List (List Int)) (A1 : Option Addr) (m c1 : Nat) (xs : List Int) (hM : MkII w0 wr A n c xss) (hr : Mk wr w1 2 A1 m c1 (ints xs)) (hn : n ≤ 1099511627776)
    (hs : a.eval s = .slice A n c) (hx : a.eval x = .slice (some ⟨w1.heap.size, 0, none⟩) 1 1)
    (h : ∀ A' c' w', MkII w0 w' A' (n + 1) c' (xss ++ [xs]) → w1.grownBy w' (Value.slice A n c).ownBlock → (∃ g, A' = some ⟨g, 0, none⟩ ∧ ((Value.slice A n c).ownBlock = some g ∨ w1.heap.size ≤ g)) → wpList Tryz.prog ops Q rest (a.put o.dst (.slice A' (n + 1) c')) w') :
    wpList Tryz.prog ops Q (o :: rest) a (w1.alloc (.cells #[.slice A1 m c1] 22)) := by
  obtain ⟨rows, hm, hnest⟩ := hM
  have hm1 := hm.below hr.1
  have hn1 := hnest.snoc hr hm.1.size
  refine wpList_app1 w0 w1 37 22 (.slice none 0 0) 24 Tryz.underlying37 info_s rfl (by omega) hgd s x ho A n c rows (.slice A1 m c1) hm1 hn rfl hs hx ?_
  intro A' c' w' hM' hg hat
  exact h A' c' w' ⟨_, hM', hn1.grown hm1.2 (by decide) hg⟩ hg hat
/-- What is kept of the blocks between two sizes, and where a list lies that grows. -/
def Keeps (w2 w3 wr : World) (v : Value) : Prop := w3.heap.size ≤ wr.heap.size ∧ (∀ b, w2.heap.size ≤ b → b < w3.heap.size → wr.heap[b]? = w3.heap[b]?) ∧ ∀ gb, v.ownBlock = some gb → gb < w2.heap.size ∨ w3.heap.size ≤ gb
theorem lt_of_own {g gb k n c : Nat} (e : (Value.slice (some ⟨g, 0, none⟩) n c).ownBlock = some gb) (h : g < k) : gb < k := by
  have : g = gb := by simpa [Value.ownBlock] using e
  omega
theorem Keeps.step {w2 w3 wr w5 w6 : World} {A A' : Option Addr} {n c c' n' : Nat} (h : Keeps w2 w3 wr (.slice A n c)) (hb : Below wr.heap.size wr w5) (hg : w5.grownBy w6 (Value.slice A n c).ownBlock)
    (hat : ∃ g, A' = some ⟨g, 0, none⟩ ∧ ((Value.slice A n c).ownBlock = some g ∨ w5.heap.size ≤ g)) : Keeps w2 w3 w6 (.slice A' n' c') := by
  obtain ⟨h1, h2, h3⟩ := h
  have s1 := hb.size
  have s2 := hg.size
  refine ⟨by omega, fun b hb1 hb2 => ?_, fun gb hgb => ?_⟩
  · rw [hg.block b (by omega) (fun e => ?_), hb.block b (by omega), h2 b hb1 hb2]
    rcases h3 b e.symm with h | h <;> omega
  · obtain ⟨g, rfl, hor⟩ := hat
    have : g = gb := by simpa [Value.ownBlock] using hgb
    subst this
    rcases hor with he | he
    · exact h3 g he
    · right; omega

theorem MkII.ne_blk {w0 w : World} {A : Option Addr} {n c g : Nat} {xss : List (List Int)} {t : TypeId} {cs : Array Value} (h : MkII w0 w A n c xss) (hb : Blk w g t cs) (hE : 22 ≠ t) : some g ≠ (Value.slice A n c).ownBlock := by
  obtain ⟨rows, hm, _⟩ := h
  exact hm.2.ne_blk hb hE
theorem RdII.row0 {w : World} {g o n : Nat} {M : List (List Int)} {p : Int} {m : Nat} (h : RdII w (some ⟨g, o, none⟩) n M) (h0 : 0 < n) (hT : Tab p m M) : ∃ A0 c0, w.cell? ⟨g, o, none⟩ = some (.slice A0 m c0) := by
  obtain ⟨g', o', e', hx0, A0, c0, hc, _, _⟩ := h.at_ h0
  injection e' with e'
  injection e' with e1 e2 _
  subst e1; subst e2
  refine ⟨A0, c0, ?_⟩
  rw [Nat.add_zero] at hc
  rw [hc, (hT M[0] (List.getElem_mem hx0)).1]


end Go.Proofs.YtommppijnccomaaGreat

/-
  LawFnJoins: part 3 of the texts that the proof needs. No condition.
-/
import Derived.Test.YtggigolkncckoaaGreatP2
namespace Go.Proofs.YtggigolkncckoaaGreat
open Go.RowKit
theorem Nest.setNew {w1 w2 : World} {B : Nat} {rows : List Value} {xss : List (List Int)} {A : Option Addr} {n c : Nat} {xs : List Int} (h : Nest w1 B rows xss) (hr : Mk w1 w2 2 A n c (ints xs)) (hB : B ≤ w1.heap.size) (k : Nat) :
    Nest w2 B (rows.set k (.slice A n c)) (xss.set k xs) := by
  have hn : xs.length = n := by have := hr.2.len; rwa [ints_length] at this
  subst hn
  have hnew : ∀ g, (Value.slice A xs.length c).ownBlock = some g → w1.heap.size ≤ g := fun g hg => (World.ownsRow.lt hr.2 g hg).1
  refine ⟨by simp [h.len], fun j hj => ?_, fun i j g hij hi => ?_⟩
  · have hj' : j < xss.length := by simpa using hj
    by_cases hk : k = j
    · subst hk
      rw [List.getElem_set_self]
      exact ⟨A, c, by rw [List.getElem?_set_self (by rw [h.len]; exact hj')], hr.2.base hB⟩
    · obtain ⟨A', c', e, ho⟩ := h.row j hj'
      rw [List.getElem_set_ne hk]
      exact ⟨A', c', by rw [List.getElem?_set_ne hk]; exact e, ho.below hr.1⟩
  · rw [List.getElem?_set] at hi ⊢
    by_cases hki : k = i
    · subst hki
      rw [if_pos rfl] at hi
      rw [if_neg (by omega)]
      split at hi
      · intro hj
        have h1 := (h.block j g hj).2
        have h2 := hnew g (by simpa using hi)
        omega
      · simp at hi
    · rw [if_neg hki] at hi
      have hgi := (h.block i g hi).2
      by_cases hkj : k = j
      · rw [if_pos hkj]
        split
        · intro hj
          have h2 := hnew g (by simpa using hj)
          omega
        · simp
      · rw [if_neg hkj]
        exact h.apart i j g hij hi
theorem Nest.apart_ne {w : World} {B : Nat} {rows : List Value} {xss : List (List Int)} (h : Nest w B rows xss) (i j g : Nat) (hij : i ≠ j) (hi : (rows[i]?).bind Value.ownBlock = some g) : (rows[j]?).bind Value.ownBlock ≠ some g := by
  rcases Nat.lt_or_gt_of_ne hij with hlt | hgt
  · exact h.apart i j g hlt hi
  · intro hj
    exact h.apart j i g hgt hj hi
/-- The rows in another order. -/
theorem Nest.moved {w : World} {B : Nat} {rows rows' : List Value} {xss xss' : List (List Int)} (h : Nest w B rows xss) (s : Nat → Nat) (hs : ∀ i j, i ≠ j → s i ≠ s j) (hl : rows'.length = xss'.length) (hr : ∀ k, rows'[k]? = rows[s k]?) (hx : ∀ k, xss'[k]? = xss[s k]?) : Nest w B rows' xss' := by
  refine ⟨hl, fun k hk => ?_, fun i j g hij hi => ?_⟩
  · have e := hx k
    rw [List.getElem?_eq_getElem hk] at e
    obtain ⟨hk', e'⟩ := List.getElem?_eq_some_iff.1 e.symm
    obtain ⟨A, c, er, ho⟩ := h.row (s k) hk'
    rw [e'] at er ho
    exact ⟨A, c, by rw [hr k, er], ho⟩
  · rw [hr] at hi ⊢
    exact h.apart_ne _ _ _ (hs i j (by omega)) hi
theorem swapL_get? (m : List (List Int)) {i j : Nat} (hi : i < m.length) (hj : j < m.length) (k : Nat) : (swapL m i j)[k]? = m[if k = j then i else if k = i then j else k]? := by
  unfold swapL
  rw [List.getElem?_set, List.getElem?_set]
  by_cases h1 : j = k
  · subst h1
    rw [if_pos rfl, if_pos rfl, List.length_set, if_pos hj, getD_of_lt [] hi, List.getElem?_eq_getElem hi]
  · have h1' : ¬ k = j := fun e => h1 e.symm
    rw [if_neg h1, if_neg h1']
    by_cases h2 : i = k
    · subst h2
      rw [if_pos rfl, if_pos rfl, if_pos hi, getD_of_lt [] hj, List.getElem?_eq_getElem hj]
    · have h2' : ¬ k = i := fun e => h2 e.symm
      rw [if_neg h2, if_neg h2']
theorem swapV_get? (m : List Value) {i j : Nat} {ri rj : Value} (hi : m[i]? = some ri) (hj : m[j]? = some rj) (k : Nat) : ((m.set i rj).set j ri)[k]? = m[if k = j then i else if k = i then j else k]? := by
  have hil := (List.getElem?_eq_some_iff.1 hi).1
  have hjl := (List.getElem?_eq_some_iff.1 hj).1
  rw [List.getElem?_set, List.getElem?_set]
  by_cases h1 : j = k
  · subst h1
    rw [if_pos rfl, if_pos rfl, List.length_set, if_pos hjl, hi]
  · have h1' : ¬ k = j := fun e => h1 e.symm
    rw [if_neg h1, if_neg h1']
    by_cases h2 : i = k
    · subst h2
      rw [if_pos rfl, if_pos rfl, if_pos hil, hj]
    · have h2' : ¬ k = i := fun e => h2 e.symm
      rw [if_neg h2, if_neg h2']
theorem Nest.swap {w : World} {B : Nat} {rows : List Value} {xss : List (List Int)} (h : Nest w B rows xss) {i j : Nat} {ri rj : Value} (hi : rows[i]? = some ri) (hj : rows[j]? = some rj) : Nest w B ((rows.set i rj).set j ri) (swapL xss i j) := by
  have hil := (List.getElem?_eq_some_iff.1 hi).1
  have hjl := (List.getElem?_eq_some_iff.1 hj).1
  rw [h.len] at hil hjl
  refine h.moved (fun k => if k = j then i else if k = i then j else k) (fun a b hab => ?_) (by simp [swapL, h.len]) (swapV_get? rows hi hj) (swapL_get? xss hil hjl)
  show (if a = j then i else if a = i then j else a) ≠ (if b = j then i else if b = i then j else b)
  split <;> split <;> (try split) <;> (try split) <;> omega
section
variable {w0 w w1 w2 : World} {g n c : Nat} {xss : List (List Int)}
/-- Rows exchanged. -/
theorem MkII.swap (h : MkII w0 w (some ⟨g, 0, none⟩) n c xss) {i j : Nat} (hi : i < n) (hj : j < n) {ri rj : Value} (ci : w.cell? ⟨g, i, none⟩ = some ri) (cj : w.cell? ⟨g, j, none⟩ = some rj) :
    MkII w0 ((w.setCell ⟨g, i, none⟩ rj).setCell ⟨g, j, none⟩ ri) (some ⟨g, 0, none⟩) n c (swapL xss i j) := by
  obtain ⟨rows, hm, hn⟩ := h
  have ei : rows[i]? = some ri := by
    obtain ⟨u, hu, hc⟩ := hm.2.cell_ hi
    rw [hu, ← ci, hc]
  have ej : rows[j]? = some rj := by
    obtain ⟨u, hu, hc⟩ := hm.2.cell_ hj
    rw [hu, ← cj, hc]
  obtain ⟨m1, g1⟩ := hm.set i rj
  obtain ⟨m2, g2⟩ := m1.set j ri
  exact ⟨_, m2, ((hn.grown hm.2 (by decide) g1).grown m1.2 (by decide) g2).swap ei ej⟩
/-- A row replaced by a new one. -/
theorem MkII.setRow (h : MkII w0 w1 (some ⟨g, 0, none⟩) n c xss) {A1 : Option Addr} {m c1 : Nat} {xs : List Int} (hr : Mk w1 w2 2 A1 m c1 (ints xs)) (k : Nat) :
    MkII w0 (w2.setCell ⟨g, k, none⟩ (.slice A1 m c1)) (some ⟨g, 0, none⟩) n c (xss.set k xs) := by
  obtain ⟨rows, hm, hn⟩ := h
  have hm2 := hm.below hr.1
  obtain ⟨m1, g1⟩ := hm2.set k (.slice A1 m c1)
  exact ⟨_, m1, (hn.setNew hr hm.1.size k).grown hm2.2 (by decide) g1⟩
/-- A row of its own stays when a cell of the outer list is written. -/
theorem MkII.rowKept (h : MkII w0 w (some ⟨g, 0, none⟩) n c xss) {B : Nat} {A' : Option Addr} {m c' : Nat} {us : List Value} (ho : Own w B 2 A' m c' us) (k : Nat) (u : Value) : Own (w.setCell ⟨g, k, none⟩ u) B 2 A' m c' us := by
  obtain ⟨rows, hm, hn⟩ := h
  obtain ⟨m1, g1⟩ := hm.set k u
  exact ho.grown g1 (ho.ne hm.2 (by decide))
/-- One row's place is given to another row, which is then replaced by a new one. -/
theorem MkII.swapSet (h : MkII w0 w (some ⟨g, 0, none⟩) n c xss) {f d : Nat} (hf : f < n) (hd : d < n) {rf rd : Value} (cf : w.cell? ⟨g, f, none⟩ = some rf) (cd : w.cell? ⟨g, d, none⟩ = some rd)
    {A1 : Option Addr} {m c1 : Nat} {xs : List Int} (hr : Mk (w.setCell ⟨g, f, none⟩ rd) w2 2 A1 m c1 (ints xs)) :
    MkII w0 (w2.setCell ⟨g, d, none⟩ (.slice A1 m c1)) (some ⟨g, 0, none⟩) n c ((swapL xss d f).set d xs) := by
  obtain ⟨rows, hm, hn⟩ := h
  have ef : rows[f]? = some rf := by
    obtain ⟨u, hu, hc⟩ := hm.2.cell_ hf
    rw [hu, ← cf, hc]
  have ed : rows[d]? = some rd := by
    obtain ⟨u, hu, hc⟩ := hm.2.cell_ hd
    rw [hu, ← cd, hc]
  obtain ⟨m1, g1⟩ := hm.set f rd
  have hm2 := m1.below hr.1
  obtain ⟨m3, g3⟩ := hm2.set d (.slice A1 m c1)
  have hsz : w0.heap.size ≤ (w.setCell ⟨g, f, none⟩ rd).heap.size := m1.1.size
  have hns := ((hn.grown hm.2 (by decide) g1).swap ed ef).setNew hr hsz d
  have e1 : (((rows.set d rf).set f rd).set d (.slice A1 m c1)) = ((rows.set f rd).set d (.slice A1 m c1)) := by
    apply List.ext_getElem?
    intro k
    simp only [List.getElem?_set, List.length_set]
    by_cases h1 : d = k
    · simp [h1]
    · simp only [h1, if_false]
  rw [e1] at hns
  exact ⟨_, m3, hns.grown hm2.2 (by decide) g3⟩
theorem MkII.frozen_ (h : MkII w0 w (some ⟨g, 0, none⟩) n c xss) (k : Nat) : w.frozen? ⟨g, k, none⟩ = false := by
  obtain ⟨rows, hm, _⟩ := h
  exact hm.2.frozen_ k
theorem MkII.cellSet (h : MkII w0 w (some ⟨g, 0, none⟩) n c xss) (k : Nat) {A1 : Option Addr} {m c1 : Nat} {j : Nat} (hj : j < n) : ∃ v, (w.setCell ⟨g, k, none⟩ (.slice A1 m c1)).cell? ⟨g, j, none⟩ = some v := by
  obtain ⟨rows, hm, _⟩ := h
  obtain ⟨m1, _⟩ := hm.set k (.slice A1 m c1)
  obtain ⟨v, _, hv⟩ := m1.2.cell_ hj
  exact ⟨v, hv⟩
theorem MkII.outSet (h : MkII w0 w (some ⟨g, 0, none⟩) n c xss) (k : Nat) (u : Value) : ∃ us, Mk w0 (w.setCell ⟨g, k, none⟩ u) 24 (some ⟨g, 0, none⟩) n c us := by
  obtain ⟨rows, hm, _⟩ := h
  exact ⟨_, (hm.set k u).1⟩
theorem MkII.outer {A : Option Addr} (h : MkII w0 w A n c xss) : ∃ us, Mk w0 w 24 A n c us := by
  obtain ⟨rows, hm, _⟩ := h
  exact ⟨_, hm⟩
/-- The list cut down. -/
theorem MkII.cut {A : Option Addr} {k : Nat} (h : MkII w0 w A n c xss) (hk : k ≤ n) : MkII w0 w A k c (xss.take k) := by
  obtain ⟨rows, hm, hn⟩ := h
  refine ⟨rows.take k, ⟨hm.1, hm.2.cut hk⟩, by rw [List.length_take, List.length_take, hn.len], fun j hj => ?_, fun i j b hij hi => ?_⟩
  · have hj2 : j < k ∧ j < xss.length := by rw [List.length_take] at hj; omega
    obtain ⟨A', c', e, ho⟩ := hn.row j hj2.2
    rw [List.getElem_take]
    exact ⟨A', c', by rw [List.getElem?_take, if_pos hj2.1]; exact e, ho⟩
  · rw [List.getElem?_take] at hi ⊢
    split at hi
    · split
      · exact hn.apart i j b hij hi
      · simp
    · simp at hi
end
theorem ent_at {M : List (List Int)} {i k : Nat} (hi : i < M.length) (hk : k < M[i].length) : ent M i k = M[i][k] := by
  unfold ent
  rw [getD_of_lt [] hi, getD_of_lt 0 hk]
theorem Own.keep {w w' : World} {B : Nat} {E : TypeId} {A : Option Addr} {n c : Nat} {us : List Value} (h : Own w B E A n c us) (hk : ∀ b, B ≤ b → b < w.heap.size → w'.heap[b]? = w.heap[b]?) : Rd w' A n us := by
  refine ⟨h.len, fun hn => ?_⟩
  rcases h.form with ⟨_, h0⟩ | ⟨g, rfl, hg, hg2⟩
  · omega
  · obtain ⟨g', o, e, hc⟩ := h.rd.2 hn
    refine ⟨g', o, e, fun k u hu => ?_⟩
    injection e with e
    injection e with e1 _ _
    subst e1
    exact (World.cell?_of_block (hk g hg hg2)).trans (hc k u hu)
theorem MkII.keep {w0 w w' : World} {A : Option Addr} {n c : Nat} {xss : List (List Int)} (h : MkII w0 w A n c xss) (hk : ∀ b, w0.heap.size ≤ b → b < w.heap.size → w'.heap[b]? = w.heap[b]?) : RdII w' A n xss := by
  obtain ⟨rows, hm, hn⟩ := h
  exact ⟨rows, hm.2.keep hk, hn.len, fun k hk' => by obtain ⟨A', c', e, ho⟩ := hn.row k hk'; exact ⟨A', c', e, ho.keep hk, ho.cap⟩⟩
/-- A new row is appended: what else is said of memory, too. -/
theorem wpList_appRowG {ops : Array Oper} {rest : List Oper} {o : Oper} {a : Act} {Q : Exit → Act → World → Prop} (w0 wr w1 : World)
    (hgd : o.guard = none) (s x : Operand) (ho : o.op = .call { callee := .builtin .append, args := #[s, x], argTypes := #[44, 44] })
    (A : Option Addr) (n c : Nat) (xss : List (List Int)) (A1 : Option Addr) (m c1 : Nat) (xs : List Int) (hM : MkII w0 wr A n c xss) (hr : Mk wr w1 2 A1 m c1 (ints xs)) (hn : n ≤ 1099511627776)
    (hs : a.eval s = .slice A n c) (hx : a.eval x = .slice (some ⟨w1.heap.size, 0, none⟩) 1 1)
    (h : ∀ A' c' w', MkII w0 w' A' (n + 1) c' (xss ++ [xs]) → w1.grownBy w' (Value.slice A n c).ownBlock → (∃ g, A' = some ⟨g, 0, none⟩ ∧ ((Value.slice A n c).ownBlock = some g ∨ w1.heap.size ≤ g)) → wpList Tryz.prog ops Q rest (a.put o.dst (.slice A' (n + 1) c')) w') :
    wpList Tryz.prog ops Q (o :: rest) a (w1.alloc (.cells #[.slice A1 m c1] 24)) := by
  obtain ⟨rows, hm, hnest⟩ := hM
  have hm1 := hm.below hr.1
  have hn1 := hnest.snoc hr hm.1.size
  refine wpList_app1 w0 w1 44 24 (.slice none 0 0) 24 Tryz.underlying44 info_s rfl (by omega) hgd s x ho A n c rows (.slice A1 m c1) hm1 hn rfl hs hx ?_
  intro A' c' w' hM' hg hat
  exact h A' c' w' ⟨_, hM', hn1.grown hm1.2 (by decide) hg⟩ hg hat
/-- What is kept of the blocks between two sizes, and where a list lies that grows. -/
def Keeps (w2 w3 wr : World) (v : Value) : Prop := w3.heap.size ≤ wr.heap.size ∧ (∀ b, w2.heap.size ≤ b → b < w3.heap.size → wr.heap[b]? = w3.heap[b]?) ∧ ∀ gb, v.ownBlock = some gb → gb < w2.heap.size ∨ w3.heap.size ≤ gb
theorem lt_of_own {g gb k n c : Nat} (e : (Value.slice (some ⟨g, 0, none⟩) n c).ownBlock = some gb) (h : g < k) : gb < k := by
  have : g = gb := by simpa [Value.ownBlock] using e
  omega
theorem Keeps.step {w2 w3 wr w5 w6 : World} {A A' : Option Addr} {n c c' n' : Nat} (h : Keeps w2 w3 wr (.slice A n c)) (hb : Below wr.heap.size wr w5) (hg : w5.grownBy w6 (Value.slice A n c).ownBlock)
    (hat : ∃ g, A' = some ⟨g, 0, none⟩ ∧ ((Value.slice A n c).ownBlock = some g ∨ w5.heap.size ≤ g)) : Keeps w2 w3 w6 (.slice A' n' c') := by
  obtain ⟨h1, h2, h3⟩ := h
  have s1 := hb.size
  have s2 := hg.size
  refine ⟨by omega, fun b hb1 hb2 => ?_, fun gb hgb => ?_⟩
  · rw [hg.block b (by omega) (fun e => ?_), hb.block b (by omega), h2 b hb1 hb2]
    rcases h3 b e.symm with h | h <;> omega
  · obtain ⟨g, rfl, hor⟩ := hat
    have : g = gb := by simpa [Value.ownBlock] using hgb
    subst this
    rcases hor with he | he
    · exact h3 g he
    · right; omega
theorem MkII.ne_blk {w0 w : World} {A : Option Addr} {n c g : Nat} {xss : List (List Int)} {t : TypeId} {cs : Array Value} (h : MkII w0 w A n c xss) (hb : Blk w g t cs) (hE : 24 ≠ t) : some g ≠ (Value.slice A n c).ownBlock := by
  obtain ⟨rows, hm, _⟩ := h
  exact hm.2.ne_blk hb hE
theorem RdII.row0 {w : World} {g o n : Nat} {M : List (List Int)} {p : Int} {m : Nat} (h : RdII w (some ⟨g, o, none⟩) n M) (h0 : 0 < n) (hT : Tab p m M) : ∃ A0 c0, w.cell? ⟨g, o, none⟩ = some (.slice A0 m c0) := by
  obtain ⟨g', o', e', hx0, A0, c0, hc, _, _⟩ := h.at_ h0
  injection e' with e'
  injection e' with e1 e2 _
  subst e1; subst e2
  refine ⟨A0, c0, ?_⟩
  rw [Nat.add_zero] at hc
  rw [hc, (hT M[0] (List.getElem_mem hx0)).1]
end Go.Proofs.YtggigolkncckoaaGreat
namespace Go.Proofs.YtggigolkncckoaaGreat
open Go.Shelf
def laysSort_ren : Go.Shelf.Ren := ⟨fun | 5 => 284 | 8 => 350 | 7 => 349 | 19 => 373 | 20 => 374 | 10 => 364 | 11 => 365 | 12 => 366 | 13 => 367 | 14 => 368 | 15 => 369 | 16 => 370 | 17 => 371 | 18 => 372 | 30 => 376 | 31 => 377 | 32 => 378 | 33 => 379 | 34 => 380 | 35 => 381 | 40 => 382 | n => n, fun | 23 => 24 | 25 => 2 | 3 => 3 | 32 => 148 | 22 => 24 | 0 => 0 | 44 => 173 | 46 => 51 | 4 => 4 | 36 => 179 | 35 => 178 | 41 => 159 | 5 => 5 | 9 => 9 | 53 => 186 | 57 => 190 | 63 => 192 | 64 => 193 | n => n, fun | n => n⟩
theorem laysSort : Go.Proofs.SlLaysM.n5 Tryz.prog laysSort_ren := {
  mixed := by kernel_rfl
  f5 := ⟨Tryz.f284.name, by decide, Tryz.func284.trans (congrArg some (by kernel_rfl))⟩
  f7 := ⟨Tryz.f349.name, by decide, Tryz.func349.trans (congrArg some (by kernel_rfl))⟩
  f8 := Tryz.func350.trans (congrArg some (by kernel_rfl))
  f10 := ⟨Tryz.f364.name, by decide, Tryz.func364.trans (congrArg some (by kernel_rfl))⟩
  f11 := ⟨Tryz.f365.name, by decide, Tryz.func365.trans (congrArg some (by kernel_rfl))⟩
  f12 := ⟨Tryz.f366.name, by decide, Tryz.func366.trans (congrArg some (by kernel_rfl))⟩
  f13 := ⟨Tryz.f367.name, by decide, Tryz.func367.trans (congrArg some (by kernel_rfl))⟩
  f14 := ⟨Tryz.f368.name, by decide, Tryz.func368.trans (congrArg some (by kernel_rfl))⟩
  f15 := ⟨Tryz.f369.name, by decide, Tryz.func369.trans (congrArg some (by kernel_rfl))⟩
  f16 := ⟨Tryz.f370.name, by decide, Tryz.func370.trans (congrArg some (by kernel_rfl))⟩
  f17 := ⟨Tryz.f371.name, by decide, Tryz.func371.trans (congrArg some (by kernel_rfl))⟩
  f18 := ⟨Tryz.f372.name, by decide, Tryz.func372.trans (congrArg some (by kernel_rfl))⟩
  f19 := Tryz.func373.trans (congrArg some (by kernel_rfl))
  f20 := Tryz.func374.trans (congrArg some (by kernel_rfl))
  f30 := ⟨Tryz.f376.name, by decide, Tryz.func376.trans (congrArg some (by kernel_rfl))⟩
  f31 := Tryz.func377.trans (congrArg some (by kernel_rfl))
  f32 := Tryz.func378.trans (congrArg some (by kernel_rfl))
  f33 := ⟨Tryz.f379.name, by decide, Tryz.func379.trans (congrArg some (by kernel_rfl))⟩
  f34 := ⟨Tryz.f380.name, by decide, Tryz.func380.trans (congrArg some (by kernel_rfl))⟩
  f35 := ⟨Tryz.f381.name, by decide, Tryz.func381.trans (congrArg some (by kernel_rfl))⟩
  f40 := ⟨Tryz.f382.name, by decide, Tryz.func382.trans (congrArg some (by kernel_rfl))⟩
  t0 := Tryz.underlying0
  a0 := Tryz.isAgg0
  z0 := Tryz.sizeOf0
  v0 := Tryz.zeroValue0
  t3 := Tryz.underlying3
  a3 := Tryz.isAgg3
  z3 := Tryz.sizeOf3
  v3 := Tryz.zeroValue3
  t4 := Tryz.underlying4
  a4 := Tryz.isAgg4
  z4 := Tryz.sizeOf4
  v4 := Tryz.zeroValue4
  t5 := Tryz.underlying5
  a5 := Tryz.isAgg5
  z5 := Tryz.sizeOf5
  v5 := Tryz.zeroValue5
  t9 := Tryz.underlying9
  a9 := Tryz.isAgg9
  z9 := Tryz.sizeOf9
  v9 := Tryz.zeroValue9
  t22 := Tryz.underlying24
  a22 := Tryz.isAgg24
  z22 := Tryz.sizeOf24
  v22 := Tryz.zeroValue24
  t23 := Tryz.underlying24
  a23 := Tryz.isAgg24
  z23 := Tryz.sizeOf24
  v23 := Tryz.zeroValue24
  t25 := Tryz.underlying2
  a25 := Tryz.isAgg2
  z25 := Tryz.sizeOf2
  v25 := Tryz.zeroValue2
  t32 := Tryz.underlying148
  a32 := Tryz.isAgg148
  z32 := Tryz.sizeOf148
  v32 := Tryz.zeroValue148
  t35 := Tryz.underlying178
  a35 := Tryz.isAgg178
  z35 := Tryz.sizeOf178
  v35 := Tryz.zeroValue178
  t36 := Tryz.underlying179
  a36 := Tryz.isAgg179
  z36 := Tryz.sizeOf179
  v36 := Tryz.zeroValue179
  t41 := Tryz.underlying159
  a41 := Tryz.isAgg159
  z41 := Tryz.sizeOf159
  v41 := Tryz.zeroValue159
  t44 := Tryz.underlying173
  a44 := Tryz.isAgg173
  z44 := Tryz.sizeOf173
  v44 := Tryz.zeroValue173
  t46 := Tryz.underlying51
  a46 := Tryz.isAgg51
  z46 := Tryz.sizeOf51
  v46 := Tryz.zeroValue51
  t53 := Tryz.underlying186
  a53 := Tryz.isAgg186
  z53 := Tryz.sizeOf186
  v53 := Tryz.zeroValue186
  t57 := Tryz.underlying190
  a57 := Tryz.isAgg190
  z57 := Tryz.sizeOf190
  v57 := Tryz.zeroValue190
  t63 := Tryz.underlying192
  a63 := Tryz.isAgg192
  z63 := Tryz.sizeOf192
  v63 := Tryz.zeroValue192
  t64 := Tryz.underlying193
  a64 := Tryz.isAgg193
  z64 := Tryz.sizeOf193
  v64 := Tryz.zeroValue193 }
open Go.Sort Go.RowKit in
theorem slices_Sort_int (blk off cap : Nat) (zs : List Int) (w : World) (hH : Holds (Value.int .i64) w blk off zs.toArray) (hblk : blk < w.heap.size) (hsz : zs.length < 4611686018427387904) :
    Calls Tryz.prog 284 #[.slice (some ⟨blk, off, none⟩) zs.length cap] w fun e w' =>
      e = .returned (.tuple #[]) ∧ ∃ n os, w' = grow (putRow (Value.int .i64) (Sort.ahead w n) blk off (zs.mergeSort fun x y => decide (x ≤ y)).toArray) os := AnyM.slices_Sort_int laysSort blk off cap zs w hH hblk hsz
def laysCompact_ren : Go.Shelf.Ren := ⟨fun | 43 => 285 | n => n, fun | 22 => 24 | 23 => 2 | 3 => 3 | 4 => 4 | 0 => 0 | n => n, fun | n => n⟩
theorem laysCompact : Go.Proofs.SlLaysE.n43 Tryz.prog laysCompact_ren := {
  mixed := by kernel_rfl
  f43 := ⟨Tryz.f285.name, by decide, Tryz.func285.trans (congrArg some (by kernel_rfl))⟩
  t0 := Tryz.underlying0
  a0 := Tryz.isAgg0
  z0 := Tryz.sizeOf0
  v0 := Tryz.zeroValue0
  t3 := Tryz.underlying3
  a3 := Tryz.isAgg3
  z3 := Tryz.sizeOf3
  v3 := Tryz.zeroValue3
  t4 := Tryz.underlying4
  a4 := Tryz.isAgg4
  z4 := Tryz.sizeOf4
  v4 := Tryz.zeroValue4
  t22 := Tryz.underlying24
  a22 := Tryz.isAgg24
  z22 := Tryz.sizeOf24
  v22 := Tryz.zeroValue24
  a23 := Tryz.isAgg2
  z23 := Tryz.sizeOf2 }
open Go.Sort Go.RowKit
/-- Sorted. -/
def sortL (zs : List Int) : List Int := zs.mergeSort fun x y => decide (x ≤ y)
theorem sortL_len (zs : List Int) : (sortL zs).length = zs.length := List.length_mergeSort zs
theorem own_sorted {w0 wr : World} {g n c q : Nat} {os : Array Obj} {zs ts : List Int} (h : MkI w0 wr (some ⟨g, 0, none⟩) n c zs) (hl : ts.length = zs.length) :
    MkI w0 (grow (putRow (Value.int .i64) (Sort.ahead wr q) g 0 ts.toArray) os) (some ⟨g, 0, none⟩) n c ts ∧ wr.grownBy (grow (putRow (Value.int .i64) (Sort.ahead wr q) g 0 ts.toArray) os) (some g) := by
  have hn : zs.length = n := by have := h.2.len; rwa [ints_length] at this
  subst hn
  have hg := grownBy_sortedI (w := wr) (g := g) (n := q) (os := os) ts.toArray
  rcases h.2.2 with ⟨he, _⟩ | ⟨g', cap, cur, he, hB, hc, h1, h2, h3, ht⟩
  · cases he
  · cases he
    exact ⟨⟨h.1.grown hg h.1.size (fun k hk => by injection hk with hk; subst hk; exact hB), ownsRow_sortedI hl hB hc h1 h2 h3⟩, hg⟩
theorem holds_own {w0 wr : World} {g n c : Nat} {zs : List Int} (h : MkI w0 wr (some ⟨g, 0, none⟩) n c zs) : Holds (Value.int .i64) wr g 0 zs.toArray ∧ g < wr.heap.size ∧ n ≤ c := by
  have hn : zs.length = n := by have := h.2.len; rwa [ints_length] at this
  subst hn
  rcases h.2.2 with ⟨he, _⟩ | ⟨g', cap, cur, he, hB, hc, h1, h2, h3, ht⟩
  · cases he
  · cases he
    exact ⟨holds_of_blockI hc (by simpa [ints] using ht), (Array.getElem?_eq_some_iff.1 hc).1, h1⟩
theorem sort_own (w0 wr : World) (g n c : Nat) (zs : List Int) (h : MkI w0 wr (some ⟨g, 0, none⟩) n c zs) (hn : n ≤ 1099511627776) :
    Calls Tryz.prog 284 #[.slice (some ⟨g, 0, none⟩) n c] wr fun e w' => e = .returned (.tuple #[]) ∧ MkI w0 w' (some ⟨g, 0, none⟩) n c (sortL zs) ∧ wr.grownBy w' (some g) := by
  have hl : zs.length = n := by have := h.2.len; rwa [ints_length] at this
  obtain ⟨h1, h2, h3⟩ := holds_own h
  have hc := slices_Sort_int g 0 c zs wr h1 h2 (by omega)
  rw [hl] at hc
  refine hc.mono ?_
  rintro e w' ⟨rfl, q, os, rfl⟩
  obtain ⟨h4, h5⟩ := own_sorted (q := q) (os := os) h (sortL_len zs)
  exact ⟨rfl, h4, h5⟩
theorem compact_own (w0 wr : World) (g n c : Nat) (zs : List Int) (h : MkI w0 wr (some ⟨g, 0, none⟩) n c zs) (hn : n ≤ 1099511627776) :
    Calls Tryz.prog 285 #[.slice (some ⟨g, 0, none⟩) n c] wr fun e w' => e = .returned (.slice (some ⟨g, 0, none⟩) (Lib.compact zs).length c) ∧ MkI w0 w' (some ⟨g, 0, none⟩) (Lib.compact zs).length c (Lib.compact zs) := by
  have hl : zs.length = n := by have := h.2.len; rwa [ints_length] at this
  obtain ⟨h1, h2, h3⟩ := holds_own h
  have hc := AnyE.slices_Compact laysCompact (Value.int .i64) (fun _ => rfl) (EqlAt.intD _ _ .i64) (NeqAt.intD _ _ .i64) 0 Tryz.zeroValue2 g 0 c zs.toArray wr h1 (by simp; omega) (by simp; omega)
  have hs : zs.toArray.size = n := by simpa using hl
  have hle : (Lib.compactUpTo zs.toArray n).length ≤ n := by
    unfold Lib.compactUpTo
    rw [List.length_map]
    exact Nat.le_trans (List.length_filter_le _ _) (by simp)
  have he : Lib.compact zs = Lib.compactUpTo zs.toArray n := by unfold Lib.compact; rw [hl]
  rw [hs] at hc
  rw [he]
  refine hc.mono ?_
  rintro e w' ⟨rfl, q, rfl⟩
  obtain ⟨h4, h5⟩ := own_sorted (ts := Lib.compactUpTo zs.toArray n ++ List.replicate (n - (Lib.compactUpTo zs.toArray n).length) 0) (q := q) (os := #[]) h (by simp; omega)
  rw [grow_empty] at h4
  refine ⟨rfl, h4.1, ?_⟩
  have := h4.2.cut hle
  have e2 : (ints (Lib.compactUpTo zs.toArray n ++ List.replicate (n - (Lib.compactUpTo zs.toArray n).length) 0)).take (Lib.compactUpTo zs.toArray n).length = ints (Lib.compactUpTo zs.toArray n) := by
    rw [← ints_append, List.take_left' (by rw [ints_length])]
  rwa [e2] at this
end Go.Proofs.YtggigolkncckoaaGreat
namespace Go.Proofs.YtggigolkncckoaaGreat
open Go.RowKit
set_option maxHeartbeats 400000 in
theorem Index_any (A : Option Addr) (n c : Nat) (xs : List Int) (v : Int) (w : World) (hn : n ≤ 1099511627776) (ha : Rd w A n (ints xs)) :
    Calls Tryz.prog 353 #[.slice A n c, .int .i64 v] w fun e w' => ∃ r : Int, e = .returned (.int .i64 r) ∧ decide (0 ≤ r) = xs.contains v ∧ w = w' := by
  have hxl : xs.length = n := by have := ha.1; rwa [ints_length] at this
  have Hx := Lib.hid hxl; clear hxl
  go_enter Tryz.func353, Tryz.ntmps353
  go_wp2
  go_loop [8] (fun i => ∃ k : Nat, k ≤ n ∧ i = .int .i64 k ∧ (xs.take k).contains v = false) (fun i => n - (intOf i).toNat)
  case atStart => exact ⟨0, by omega, rfl, by simp⟩
  case round =>
    obtain ⟨k, hk, rfl, ht⟩ := hrel
    have H := Lib.hid ht; clear ht
    by_cases hlt : k < n
    · obtain ⟨g, o, rfl, hx, hcx⟩ := ha.int hlt
      clear ha
      cases hi : (v == xs[k])
      all_goals
        have HI := Lib.hid hi
        go_wp2
      · go_round
        case rel =>
          refine ⟨k + 1, by omega, by go_num, ?_⟩
          rw [List.take_succ_eq_append_getElem hx, List.contains_eq_any_beq, List.any_append, ← List.contains_eq_any_beq, H.out]
          simpa using HI.out
        case measure => simp [intOf]; omega
      · go_ret
        refine ⟨_, rfl, ?_, rfl⟩
        have hv : v = xs[k] := by simpa using HI.out
        have : xs.contains v = true := by rw [List.contains_iff_mem, hv]; exact List.getElem_mem hx
        simpa using this
    · go_wp2
      go_ret
      refine ⟨_, rfl, ?_, rfl⟩
      have := H.out
      rw [List.take_of_length_le (by rw [Hx.out]; omega)] at this
      simpa using this
set_option maxHeartbeats 400000 in
theorem Contains_any (A : Option Addr) (n c : Nat) (xs : List Int) (v : Int) (w : World) (hn : n ≤ 1099511627776) (ha : Rd w A n (ints xs)) :
    Calls Tryz.prog 298 #[.slice A n c, .int .i64 v] w fun e w' => e = .returned (.bool (xs.contains v)) ∧ w = w' := by
  go_enter Tryz.func298, Tryz.ntmps298
  go_wp2_with fail
  refine (Index_any _ _ _ _ _ _ hn ha).mono ?_
  rintro e w1 ⟨r, rfl, hr, rfl⟩
  have HR := Lib.hid hr; clear hr
  go_wp2
  go_ret
  exact ⟨ret_bool HR.out, rfl⟩
theorem Contains_b {b : Bool} (A : Option Addr) (n c : Nat) (xs : List Int) (v : Int) (w : World) (hn : n ≤ 1099511627776) (ha : Rd w A n (ints xs)) (h : xs.contains v = b) :
    Calls Tryz.prog 298 #[.slice A n c, .int .i64 v] w fun e w' => e = .returned (.bool b) ∧ w = w' := h ▸ Contains_any A n c xs v w hn ha
/-- A search by a function of one captured pointer that answers of a row what p says and changes nothing that was there. -/
def Tells (f : FuncId) (cap : Array Value) (w : World) (p : List Int → Bool) (ok : List Int → Prop) : Prop :=
  ∀ (w' : World) (A : Option Addr) (m c : Nat) (xs : List Int), Below w.heap.size w w' → Rd w' A m (ints xs) → ok xs →
    Calls Tryz.prog f (#[.slice A m c] ++ cap) w' fun e w'' => e = .returned (.bool (p xs)) ∧ Below w'.heap.size w' w''
set_option maxHeartbeats 800000 in
theorem IndexFunc_any (f : FuncId) (q : Addr) (p : List Int → Bool) (ok : List Int → Prop) (A : Option Addr) (n c : Nat) (xss : List (List Int)) (w : World) (hn : n ≤ 1099511627776) (ha : RdII w A n xss) (hok : ∀ xs ∈ xss, ok xs)
    (hf : Tells f #[.pointer (some q)] w p ok) (hcf : ∀ (args : Array Value) (w : World), (callFunc f args).run Tryz.prog w = .ok (.enter f args) w) :
    Calls Tryz.prog 302 #[.slice A n c, .func (.func f) #[] #[.pointer (some q)]] w fun e w' => ∃ r : Int, e = .returned (.int .i64 r) ∧ decide (0 ≤ r) = xss.any p ∧ Below w.heap.size w w' := by
  have hxl := ha.len
  have Hx := Lib.hid hxl; clear hxl
  go_enter Tryz.func302, Tryz.ntmps302
  go_wp2
  go_loopw [8] (fun i wr => ∃ k : Nat, k ≤ n ∧ i = .int .i64 k ∧ (xss.take k).any p = false ∧ Below w.heap.size w wr) (fun i _ => n - (intOf i).toNat)
  case atStart => exact ⟨0, by omega, rfl, by simp, Below.refl _ _⟩
  case round =>
    obtain ⟨k, hk, rfl, ht, hB⟩ := hrel
    have H := Lib.hid ht; clear ht
    by_cases hlt : k < n
    · obtain ⟨g, o, rfl, hx, A', c', hcx, hr, -⟩ := (ha.below hB).at_ hlt
      have hoki := hok xss[k] (List.getElem_mem hx)
      clear ha
      cases hi : p xss[k]
      all_goals
        have HI := Lib.hid hi; clear hi
        go_wp2_with fail
        refine (hf _ _ _ _ _ hB hr hoki).mono ?_
        rintro e w1 ⟨rfl, hb1⟩
        rw [HI.out]
        go_wp2
      · go_roundw
        case rel =>
          refine ⟨k + 1, by omega, by go_num, ?_, hB.trans (hb1.mono hB.size)⟩
          rw [List.take_succ_eq_append_getElem hx, List.any_append, H.out]
          simpa using HI.out
        case measure => simp [intOf]; omega
      · go_ret
        refine ⟨_, rfl, ?_, hB.trans (hb1.mono hB.size)⟩
        have : xss.any p = true := List.any_eq_true.2 ⟨xss[k], List.getElem_mem hx, HI.out⟩
        rw [this]; simp
    · go_wp2
      go_ret
      refine ⟨_, rfl, ?_, hB⟩
      have := H.out
      rw [List.take_of_length_le (by rw [Hx.out]; omega)] at this
      rw [this]; simp
set_option maxHeartbeats 400000 in
theorem ContainsFunc_any (f : FuncId) (q : Addr) (p : List Int → Bool) (ok : List Int → Prop) (A : Option Addr) (n c : Nat) (xss : List (List Int)) (w : World) (hn : n ≤ 1099511627776) (ha : RdII w A n xss) (hok : ∀ xs ∈ xss, ok xs)
    (hf : Tells f #[.pointer (some q)] w p ok) (hcf : ∀ (args : Array Value) (w : World), (callFunc f args).run Tryz.prog w = .ok (.enter f args) w) :
    Calls Tryz.prog 168 #[.slice A n c, .func (.func f) #[] #[.pointer (some q)]] w fun e w' => e = .returned (.bool (xss.any p)) ∧ Below w.heap.size w w' := by
  go_enter Tryz.func168, Tryz.ntmps168
  go_wp2_with fail
  refine (IndexFunc_any _ _ _ _ _ _ _ _ _ hn ha hok hf hcf).mono ?_
  rintro e w1 ⟨r, rfl, hr, hb⟩
  have HR := Lib.hid hr; clear hr
  go_wp2
  go_ret
  exact ⟨ret_bool HR.out, hb⟩
end Go.Proofs.YtggigolkncckoaaGreat
namespace Go.Proofs.YtggigolkncckoaaGreat
open Go.RowKit
theorem sorted_ext {xs ys : List Int} (hx : xs.Pairwise (· < ·)) (hy : ys.Pairwise (· < ·)) (h : ∀ a, a ∈ xs ↔ a ∈ ys) : xs = ys := by
  have nx : xs.Nodup := hx.imp fun h => by omega
  have ny : ys.Nodup := hy.imp fun h => by omega
  exact List.Perm.eq_of_pairwise (le := fun a b : Int => a < b) (fun a b _ _ h1 h2 => by omega) hx hy ((List.perm_ext_iff_of_nodup nx ny).2 h)
theorem sortL_pairwise (zs : List Int) : (sortL zs).Pairwise (· ≤ ·) := by
  have := List.pairwise_mergeSort (le := fun x y : Int => decide (x ≤ y)) (fun a b c h1 h2 => by simp at *; omega) (fun a b => by simp; omega) zs
  exact this.imp fun h => by simpa using h
theorem sortL_mem (zs : List Int) (a : Int) : a ∈ sortL zs ↔ a ∈ zs := List.mem_mergeSort
theorem arr_get (zs : List Int) (i : Nat) : (zs.toArray[i]! : Int) = zs.getD i 0 := by simp [List.getD]
theorem le_of_sorted {zs : List Int} (h : zs.Pairwise (· ≤ ·)) {i j : Nat} (hij : i ≤ j) (hj : j < zs.length) : zs.getD i 0 ≤ zs.getD j 0 := by
  rw [getD_of_lt 0 (by omega), getD_of_lt 0 hj]
  by_cases e : i = j
  · subst e; exact Int.le_refl _
  · exact List.pairwise_iff_getElem.1 h i j (by omega) hj (by omega)
theorem compact_lt {zs : List Int} (h : zs.Pairwise (· ≤ ·)) : (Lib.compact zs).Pairwise (· < ·) := by
  unfold Lib.compact Lib.compactUpTo
  rw [List.pairwise_map]
  refine List.Pairwise.imp_of_mem (R := (· < ·)) ?_ (List.pairwise_lt_range.filter _)
  intro a b ha hb hab
  have hb1 := List.mem_filter.1 hb
  have hbl : b < zs.length := by simpa using hb1.1
  have hk := hb1.2
  simp only [Lib.keeps, arr_get, ne_eq, decide_eq_true_eq] at hk
  rw [arr_get, arr_get]
  have h1 := le_of_sorted h (show a ≤ b - 1 by omega) (by omega)
  have h2 := le_of_sorted h (show b - 1 ≤ b by omega) hbl
  rcases hk with hk | hk
  · omega
  · have : zs.getD b 0 ≠ zs.getD (b - 1) 0 := by simpa using hk
    omega
theorem compact_mem {zs : List Int} (a : Int) : a ∈ Lib.compact zs ↔ a ∈ zs := by
  unfold Lib.compact Lib.compactUpTo
  constructor
  · intro h
    obtain ⟨i, hi, rfl⟩ := List.mem_map.1 h
    have : i < zs.length := by have := (List.mem_filter.1 hi).1; simpa using this
    rw [arr_get]
    exact getD_mem 0 this
  · intro h
    obtain ⟨j, hj, e⟩ := List.getElem_of_mem h
    have key : ∀ j, j < zs.length → zs.getD j 0 = a → ∃ i, i < zs.length ∧ zs.getD i 0 = a ∧ (i = 0 ∨ zs.getD i 0 ≠ zs.getD (i - 1) 0) := by
      intro j
      induction j with
      | zero => intro h1 h2; exact ⟨0, h1, h2, .inl rfl⟩
      | succ j ih =>
        intro h1 h2
        by_cases hp : zs.getD j 0 = a
        · exact ih (by omega) hp
        · exact ⟨j + 1, h1, h2, .inr (by rw [h2]; exact fun e => hp (by simpa using e.symm))⟩
    obtain ⟨i, hi, he, hk⟩ := key j hj (by rw [getD_of_lt 0 hj]; exact e)
    refine List.mem_map.2 ⟨i, List.mem_filter.2 ⟨by simpa using hi, ?_⟩, by rw [arr_get]; exact he⟩
    simp only [Lib.keeps, arr_get]
    exact decide_eq_true hk
/-- The grades of the first k places with numbers other than 0, one after another. -/
def colL (xs : List Int) (k : Nat) : List Int := ((List.range k).filter fun i => xs.getD i 0 != 0).map fun i => ((pc i : Nat) : Int)
theorem colL_succ (xs : List Int) (k : Nat) : colL xs (k + 1) = if xs.getD k 0 != 0 then colL xs k ++ [((pc k : Nat) : Int)] else colL xs k := by
  unfold colL
  rw [List.range_succ, List.filter_append, List.map_append, List.filter_cons, List.filter_nil]
  split
  · rfl
  · rw [List.map_nil, List.append_nil]
theorem colL_le (xs : List Int) (k : Nat) : (colL xs k).length ≤ k := by
  unfold colL
  rw [List.length_map]
  exact Nat.le_trans (List.length_filter_le _ _) (by simp)
/-- Has grade k a number other than 0? -/
def hasG (xs : List Int) (k : Nat) : Bool := (List.range xs.length).any fun i => xs.getD i 0 != 0 && pc i == k
/-- The grades of a multivector. -/
def gradesL (xs : List Int) : List Int := ((List.range 7).filter (hasG xs)).map fun k : Nat => (k : Int)
theorem gradesL_len (xs : List Int) : (gradesL xs).length ≤ 7 := by
  unfold gradesL
  rw [List.length_map]
  exact Nat.le_trans (List.length_filter_le _ _) (by simp)
theorem hasG_iff (xs : List Int) (k : Nat) : hasG xs k = true ↔ ∃ i, i < xs.length ∧ xs.getD i 0 ≠ 0 ∧ pc i = k := by
  unfold hasG
  rw [List.any_eq_true]
  constructor
  · rintro ⟨i, hi, h⟩
    simp only [Bool.and_eq_true, bne_iff_ne, ne_eq, beq_iff_eq] at h
    exact ⟨i, by simpa using hi, h.1, h.2⟩
  · rintro ⟨i, hi, h1, h2⟩
    exact ⟨i, by simpa using hi, by simp only [Bool.and_eq_true, bne_iff_ne, ne_eq, beq_iff_eq]; exact ⟨h1, h2⟩⟩
theorem gradesL_mem (xs : List Int) (hl : xs.length ≤ 64) (a : Int) : a ∈ gradesL xs ↔ ∃ i, i < xs.length ∧ xs.getD i 0 ≠ 0 ∧ a = pc i := by
  unfold gradesL
  rw [List.mem_map]
  constructor
  · rintro ⟨k, hk, rfl⟩
    obtain ⟨_, hk⟩ := List.mem_filter.1 hk
    obtain ⟨i, h1, h2, h3⟩ := (hasG_iff xs k).1 hk
    exact ⟨i, h1, h2, by rw [h3]⟩
  · rintro ⟨i, h1, h2, rfl⟩
    exact ⟨pc i, List.mem_filter.2 ⟨by have := pc_le 6 i (by omega); simp; omega, (hasG_iff xs _).2 ⟨i, h1, h2, rfl⟩⟩, rfl⟩
theorem gradesL_lt (xs : List Int) : (gradesL xs).Pairwise (· < ·) := by
  unfold gradesL
  rw [List.pairwise_map]
  exact (List.pairwise_lt_range.filter _).imp fun h => by omega
theorem gradesL_eq (xs : List Int) (hl : xs.length ≤ 64) : Lib.compact (sortL (colL xs xs.length)) = gradesL xs := by
  refine sorted_ext (compact_lt (sortL_pairwise _)) (gradesL_lt xs) fun a => ?_
  rw [compact_mem, sortL_mem, gradesL_mem xs hl]
  unfold colL
  rw [List.mem_map]
  constructor
  · rintro ⟨i, hi, rfl⟩
    obtain ⟨h1, h2⟩ := List.mem_filter.1 hi
    exact ⟨i, by simpa using h1, by simpa using h2, rfl⟩
  · rintro ⟨i, h1, h2, rfl⟩
    exact ⟨i, List.mem_filter.2 ⟨by simpa using h1, by simpa using h2⟩, rfl⟩
set_option maxHeartbeats 800000 in
theorem gradesOf_any (X : Option Addr) (m cx : Nat) (xs : List Int) (w : World) (hm : m ≤ 64) (hx : Rd w X m (ints xs)) :
    Calls Tryz.prog 136 #[.slice X m cx] w fun e w' => ∃ A' c', e = .returned (.slice A' (gradesL xs).length c') ∧ MkI w w' A' (gradesL xs).length c' (gradesL xs) := by
  have hxl : xs.length = m := by have := hx.1; rwa [ints_length] at this
  have hM0 := Mk.lit (E := 2) (Below.refl w.heap.size w) #[] (by simp)
  have HG : Hid (Lib.compact (sortL (colL xs m)) = gradesL xs) := Lib.hid (by rw [← hxl]; exact gradesL_eq xs (by omega))
  clear hxl
  go_enter Tryz.func136, Tryz.ntmps136
  go_wp2
  go_loopw [3, 4, 5, 9] (fun o _ _ i wr => ∃ (k g c' : Nat), k ≤ m ∧ i = .int .i64 k ∧ o = .slice (some ⟨g, 0, none⟩) (colL xs k).length c' ∧ MkI w wr (some ⟨g, 0, none⟩) (colL xs k).length c' (colL xs k)) (fun _ _ _ i _ => m - (intOf i).toNat)
  case atStart => exact ⟨0, _, _, by omega, rfl, rfl, by simpa [MkI, ints, colL] using hM0⟩
  case round =>
    obtain ⟨k, g, c', hk, rfl, rfl, hM⟩ := hrel
    clear hM0
    by_cases hlt : k < m
    · obtain ⟨g1, o1, rfl, hxk, hcx⟩ := (hx.below hM.b).int hlt
      have hs := colL_succ xs k
      rw [getD_of_lt 0 hxk] at hs
      have HS := Lib.hid hs
      have HM := Lib.hid hM
      have hle := colL_le xs k
      obtain ⟨l, hl⟩ : ∃ l, l = (colL xs k).length := ⟨_, rfl⟩
      rw [← hl] at hle HM ⊢
      have HL := Lib.hid hl
      clear hs hM hx hl
      cases h0 : (xs[k] != 0)
      · have H0 := Lib.hid h0
        go_wp2
        go_roundw
        case rel =>
          have e : colL xs (k + 1) = colL xs k := by rw [HS.out, H0.out]; rfl
          exact ⟨k + 1, g, c', by omega, by go_num, by rw [e, ← HL.out], by rw [e, ← HL.out]; exact HM.out⟩
        case measure => simp [intOf]; omega
      · have H0 := Lib.hid h0
        go_wp2_with (first
          | (go_at_call 211; refine (gradeOf_any k _ (by omega)).mono ?_; rintro e w' ⟨rfl, rfl⟩)
          | (at_builtin; refine wpList_app1 w _ 24 2 _ _ Tryz.underlying24 info_i rfl (by omega) rfl _ _ rfl (some ⟨g, 0, none⟩) l c' _ _ HM.out (by omega) rfl rfl rfl ?_; intro A2 c2 w2 hM2 _ hg2))
        obtain ⟨g2, rfl, _⟩ := hg2
        go_roundw
        case rel =>
          have e : colL xs (k + 1) = colL xs k ++ [((pc k : Nat) : Int)] := by rw [HS.out, H0.out]; rfl
          have el : (colL xs (k + 1)).length = l + 1 := by rw [e, List.length_append, HL.out]; rfl
          exact ⟨k + 1, g2, c2, by omega, by go_num, by rw [el], by rw [el, e]; simpa [MkI, ints] using hM2⟩
        case measure => simp [intOf]; omega
    · obtain rfl : k = m := by omega
      have hle := colL_le xs k
      go_wp2_with (first
        | (go_at_call 284; refine (sort_own _ _ _ _ _ _ hM (by omega)).mono ?_; rintro e w2 ⟨rfl, hM2, -⟩)
        | (go_at_call 285; refine (compact_own _ _ _ _ _ _ hM2 (by omega)).mono ?_; rintro e w3 ⟨rfl, hM3⟩))
      rw [HG.out] at hM3 ⊢
      go_ret
      exact ⟨_, _, rfl, hM3⟩
end Go.Proofs.YtggigolkncckoaaGreat
namespace Go.Proofs.YtggigolkncckoaaGreat
open Go.RowKit
theorem take_succ_eq (xs ys : List Int) (k : Nat) (hx : k < xs.length) (hy : k < ys.length) (h : xs.take k = ys.take k) (he : xs[k] = ys[k]) :
    xs.take (k + 1) = ys.take (k + 1) := by
  rw [List.take_succ_eq_append_getElem hx, List.take_succ_eq_append_getElem hy, h, he]
theorem ne_of_get (xs ys : List Int) (k : Nat) (hx : k < xs.length) (hy : k < ys.length) (he : (xs[k] != ys[k]) = true) : decide (xs = ys) = false := by
  rw [decide_eq_false_iff_not]
  rintro rfl
  simp at he
end Go.Proofs.YtggigolkncckoaaGreat
namespace Go.Proofs.YtggigolkncckoaaGreat
open Go.RowKit
theorem leadL_step {v : List Int} {k : Nat} (h : k ≤ leadL v) (hk : k < v.length) (h0 : v[k] = 0) : k + 1 ≤ leadL v := by
  rcases Nat.lt_or_ge k (leadL v) with h1 | h1
  · exact h1
  · have e : leadL v = k := by omega
    have := leadL_at v (by omega)
    rw [e, getD_of_lt 0 hk] at this
    exact absurd h0 this
theorem leadL_stop {v : List Int} {k : Nat} (h : k ≤ leadL v) (hk : k < v.length) (h0 : v[k] ≠ 0) : leadL v = k := by
  rcases Nat.lt_or_ge k (leadL v) with h1 | h1
  · have := leadL_before v k h1
    rw [getD_of_lt 0 hk] at this
    exact absurd this h0
  · omega
theorem leadL_end {v : List Int} {k : Nat} (h : k ≤ leadL v) (hk : k = v.length) : leadL v = v.length := by
  have := leadL_le v; omega
set_option maxHeartbeats 400000 in
theorem lead_any (A : Option Addr) (n c : Nat) (xs : List Int) (w : World) (hn : n ≤ 1099511627776) (ha : Rd w A n (ints xs)) :
    Calls Tryz.prog 243 #[.slice A n c] w fun e w' => e = .returned (.int .i64 (leadL xs)) ∧ w = w' := by
  have hxl : xs.length = n := by have := ha.1; rwa [ints_length] at this
  have Hx := Lib.hid hxl; clear hxl
  go_enter Tryz.func243, Tryz.ntmps243
  go_wp2
  go_loop [3] (fun i => ∃ k : Nat, k ≤ n ∧ i = .int .i64 k ∧ k ≤ leadL xs) (fun i => n - (intOf i).toNat)
  case atStart => exact ⟨0, by omega, rfl, by omega⟩
  case round =>
    obtain ⟨k, hk, rfl, ht⟩ := hrel
    have H := Lib.hid ht; clear ht
    by_cases hlt : k < n
    · obtain ⟨g, o, rfl, hx, hcx⟩ := ha.int hlt
      clear ha
      cases hi : (xs[k] == 0)
      all_goals
        have HI := Lib.hid hi
        go_wp2
      · go_ret
        exact ⟨ret_int (by rw [leadL_stop H.out hx (by simpa using HI.out)]), rfl⟩
      · go_round
        case rel => exact ⟨k + 1, by omega, by go_num, leadL_step H.out hx (by simpa using HI.out)⟩
        case measure => simp [intOf]; omega
    · go_wp2
      go_ret
      have := H.out
      exact ⟨ret_int (by rw [leadL_end this (by rw [Hx.out]; omega), Hx.out]; congr 1; omega), rfl⟩
/-- The first place with a number other than 0, or -1. -/
def firstL (xs : List Int) : Int := if leadL xs < xs.length then leadL xs else -1
set_option maxHeartbeats 400000 in
theorem l02First_any (A : Option Addr) (n c : Nat) (xs : List Int) (w : World) (hn : n ≤ 1099511627776) (ha : Rd w A n (ints xs)) :
    Calls Tryz.prog 241 #[.slice A n c] w fun e w' => e = .returned (.int .i64 (firstL xs)) ∧ w = w' := by
  have hxl : xs.length = n := by have := ha.1; rwa [ints_length] at this
  have Hx := Lib.hid hxl; clear hxl
  go_enter Tryz.func241, Tryz.ntmps241
  go_wp2
  go_loop [3] (fun i => ∃ k : Nat, k ≤ n ∧ i = .int .i64 k ∧ k ≤ leadL xs) (fun i => n - (intOf i).toNat)
  case atStart => exact ⟨0, by omega, rfl, by omega⟩
  case round =>
    obtain ⟨k, hk, rfl, ht⟩ := hrel
    have H := Lib.hid ht; clear ht
    by_cases hlt : k < n
    · obtain ⟨g, o, rfl, hx, hcx⟩ := ha.int hlt
      clear ha
      cases hi : (xs[k] != 0)
      all_goals
        have HI := Lib.hid hi
        go_wp2
      · go_round
        case rel => exact ⟨k + 1, by omega, by go_num, leadL_step H.out hx (by simpa using HI.out)⟩
        case measure => simp [intOf]; omega
      · go_ret
        exact ⟨ret_int (by unfold firstL; rw [leadL_stop H.out hx (by simpa using HI.out), if_pos hx]), rfl⟩
    · go_wp2
      go_ret
      have := H.out
      exact ⟨ret_int (by unfold firstL; rw [leadL_end this (by rw [Hx.out]; omega), if_neg (by omega)]), rfl⟩
/-- Are all numbers 0? -/
def zeroL (xs : List Int) : Bool := leadL xs == xs.length
set_option maxHeartbeats 400000 in
theorem isZero_any (A : Option Addr) (n c : Nat) (xs : List Int) (w : World) (hn : n ≤ 1099511627776) (ha : Rd w A n (ints xs)) :
    Calls Tryz.prog 235 #[.slice A n c] w fun e w' => e = .returned (.bool (zeroL xs)) ∧ w = w' := by
  have hxl : xs.length = n := by have := ha.1; rwa [ints_length] at this
  have Hx := Lib.hid hxl; clear hxl
  go_enter Tryz.func235, Tryz.ntmps235
  go_wp2_with (go_at_call 243; refine (lead_any _ _ _ _ _ hn ha).mono ?_; rintro e w' ⟨rfl, rfl⟩)
  go_ret
  refine ⟨ret_bool ?_, rfl⟩
  unfold zeroL
  rw [Hx.out, Bool.eq_iff_iff]
  simp
  omega
/-- The part of grade k. -/
def partG (xs : List Int) (k : Nat) : List Int := tab xs.length fun i => if pc i = k then xs.getD i 0 else 0
theorem partG_len (xs : List Int) (k : Nat) : (partG xs k).length = xs.length := tab_len _ _
theorem partG_getD {xs : List Int} {k i : Nat} (h : i < xs.length) : (partG xs k).getD i 0 = if pc i = k then xs.getD i 0 else 0 := tab_getD h 0
theorem partG_nums {p : Int} (hp : 0 < p) {xs : List Int} (h : NumsL p xs) (k : Nat) : NumsL p (partG xs k) := NumsL.tab fun i _ => by
  split
  · exact h.getD hp i
  · omega
theorem tab_pad_set {n k : Nat} {f : Nat → Int} (hk : k < n) : (tab k f ++ List.replicate (n - k) 0).set k (f k) = tab (k + 1) f ++ List.replicate (n - (k + 1)) 0 := by
  rw [List.set_append, if_neg (by rw [tab_len]; omega), tab_len, Nat.sub_self, tab_succ, List.append_assoc]
  congr 1
  obtain ⟨m, hm⟩ : ∃ m, n - k = m + 1 := ⟨n - k - 1, by omega⟩
  rw [hm, show n - (k + 1) = m by omega]
  simp [List.replicate_succ]
theorem tab_pad_zero {n k : Nat} {f : Nat → Int} (hk : k < n) (h0 : f k = 0) : tab k f ++ List.replicate (n - k) 0 = tab (k + 1) f ++ List.replicate (n - (k + 1)) 0 := by
  rw [tab_succ, List.append_assoc, h0]
  congr 1
  obtain ⟨m, hm⟩ : ∃ m, n - k = m + 1 := ⟨n - k - 1, by omega⟩
  rw [hm, show n - (k + 1) = m by omega]
  simp [List.replicate_succ]
set_option maxHeartbeats 800000 in
theorem l04Part_any (X : Option Addr) (m cx : Nat) (xs : List Int) (q : Nat) (w : World) (hm : m ≤ 64) (_hq : q ≤ 1000) (hx : Rd w X m (ints xs)) :
    Calls Tryz.prog 286 #[.slice X m cx, .int .i64 q] w fun e w' => ∃ A' c', e = .returned (.slice A' m c') ∧ MkI w w' A' m c' (partG xs q) := by
  have hxl : xs.length = m := by have := hx.1; rwa [ints_length] at this
  have hmk := make_i (P := Tryz.prog) 24 2 Tryz.underlying24 info_i m (by omega)
  have hM0 := Mk.made (E := 2) (n := m) (z := .int .i64 0) (Below.refl w.heap.size w) (by simp only [maxLen]; omega)
  rw [ints_replicate] at hM0
  have HP : Hid (partG xs q = tab m fun i => if pc i = q then xs.getD i 0 else 0) := Lib.hid (by unfold partG; rw [hxl])
  clear hxl
  go_enter Tryz.func286, Tryz.ntmps286
  go_wp2
  clear hmk
  go_loopw [6] (fun i wr => ∃ k : Nat, k ≤ m ∧ i = .int .i64 k ∧ MkI w wr (some ⟨w.heap.size, 0, none⟩) m m ((tab k fun i => if pc i = q then xs.getD i 0 else 0) ++ List.replicate (m - k) 0)) (fun i _ => m - (intOf i).toNat)
  case atStart => exact ⟨0, by omega, rfl, by simpa [tab] using hM0⟩
  case round =>
    obtain ⟨k, hk, rfl, hM⟩ := hrel
    clear hM0
    by_cases hlt : k < m
    · obtain ⟨gx, ox, rfl, hxk, hcx⟩ := (hx.below hM.b).int hlt
      by_cases hpc : pc k = q
      · have hb : (((pc k : Nat) : Int) == (q : Int)) = true := by simp [hpc]
        have hset := (hM.set k (.int .i64 xs[k])).1
        have hf : ((tab k fun i => if pc i = q then xs.getD i 0 else 0) ++ List.replicate (m - k) 0).set k xs[k] = (tab (k + 1) fun i => if pc i = q then xs.getD i 0 else 0) ++ List.replicate (m - (k + 1)) 0 := by
          rw [← tab_pad_set hlt]; simp only [hpc, if_true]; rw [getD_of_lt 0 hxk]
        obtain ⟨hoc, hof⟩ := mkI_at hM hlt
        rw [ints_set, hf] at hset
        have HS := Lib.hid hset
        clear hset hM hpc hf
        go_wp2_with (go_at_call 215; refine (l04Grade_any k _ (by omega)).mono ?_; rintro e w' ⟨rfl, rfl⟩)
        go_roundw
        case rel => exact ⟨k + 1, by omega, by go_num, HS.out⟩
        case measure => simp [intOf]; omega
      · have hb : (((pc k : Nat) : Int) == (q : Int)) = false := by simp; omega
        have HS := Lib.hid (tab_pad_zero (f := fun i => if pc i = q then xs.getD i 0 else 0) hlt (if_neg hpc) ▸ hM)
        clear hM hpc
        go_wp2_with (go_at_call 215; refine (l04Grade_any k _ (by omega)).mono ?_; rintro e w' ⟨rfl, rfl⟩)
        go_roundw
        case rel => exact ⟨k + 1, by omega, by go_num, HS.out⟩
        case measure => simp [intOf]; omega
    · obtain rfl : k = m := by omega
      go_wp2
      go_ret
      exact ⟨_, _, rfl, by rw [HP.out]; simpa using hM⟩
end Go.Proofs.YtggigolkncckoaaGreat
namespace Go.Proofs.YtggigolkncckoaaGreat
open Go.RowKit
set_option maxRecDepth 8000 in
set_option maxHeartbeats 400000 in
theorem clone_any (A : Option Addr) (n c : Nat) (xs : List Int) (w : World) (hn : n ≤ 65536) (ha : Rd w A n (ints xs)) :
    Calls Tryz.prog 345 #[.slice A n c] w fun e w' => ∃ A' c', e = .returned (.slice A' n c') ∧ MkI w w' A' n c' xs := by
  have hxl : xs.length = n := by have := ha.1; rwa [ints_length] at this
  cases A with
  | none =>
    have h0 : n = 0 := by
      rcases Nat.eq_zero_or_pos n with h | h
      · exact h
      · obtain ⟨g, o, e, _⟩ := ha.2 h; cases e
    subst h0
    have hxs : xs = [] := List.eq_nil_of_length_eq_zero hxl
    subst hxs
    clear ha hxl hn
    have hq := fun w : World => Lib.run_eql_slice_nil (P := Tryz.prog) w 24 2 none 0 c 0 0 Tryz.underlying24
    simp only [Option.isNone_none] at hq
    go_enter Tryz.func345, Tryz.ntmps345
    go_wp2
    go_ret
    exact ⟨none, 0, rfl, Mk.nil (Below.refl _ _)⟩
  | some p =>
    have hM0 := Mk.lit (E := 2) (Below.refl w.heap.size w) #[] (by simp)
    obtain ⟨i, hi, h1, h2, h3⟩ := info_parts info_i
    obtain ⟨b1, b2⟩ := bound_of (Nat.le_trans hn (by decide))
    clear b1
    have HB := Lib.hid b2
    clear b2
    have hnews : ∀ (j : Nat) (u : Value), (ints xs)[j]? = some u → (w.alloc (.cells #[] 2)).cell? (p.add j) = some u := fun j u hu => by
      have hj : j < n := by have := (List.getElem?_eq_some_iff.1 hu).1; rw [ints_length] at this; omega
      obtain ⟨g, o, e, hc⟩ := (ha.below ((Below.refl _ w).alloc (Nat.le_refl _) (.cells #[] 2))).2 (by omega)
      injection e with e; subst e
      rw [Addr.add_lit]
      exact hc j u hu
    have Hx := Lib.hid hxl
    have HN := Lib.hid hnews
    have HI := Lib.hid hi
    have H1 := Lib.hid h1
    have H2 := Lib.hid h2
    have H3 := Lib.hid h3
    clear hnews hi h1 h2 h3 hxl
    have hq := fun w : World => Lib.run_eql_slice_nil (P := Tryz.prog) w 24 2 (some p) n c 0 0 Tryz.underlying24
    simp only [Option.isNone_some] at hq
    go_enter Tryz.func345, Tryz.ntmps345
    go_wp2_with (at_builtin; refine wpList_append_own_at (w.alloc (.cells #[] 2)) rfl _ _ 24 rfl w.heap.size 2 i _ 1 8 Tryz.underlying24 HI.out H1.out H2.out H3.out rfl (by omega) (.slice (some ⟨w.heap.size, 0, none⟩) 0 0) 0 [] rfl hM0.2 p n c (ints xs) rfl (by rw [ints_length, Hx.out, Nat.mul_one]) HN.out (by intro u hu; obtain ⟨y, _, rfl⟩ := List.mem_map.1 hu; rfl) (by simp only [maxLen]; omega) (by have := HB.out 8 (by omega); omega) (by simp) ?_; intro v' w' hown hg _ _)
    have hb' : Below w.heap.size w w' := hM0.1.grown hg (by simp) (fun k hk => (hM0.2.lt k hk).1)
    rw [Nat.zero_add, List.nil_append] at hown
    rcases hown.2 with ⟨rfl, h0⟩ | ⟨g, cap, cur, rfl, hr⟩
    · subst h0
      go_ret
      exact ⟨none, 0, rfl, hb', hown⟩
    · go_ret
      exact ⟨_, _, rfl, hb', hown⟩
end Go.Proofs.YtggigolkncckoaaGreat
namespace Go.Proofs.YtggigolkncckoaaGreat
open Go.RowKit
theorem mul_range {x k : Int} (x1 : 0 ≤ x) (x2 : x ≤ 13) (k1 : -1000 ≤ k) (k2 : k ≤ 1000) : -13000 ≤ k * x ∧ k * x ≤ 13000 := by
  have h1 := Int.mul_le_mul_of_nonneg_right k2 x1
  have h2 := Int.mul_le_mul_of_nonneg_right k1 x1
  omega
set_option maxHeartbeats 800000 in
theorem plus_any (p : Int) (A : Option Addr) (n c : Nat) (B : Option Addr) (m d : Nat) (k : Int) (xs ys : List Int) (w : World) (hp : 2 ≤ p) (hp2 : p ≤ 13) (hn : n ≤ 65536) (hnm : n ≤ m) (ha : Rd w A n (ints xs)) (hx : NumsL p xs) (hb : Rd w B m (ints ys)) (hy : NumsL p ys) (hk1 : -1000 ≤ k) (hk2 : k ≤ 1000) :
    Calls Tryz.prog 153 #[.int .i64 p, .slice A n c, .slice B m d, .int .i64 k] w fun e w' => ∃ A' c', e = .returned (.slice A' n c') ∧ MkI w w' A' n c' (plusL p xs ys k) := by
  have hxl : xs.length = n := by have := ha.1; rwa [ints_length] at this
  have Hx := Lib.hid hxl; clear hxl
  have hM0 := Mk.lit (E := 2) (Below.refl w.heap.size w) #[] (by simp)
  go_enter Tryz.func153, Tryz.ntmps153
  go_wp2
  go_loopw [9, 10, 11, 15] (fun out _ _ i wr => ∃ (j : Nat) (A' : Option Addr) (c' : Nat), j ≤ n ∧ i = .int .i64 j ∧ out = .slice A' j c' ∧ MkI w wr A' j c' (tab j fun i => (xs.getD i 0 + k * ys.getD i 0) % p)) (fun _ _ _ i _ => n - (intOf i).toNat)
  case atStart => exact ⟨0, _, _, by omega, rfl, rfl, by simpa [MkI, ints, tab] using hM0⟩
  case round =>
    obtain ⟨j, A', c', hj, rfl, rfl, hM⟩ := hrel
    clear hM0
    by_cases hlt : j < n
    · obtain ⟨g, o, rfl, hxj, hcx⟩ := (ha.below hM.b).int hlt
      obtain ⟨g2, o2, rfl, hyj, hcy⟩ := (hb.below hM.b).int (show j < m by omega)
      obtain ⟨x1, x2⟩ := hx _ (List.getElem_mem hxj)
      obtain ⟨y1, y2⟩ := hy _ (List.getElem_mem hyj)
      obtain ⟨m1, m2⟩ := mul_range y1 (show ys[j] ≤ 13 by omega) hk1 hk2
      have HV : Hid ((tab (j + 1) fun i => (xs.getD i 0 + k * ys.getD i 0) % p) = (tab j fun i => (xs.getD i 0 + k * ys.getD i 0) % p) ++ [(xs[j] + k * ys[j]) % p]) := Lib.hid (by rw [tab_succ, getD_of_lt 0 hxj, getD_of_lt 0 hyj])
      have HM := Lib.hid hM
      clear ha hb hM
      go_wp2_with (first
        | (go_at_call 200; refine (num_any _ (xs[j] + k * ys[j]) _ (by omega) hp2 (by omega) (by omega)).mono ?_; rintro e w' ⟨rfl, rfl⟩)
        | (at_builtin; refine wpList_app1 w _ 24 2 _ _ Tryz.underlying24 info_i rfl (by omega) rfl _ _ rfl A' j c' _ _ HM.out (by omega) rfl rfl rfl ?_; intro A2 c2 w2 hM2 _ _))
      go_roundw
      case rel => exact ⟨j + 1, A2, c2, by omega, by go_num, rfl, by rw [HV.out]; simpa [MkI, ints] using hM2⟩
      case measure => simp [intOf]; omega
    · go_wp2
      go_ret
      obtain rfl : j = n := by omega
      exact ⟨_, _, rfl, by unfold plusL; rw [Hx.out]; exact hM⟩
set_option maxHeartbeats 1600000 in
set_option maxRecDepth 8000 in
theorem l02Plus_any (p : Int) (A : Option Addr) (n c : Nat) (B : Option Addr) (m d : Nat) (k : Int) (xs ys : List Int) (w : World) (hp : 2 ≤ p) (hp2 : p ≤ 13) (hn : n ≤ 65536) (hnm : n ≤ m) (ha : Rd w A n (ints xs)) (hx : NumsL p xs) (hb : Rd w B m (ints ys)) (hy : NumsL p ys) (hk1 : 0 ≤ k) (hk2 : k ≤ 1000) :
    Calls Tryz.prog 158 #[.int .i64 p, .slice A n c, .slice B m d, .int .i64 k] w fun e w' => ∃ A' c', e = .returned (.slice A' n c') ∧ MkI w w' A' n c' (plusL p xs ys k) := by
  have hxl : xs.length = n := by have := ha.1; rwa [ints_length] at this
  have Hx := Lib.hid hxl; clear hxl
  have hM0 := Mk.lit (E := 2) (Below.refl w.heap.size w) #[] (by simp)
  go_enter Tryz.func158, Tryz.ntmps158
  go_wp2
  go_loopw [9, 10] (fun out i wr => ∃ (j : Nat) (A' : Option Addr) (c' : Nat), j ≤ n ∧ i = .int .i64 j ∧ out = .slice A' j c' ∧ MkI w wr A' j c' (tab j fun i => (xs.getD i 0 + k * ys.getD i 0) % p)) (fun _ i _ => n - (intOf i).toNat)
  case atStart => exact ⟨0, _, _, by omega, rfl, rfl, by simpa [MkI, ints, tab] using hM0⟩
  case round =>
    obtain ⟨j, A', c', hj, rfl, rfl, hM⟩ := hrel
    clear hM0
    by_cases hlt : j < n
    · obtain ⟨g, o, rfl, hxj, hcx⟩ := (ha.below hM.b).int hlt
      obtain ⟨g2, o2, rfl, hyj, hcy⟩ := (hb.below hM.b).int (show j < m by omega)
      obtain ⟨x1, x2⟩ := hx _ (List.getElem_mem hxj)
      obtain ⟨y1, y2⟩ := hy _ (List.getElem_mem hyj)
      obtain ⟨m1, m2⟩ := mul_small hk1 hk2 y1 (show ys[j] ≤ 13 by omega)
      have HV : Hid ((tab (j + 1) fun i => (xs.getD i 0 + k * ys.getD i 0) % p) = (tab j fun i => (xs.getD i 0 + k * ys.getD i 0) % p) ++ [(xs[j] + k * ys[j]) % p]) := Lib.hid (by rw [tab_succ, getD_of_lt 0 hxj, getD_of_lt 0 hyj])
      have W1 := i64_fit (k * ys[j]) (by omega) (by omega)
      have W2 := i64_fit (xs[j] + k * ys[j]) (by omega) (by omega)
      have W3 : (xs[j] + k * ys[j]).tmod p = (xs[j] + k * ys[j]) % p := Int.tmod_eq_emod_of_nonneg (by omega)
      have i1 : (0 : Int) ≤ (j : Int) := by omega
      have hP0 : ¬ p = 0 := by omega
      have i2 : (j : Int) < (n : Int) := by omega
      have i3 : (j : Int) < (m : Int) := by omega
      go_wp2
      refine wp_obs 15 [[], [], [], [1, 2], [1, 2, 3], [], [], [], [6, 7], [6, 7, 8], [5, 6, 7, 8, 9], [1, 2, 3, 4, 5, 6, 7, 8, 9, 10], [], [1, 2, 3, 4, 5, 6, 7, 8, 9, 10, 11, 12], [1, 2, 3, 4, 5, 6, 7, 8, 9, 10, 11, 12, 13], [0, 1, 2, 3, 4, 5, 6, 7, 8, 9, 10, 11, 12, 13, 14], [0, 1, 2, 3, 4, 5, 6, 7, 8, 9, 10, 11, 12, 13, 14, 15]] [VIs (.slice A' j c'), VIs (.slice (some ⟨g, o, none⟩) n c), VIs (.int .i64 (j)), VIs (.pointer (some ⟨g, o + j, none⟩)), VIs (.int .i64 (xs[j])), VIs (.int .i64 (k)), VIs (.slice (some ⟨g2, o2, none⟩) m d), VIs (.int .i64 (j)), VIs (.pointer (some ⟨g2, o2 + j, none⟩)), VIs (.int .i64 (ys[j])), VIs (.int .i64 (k * ys[j])), VIs (.int .i64 (xs[j] + k * ys[j])), VIs (.int .i64 (p)), VIs (.int .i64 ((xs[j] + k * ys[j]) % p)), VBs 2 #[.int .i64 ((xs[j] + k * ys[j]) % p)]] (fun w' => MkI w w' A' j c' (tab j fun i => (xs.getD i 0 + k * ys.getD i 0) % p) ∧ w'.cell? ⟨g, o + j, none⟩ = some (.int .i64 xs[j]) ∧ w'.cell? ⟨g2, o2 + j, none⟩ = some (.int .i64 ys[j])) (by kernel_rfl) (by kernel_rfl) (fun _ _ h hb => ⟨h.1.below hb, (hb.cell (World.block_lt_of_cell? _ _ h.2.1)).trans h.2.1, (hb.cell (World.block_lt_of_cell? _ _ h.2.2)).trans h.2.2⟩) (⟨hM.drew, hcx, hcy⟩) (fun x => ?_)
      refine obs_step (Eq.trans (by simp only [List.getElem?_toArray, List.getElem?_cons_zero]; exact rfl) rfl) rfl (fun w' hS hV K hK => ?_) ?_
      · obtain ⟨_, q1, q2⟩ := hS
        go_simp
        exact hK.out _ _ _ rfl rfl rfl (Below.refl _ _)
      simp only [List.setIfInBounds_toArray, List.set_cons_zero, List.set_cons_succ]
      refine obs_step (Eq.trans (by simp only [List.getElem?_toArray, List.getElem?_cons_succ, List.getElem?_cons_zero]; exact rfl) rfl) rfl (fun w' hS hV K hK => ?_) ?_
      · obtain ⟨_, q1, q2⟩ := hS
        go_simp
        exact hK.out _ _ _ rfl rfl rfl (Below.refl _ _)
      simp only [List.setIfInBounds_toArray, List.set_cons_zero, List.set_cons_succ]
      refine obs_step (Eq.trans (by simp only [List.getElem?_toArray, List.getElem?_cons_succ, List.getElem?_cons_zero]; exact rfl) rfl) rfl (fun w' hS hV K hK => ?_) ?_
      · obtain ⟨_, q1, q2⟩ := hS
        go_simp
        exact hK.out _ _ _ rfl rfl rfl (Below.refl _ _)
      simp only [List.setIfInBounds_toArray, List.set_cons_zero, List.set_cons_succ]
      refine obs_step (Eq.trans (by simp only [List.getElem?_toArray, List.getElem?_cons_succ, List.getElem?_cons_zero]; exact rfl) rfl) rfl (fun w' hS hV K hK => ?_) ?_
      · have e1 : x 1 = (.slice (some ⟨g, o, none⟩) n c) := hV 1 (by decide)
        have e2 : x 2 = (.int .i64 (j)) := hV 2 (by decide)
        obtain ⟨_, q1, q2⟩ := hS
        go_simp
        exact hK.out _ _ _ rfl rfl rfl (Below.refl _ _)
      simp only [List.setIfInBounds_toArray, List.set_cons_zero, List.set_cons_succ]
      refine obs_step (Eq.trans (by simp only [List.getElem?_toArray, List.getElem?_cons_succ, List.getElem?_cons_zero]; exact rfl) rfl) rfl (fun w' hS hV K hK => ?_) ?_
      · have e1 : x 1 = (.slice (some ⟨g, o, none⟩) n c) := hV 1 (by decide)
        have e2 : x 2 = (.int .i64 (j)) := hV 2 (by decide)
        have e3 : x 3 = (.pointer (some ⟨g, o + j, none⟩)) := hV 3 (by decide)
        obtain ⟨_, q1, q2⟩ := hS
        go_simp
        exact hK.out _ _ _ rfl rfl rfl (Below.refl _ _)
      simp only [List.setIfInBounds_toArray, List.set_cons_zero, List.set_cons_succ]
      refine obs_step (Eq.trans (by simp only [List.getElem?_toArray, List.getElem?_cons_succ, List.getElem?_cons_zero]; exact rfl) rfl) rfl (fun w' hS hV K hK => ?_) ?_
      · obtain ⟨_, q1, q2⟩ := hS
        go_simp
        exact hK.out _ _ _ rfl rfl rfl (Below.refl _ _)
      simp only [List.setIfInBounds_toArray, List.set_cons_zero, List.set_cons_succ]
      refine obs_step (Eq.trans (by simp only [List.getElem?_toArray, List.getElem?_cons_succ, List.getElem?_cons_zero]; exact rfl) rfl) rfl (fun w' hS hV K hK => ?_) ?_
      · obtain ⟨_, q1, q2⟩ := hS
        go_simp
        exact hK.out _ _ _ rfl rfl rfl (Below.refl _ _)
      simp only [List.setIfInBounds_toArray, List.set_cons_zero, List.set_cons_succ]
      refine obs_step (Eq.trans (by simp only [List.getElem?_toArray, List.getElem?_cons_succ, List.getElem?_cons_zero]; exact rfl) rfl) rfl (fun w' hS hV K hK => ?_) ?_
      · obtain ⟨_, q1, q2⟩ := hS
        go_simp
        exact hK.out _ _ _ rfl rfl rfl (Below.refl _ _)
      simp only [List.setIfInBounds_toArray, List.set_cons_zero, List.set_cons_succ]
      refine obs_step (Eq.trans (by simp only [List.getElem?_toArray, List.getElem?_cons_succ, List.getElem?_cons_zero]; exact rfl) rfl) rfl (fun w' hS hV K hK => ?_) ?_
      · have e6 : x 6 = (.slice (some ⟨g2, o2, none⟩) m d) := hV 6 (by decide)
        have e7 : x 7 = (.int .i64 (j)) := hV 7 (by decide)
        obtain ⟨_, q1, q2⟩ := hS
        go_simp
        exact hK.out _ _ _ rfl rfl rfl (Below.refl _ _)
      simp only [List.setIfInBounds_toArray, List.set_cons_zero, List.set_cons_succ]
      refine obs_step (Eq.trans (by simp only [List.getElem?_toArray, List.getElem?_cons_succ, List.getElem?_cons_zero]; exact rfl) rfl) rfl (fun w' hS hV K hK => ?_) ?_
      · have e6 : x 6 = (.slice (some ⟨g2, o2, none⟩) m d) := hV 6 (by decide)
        have e7 : x 7 = (.int .i64 (j)) := hV 7 (by decide)
        have e8 : x 8 = (.pointer (some ⟨g2, o2 + j, none⟩)) := hV 8 (by decide)
        obtain ⟨_, q1, q2⟩ := hS
        go_simp
        exact hK.out _ _ _ rfl rfl rfl (Below.refl _ _)
      simp only [List.setIfInBounds_toArray, List.set_cons_zero, List.set_cons_succ]
      refine obs_step (Eq.trans (by simp only [List.getElem?_toArray, List.getElem?_cons_succ, List.getElem?_cons_zero]; exact rfl) rfl) rfl (fun w' hS hV K hK => ?_) ?_
      · have e5 : x 5 = (.int .i64 (k)) := hV 5 (by decide)
        have e6 : x 6 = (.slice (some ⟨g2, o2, none⟩) m d) := hV 6 (by decide)
        have e7 : x 7 = (.int .i64 (j)) := hV 7 (by decide)
        have e8 : x 8 = (.pointer (some ⟨g2, o2 + j, none⟩)) := hV 8 (by decide)
        have e9 : x 9 = (.int .i64 (ys[j])) := hV 9 (by decide)
        obtain ⟨_, q1, q2⟩ := hS
        go_simp
        exact hK.out _ _ _ rfl rfl rfl (Below.refl _ _)
      simp only [List.setIfInBounds_toArray, List.set_cons_zero, List.set_cons_succ]
      refine obs_step (Eq.trans (by simp only [List.getElem?_toArray, List.getElem?_cons_succ, List.getElem?_cons_zero]; exact rfl) rfl) rfl (fun w' hS hV K hK => ?_) ?_
      · have e1 : x 1 = (.slice (some ⟨g, o, none⟩) n c) := hV 1 (by decide)
        have e2 : x 2 = (.int .i64 (j)) := hV 2 (by decide)
        have e3 : x 3 = (.pointer (some ⟨g, o + j, none⟩)) := hV 3 (by decide)
        have e4 : x 4 = (.int .i64 (xs[j])) := hV 4 (by decide)
        have e5 : x 5 = (.int .i64 (k)) := hV 5 (by decide)
        have e6 : x 6 = (.slice (some ⟨g2, o2, none⟩) m d) := hV 6 (by decide)
        have e7 : x 7 = (.int .i64 (j)) := hV 7 (by decide)
        have e8 : x 8 = (.pointer (some ⟨g2, o2 + j, none⟩)) := hV 8 (by decide)
        have e9 : x 9 = (.int .i64 (ys[j])) := hV 9 (by decide)
        have e10 : x 10 = (.int .i64 (k * ys[j])) := hV 10 (by decide)
        obtain ⟨_, q1, q2⟩ := hS
        go_simp
        exact hK.out _ _ _ rfl rfl rfl (Below.refl _ _)
      simp only [List.setIfInBounds_toArray, List.set_cons_zero, List.set_cons_succ]
      refine obs_step (Eq.trans (by simp only [List.getElem?_toArray, List.getElem?_cons_succ, List.getElem?_cons_zero]; exact rfl) rfl) rfl (fun w' hS hV K hK => ?_) ?_
      · obtain ⟨_, q1, q2⟩ := hS
        go_simp
        exact hK.out _ _ _ rfl rfl rfl (Below.refl _ _)
      simp only [List.setIfInBounds_toArray, List.set_cons_zero, List.set_cons_succ]
      refine obs_step (Eq.trans (by simp only [List.getElem?_toArray, List.getElem?_cons_succ, List.getElem?_cons_zero]; exact rfl) rfl) rfl (fun w' hS hV K hK => ?_) ?_
      · have e1 : x 1 = (.slice (some ⟨g, o, none⟩) n c) := hV 1 (by decide)
        have e2 : x 2 = (.int .i64 (j)) := hV 2 (by decide)
        have e3 : x 3 = (.pointer (some ⟨g, o + j, none⟩)) := hV 3 (by decide)
        have e4 : x 4 = (.int .i64 (xs[j])) := hV 4 (by decide)
        have e5 : x 5 = (.int .i64 (k)) := hV 5 (by decide)
        have e6 : x 6 = (.slice (some ⟨g2, o2, none⟩) m d) := hV 6 (by decide)
        have e7 : x 7 = (.int .i64 (j)) := hV 7 (by decide)
        have e8 : x 8 = (.pointer (some ⟨g2, o2 + j, none⟩)) := hV 8 (by decide)
        have e9 : x 9 = (.int .i64 (ys[j])) := hV 9 (by decide)
        have e10 : x 10 = (.int .i64 (k * ys[j])) := hV 10 (by decide)
        have e11 : x 11 = (.int .i64 (xs[j] + k * ys[j])) := hV 11 (by decide)
        have e12 : x 12 = (.int .i64 (p)) := hV 12 (by decide)
        obtain ⟨_, q1, q2⟩ := hS
        go_simp
        exact hK.out _ _ _ rfl rfl rfl (Below.refl _ _)
      simp only [List.setIfInBounds_toArray, List.set_cons_zero, List.set_cons_succ]
      refine obs_step (Eq.trans (by simp only [List.getElem?_toArray, List.getElem?_cons_succ, List.getElem?_cons_zero]; exact rfl) rfl) rfl (fun w' hS hV K hK => ?_) ?_
      · have e1 : x 1 = (.slice (some ⟨g, o, none⟩) n c) := hV 1 (by decide)
        have e2 : x 2 = (.int .i64 (j)) := hV 2 (by decide)
        have e3 : x 3 = (.pointer (some ⟨g, o + j, none⟩)) := hV 3 (by decide)
        have e4 : x 4 = (.int .i64 (xs[j])) := hV 4 (by decide)
        have e5 : x 5 = (.int .i64 (k)) := hV 5 (by decide)
        have e6 : x 6 = (.slice (some ⟨g2, o2, none⟩) m d) := hV 6 (by decide)
        have e7 : x 7 = (.int .i64 (j)) := hV 7 (by decide)
        have e8 : x 8 = (.pointer (some ⟨g2, o2 + j, none⟩)) := hV 8 (by decide)
        have e9 : x 9 = (.int .i64 (ys[j])) := hV 9 (by decide)
        have e10 : x 10 = (.int .i64 (k * ys[j])) := hV 10 (by decide)
        have e11 : x 11 = (.int .i64 (xs[j] + k * ys[j])) := hV 11 (by decide)
        have e12 : x 12 = (.int .i64 (p)) := hV 12 (by decide)
        have e13 : x 13 = (.int .i64 ((xs[j] + k * ys[j]) % p)) := hV 13 (by decide)
        obtain ⟨_, q1, q2⟩ := hS
        go_simp
        exact hK.out _ _ _ rfl rfl ⟨_, rfl, Blk.new _ _ _⟩ ((Below.refl _ _).alloc (Nat.le_refl _) _)
      simp only [List.setIfInBounds_toArray, List.set_cons_zero, List.set_cons_succ]
      refine fun w' hS hV => ?_
      have e0 : x 0 = (.slice A' j c') := hV 0 (by decide)
      have e1 : x 1 = (.slice (some ⟨g, o, none⟩) n c) := hV 1 (by decide)
      have e2 : x 2 = (.int .i64 (j)) := hV 2 (by decide)
      have e3 : x 3 = (.pointer (some ⟨g, o + j, none⟩)) := hV 3 (by decide)
      have e4 : x 4 = (.int .i64 (xs[j])) := hV 4 (by decide)
      have e5 : x 5 = (.int .i64 (k)) := hV 5 (by decide)
      have e6 : x 6 = (.slice (some ⟨g2, o2, none⟩) m d) := hV 6 (by decide)
      have e7 : x 7 = (.int .i64 (j)) := hV 7 (by decide)
      have e8 : x 8 = (.pointer (some ⟨g2, o2 + j, none⟩)) := hV 8 (by decide)
      have e9 : x 9 = (.int .i64 (ys[j])) := hV 9 (by decide)
      have e10 : x 10 = (.int .i64 (k * ys[j])) := hV 10 (by decide)
      have e11 : x 11 = (.int .i64 (xs[j] + k * ys[j])) := hV 11 (by decide)
      have e12 : x 12 = (.int .i64 (p)) := hV 12 (by decide)
      have e13 : x 13 = (.int .i64 ((xs[j] + k * ys[j]) % p)) := hV 13 (by decide)
      obtain ⟨b14, e14, h14⟩ := hV 14 (by decide)
      simp only [e0, e1, e2, e3, e4, e5, e6, e7, e8, e9, e10, e11, e12, e13, e14]
      clear e0 e1 e2 e3 e4 e5 e6 e7 e8 e9 e10 e11 e12 e13 e14
      obtain ⟨s1, s2, s3⟩ := hS
      refine any_plain (j := 15) (by kernel_rfl) (Eq.trans (by simp only [List.getElem?_toArray, List.getElem?_cons_succ, List.getElem?_cons_zero]; exact rfl) rfl) rfl (fun K hK => ?_)
      refine wp_app1 w w' 24 2 _ _ Tryz.underlying24 info_i rfl (by omega) _ _ rfl A' j c' _ _ s1 (by omega) rfl _ h14 (by rfl) (by rfl) ?_
      intro A2 c2 w2 hM2 hgr
      refine hK.out _ _ ?_
      simp only [Act.put, List.setIfInBounds_toArray, List.set_cons_zero, List.set_cons_succ]
      refine any_one (j := 16) (by kernel_rfl) (Eq.trans (by simp only [List.getElem?_toArray, List.getElem?_cons_succ, List.getElem?_cons_zero]; exact rfl) rfl) (fun K hK => ?_)
      go_simp
      refine hK.out _ _ (wpAny_done (by kernel_rfl) ?_ _)
      clear W1 W2 W3 s2 s3 hM
      go_wp2
      go_roundw
      case rel => exact ⟨j + 1, A2, c2, by omega, by go_num, rfl, by rw [HV.out]; simpa [MkI, ints] using hM2⟩
      case measure => simp [intOf]; omega
    · go_wp2
      go_ret
      obtain rfl : j = n := by omega
      exact ⟨_, _, rfl, by unfold plusL; rw [Hx.out]; exact hM⟩
end Go.Proofs.YtggigolkncckoaaGreat
namespace Go.Proofs.YtggigolkncckoaaGreat
open Go.RowKit
theorem ent_at' {M : List (List Int)} {i k : Nat} (hi : i < M.length) (hk : k < M[i].length) : ent M i k = M[i][k] := by
  unfold ent
  rw [getD_of_lt [] hi, getD_of_lt 0 hk]
theorem i64_small {x : Int} (h1 : -1000000 ≤ x) (h2 : x ≤ 1000000) : IntKind.i64.wrap x = x := i64_fit x (by omega) (by omega)
theorem clearTo_same {p : Int} {m : List (List Int)} {d k j : Nat} (hj : j < m.length) (h0 : ent m j k = 0) (hN : NumsL p (m.getD j [])) : clearTo p m d k (j + 1) = clearTo p m d k j := by
  refine tab_congr fun r _ => ?_
  by_cases hr : r = j
  · subst hr
    by_cases hd : r = d
    · rw [if_neg (fun h => h.2 hd), if_neg (fun h => h.2 hd)]
    · rw [if_pos ⟨by omega, hd⟩, if_neg (by omega), h0]
      exact plusL_zero _ _ hN
  · by_cases hd : r = d
    · rw [if_neg (fun h => h.2 hd), if_neg (fun h => h.2 hd)]
    · by_cases hl : r < j
      · rw [if_pos ⟨by omega, hd⟩, if_pos ⟨hl, hd⟩]
      · rw [if_neg (by omega), if_neg (by omega)]
theorem keepR3 {B : Nat} {W0 w1 w2 : World} {p q r : Addr} {u v x : Value} (h : w1.cell? p = some u ∧ w1.cell? q = some v ∧ w1.cell? r = some x ∧ Below B W0 w1) (hb : Below w1.heap.size w1 w2) (hB : B ≤ W0.heap.size) :
    w2.cell? p = some u ∧ w2.cell? q = some v ∧ w2.cell? r = some x ∧ Below B W0 w2 :=
  ⟨(hb.cell (World.block_lt_of_cell? _ _ h.1)).trans h.1, (hb.cell (World.block_lt_of_cell? _ _ h.2.1)).trans h.2.1, (hb.cell (World.block_lt_of_cell? _ _ h.2.2.1)).trans h.2.2.1, h.2.2.2.trans (hb.mono (Nat.le_trans hB h.2.2.2.size))⟩
set_option maxRecDepth 8000 in
set_option maxHeartbeats 400000 in
theorem l01Own_any (A : Option Addr) (n c : Nat) (xs : List Int) (w : World) (hn : n ≤ 65536) (ha : Rd w A n (ints xs)) :
    Calls Tryz.prog 268 #[.slice A n c] w fun e w' => ∃ A' c', e = .returned (.slice A' n c') ∧ MkI w w' A' n c' xs := by
  have hxl : xs.length = n := by have := ha.1; rwa [ints_length] at this
  have hM0 := Mk.lit (E := 2) (Below.refl w.heap.size w) #[] (by simp)
  obtain ⟨i, hi, h1, h2, h3⟩ := info_parts info_i
  obtain ⟨b1, b2⟩ := bound_of (Nat.le_trans hn (by decide))
  clear b1
  have HB := Lib.hid b2
  clear b2
  obtain ⟨p, hnews⟩ : ∃ p : Addr, (∀ (j : Nat) (u : Value), (ints xs)[j]? = some u → (w.alloc (.cells #[] 2)).cell? (p.add j) = some u) ∧ (A = some p ∨ (A = none ∧ n = 0)) := by
    cases A with
    | none =>
      have h0 : n = 0 := by
        rcases Nat.eq_zero_or_pos n with h | h
        · exact h
        · obtain ⟨g, o, e, _⟩ := ha.2 h; cases e
      exact ⟨⟨0, 0, none⟩, fun j u hu => by have := (List.getElem?_eq_some_iff.1 hu).1; rw [ints_length] at this; omega, .inr ⟨rfl, h0⟩⟩
    | some p =>
      refine ⟨p, fun j u hu => ?_, .inl rfl⟩
      have hj : j < n := by have := (List.getElem?_eq_some_iff.1 hu).1; rw [ints_length] at this; omega
      obtain ⟨g, o, e, hc⟩ := (ha.below ((Below.refl _ w).alloc (Nat.le_refl _) (.cells #[] 2))).2 (by omega)
      injection e with e; subst e
      rw [Addr.add_lit]
      exact hc j u hu
  have Hx := Lib.hid hxl
  have HI := Lib.hid hi
  have H1 := Lib.hid h1
  have H2 := Lib.hid h2
  have H3 := Lib.hid h3
  have HN := Lib.hid hnews.1
  have hA := hnews.2
  clear hnews hi h1 h2 h3 hxl
  rcases hA with rfl | ⟨rfl, rfl⟩
  · go_enter Tryz.func268, Tryz.ntmps268
    go_wp2_with (at_builtin; refine wpList_append_own_at (w.alloc (.cells #[] 2)) rfl _ _ 24 rfl w.heap.size 2 i _ 1 8 Tryz.underlying24 HI.out H1.out H2.out H3.out rfl (by omega) (.slice (some ⟨w.heap.size, 0, none⟩) 0 0) 0 [] rfl hM0.2 p n c (ints xs) rfl (by rw [ints_length, Hx.out, Nat.mul_one]) HN.out (by intro u hu; obtain ⟨y, _, rfl⟩ := List.mem_map.1 hu; rfl) (by simp only [maxLen]; omega) (by have := HB.out 8 (by omega); omega) (by simp) ?_; intro v' w' hown hg _ _)
    have hb' : Below w.heap.size w w' := hM0.1.grown hg (by simp) (fun k hk => (hM0.2.lt k hk).1)
    rw [Nat.zero_add, List.nil_append] at hown
    rcases hown.2 with ⟨rfl, h0⟩ | ⟨g, cap, cur, rfl, hr⟩
    · subst h0
      go_ret
      exact ⟨none, 0, rfl, hb', hown⟩
    · go_ret
      exact ⟨_, _, rfl, hb', hown⟩
  · have hxs : xs = [] := List.eq_nil_of_length_eq_zero Hx.out
    subst hxs
    go_enter Tryz.func268, Tryz.ntmps268
    go_wp2
    go_ret
    exact ⟨_, _, rfl, hM0⟩
set_option maxHeartbeats 1600000 in
set_option maxRecDepth 8000 in
theorem cloneRows_any (p : Int) (A : Option Addr) (n c : Nat) (M : List (List Int)) (m : Nat) (w : World) (hn : n ≤ 65536) (hm : m ≤ 65536) (ha : RdII w A n M) (hT : Tab p m M) :
    Calls Tryz.prog 273 #[.slice A n c] w fun e w' => ∃ A' c', e = .returned (.slice A' n c') ∧ MkII w w' A' n c' M := by
  have hML := ha.len
  have HT := Lib.hid hT
  have HML := Lib.hid hML
  have hM0 : MkII w (w.alloc (.cells #[] 24)) (some ⟨w.heap.size, 0, none⟩) 0 0 [] := MkII.empty (Below.refl _ _)
  clear hT hML
  go_enter Tryz.func273, Tryz.ntmps273
  go_wp2
  obtain ⟨w1, hw1⟩ : ∃ W, W = w.alloc (.cells #[] 24) := ⟨_, rfl⟩
  rw [← hw1] at hM0 ⊢
  clear hw1
  go_loopw [3, 5, 9] (fun out _ i wr => ∃ (k : Nat) (A' : Option Addr) (c' : Nat), k ≤ n ∧ i = .int .i64 k ∧ out = .slice A' k c' ∧ MkII w wr A' k c' (M.take k)) (fun _ _ i _ => n - (intOf i).toNat)
  case atStart => exact ⟨0, _, _, by omega, rfl, rfl, by simpa using hM0⟩
  case round =>
    obtain ⟨k, A', c', hk, rfl, rfl, hM⟩ := hrel
    clear hM0
    by_cases hlt : k < n
    · obtain ⟨g, o, rfl, hxk, A1, c1, hcx, hr1, _⟩ := (ha.below hM.b).at_ hlt
      have hl1 : M[k].length = m := (HT.out M[k] (List.getElem_mem hxk)).1
      rw [hl1] at hcx hr1
      have hcall := clone_any A1 m c1 M[k] wr hm hr1
      have HV : Hid (M.take (k + 1) = M.take k ++ [M[k]]) := Lib.hid (List.take_succ_eq_append_getElem hxk)
      have HM := Lib.hid hM
      clear hM hr1 hl1 ha
      go_wp2_with fail
      refine hcall.mono ?_
      rintro e w5 ⟨A5, c5, rfl, hM5⟩
      clear hcall
      go_wp2_with (at_builtin; refine wpList_appRow w wr _ rfl _ _ rfl A' k c' _ A5 m c5 _ HM.out hM5 (by omega) rfl ?_ ?_; (go_simp); intro A6 c6 w6 hM6)
      go_roundw
      case rel => exact ⟨k + 1, A6, c6, by omega, by go_num, rfl, by rw [HV.out]; exact hM6⟩
      case measure => simp [intOf]; omega
    · obtain rfl : k = n := by omega
      go_wp2
      go_ret
      rw [List.take_of_length_le (by rw [HML.out]; exact Nat.le_refl _)] at hM
      exact ⟨_, _, rfl, hM⟩
set_option maxHeartbeats 1600000 in
set_option maxRecDepth 8000 in
theorem l01Own2_any (p : Int) (A : Option Addr) (n c : Nat) (M : List (List Int)) (m : Nat) (w : World) (hn : n ≤ 65536) (hm : m ≤ 65536) (ha : RdII w A n M) (hT : Tab p m M) :
    Calls Tryz.prog 219 #[.slice A n c] w fun e w' => ∃ A' c', e = .returned (.slice A' n c') ∧ MkII w w' A' n c' M := by
  have hML := ha.len
  have HT := Lib.hid hT
  have HML := Lib.hid hML
  have hM0 : MkII w (w.alloc (.cells #[] 24)) (some ⟨w.heap.size, 0, none⟩) 0 0 [] := MkII.empty (Below.refl _ _)
  clear hT hML
  go_enter Tryz.func219, Tryz.ntmps219
  go_wp2
  obtain ⟨w1, hw1⟩ : ∃ W, W = w.alloc (.cells #[] 24) := ⟨_, rfl⟩
  rw [← hw1] at hM0 ⊢
  clear hw1
  go_loopw [3, 4] (fun out i wr => ∃ (k : Nat) (A' : Option Addr) (c' : Nat), k ≤ n ∧ i = .int .i64 k ∧ out = .slice A' k c' ∧ MkII w wr A' k c' (M.take k)) (fun _ i _ => n - (intOf i).toNat)
  case atStart => exact ⟨0, _, _, by omega, rfl, rfl, by simpa using hM0⟩
  case round =>
    obtain ⟨k, A', c', hk, rfl, rfl, hM⟩ := hrel
    clear hM0
    by_cases hlt : k < n
    · obtain ⟨g, o, rfl, hxk, A1, c1, hcx, hr1, _⟩ := (ha.below hM.b).at_ hlt
      have hl1 : M[k].length = m := (HT.out M[k] (List.getElem_mem hxk)).1
      rw [hl1] at hcx hr1
      have hcall := l01Own_any A1 m c1 M[k] wr hm hr1
      have HV : Hid (M.take (k + 1) = M.take k ++ [M[k]]) := Lib.hid (List.take_succ_eq_append_getElem hxk)
      have HM := Lib.hid hM
      clear hM hr1 hl1 ha
      go_wp2_with fail
      refine hcall.mono ?_
      rintro e w5 ⟨A5, c5, rfl, hM5⟩
      clear hcall
      go_wp2_with (at_builtin; refine wpList_appRow w wr _ rfl _ _ rfl A' k c' _ A5 m c5 _ HM.out hM5 (by omega) rfl ?_ ?_; (go_simp); intro A6 c6 w6 hM6)
      go_roundw
      case rel => exact ⟨k + 1, A6, c6, by omega, by go_num, rfl, by rw [HV.out]; exact hM6⟩
      case measure => simp [intOf]; omega
    · obtain rfl : k = n := by omega
      go_wp2
      go_ret
      rw [List.take_of_length_le (by rw [HML.out]; exact Nat.le_refl _)] at hM
      exact ⟨_, _, rfl, hM⟩
set_option maxHeartbeats 6400000 in
set_option maxRecDepth 8000 in
theorem basis_any (p : Int) (A : Option Addr) (n c : Nat) (M : List (List Int)) (m : Nat) (w : World) (HP : isP p = true) (hn : n ≤ 65536) (hm : m ≤ 65536) (ha : RdII w A n M) (hT : Tab p m M) :
    Calls Tryz.prog 324 #[.int .i64 p, .slice A n c] w fun e w' => ∃ A' c', e = .returned (.slice A' (basisL p M).length c') ∧ MkII w w' A' (basisL p M).length c' (basisL p M) := by
  have hML := ha.len
  obtain ⟨hp3, hp2⟩ := isP_ge HP
  have hp : 2 ≤ p := by omega
  have hclone := cloneRows_any p A n c M m w hn hm ha hT
  have HT := Lib.hid hT
  have HP' := Lib.hid HP
  by_cases h0 : 0 < n
  · have HBL : Hid (basisL p M = (basisTo p M m).1.take (basisTo p M m).2) := Lib.hid (by unfold basisL; rw [row0_len hT (by omega)])
    have HINV : Hid (∀ k, Tab p m (basisTo p M k).1 ∧ (basisTo p M k).1.length = n ∧ (basisTo p M k).2 ≤ n) := Lib.hid (fun k => by
      have := basisTo_inv (p := p) (by omega) M hT k
      rw [hML] at this
      exact this)
    clear hT HP hML ha
    go_enter Tryz.func324, Tryz.ntmps324
    go_wp2_with fail
    refine hclone.mono ?_
    rintro e w1 ⟨A1, c1, rfl, hM1⟩
    clear hclone
    obtain ⟨g, rfl, -⟩ := hM1.at_ h0
    go_wp2
    go_loopw [6, 7] (fun d q wr => ∃ dn kn : Nat, d = .int .i64 dn ∧ q = .int .i64 kn ∧ kn ≤ m ∧ dn = (basisTo p M kn).2 ∧ MkII w wr (some ⟨g, 0, none⟩) n c1 (basisTo p M kn).1) (fun _ q _ => m - (intOf q).toNat)
    case atStart => exact ⟨0, 0, rfl, rfl, by omega, rfl, hM1⟩
    case round =>
      obtain ⟨dn, kn, rfl, rfl, hkm, hdn, hM⟩ := hrel
      clear hM1
      obtain ⟨hT1, hl1, hd1⟩ := HINV.out kn
      rw [← hdn] at hd1
      have HSUC : Hid (basisTo p M (kn + 1) = stepB p kn ((basisTo p M kn).1, dn)) := Lib.hid (by rw [hdn]; rfl)
      have HFULL : Hid (dn = n → basisL p M = (basisTo p M kn).1.take dn) := Lib.hid (fun h => by
        rw [HBL.out, basisTo_full p M kn m hkm (by rw [← hdn, hl1]; exact h), ← hdn])
      have HEND : Hid (kn = m → basisL p M = (basisTo p M kn).1.take dn) := Lib.hid (fun h => by rw [HBL.out, ← h, ← hdn])
      obtain ⟨L, hL⟩ : ∃ L, L = (basisTo p M kn).1 := ⟨_, rfl⟩
      rw [← hL] at hM hT1 hl1 HSUC HFULL HEND
      clear hL hdn
      have HT1 := Lib.hid hT1
      have HL1 := Lib.hid hl1
      have HM := Lib.hid hM
      have hcap : n ≤ c1 := by obtain ⟨rows, hm', _⟩ := hM; exact hm'.2.cap
      obtain ⟨g0, e0, hx0, A0, c0, hc0, -⟩ := hM.at_ h0
      injection e0 with e0; injection e0 with e0 _ _; subst e0
      have hl0 : L[0].length = m := (HT1.out L[0] (List.getElem_mem hx0)).1
      rw [hl0] at hc0
      clear hl0 hT1 hl1 hM
      by_cases hgo : kn < m ∧ dn < n
      · obtain ⟨hlk, hld⟩ := hgo
        go_wp2
        go_loop [8] (fun i => ∃ j : Nat, dn ≤ j ∧ j ≤ n ∧ i = .int .i64 j ∧ Hid (piv L kn (n - j) j = pivOf L kn dn)) (fun i => n - (intOf i).toNat)
        case atStart => exact ⟨dn, by omega, by omega, rfl, Lib.hid (by unfold pivOf; rw [HL1.out])⟩
        case round =>
          obtain ⟨j, hj1, hj2, rfl, hj3⟩ := hrel
          by_cases hlj : j < n
          · have hld : dn < n := by omega
            obtain ⟨g0, e0, hxj, Aj, cj, hcj, hrj⟩ := HM.out.at_ hlj
            injection e0 with e0; injection e0 with e0 _ _; subst e0
            have HRJ := Lib.hid (HT1.out L[j] (List.getElem_mem hxj))
            have hlj2 : L[j].length = m := HRJ.out.1
            rw [hlj2] at hcj hrj
            obtain ⟨gj, oj, rfl, hxe, hce⟩ := hrj.rd.int hlk
            have HE : Hid (ent L j kn = L[j][kn]) := Lib.hid (ent_at' hxj hxe)
            have HPV : Hid (piv L kn (n - j) j = if ent L j kn = 0 then piv L kn (n - (j + 1)) (j + 1) else j) := Lib.hid (by
              rw [show n - j = (n - (j + 1)) + 1 by omega]; rfl)
            have HROW : Hid ((swapL L dn j)[dn]? = some L[j]) := Lib.hid (by
              rw [swapL_get? L (by rw [HL1.out]; exact hld) hxj]
              by_cases hdj : dn = j
              · subst hdj; rw [if_pos rfl]; exact List.getElem?_eq_getElem hxj
              · rw [if_neg hdj, if_pos rfl]; exact List.getElem?_eq_getElem hxj)
            have HGD : Hid (L.getD j [] = L[j]) := Lib.hid (getD_of_lt [] hxj)
            obtain ⟨R, hR⟩ : ∃ R, R = L[j] := ⟨_, rfl⟩
            have HXE : Hid (∀ h : kn < R.length, R[kn] = L[j][kn]) := Lib.hid (fun h => by simp only [hR])
            rw [← hR] at hrj HRJ HROW HGD
            clear hlj2
            obtain ⟨xe, hxe'⟩ : ∃ x, x = L[j][kn] := ⟨_, rfl⟩
            rw [← hxe'] at hce HE HXE
            have HX : Hid (0 ≤ xe ∧ xe < p) := Lib.hid (hxe' ▸ ((HT1.out L[j] (List.getElem_mem hxj)).2 _ (List.getElem_mem hxe)))
            clear hxe' hxe hR hxj
            cases hz : (xe == 0)
            · have hne : xe ≠ 0 := by simpa using hz
              have HVP : Hid (pivOf L kn dn = j) := Lib.hid (by rw [← hj3.out, HPV.out, if_neg (by rw [HE.out]; exact hne)])
              obtain ⟨g0, e0, hxd, Ad, cd, hcd, hrd⟩ := HM.out.at_ hld
              injection e0 with e0; injection e0 with e0 _ _; subst e0
              have hld2 : L[dn].length = m := (HT1.out L[dn] (List.getElem_mem hxd)).1
              rw [hld2] at hcd hrd
              have fd := HM.out.frozen_ dn
              have fj := HM.out.frozen_ j
              have HSC : Hid (scaledAt p L kn dn = (swapL L dn j).set dn (scaleL p R (invF p xe))) := Lib.hid (by unfold scaledAt; rw [HVP.out, HGD.out, HE.out])
              have HTS : Hid (Tab p m (scaledAt p L kn dn) ∧ (scaledAt p L kn dn).length = n) := Lib.hid ⟨scaledAt_tab (by omega) HT1.out (by rw [HL1.out]; exact hld) (by rw [HVP.out, HL1.out]; exact hlj), by rw [scaledAt_len, HL1.out]⟩
              have HNEXT : Hid (basisTo p M (kn + 1) = (clearTo p (scaledAt p L kn dn) dn kn n, dn + 1)) := Lib.hid (by
                rw [HSUC.out]; unfold stepB; rw [if_neg (by simp only; rw [HVP.out, HL1.out]; omega)]; simp only [HL1.out])
              have HSCD : Hid ((scaledAt p L kn dn).getD dn [] = scaleL p R (invF p xe)) := Lib.hid (by
                rw [HSC.out, getD_set, if_pos ⟨rfl, by rw [swapL_len, HL1.out]; exact hld⟩])
              have HSW := Lib.hid (HM.out.swap hld hlj hcd hcj)
              obtain ⟨uj, hcs⟩ := HM.out.cellSet dn (A1 := some ⟨gj, oj, none⟩) (m := m) (c1 := cj) hlj
              clear hrj hrd hld2 hxd
              go_wp2
              go_region
              obtain ⟨w2, hw2⟩ : ∃ W, W = ((wr.setCell ⟨g, dn, none⟩ (.slice (some ⟨gj, oj, none⟩) m cj)).setCell ⟨g, j, none⟩ (.slice Ad m cd)).drew := ⟨_, rfl⟩
              have hM2 : MkII w w2 (some ⟨g, 0, none⟩) n c1 (swapL L dn j) := by rw [hw2]; exact HSW.out.below ((Below.refl _ _).drew)
              rw [← hw2]
              clear hw2 HSW hcs fd fj hcd hcj hce hc0
              obtain ⟨g0, e0, hxs, As, cs, hcs2, hrs⟩ := hM2.at_ hld
              injection e0 with e0; injection e0 with e0 _ _; subst e0
              have hrow : (swapL L dn j)[dn] = R := by have := HROW.out; rw [List.getElem?_eq_getElem hxs] at this; exact Option.some.inj this
              rw [hrow] at hcs2 hrs
              have hRl := HRJ.out.1
              rw [hRl] at hcs2 hrs
              obtain ⟨gs, os, rfl, hxe2, hce2⟩ := hrs.rd.int hlk
              rw [HXE.out hxe2] at hce2
              have HM2 := Lib.hid hM2
              have HRS := Lib.hid hrs
              clear hM2 hrs hrow hxe2 hxs hRl
              have hiv := invF_small hp xe
              have hx1 := HX.out
              have fd := HM2.out.frozen_ dn
              go_wp2
              refine wp_obs 18 [[], [], [], [], [], [3, 4], [3, 4, 5], [], [], [], [8, 9], [8, 9, 10], [], [8, 9, 10, 11, 12], [8, 9, 10, 11, 12, 13], [7, 8, 9, 10, 11, 12, 13, 14], [2, 3, 4, 5, 6, 7, 8, 9, 10, 11, 12, 13, 14, 15], [0, 1], [0, 1, 2, 3, 4, 5, 6, 7, 8, 9, 10, 11, 12, 13, 14, 15, 16, 17]] [VIs (.slice (some ⟨g, 0, none⟩) n c1), VIs (.int .i64 (dn)), VIs (.int .i64 (p)), VIs (.slice (some ⟨g, 0, none⟩) n c1), VIs (.int .i64 (dn)), VIs (.pointer (some ⟨g, dn, none⟩)), VIs (.slice (some ⟨gs, os, none⟩) m cs), VIs (.int .i64 (p)), VIs (.slice (some ⟨g, 0, none⟩) n c1), VIs (.int .i64 (dn)), VIs (.pointer (some ⟨g, dn, none⟩)), VIs (.slice (some ⟨gs, os, none⟩) m cs), VIs (.int .i64 (kn)), VIs (.pointer (some ⟨gs, os + kn, none⟩)), VIs (.int .i64 (xe)), VIs (.int .i64 (invF p xe)), VSl w2 m (scaleL p R (invF p xe)), VIs (.pointer (some ⟨g, dn, none⟩))] (fun w' => w'.cell? ⟨g, dn, none⟩ = some (.slice (some ⟨gs, os, none⟩) m cs) ∧ w'.cell? ⟨gs, os + kn, none⟩ = some (.int .i64 xe) ∧ Below w2.heap.size w2 w') (by kernel_rfl) (by kernel_rfl) (fun _ _ h hb => keepB2 h hb (Nat.le_refl _)) (⟨hcs2, hce2, (Below.refl _ _).drew⟩) (fun x => ?_)
              refine obs_step (Eq.trans (by simp only [List.getElem?_toArray, List.getElem?_cons_zero]; exact rfl) rfl) rfl (fun w' hS hV K hK => ?_) ?_
              · have q0 := hS.1; have q1 := hS.2.1; have q2 := hS.2.2
                go_simp
                exact hK.out _ _ _ rfl rfl rfl (Below.refl _ _)
              simp only [List.setIfInBounds_toArray, List.set_cons_zero, List.set_cons_succ]
              refine obs_step (Eq.trans (by simp only [List.getElem?_toArray, List.getElem?_cons_succ, List.getElem?_cons_zero]; exact rfl) rfl) rfl (fun w' hS hV K hK => ?_) ?_
              · have q0 := hS.1; have q1 := hS.2.1; have q2 := hS.2.2
                go_simp
                exact hK.out _ _ _ rfl rfl rfl (Below.refl _ _)
              simp only [List.setIfInBounds_toArray, List.set_cons_zero, List.set_cons_succ]
              refine obs_step (Eq.trans (by simp only [List.getElem?_toArray, List.getElem?_cons_succ, List.getElem?_cons_zero]; exact rfl) rfl) rfl (fun w' hS hV K hK => ?_) ?_
              · have q0 := hS.1; have q1 := hS.2.1; have q2 := hS.2.2
                go_simp
                exact hK.out _ _ _ rfl rfl rfl (Below.refl _ _)
              simp only [List.setIfInBounds_toArray, List.set_cons_zero, List.set_cons_succ]
              refine obs_step (Eq.trans (by simp only [List.getElem?_toArray, List.getElem?_cons_succ, List.getElem?_cons_zero]; exact rfl) rfl) rfl (fun w' hS hV K hK => ?_) ?_
              · have q0 := hS.1; have q1 := hS.2.1; have q2 := hS.2.2
                go_simp
                exact hK.out _ _ _ rfl rfl rfl (Below.refl _ _)
              simp only [List.setIfInBounds_toArray, List.set_cons_zero, List.set_cons_succ]
              refine obs_step (Eq.trans (by simp only [List.getElem?_toArray, List.getElem?_cons_succ, List.getElem?_cons_zero]; exact rfl) rfl) rfl (fun w' hS hV K hK => ?_) ?_
              · have q0 := hS.1; have q1 := hS.2.1; have q2 := hS.2.2
                go_simp
                exact hK.out _ _ _ rfl rfl rfl (Below.refl _ _)
              simp only [List.setIfInBounds_toArray, List.set_cons_zero, List.set_cons_succ]
              refine obs_step (Eq.trans (by simp only [List.getElem?_toArray, List.getElem?_cons_succ, List.getElem?_cons_zero]; exact rfl) rfl) rfl (fun w' hS hV K hK => ?_) ?_
              · have e3 : x 3 = (.slice (some ⟨g, 0, none⟩) n c1) := hV 3 (by decide)
                have e4 : x 4 = (.int .i64 (dn)) := hV 4 (by decide)
                have q0 := hS.1; have q1 := hS.2.1; have q2 := hS.2.2
                go_simp
                exact hK.out _ _ _ rfl rfl rfl (Below.refl _ _)
              simp only [List.setIfInBounds_toArray, List.set_cons_zero, List.set_cons_succ]
              refine obs_step (Eq.trans (by simp only [List.getElem?_toArray, List.getElem?_cons_succ, List.getElem?_cons_zero]; exact rfl) rfl) rfl (fun w' hS hV K hK => ?_) ?_
              · have e3 : x 3 = (.slice (some ⟨g, 0, none⟩) n c1) := hV 3 (by decide)
                have e4 : x 4 = (.int .i64 (dn)) := hV 4 (by decide)
                have e5 : x 5 = (.pointer (some ⟨g, dn, none⟩)) := hV 5 (by decide)
                have q0 := hS.1; have q1 := hS.2.1; have q2 := hS.2.2
                go_simp
                exact hK.out _ _ _ rfl rfl rfl (Below.refl _ _)
              simp only [List.setIfInBounds_toArray, List.set_cons_zero, List.set_cons_succ]
              refine obs_step (Eq.trans (by simp only [List.getElem?_toArray, List.getElem?_cons_succ, List.getElem?_cons_zero]; exact rfl) rfl) rfl (fun w' hS hV K hK => ?_) ?_
              · have q0 := hS.1; have q1 := hS.2.1; have q2 := hS.2.2
                go_simp
                exact hK.out _ _ _ rfl rfl rfl (Below.refl _ _)
              simp only [List.setIfInBounds_toArray, List.set_cons_zero, List.set_cons_succ]
              refine obs_step (Eq.trans (by simp only [List.getElem?_toArray, List.getElem?_cons_succ, List.getElem?_cons_zero]; exact rfl) rfl) rfl (fun w' hS hV K hK => ?_) ?_
              · have q0 := hS.1; have q1 := hS.2.1; have q2 := hS.2.2
                go_simp
                exact hK.out _ _ _ rfl rfl rfl (Below.refl _ _)
              simp only [List.setIfInBounds_toArray, List.set_cons_zero, List.set_cons_succ]
              refine obs_step (Eq.trans (by simp only [List.getElem?_toArray, List.getElem?_cons_succ, List.getElem?_cons_zero]; exact rfl) rfl) rfl (fun w' hS hV K hK => ?_) ?_
              · have q0 := hS.1; have q1 := hS.2.1; have q2 := hS.2.2
                go_simp
                exact hK.out _ _ _ rfl rfl rfl (Below.refl _ _)
              simp only [List.setIfInBounds_toArray, List.set_cons_zero, List.set_cons_succ]
              refine obs_step (Eq.trans (by simp only [List.getElem?_toArray, List.getElem?_cons_succ, List.getElem?_cons_zero]; exact rfl) rfl) rfl (fun w' hS hV K hK => ?_) ?_
              · have e8 : x 8 = (.slice (some ⟨g, 0, none⟩) n c1) := hV 8 (by decide)
                have e9 : x 9 = (.int .i64 (dn)) := hV 9 (by decide)
                have q0 := hS.1; have q1 := hS.2.1; have q2 := hS.2.2
                go_simp
                exact hK.out _ _ _ rfl rfl rfl (Below.refl _ _)
              simp only [List.setIfInBounds_toArray, List.set_cons_zero, List.set_cons_succ]
              refine obs_step (Eq.trans (by simp only [List.getElem?_toArray, List.getElem?_cons_succ, List.getElem?_cons_zero]; exact rfl) rfl) rfl (fun w' hS hV K hK => ?_) ?_
              · have e8 : x 8 = (.slice (some ⟨g, 0, none⟩) n c1) := hV 8 (by decide)
                have e9 : x 9 = (.int .i64 (dn)) := hV 9 (by decide)
                have e10 : x 10 = (.pointer (some ⟨g, dn, none⟩)) := hV 10 (by decide)
                have q0 := hS.1; have q1 := hS.2.1; have q2 := hS.2.2
                go_simp
                exact hK.out _ _ _ rfl rfl rfl (Below.refl _ _)
              simp only [List.setIfInBounds_toArray, List.set_cons_zero, List.set_cons_succ]
              refine obs_step (Eq.trans (by simp only [List.getElem?_toArray, List.getElem?_cons_succ, List.getElem?_cons_zero]; exact rfl) rfl) rfl (fun w' hS hV K hK => ?_) ?_
              · have q0 := hS.1; have q1 := hS.2.1; have q2 := hS.2.2
                go_simp
                exact hK.out _ _ _ rfl rfl rfl (Below.refl _ _)
              simp only [List.setIfInBounds_toArray, List.set_cons_zero, List.set_cons_succ]
              refine obs_step (Eq.trans (by simp only [List.getElem?_toArray, List.getElem?_cons_succ, List.getElem?_cons_zero]; exact rfl) rfl) rfl (fun w' hS hV K hK => ?_) ?_
              · have e8 : x 8 = (.slice (some ⟨g, 0, none⟩) n c1) := hV 8 (by decide)
                have e9 : x 9 = (.int .i64 (dn)) := hV 9 (by decide)
                have e10 : x 10 = (.pointer (some ⟨g, dn, none⟩)) := hV 10 (by decide)
                have e11 : x 11 = (.slice (some ⟨gs, os, none⟩) m cs) := hV 11 (by decide)
                have e12 : x 12 = (.int .i64 (kn)) := hV 12 (by decide)
                have q0 := hS.1; have q1 := hS.2.1; have q2 := hS.2.2
                go_simp
                exact hK.out _ _ _ rfl rfl rfl (Below.refl _ _)
              simp only [List.setIfInBounds_toArray, List.set_cons_zero, List.set_cons_succ]
              refine obs_step (Eq.trans (by simp only [List.getElem?_toArray, List.getElem?_cons_succ, List.getElem?_cons_zero]; exact rfl) rfl) rfl (fun w' hS hV K hK => ?_) ?_
              · have e8 : x 8 = (.slice (some ⟨g, 0, none⟩) n c1) := hV 8 (by decide)
                have e9 : x 9 = (.int .i64 (dn)) := hV 9 (by decide)
                have e10 : x 10 = (.pointer (some ⟨g, dn, none⟩)) := hV 10 (by decide)
                have e11 : x 11 = (.slice (some ⟨gs, os, none⟩) m cs) := hV 11 (by decide)
                have e12 : x 12 = (.int .i64 (kn)) := hV 12 (by decide)
                have e13 : x 13 = (.pointer (some ⟨gs, os + kn, none⟩)) := hV 13 (by decide)
                have q0 := hS.1; have q1 := hS.2.1; have q2 := hS.2.2
                go_simp
                exact hK.out _ _ _ rfl rfl rfl (Below.refl _ _)
              simp only [List.setIfInBounds_toArray, List.set_cons_zero, List.set_cons_succ]
              refine obs_step (Eq.trans (by simp only [List.getElem?_toArray, List.getElem?_cons_succ, List.getElem?_cons_zero]; exact rfl) rfl) rfl (fun w' hS hV K hK => ?_) ?_
              · have e7 : x 7 = (.int .i64 (p)) := hV 7 (by decide)
                have e8 : x 8 = (.slice (some ⟨g, 0, none⟩) n c1) := hV 8 (by decide)
                have e9 : x 9 = (.int .i64 (dn)) := hV 9 (by decide)
                have e10 : x 10 = (.pointer (some ⟨g, dn, none⟩)) := hV 10 (by decide)
                have e11 : x 11 = (.slice (some ⟨gs, os, none⟩) m cs) := hV 11 (by decide)
                have e12 : x 12 = (.int .i64 (kn)) := hV 12 (by decide)
                have e13 : x 13 = (.pointer (some ⟨gs, os + kn, none⟩)) := hV 13 (by decide)
                have e14 : x 14 = (.int .i64 (xe)) := hV 14 (by decide)
                have q0 := hS.1; have q1 := hS.2.1; have q2 := hS.2.2
                go_simp
                refine (inv_any p xe _ hp hp2 hx1.1 hx1.2).mono ?_
                rintro e v1 ⟨rfl, rfl⟩
                exact hK.out _ _ _ rfl rfl rfl (Below.refl _ _)
              simp only [List.setIfInBounds_toArray, List.set_cons_zero, List.set_cons_succ]
              refine obs_step (Eq.trans (by simp only [List.getElem?_toArray, List.getElem?_cons_succ, List.getElem?_cons_zero]; exact rfl) rfl) rfl (fun w' hS hV K hK => ?_) ?_
              · have e2 : x 2 = (.int .i64 (p)) := hV 2 (by decide)
                have e3 : x 3 = (.slice (some ⟨g, 0, none⟩) n c1) := hV 3 (by decide)
                have e4 : x 4 = (.int .i64 (dn)) := hV 4 (by decide)
                have e5 : x 5 = (.pointer (some ⟨g, dn, none⟩)) := hV 5 (by decide)
                have e6 : x 6 = (.slice (some ⟨gs, os, none⟩) m cs) := hV 6 (by decide)
                have e7 : x 7 = (.int .i64 (p)) := hV 7 (by decide)
                have e8 : x 8 = (.slice (some ⟨g, 0, none⟩) n c1) := hV 8 (by decide)
                have e9 : x 9 = (.int .i64 (dn)) := hV 9 (by decide)
                have e10 : x 10 = (.pointer (some ⟨g, dn, none⟩)) := hV 10 (by decide)
                have e11 : x 11 = (.slice (some ⟨gs, os, none⟩) m cs) := hV 11 (by decide)
                have e12 : x 12 = (.int .i64 (kn)) := hV 12 (by decide)
                have e13 : x 13 = (.pointer (some ⟨gs, os + kn, none⟩)) := hV 13 (by decide)
                have e14 : x 14 = (.int .i64 (xe)) := hV 14 (by decide)
                have e15 : x 15 = (.int .i64 (invF p xe)) := hV 15 (by decide)
                have q0 := hS.1; have q1 := hS.2.1; have q2 := hS.2.2
                go_simp
                refine (scaled_any p _ m _ (invF p xe) R _ hp hp2 hm (HRS.out.rd.below hS.2.2) HRJ.out.2 (by omega) (by omega)).mono ?_
                rintro e v1 ⟨A2, c2, rfl, hM⟩
                exact hK.out _ _ _ rfl rfl ⟨_, _, rfl, hM.after hS.2.2⟩ hM.b
              simp only [List.setIfInBounds_toArray, List.set_cons_zero, List.set_cons_succ]
              refine obs_step (Eq.trans (by simp only [List.getElem?_toArray, List.getElem?_cons_succ, List.getElem?_cons_zero]; exact rfl) rfl) rfl (fun w' hS hV K hK => ?_) ?_
              · have e0 : x 0 = (.slice (some ⟨g, 0, none⟩) n c1) := hV 0 (by decide)
                have e1 : x 1 = (.int .i64 (dn)) := hV 1 (by decide)
                have q0 := hS.1; have q1 := hS.2.1; have q2 := hS.2.2
                go_simp
                exact hK.out _ _ _ rfl rfl rfl (Below.refl _ _)
              simp only [List.setIfInBounds_toArray, List.set_cons_zero, List.set_cons_succ]
              refine fun w' hS hV => ?_
              have e0 : x 0 = (.slice (some ⟨g, 0, none⟩) n c1) := hV 0 (by decide)
              have e1 : x 1 = (.int .i64 (dn)) := hV 1 (by decide)
              have e2 : x 2 = (.int .i64 (p)) := hV 2 (by decide)
              have e3 : x 3 = (.slice (some ⟨g, 0, none⟩) n c1) := hV 3 (by decide)
              have e4 : x 4 = (.int .i64 (dn)) := hV 4 (by decide)
              have e5 : x 5 = (.pointer (some ⟨g, dn, none⟩)) := hV 5 (by decide)
              have e6 : x 6 = (.slice (some ⟨gs, os, none⟩) m cs) := hV 6 (by decide)
              have e7 : x 7 = (.int .i64 (p)) := hV 7 (by decide)
              have e8 : x 8 = (.slice (some ⟨g, 0, none⟩) n c1) := hV 8 (by decide)
              have e9 : x 9 = (.int .i64 (dn)) := hV 9 (by decide)
              have e10 : x 10 = (.pointer (some ⟨g, dn, none⟩)) := hV 10 (by decide)
              have e11 : x 11 = (.slice (some ⟨gs, os, none⟩) m cs) := hV 11 (by decide)
              have e12 : x 12 = (.int .i64 (kn)) := hV 12 (by decide)
              have e13 : x 13 = (.pointer (some ⟨gs, os + kn, none⟩)) := hV 13 (by decide)
              have e14 : x 14 = (.int .i64 (xe)) := hV 14 (by decide)
              have e15 : x 15 = (.int .i64 (invF p xe)) := hV 15 (by decide)
              obtain ⟨A16, c16, e16, h16⟩ := hV 16 (by decide)
              have e17 : x 17 = (.pointer (some ⟨g, dn, none⟩)) := hV 17 (by decide)
              simp only [e0, e1, e2, e3, e4, e5, e6, e7, e8, e9, e10, e11, e12, e13, e14, e15, e16, e17]
              clear e0 e1 e2 e3 e4 e5 e6 e7 e8 e9 e10 e11 e12 e13 e14 e15 e16 e17
              obtain ⟨q0, q1, q2⟩ := hS
              have ff := (HM2.out.below q2).frozen_ dn
              refine any_one (j := 18) (by kernel_rfl) (Eq.trans (by simp only [List.getElem?_toArray, List.getElem?_cons_succ, List.getElem?_cons_zero]; exact rfl) rfl) (fun K hK => ?_)
              go_simp
              refine hK.out _ _ (wpAny_done (by kernel_rfl) ?_ _)
              have hM3 := HM2.out.setRow h16 dn
              rw [← HSC.out] at hM3
              clear q0 q1 q2 ff hV hcs2 hce2 fd h16
              obtain ⟨w3, hw3⟩ : ∃ W, W = w'.setCell ⟨g, dn, none⟩ (.slice A16 m c16) := ⟨_, rfl⟩
              rw [← hw3] at hM3 ⊢
              clear hw3 HM2 HRS
              have hM0 : MkII w w3 (some ⟨g, 0, none⟩) n c1 (clearTo p (scaledAt p L kn dn) dn kn 0) := by rw [clearTo_zero]; exact hM3
              obtain ⟨N, hN⟩ : ∃ N, N = scaledAt p L kn dn := ⟨_, rfl⟩
              rw [← hN] at hM0 HTS HNEXT HSCD
              clear hM3 hN HSC
              go_wp2
              go_loopw [86] (fun i w4 => ∃ r : Nat, r ≤ n ∧ i = .int .i64 r ∧ MkII w w4 (some ⟨g, 0, none⟩) n c1 (clearTo p N dn kn r)) (fun i _ => n - (intOf i).toNat)
              case atStart => exact ⟨0, by omega, rfl, hM0⟩
              case round =>
                obtain ⟨r, hr, rfl, hM4⟩ := hrel
                clear hM0
                by_cases hlr : r < n
                · by_cases hrd : r = dn
                  · subst hrd
                    have HM4 := Lib.hid hM4
                    clear hM4
                    go_wp2
                    go_roundw
                    case rel => exact ⟨r + 1, by omega, by go_num, by rw [clearTo_skip]; exact HM4.out⟩
                    case measure => simp [intOf]; omega
                  · have hT4 : Tab p m (clearTo p N dn kn r) := clearTo_tab (by omega) HTS.out.1 dn kn r
                    have hr4 : (clearTo p N dn kn r).getD r [] = N.getD r [] := by rw [clearTo_getD (by rw [HTS.out.2]; exact hlr), if_neg (by omega)]
                    have hd4 : (clearTo p N dn kn r).getD dn [] = N.getD dn [] := by rw [clearTo_getD (by rw [HTS.out.2]; exact hld), if_neg (fun h => h.2 rfl)]
                    obtain ⟨g0, e0, hxr, Ar, cr, hcr, hrr⟩ := hM4.at_ hlr
                    injection e0 with e0; injection e0 with e0 _ _; subst e0
                    obtain ⟨g0, e0, hxd, Ad2, cd2, hcd2, hrd2⟩ := hM4.at_ hld
                    injection e0 with e0; injection e0 with e0 _ _; subst e0
                    have HR1 := Lib.hid (hT4 _ (List.getElem_mem hxr))
                    have HD1 := Lib.hid (hT4 _ (List.getElem_mem hxd))
                    have hl1 := HR1.out.1
                    have hl2 := HD1.out.1
                    rw [getD_of_lt [] hxr] at hr4
                    rw [getD_of_lt [] hxd] at hd4
                    rw [hl1] at hcr hrr
                    rw [hl2] at hcd2 hrd2
                    rw [hr4] at hrr HR1
                    rw [hd4] at hrd2 HD1
                    obtain ⟨gr, or', rfl, hxy, hcy⟩ := hrr.rd.int hlk
                    have hey : ent N r kn = (N.getD r [])[kn] := by unfold ent; rw [getD_of_lt 0 hxy]
                    obtain ⟨y, hy⟩ : ∃ y, y = (N.getD r [])[kn] := ⟨_, rfl⟩
                    have hyb : 0 ≤ y ∧ y < p := hy ▸ HR1.out.2 _ (List.getElem_mem hxy)
                    rw [← hy] at hcy hey
                    have HEY := Lib.hid hey
                    have HM4 := Lib.hid hM4
                    have HRR := Lib.hid hrr
                    have HRD := Lib.hid hrd2
                    clear hy hT4 hr4 hd4 hl1 hl2 hxr hxd hxy hey hM4 hrr hrd2
                    cases hyz : (y != 0)
                    · have hy0 : y = 0 := by simpa using hyz
                      go_wp2
                      go_roundw
                      case rel => exact ⟨r + 1, by omega, by go_num, by rw [clearTo_same (by rw [HTS.out.2]; exact hlr) (by rw [HEY.out]; exact hy0) HR1.out.2]; exact HM4.out⟩
                      case measure => simp [intOf]; omega
                    · have hwy := i64_small (x := -y) (by omega) (by omega)
                      go_wp2
                      refine wp_obs 21 [[], [], [], [], [], [3, 4], [3, 4, 5], [], [], [7, 8], [7, 8, 9], [], [], [11, 12], [11, 12, 13], [], [11, 12, 13, 14, 15], [11, 12, 13, 14, 15, 16], [11, 12, 13, 14, 15, 16, 17], [2, 3, 4, 5, 6, 7, 8, 9, 10, 11, 12, 13, 14, 15, 16, 17, 18], [0, 1], [0, 1, 2, 3, 4, 5, 6, 7, 8, 9, 10, 11, 12, 13, 14, 15, 16, 17, 18, 19, 20]] [VIs (.slice (some ⟨g, 0, none⟩) n c1), VIs (.int .i64 (r)), VIs (.int .i64 (p)), VIs (.slice (some ⟨g, 0, none⟩) n c1), VIs (.int .i64 (r)), VIs (.pointer (some ⟨g, r, none⟩)), VIs (.slice (some ⟨gr, or', none⟩) m cr), VIs (.slice (some ⟨g, 0, none⟩) n c1), VIs (.int .i64 (dn)), VIs (.pointer (some ⟨g, dn, none⟩)), VIs (.slice Ad2 m cd2), VIs (.slice (some ⟨g, 0, none⟩) n c1), VIs (.int .i64 (r)), VIs (.pointer (some ⟨g, r, none⟩)), VIs (.slice (some ⟨gr, or', none⟩) m cr), VIs (.int .i64 (kn)), VIs (.pointer (some ⟨gr, or' + kn, none⟩)), VIs (.int .i64 (y)), VIs (.int .i64 (-y)), VSl wr m (plusL p (N.getD r []) (N.getD dn []) (-y)), VIs (.pointer (some ⟨g, r, none⟩))] (fun w' => w'.cell? ⟨g, r, none⟩ = some (.slice (some ⟨gr, or', none⟩) m cr) ∧ w'.cell? ⟨g, dn, none⟩ = some (.slice Ad2 m cd2) ∧ w'.cell? ⟨gr, or' + kn, none⟩ = some (.int .i64 y) ∧ Below wr.heap.size wr w') (by kernel_rfl) (by kernel_rfl) (fun _ _ h hb => keepR3 h hb (Nat.le_refl _)) (⟨hcr, hcd2, hcy, (Below.refl _ _).drew⟩) (fun x => ?_)
                      refine obs_step (Eq.trans (by simp only [List.getElem?_toArray, List.getElem?_cons_zero]; exact rfl) rfl) rfl (fun w' hS hV K hK => ?_) ?_
                      · have q0 := hS.1; have q1 := hS.2.1; have q2 := hS.2.2.1; have q3 := hS.2.2.2
                        go_simp
                        exact hK.out _ _ _ rfl rfl rfl (Below.refl _ _)
                      simp only [List.setIfInBounds_toArray, List.set_cons_zero, List.set_cons_succ]
                      refine obs_step (Eq.trans (by simp only [List.getElem?_toArray, List.getElem?_cons_succ, List.getElem?_cons_zero]; exact rfl) rfl) rfl (fun w' hS hV K hK => ?_) ?_
                      · have q0 := hS.1; have q1 := hS.2.1; have q2 := hS.2.2.1; have q3 := hS.2.2.2
                        go_simp
                        exact hK.out _ _ _ rfl rfl rfl (Below.refl _ _)
                      simp only [List.setIfInBounds_toArray, List.set_cons_zero, List.set_cons_succ]
                      refine obs_step (Eq.trans (by simp only [List.getElem?_toArray, List.getElem?_cons_succ, List.getElem?_cons_zero]; exact rfl) rfl) rfl (fun w' hS hV K hK => ?_) ?_
                      · have q0 := hS.1; have q1 := hS.2.1; have q2 := hS.2.2.1; have q3 := hS.2.2.2
                        go_simp
                        exact hK.out _ _ _ rfl rfl rfl (Below.refl _ _)
                      simp only [List.setIfInBounds_toArray, List.set_cons_zero, List.set_cons_succ]
                      refine obs_step (Eq.trans (by simp only [List.getElem?_toArray, List.getElem?_cons_succ, List.getElem?_cons_zero]; exact rfl) rfl) rfl (fun w' hS hV K hK => ?_) ?_
                      · have q0 := hS.1; have q1 := hS.2.1; have q2 := hS.2.2.1; have q3 := hS.2.2.2
                        go_simp
                        exact hK.out _ _ _ rfl rfl rfl (Below.refl _ _)
                      simp only [List.setIfInBounds_toArray, List.set_cons_zero, List.set_cons_succ]
                      refine obs_step (Eq.trans (by simp only [List.getElem?_toArray, List.getElem?_cons_succ, List.getElem?_cons_zero]; exact rfl) rfl) rfl (fun w' hS hV K hK => ?_) ?_
                      · have q0 := hS.1; have q1 := hS.2.1; have q2 := hS.2.2.1; have q3 := hS.2.2.2
                        go_simp
                        exact hK.out _ _ _ rfl rfl rfl (Below.refl _ _)
                      simp only [List.setIfInBounds_toArray, List.set_cons_zero, List.set_cons_succ]
                      refine obs_step (Eq.trans (by simp only [List.getElem?_toArray, List.getElem?_cons_succ, List.getElem?_cons_zero]; exact rfl) rfl) rfl (fun w' hS hV K hK => ?_) ?_
                      · have e3 : x 3 = (.slice (some ⟨g, 0, none⟩) n c1) := hV 3 (by decide)
                        have e4 : x 4 = (.int .i64 (r)) := hV 4 (by decide)
                        have q0 := hS.1; have q1 := hS.2.1; have q2 := hS.2.2.1; have q3 := hS.2.2.2
                        go_simp
                        exact hK.out _ _ _ rfl rfl rfl (Below.refl _ _)
                      simp only [List.setIfInBounds_toArray, List.set_cons_zero, List.set_cons_succ]
                      refine obs_step (Eq.trans (by simp only [List.getElem?_toArray, List.getElem?_cons_succ, List.getElem?_cons_zero]; exact rfl) rfl) rfl (fun w' hS hV K hK => ?_) ?_
                      · have e3 : x 3 = (.slice (some ⟨g, 0, none⟩) n c1) := hV 3 (by decide)
                        have e4 : x 4 = (.int .i64 (r)) := hV 4 (by decide)
                        have e5 : x 5 = (.pointer (some ⟨g, r, none⟩)) := hV 5 (by decide)
                        have q0 := hS.1; have q1 := hS.2.1; have q2 := hS.2.2.1; have q3 := hS.2.2.2
                        go_simp
                        exact hK.out _ _ _ rfl rfl rfl (Below.refl _ _)
                      simp only [List.setIfInBounds_toArray, List.set_cons_zero, List.set_cons_succ]
                      refine obs_step (Eq.trans (by simp only [List.getElem?_toArray, List.getElem?_cons_succ, List.getElem?_cons_zero]; exact rfl) rfl) rfl (fun w' hS hV K hK => ?_) ?_
                      · have q0 := hS.1; have q1 := hS.2.1; have q2 := hS.2.2.1; have q3 := hS.2.2.2
                        go_simp
                        exact hK.out _ _ _ rfl rfl rfl (Below.refl _ _)
                      simp only [List.setIfInBounds_toArray, List.set_cons_zero, List.set_cons_succ]
                      refine obs_step (Eq.trans (by simp only [List.getElem?_toArray, List.getElem?_cons_succ, List.getElem?_cons_zero]; exact rfl) rfl) rfl (fun w' hS hV K hK => ?_) ?_
                      · have q0 := hS.1; have q1 := hS.2.1; have q2 := hS.2.2.1; have q3 := hS.2.2.2
                        go_simp
                        exact hK.out _ _ _ rfl rfl rfl (Below.refl _ _)
                      simp only [List.setIfInBounds_toArray, List.set_cons_zero, List.set_cons_succ]
                      refine obs_step (Eq.trans (by simp only [List.getElem?_toArray, List.getElem?_cons_succ, List.getElem?_cons_zero]; exact rfl) rfl) rfl (fun w' hS hV K hK => ?_) ?_
                      · have e7 : x 7 = (.slice (some ⟨g, 0, none⟩) n c1) := hV 7 (by decide)
                        have e8 : x 8 = (.int .i64 (dn)) := hV 8 (by decide)
                        have q0 := hS.1; have q1 := hS.2.1; have q2 := hS.2.2.1; have q3 := hS.2.2.2
                        go_simp
                        exact hK.out _ _ _ rfl rfl rfl (Below.refl _ _)
                      simp only [List.setIfInBounds_toArray, List.set_cons_zero, List.set_cons_succ]
                      refine obs_step (Eq.trans (by simp only [List.getElem?_toArray, List.getElem?_cons_succ, List.getElem?_cons_zero]; exact rfl) rfl) rfl (fun w' hS hV K hK => ?_) ?_
                      · have e7 : x 7 = (.slice (some ⟨g, 0, none⟩) n c1) := hV 7 (by decide)
                        have e8 : x 8 = (.int .i64 (dn)) := hV 8 (by decide)
                        have e9 : x 9 = (.pointer (some ⟨g, dn, none⟩)) := hV 9 (by decide)
                        have q0 := hS.1; have q1 := hS.2.1; have q2 := hS.2.2.1; have q3 := hS.2.2.2
                        go_simp
                        exact hK.out _ _ _ rfl rfl rfl (Below.refl _ _)
                      simp only [List.setIfInBounds_toArray, List.set_cons_zero, List.set_cons_succ]
                      refine obs_step (Eq.trans (by simp only [List.getElem?_toArray, List.getElem?_cons_succ, List.getElem?_cons_zero]; exact rfl) rfl) rfl (fun w' hS hV K hK => ?_) ?_
                      · have q0 := hS.1; have q1 := hS.2.1; have q2 := hS.2.2.1; have q3 := hS.2.2.2
                        go_simp
                        exact hK.out _ _ _ rfl rfl rfl (Below.refl _ _)
                      simp only [List.setIfInBounds_toArray, List.set_cons_zero, List.set_cons_succ]
                      refine obs_step (Eq.trans (by simp only [List.getElem?_toArray, List.getElem?_cons_succ, List.getElem?_cons_zero]; exact rfl) rfl) rfl (fun w' hS hV K hK => ?_) ?_
                      · have q0 := hS.1; have q1 := hS.2.1; have q2 := hS.2.2.1; have q3 := hS.2.2.2
                        go_simp
                        exact hK.out _ _ _ rfl rfl rfl (Below.refl _ _)
                      simp only [List.setIfInBounds_toArray, List.set_cons_zero, List.set_cons_succ]
                      refine obs_step (Eq.trans (by simp only [List.getElem?_toArray, List.getElem?_cons_succ, List.getElem?_cons_zero]; exact rfl) rfl) rfl (fun w' hS hV K hK => ?_) ?_
                      · have e11 : x 11 = (.slice (some ⟨g, 0, none⟩) n c1) := hV 11 (by decide)
                        have e12 : x 12 = (.int .i64 (r)) := hV 12 (by decide)
                        have q0 := hS.1; have q1 := hS.2.1; have q2 := hS.2.2.1; have q3 := hS.2.2.2
                        go_simp
                        exact hK.out _ _ _ rfl rfl rfl (Below.refl _ _)
                      simp only [List.setIfInBounds_toArray, List.set_cons_zero, List.set_cons_succ]
                      refine obs_step (Eq.trans (by simp only [List.getElem?_toArray, List.getElem?_cons_succ, List.getElem?_cons_zero]; exact rfl) rfl) rfl (fun w' hS hV K hK => ?_) ?_
                      · have e11 : x 11 = (.slice (some ⟨g, 0, none⟩) n c1) := hV 11 (by decide)
                        have e12 : x 12 = (.int .i64 (r)) := hV 12 (by decide)
                        have e13 : x 13 = (.pointer (some ⟨g, r, none⟩)) := hV 13 (by decide)
                        have q0 := hS.1; have q1 := hS.2.1; have q2 := hS.2.2.1; have q3 := hS.2.2.2
                        go_simp
                        exact hK.out _ _ _ rfl rfl rfl (Below.refl _ _)
                      simp only [List.setIfInBounds_toArray, List.set_cons_zero, List.set_cons_succ]
                      refine obs_step (Eq.trans (by simp only [List.getElem?_toArray, List.getElem?_cons_succ, List.getElem?_cons_zero]; exact rfl) rfl) rfl (fun w' hS hV K hK => ?_) ?_
                      · have q0 := hS.1; have q1 := hS.2.1; have q2 := hS.2.2.1; have q3 := hS.2.2.2
                        go_simp
                        exact hK.out _ _ _ rfl rfl rfl (Below.refl _ _)
                      simp only [List.setIfInBounds_toArray, List.set_cons_zero, List.set_cons_succ]
                      refine obs_step (Eq.trans (by simp only [List.getElem?_toArray, List.getElem?_cons_succ, List.getElem?_cons_zero]; exact rfl) rfl) rfl (fun w' hS hV K hK => ?_) ?_
                      · have e11 : x 11 = (.slice (some ⟨g, 0, none⟩) n c1) := hV 11 (by decide)
                        have e12 : x 12 = (.int .i64 (r)) := hV 12 (by decide)
                        have e13 : x 13 = (.pointer (some ⟨g, r, none⟩)) := hV 13 (by decide)
                        have e14 : x 14 = (.slice (some ⟨gr, or', none⟩) m cr) := hV 14 (by decide)
                        have e15 : x 15 = (.int .i64 (kn)) := hV 15 (by decide)
                        have q0 := hS.1; have q1 := hS.2.1; have q2 := hS.2.2.1; have q3 := hS.2.2.2
                        go_simp
                        exact hK.out _ _ _ rfl rfl rfl (Below.refl _ _)
                      simp only [List.setIfInBounds_toArray, List.set_cons_zero, List.set_cons_succ]
                      refine obs_step (Eq.trans (by simp only [List.getElem?_toArray, List.getElem?_cons_succ, List.getElem?_cons_zero]; exact rfl) rfl) rfl (fun w' hS hV K hK => ?_) ?_
                      · have e11 : x 11 = (.slice (some ⟨g, 0, none⟩) n c1) := hV 11 (by decide)
                        have e12 : x 12 = (.int .i64 (r)) := hV 12 (by decide)
                        have e13 : x 13 = (.pointer (some ⟨g, r, none⟩)) := hV 13 (by decide)
                        have e14 : x 14 = (.slice (some ⟨gr, or', none⟩) m cr) := hV 14 (by decide)
                        have e15 : x 15 = (.int .i64 (kn)) := hV 15 (by decide)
                        have e16 : x 16 = (.pointer (some ⟨gr, or' + kn, none⟩)) := hV 16 (by decide)
                        have q0 := hS.1; have q1 := hS.2.1; have q2 := hS.2.2.1; have q3 := hS.2.2.2
                        go_simp
                        exact hK.out _ _ _ rfl rfl rfl (Below.refl _ _)
                      simp only [List.setIfInBounds_toArray, List.set_cons_zero, List.set_cons_succ]
                      refine obs_step (Eq.trans (by simp only [List.getElem?_toArray, List.getElem?_cons_succ, List.getElem?_cons_zero]; exact rfl) rfl) rfl (fun w' hS hV K hK => ?_) ?_
                      · have e11 : x 11 = (.slice (some ⟨g, 0, none⟩) n c1) := hV 11 (by decide)
                        have e12 : x 12 = (.int .i64 (r)) := hV 12 (by decide)
                        have e13 : x 13 = (.pointer (some ⟨g, r, none⟩)) := hV 13 (by decide)
                        have e14 : x 14 = (.slice (some ⟨gr, or', none⟩) m cr) := hV 14 (by decide)
                        have e15 : x 15 = (.int .i64 (kn)) := hV 15 (by decide)
                        have e16 : x 16 = (.pointer (some ⟨gr, or' + kn, none⟩)) := hV 16 (by decide)
                        have e17 : x 17 = (.int .i64 (y)) := hV 17 (by decide)
                        have q0 := hS.1; have q1 := hS.2.1; have q2 := hS.2.2.1; have q3 := hS.2.2.2
                        go_simp
                        exact hK.out _ _ _ rfl rfl rfl (Below.refl _ _)
                      simp only [List.setIfInBounds_toArray, List.set_cons_zero, List.set_cons_succ]
                      refine obs_step (Eq.trans (by simp only [List.getElem?_toArray, List.getElem?_cons_succ, List.getElem?_cons_zero]; exact rfl) rfl) rfl (fun w' hS hV K hK => ?_) ?_
                      · have e2 : x 2 = (.int .i64 (p)) := hV 2 (by decide)
                        have e3 : x 3 = (.slice (some ⟨g, 0, none⟩) n c1) := hV 3 (by decide)
                        have e4 : x 4 = (.int .i64 (r)) := hV 4 (by decide)
                        have e5 : x 5 = (.pointer (some ⟨g, r, none⟩)) := hV 5 (by decide)
                        have e6 : x 6 = (.slice (some ⟨gr, or', none⟩) m cr) := hV 6 (by decide)
                        have e7 : x 7 = (.slice (some ⟨g, 0, none⟩) n c1) := hV 7 (by decide)
                        have e8 : x 8 = (.int .i64 (dn)) := hV 8 (by decide)
                        have e9 : x 9 = (.pointer (some ⟨g, dn, none⟩)) := hV 9 (by decide)
                        have e10 : x 10 = (.slice Ad2 m cd2) := hV 10 (by decide)
                        have e11 : x 11 = (.slice (some ⟨g, 0, none⟩) n c1) := hV 11 (by decide)
                        have e12 : x 12 = (.int .i64 (r)) := hV 12 (by decide)
                        have e13 : x 13 = (.pointer (some ⟨g, r, none⟩)) := hV 13 (by decide)
                        have e14 : x 14 = (.slice (some ⟨gr, or', none⟩) m cr) := hV 14 (by decide)
                        have e15 : x 15 = (.int .i64 (kn)) := hV 15 (by decide)
                        have e16 : x 16 = (.pointer (some ⟨gr, or' + kn, none⟩)) := hV 16 (by decide)
                        have e17 : x 17 = (.int .i64 (y)) := hV 17 (by decide)
                        have e18 : x 18 = (.int .i64 (-y)) := hV 18 (by decide)
                        have q0 := hS.1; have q1 := hS.2.1; have q2 := hS.2.2.1; have q3 := hS.2.2.2
                        go_simp
                        refine (plus_any p _ m _ _ m _ (-y) _ _ _ hp hp2 hm (Nat.le_refl _) (HRR.out.rd.below hS.2.2.2) HR1.out.2 (HRD.out.rd.below hS.2.2.2) HD1.out.2 (by omega) (by omega)).mono ?_
                        rintro e v1 ⟨A2, c2, rfl, hM⟩
                        exact hK.out _ _ _ rfl rfl ⟨_, _, rfl, hM.after hS.2.2.2⟩ hM.b
                      simp only [List.setIfInBounds_toArray, List.set_cons_zero, List.set_cons_succ]
                      refine obs_step (Eq.trans (by simp only [List.getElem?_toArray, List.getElem?_cons_succ, List.getElem?_cons_zero]; exact rfl) rfl) rfl (fun w' hS hV K hK => ?_) ?_
                      · have e0 : x 0 = (.slice (some ⟨g, 0, none⟩) n c1) := hV 0 (by decide)
                        have e1 : x 1 = (.int .i64 (r)) := hV 1 (by decide)
                        have q0 := hS.1; have q1 := hS.2.1; have q2 := hS.2.2.1; have q3 := hS.2.2.2
                        go_simp
                        exact hK.out _ _ _ rfl rfl rfl (Below.refl _ _)
                      simp only [List.setIfInBounds_toArray, List.set_cons_zero, List.set_cons_succ]
                      refine fun w' hS hV => ?_
                      have e0 : x 0 = (.slice (some ⟨g, 0, none⟩) n c1) := hV 0 (by decide)
                      have e1 : x 1 = (.int .i64 (r)) := hV 1 (by decide)
                      have e2 : x 2 = (.int .i64 (p)) := hV 2 (by decide)
                      have e3 : x 3 = (.slice (some ⟨g, 0, none⟩) n c1) := hV 3 (by decide)
                      have e4 : x 4 = (.int .i64 (r)) := hV 4 (by decide)
                      have e5 : x 5 = (.pointer (some ⟨g, r, none⟩)) := hV 5 (by decide)
                      have e6 : x 6 = (.slice (some ⟨gr, or', none⟩) m cr) := hV 6 (by decide)
                      have e7 : x 7 = (.slice (some ⟨g, 0, none⟩) n c1) := hV 7 (by decide)
                      have e8 : x 8 = (.int .i64 (dn)) := hV 8 (by decide)
                      have e9 : x 9 = (.pointer (some ⟨g, dn, none⟩)) := hV 9 (by decide)
                      have e10 : x 10 = (.slice Ad2 m cd2) := hV 10 (by decide)
                      have e11 : x 11 = (.slice (some ⟨g, 0, none⟩) n c1) := hV 11 (by decide)
                      have e12 : x 12 = (.int .i64 (r)) := hV 12 (by decide)
                      have e13 : x 13 = (.pointer (some ⟨g, r, none⟩)) := hV 13 (by decide)
                      have e14 : x 14 = (.slice (some ⟨gr, or', none⟩) m cr) := hV 14 (by decide)
                      have e15 : x 15 = (.int .i64 (kn)) := hV 15 (by decide)
                      have e16 : x 16 = (.pointer (some ⟨gr, or' + kn, none⟩)) := hV 16 (by decide)
                      have e17 : x 17 = (.int .i64 (y)) := hV 17 (by decide)
                      have e18 : x 18 = (.int .i64 (-y)) := hV 18 (by decide)
                      obtain ⟨A19, c19, e19, h19⟩ := hV 19 (by decide)
                      have e20 : x 20 = (.pointer (some ⟨g, r, none⟩)) := hV 20 (by decide)
                      simp only [e0, e1, e2, e3, e4, e5, e6, e7, e8, e9, e10, e11, e12, e13, e14, e15, e16, e17, e18, e19, e20]
                      clear e0 e1 e2 e3 e4 e5 e6 e7 e8 e9 e10 e11 e12 e13 e14 e15 e16 e17 e18 e19 e20
                      obtain ⟨q0, q1, q2, q3⟩ := hS
                      have ff := (HM4.out.below q3).frozen_ r
                      refine any_one (j := 21) (by kernel_rfl) (Eq.trans (by simp only [List.getElem?_toArray, List.getElem?_cons_succ, List.getElem?_cons_zero]; exact rfl) rfl) (fun K hK => ?_)
                      go_simp
                      refine hK.out _ _ (wpAny_done (by kernel_rfl) ?_ _)
                      have hM5 := HM4.out.setRow h19 r
                      have hM6 : MkII w (w'.setCell ⟨g, r, none⟩ (.slice A19 m c19)) (some ⟨g, 0, none⟩) n c1 (clearTo p N dn kn (r + 1)) := by
                        rw [clearTo_succ p N dn kn r (by rw [HTS.out.2]; exact hlr) hrd, HEY.out]; exact hM5
                      clear q0 q1 q2 q3 ff hM5 h19
                      go_wp2
                      go_roundw
                      case rel => exact ⟨r + 1, by omega, by go_num, hM6⟩
                      case measure => simp [intOf]; omega
                · obtain rfl : r = n := by omega
                  have HM4 := Lib.hid hM4
                  clear hM4
                  go_wp2
                  go_roundw
                  case rel => exact ⟨dn + 1, kn + 1, by go_num, by go_num, by omega, by rw [HNEXT.out], by rw [HNEXT.out]; exact HM4.out⟩
                  case measure => simp [intOf]; omega
            · have hx0' : xe = 0 := by simpa using hz
              go_wp2
              go_round
              case rel => exact ⟨j + 1, by omega, by omega, by go_num, Lib.hid (by rw [← hj3.out, HPV.out, if_pos (by rw [HE.out]; exact hx0')])⟩
              case measure => simp [intOf]; omega
          · obtain rfl : j = n := by omega
            have HVP : Hid (pivOf L kn dn = j) := Lib.hid (by rw [← hj3.out, Nat.sub_self]; rfl)
            have HNEXT : Hid (basisTo p M (kn + 1) = (L, dn)) := Lib.hid (by
              rw [HSUC.out]; unfold stepB; rw [if_pos (by simp only; rw [HVP.out, HL1.out])])
            go_wp2
            go_roundw
            case rel => exact ⟨dn, kn + 1, rfl, by go_num, by omega, by rw [HNEXT.out], by rw [HNEXT.out]; exact HM.out⟩
            case measure => simp [intOf]; omega
      · have HBE : Hid (basisL p M = L.take dn ∧ (L.take dn).length = dn) := Lib.hid ⟨by
          by_cases hk2 : kn = m
          · exact HEND.out hk2
          · exact HFULL.out (by omega), by rw [List.length_take, HL1.out]; omega⟩
        by_cases hk3 : kn < m
        all_goals go_wp2
        all_goals
          go_ret
          rw [HBE.out.1, HBE.out.2]
          exact ⟨_, _, rfl, HM.out.cut hd1⟩
  · obtain rfl : n = 0 := by omega
    obtain rfl : M = [] := List.eq_nil_of_length_eq_zero hML
    clear hT HT
    have HBN := Lib.hid (basisL_nil p)
    go_enter Tryz.func324, Tryz.ntmps324
    go_wp2_with fail
    refine hclone.mono ?_
    rintro e w1 ⟨A1, c1, rfl, hM1⟩
    clear hclone
    go_wp2
    go_loopw [6, 7] (fun d q wr => d = .int .i64 0 ∧ q = .int .i64 0 ∧ wr = w1) (fun _ _ _ => 0)
    case atStart => exact ⟨rfl, rfl, rfl⟩
    case round =>
      obtain ⟨rfl, rfl, rfl⟩ := hrel
      rcases hM1 with ⟨rows, hm1, hn1⟩
      have hcap := hm1.2.cap
      rcases hm1.2.form with ⟨rfl, _⟩ | ⟨g, rfl, _, _⟩
      all_goals
        go_wp2
        go_ret
        rw [HBN.out]
        exact ⟨_, _, rfl, rows, hm1, hn1⟩
end Go.Proofs.YtggigolkncckoaaGreat

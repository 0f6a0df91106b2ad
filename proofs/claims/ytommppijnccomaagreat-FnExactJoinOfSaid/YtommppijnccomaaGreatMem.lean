/-
  Words for memory: slices that read as lists of numbers, rows of the call's own. Plain lemmas; no condition.
-/
import Derived.Test.YtommppijnccomaaGreatRows
import Derived.WalkKit
import Derived.Lib.Hide
import Derived.Deep.LoopGhost
import Derived.Deep.Draws
import Derived.Deep.OwnRows
import Derived.Maps.AppendAt
import Derived.OwnWalk
import Derived.Deep.MidRow
import Derived.IntWalk
import Derived.Deep.QuietTactic
import Derived.BigQuiet
namespace Go.Proofs.YtommppijnccomaaGreat
open Go.RowKit

/-- The values of a list of numbers. -/
def ints (xs : List Int) : List Value := xs.map (Value.int .i64)

theorem ints_length (xs : List Int) : (ints xs).length = xs.length := by simp [ints]
theorem ints_get (xs : List Int) (k : Nat) (h : k < xs.length) : (ints xs)[k]? = some (.int .i64 xs[k]) := by simp [ints, h]

/-- The slice of n places at A reads as the values us. -/
def Rd (w : World) (A : Option Addr) (n : Nat) (us : List Value) : Prop :=
  us.length = n ∧ (0 < n → ∃ g o, A = some ⟨g, o, none⟩ ∧ ∀ k u, us[k]? = some u → w.cell? ⟨g, o + k, none⟩ = some u)

theorem Rd.nil (w : World) (A : Option Addr) : Rd w A 0 [] := ⟨rfl, fun h => absurd h (by omega)⟩

theorem Rd.keep {w w' : World} {A : Option Addr} {n : Nat} {us : List Value} (h : Rd w A n us)
    (hk : ∀ p : Addr, p.block < w.heap.size → w'.cell? p = w.cell? p) : Rd w' A n us :=
  ⟨h.1, fun hn => by
    obtain ⟨g, o, e, hc⟩ := h.2 hn
    exact ⟨g, o, e, fun k u hu => (hk _ (World.block_lt_of_cell? w _ (hc k u hu))).trans (hc k u hu)⟩⟩

theorem Rd.below {w w' : World} {A : Option Addr} {n : Nat} {us : List Value} (h : Rd w A n us) (hb : Below w.heap.size w w') : Rd w' A n us :=
  h.keep fun _ hp => hb.cell hp

/-- Place k of a slice of numbers. -/
theorem Rd.int {w : World} {A : Option Addr} {n : Nat} {xs : List Int} (h : Rd w A n (ints xs)) {k : Nat} (hk : k < n) :
    ∃ g o, A = some ⟨g, o, none⟩ ∧ ∃ hx : k < xs.length, w.cell? ⟨g, o + k, none⟩ = some (.int .i64 xs[k]) := by
  obtain ⟨g, o, e, hc⟩ := h.2 (by omega)
  have hl : k < xs.length := by have := h.1; rw [ints_length] at this; omega
  exact ⟨g, o, e, hl, hc k _ (ints_get xs k hl)⟩

/-! Rows of the call's own. -/

/-- The slice of n places (capacity c) at A is a row of the call's own, in a block from B on, which holds the values us of type E. -/
def Own (w : World) (B : Nat) (E : TypeId) (A : Option Addr) (n c : Nat) (us : List Value) : Prop := w.ownsRow B E 1 (.slice A n c) n us

section
variable {w w' w0 w1 : World} {B B' : Nat} {E : TypeId} {A : Option Addr} {n c : Nat} {us : List Value}

theorem Own.len (h : Own w B E A n c us) : us.length = n := by have := h.1; simpa using this
theorem Own.rd (h : Own w B E A n c us) : Rd w A n us := by
  refine ⟨h.len, fun hn => ?_⟩
  rcases h.2 with ⟨_, h0⟩ | ⟨g, cap, cur, he, _⟩
  · omega
  · injection he with hA
    subst hA
    refine ⟨g, 0, rfl, fun k u hu => ?_⟩
    have := World.ownsRow.cells (g := g) h rfl k u hu
    rwa [Addr.add_lit] at this
theorem Own.below (h : Own w B E A n c us) (hb : Below w.heap.size w w') : Own w' B E A n c us := by
  refine ⟨h.1, ?_⟩
  rcases h.2 with hn | ⟨g, cap, cur, he, hB, hg, r⟩
  · exact .inl hn
  · exact .inr ⟨g, cap, cur, he, hB, (hb.block g (Array.getElem?_eq_some_iff.1 hg).1).trans hg, r⟩
theorem Own.base (h : Own w B E A n c us) (hB : B' ≤ B) : Own w B' E A n c us := by
  refine ⟨h.1, ?_⟩
  rcases h.2 with hn | ⟨g, cap, cur, he, hb, r⟩
  · exact .inl hn
  · exact .inr ⟨g, cap, cur, he, by omega, r⟩
theorem Own.form (h : Own w B E A n c us) : (A = none ∧ n = 0) ∨ ∃ g, A = some ⟨g, 0, none⟩ ∧ B ≤ g ∧ g < w.heap.size := by
  rcases h.2 with ⟨he, h0⟩ | ⟨g, cap, cur, he, hB, hg, _⟩
  · injection he with hA; exact .inl ⟨hA, h0⟩
  · injection he with hA; exact .inr ⟨g, hA, hB, (Array.getElem?_eq_some_iff.1 hg).1⟩
theorem Own.cap (h : Own w B E A n c us) : n ≤ c := by
  rcases h.2 with ⟨he, h0⟩ | ⟨g, cap, cur, he, _, _, hc, _⟩
  · omega
  · injection he with _ _ hc'; omega
theorem Own.grown {row : Option Nat} (h : Own w B E A n c us) (hg : w.grownBy w' row) (hne : (Value.slice A n c).ownBlock = none ∨ (Value.slice A n c).ownBlock ≠ row) : Own w' B E A n c us := h.kept hg hne
theorem Own.setBelow (h : Own w B E A n c us) {p : Addr} (hp : p.block < B) (u : Value) : Own (w.setCell p u) B E A n c us := ownsRow_setCell_below h hp u
/-- The row's length cut down. -/
theorem Own.cut {k : Nat} (h : Own w B E A n c us) (hk : k ≤ n) : Own w B E A k c (us.take k) := by
  refine ⟨by rw [List.length_take, h.len]; omega, ?_⟩
  rcases h.2 with ⟨he, h0⟩ | ⟨g, cap, cur, he, hB, hg, hnc, hcm, hcs, ht⟩
  · left; injection he with e1 e2 e3; subst e1; subst e3; exact ⟨by congr; omega, by omega⟩
  · injection he with e1 e2 e3
    subst e1; subst e3
    refine .inr ⟨g, c, cur, rfl, hB, hg, by omega, hcm, hcs, ?_⟩
    rw [← ht, List.take_take]; congr 1; omega

/-- What was there when the call began (world w0) is as it was, and the row is the call's own. -/
def Mk (w0 w : World) (E : TypeId) (A : Option Addr) (n c : Nat) (us : List Value) : Prop := Below w0.heap.size w0 w ∧ Own w w0.heap.size E A n c us

theorem Mk.b (h : Mk w0 w E A n c us) : Below w0.heap.size w0 w := h.1
theorem Mk.rd (h : Mk w0 w E A n c us) : Rd w A n us := h.2.rd
theorem Mk.nil (h : Below w0.heap.size w0 w) : Mk w0 w E none 0 0 [] := ⟨h, World.ownsRow_nil _ _ _ _⟩
theorem Mk.lit (h : Below w0.heap.size w0 w) (cs : Array Value) (hm : cs.size ≤ maxLen) : Mk w0 (w.alloc (.cells cs E)) E (some ⟨w.heap.size, 0, none⟩) cs.size cs.size cs.toList :=
  ⟨h.alloc h.size _, World.ownsRow_lit w cs cs.size h.size hm (by simp)⟩
theorem Own.of_cells {cs : Array Value} {g : Nat} (hg : B ≤ g) (hc : w.heap[g]? = some (.cells cs E (0, 0))) (hm : cs.size ≤ maxLen) : Own w B E (some ⟨g, 0, none⟩) cs.size cs.size cs.toList :=
  ⟨by simp, .inr ⟨g, cs.size, cs, rfl, hg, hc, Nat.le_refl _, hm, by simp, List.take_of_length_le (by simp)⟩⟩
theorem Mk.of_cells {cs : Array Value} {g : Nat} (hb : Below w0.heap.size w0 w) (hg : w0.heap.size ≤ g) (hc : w.heap[g]? = some (.cells cs E (0, 0))) (hm : cs.size ≤ maxLen) : Mk w0 w E (some ⟨g, 0, none⟩) cs.size cs.size cs.toList :=
  ⟨hb, by simp, .inr ⟨g, cs.size, cs, rfl, hg, hc, Nat.le_refl _, hm, by simp, List.take_of_length_le (by simp)⟩⟩
theorem heap_lit (w : World) (o : Obj) (g : Nat) (hg : g = w.heap.size) : (w.alloc o).heap[g]? = some o := by subst hg; exact heap_alloc_new w o
theorem heap_past (w : World) (o o' : Obj) (g : Nat) (h : w.heap[g]? = some o') : (w.alloc o).heap[g]? = some o' := (Below.heap_alloc w o g (Array.getElem?_eq_some_iff.1 h).1).trans h
theorem heap_set {w : World} {p : Addr} {u : Value} {o' : Obj} {g : Nat} (hg : g ≠ p.block) (h : w.heap[g]? = some o') : (w.setCell p u).heap[g]? = some o' := (Below.heap_setCell w p u g hg).trans h
theorem heap_below {B : Nat} {w w' : World} {o' : Obj} {g : Nat} (hb : Below B w w') (hg : g < B) (h : w.heap[g]? = some o') : w'.heap[g]? = some o' := (hb.block g hg).trans h
theorem Mk.made {z : Value} (h : Below w0.heap.size w0 w) (hm : n ≤ maxLen) : Mk w0 (w.alloc (.cells (madeCells #[z] n) E)) E (some ⟨w.heap.size, 0, none⟩) n n (List.replicate n z) := by
  have hl := Mk.lit (E := E) h (madeCells #[z] n) (by simpa [size_madeCells] using hm)
  rw [size_madeCells, toList_madeCells_one] at hl
  exact hl
theorem Mk.after (h : Mk w1 w E A n c us) (hb : Below w0.heap.size w0 w1) : Mk w0 w E A n c us :=
  ⟨hb.trans (h.1.mono hb.size), h.2.base hb.size⟩
theorem Mk.below (h : Mk w0 w E A n c us) (hb : Below w.heap.size w w') : Mk w0 w' E A n c us :=
  ⟨h.1.trans (hb.mono h.1.size), h.2.below hb⟩
theorem Mk.drewN (h : Mk w0 w E A n c us) (k : Nat) : Mk w0 (w.drewN k) E A n c us := h.below (⟨rfl, rfl, rfl, Nat.le_refl _, fun _ _ => rfl⟩)
theorem Mk.drew (h : Mk w0 w E A n c us) : Mk w0 w.drew E A n c us := h.below (⟨rfl, rfl, rfl, Nat.le_refl _, fun _ _ => rfl⟩)
theorem Mk.alloc (h : Mk w0 w E A n c us) (o : Obj) : Mk w0 (w.alloc o) E A n c us := h.below ((Below.refl _ _).alloc (Nat.le_refl _) _)

variable {g : Nat}
theorem Own.cell_ (h : Own w B E (some ⟨g, 0, none⟩) n c us) {k : Nat} (hk : k < n) : ∃ u, us[k]? = some u ∧ w.cell? ⟨g, k, none⟩ = some u := by
  have hl : k < us.length := by rw [h.len]; exact hk
  exact ⟨us[k], List.getElem?_eq_getElem hl, (World.ownsRow.cellAt h k (by omega)).trans (List.getElem?_eq_getElem hl)⟩
theorem Own.cellI {xs : List Int} (h : Own w B E (some ⟨g, 0, none⟩) n c (ints xs)) {k : Nat} (hk : k < n) : ∃ x, w.cell? ⟨g, k, none⟩ = some (.int .i64 x) := by
  have hl : k < xs.length := by have := h.len; rw [ints_length] at this; omega
  exact ⟨xs[k], (World.ownsRow.cellAt h k (by omega)).trans (ints_get xs k hl)⟩
theorem Own.frozen_ (h : Own w B E (some ⟨g, 0, none⟩) n c us) (k : Nat) : w.frozen? ⟨g, k, none⟩ = false := World.ownsRow.frozenAt h k
theorem Mk.set (h : Mk w0 w E (some ⟨g, 0, none⟩) n c us) (k : Nat) (u : Value) : Mk w0 (w.setCell ⟨g, k, none⟩ u) E (some ⟨g, 0, none⟩) n c (us.set k u) ∧ w.grownBy (w.setCell ⟨g, k, none⟩ u) (some g) := by
  obtain ⟨h1, h2⟩ := World.ownsRow.stored h.2 k u
  exact ⟨⟨h.1.setCell (h.2.lt g rfl).1 _, h1⟩, h2⟩
end

theorem bound_of {n : Nat} (h : n ≤ 1099511627776) : n + 1 ≤ maxLen ∧ ∀ b, b ≤ 24 → (n + 1) * b ≤ 140737488355328 := by
  refine ⟨by simp only [maxLen]; omega, fun b hb => ?_⟩
  have := Nat.mul_le_mul_left (n + 1) hb
  omega

/-- One value is appended to a row of the call's own. -/
theorem wpList_app1 {P : Program} {ops : Array Oper} {rest : List Oper} {o : Oper} {a : Act} {Q : Exit → Act → World → Prop} (w0 wr : World) (T E : TypeId) (z : Value) (bytes : Nat)
    (ht : P.underlying T = some (.slice E)) (hinfo : (P.info? E).map (fun i => (i.zero, i.size, i.bytes)) = some (some z, 1, bytes)) (hz : z.cells.size = 1) (hby : bytes ≤ 24)
    (hgd : o.guard = none) (s x : Operand) (ho : o.op = .call { callee := .builtin .append, args := #[s, x], argTypes := #[T, T] })
    (A : Option Addr) (n c : Nat) (us : List Value) (u : Value) (hM : Mk w0 wr E A n c us) (hn : n ≤ 1099511627776) (hu : u.oneCell' = true)
    (hs : a.eval s = .slice A n c) (hx : a.eval x = .slice (some ⟨wr.heap.size, 0, none⟩) 1 1)
    (h : ∀ A' c' w', Mk w0 w' E A' (n + 1) c' (us ++ [u]) → wr.grownBy w' (Value.slice A n c).ownBlock → (∃ g, A' = some ⟨g, 0, none⟩ ∧ ((Value.slice A n c).ownBlock = some g ∨ wr.heap.size ≤ g)) →
      wpList P ops Q rest (a.put o.dst (.slice A' (n + 1) c')) w') :
    wpList P ops Q (o :: rest) a (wr.alloc (.cells #[u] E)) := by
  obtain ⟨i, hi, h1, h2, h3⟩ := info_parts hinfo
  obtain ⟨b1, b2⟩ := bound_of hn
  refine wpList_append_own_at (wr.alloc (.cells #[u] E)) hgd s x T ho w0.heap.size E i z 1 bytes ht hi h1 h2 h3 hz (by omega) (.slice A n c) n us hs (hM.alloc _).2 ⟨wr.heap.size, 0, none⟩ 1 1 [u] hx rfl (cell_one_new _ _ _)
    (by intro v hv; simp at hv; rw [hv]; exact hu) b1 (b2 _ hby) (by have := hM.1.size; simp; omega) ?_
  intro v' w' hown hg _ hat
  have hg' : wr.grownBy w' (Value.slice A n c).ownBlock := World.grownBy.trans (World.grownBy_alloc wr _ _) hg
  rcases hown.2 with ⟨_, h0⟩ | ⟨g, cap, cur, rfl, hr⟩
  · omega
  · refine h _ _ _ ⟨hM.1.grown hg' hM.1.size (fun k hk => (hM.2.lt k hk).1), hown⟩ hg' ⟨g, rfl, ?_⟩
    rcases hat with he | he
    · exact .inl he.symm
    · right
      have : g = (wr.alloc (.cells #[u] E)).heap.size := by simpa [Value.ownBlock] using he
      simp at this; omega

theorem info_i : (Tryz.prog.info? 2).map (fun i => (i.zero, i.size, i.bytes)) = some (some (.int .i64 0), 1, 8) := by kernel_rfl
theorem info_s : (Tryz.prog.info? 22).map (fun i => (i.zero, i.size, i.bytes)) = some (some (.slice none 0 0), 1, 24) := by kernel_rfl

/-- A row of numbers that the call made. -/
abbrev MkI (w0 w : World) (A : Option Addr) (n c : Nat) (xs : List Int) : Prop := Mk w0 w 2 A n c (ints xs)

theorem ints_replicate (n : Nat) : List.replicate n (Value.int .i64 0) = ints (List.replicate n 0) := by simp [ints]
theorem ints_set (xs : List Int) (k : Nat) (x : Int) : (ints xs).set k (.int .i64 x) = ints (xs.set k x) := by simp [ints, List.map_set]
theorem ints_append (xs ys : List Int) : ints xs ++ ints ys = ints (xs ++ ys) := by simp [ints]
theorem ints_snoc (xs : List Int) (y : Int) : ints xs ++ [.int .i64 y] = ints (xs ++ [y]) := by simp [ints]

theorem make_i {P : Program} (t e : TypeId) (ht : P.underlying t = some (.slice e)) (hi : (P.info? e).map (fun i => (i.zero, i.size, i.bytes)) = some (some (.int .i64 0), 1, 8)) (n : Nat) (hn : n ≤ 1099511627776) :
    ∀ w : World, (Instr.makeSlice t (.int .i64 (n : Int)) (.int .i64 (n : Int))).run P w = .ok (.slice (some ⟨w.heap.size, 0, none⟩) n n) (w.alloc (.cells (madeCells #[.int .i64 0] n) e)) :=
  run_make_row' t e (.int .i64 0) 8 ht hi rfl .i64 .i64 n (by omega) (by omega)

theorem below_drewN {B : Nat} {a w : World} (h : Below B a w) (n : Nat) : Below B a (w.drewN n) := ⟨h.os, h.tape, h.output, h.size, h.block⟩
theorem quiet_left' {P : Program} {f : FuncId} {args : Array Value} {w : World} {n : Nat} {v : Value}
    (h : Calls P f args (w.drewN n) fun e w' => e = .returned v ∧ w.drewN n = w') : Calls P f args (w.drewN n) fun e w'' => e = .returned v ∧ ∃ m, w'' = w.drewN m :=
  h.mono fun _ _ ⟨he, hm⟩ => ⟨he, n, hm.symm⟩

theorem quiet_add_left {P : Program} {f : FuncId} {args : Array Value} {w : World} {a n : Nat} {v : Value}
    (h : Calls P f args (w.drewN (a + n)) fun e w' => e = .returned v ∧ w.drewN (a + n) = w') :
    Calls P f args (w.drewN (a + n)) fun e w'' => e = .returned v ∧ ∃ m, w'' = w.drewN (a + m) :=
  h.mono fun _ _ ⟨he, hm⟩ => ⟨he, n, hm.symm⟩
theorem keepB1 {B : Nat} {W0 w1 w2 : World} {p : Addr} {u : Value} (h : w1.cell? p = some u ∧ Below B W0 w1) (hb : Below w1.heap.size w1 w2) (hB : B ≤ W0.heap.size) :
    w2.cell? p = some u ∧ Below B W0 w2 :=
  ⟨(hb.cell (World.block_lt_of_cell? _ _ h.1)).trans h.1, h.2.trans (hb.mono (Nat.le_trans hB h.2.size))⟩
theorem keepB2 {B : Nat} {W0 w1 w2 : World} {p q : Addr} {u v : Value} (h : w1.cell? p = some u ∧ w1.cell? q = some v ∧ Below B W0 w1) (hb : Below w1.heap.size w1 w2) (hB : B ≤ W0.heap.size) :
    w2.cell? p = some u ∧ w2.cell? q = some v ∧ Below B W0 w2 :=
  ⟨(hb.cell (World.block_lt_of_cell? _ _ h.1)).trans h.1, (hb.cell (World.block_lt_of_cell? _ _ h.2.1)).trans h.2.1, h.2.2.trans (hb.mono (Nat.le_trans hB h.2.2.size))⟩

theorem results_cell {P : Program} {fn : Func} {a : Tmp} {T : TypeId} (h : fn.results = #[.cell a T]) (tmps : Array Value) (w : World) {p : Addr} {v : Value} (hp : tmps.getD a undef = .pointer (some p)) (hl : (loadVar T p).run P w = .ok v w) :
    (results fn tmps).run P w = .ok v w := by
  have ha : (asAddr (tmps.getD a undef)).run P w = .ok p w := by rw [hp]; rfl
  simp only [results, h, Sem.run_bind]
  rw [Array.getD_eq_getD_getElem?] at ha
  simp [ha, hl]

/-- Two slices lie in different blocks. -/
def Apart (v v' : Value) : Prop := ∀ g, v.ownBlock = some g → v'.ownBlock ≠ some g
theorem Apart.symm {v v' : Value} (h : Apart v v') : Apart v' v := fun g h1 h2 => h g h2 h1
theorem Apart.row {v v' : Value} (h : Apart v v') : v'.ownBlock = none ∨ v'.ownBlock ≠ v.ownBlock := by
  cases hv : v.ownBlock with
  | none => cases hv' : v'.ownBlock <;> simp
  | some g => exact .inr (h g hv)
theorem Own.apart {E E' : TypeId} {A A' : Option Addr} {n n' c c' : Nat} {us us' : List Value} {B : Nat} {w w' : World} (h : Own w B E A n c us) (h' : Own w' w.heap.size E' A' n' c' us') : Apart (.slice A n c) (.slice A' n' c') := fun g h1 h2 => by
  have a := (World.ownsRow.lt h g h1).2
  have b := (World.ownsRow.lt h' g h2).1
  omega
theorem Own.apart_of {E E' : TypeId} {A A' : Option Addr} {n n' c c' : Nat} {us us' : List Value} {B B' : Nat} {w w' : World} (h : Own w B E A n c us) (h' : Own w' B' E' A' n' c' us') (hB : w.heap.size ≤ B') : Apart (.slice A n c) (.slice A' n' c') := fun g h1 h2 => by
  have a := (World.ownsRow.lt h g h1).2
  have b := (World.ownsRow.lt h' g h2).1
  omega
theorem Own.grown_below {E : TypeId} {A : Option Addr} {n c : Nat} {us : List Value} {B : Nat} {a w w' : World} (h : Own w B E A n c us) (hg : w.grownBy w' (Value.slice A n c).ownBlock) (hb : Below B a w) (hB : B ≤ w.heap.size) : Below B a w' :=
  hb.grown hg hB fun k hk => (World.ownsRow.lt h k hk).1

/-- Block g is just the cells cs of type t, none frozen. -/
def Blk (w : World) (g : Nat) (t : TypeId) (cs : Array Value) : Prop := w.heap[g]? = some (.cells cs t (0, 0))
section
variable {w w' : World} {g : Nat} {t : TypeId} {cs : Array Value}
theorem Blk.lt (h : Blk w g t cs) : g < w.heap.size := (Array.getElem?_eq_some_iff.1 h).1
theorem Blk.cell (h : Blk w g t cs) (i : Nat) : w.cell? ⟨g, i, none⟩ = cs[i]? := cell_of_row w g i cs t (0, 0) h
theorem Blk.frozen (h : Blk w g t cs) (i : Nat) : w.frozen? ⟨g, i, none⟩ = false := by
  unfold Blk at h
  simp [World.frozen?, h]
theorem Blk.new (w : World) (t : TypeId) (cs : Array Value) : Blk (w.alloc (.cells cs t)) w.heap.size t cs := heap_alloc_new w _
theorem Blk.alloc (h : Blk w g t cs) (o : Obj) : Blk (w.alloc o) g t cs := heap_past w o _ g h
theorem Blk.below {B : Nat} (h : Blk w g t cs) (hb : Below B w w') (hg : g < B) : Blk w' g t cs := (hb.block g hg).trans h
theorem Blk.grown {row : Option Nat} (h : Blk w g t cs) (hb : w.grownBy w' row) (hg : some g ≠ row) : Blk w' g t cs := (hb.block g h.lt hg).trans h
theorem Blk.drew (h : Blk w g t cs) : Blk w.drew g t cs := h
theorem Blk.range (h : Blk w g t cs) : w.rangeAt g 0 cs.toList := fun j v hv => by
  rw [h.cell, Nat.zero_add]; simpa using hv
theorem Blk.six {a b c d e f : Value} (h : Blk w g t #[a, b, c, d, e, f]) : w.cell? ⟨g, 0, none⟩ = some a ∧ w.cell? ⟨g, 1, none⟩ = some b ∧ w.cell? ⟨g, 2, none⟩ = some c ∧ w.cell? ⟨g, 3, none⟩ = some d ∧ w.cell? ⟨g, 4, none⟩ = some e ∧ w.cell? ⟨g, 5, none⟩ = some f :=
  ⟨h.cell 0, h.cell 1, h.cell 2, h.cell 3, h.cell 4, h.cell 5⟩
theorem Blk.two {a b : Value} (h : Blk w g t #[a, b]) : w.cell? ⟨g, 0, none⟩ = some a ∧ w.cell? ⟨g, 1, none⟩ = some b := ⟨h.cell 0, h.cell 1⟩
theorem Blk.there (h : Blk w g t cs) : w.there g 0 cs.size := fun j hj => by
  refine ⟨?_, h.frozen _⟩
  rw [h.cell, Nat.zero_add, Array.getElem?_eq_getElem hj]; rfl
theorem Own.ne_blk {B : Nat} {E : TypeId} {A : Option Addr} {n c : Nat} {us : List Value} (h : Own w B E A n c us) (hb : Blk w g t cs) (hE : E ≠ t) : some g ≠ (Value.slice A n c).ownBlock := by
  rcases h.2 with ⟨he, _⟩ | ⟨g', cap, cur, he, _, hg', _⟩
  · injection he with hA; subst hA; simp [Value.ownBlock]
  · injection he with hA; subst hA
    simp only [Value.ownBlock, ne_eq, Option.some.injEq]
    rintro rfl
    unfold Blk at hb
    rw [hb] at hg'
    injection hg' with hg'
    injection hg' with _ ht
    exact hE ht.symm
end

theorem Blk.set_ {w : World} {g : Nat} {t : TypeId} {cs : Array Value} (h : Blk w g t cs) (i : Nat) (u : Value) : Blk (w.setCell ⟨g, i, none⟩ u) g t (cs.setIfInBounds i u) := by
  unfold Blk at h ⊢
  simp [World.setCell, Array.getElem?_modify, h]
theorem Blk.far {w : World} {g : Nat} {t : TypeId} {cs : Array Value} (h : Blk w g t cs) {p : Addr} (hp : g ≠ p.block) (u : Value) : Blk (w.setCell p u) g t cs := (Below.heap_setCell w p u g hp).trans h
theorem Own.far {w : World} {g : Nat} {t E : TypeId} {cs : Array Value} {B : Nat} {A : Option Addr} {n c : Nat} {us : List Value} (h : Own w B E A n c us) (k : Blk w g t cs) (hE : E ≠ t) (i : Nat) (u : Value) : Own (w.setCell ⟨g, i, none⟩ u) B E A n c us := by
  have hne := h.ne_blk k hE
  refine ⟨h.1, ?_⟩
  rcases h.2 with hn | ⟨g', cap, cur, he, hB, hg, r⟩
  · exact .inl hn
  · refine .inr ⟨g', cap, cur, he, hB, ?_, r⟩
    rw [Below.heap_setCell _ _ _ _ (fun e => hne (by rw [he]; simp [Value.ownBlock, e]))]
    exact hg

/-- What was stored into a whole struct is read back. -/
theorem Blk.load_set {P : Program} {w : World} {b : Nat} {t T : TypeId} {cs : Array Value} {d : TypeDesc} (k : Blk w b t cs) (vs : List Value) (hl : cs.size = vs.length) (hu : P.underlying T = some d) (hd : d.isRow = true) (hi : (P.info? T).map (·.size) = some vs.length) :
    (loadVar T ⟨b, 0, none⟩).run P (w.setCells b 0 vs) = .ok (.agg vs.toArray) (w.setCells b 0 vs) :=
  run_loadVar_mid (P := P) _ b 0 T vs d (World.rangeAt_setCells_same w b 0 vs (hl ▸ k.there)) hu hd hi

theorem below_setCells {B b : Nat} {a : World} (hB : B ≤ b) : ∀ (vs : List Value) (o : Nat) (w : World), Below B a w → Below B a (w.setCells b o vs)
  | [], _, _, h => h
  | v :: r, o, _w, h => below_setCells hB r (o + 1) _ (h.setCell (p := ⟨b, o, none⟩) hB v)
theorem Own.setCells {E : TypeId} {A : Option Addr} {n c : Nat} {us : List Value} {B b : Nat} (hB : b < B) : ∀ (vs : List Value) (o : Nat) (w : World), Own w B E A n c us → Own (w.setCells b o vs) B E A n c us
  | [], _, _, h => h
  | v :: r, o, _w, h => Own.setCells hB r (o + 1) _ (h.setBelow (p := ⟨b, o, none⟩) hB v)

theorem keepC4 {w1 w2 : World} {p q r s : Addr} {u v x y : Value} (h : w1.cell? p = some u ∧ w1.cell? q = some v ∧ w1.cell? r = some x ∧ w1.cell? s = some y) (hb : Below w1.heap.size w1 w2) :
    w2.cell? p = some u ∧ w2.cell? q = some v ∧ w2.cell? r = some x ∧ w2.cell? s = some y :=
  ⟨(hb.cell (World.block_lt_of_cell? _ _ h.1)).trans h.1, (hb.cell (World.block_lt_of_cell? _ _ h.2.1)).trans h.2.1, (hb.cell (World.block_lt_of_cell? _ _ h.2.2.1)).trans h.2.2.1, (hb.cell (World.block_lt_of_cell? _ _ h.2.2.2)).trans h.2.2.2⟩

theorem ret_bool {a b : Bool} (h : a = b) : Ending.returned (.bool a) = .returned (.bool b) := by rw [h]
theorem ret_int {k : IntKind} {a b : Int} (h : a = b) : Ending.returned (.int k a) = .returned (.int k b) := by rw [h]

end Go.Proofs.YtommppijnccomaaGreat

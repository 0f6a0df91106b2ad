/-
  LawFnMultivectorTexts: part 1 of the texts that the proof needs. No condition.
-/
import Derived.Test.YticofgmmjecleaaGreatDoorRows
import Derived.WalkKit
import Derived.Lib.Hide
import Derived.Deep.LoopGhost
import Derived.Deep.Draws
import Derived.Deep.OwnRows
import Derived.Maps.AppendAt
import Derived.OwnWalk
import Derived.Deep.MidRow
import Derived.IntWalk
import Derived.Deep.QuietTactic
import Derived.BigQuiet
import Derived.ProofKit
import Derived.OpenShut
import Derived.Lib.SmallJoins
import Derived.Deep.Strs
import Derived.Deep.RegionHeld3
import Derived.Deep.AppendLies
import Derived.WalkSpells
import Derived.Lib.ItoaNum
import Derived.Lib.SlTrimSet
import Derived.Lib.LaidTab
import Derived.Deep.DeepHandedRow
import Derived.Shelf.Vars
import Derived.Stop.LaidErr
import Derived.Lay
import Derived.ChangeMaps5
import Derived.Shelf.LaysM
import Derived.Shelf.LaysC
import Derived.Shelf.Strings.Cut
import Derived.Shelf.Strings.SplitShaped
import Derived.Shelf.Strings.Shaped
import Derived.Shelf.Strings.Prefix
import Derived.Shelf.Strings.SlTrimAscii
import Derived.Shelf.Strconv.Itoa4
import Derived.Shelf.Strconv.ErrVarParseInt
import Derived.Lib.Split
import Derived.Lib.SplitLaws
import Derived.Lib.Replace
import Derived.Lib.ParseIntBTie
import Derived.Lib.AppendIntMem
import Derived.Laws.IdiomStrings
import Derived.Deep.Light
import Derived.Test.YticofgmmjecleaaGreatDoorCards
import Derived.Test.YticofgmmjecleaaGreatDoorTie
import Derived.SevenTiedAt
namespace Go.Proofs.YticofgmmjecleaaGreatDoor
open Go.RowKit
/-- The values of a list of numbers. -/
def ints (xs : List Int) : List Value := xs.map (Value.int .i64)
theorem ints_length (xs : List Int) : (ints xs).length = xs.length := by simp [ints]
theorem ints_get (xs : List Int) (k : Nat) (h : k < xs.length) : (ints xs)[k]? = some (.int .i64 xs[k]) := by simp [ints, h]
/-- The slice of n places at A reads as the values us. -/
def Rd (w : World) (A : Option Addr) (n : Nat) (us : List Value) : Prop :=
  us.length = n ∧ (0 < n → ∃ g o, A = some ⟨g, o, none⟩ ∧ ∀ k u, us[k]? = some u → w.cell? ⟨g, o + k, none⟩ = some u)
theorem Rd.nil (w : World) (A : Option Addr) : Rd w A 0 [] := ⟨rfl, fun h => absurd h (by omega)⟩
theorem Rd.keep {w w' : World} {A : Option Addr} {n : Nat} {us : List Value} (h : Rd w A n us)
    (hk : ∀ p : Addr, p.block < w.heap.size → w'.cell? p = w.cell? p) : Rd w' A n us :=
  ⟨h.1, fun hn => by
    obtain ⟨g, o, e, hc⟩ := h.2 hn
    exact ⟨g, o, e, fun k u hu => (hk _ (World.block_lt_of_cell? w _ (hc k u hu))).trans (hc k u hu)⟩⟩
theorem Rd.below {w w' : World} {A : Option Addr} {n : Nat} {us : List Value} (h : Rd w A n us) (hb : Below w.heap.size w w') : Rd w' A n us :=
  h.keep fun _ hp => hb.cell hp
/-- Place k of a slice of numbers. -/
theorem Rd.int {w : World} {A : Option Addr} {n : Nat} {xs : List Int} (h : Rd w A n (ints xs)) {k : Nat} (hk : k < n) :
    ∃ g o, A = some ⟨g, o, none⟩ ∧ ∃ hx : k < xs.length, w.cell? ⟨g, o + k, none⟩ = some (.int .i64 xs[k]) := by
  obtain ⟨g, o, e, hc⟩ := h.2 (by omega)
  have hl : k < xs.length := by have := h.1; rw [ints_length] at this; omega
  exact ⟨g, o, e, hl, hc k _ (ints_get xs k hl)⟩

/-- The slice of n places (capacity c) at A is a row of the call's own, in a block from B on, which holds the values us of type E. -/
def Own (w : World) (B : Nat) (E : TypeId) (A : Option Addr) (n c : Nat) (us : List Value) : Prop := w.ownsRow B E 1 (.slice A n c) n us
section
variable {w w' w0 w1 : World} {B B' : Nat} {E : TypeId} {A : Option Addr} {n c : Nat} {us : List Value}
theorem Own.len (h : Own w B E A n c us) : us.length = n := by have := h.1; simpa using this
theorem Own.rd (h : Own w B E A n c us) : Rd w A n us := by
  refine ⟨h.len, fun hn => ?_⟩
  rcases h.2 with ⟨_, h0⟩ | ⟨g, cap, cur, he, _⟩
  · omega
  · injection he with hA
    subst hA
    refine ⟨g, 0, rfl, fun k u hu => ?_⟩
    have := World.ownsRow.cells (g := g) h rfl k u hu
    rwa [Addr.add_lit] at this
theorem Own.below (h : Own w B E A n c us) (hb : Below w.heap.size w w') : Own w' B E A n c us := by
  refine ⟨h.1, ?_⟩
  rcases h.2 with hn | ⟨g, cap, cur, he, hB, hg, r⟩
  · exact .inl hn
  · exact .inr ⟨g, cap, cur, he, hB, (hb.block g (Array.getElem?_eq_some_iff.1 hg).1).trans hg, r⟩
theorem Own.base (h : Own w B E A n c us) (hB : B' ≤ B) : Own w B' E A n c us := by
  refine ⟨h.1, ?_⟩
  rcases h.2 with hn | ⟨g, cap, cur, he, hb, r⟩
  · exact .inl hn
  · exact .inr ⟨g, cap, cur, he, by omega, r⟩
theorem Own.form (h : Own w B E A n c us) : (A = none ∧ n = 0) ∨ ∃ g, A = some ⟨g, 0, none⟩ ∧ B ≤ g ∧ g < w.heap.size := by
  rcases h.2 with ⟨he, h0⟩ | ⟨g, cap, cur, he, hB, hg, _⟩
  · injection he with hA; exact .inl ⟨hA, h0⟩
  · injection he with hA; exact .inr ⟨g, hA, hB, (Array.getElem?_eq_some_iff.1 hg).1⟩
theorem Own.cap (h : Own w B E A n c us) : n ≤ c := by
  rcases h.2 with ⟨he, h0⟩ | ⟨g, cap, cur, he, _, _, hc, _⟩
  · omega
  · injection he with _ _ hc'; omega
theorem Own.grown {row : Option Nat} (h : Own w B E A n c us) (hg : w.grownBy w' row) (hne : (Value.slice A n c).ownBlock = none ∨ (Value.slice A n c).ownBlock ≠ row) : Own w' B E A n c us := h.kept hg hne
/-- The row's length cut down. -/
theorem Own.cut {k : Nat} (h : Own w B E A n c us) (hk : k ≤ n) : Own w B E A k c (us.take k) := by
  refine ⟨by rw [List.length_take, h.len]; omega, ?_⟩
  rcases h.2 with ⟨he, h0⟩ | ⟨g, cap, cur, he, hB, hg, hnc, hcm, hcs, ht⟩
  · left; injection he with e1 e2 e3; subst e1; subst e3; exact ⟨by congr; omega, by omega⟩
  · injection he with e1 e2 e3
    subst e1; subst e3
    refine .inr ⟨g, c, cur, rfl, hB, hg, by omega, hcm, hcs, ?_⟩
    rw [← ht, List.take_take]; congr 1; omega
/-- What was there when the call began (world w0) is as it was, and the row is the call's own. -/
def Mk (w0 w : World) (E : TypeId) (A : Option Addr) (n c : Nat) (us : List Value) : Prop := Below w0.heap.size w0 w ∧ Own w w0.heap.size E A n c us
theorem Mk.b (h : Mk w0 w E A n c us) : Below w0.heap.size w0 w := h.1
theorem Mk.rd (h : Mk w0 w E A n c us) : Rd w A n us := h.2.rd
theorem Mk.nil (h : Below w0.heap.size w0 w) : Mk w0 w E none 0 0 [] := ⟨h, World.ownsRow_nil _ _ _ _⟩
theorem Mk.lit (h : Below w0.heap.size w0 w) (cs : Array Value) (hm : cs.size ≤ maxLen) : Mk w0 (w.alloc (.cells cs E)) E (some ⟨w.heap.size, 0, none⟩) cs.size cs.size cs.toList :=
  ⟨h.alloc h.size _, World.ownsRow_lit w cs cs.size h.size hm (by simp)⟩
theorem Own.of_cells {cs : Array Value} {g : Nat} (hg : B ≤ g) (hc : w.heap[g]? = some (.cells cs E (0, 0))) (hm : cs.size ≤ maxLen) : Own w B E (some ⟨g, 0, none⟩) cs.size cs.size cs.toList :=
  ⟨by simp, .inr ⟨g, cs.size, cs, rfl, hg, hc, Nat.le_refl _, hm, by simp, List.take_of_length_le (by simp)⟩⟩
theorem Mk.of_cells {cs : Array Value} {g : Nat} (hb : Below w0.heap.size w0 w) (hg : w0.heap.size ≤ g) (hc : w.heap[g]? = some (.cells cs E (0, 0))) (hm : cs.size ≤ maxLen) : Mk w0 w E (some ⟨g, 0, none⟩) cs.size cs.size cs.toList :=
  ⟨hb, by simp, .inr ⟨g, cs.size, cs, rfl, hg, hc, Nat.le_refl _, hm, by simp, List.take_of_length_le (by simp)⟩⟩
theorem heap_past (w : World) (o o' : Obj) (g : Nat) (h : w.heap[g]? = some o') : (w.alloc o).heap[g]? = some o' := (Below.heap_alloc w o g (Array.getElem?_eq_some_iff.1 h).1).trans h
theorem Mk.made {z : Value} (h : Below w0.heap.size w0 w) (hm : n ≤ maxLen) : Mk w0 (w.alloc (.cells (madeCells #[z] n) E)) E (some ⟨w.heap.size, 0, none⟩) n n (List.replicate n z) := by
  have hl := Mk.lit (E := E) h (madeCells #[z] n) (by simpa [size_madeCells] using hm)
  rw [size_madeCells, toList_madeCells_one] at hl
  exact hl
theorem Mk.after (h : Mk w1 w E A n c us) (hb : Below w0.heap.size w0 w1) : Mk w0 w E A n c us :=
  ⟨hb.trans (h.1.mono hb.size), h.2.base hb.size⟩
theorem Mk.below (h : Mk w0 w E A n c us) (hb : Below w.heap.size w w') : Mk w0 w' E A n c us :=
  ⟨h.1.trans (hb.mono h.1.size), h.2.below hb⟩
theorem Mk.drewN (h : Mk w0 w E A n c us) (k : Nat) : Mk w0 (w.drewN k) E A n c us := h.below (⟨rfl, rfl, rfl, Nat.le_refl _, fun _ _ => rfl⟩)
theorem Mk.drew (h : Mk w0 w E A n c us) : Mk w0 w.drew E A n c us := h.below (⟨rfl, rfl, rfl, Nat.le_refl _, fun _ _ => rfl⟩)
theorem Mk.alloc (h : Mk w0 w E A n c us) (o : Obj) : Mk w0 (w.alloc o) E A n c us := h.below ((Below.refl _ _).alloc (Nat.le_refl _) _)
variable {g : Nat}
theorem Own.cell_ (h : Own w B E (some ⟨g, 0, none⟩) n c us) {k : Nat} (hk : k < n) : ∃ u, us[k]? = some u ∧ w.cell? ⟨g, k, none⟩ = some u := by
  have hl : k < us.length := by rw [h.len]; exact hk
  exact ⟨us[k], List.getElem?_eq_getElem hl, (World.ownsRow.cellAt h k (by omega)).trans (List.getElem?_eq_getElem hl)⟩
theorem Own.cellI {xs : List Int} (h : Own w B E (some ⟨g, 0, none⟩) n c (ints xs)) {k : Nat} (hk : k < n) : ∃ x, w.cell? ⟨g, k, none⟩ = some (.int .i64 x) := by
  have hl : k < xs.length := by have := h.len; rw [ints_length] at this; omega
  exact ⟨xs[k], (World.ownsRow.cellAt h k (by omega)).trans (ints_get xs k hl)⟩
theorem Own.frozen_ (h : Own w B E (some ⟨g, 0, none⟩) n c us) (k : Nat) : w.frozen? ⟨g, k, none⟩ = false := World.ownsRow.frozenAt h k
theorem Mk.set (h : Mk w0 w E (some ⟨g, 0, none⟩) n c us) (k : Nat) (u : Value) : Mk w0 (w.setCell ⟨g, k, none⟩ u) E (some ⟨g, 0, none⟩) n c (us.set k u) ∧ w.grownBy (w.setCell ⟨g, k, none⟩ u) (some g) := by
  obtain ⟨h1, h2⟩ := World.ownsRow.stored h.2 k u
  exact ⟨⟨h.1.setCell (h.2.lt g rfl).1 _, h1⟩, h2⟩
end
theorem bound_of {n : Nat} (h : n ≤ 1099511627776) : n + 1 ≤ maxLen ∧ ∀ b, b ≤ 24 → (n + 1) * b ≤ 140737488355328 := by
  refine ⟨by simp only [maxLen]; omega, fun b hb => ?_⟩
  have := Nat.mul_le_mul_left (n + 1) hb
  omega
/-- One value is appended to a row of the call's own. -/
theorem wpList_app1 {P : Program} {ops : Array Oper} {rest : List Oper} {o : Oper} {a : Act} {Q : Exit → Act → World → Prop} (w0 wr : World) (T E : TypeId) (z : Value) (bytes : Nat)
    (ht : P.underlying T = some (.slice E)) (hinfo : (P.info? E).map (fun i => (i.zero, i.size, i.bytes)) = some (some z, 1, bytes)) (hz : z.cells.size = 1) (hby : bytes ≤ 24)
    (hgd : o.guard = none) (s x : Operand) (ho : o.op = .call { callee := .builtin .append, args := #[s, x], argTypes := #[T, T] })
    (A : Option Addr) (n c : Nat) (us : List Value) (u : Value) (hM : Mk w0 wr E A n c us) (hn : n ≤ 1099511627776) (hu : u.oneCell' = true)
    (hs : a.eval s = .slice A n c) (hx : a.eval x = .slice (some ⟨wr.heap.size, 0, none⟩) 1 1)
    (h : ∀ A' c' w', Mk w0 w' E A' (n + 1) c' (us ++ [u]) → wr.grownBy w' (Value.slice A n c).ownBlock → (∃ g, A' = some ⟨g, 0, none⟩ ∧ ((Value.slice A n c).ownBlock = some g ∨ wr.heap.size ≤ g)) →
      wpList P ops Q rest (a.put o.dst (.slice A' (n + 1) c')) w') :
    wpList P ops Q (o :: rest) a (wr.alloc (.cells #[u] E)) := by
  obtain ⟨i, hi, h1, h2, h3⟩ := info_parts hinfo
  obtain ⟨b1, b2⟩ := bound_of hn
  refine wpList_append_own_at (wr.alloc (.cells #[u] E)) hgd s x T ho w0.heap.size E i z 1 bytes ht hi h1 h2 h3 hz (by omega) (.slice A n c) n us hs (hM.alloc _).2 ⟨wr.heap.size, 0, none⟩ 1 1 [u] hx rfl (cell_one_new _ _ _)
    (by intro v hv; simp at hv; rw [hv]; exact hu) b1 (b2 _ hby) (by have := hM.1.size; simp; omega) ?_
  intro v' w' hown hg _ hat
  have hg' : wr.grownBy w' (Value.slice A n c).ownBlock := World.grownBy.trans (World.grownBy_alloc wr _ _) hg
  rcases hown.2 with ⟨_, h0⟩ | ⟨g, cap, cur, rfl, hr⟩
  · omega
  · refine h _ _ _ ⟨hM.1.grown hg' hM.1.size (fun k hk => (hM.2.lt k hk).1), hown⟩ hg' ⟨g, rfl, ?_⟩
    rcases hat with he | he
    · exact .inl he.symm
    · right
      have : g = (wr.alloc (.cells #[u] E)).heap.size := by simpa [Value.ownBlock] using he
      simp at this; omega
theorem info_i : (Tryz.prog.info? 2).map (fun i => (i.zero, i.size, i.bytes)) = some (some (.int .i64 0), 1, 8) := by kernel_rfl
/-- A row of numbers that the call made. -/
abbrev MkI (w0 w : World) (A : Option Addr) (n c : Nat) (xs : List Int) : Prop := Mk w0 w 2 A n c (ints xs)
theorem ints_replicate (n : Nat) : List.replicate n (Value.int .i64 0) = ints (List.replicate n 0) := by simp [ints]
theorem ints_set (xs : List Int) (k : Nat) (x : Int) : (ints xs).set k (.int .i64 x) = ints (xs.set k x) := by simp [ints, List.map_set]
theorem make_i {P : Program} (t e : TypeId) (ht : P.underlying t = some (.slice e)) (hi : (P.info? e).map (fun i => (i.zero, i.size, i.bytes)) = some (some (.int .i64 0), 1, 8)) (n : Nat) (hn : n ≤ 1099511627776) :
    ∀ w : World, (Instr.makeSlice t (.int .i64 (n : Int)) (.int .i64 (n : Int))).run P w = .ok (.slice (some ⟨w.heap.size, 0, none⟩) n n) (w.alloc (.cells (madeCells #[.int .i64 0] n) e)) :=
  run_make_row' t e (.int .i64 0) 8 ht hi rfl .i64 .i64 n (by omega) (by omega)
theorem below_drewN {B : Nat} {a w : World} (h : Below B a w) (n : Nat) : Below B a (w.drewN n) := ⟨h.os, h.tape, h.output, h.size, h.block⟩
theorem quiet_left' {P : Program} {f : FuncId} {args : Array Value} {w : World} {n : Nat} {v : Value}
    (h : Calls P f args (w.drewN n) fun e w' => e = .returned v ∧ w.drewN n = w') : Calls P f args (w.drewN n) fun e w'' => e = .returned v ∧ ∃ m, w'' = w.drewN m :=
  h.mono fun _ _ ⟨he, hm⟩ => ⟨he, n, hm.symm⟩
theorem keepB2 {B : Nat} {W0 w1 w2 : World} {p q : Addr} {u v : Value} (h : w1.cell? p = some u ∧ w1.cell? q = some v ∧ Below B W0 w1) (hb : Below w1.heap.size w1 w2) (hB : B ≤ W0.heap.size) :
    w2.cell? p = some u ∧ w2.cell? q = some v ∧ Below B W0 w2 :=
  ⟨(hb.cell (World.block_lt_of_cell? _ _ h.1)).trans h.1, (hb.cell (World.block_lt_of_cell? _ _ h.2.1)).trans h.2.1, h.2.2.trans (hb.mono (Nat.le_trans hB h.2.2.size))⟩
/-- Two slices lie in different blocks. -/
def Apart (v v' : Value) : Prop := ∀ g, v.ownBlock = some g → v'.ownBlock ≠ some g
theorem Apart.symm {v v' : Value} (h : Apart v v') : Apart v' v := fun g h1 h2 => h g h2 h1
theorem Apart.row {v v' : Value} (h : Apart v v') : v'.ownBlock = none ∨ v'.ownBlock ≠ v.ownBlock := by
  cases hv : v.ownBlock with
  | none => cases hv' : v'.ownBlock <;> simp
  | some g => exact .inr (h g hv)
theorem Own.apart {E E' : TypeId} {A A' : Option Addr} {n n' c c' : Nat} {us us' : List Value} {B : Nat} {w w' : World} (h : Own w B E A n c us) (h' : Own w' w.heap.size E' A' n' c' us') : Apart (.slice A n c) (.slice A' n' c') := fun g h1 h2 => by
  have a := (World.ownsRow.lt h g h1).2
  have b := (World.ownsRow.lt h' g h2).1
  omega
/-- Block g is just the cells cs of type t, none frozen. -/
def Blk (w : World) (g : Nat) (t : TypeId) (cs : Array Value) : Prop := w.heap[g]? = some (.cells cs t (0, 0))
section
variable {w w' : World} {g : Nat} {t : TypeId} {cs : Array Value}
theorem Blk.lt (h : Blk w g t cs) : g < w.heap.size := (Array.getElem?_eq_some_iff.1 h).1
theorem Blk.cell (h : Blk w g t cs) (i : Nat) : w.cell? ⟨g, i, none⟩ = cs[i]? := cell_of_row w g i cs t (0, 0) h
theorem Blk.frozen (h : Blk w g t cs) (i : Nat) : w.frozen? ⟨g, i, none⟩ = false := by
  unfold Blk at h
  simp [World.frozen?, h]
theorem Blk.new (w : World) (t : TypeId) (cs : Array Value) : Blk (w.alloc (.cells cs t)) w.heap.size t cs := heap_alloc_new w _
theorem Blk.alloc (h : Blk w g t cs) (o : Obj) : Blk (w.alloc o) g t cs := heap_past w o _ g h
theorem Blk.below {B : Nat} (h : Blk w g t cs) (hb : Below B w w') (hg : g < B) : Blk w' g t cs := (hb.block g hg).trans h
theorem Blk.grown {row : Option Nat} (h : Blk w g t cs) (hb : w.grownBy w' row) (hg : some g ≠ row) : Blk w' g t cs := (hb.block g h.lt hg).trans h
theorem Blk.drew (h : Blk w g t cs) : Blk w.drew g t cs := h
theorem Blk.range (h : Blk w g t cs) : w.rangeAt g 0 cs.toList := fun j v hv => by
  rw [h.cell, Nat.zero_add]; simpa using hv
theorem Blk.two {a b : Value} (h : Blk w g t #[a, b]) : w.cell? ⟨g, 0, none⟩ = some a ∧ w.cell? ⟨g, 1, none⟩ = some b := ⟨h.cell 0, h.cell 1⟩
theorem Blk.there (h : Blk w g t cs) : w.there g 0 cs.size := fun j hj => by
  refine ⟨?_, h.frozen _⟩
  rw [h.cell, Nat.zero_add, Array.getElem?_eq_getElem hj]; rfl
theorem Own.ne_blk {B : Nat} {E : TypeId} {A : Option Addr} {n c : Nat} {us : List Value} (h : Own w B E A n c us) (hb : Blk w g t cs) (hE : E ≠ t) : some g ≠ (Value.slice A n c).ownBlock := by
  rcases h.2 with ⟨he, _⟩ | ⟨g', cap, cur, he, _, hg', _⟩
  · injection he with hA; subst hA; simp [Value.ownBlock]
  · injection he with hA; subst hA
    simp only [Value.ownBlock, ne_eq, Option.some.injEq]
    rintro rfl
    unfold Blk at hb
    rw [hb] at hg'
    injection hg' with hg'
    injection hg' with _ ht
    exact hE ht.symm
end
theorem Blk.set_ {w : World} {g : Nat} {t : TypeId} {cs : Array Value} (h : Blk w g t cs) (i : Nat) (u : Value) : Blk (w.setCell ⟨g, i, none⟩ u) g t (cs.setIfInBounds i u) := by
  unfold Blk at h ⊢
  simp [World.setCell, Array.getElem?_modify, h]
theorem Blk.far {w : World} {g : Nat} {t : TypeId} {cs : Array Value} (h : Blk w g t cs) {p : Addr} (hp : g ≠ p.block) (u : Value) : Blk (w.setCell p u) g t cs := (Below.heap_setCell w p u g hp).trans h
theorem Own.far {w : World} {g : Nat} {t E : TypeId} {cs : Array Value} {B : Nat} {A : Option Addr} {n c : Nat} {us : List Value} (h : Own w B E A n c us) (k : Blk w g t cs) (hE : E ≠ t) (i : Nat) (u : Value) : Own (w.setCell ⟨g, i, none⟩ u) B E A n c us := by
  have hne := h.ne_blk k hE
  refine ⟨h.1, ?_⟩
  rcases h.2 with hn | ⟨g', cap, cur, he, hB, hg, r⟩
  · exact .inl hn
  · refine .inr ⟨g', cap, cur, he, hB, ?_, r⟩
    rw [Below.heap_setCell _ _ _ _ (fun e => hne (by rw [he]; simp [Value.ownBlock, e]))]
    exact hg
theorem ret_bool {a b : Bool} (h : a = b) : Ending.returned (.bool a) = .returned (.bool b) := by rw [h]
theorem ret_int {k : IntKind} {a b : Int} (h : a = b) : Ending.returned (.int k a) = .returned (.int k b) := by rw [h]
end Go.Proofs.YticofgmmjecleaaGreatDoor
namespace Go.Proofs.YticofgmmjecleaaGreatDoor
open Go.RowKit
theorem take_succ_eq (xs ys : List Int) (k : Nat) (hx : k < xs.length) (hy : k < ys.length) (h : xs.take k = ys.take k) (he : xs[k] = ys[k]) :
    xs.take (k + 1) = ys.take (k + 1) := by
  rw [List.take_succ_eq_append_getElem hx, List.take_succ_eq_append_getElem hy, h, he]
theorem ne_of_get (xs ys : List Int) (k : Nat) (hx : k < xs.length) (hy : k < ys.length) (he : (xs[k] != ys[k]) = true) : decide (xs = ys) = false := by
  rw [decide_eq_false_iff_not]
  rintro rfl
  simp at he
end Go.Proofs.YticofgmmjecleaaGreatDoor
namespace Go.Proofs.YticofgmmjecleaaGreatDoor
open Go.ChangeShapes Go.WideShapes Go.ChangeAt Go.RowKit
section
variable {H : Type} {enc : TypeId × Value → H} {P : Program}
/-- A law's row: the result is the bool true, the arguments read as they did, nothing that was there has turned. -/
theorem post_below {f : Func} {s : ChangeSpec} {apart fresh handsOn again : Bool} {W W' : World} {args : Array Value} {v : Value} {ds gs : List (DataW H)} {before pa pv : List MemPlace}
    (whole : DataW.Whole enc P f.params.toList s.vars apart W args.toList ds gs before)
    (res : ∀ (b : Nat) (sp : Nat → Bool) (hd : Bool), DataW.TrodAll enc P W' b sp hd f.resultTypes.toList (v.resultList f.resultTypes.size) (s.fn H (ds ++ gs)).results [])
    (arg : ∀ sp : Nat → Bool, (∀ p ∈ before, sp p.block = true) → DataW.TrodAll enc P W' 0 sp true f.params.toList args.toList (s.fn H (ds ++ gs)).args pa)
    (var : ∀ sp : Nat → Bool, (∀ p ∈ before, sp p.block = true) → DataW.TrodVars enc P W' sp s.vars (s.fn H (ds ++ gs)).vars pv)
    (places : before = pa ++ pv) (below : Below W.heap.size W W')
    (ok : ∀ (j : Nat) (t : TypeId) (r : Value), f.resultTypes[j]? = some t → (v.resultList f.resultTypes.size)[j]? = some r → Value.okWide P W' .any 0 t r) :
    s.post enc P f apart fresh handsOn again W args v W' := by
  have old : ∀ p ∈ before, p.block < W.heap.size := fun p hp => whole.lt p hp
  have seen : ∀ p ∈ before, (fun b => decide (b < W.heap.size)) p.block = true := fun p hp => decide_eq_true (old p hp)
  have frame : W.keptBut W' (fun p => p ∈ before ∧ (p ∈ ([] : List MemPlace) ∨ p ∈ pa ++ pv)) :=
    World.keptBut_mono (fun p hp => ⟨hp, .inr (places ▸ hp)⟩) (below.frame (fun p => p ∈ before))
  refine ⟨ds, gs, before, [], pa, pv, whole, res _ _ _, arg _ seen, var _ seen, ?_, fun _ => ?_⟩
  · refine World.keptBut_mono (fun p hp => ?_) frame
    obtain ⟨h1, h2⟩ := hp
    refine ⟨h1, ?_⟩
    rcases h2 with h2 | h2
    · cases h2
    · exact Or.inr (by simpa [List.mem_append] using h2)
  · obtain ⟨_, _, _, _, _, hz, hn⟩ := whole
    refine ⟨ok, _, _, ([] ++ pa) ++ pv, ⟨[] ++ pa, pv, trodAll_append (arg _ (fun _ _ => rfl)) (res _ _ _), var _ (fun _ _ => rfl), rfl, fun b off hp => ?_, fun ha => ?_⟩, fun p hp _ => ?_⟩
    · have hin : MemPlace.cell b off ∈ before := by rw [places]; simpa using hp
      rw [below.frozen (old _ hin)]
      exact hz b off hin
    · have := hn ha
      rw [places] at this
      simpa using this
    · rw [places]
      simpa using hp
end
end Go.Proofs.YticofgmmjecleaaGreatDoor
namespace Go.Proofs.YticofgmmjecleaaGreatDoor
open Go.RowKit
theorem Own.ne {w : World} {B B' : Nat} {E E' : TypeId} {A A' : Option Addr} {n n' c c' : Nat} {us us' : List Value} (h : Own w B E A n c us) (h' : Own w B' E' A' n' c' us') (hE : E ≠ E') :
    (Value.slice A n c).ownBlock = none ∨ (Value.slice A n c).ownBlock ≠ (Value.slice A' n' c').ownBlock := by
  rcases h.2 with ⟨he, _⟩ | ⟨g, cap, cur, he, _, hg, _⟩
  · left; injection he with hA; subst hA; rfl
  · rcases h'.2 with ⟨he', _⟩ | ⟨g', cap', cur', he', _, hg', _⟩
    · right; injection he with hA; injection he' with hA'; subst hA; subst hA'; simp [Value.ownBlock]
    · right
      injection he with hA; injection he' with hA'; subst hA; subst hA'
      simp only [Value.ownBlock, ne_eq, Option.some.injEq]
      rintro rfl
      rw [hg] at hg'
      injection hg' with hg'
      injection hg' with _ ht
      exact hE ht
/-- Rows of numbers, each of the call's own, no two in one block. -/
structure Nest (w : World) (B : Nat) (rows : List Value) (xss : List (List Int)) : Prop where
  len : rows.length = xss.length
  row : ∀ (k : Nat) (h : k < xss.length), ∃ A c, rows[k]? = some (.slice A xss[k].length c) ∧ Own w B 2 A xss[k].length c (ints xss[k])
  apart : ∀ i j g : Nat, i < j → (rows[i]?).bind Value.ownBlock = some g → (rows[j]?).bind Value.ownBlock ≠ some g
theorem Nest.nil (w : World) (B : Nat) : Nest w B [] [] := ⟨rfl, fun k h => absurd h (by simp), fun i j g _ h => by simp at h⟩
theorem Nest.below {w w' : World} {B : Nat} {rows : List Value} {xss : List (List Int)} (h : Nest w B rows xss) (hb : Below w.heap.size w w') : Nest w' B rows xss :=
  ⟨h.len, fun k hk => by obtain ⟨A, c, e, ho⟩ := h.row k hk; exact ⟨A, c, e, ho.below hb⟩, h.apart⟩
theorem Nest.base {w : World} {B B' : Nat} {rows : List Value} {xss : List (List Int)} (h : Nest w B rows xss) (hB : B' ≤ B) : Nest w B' rows xss :=
  ⟨h.len, fun k hk => by obtain ⟨A, c, e, ho⟩ := h.row k hk; exact ⟨A, c, e, ho.base hB⟩, h.apart⟩
theorem Nest.grown {w w' : World} {B B' : Nat} {rows : List Value} {xss : List (List Int)} {E : TypeId} {A : Option Addr} {n c : Nat} {us : List Value} (h : Nest w B rows xss)
    (ho : Own w B' E A n c us) (hE : 2 ≠ E) (hg : w.grownBy w' (Value.slice A n c).ownBlock) : Nest w' B rows xss :=
  ⟨h.len, fun k hk => by obtain ⟨A', c', e, ho'⟩ := h.row k hk; exact ⟨A', c', e, ho'.grown hg (ho'.ne ho hE)⟩, h.apart⟩
theorem Nest.block {w : World} {B : Nat} {rows : List Value} {xss : List (List Int)} (h : Nest w B rows xss) (i g : Nat) (hi : (rows[i]?).bind Value.ownBlock = some g) : B ≤ g ∧ g < w.heap.size := by
  by_cases hk : i < xss.length
  · obtain ⟨A, c, e, ho⟩ := h.row i hk
    rw [e] at hi
    exact World.ownsRow.lt ho g hi
  · rw [List.getElem?_eq_none (by rw [h.len]; omega)] at hi; cases hi
/-- A slice of rows of numbers that the call made. -/
def MkII (w0 w : World) (A : Option Addr) (n c : Nat) (xss : List (List Int)) : Prop := ∃ rows, Mk w0 w 22 A n c rows ∧ Nest w w0.heap.size rows xss
/-- A slice of rows of numbers that is read. -/
def RdII (w : World) (A : Option Addr) (n : Nat) (xss : List (List Int)) : Prop := ∃ rows, Rd w A n rows ∧ rows.length = xss.length ∧
  ∀ (k : Nat) (h : k < xss.length), ∃ A' c', rows[k]? = some (.slice A' xss[k].length c') ∧ Rd w A' xss[k].length (ints xss[k]) ∧ xss[k].length ≤ c'
section
variable {w w' w0 w1 : World} {A : Option Addr} {n c : Nat} {xss : List (List Int)}
theorem RdII.len (h : RdII w A n xss) : xss.length = n := by obtain ⟨rows, hr, hl, _⟩ := h; rw [← hl]; exact hr.1
theorem RdII.below (h : RdII w A n xss) (hb : Below w.heap.size w w') : RdII w' A n xss := by
  obtain ⟨rows, hr, hl, hk⟩ := h
  exact ⟨rows, hr.below hb, hl, fun k hlt => by obtain ⟨A', c', e, h1, h2⟩ := hk k hlt; exact ⟨A', c', e, h1.below hb, h2⟩⟩
theorem RdII.at_ (h : RdII w A n xss) {k : Nat} (hk : k < n) : ∃ g o, A = some ⟨g, o, none⟩ ∧ ∃ (hx : k < xss.length) (A' : Option Addr) (c' : Nat),
    w.cell? ⟨g, o + k, none⟩ = some (.slice A' xss[k].length c') ∧ Rd w A' xss[k].length (ints xss[k]) ∧ xss[k].length ≤ c' := by
  have hlen := h.len
  obtain ⟨rows, hr, hl, hrow⟩ := h
  obtain ⟨g, o, e, hc⟩ := hr.2 (by omega)
  have hx : k < xss.length := by omega
  obtain ⟨A', c', he, h1, h2⟩ := hrow k hx
  exact ⟨g, o, e, hx, A', c', hc k _ he, h1, h2⟩
theorem MkII.rd (h : MkII w0 w A n c xss) : RdII w A n xss := by
  obtain ⟨rows, hm, hn⟩ := h
  exact ⟨rows, hm.rd, hn.len, fun k hk => by obtain ⟨A', c', e, ho⟩ := hn.row k hk; exact ⟨A', c', e, ho.rd, ho.cap⟩⟩
theorem MkII.len (h : MkII w0 w A n c xss) : xss.length = n := h.rd.len
theorem MkII.nil (h : Below w0.heap.size w0 w) : MkII w0 w none 0 0 [] := ⟨[], Mk.nil h, Nest.nil _ _⟩
theorem MkII.empty (h : Below w0.heap.size w0 w) : MkII w0 (w.alloc (.cells #[] 22)) (some ⟨w.heap.size, 0, none⟩) 0 0 [] := ⟨[], Mk.lit h #[] (by simp), Nest.nil _ _⟩
theorem MkII.b (h : MkII w0 w A n c xss) : Below w0.heap.size w0 w := by obtain ⟨_, h, _⟩ := h; exact h.1
theorem MkII.below (h : MkII w0 w A n c xss) (hb : Below w.heap.size w w') : MkII w0 w' A n c xss := by
  obtain ⟨rows, hm, hn⟩ := h; exact ⟨rows, hm.below hb, hn.below hb⟩
theorem MkII.after (h : MkII w1 w A n c xss) (hb : Below w0.heap.size w0 w1) : MkII w0 w A n c xss := by
  obtain ⟨rows, hm, hn⟩ := h; exact ⟨rows, hm.after hb, hn.base hb.size⟩
theorem MkII.at_ (h : MkII w0 w A n c xss) {k : Nat} (hk : k < n) : ∃ g, A = some ⟨g, 0, none⟩ ∧ ∃ (hx : k < xss.length) (A' : Option Addr) (c' : Nat),
    w.cell? ⟨g, k, none⟩ = some (.slice A' xss[k].length c') ∧ Mk w0 w 2 A' xss[k].length c' (ints xss[k]) := by
  have hlen := h.len
  obtain ⟨rows, hm, hn⟩ := h
  have hx : k < xss.length := by omega
  obtain ⟨A', c', e, ho⟩ := hn.row k hx
  rcases hm.2.form with ⟨_, h0⟩ | ⟨g, rfl, hB, hgl⟩
  · omega
  obtain ⟨u, hu, hc⟩ := hm.2.cell_ hk
  rw [e] at hu
  obtain rfl := Option.some.inj hu
  exact ⟨g, rfl, hx, A', c', hc, hm.1, ho⟩
end
end Go.Proofs.YticofgmmjecleaaGreatDoor
namespace Go.Proofs.YticofgmmjecleaaGreatDoor
open Go.RowKit
/-- What an operation's value is good for, in later worlds too. -/
structure VP where
  p : Value → World → Prop
  st : ∀ v w w', p v w → Below w.heap.size w w' → p v w'
/-- The value is u. -/
def VIs (u : Value) : VP := ⟨fun v _ => v = u, fun _ _ _ h _ => h⟩
/-- Nothing is said. -/
def VAny : VP := ⟨fun _ _ => True, fun _ _ _ h _ => h⟩
/-- The value is the slice of a new block that is just cs. -/
def VBs (E : TypeId) (cs : Array Value) : VP := ⟨fun v w => ∃ g, v = .slice (some ⟨g, 0, none⟩) cs.size cs.size ∧ Blk w g E cs, fun _ _ _ ⟨g, e, h⟩ hb => ⟨g, e, h.below hb h.lt⟩⟩
theorem Rd.lenI {w : World} {A : Option Addr} {n : Nat} {xs : List Int} (h : Rd w A n (ints xs)) : xs.length = n := by have := h.1; rwa [ints_length] at this
theorem rdII_one' {w : World} {g : Nat} {t : TypeId} {A : Option Addr} {n c : Nat} {xs : List Int} (k : Blk w g t #[.slice A n c]) (hx : Rd w A n (ints xs)) (h1 : n ≤ c) : RdII w (some ⟨g, 0, none⟩) 1 [xs] := by
  have e1 : xs.length = n := by have := hx.1; rwa [ints_length] at this
  subst e1
  refine ⟨[.slice A xs.length c], ⟨rfl, fun _ => ⟨g, 0, rfl, fun i u hu => ?_⟩⟩, rfl, fun i hi => ?_⟩
  · match i, hu with
    | 0, hu => simp at hu; subst hu; exact k.cell 0
  · match i, hi with
    | 0, _ => exact ⟨A, c, rfl, hx, h1⟩
def dstOf (ops : Array Oper) (i : Nat) : Option Tmp := (ops[i]?).bind (·.dst)
/-- The frame once those of the first n operations that L tells have been done. -/
def putD (ops : Array Oper) (L : Nat → Bool) (x : Nat → Value) (a0 : Act) : Nat → Act
  | 0 => a0
  | n + 1 => if L n then (putD ops L x a0 n).put (dstOf ops n) (x n) else putD ops L x a0 n
/-- The frame once the first n operations have been done. -/
def putS (ops : Array Oper) (x : Nat → Value) (a0 : Act) (n : Nat) : Act := putD ops (fun _ => true) x a0 n
section
variable {P : Program} {ops : Array Oper} {Q : Exit → Act → World → Prop}
/-- May the first m operations of the region go in the text's order? R: those that each waits for, directly or through others. -/
def tasksOk (ops : Array Oper) (m sz : Nat) (R : List (List Nat)) : Bool :=
  Region.noSelect ops && m ≤ ops.size &&
  (List.range ops.size).all (fun j => match ops[j]? with
    | none => false
    | some o => (R.getD j []).all (fun i => o.after.toList.any fun e => Region.binds .any e && (decide (e.on < j)) && (e.on == i || (R.getD e.on []).contains i)) &&
      if j < m then
        (o.after.toList.all fun e => !Region.binds .any e || decide (e.on < j)) &&
        (match o.dst with
          | none => false
          | some d => decide (d < sz) && (List.range m).all fun i => i == j || dstOf ops i != some d) &&
        (o.looksAt ops).all (fun t => (List.range m).all fun i => dstOf ops i != some t || (R.getD j []).contains i)
      else (List.range m).all fun i => (R.getD j []).contains i)
theorem putD_size (L : Nat → Bool) (x : Nat → Value) (a0 : Act) : ∀ n, (putD ops L x a0 n).tmps.size = a0.tmps.size ∧ (putD ops L x a0 n).defers = a0.defers := by
  intro n
  induction n with
  | zero => exact ⟨rfl, rfl⟩
  | succ n ih =>
    unfold putD
    split
    · cases hd : dstOf ops n with
      | none => exact ih
      | some d => simp [Act.put, ih]
    · exact ih
theorem putD_other (L : Nat → Bool) (x : Nat → Value) (a0 : Act) (t : Tmp) : ∀ n, (∀ i, i < n → dstOf ops i = some t → L i = false) → (putD ops L x a0 n).tmps[t]? = a0.tmps[t]? := by
  intro n
  induction n with
  | zero => intro _; rfl
  | succ n ih =>
    intro h
    have h1 := ih fun i hi => h i (by omega)
    unfold putD
    split
    · rename_i hl
      cases hd : dstOf ops n with
      | none => exact h1
      | some d =>
        have hne : d ≠ t := fun e => by
          have := h n (by omega) (by rw [hd, e])
          rw [hl] at this; cases this
        simp only [Act.put]
        rw [Array.getElem?_setIfInBounds_ne hne]
        exact h1
    · exact h1
theorem putD_at (L : Nat → Bool) (x : Nat → Value) (a0 : Act) (t : Tmp) (i : Nat) (hi : dstOf ops i = some t) (hl : L i = true) (ht : t < a0.tmps.size) :
    ∀ n, i < n → (∀ k, k < n → k ≠ i → dstOf ops k ≠ some t) → (putD ops L x a0 n).tmps[t]? = some (x i) := by
  intro n
  induction n with
  | zero => intro h; omega
  | succ n ih =>
    intro hin hd
    by_cases hni : n = i
    · subst hni
      unfold putD
      rw [if_pos hl, hi]
      simp only [Act.put]
      have := (putD_size (ops := ops) L x a0 n).1
      simp [this, ht]
    · have h1 := ih (by omega) (fun k hk => hd k (by omega))
      unfold putD
      split
      · cases hdn : dstOf ops n with
        | none => exact h1
        | some d =>
          have hne : d ≠ t := fun e => hd n (by omega) hni (by rw [hdn, e])
          simp only [Act.put]
          rw [Array.getElem?_setIfInBounds_ne hne]
          exact h1
      · exact h1
theorem putD_congr (L L' : Nat → Bool) (x x' : Nat → Value) (a0 : Act) : ∀ n, (∀ i, i < n → L i = L' i ∧ (L i = true → x i = x' i)) → putD ops L x a0 n = putD ops L' x' a0 n := by
  intro n
  induction n with
  | zero => intro _; rfl
  | succ n ih =>
    intro h
    have h1 := ih fun i hi => h i (by omega)
    obtain ⟨h2, h3⟩ := h n (by omega)
    unfold putD
    rw [h1, ← h2]
    split
    · rename_i hl; rw [h3 hl]
    · rfl
theorem putD_put (L L' : Nat → Bool) (x x' : Nat → Value) (a0 : Act) (i : Nat) (hL : L i = false) (hL' : L' i = true) (hne : ∀ k, k ≠ i → L k = L' k ∧ x k = x' k) :
    ∀ n, i < n → (∀ d k, k < n → k ≠ i → dstOf ops i = some d → dstOf ops k ≠ some d) → (putD ops L x a0 n).put (dstOf ops i) (x' i) = putD ops L' x' a0 n := by
  intro n
  induction n with
  | zero => intro h; omega
  | succ n ih =>
    intro hin hd
    by_cases hni : n = i
    · subst hni
      unfold putD
      rw [if_neg (by rw [hL]; decide), if_pos hL', putD_congr L L' x x' a0 n (fun k hk => ⟨(hne k (by omega)).1, fun _ => (hne k (by omega)).2⟩)]
    · have h1 := ih (by omega) (fun d k hk => hd d k (by omega))
      obtain ⟨h2, h3⟩ := hne n hni
      unfold putD
      rw [← h2, ← h3]
      split
      · rw [← h1]
        exact Act.put_comm _ _ _ (fun d e1 e2 => hd d n (by omega) hni e2 e1)
      · exact h1
/-- No way out but by a value. -/
def NoWay : Exit → Act → World → Prop := fun _ _ _ => False
theorem NoWay.lets (h : LetsOut NoWay) : False := by obtain ⟨_, _, h⟩ := h; exact h
/-- What operation o does in a frame, it does in another one in which its operands have the same values. -/
theorem wp_move {o : Oper} {a1 a2 : Act} {w : World} {d : Tmp} {R : Value → World → Prop} (he : execOp a2.eval o = execOp a1.eval o) (hd : o.dst = some d) (hs : d < a1.tmps.size)
    (h : o.wp P a1 w (fun a' w' => ∃ v, a'.tmps[d]? = some v ∧ a'.defers = a1.defers ∧ R v w') NoWay) : o.wp P a2 w (fun a' w' => ∃ v, a' = a2.put (some d) v ∧ R v w') Q := by
  have key : ∀ (u : Value) (w' : World), (∃ v, (a1.put (some d) u).tmps[d]? = some v ∧ (a1.put (some d) u).defers = a1.defers ∧ R v w') → ∃ v, a2.put (some d) u = a2.put (some d) v ∧ R v w' := by
    rintro u w' ⟨v, hv, _, hR⟩
    refine ⟨u, rfl, ?_⟩
    simp [Act.put, hs] at hv
    exact hv ▸ hR
  unfold Oper.wp at *
  rw [he]
  generalize (execOp a1.eval o).run P w = r at *
  cases r with
  | ok n w' =>
    cases n <;> simp only [Oper.upon, hd] at h ⊢
    case value u => exact key _ _ h
    case skip => exact key _ _ h
    case defer dd =>
      obtain ⟨v, _, h, _⟩ := h
      have h1 := congrArg List.length h
      simp [Act.put] at h1
    case enter f args =>
      refine Calls.mono h fun e w'' he => ?_
      cases e with
      | returned u => exact key _ _ he
      | panicked c => exact absurd he id
      | outgrown => exact absurd he NoWay.lets
    case row row args => exact Rows.mono h fun u w'' he => key _ _ he
  | halt x w' =>
    cases x <;> simp only [Oper.upon] at h ⊢
    case panic u => exact absurd h id
/-- What is to be shown of operation j. -/
def Ob (P : Program) (ops : Array Oper) (S : World → Prop) (R : List (List Nat)) (V : List VP) (x : Nat → Value) (a0 : Act) (j : Nat) : Prop :=
  ∀ w, S w → (∀ i ∈ R.getD j [], (V.getD i VAny).p (x i) w) →
    wpOp P ops NoWay j (fun a' w' => ∃ v, (∀ d, dstOf ops j = some d → a'.tmps[d]? = some v) ∧ a'.defers = a0.defers ∧ (V.getD j VAny).p v w' ∧ Below w.heap.size w w') (putS ops x a0 j) w
theorem listed_reach {ops : Array Oper} {m sz : Nat} {R : List (List Nat)} (hok : tasksOk ops m sz R = true) (L : Nat → Bool)
    (hL : ∀ (j : Nat) (o : Oper), ops[j]? = some o → L j = true → ∀ e ∈ o.after, Region.binds .any e = true → L e.on = true) :
    ∀ (j : Nat) (o : Oper), ops[j]? = some o → (∀ e ∈ o.after, Region.binds .any e = true → L e.on = true) → ∀ i ∈ R.getD j [], L i = true := by
  intro j
  induction j using Nat.strongRecOn with
  | ind j ih =>
    intro o ho hal i hi
    have hlt : j < ops.size := (Array.getElem?_eq_some_iff.1 ho).1
    unfold tasksOk at hok
    simp only [Bool.and_eq_true] at hok
    have h1 := List.all_eq_true.1 hok.2 j (by simpa using hlt)
    rw [ho] at h1
    simp only [Bool.and_eq_true] at h1
    have h2 := List.all_eq_true.1 h1.1 i hi
    obtain ⟨e, he, hc⟩ := List.any_eq_true.1 h2
    replace he : e ∈ o.after := by simpa using he
    simp only [Bool.and_eq_true, Bool.or_eq_true, decide_eq_true_eq, beq_iff_eq, List.contains_iff_mem] at hc
    obtain ⟨⟨hb, hej⟩, hc⟩ := hc
    have hle := hal e he hb
    rcases hc with rfl | hc
    · exact hle
    · have hes : e.on < ops.size := by omega
      exact ih e.on hej _ (Array.getElem?_eq_getElem hes) (fun e' he' hb' => hL e.on _ (Array.getElem?_eq_getElem hes) hle e' he' hb') i hc
theorem reach_lt {ops : Array Oper} {m sz : Nat} {R : List (List Nat)} (hok : tasksOk ops m sz R = true) : ∀ j, j < ops.size → ∀ i ∈ R.getD j [], i < j := by
  intro j
  induction j using Nat.strongRecOn with
  | ind j ih =>
    intro hlt i hi
    unfold tasksOk at hok
    simp only [Bool.and_eq_true] at hok
    have h1 := List.all_eq_true.1 hok.2 j (by simpa using hlt)
    rw [Array.getElem?_eq_getElem hlt] at h1
    simp only [Bool.and_eq_true] at h1
    have h2 := List.all_eq_true.1 h1.1 i hi
    obtain ⟨e, he, hc⟩ := List.any_eq_true.1 h2
    simp only [Bool.and_eq_true, Bool.or_eq_true, decide_eq_true_eq, beq_iff_eq, List.contains_iff_mem] at hc
    obtain ⟨⟨hb, hej⟩, hc⟩ := hc
    rcases hc with rfl | hc
    · exact hej
    · have := ih e.on hej (by omega) i hc
      omega
theorem tasks_spec {ops : Array Oper} {m sz : Nat} {R : List (List Nat)} (hok : tasksOk ops m sz R = true) :
    m ≤ ops.size ∧ (∀ (j : Nat) (o : Oper), ops[j]? = some o → j < m → (∀ e ∈ o.after, Region.binds .any e = true → e.on < j) ∧ (∃ d, o.dst = some d ∧ d < sz ∧ ∀ i, i < m → i ≠ j → dstOf ops i ≠ some d) ∧
      ∀ t ∈ o.looksAt ops, ∀ i, i < m → dstOf ops i = some t → i ∈ R.getD j []) ∧ (∀ (j : Nat), j < ops.size → m ≤ j → ∀ i, i < m → i ∈ R.getD j []) := by
  unfold tasksOk at hok
  simp only [Bool.and_eq_true, decide_eq_true_eq] at hok
  obtain ⟨⟨_, hm⟩, hall⟩ := hok
  refine ⟨hm, fun j o ho hj => ?_, fun j hlt hj i hi => ?_⟩
  · have hlt : j < ops.size := (Array.getElem?_eq_some_iff.1 ho).1
    have h1 := List.all_eq_true.1 hall j (by simpa using hlt)
    rw [ho] at h1
    simp only [Bool.and_eq_true, if_pos hj] at h1
    obtain ⟨_, ⟨h2, h3⟩, h4⟩ := h1
    refine ⟨fun e he hb => ?_, ?_, fun t ht i hi hd => ?_⟩
    · have := List.all_eq_true.1 h2 e (by simpa using he)
      simpa [hb] using this
    · cases hd : o.dst with
      | none => rw [hd] at h3; cases h3
      | some d =>
        rw [hd] at h3
        simp only [Bool.and_eq_true, decide_eq_true_eq] at h3
        refine ⟨d, rfl, h3.1, fun i hi hne => ?_⟩
        have := List.all_eq_true.1 h3.2 i (by simpa using hi)
        simpa [hne] using this
    · have := List.all_eq_true.1 (List.all_eq_true.1 h4 t ht) i (by simpa using hi)
      simpa [hd] using this
  · have h1 := List.all_eq_true.1 hall j (by simpa using hlt)
    rw [Array.getElem?_eq_getElem hlt] at h1
    simp only [Bool.and_eq_true, if_neg (Nat.not_lt.2 hj)] at h1
    have := List.all_eq_true.1 h1.2 i (by simpa using hi)
    simpa using this
theorem wanted_same {o : Oper} {t1 t2 : Array Value} (h : ∀ t ∈ o.looksAt ops, t1[t]? = t2[t]?) : Region.wanted o (yielded ops t1) = Region.wanted o (yielded ops t2) := by
  unfold Region.wanted
  cases hg : o.guard with
  | none => rfl
  | some gw =>
    obtain ⟨g, want⟩ := gw
    have hy : yielded ops t1 g = yielded ops t2 g := by
      unfold yielded
      cases ht : (ops[g]?).bind (·.dst) with
      | none => rfl
      | some t =>
        have := h t (by simp [Oper.looksAt, hg, ht])
        simp [this]
    simp only [hy]
theorem exec_same {o : Oper} {a1 a2 : Act} (hs : ∀ cs b, o.op ≠ .select cs b) (h : ∀ t ∈ o.looksAt ops, a1.tmps[t]? = a2.tmps[t]?) : execOp a1.eval o = execOp a2.eval o :=
  execOp_congr o hs fun x hx => by
    cases x with
    | tmp t =>
      have := h t (List.mem_append_left _ (List.mem_filterMap.2 ⟨.tmp t, by simpa using hx, rfl⟩))
      simp [Act.eval, this]
    | _ => rfl
theorem min_mem : ∀ (U : List Nat), U ≠ [] → ∃ i ∈ U, ∀ k ∈ U, i ≤ k
  | [], h => absurd rfl h
  | [i], _ => ⟨i, by simp, by simp⟩
  | i :: j :: r, _ => by
    obtain ⟨k, hk, hmin⟩ := min_mem (j :: r) (by simp)
    by_cases h : i ≤ k
    · exact ⟨i, by simp, fun l hl => by
        rcases List.mem_cons.1 hl with rfl | hl
        · exact Nat.le_refl _
        · exact Nat.le_trans h (hmin l hl)⟩
    · exact ⟨k, List.mem_cons_of_mem _ hk, fun l hl => by
        rcases List.mem_cons.1 hl with rfl | hl
        · omega
        · exact hmin l hl⟩
/-- The first m of n have been listed. -/
def listedTo (n m : Nat) : Array Bool := ((List.range n).map fun i => decide (i < m)).toArray
theorem tasks_go {m : Nat} {R : List (List Nat)} {V : List VP} {S : World → Prop} {a0 : Act} (hok : tasksOk ops m a0.tmps.size R = true)
    (hSt : ∀ w w', S w → Below w.heap.size w w' → S w') (hob : ∀ x j, j < m → Ob P ops S R V x a0 j)
    (hend : ∀ x w', S w' → (∀ i, i < m → (V.getD i VAny).p (x i) w') → wpAny P .any ops Q (ops.size - m) (listedTo ops.size m) (putS ops x a0 m) w') :
    ∀ (c : Nat) (U : List Nat) (listed : Array Bool) (w : World) (x : Nat → Value), U.length = c → U.Nodup → (∀ i, i ∈ U ↔ i < m ∧ listed.getD i false = false) → listed.size = ops.size →
      (∀ i, m ≤ i → i < ops.size → listed.getD i false = false) → (∀ (j : Nat) (o : Oper), ops[j]? = some o → listed.getD j false = true → ∀ e ∈ o.after, Region.binds .any e = true → listed.getD e.on false = true) →
      S w → (∀ i, i < m → listed.getD i false = true → (V.getD i VAny).p (x i) w) → wpAny P .any ops Q (ops.size - m + c) listed (putD ops (fun i => listed.getD i false) x a0 m) w := by
  obtain ⟨hmn, hspec, htail⟩ := tasks_spec hok
  have hsel : Region.noSelect ops = true := by unfold tasksOk at hok; simp only [Bool.and_eq_true] at hok; exact hok.1.1
  intro c
  induction c with
  | zero =>
    intro U listed w x hU hnd hmem hsz hun hcl hS hV
    obtain rfl : U = [] := List.eq_nil_of_length_eq_zero hU
    have hall : ∀ i, i < m → listed.getD i false = true := fun i hi => by
      cases h : listed.getD i false
      · exact absurd ((hmem i).2 ⟨hi, h⟩) (by simp)
      · rfl
    have hl : listed = listedTo ops.size m := by
      apply Array.ext
      · simp [listedTo, hsz]
      · intro i h1 h2
        have e : listed.getD i false = listed[i] := by simp [Array.getD, h1]
        by_cases hi : i < m
        · have := hall i hi
          rw [e] at this
          simp [listedTo, this, hi]
        · have := hun i (by omega) (by omega)
          rw [e] at this
          simp [listedTo, this, hi]
    rw [Nat.add_zero, putD_congr (ops := ops) _ (fun _ => true) x x a0 m (fun i hi => ⟨hall i hi, fun _ => rfl⟩), hl]
    exact hend x w hS (fun i hi => hV i hi (hall i hi))
  | succ c ih =>
    intro U listed w x hU hnd hmem hsz hun hcl hS hV
    have hne : U ≠ [] := fun e => by rw [e] at hU; simp at hU
    show (_ → _) ∧ _
    refine ⟨fun hr => ?_, fun i hi => ?_⟩
    · exfalso
      obtain ⟨i, hiU, hmin⟩ := min_mem U hne
      obtain ⟨him, hil⟩ := (hmem i).1 hiU
      have hlt : i < ops.size := by omega
      have : i ∈ Region.ready .any ops listed := mem_ready.2 ⟨by simpa [Array.getD, hsz, hlt] using hil, _, Array.getElem?_eq_getElem hlt, fun e he hb => by
        have hlti := (hspec i _ (Array.getElem?_eq_getElem hlt) him).1 e he hb
        cases h : listed.getD e.on false
        · have := hmin e.on ((hmem _).2 ⟨by omega, h⟩); omega
        · rfl⟩
      rw [hr] at this
      cases this
    · obtain ⟨hil, o, ho, hdeps⟩ := mem_ready.1 hi
      have hlt : i < ops.size := (Array.getElem?_eq_some_iff.1 ho).1
      have hil' : listed.getD i false = false := by simpa [Array.getD, hsz, hlt] using hil
      have hreach := listed_reach hok (fun i => listed.getD i false) hcl i o ho hdeps
      have him : i < m := by
        rcases Nat.lt_or_ge i m with h | h
        · exact h
        · exfalso
          obtain ⟨k, hk⟩ := List.exists_mem_of_ne_nil U hne
          obtain ⟨hkm, hkl⟩ := (hmem k).1 hk
          have := hreach k (htail i hlt h k hkm)
          rw [hkl] at this; cases this
      obtain ⟨_, ⟨d, hd, hdsz, hduniq⟩, hlook⟩ := hspec i o ho him
      have hdst : dstOf ops i = some d := by simp [dstOf, ho, hd]
      have hso : ∀ cs b, o.op ≠ .select cs b := fun cs b => Region.noSelect_spec hsel i o cs b ho
      -- the two frames agree on what o looks at
      have hagree : ∀ t ∈ o.looksAt ops, (putD ops (fun i => listed.getD i false) x a0 m).tmps[t]? = (putS ops x a0 i).tmps[t]? := fun t ht => by
        by_cases hex : ∃ k, k < m ∧ dstOf ops k = some t
        · obtain ⟨k, hkm, hkd⟩ := hex
          have hkR := hlook t ht k hkm hkd
          have hki := reach_lt hok i hlt k hkR
          have hkl := hreach k hkR
          have hks : k < ops.size := by omega
          obtain ⟨_, ⟨d', hd', hdsz', hu'⟩, _⟩ := hspec k _ (Array.getElem?_eq_getElem hks) hkm
          have htd : d' = t := by
            have : dstOf ops k = some d' := by simp [dstOf, Array.getElem?_eq_getElem hks, hd']
            rw [hkd] at this; injection this with this; exact this.symm
          rw [putD_at _ _ _ _ k hkd hkl (htd ▸ hdsz') m hkm (fun l hl hlk => htd ▸ hu' l hl hlk)]
          unfold putS
          rw [putD_at _ _ _ _ k hkd rfl (htd ▸ hdsz') i hki (fun l hl hlk => htd ▸ hu' l (by omega) hlk)]
        · rw [putD_other _ _ _ _ m (fun k hk hkd => absurd ⟨k, hk, hkd⟩ hex)]
          unfold putS
          rw [putD_other _ _ _ _ i (fun k hk hkd => absurd ⟨k, by omega, hkd⟩ hex)]
      have hob' := hob x i him w hS (fun k hk => hV k (by have := reach_lt hok i hlt k hk; omega) (hreach k hk))
      have hsz1 := putD_size (ops := ops) (fun _ => true) x a0 i
      -- what comes behind
      have next : ∀ v w', (V.getD i VAny).p v w' → Below w.heap.size w w' → wpAny P .any ops Q (ops.size - m + c) (listed.setIfInBounds i true) ((putD ops (fun i => listed.getD i false) x a0 m).put (some d) v) w' := fun v w' hv hb => by
        have hput := putD_put (ops := ops) (fun k => listed.getD k false) (fun k => (listed.setIfInBounds i true).getD k false) x (fun k => if k = i then v else x k) a0 i hil'
          (by simp [hsz, hlt]) (fun k hk => ⟨by rw [getD_set_ne _ (Ne.symm hk)], by simp [hk]⟩) m him
          (fun d' k hk hki hd' => by rw [hdst] at hd'; injection hd' with hd'; exact hd' ▸ hduniq k hk hki)
        simp only [if_true] at hput
        rw [← hdst, hput]
        refine ih (U.erase i) _ _ _ ?_ (hnd.erase _) (fun k => ?_) (by simpa using hsz) (fun k h1 h2 => ?_) (fun j oj hoj hj e he hb' => ?_) (hSt _ _ hS hb) (fun k hk hkl => ?_)
        · rw [List.length_erase_of_mem ((hmem i).2 ⟨him, hil'⟩), hU]; rfl
        · rw [hnd.mem_erase_iff, hmem]
          by_cases hk : k = i
          · subst hk; simp [hsz, hlt]
          · rw [getD_set_ne _ (Ne.symm hk)]; simp [hk]
        · rw [getD_set_ne _ (by omega)]; exact hun k h1 h2
        · by_cases hji : j = i
          · subst hji
            rw [ho] at hoj; injection hoj with hoj; subst hoj
            exact getD_set_true (hdeps e he hb')
          · rw [getD_set_ne _ (Ne.symm hji)] at hj
            exact getD_set_true (hcl j oj hoj hj e he hb')
        · by_cases hki : k = i
          · subst hki; simpa using hv
          · rw [getD_set_ne _ (Ne.symm hki)] at hkl
            simp only [hki, if_false]
            exact (V.getD k VAny).st _ _ _ (hV k hk hkl) hb
      unfold wpOp at hob' ⊢
      simp only [ho] at hob' ⊢
      rw [wanted_same hagree]
      split
      · rename_i hw
        rw [if_pos hw] at hob'
        rcases hob' with h | ⟨_, h⟩
        case inr => exact absurd h NoWay.lets
        refine .inl (Oper.wp_mono ?_ (wp_move (Q := Q) (d := d) (R := fun v w' => (V.getD i VAny).p v w' ∧ Below w.heap.size w w') (exec_same hso hagree) hd (by unfold putS; rw [hsz1.1]; exact hdsz)
          (Oper.wp_mono (fun a' w' ⟨v, h1, h2, h3, h4⟩ => ⟨v, h1 d hdst, by unfold putS; rw [hsz1.2]; exact h2, h3, h4⟩) h)))
        rintro a' w' ⟨v, rfl, hv, hb⟩
        exact next v w' hv hb
      · rename_i hw
        rw [if_neg hw] at hob'
        obtain ⟨v, h1, _, h3, h4⟩ := hob'
        have hvu : v = undef := by
          have := h1 d hdst
          rw [hd] at this
          simp [Act.put, putS, hsz1.1, hdsz] at this
          exact this.symm
        rw [hd]
        exact next undef w (hvu ▸ h3) h4
/-- **A region that draws its order**: each of its first m operations is shown once; what is left behind them goes on. -/
theorem wp_tasks {id m : Nat} (R : List (List Nat)) (V : List VP) (S : World → Prop) {a0 : Act} {w : World} (hm : P.follows .mixedOrders = true) (hok : tasksOk ops m a0.tmps.size R = true)
    (hS0 : S w.drew) (hSt : ∀ w w', S w → Below w.heap.size w w' → S w') (hob : ∀ x j, j < m → Ob P ops S R V x a0 j)
    (hend : ∀ x w', S w' → (∀ i, i < m → (V.getD i VAny).p (x i) w') → wpAny P .any ops Q (ops.size - m) (listedTo ops.size m) (putS ops x a0 m) w') : (Code.region id ops true).wp P Q a0 w := by
  have hmn := (tasks_spec hok).1
  have hf : ∀ i, (Array.replicate ops.size false).getD i false = false := fun i => by simp [Array.getD]
  have h := tasks_go (Q := Q) hok hSt hob hend m (List.range m) (Array.replicate ops.size false) w.drew (fun _ => undef) (by simp) List.nodup_range (fun i => by rw [hf]; simp) (by simp) (fun i _ _ => hf i) (fun j o _ hj => by rw [hf] at hj; cases hj) hS0
    (fun i _ hi => by rw [hf] at hi; cases hi)
  refine wp_region_any hm ?_
  rw [show ops.size - m + m = ops.size by omega, putD_congr (ops := ops) _ (fun _ => false) _ (fun _ => undef) a0 m (fun i _ => ⟨hf i, fun _ => rfl⟩)] at h
  have e : ∀ n, putD ops (fun _ => false) (fun _ => undef) a0 n = a0 := fun n => by
    induction n with
    | zero => rfl
    | succ n ih => unfold putD; simpa using ih
  rw [e] at h
  exact h
/-- What is to be shown, operation by operation, in the text's order; the frame goes along. -/
def Obs (P : Program) (ops : Array Oper) (Q : Exit → Act → World → Prop) (S : World → Prop) (R : List (List Nat)) (V : List VP) (x : Nat → Value) : Nat → Nat → Act → Prop
  | 0, j, a => ∀ w, S w → (∀ i, i < j → (V.getD i VAny).p (x i) w) → wpAny P .any ops Q (ops.size - j) (listedTo ops.size j) a w
  | r + 1, j, a => (∀ w, S w → (∀ i ∈ R.getD j [], (V.getD i VAny).p (x i) w) →
      wpOp P ops NoWay j (fun a' w' => ∃ v, (∀ d, dstOf ops j = some d → a'.tmps[d]? = some v) ∧ a'.defers = a.defers ∧ (V.getD j VAny).p v w' ∧ Below w.heap.size w w') a w) ∧
    Obs P ops Q S R V x r (j + 1) (a.put (dstOf ops j) (x j))
theorem obs_all {S : World → Prop} {R : List (List Nat)} {V : List VP} {x : Nat → Value} {a0 : Act} : ∀ (r j : Nat), Obs P ops Q S R V x r j (putS ops x a0 j) →
    (∀ k, j ≤ k → k < j + r → Ob P ops S R V x a0 k) ∧ ∀ w, S w → (∀ i, i < j + r → (V.getD i VAny).p (x i) w) → wpAny P .any ops Q (ops.size - (j + r)) (listedTo ops.size (j + r)) (putS ops x a0 (j + r)) w := by
  intro r
  induction r with
  | zero => intro j h; exact ⟨fun k h1 h2 => by omega, h⟩
  | succ r ih =>
    intro j h
    obtain ⟨h1, h2⟩ := h
    have h2' : Obs P ops Q S R V x r (j + 1) (putS ops x a0 (j + 1)) := h2
    obtain ⟨h3, h4⟩ := ih (j + 1) h2'
    refine ⟨fun k hk1 hk2 => ?_, by rw [show j + (r + 1) = j + 1 + r by omega]; exact h4⟩
    by_cases hk : k = j
    · subst hk
      intro w hS hV
      have h := h1 w hS hV
      rw [show (putS ops x a0 k).defers = a0.defers from (putD_size _ _ _ _).2] at h
      exact h
    · exact h3 k (by omega) (by omega)
theorem wp_obs {id : Nat} (m : Nat) (R : List (List Nat)) (V : List VP) (S : World → Prop) {a0 : Act} {w : World} (hm : P.follows .mixedOrders = true) (hok : tasksOk ops m a0.tmps.size R = true)
    (hSt : ∀ w w', S w → Below w.heap.size w w' → S w') (hS0 : S w.drew) (h : ∀ x, Obs P ops Q S R V x m 0 a0) : (Code.region id ops true).wp P Q a0 w :=
  wp_tasks (m := m) R V S hm hok hS0 hSt (fun x j hj => (obs_all m 0 (h x)).1 j (by omega) (by omega)) (fun x w' hS hV => by
    have := (obs_all m 0 (h x)).2 w' hS (by rw [Nat.zero_add]; exact hV)
    rwa [Nat.zero_add] at this)
theorem obs_step {S : World → Prop} {R : List (List Nat)} {V : List VP} {x : Nat → Value} {r j : Nat} {a : Act} {o : Oper} {d : Tmp} (ho : ops[j]? = some o) (hd : o.dst = some d)
    (h : ∀ w, S w → (∀ i ∈ R.getD j [], (V.getD i VAny).p (x i) w) → ∀ K : Act → World → Prop, Shut (∀ a' w' v, a'.tmps[d]? = some v → a'.defers = a.defers → (V.getD j VAny).p v w' → Below w.heap.size w w' → K a' w') →
      if Region.wanted o (yielded ops a.tmps) = true then Oper.wp P o a w K NoWay else K (a.put o.dst undef) w)
    (hr : Obs P ops Q S R V x r (j + 1) { a with tmps := a.tmps.setIfInBounds d (x j) }) : Obs P ops Q S R V x (r + 1) j a := by
  have hdst : dstOf ops j = some d := by simp [dstOf, ho, hd]
  refine ⟨fun w hS hV => wpOp_step ho (fun K hK => ?_), by rw [hdst]; exact hr⟩
  exact h w hS hV K (fun a' w' v h1 h2 h3 h4 => hK a' w' ⟨v, fun d' hd' => by rw [hdst] at hd'; injection hd' with hd'; exact hd' ▸ h1, h2, h3, h4⟩)
theorem any_one {fuel j : Nat} {listed : Array Bool} {a : Act} {w : World} {o : Oper} (hr : Region.ready .any ops listed = [j]) (ho : ops[j]? = some o)
    (h : ∀ K : Act → World → Prop, Shut (∀ a w, wpAny P .any ops Q fuel (listed.setIfInBounds j true) a w → K a w) → if Region.wanted o (yielded ops a.tmps) = true then Oper.wp P o a w K Q else K (a.put o.dst undef) w) :
    wpAny P .any ops Q (fuel + 1) listed a w :=
  wpAny_all hr (by simp) (fun i hi => by
    obtain rfl : i = j := by simpa using hi
    exact wpOp_step ho (fun K hK => h K hK))
end
end Go.Proofs.YticofgmmjecleaaGreatDoor
namespace Go.Proofs.YticofgmmjecleaaGreatDoor
open Go.RowKit
set_option maxHeartbeats 400000 in
set_option maxRecDepth 8000 in
theorem dim_any (P : Int) (A : Option Addr) (n c : Nat) (w : World) :
    Calls Tryz.prog 78 #[.agg #[.int .i64 P, .slice A n c]] w fun e w' => e = .returned (.int .i64 n) ∧ Below w.heap.size w w' := by
  go_enter Tryz.func78, Tryz.ntmps78
  go_wp2
  go_ret
  exact ⟨rfl, (Below.refl _ _).alloc (Nat.le_refl _) _⟩
set_option maxHeartbeats 400000 in
set_option maxRecDepth 8000 in
theorem field_any (P : Int) (A : Option Addr) (n c : Nat) (w : World) :
    Calls Tryz.prog 56 #[.agg #[.int .i64 P, .slice A n c]] w fun e w' => e = .returned (.int .i64 P) ∧ Below w.heap.size w w' := by
  go_enter Tryz.func56, Tryz.ntmps56
  go_wp2
  go_ret
  exact ⟨rfl, (Below.refl _ _).alloc (Nat.le_refl _) _⟩
set_option maxHeartbeats 400000 in
set_option maxRecDepth 8000 in
theorem length_any (A : Option Addr) (n c : Nat) (w : World) :
    Calls Tryz.prog 90 #[.slice A n c] w fun e w' => e = .returned (.int .i64 n) ∧ w = w' := by
  go_enter Tryz.func90, Tryz.ntmps90
  go_wp2
  go_ret
  exact ⟨rfl, rfl⟩
def inR (n lo hi : Int) : Bool := decide (lo ≤ n) && decide (n ≤ hi)
set_option maxHeartbeats 400000 in
set_option maxRecDepth 8000 in
theorem inRange_any (n lo hi : Int) (w : World) :
    Calls Tryz.prog 77 #[.int .i64 n, .int .i64 lo, .int .i64 hi] w fun e w' => e = .returned (.bool (inR n lo hi)) ∧ w = w' := by
  by_cases h : lo ≤ n
  · go_enter Tryz.func77, Tryz.ntmps77
    go_wp2
    go_ret
    exact ⟨ret_bool (by simp [inR, h]), rfl⟩
  · go_enter Tryz.func77, Tryz.ntmps77
    go_wp2
    go_ret
    exact ⟨ret_bool (by simp [inR]; omega), rfl⟩
def isP (p : Int) : Bool := (p == 3) || (p == 5) || (p == 7) || (p == 11) || (p == 13)
set_option maxHeartbeats 400000 in
set_option maxRecDepth 8000 in
theorem IsPrime_any (p : Int) (w : World) :
    Calls Tryz.prog 89 #[.int .i64 p] w fun e w' => e = .returned (.bool (isP p)) ∧ w = w' := by
  go_enter Tryz.func89, Tryz.ntmps89
  go_wp2
  all_goals go_ret
  all_goals exact ⟨ret_bool (by simp [isP, *]), rfl⟩
theorem inRange_b {b : Bool} (n lo hi : Int) (w : World) (h : inR n lo hi = b) :
    Calls Tryz.prog 77 #[.int .i64 n, .int .i64 lo, .int .i64 hi] w fun e w' => e = .returned (.bool b) ∧ w = w' := h ▸ inRange_any n lo hi w
theorem IsPrime_b {b : Bool} (p : Int) (w : World) (h : isP p = b) :
    Calls Tryz.prog 89 #[.int .i64 p] w fun e w' => e = .returned (.bool b) ∧ w = w' := h ▸ IsPrime_any p w
/-- All numbers of a list are from 0 to p - 1. -/
def nums (p : Int) (xs : List Int) : Bool := xs.all fun x => inR x 0 (p - 1)
theorem nums_take (p : Int) (xs : List Int) (k : Nat) (h : k < xs.length) (ht : nums p (xs.take k) = true) (hi : inR xs[k] 0 (p - 1) = true) : nums p (xs.take (k + 1)) = true := by
  unfold nums at *
  rw [List.take_succ_eq_append_getElem h, List.all_append, ht]
  simp [hi]
theorem nums_bad (p : Int) (xs : List Int) (k : Nat) (h : k < xs.length) (hi : inR xs[k] 0 (p - 1) = false) : nums p xs = false := by
  unfold nums
  rw [List.all_eq_false]
  exact ⟨xs[k], List.getElem_mem h, by simp [hi]⟩
set_option maxHeartbeats 400000 in
set_option maxRecDepth 8000 in
theorem is_any (p : Int) (A : Option Addr) (n c : Nat) (xs : List Int) (w : World) (hp : 0 < p) (hp2 : p ≤ 100) (hn : n ≤ 1099511627776) (ha : Rd w A n (ints xs)) :
    Calls Tryz.prog 91 #[.int .i64 p, .slice A n c] w fun e w' => e = .returned (.bool (nums p xs)) ∧ w = w' := by
  have hxl : xs.length = n := by have := ha.1; rwa [ints_length] at this
  have Hx := Lib.hid hxl; clear hxl
  go_enter Tryz.func91, Tryz.ntmps91
  go_wp2
  go_loop [9] (fun i => ∃ k : Nat, k ≤ n ∧ i = .int .i64 k ∧ nums p (xs.take k) = true) (fun i => n - (intOf i).toNat)
  case atStart => exact ⟨0, by omega, rfl, by simp [nums]⟩
  case round =>
    obtain ⟨k, hk, rfl, ht⟩ := hrel
    have H := Lib.hid ht; clear ht
    by_cases hlt : k < n
    · obtain ⟨g, o, rfl, hx, hcx⟩ := ha.int hlt
      clear ha
      cases hi : inR xs[k] 0 (p - 1)
      all_goals
        have HI := Lib.hid hi; clear hi
        go_wp2_with (go_at_call 77; refine (inRange_any _ _ _ _).mono ?_; rintro e w' ⟨rfl, rfl⟩; rw [HI.out])
      · go_ret
        exact ⟨ret_bool (nums_bad p xs k hx HI.out).symm, rfl⟩
      · go_round
        case rel => exact ⟨k + 1, by omega, by go_num, nums_take p xs k hx H.out HI.out⟩
        case measure => simp [intOf]; omega
    · go_wp2
      go_ret
      have := H.out
      rw [List.take_of_length_le (by rw [Hx.out]; omega)] at this
      exact ⟨ret_bool this.symm, rfl⟩
/-- Is it a space? -/
def isSp (P : Int) (xs : List Int) : Bool := isP P && inR xs.length 1 6 && nums P xs
theorem isP_pos {p : Int} (h : isP p = true) : 0 < p ∧ p ≤ 13 := by
  simp [isP] at h; omega
set_option maxHeartbeats 800000 in
set_option maxRecDepth 8000 in
theorem IsSpace_any (P : Int) (A : Option Addr) (n c : Nat) (xs : List Int) (w : World) (hn : n ≤ 1099511627776) (ha : Rd w A n (ints xs)) :
    Calls Tryz.prog 49 #[.agg #[.int .i64 P, .slice A n c]] w fun e w' => e = .returned (.bool (isSp P xs)) ∧ Below w.heap.size w w' := by
  have hxl : xs.length = n := by have := ha.1; rwa [ints_length] at this
  have Hx := Lib.hid hxl; clear hxl
  cases h1 : isP P
  · have H1 := Lib.hid h1; clear h1
    go_enter Tryz.func49, Tryz.ntmps49
    go_wp2
    go_quiet ((go_at_call 89; exact quiet_left' (IsPrime_b _ _ H1.out)))
    go_wp2
    go_ret
    exact ⟨ret_bool (by simp [isSp, H1.out]), below_drewN ((Below.refl _ _).alloc (Nat.le_refl _) _) _⟩
  · cases h2 : inR n 1 6
    · have H1 := Lib.hid h1
      have H2 := Lib.hid h2; clear h1 h2
      go_enter Tryz.func49, Tryz.ntmps49
      go_wp2
      go_quiet ((first | (go_at_call 89; exact quiet_left' (IsPrime_b _ _ H1.out)) | (go_at_call 90; exact quiet_left' (length_any _ _ _ _)) | (go_at_call 77; exact quiet_left' (inRange_b _ _ _ _ H2.out))))
      go_wp2
      go_ret
      exact ⟨ret_bool (by simp [isSp, H1.out, H2.out, Hx.out]), below_drewN ((Below.refl _ _).alloc (Nat.le_refl _) _) _⟩
    · have H1 := Lib.hid h1
      have H2 := Lib.hid h2
      obtain ⟨hp0, hp1⟩ := isP_pos h1
      clear h1 h2
      go_enter Tryz.func49, Tryz.ntmps49
      go_wp2
      go_region_held3 (fun w' => w'.cell? ⟨w.heap.size, 0, none⟩ = some (.int .i64 P) ∧ w'.cell? ⟨w.heap.size, 1, none⟩ = some (.slice A n c) ∧ Below w.heap.size w w')
        (first | exact keepB2 (by assumption) hb (Nat.le_refl _) | (refine ⟨?_, ?_, ((Below.refl _ _).alloc (Nat.le_refl _) _).drew⟩ <;> go_keep) | go_keep)
        (first
          | (go_at_call 89; refine (IsPrime_b _ _ H1.out).mono ?_; rintro e w' ⟨rfl, rfl⟩)
          | (go_at_call 90; refine (length_any _ _ _ _).mono ?_; rintro e w' ⟨rfl, rfl⟩)
          | (go_at_call 77; refine (inRange_b _ _ _ _ H2.out).mono ?_; rintro e w' ⟨rfl, rfl⟩)
          | (go_at_call 56; refine (field_any _ _ _ _ _).mono ?_; rintro e w' ⟨rfl, hb⟩)
          | (go_at_call 91; refine (is_any _ _ _ _ _ _ hp0 (by omega) hn (ha.below (by have := ‹_ ∧ _ ∧ Below _ _ _›; exact this.2.2))).mono ?_; rintro e w' ⟨rfl, rfl⟩))
      obtain ⟨_, _, hB⟩ := (by assumption : _ ∧ _ ∧ Below w.heap.size w w')
      go_wp2
      go_ret
      exact ⟨ret_bool (by simp [isSp, H1.out, H2.out, Hx.out]), hB⟩
end Go.Proofs.YticofgmmjecleaaGreatDoor
namespace Go.Proofs.YticofgmmjecleaaGreatDoor
/-- The number of bits of a mask. -/
def pc : Nat → Nat
  | 0 => 0
  | n + 1 => (n + 1) % 2 + pc ((n + 1) / 2)
theorem pc_rec (n : Nat) : pc n = n % 2 + pc (n / 2) := by
  cases n with
  | zero => simp [pc]
  | succ n => rw [pc]
theorem pc_le (k : Nat) : ∀ n, n < 2 ^ k → pc n ≤ k := by
  induction k with
  | zero =>
    intro n h
    obtain rfl : n = 0 := by omega
    simp [pc]
  | succ k ih =>
    intro n h
    rw [pc_rec]
    have := ih (n / 2) (by rw [Nat.pow_succ] at h; omega)
    omega
/-- Bit i of a mask. -/
def bit (a i : Nat) : Nat := a / 2 ^ i % 2
/-- How often the vectors of a that come after the first i of b are passed. -/
def swaps (a b : Nat) : Nat → Nat
  | 0 => 0
  | i + 1 => swaps a b i + (if bit b i = 1 then pc (a / 2 ^ (i + 1)) else 0)
/-- The product of the first i squares that both masks have. -/
def common (p : Int) (sq : List Int) (a b : Nat) : Nat → Int
  | 0 => 1
  | i + 1 => if bit b i = 1 ∧ bit a i = 1 then (common p sq a b i * sq.getD i 0) % p else common p sq a b i
/-- The number by which the product of two blades is that of their different bits. -/
def fac (p : Int) (sq : List Int) (a b : Nat) : Int :=
  if swaps a b sq.length % 2 = 1 then (-(common p sq a b sq.length)) % p else common p sq a b sq.length
theorem common_bound (p : Int) (sq : List Int) (a b : Nat) (hp : 2 ≤ p) : ∀ i, 0 ≤ common p sq a b i ∧ common p sq a b i < p := by
  intro i
  induction i with
  | zero => simp only [common]; omega
  | succ i ih =>
    simp only [common]
    split
    · exact ⟨Int.emod_nonneg _ (by omega), Int.emod_lt_of_pos _ (by omega)⟩
    · exact ih
theorem fac_bound (p : Int) (sq : List Int) (a b : Nat) (hp : 2 ≤ p) : 0 ≤ fac p sq a b ∧ fac p sq a b < p := by
  unfold fac
  split
  · exact ⟨Int.emod_nonneg _ (by omega), Int.emod_lt_of_pos _ (by omega)⟩
  · exact common_bound p sq a b hp _
/-- One pair of blades of a product, added. -/
def addPair (p : Int) (sq : List Int) (takes : Nat → Nat → Bool) (x y : List Int) (a : Nat) (out : List Int) (b : Nat) : List Int :=
  if x.getD a 0 ≠ 0 ∧ y.getD b 0 ≠ 0 ∧ takes a b = true then out.set (a ^^^ b) ((out.getD (a ^^^ b) 0 + x.getD a 0 * y.getD b 0 * fac p sq a b) % p) else out
/-- The first k pairs of row a, added. -/
def addRow (p : Int) (sq : List Int) (takes : Nat → Nat → Bool) (x y : List Int) (a : Nat) (out : List Int) (k : Nat) : List Int := (List.range k).foldl (addPair p sq takes x y a) out
/-- The first k rows, added. -/
def addRows (p : Int) (sq : List Int) (takes : Nat → Nat → Bool) (x y : List Int) (out : List Int) (k : Nat) : List Int := (List.range k).foldl (fun o a => addRow p sq takes x y a o y.length) out
/-- The sum of the products of the pairs of blades that a function takes. -/
def prodL (p : Int) (sq : List Int) (takes : Nat → Nat → Bool) (x y : List Int) : List Int := addRows p sq takes x y (List.replicate x.length 0) x.length
theorem addRow_succ (p : Int) (sq : List Int) (takes : Nat → Nat → Bool) (x y : List Int) (a : Nat) (out : List Int) (k : Nat) :
    addRow p sq takes x y a out (k + 1) = addPair p sq takes x y a (addRow p sq takes x y a out k) k := by
  simp [addRow, List.range_succ]
theorem addRows_succ (p : Int) (sq : List Int) (takes : Nat → Nat → Bool) (x y : List Int) (out : List Int) (k : Nat) :
    addRows p sq takes x y out (k + 1) = addRow p sq takes x y k (addRows p sq takes x y out k) y.length := by
  simp [addRows, List.range_succ]
/-- All elements are numbers. -/
def NumsL (p : Int) (xs : List Int) : Prop := ∀ x ∈ xs, 0 ≤ x ∧ x < p
theorem NumsL.getD {p : Int} {xs : List Int} (h : NumsL p xs) (hp : 0 < p) (i : Nat) : 0 ≤ xs.getD i 0 ∧ xs.getD i 0 < p := by
  by_cases hi : i < xs.length
  · rw [List.getD_eq_getElem?_getD, List.getElem?_eq_getElem hi]; exact h _ (List.getElem_mem hi)
  · rw [List.getD_eq_getElem?_getD, List.getElem?_eq_none (by omega)]; exact ⟨Int.le_refl _, hp⟩
theorem NumsL.set {p : Int} {xs : List Int} (h : NumsL p xs) (i : Nat) {v : Int} (hv : 0 ≤ v ∧ v < p) : NumsL p (xs.set i v) := fun x hx => by
  rcases List.mem_or_eq_of_mem_set hx with h1 | h1
  · exact h x h1
  · exact h1 ▸ hv
theorem NumsL.replicate {p : Int} (hp : 0 < p) (n : Nat) : NumsL p (List.replicate n 0) := fun x hx => by
  rw [(List.mem_replicate.1 hx).2]; exact ⟨Int.le_refl _, hp⟩
theorem addPair_len (p : Int) (sq : List Int) (takes : Nat → Nat → Bool) (x y : List Int) (a : Nat) (out : List Int) (b : Nat) : (addPair p sq takes x y a out b).length = out.length := by
  unfold addPair; split <;> simp
theorem addRow_len (p : Int) (sq : List Int) (takes : Nat → Nat → Bool) (x y : List Int) (a : Nat) (out : List Int) (k : Nat) : (addRow p sq takes x y a out k).length = out.length := by
  induction k with
  | zero => simp [addRow]
  | succ k ih => rw [addRow_succ, addPair_len, ih]
theorem addRows_len (p : Int) (sq : List Int) (takes : Nat → Nat → Bool) (x y : List Int) (out : List Int) (k : Nat) : (addRows p sq takes x y out k).length = out.length := by
  induction k with
  | zero => simp [addRows]
  | succ k ih => rw [addRows_succ, addRow_len, ih]
theorem prodL_len (p : Int) (sq : List Int) (takes : Nat → Nat → Bool) (x y : List Int) : (prodL p sq takes x y).length = x.length := by
  unfold prodL; rw [addRows_len]; simp
theorem addPair_nums {p : Int} (sq : List Int) (takes : Nat → Nat → Bool) (x y : List Int) (a : Nat) {out : List Int} (b : Nat) (hp : 0 < p) (h : NumsL p out) : NumsL p (addPair p sq takes x y a out b) := by
  unfold addPair
  split
  · exact h.set _ ⟨Int.emod_nonneg _ (by omega), Int.emod_lt_of_pos _ hp⟩
  · exact h
theorem addRow_nums {p : Int} (sq : List Int) (takes : Nat → Nat → Bool) (x y : List Int) (a : Nat) {out : List Int} (k : Nat) (hp : 0 < p) (h : NumsL p out) : NumsL p (addRow p sq takes x y a out k) := by
  induction k with
  | zero => simpa [addRow] using h
  | succ k ih => rw [addRow_succ]; exact addPair_nums sq takes x y a k hp ih
theorem addRows_nums {p : Int} (sq : List Int) (takes : Nat → Nat → Bool) (x y : List Int) {out : List Int} (k : Nat) (hp : 0 < p) (h : NumsL p out) : NumsL p (addRows p sq takes x y out k) := by
  induction k with
  | zero => simpa [addRows] using h
  | succ k ih => rw [addRows_succ]; exact addRow_nums sq takes x y k _ hp ih
theorem prodL_nums {p : Int} (sq : List Int) (takes : Nat → Nat → Bool) (x y : List Int) (hp : 0 < p) : NumsL p (prodL p sq takes x y) := addRows_nums sq takes x y _ hp (NumsL.replicate hp _)
/-- A row a whose number is 0 adds nothing. -/
theorem addRow_zero (p : Int) (sq : List Int) (takes : Nat → Nat → Bool) (x y : List Int) (a : Nat) (out : List Int) (k : Nat) (h : x.getD a 0 = 0) : addRow p sq takes x y a out k = out := by
  induction k with
  | zero => simp [addRow]
  | succ k ih => rw [addRow_succ, ih]; unfold addPair; rw [if_neg (fun hh => hh.1 h)]
end Go.Proofs.YticofgmmjecleaaGreatDoor
namespace Go.Proofs.YticofgmmjecleaaGreatDoor
open Go.RowKit
theorem emod_small (a p : Int) (hp : 0 < p) : 0 ≤ a % p ∧ a % p < p := ⟨Int.emod_nonneg _ (by omega), Int.emod_lt_of_pos _ hp⟩
theorem mul_small {a b m n : Int} (ha : 0 ≤ a) (ha2 : a ≤ m) (hb : 0 ≤ b) (hb2 : b ≤ n) : 0 ≤ a * b ∧ a * b ≤ m * n :=
  ⟨Int.mul_nonneg ha hb, Int.mul_le_mul ha2 hb2 hb (by omega)⟩
theorem wrap_in (n : Int) (h1 : -1000000000000 ≤ n) (h2 : n ≤ 1000000000000) : wrap64 n = n := by unfold wrap64; omega
end Go.Proofs.YticofgmmjecleaaGreatDoor
namespace Go.Proofs.YticofgmmjecleaaGreatDoor
open Go.RowKit
set_option maxHeartbeats 400000 in
set_option maxRecDepth 8000 in
theorem l04Grade_any (x : Nat) (w : World) (hx : x < 64) :
    Calls Tryz.prog 136 #[.int .i64 x] w fun e w' => e = .returned (.int .i64 (pc x)) ∧ w = w' := by
  have hp := pc_le 6 x (by omega)
  have HP := Lib.hid hp; clear hp
  go_enter Tryz.func136, Tryz.ntmps136
  go_wp2
  go_loop [0, 3] (fun m n => ∃ (y k : Nat), y < 64 ∧ k < 100 ∧ m = .int .i64 y ∧ n = .int .i64 k ∧ pc x = k + pc y) (fun m _ => (intOf m).toNat)
  case atStart => exact ⟨x, 0, hx, by omega, rfl, rfl, by omega⟩
  case round =>
    obtain ⟨y, k, hy, hk, rfl, rfl, hpc⟩ := hrel
    rw [pc_rec y] at hpc
    have H := Lib.hid hpc; clear hpc
    by_cases hlt : 0 < y
    · go_wp2
      go_round
      case rel => exact ⟨y / 2, k + y % 2, by omega, by have := H.out; have := HP.out; omega, by go_num, by go_num, by have := H.out; omega⟩
      case measure => simp [intOf]; omega
    · go_wp2
      go_ret
      obtain rfl : y = 0 := by omega
      have := H.out
      simp [pc] at this
      exact ⟨ret_int (by omega), rfl⟩
end Go.Proofs.YticofgmmjecleaaGreatDoor
namespace Go.Proofs.YticofgmmjecleaaGreatDoor
open Go.RowKit
theorem and_bit_all : ∀ k : Nat, k < 6 → ∀ x : Nat, x < 64 → bits BinOp.and IntKind.i64 ((x : Int) / 2 ^ k) 1 = (bit x k : Int) := by decide +kernel
theorem and_bit {x k : Nat} (hk : k < 6) (hx : x < 64) : bits BinOp.and IntKind.i64 ((x : Int) / 2 ^ k) 1 = (bit x k : Int) := and_bit_all k hk x hx
theorem bit_lt (x k : Nat) : bit x k < 2 := Nat.mod_lt _ (by omega)
theorem bit1 {x k : Nat} (hk : k < 6) (hx : x < 64) (h : (bits BinOp.and IntKind.i64 ((x : Int) / 2 ^ k) 1 == 1) = true) : bit x k = 1 := by
  rw [and_bit hk hx] at h; have := beq_iff_eq.1 h; omega
theorem bit0 {x k : Nat} (hk : k < 6) (hx : x < 64) (h : (bits BinOp.and IntKind.i64 ((x : Int) / 2 ^ k) 1 == 1) = false) : ¬ bit x k = 1 := by
  rw [and_bit hk hx] at h; intro hh; rw [hh] at h; simp at h
end Go.Proofs.YticofgmmjecleaaGreatDoor
namespace Go.Proofs.YticofgmmjecleaaGreatDoor
open Go.RowKit
/-- The row i of the unit matrix with n rows. -/
def unitRow (n i : Nat) : List Int := (List.replicate n 0).set i 1
theorem unitRow_len (n k : Nat) : (unitRow n k).length = n := by simp [unitRow]
/-- 2 to the power of n. -/
def pw (n : Nat) : Nat := 2 ^ n
theorem pw_pos (n : Nat) : 1 ≤ pw n := Nat.two_pow_pos n
theorem pw_le {n k : Nat} (h : n ≤ k) : pw n ≤ pw k := Nat.pow_le_pow_right (by omega) h
theorem pw_bound {n : Nat} (h : n ≤ 30) : pw n ≤ 1073741824 := Nat.le_trans (pw_le h) (by decide)
theorem wrap_pw (n : Nat) (h : n ≤ 30) : wrap64 (2 ^ n) = (pw n : Int) := by
  have hb := pw_bound h
  have e : (2 : Int) ^ n = (pw n : Int) := by unfold pw; simp
  rw [e]
  unfold wrap64; omega
set_option maxHeartbeats 400000 in
set_option maxRecDepth 8000 in
theorem nothing_any (P : Int) (A : Option Addr) (n c : Nat) (w : World) (hn : n ≤ 10) :
    Calls Tryz.prog 55 #[.agg #[.int .i64 P, .slice A n c]] w fun e w' => ∃ A' c', e = .returned (.slice A' (pw n) c') ∧ MkI w w' A' (pw n) c' (List.replicate (pw n) 0) := by
  have hp : pw n ≤ 1024 := pw_le hn
  have hmk := make_i (P := Tryz.prog) 22 2 Tryz.underlying22 info_i (pw n) (by omega)
  rw [← wrap_pw n (by omega)] at hmk
  go_enter Tryz.func55, Tryz.ntmps55
  go_wp2_with (go_at_call 78; refine (dim_any _ _ _ _ _).mono ?_; rintro e w1 ⟨rfl, hb1⟩)
  go_ret
  have hb2 := (((Below.refl _ _).alloc (Nat.le_refl _) _).trans (hb1.mono (by simp)))
  exact ⟨_, _, rfl, by have := Mk.made (E := 2) (n := pw n) (z := .int .i64 0) hb2 (by simp only [maxLen]; omega); rwa [ints_replicate] at this⟩
end Go.Proofs.YticofgmmjecleaaGreatDoor
namespace Go.Proofs.YticofgmmjecleaaGreatDoor
open Go.RowKit
theorem xor_all : ∀ x : Nat, x < 64 → ∀ y : Nat, y < 64 → bits BinOp.xor IntKind.i64 (x : Int) (y : Int) = ((x ^^^ y : Nat) : Int) := by decide +kernel
theorem xor_lt {n x y : Nat} (hx : x < pw n) (hy : y < pw n) : x ^^^ y < pw n := Nat.xor_lt_two_pow hx hy
theorem i64_fit (n : Int) (h1 : -1000000000000 ≤ n) (h2 : n ≤ 1000000000000) : IntKind.i64.wrap n = n := by rw [IntWalk.i64_left]; exact wrap_in n h1 h2
/-- A row of numbers of the call's own: place i. -/
theorem mkI_at {w w' : World} {g n c : Nat} {L : List Int} (h : MkI w w' (some ⟨g, 0, none⟩) n c L) {i : Nat} (hi : i < n) : w'.cell? ⟨g, i, none⟩ = some (.int .i64 (L.getD i 0)) ∧ w'.frozen? ⟨g, i, none⟩ = false := by
  have hl : L.length = n := by have := h.2.len; rwa [ints_length] at this
  obtain ⟨g', o, e, hx, hc⟩ := Rd.int h.rd hi
  injection e with e; injection e with e1 e2 _
  subst e1; subst e2
  rw [Nat.zero_add] at hc
  exact ⟨by rw [hc, List.getD_eq_getElem?_getD, List.getElem?_eq_getElem hx]; rfl, h.2.frozen_ i⟩
end Go.Proofs.YticofgmmjecleaaGreatDoor
namespace Go.Proofs.YticofgmmjecleaaGreatDoor
open Go.RowKit
/-- The blade of a mask. -/
def bladeL (n m : Nat) : List Int := (List.replicate (pw n) 0).set m 1
theorem bladeL_len (n m : Nat) : (bladeL n m).length = pw n := by simp [bladeL]
theorem bladeL_nums {p : Int} (hp : 2 ≤ p) (n m : Nat) : NumsL p (bladeL n m) := (NumsL.replicate (by omega) _).set _ ⟨by omega, by omega⟩
/-- The product of two multivectors. -/
def mulL (p : Int) (sq xs ys : List Int) : List Int := prodL p sq (fun _ _ => true) xs ys
/-- A vector as a multivector: its first k places laid. -/
def vecTo (n : Nat) (v : List Int) (k : Nat) : List Int := (List.range k).foldl (fun o i => o.set (2 ^ i) (v.getD i 0)) (List.replicate (pw n) 0)
theorem vecTo_succ (n : Nat) (v : List Int) (k : Nat) : vecTo n v (k + 1) = (vecTo n v k).set (2 ^ k) (v.getD k 0) := by simp [vecTo, List.range_succ]
theorem vecTo_len (n : Nat) (v : List Int) (k : Nat) : (vecTo n v k).length = pw n := by
  induction k with
  | zero => simp [vecTo]
  | succ k ih => rw [vecTo_succ, List.length_set, ih]
theorem vecTo_nums {p : Int} (hp : 0 < p) (n : Nat) (v : List Int) (hv : NumsL p v) (k : Nat) : NumsL p (vecTo n v k) := by
  induction k with
  | zero => simpa [vecTo] using NumsL.replicate hp _
  | succ k ih => rw [vecTo_succ]; exact ih.set _ (hv.getD hp k)
theorem two_lt {n k : Nat} (h : k < n) : 2 ^ k < pw n := Nat.pow_lt_pow_right (by omega) h
end Go.Proofs.YticofgmmjecleaaGreatDoor
namespace Go.Proofs.YticofgmmjecleaaGreatDoor
/-- The list of the values of f from 0 on. -/
def tab {α : Type} (n : Nat) (f : Nat → α) : List α := (List.range n).map f
theorem tab_len {α : Type} (n : Nat) (f : Nat → α) : (tab n f).length = n := by simp [tab]
theorem tab_succ {α : Type} (n : Nat) (f : Nat → α) : tab (n + 1) f = tab n f ++ [f n] := by simp [tab, List.range_succ]
theorem tab_get {α : Type} (n : Nat) (f : Nat → α) (i : Nat) (h : i < (tab n f).length) : (tab n f)[i] = f i := by simp [tab]
theorem tab_getD {α : Type} {n : Nat} {f : Nat → α} {i : Nat} (h : i < n) (d : α) : (tab n f).getD i d = f i := by
  rw [List.getD_eq_getElem?_getD, List.getElem?_eq_getElem (by rw [tab_len]; exact h), tab_get]; rfl
theorem tab_mem {α : Type} {n : Nat} {f : Nat → α} {x : α} (h : x ∈ tab n f) : ∃ i, i < n ∧ x = f i := by
  obtain ⟨i, hi, rfl⟩ := List.mem_map.1 h
  exact ⟨i, by simpa using hi, rfl⟩
theorem list_ext_getD {α : Type} {xs ys : List α} (d : α) (hl : xs.length = ys.length) (h : ∀ i, i < xs.length → xs.getD i d = ys.getD i d) : xs = ys := by
  apply List.ext_getElem hl
  intro i h1 h2
  have := h i h1
  rw [List.getD_eq_getElem?_getD, List.getD_eq_getElem?_getD, List.getElem?_eq_getElem h1, List.getElem?_eq_getElem h2] at this
  exact this
theorem getD_of_lt {α : Type} {xs : List α} {i : Nat} (d : α) (h : i < xs.length) : xs.getD i d = xs[i] := by
  rw [List.getD_eq_getElem?_getD, List.getElem?_eq_getElem h]; rfl
theorem getD_set {α : Type} (xs : List α) (i j : Nat) (v d : α) : (xs.set i v).getD j d = if i = j ∧ i < xs.length then v else xs.getD j d := by
  rw [List.getD_eq_getElem?_getD, List.getD_eq_getElem?_getD, List.getElem?_set]
  by_cases h1 : i = j
  · subst h1
    by_cases h2 : i < xs.length
    · simp [h2]
    · simp [h2]
  · simp [h1]
theorem getD_mem {α : Type} {xs : List α} {i : Nat} (d : α) (h : i < xs.length) : xs.getD i d ∈ xs := by
  rw [getD_of_lt d h]; exact List.getElem_mem h
theorem all_one {α : Type} {q : α → Prop} {x : α} (hx : q x) : ∀ z ∈ [x], q z := fun z hz => by
  rcases List.mem_cons.1 hz with rfl | hz
  · exact hx
  · cases hz
/-- f 0 + .. + f (n - 1). -/
def sumTo : Nat → (Nat → Int) → Int
  | 0, _ => 0
  | n + 1, f => sumTo n f + f n
theorem sumTo_succ (n : Nat) (f : Nat → Int) : sumTo (n + 1) f = sumTo n f + f n := rfl
theorem sumTo_congr {n : Nat} {f g : Nat → Int} (h : ∀ i, i < n → f i = g i) : sumTo n f = sumTo n g := by
  induction n with
  | zero => rfl
  | succ n ih => rw [sumTo_succ, sumTo_succ, ih (fun i hi => h i (by omega)), h n (by omega)]
theorem sumTo_mod (p : Int) {n : Nat} {f g : Nat → Int} (h : ∀ i, i < n → f i % p = g i % p) : sumTo n f % p = sumTo n g % p := by
  induction n with
  | zero => rfl
  | succ n ih =>
    rw [sumTo_succ, sumTo_succ, Int.add_emod, ih (fun i hi => h i (by omega)), h n (by omega), ← Int.add_emod]
/-- A sum whose parts are reduced at each step. -/
theorem sumTo_step (p : Int) (n : Nat) (f : Nat → Int) : (sumTo n f % p + f n) % p = sumTo (n + 1) f % p := by
  rw [sumTo_succ, Int.emod_add_emod]
/-- All rows have n numbers. -/
def Tab (p : Int) (n : Nat) (m : List (List Int)) : Prop := ∀ x ∈ m, x.length = n ∧ NumsL p x
theorem Tab.nil (p : Int) (n : Nat) : Tab p n [] := fun x hx => absurd hx (by simp)
theorem Tab.row {p : Int} {n : Nat} {m : List (List Int)} (h : Tab p n m) {i : Nat} (hi : i < m.length) : (m.getD i []).length = n ∧ NumsL p (m.getD i []) := h _ (getD_mem [] hi)
theorem Tab.set {p : Int} {n : Nat} {m : List (List Int)} (h : Tab p n m) (i : Nat) {x : List Int} (hx : x.length = n ∧ NumsL p x) : Tab p n (m.set i x) := fun y hy => by
  rcases List.mem_or_eq_of_mem_set hy with h1 | h1
  · exact h y h1
  · exact h1 ▸ hx
theorem Tab.append {p : Int} {n : Nat} {m m' : List (List Int)} (h : Tab p n m) (h' : Tab p n m') : Tab p n (m ++ m') := fun y hy => by
  rcases List.mem_append.1 hy with h1 | h1
  · exact h y h1
  · exact h' y h1
theorem Tab.take {p : Int} {n : Nat} {m : List (List Int)} (h : Tab p n m) (k : Nat) : Tab p n (m.take k) := fun y hy => h y (List.mem_of_mem_take hy)
theorem Tab.tab {p : Int} {n k : Nat} {f : Nat → List Int} (h : ∀ i, i < k → (f i).length = n ∧ NumsL p (f i)) : Tab p n (tab k f) := fun y hy => by
  obtain ⟨i, hi, rfl⟩ := tab_mem hy
  exact h i hi
theorem unitRow_nums {p : Int} (hp : 2 ≤ p) (n i : Nat) : NumsL p (unitRow n i) := (NumsL.replicate (by omega) n).set i ⟨by omega, by omega⟩
theorem NumsL.tab {p : Int} {n : Nat} {f : Nat → Int} (h : ∀ i, i < n → 0 ≤ f i ∧ f i < p) : NumsL p (tab n f) := fun y hy => by
  obtain ⟨i, hi, rfl⟩ := tab_mem hy
  exact h i hi
end Go.Proofs.YticofgmmjecleaaGreatDoor
namespace Go.Proofs.YticofgmmjecleaaGreatDoor
open Go.RowKit
theorem isP_ge {p : Int} (h : isP p = true) : 3 ≤ p ∧ p ≤ 13 := by
  simp [isP] at h; omega
end Go.Proofs.YticofgmmjecleaaGreatDoor
namespace Go.Proofs.YticofgmmjecleaaGreatDoor
open Go.RowKit
/-- A number with the sign of s. -/
def sgn (p : Int) (s : Nat) (c : Int) : Int := if s % 2 = 1 then (-c) % p else c
theorem sgn_bound {p : Int} {s : Nat} {c : Int} (hp : 2 ≤ p) (h1 : 0 ≤ c) (h2 : c < p) : 0 ≤ sgn p s c ∧ sgn p s c < p := by
  unfold sgn
  split
  · exact emod_small _ _ (by omega)
  · exact ⟨h1, h2⟩
theorem fac_sgn (p : Int) (sq : List Int) (a b : Nat) : fac p sq a b = sgn p (swaps a b sq.length) (common p sq a b sq.length) := rfl
theorem sgn_flip {p : Int} {s : Nat} {c : Int} (k : Nat) (_hp : 2 ≤ p) (h1 : 0 ≤ c) (h2 : c < p) (hk : k % 2 = 1) : (p - sgn p s c) % p = sgn p (s + k) c := by
  unfold sgn
  by_cases hs : s % 2 = 1
  · rw [if_pos hs, if_neg (by omega)]
    have : (p - -c % p) % p = (p - -c) % p := by rw [Int.sub_emod, Int.emod_emod, ← Int.sub_emod]
    rw [this]
    have : p - -c = c + p := by omega
    rw [this, Int.add_emod_right]
    exact Int.emod_eq_of_lt h1 h2
  · rw [if_neg hs, if_pos (by omega)]
    have : p - c = -c + p := by omega
    rw [this, Int.add_emod_right]
theorem sgn_same {p : Int} {s : Nat} {c : Int} (k : Nat) (hk : ¬ k % 2 = 1) : sgn p (s + k) c = sgn p s c := by
  unfold sgn
  have : (s + k) % 2 = s % 2 := by omega
  rw [this]
theorem neg_mod (x p : Int) : (-(x % p)) % p = (-x) % p := by
  rw [← Int.zero_sub, Int.sub_emod, Int.emod_emod, ← Int.sub_emod, Int.zero_sub]
theorem mod_mul (x q p : Int) : x % p * q % p = x * q % p := by
  rw [Int.mul_emod, Int.emod_emod, ← Int.mul_emod]
theorem sgn_mul (p : Int) (s : Nat) (c q : Int) : sgn p s c * q % p = sgn p s (c * q % p) := by
  unfold sgn
  split
  · rw [mod_mul, neg_mod, Int.neg_mul]
  · rfl
theorem and_bit0 {x k : Nat} (hk : k < 6) (hx : x < 64) : (bits BinOp.and IntKind.i64 ((x : Int) / 2 ^ k) 1 == 0) = !(bit x k == 1) := by
  rw [and_bit hk hx]
  have := bit_lt x k
  rcases (by omega : bit x k = 0 ∨ bit x k = 1) with h | h <;> simp [h]
theorem xor_up_all : ∀ k : Nat, k < 6 → ∀ x : Nat, x < 64 → bits BinOp.xor IntKind.i64 (x : Int) (wrap64 (2 ^ k)) = ((x ^^^ 2 ^ k : Nat) : Int) ∧ (x ^^^ 2 ^ k) < 64 ∧ (x ^^^ 2 ^ k) / 2 ^ (k + 1) = x / 2 ^ (k + 1) := by decide +kernel
theorem shr_nat (x k : Nat) : (x : Int) / 2 ^ k = ((x / 2 ^ k : Nat) : Int) := by simp
theorem up_div {x y k : Nat} (h : x / 2 ^ k = y / 2 ^ k) : x / 2 ^ (k + 1) = y / 2 ^ (k + 1) := by
  rw [Nat.pow_succ, ← Nat.div_div_eq_div_mul, ← Nat.div_div_eq_div_mul, h]
theorem par0 {n : Nat} (h : ((n : Int) % 2 == 1) = false) : ¬ n % 2 = 1 := by
  intro hh
  have : (n : Int) % 2 = 1 := by omega
  rw [this] at h; simp at h
theorem par1 {n : Nat} (h : ((n : Int) % 2 == 1) = true) : n % 2 = 1 := by have := beq_iff_eq.1 h; omega
set_option maxRecDepth 2000 in
set_option maxHeartbeats 1600000 in
set_option maxRecDepth 8000 in
theorem l04Blades_any (P : Int) (A : Option Addr) (n c : Nat) (sq : List Int) (a b : Nat) (w : World) (hp : 2 ≤ P) (hp2 : P ≤ 13) (hn : n ≤ 6) (ha : Rd w A n (ints sq)) (hs : NumsL P sq) (h1 : a < 64) (h2 : b < 64) :
    Calls Tryz.prog 135 #[.agg #[.int .i64 P, .slice A n c], .int .i64 a, .int .i64 b] w fun e w' => e = .returned (.int .i64 (fac P sq a b)) ∧ Below w.heap.size w w' := by
  have hxl : sq.length = n := by have := ha.1; rwa [ints_length] at this
  have Hx := Lib.hid hxl; clear hxl
  go_enter Tryz.func135, Tryz.ntmps135
  go_wp2
  have hk0 := Blk.new w 28 #[.int .i64 P, .slice A n c]
  have hB1 : Below w.heap.size w (w.alloc (.cells #[.int .i64 P, .slice A n c] 28)) := (Below.refl _ w).alloc (Nat.le_refl _) _
  obtain ⟨w1, hw1⟩ : ∃ W, W = w.alloc (.cells #[.int .i64 P, .slice A n c] 28) := ⟨_, rfl⟩
  rw [← hw1] at hk0 hB1 ⊢
  have ha1 := ha.below hB1
  clear ha hw1
  go_loopw [1, 7, 8] (fun av out i wr => ∃ (k x : Nat), k ≤ n ∧ x < 64 ∧ x / 2 ^ k = a / 2 ^ k ∧ i = .int .i64 k ∧ av = .int .i64 x ∧ out = .int .i64 (sgn P (swaps a b k) (common P sq a b k)) ∧ Below w1.heap.size w1 wr) (fun _ _ i _ => n - (intOf i).toNat)
  case atStart => exact ⟨0, a, by omega, h1, rfl, rfl, rfl, rfl, Below.refl _ _⟩
  case round =>
    obtain ⟨k, x, hk, hx64, hxa, rfl, rfl, rfl, hM⟩ := hrel
    have hkr := hk0.below hM hk0.lt
    obtain ⟨kc0, kc1⟩ := hkr.two
    have har := ha1.below hM
    obtain ⟨cb1, cb2⟩ := common_bound P sq a b hp k
    obtain ⟨sb1, sb2⟩ := sgn_bound (s := swaps a b k) hp cb1 cb2
    by_cases hlt : k < n
    · have hb0 := and_bit0 (k := k) (by omega) h2
      by_cases hb : bit b k = 1
      · simp only [hb, beq_self_eq_true, Bool.not_true] at hb0
        have hxa2 := up_div hxa
        have hbx : bit x k = bit a k := by unfold bit; rw [hxa]
        have ha0 : (bits BinOp.and IntKind.i64 ((x : Int) / 2 ^ k) 1 == 1) = (bit a k == 1) := by
          rw [and_bit (by omega) hx64, hbx]
          have := bit_lt a k
          rcases (by omega : bit a k = 0 ∨ bit a k = 1) with h | h <;> simp [h]
        have hv := Lib.hid (shr_nat x (k + 1))
        obtain ⟨hxo, hxo2, hxo3⟩ := xor_up_all k (by omega) x hx64
        have hp6 : pc (a / 2 ^ (k + 1)) ≤ 6 := pc_le 6 _ (Nat.lt_of_le_of_lt (Nat.div_le_self _ _) (by omega))
        have hxl : x / 2 ^ (k + 1) < 64 := Nat.lt_of_le_of_lt (Nat.div_le_self _ _) hx64
        have HXL := Lib.hid hxl; clear hxl
        have HX2 := Lib.hid hxa2; have HXO := Lib.hid hxo; have HXO2 := Lib.hid hxo2; have HXO3 := Lib.hid hxo3; have HB := Lib.hid hb
        clear hxa2 hxo hxo2 hxo3 hbx hxa hb
        obtain ⟨g, o, rfl, hx, hcx⟩ := har.int hlt
        obtain ⟨sx1, sx2⟩ := hs _ (List.getElem_mem hx)
        have HG : Hid (sq.getD k 0 = sq[k]) := Lib.hid (by rw [List.getD_eq_getElem?_getD, List.getElem?_eq_getElem hx]; rfl)
        clear har ha1 hk0
        cases hpar : ((pc (a / 2 ^ (k + 1)) : Int) % 2 == 1)
        · have hpar' := Lib.hid (par0 hpar)
          cases hba : (bit a k == 1)
          · rw [hba] at ha0
            have hba' : Hid (¬ bit a k = 1) := Lib.hid (by simpa using hba)
            clear hba
            go_wp2_with (go_at_call 136; rw [hv.out]; refine (l04Grade_any _ _ HXL.out).mono ?_; rintro e w' ⟨rfl, rfl⟩; rw [HX2.out])
            go_roundw
            case rel => exact ⟨k + 1, x ^^^ 2 ^ k, by omega, HXO2.out, HXO3.out.trans HX2.out, by go_num, by rw [HXO.out], by simp only [swaps, if_pos HB.out, common, if_neg (fun hh : bit b k = 1 ∧ bit a k = 1 => hba'.out hh.2)]; rw [sgn_same _ hpar'.out], hM⟩
            case measure => simp [intOf]; omega
          · rw [hba] at ha0
            have hba' := Lib.hid (beq_iff_eq.1 hba)
            clear hba
            obtain ⟨m1, m2⟩ := mul_small sb1 (show sgn P (swaps a b k) (common P sq a b k) ≤ 13 by omega) sx1 (show sq[k] ≤ 13 by omega)
            go_wp2_with (go_at_call 136; rw [hv.out]; refine (l04Grade_any _ _ HXL.out).mono ?_; rintro e w' ⟨rfl, rfl⟩; rw [HX2.out])
            go_quiet (fail)
            go_wp2
            go_roundw
            case rel => exact ⟨k + 1, x ^^^ 2 ^ k, by omega, HXO2.out, HXO3.out.trans HX2.out, by go_num, by rw [HXO.out], by simp only [swaps, if_pos HB.out, common, if_pos (And.intro HB.out hba'.out)]; rw [sgn_same _ hpar'.out, HG.out, sgn_mul], below_drewN hM _⟩
            case measure => simp [intOf]; omega
        · have hpar' := par1 hpar
          have hfl := sgn_flip (s := swaps a b k) _ hp cb1 cb2 hpar'
          have HF := Lib.hid hfl
          obtain ⟨fb1, fb2⟩ := sgn_bound (s := swaps a b k + pc (a / 2 ^ (k + 1))) hp cb1 cb2
          clear hfl hpar'
          cases hba : (bit a k == 1)
          · rw [hba] at ha0
            have hba' : Hid (¬ bit a k = 1) := Lib.hid (by simpa using hba)
            clear hba
            go_wp2_with (go_at_call 136; rw [hv.out]; refine (l04Grade_any _ _ HXL.out).mono ?_; rintro e w' ⟨rfl, rfl⟩; rw [HX2.out])
            go_roundw
            case rel => exact ⟨k + 1, x ^^^ 2 ^ k, by omega, HXO2.out, HXO3.out.trans HX2.out, by go_num, by rw [HXO.out], by simp only [swaps, if_pos HB.out, common, if_neg (fun hh : bit b k = 1 ∧ bit a k = 1 => hba'.out hh.2)]; rw [HF.out], hM⟩
            case measure => simp [intOf]; omega
          · rw [hba] at ha0
            have hba' := Lib.hid (beq_iff_eq.1 hba)
            clear hba
            rw [← HF.out] at fb1 fb2
            obtain ⟨m1, m2⟩ := mul_small fb1 (show (P - sgn P (swaps a b k) (common P sq a b k)) % P ≤ 13 by omega) sx1 (show sq[k] ≤ 13 by omega)
            go_wp2_with (go_at_call 136; rw [hv.out]; refine (l04Grade_any _ _ HXL.out).mono ?_; rintro e w' ⟨rfl, rfl⟩; rw [HX2.out])
            go_quiet (fail)
            go_wp2
            go_roundw
            case rel => exact ⟨k + 1, x ^^^ 2 ^ k, by omega, HXO2.out, HXO3.out.trans HX2.out, by go_num, by rw [HXO.out], by simp only [swaps, if_pos HB.out, common, if_pos (And.intro HB.out hba'.out)]; rw [show -sgn P (swaps a b k) (common P sq a b k) % P = (P - sgn P (swaps a b k) (common P sq a b k)) % P by rw [show P - sgn P (swaps a b k) (common P sq a b k) = -sgn P (swaps a b k) (common P sq a b k) + P by omega, Int.add_emod_right], wrap_in _ (by omega) (by omega), Int.tmod_eq_emod_of_nonneg m1, HF.out, HG.out, sgn_mul], below_drewN hM _⟩
            case measure => simp [intOf]; omega
      · simp only [(by simpa using hb : (bit b k == 1) = false), Bool.not_false] at hb0
        have hb' := Lib.hid hb
        go_wp2
        go_roundw
        case rel => exact ⟨k + 1, x, by omega, hx64, up_div hxa, by go_num, rfl, by simp only [swaps, if_neg hb'.out, common, if_neg (fun hh : bit b k = 1 ∧ bit a k = 1 => hb'.out hh.1)]; rfl, hM⟩
        case measure => simp [intOf]; omega
    · obtain rfl : k = n := by omega
      have hBB : Below w.heap.size w wr := hB1.trans (hM.mono hB1.size)
      clear har ha1
      go_wp2
      go_ret
      exact ⟨ret_int (by rw [fac_sgn, Hx.out]), hBB⟩
end Go.Proofs.YticofgmmjecleaaGreatDoor
namespace Go.Proofs.YticofgmmjecleaaGreatDoor
open Go.RowKit
theorem mod_mul_add (v a f p : Int) : (v + a % p * f) % p = (v + a * f) % p := by
  rw [Int.add_emod, mod_mul, ← Int.add_emod]
set_option maxRecDepth 2000 in
set_option maxHeartbeats 3200000 in
set_option maxRecDepth 8000 in
theorem l04Times_any (P : Int) (A : Option Addr) (n c : Nat) (sq : List Int) (X : Option Addr) (cx : Nat) (xs : List Int) (Y : Option Addr) (cy : Nat) (ys : List Int) (w : World) (hp : 2 ≤ P) (hp2 : P ≤ 13) (hn : n ≤ 6)
    (ha : Rd w A n (ints sq)) (hs : NumsL P sq) (hx : Rd w X (pw n) (ints xs)) (hxs : NumsL P xs) (hy : Rd w Y (pw n) (ints ys)) (hys : NumsL P ys) :
    Calls Tryz.prog 110 #[.agg #[.int .i64 P, .slice A n c], .slice X (pw n) cx, .slice Y (pw n) cy] w fun e w' => ∃ A' c', e = .returned (.slice A' (pw n) c') ∧ MkI w w' A' (pw n) c' (prodL P sq (fun _ _ => true) xs ys) := by
  have hxl : xs.length = pw n := by have := hx.1; rwa [ints_length] at this
  have hyl : ys.length = pw n := by have := hy.1; rwa [ints_length] at this
  have Hx := Lib.hid hxl; clear hxl
  have Hy := Lib.hid hyl; clear hyl
  have hpw : pw n ≤ 64 := pw_le hn
  have hmk := make_i (P := Tryz.prog) 22 2 Tryz.underlying22 info_i (pw n) (by omega)
  have hB0 : Below w.heap.size w (w.alloc (.cells #[.int .i64 P, .slice A n c] 28)) := (Below.refl _ w).alloc (Nat.le_refl _) _
  have hM := Mk.made (E := 2) (n := pw n) (z := .int .i64 0) hB0 (by simp only [maxLen]; omega)
  rw [ints_replicate] at hM
  have hk0 : Blk ((w.alloc (.cells #[.int .i64 P, .slice A n c] 28)).alloc (.cells (madeCells #[.int .i64 0] (pw n)) 2)) w.heap.size 28 #[.int .i64 P, .slice A n c] := (Blk.new w _ _).alloc _
  go_enter Tryz.func110, Tryz.ntmps110
  go_wp2
  clear hmk
  obtain ⟨w1, hw1⟩ : ∃ W, W = (w.alloc (.cells #[.int .i64 P, .slice A n c] 28)).alloc (.cells (madeCells #[.int .i64 0] (pw n)) 2) := ⟨_, rfl⟩
  rw [← hw1] at hM hk0 ⊢
  rw [World.size_alloc] at hM
  clear hB0 hw1
  obtain ⟨g, hg⟩ : ∃ g, g = w.heap.size + 1 := ⟨_, rfl⟩
  rw [← hg] at hM ⊢
  have hg1 : w.heap.size + 1 ≤ g := by omega
  clear hg
  go_loopw [8, 9] (fun i _ wr => ∃ k : Nat, k ≤ pw n ∧ i = .int .i64 k ∧ MkI w wr (some ⟨g, 0, none⟩) (pw n) (pw n) (addRows P sq (fun _ _ => true) xs ys (List.replicate (pw n) 0) k) ∧ Blk wr w.heap.size 28 #[.int .i64 P, .slice A n c]) (fun i _ _ => pw n - (intOf i).toNat)
  case atStart => exact ⟨0, by omega, rfl, by simpa [addRows] using hM, hk0⟩
  case round =>
    obtain ⟨k, hk, rfl, hM2, hk2⟩ := hrel
    clear hM hk0
    by_cases hlt : k < pw n
    · obtain ⟨gx, ox, hX, hxk, hcw⟩ := hx.int hlt
      subst hX
      obtain ⟨x1, x2⟩ := hxs _ (List.getElem_mem hxk)
      have hxn : Hid (xs.getD k 0 = xs[k]) := Lib.hid (by rw [List.getD_eq_getElem?_getD, List.getElem?_eq_getElem hxk]; rfl)
      have hgx := World.block_lt_of_cell? _ _ hcw
      have HGX : Hid (g ≠ gx) := Lib.hid (by simp at hgx; omega)
      have HCW := Lib.hid hcw
      clear hcw hgx
      have hR0 : MkI w wr (some ⟨g, 0, none⟩) (pw n) (pw n) (addRow P sq (fun _ _ => true) xs ys k (addRows P sq (fun _ _ => true) xs ys (List.replicate (pw n) 0) k) 0) := by simpa [addRow] using hM2
      have hN0 : NumsL P (addRows P sq (fun _ _ => true) xs ys (List.replicate (pw n) 0) k) := addRows_nums sq _ xs ys k (by omega) (NumsL.replicate (by omega) _)
      obtain ⟨L0, hL0⟩ : ∃ L, L = addRows P sq (fun _ _ => true) xs ys (List.replicate (pw n) 0) k := ⟨_, rfl⟩
      rw [← hL0] at hR0 hN0
      have HL0 := Lib.hid hL0
      clear hM2 hL0
      go_wp2
      go_loopw [9] (fun i wr => ∃ j : Nat, j ≤ pw n ∧ i = .int .i64 j ∧ MkI w wr (some ⟨g, 0, none⟩) (pw n) (pw n) (addRow P sq (fun _ _ => true) xs ys k L0 j) ∧ Blk wr w.heap.size 28 #[.int .i64 P, .slice A n c]) (fun i _ => pw n - (intOf i).toNat)
      case atStart => exact ⟨0, by omega, rfl, hR0, hk2⟩
      case round =>
        clear hR0 hk2
        obtain ⟨j, hj, rfl, hM3, hk3⟩ := hrel
        have hcx : wr.cell? ⟨gx, ox + k, none⟩ = some (.int .i64 xs[k]) := (hM3.b.cell (World.block_lt_of_cell? _ _ HCW.out)).trans HCW.out
        by_cases hlj : j < pw n
        · obtain ⟨gy, oy, hY, hyj, hcyw⟩ := hy.int hlj
          subst hY
          have hgy := World.block_lt_of_cell? _ _ hcyw
          have HGY : Hid (g ≠ gy) := Lib.hid (by simp at hgy; omega)
          have hcy : wr.cell? ⟨gy, oy + j, none⟩ = some (.int .i64 ys[j]) := (hM3.b.cell (World.block_lt_of_cell? _ _ hcyw)).trans hcyw
          clear hcyw hgy
          obtain ⟨y1, y2⟩ := hys _ (List.getElem_mem hyj)
          have hyn : Hid (ys.getD j 0 = ys[j]) := Lib.hid (by rw [List.getD_eq_getElem?_getD, List.getElem?_eq_getElem hyj]; rfl)
          cases h0 : (xs[k] != 0)
          · have hz : xs.getD k 0 = 0 := by rw [hxn.out]; simpa using h0
            have HM := Lib.hid hM3
            clear hM3
            go_wp2
            go_roundw
            case rel => exact ⟨k + 1, by omega, by go_num, by rw [addRows_succ, addRow_zero _ _ _ _ _ _ _ _ hz, ← HL0.out]; have := HM.out; rwa [addRow_zero _ _ _ _ _ _ _ _ hz] at this, hk3⟩
            case measure => simp [intOf]; omega
          · cases h1 : (ys[j] != 0)
            · have hz : Hid (ys.getD j 0 = 0) := Lib.hid (by rw [hyn.out]; simpa using h1)
              go_wp2
              go_roundw
              case rel => exact ⟨j + 1, by omega, by go_num, by rw [addRow_succ]; unfold addPair; rw [if_neg (fun hh => hh.2.1 hz.out)]; exact hM3, hk3⟩
              case measure => simp [intOf]; omega
            · have hidx : k ^^^ j < pw n := xor_lt hlt hlj
              have hxo := xor_all k (by omega) j (by omega)
              have hvb := (addRow_nums sq (fun _ _ => true) xs ys k j (by omega) hN0).getD (by omega) (k ^^^ j)
              obtain ⟨hoc, hof⟩ := mkI_at hM3.drew hidx
              obtain ⟨v0, hv0⟩ : ∃ v, v = (addRow P sq (fun _ _ => true) xs ys k L0 j).getD (k ^^^ j) 0 := ⟨_, rfl⟩
              rw [← hv0] at hvb hoc
              obtain ⟨v1, v2⟩ := hvb
              have HV0 := Lib.hid hv0
              have hAt : Hid (∀ w', MkI w w' (some ⟨g, 0, none⟩) (pw n) (pw n) (addRow P sq (fun _ _ => true) xs ys k L0 j) → w'.cell? ⟨g, k ^^^ j, none⟩ = some (.int .i64 v0) ∧ w'.frozen? ⟨g, k ^^^ j, none⟩ = false) :=
                Lib.hid (fun w' h => by rw [HV0.out]; exact mkI_at h hidx)
              clear hv0
              obtain ⟨f1, f2⟩ := fac_bound P sq k j hp
              obtain ⟨m1, m2⟩ := mul_small x1 (show xs[k] ≤ 13 by omega) y1 (show ys[j] ≤ 13 by omega)
              obtain ⟨r1, r2⟩ := emod_small (xs[k] * ys[j]) P (by omega)
              obtain ⟨m3, m4⟩ := mul_small r1 (show xs[k] * ys[j] % P ≤ 13 by omega) f1 (show fac P sq k j ≤ 13 by omega)
              have HNE : Hid (g ≠ w.heap.size ∧ g ≠ w.heap.size ∧ g ≠ gx ∧ g ≠ gy) := Lib.hid ⟨by omega, by omega, HGX.out, HGY.out⟩
              have hF : Hid (∀ w', MkI w w' (some ⟨g, 0, none⟩) (pw n) (pw n) (addRow P sq (fun _ _ => true) xs ys k L0 j) → Calls Tryz.prog 135 #[.agg #[.int .i64 P, .slice A n c], .int .i64 k, .int .i64 j] w' fun e w'' => e = .returned (.int .i64 (fac P sq k j)) ∧ Below w'.heap.size w' w'') :=
                Lib.hid (fun w' h => l04Blades_any P A n c sq k j w' hp hp2 hn (ha.below h.b) hs (by omega) (by omega))
              have HPair : Hid (xs.getD k 0 ≠ 0 ∧ ys.getD j 0 ≠ 0 ∧ true = true) := Lib.hid ⟨by rw [hxn.out]; simpa using h0, by rw [hyn.out]; simpa using h1, rfl⟩
              have W1 := i64_fit (xs[k] * ys[j]) (by omega) (by omega)
              have W2 := i64_fit (xs[k] * ys[j] % P * fac P sq k j) (by omega) (by omega)
              have W3 := i64_fit (v0 + xs[k] * ys[j] % P * fac P sq k j) (by omega) (by omega)
              have T1 := Int.tmod_eq_emod_of_nonneg (b := P) m1
              have T2 := Int.tmod_eq_emod_of_nonneg (a := (v0 + xs[k] * ys[j] % P * fac P sq k j)) (b := P) (by omega)
              obtain ⟨kc0, kc1⟩ := hk3.two
              have hoc2 : wr.cell? ⟨g, k ^^^ j, none⟩ = some (.int .i64 v0) := hoc
              have hof2 : wr.frozen? ⟨g, k ^^^ j, none⟩ = false := hof
              have hP0 : (P == 0) = false := by simp; omega
              have hP1 : (P == -1) = false := by simp; omega
              have hP2 : ¬ P = 0 := by omega
              have hO := hM3.drew
              have hk4 := hk3.drew
              go_wp2
              have i1 : (0 : Int) ≤ ((k ^^^ j : Nat) : Int) := by omega
              have i2 : ((k ^^^ j : Nat) : Int) < ((pw n : Nat) : Int) := by omega
              have i3 : (0 : Int) ≤ (k : Int) := by omega
              have i4 : (k : Int) < ((pw n : Nat) : Int) := by omega
              have i5 : (0 : Int) ≤ (j : Int) := by omega
              have i6 : (j : Int) < ((pw n : Nat) : Int) := by omega
              refine wp_obs 32 [[], [], [], [1, 2], [], [], [], [5, 6], [4, 5, 6, 7], [4, 5, 6, 7, 8], [], [], [10, 11], [10, 11, 12], [], [], [14, 15], [14, 15, 16], [10, 11, 12, 13, 14, 15, 16, 17], [], [19], [10, 11, 12, 13, 14, 15, 16, 17, 18, 19, 20], [], [], [], [22, 23, 24], [10, 11, 12, 13, 14, 15, 16, 17, 18, 19, 20, 21, 22, 23, 24, 25], [4, 5, 6, 7, 8, 9, 10, 11, 12, 13, 14, 15, 16, 17, 18, 19, 20, 21, 22, 23, 24, 25, 26], [], [28], [4, 5, 6, 7, 8, 9, 10, 11, 12, 13, 14, 15, 16, 17, 18, 19, 20, 21, 22, 23, 24, 25, 26, 27, 28, 29], [0, 1, 2, 3], [0, 1, 2, 3, 4, 5, 6, 7, 8, 9, 10, 11, 12, 13, 14, 15, 16, 17, 18, 19, 20, 21, 22, 23, 24, 25, 26, 27, 28, 29, 30, 31]] [VIs (.slice (some ⟨g, 0, none⟩) (pw n) (pw n)), VIs (.int .i64 (k)), VIs (.int .i64 (j)), VIs (.int .i64 ((k ^^^ j : Nat))), VIs (.slice (some ⟨g, 0, none⟩) (pw n) (pw n)), VIs (.int .i64 (k)), VIs (.int .i64 (j)), VIs (.int .i64 ((k ^^^ j : Nat))), VIs (.pointer (some ⟨g, k ^^^ j, none⟩)), VIs (.int .i64 (v0)), VIs (.slice (some ⟨gx, ox, none⟩) (pw n) cx), VIs (.int .i64 (k)), VIs (.pointer (some ⟨gx, ox + k, none⟩)), VIs (.int .i64 (xs[k])), VIs (.slice (some ⟨gy, oy, none⟩) (pw n) cy), VIs (.int .i64 (j)), VIs (.pointer (some ⟨gy, oy + j, none⟩)), VIs (.int .i64 (ys[j])), VIs (.int .i64 (xs[k] * ys[j])), VIs (.pointer (some ⟨w.heap.size, 0, none⟩)), VIs (.int .i64 (P)), VIs (.int .i64 (xs[k] * ys[j] % P)), VIs (.agg #[.int .i64 P, .slice A n c]), VIs (.int .i64 (k)), VIs (.int .i64 (j)), VIs (.int .i64 (fac P sq k j)), VIs (.int .i64 (xs[k] * ys[j] % P * fac P sq k j)), VIs (.int .i64 (v0 + xs[k] * ys[j] % P * fac P sq k j)), VIs (.pointer (some ⟨w.heap.size, 0, none⟩)), VIs (.int .i64 (P)), VIs (.int .i64 ((v0 + xs[k] * ys[j] % P * fac P sq k j) % P)), VIs (.pointer (some ⟨g, k ^^^ j, none⟩))] (fun w' => Blk w' w.heap.size 28 #[.int .i64 P, .slice A n c] ∧ MkI w w' (some ⟨g, 0, none⟩) (pw n) (pw n) (addRow P sq (fun _ _ => true) xs ys k L0 j) ∧ w'.cell? ⟨gx, ox + k, none⟩ = some (.int .i64 xs[k]) ∧ w'.cell? ⟨gy, oy + j, none⟩ = some (.int .i64 ys[j])) (by kernel_rfl) (by kernel_rfl) (fun _ _ h hb => ⟨h.1.below hb h.1.lt, h.2.1.below hb, (hb.cell (World.block_lt_of_cell? _ _ h.2.2.1)).trans h.2.2.1, (hb.cell (World.block_lt_of_cell? _ _ h.2.2.2)).trans h.2.2.2⟩) (⟨hk4, hO, hcx, hcy⟩) (fun x => ?_)
              refine obs_step (Eq.trans (by simp only [List.getElem?_toArray, List.getElem?_cons_zero]; exact rfl) rfl) rfl (fun w' hS hV K hK => ?_) ?_
              · obtain ⟨q0, q1⟩ := hS.1.two; obtain ⟨hoc, hof⟩ := hAt.out _ hS.2.1; have q2 := hS.2.2.1; have q3 := hS.2.2.2
                go_simp
                exact hK.out _ _ _ rfl rfl rfl (Below.refl _ _)
              simp only [List.setIfInBounds_toArray, List.set_cons_zero, List.set_cons_succ]
              refine obs_step (Eq.trans (by simp only [List.getElem?_toArray, List.getElem?_cons_succ, List.getElem?_cons_zero]; exact rfl) rfl) rfl (fun w' hS hV K hK => ?_) ?_
              · obtain ⟨q0, q1⟩ := hS.1.two; obtain ⟨hoc, hof⟩ := hAt.out _ hS.2.1; have q2 := hS.2.2.1; have q3 := hS.2.2.2
                go_simp
                exact hK.out _ _ _ rfl rfl rfl (Below.refl _ _)
              simp only [List.setIfInBounds_toArray, List.set_cons_zero, List.set_cons_succ]
              refine obs_step (Eq.trans (by simp only [List.getElem?_toArray, List.getElem?_cons_succ, List.getElem?_cons_zero]; exact rfl) rfl) rfl (fun w' hS hV K hK => ?_) ?_
              · obtain ⟨q0, q1⟩ := hS.1.two; obtain ⟨hoc, hof⟩ := hAt.out _ hS.2.1; have q2 := hS.2.2.1; have q3 := hS.2.2.2
                go_simp
                exact hK.out _ _ _ rfl rfl rfl (Below.refl _ _)
              simp only [List.setIfInBounds_toArray, List.set_cons_zero, List.set_cons_succ]
              refine obs_step (Eq.trans (by simp only [List.getElem?_toArray, List.getElem?_cons_succ, List.getElem?_cons_zero]; exact rfl) rfl) rfl (fun w' hS hV K hK => ?_) ?_
              · simp only [List.mem_cons, List.not_mem_nil, or_false, forall_eq_or_imp, forall_eq, List.getD_cons_succ, List.getD_cons_zero, VIs, VAny] at hV
                obtain ⟨e1, e2⟩ := hV
                obtain ⟨q0, q1⟩ := hS.1.two; obtain ⟨hoc, hof⟩ := hAt.out _ hS.2.1; have q2 := hS.2.2.1; have q3 := hS.2.2.2
                go_simp
                exact hK.out _ _ _ rfl rfl rfl (Below.refl _ _)
              simp only [List.setIfInBounds_toArray, List.set_cons_zero, List.set_cons_succ]
              refine obs_step (Eq.trans (by simp only [List.getElem?_toArray, List.getElem?_cons_succ, List.getElem?_cons_zero]; exact rfl) rfl) rfl (fun w' hS hV K hK => ?_) ?_
              · obtain ⟨q0, q1⟩ := hS.1.two; obtain ⟨hoc, hof⟩ := hAt.out _ hS.2.1; have q2 := hS.2.2.1; have q3 := hS.2.2.2
                go_simp
                exact hK.out _ _ _ rfl rfl rfl (Below.refl _ _)
              simp only [List.setIfInBounds_toArray, List.set_cons_zero, List.set_cons_succ]
              refine obs_step (Eq.trans (by simp only [List.getElem?_toArray, List.getElem?_cons_succ, List.getElem?_cons_zero]; exact rfl) rfl) rfl (fun w' hS hV K hK => ?_) ?_
              · obtain ⟨q0, q1⟩ := hS.1.two; obtain ⟨hoc, hof⟩ := hAt.out _ hS.2.1; have q2 := hS.2.2.1; have q3 := hS.2.2.2
                go_simp
                exact hK.out _ _ _ rfl rfl rfl (Below.refl _ _)
              simp only [List.setIfInBounds_toArray, List.set_cons_zero, List.set_cons_succ]
              refine obs_step (Eq.trans (by simp only [List.getElem?_toArray, List.getElem?_cons_succ, List.getElem?_cons_zero]; exact rfl) rfl) rfl (fun w' hS hV K hK => ?_) ?_
              · obtain ⟨q0, q1⟩ := hS.1.two; obtain ⟨hoc, hof⟩ := hAt.out _ hS.2.1; have q2 := hS.2.2.1; have q3 := hS.2.2.2
                go_simp
                exact hK.out _ _ _ rfl rfl rfl (Below.refl _ _)
              simp only [List.setIfInBounds_toArray, List.set_cons_zero, List.set_cons_succ]
              refine obs_step (Eq.trans (by simp only [List.getElem?_toArray, List.getElem?_cons_succ, List.getElem?_cons_zero]; exact rfl) rfl) rfl (fun w' hS hV K hK => ?_) ?_
              · simp only [List.mem_cons, List.not_mem_nil, or_false, forall_eq_or_imp, forall_eq, List.getD_cons_succ, List.getD_cons_zero, VIs, VAny] at hV
                obtain ⟨e5, e6⟩ := hV
                obtain ⟨q0, q1⟩ := hS.1.two; obtain ⟨hoc, hof⟩ := hAt.out _ hS.2.1; have q2 := hS.2.2.1; have q3 := hS.2.2.2
                go_simp
                exact hK.out _ _ _ rfl rfl rfl (Below.refl _ _)
              simp only [List.setIfInBounds_toArray, List.set_cons_zero, List.set_cons_succ]
              refine obs_step (Eq.trans (by simp only [List.getElem?_toArray, List.getElem?_cons_succ, List.getElem?_cons_zero]; exact rfl) rfl) rfl (fun w' hS hV K hK => ?_) ?_
              · simp only [List.mem_cons, List.not_mem_nil, or_false, forall_eq_or_imp, forall_eq, List.getD_cons_succ, List.getD_cons_zero, VIs, VAny] at hV
                obtain ⟨e4, e5, e6, e7⟩ := hV
                obtain ⟨q0, q1⟩ := hS.1.two; obtain ⟨hoc, hof⟩ := hAt.out _ hS.2.1; have q2 := hS.2.2.1; have q3 := hS.2.2.2
                go_simp
                exact hK.out _ _ _ rfl rfl rfl (Below.refl _ _)
              simp only [List.setIfInBounds_toArray, List.set_cons_zero, List.set_cons_succ]
              refine obs_step (Eq.trans (by simp only [List.getElem?_toArray, List.getElem?_cons_succ, List.getElem?_cons_zero]; exact rfl) rfl) rfl (fun w' hS hV K hK => ?_) ?_
              · simp only [List.mem_cons, List.not_mem_nil, or_false, forall_eq_or_imp, forall_eq, List.getD_cons_succ, List.getD_cons_zero, VIs, VAny] at hV
                obtain ⟨e4, e5, e6, e7, e8⟩ := hV
                obtain ⟨q0, q1⟩ := hS.1.two; obtain ⟨hoc, hof⟩ := hAt.out _ hS.2.1; have q2 := hS.2.2.1; have q3 := hS.2.2.2
                go_simp
                exact hK.out _ _ _ rfl rfl rfl (Below.refl _ _)
              simp only [List.setIfInBounds_toArray, List.set_cons_zero, List.set_cons_succ]
              refine obs_step (Eq.trans (by simp only [List.getElem?_toArray, List.getElem?_cons_succ, List.getElem?_cons_zero]; exact rfl) rfl) rfl (fun w' hS hV K hK => ?_) ?_
              · obtain ⟨q0, q1⟩ := hS.1.two; obtain ⟨hoc, hof⟩ := hAt.out _ hS.2.1; have q2 := hS.2.2.1; have q3 := hS.2.2.2
                go_simp
                exact hK.out _ _ _ rfl rfl rfl (Below.refl _ _)
              simp only [List.setIfInBounds_toArray, List.set_cons_zero, List.set_cons_succ]
              refine obs_step (Eq.trans (by simp only [List.getElem?_toArray, List.getElem?_cons_succ, List.getElem?_cons_zero]; exact rfl) rfl) rfl (fun w' hS hV K hK => ?_) ?_
              · obtain ⟨q0, q1⟩ := hS.1.two; obtain ⟨hoc, hof⟩ := hAt.out _ hS.2.1; have q2 := hS.2.2.1; have q3 := hS.2.2.2
                go_simp
                exact hK.out _ _ _ rfl rfl rfl (Below.refl _ _)
              simp only [List.setIfInBounds_toArray, List.set_cons_zero, List.set_cons_succ]
              refine obs_step (Eq.trans (by simp only [List.getElem?_toArray, List.getElem?_cons_succ, List.getElem?_cons_zero]; exact rfl) rfl) rfl (fun w' hS hV K hK => ?_) ?_
              · simp only [List.mem_cons, List.not_mem_nil, or_false, forall_eq_or_imp, forall_eq, List.getD_cons_succ, List.getD_cons_zero, VIs, VAny] at hV
                obtain ⟨e10, e11⟩ := hV
                obtain ⟨q0, q1⟩ := hS.1.two; obtain ⟨hoc, hof⟩ := hAt.out _ hS.2.1; have q2 := hS.2.2.1; have q3 := hS.2.2.2
                go_simp
                exact hK.out _ _ _ rfl rfl rfl (Below.refl _ _)
              simp only [List.setIfInBounds_toArray, List.set_cons_zero, List.set_cons_succ]
              refine obs_step (Eq.trans (by simp only [List.getElem?_toArray, List.getElem?_cons_succ, List.getElem?_cons_zero]; exact rfl) rfl) rfl (fun w' hS hV K hK => ?_) ?_
              · simp only [List.mem_cons, List.not_mem_nil, or_false, forall_eq_or_imp, forall_eq, List.getD_cons_succ, List.getD_cons_zero, VIs, VAny] at hV
                obtain ⟨e10, e11, e12⟩ := hV
                obtain ⟨q0, q1⟩ := hS.1.two; obtain ⟨hoc, hof⟩ := hAt.out _ hS.2.1; have q2 := hS.2.2.1; have q3 := hS.2.2.2
                go_simp
                exact hK.out _ _ _ rfl rfl rfl (Below.refl _ _)
              simp only [List.setIfInBounds_toArray, List.set_cons_zero, List.set_cons_succ]
              refine obs_step (Eq.trans (by simp only [List.getElem?_toArray, List.getElem?_cons_succ, List.getElem?_cons_zero]; exact rfl) rfl) rfl (fun w' hS hV K hK => ?_) ?_
              · obtain ⟨q0, q1⟩ := hS.1.two; obtain ⟨hoc, hof⟩ := hAt.out _ hS.2.1; have q2 := hS.2.2.1; have q3 := hS.2.2.2
                go_simp
                exact hK.out _ _ _ rfl rfl rfl (Below.refl _ _)
              simp only [List.setIfInBounds_toArray, List.set_cons_zero, List.set_cons_succ]
              refine obs_step (Eq.trans (by simp only [List.getElem?_toArray, List.getElem?_cons_succ, List.getElem?_cons_zero]; exact rfl) rfl) rfl (fun w' hS hV K hK => ?_) ?_
              · obtain ⟨q0, q1⟩ := hS.1.two; obtain ⟨hoc, hof⟩ := hAt.out _ hS.2.1; have q2 := hS.2.2.1; have q3 := hS.2.2.2
                go_simp
                exact hK.out _ _ _ rfl rfl rfl (Below.refl _ _)
              simp only [List.setIfInBounds_toArray, List.set_cons_zero, List.set_cons_succ]
              refine obs_step (Eq.trans (by simp only [List.getElem?_toArray, List.getElem?_cons_succ, List.getElem?_cons_zero]; exact rfl) rfl) rfl (fun w' hS hV K hK => ?_) ?_
              · simp only [List.mem_cons, List.not_mem_nil, or_false, forall_eq_or_imp, forall_eq, List.getD_cons_succ, List.getD_cons_zero, VIs, VAny] at hV
                obtain ⟨e14, e15⟩ := hV
                obtain ⟨q0, q1⟩ := hS.1.two; obtain ⟨hoc, hof⟩ := hAt.out _ hS.2.1; have q2 := hS.2.2.1; have q3 := hS.2.2.2
                go_simp
                exact hK.out _ _ _ rfl rfl rfl (Below.refl _ _)
              simp only [List.setIfInBounds_toArray, List.set_cons_zero, List.set_cons_succ]
              refine obs_step (Eq.trans (by simp only [List.getElem?_toArray, List.getElem?_cons_succ, List.getElem?_cons_zero]; exact rfl) rfl) rfl (fun w' hS hV K hK => ?_) ?_
              · simp only [List.mem_cons, List.not_mem_nil, or_false, forall_eq_or_imp, forall_eq, List.getD_cons_succ, List.getD_cons_zero, VIs, VAny] at hV
                obtain ⟨e14, e15, e16⟩ := hV
                obtain ⟨q0, q1⟩ := hS.1.two; obtain ⟨hoc, hof⟩ := hAt.out _ hS.2.1; have q2 := hS.2.2.1; have q3 := hS.2.2.2
                go_simp
                exact hK.out _ _ _ rfl rfl rfl (Below.refl _ _)
              simp only [List.setIfInBounds_toArray, List.set_cons_zero, List.set_cons_succ]
              refine obs_step (Eq.trans (by simp only [List.getElem?_toArray, List.getElem?_cons_succ, List.getElem?_cons_zero]; exact rfl) rfl) rfl (fun w' hS hV K hK => ?_) ?_
              · simp only [List.mem_cons, List.not_mem_nil, or_false, forall_eq_or_imp, forall_eq, List.getD_cons_succ, List.getD_cons_zero, VIs, VAny] at hV
                obtain ⟨e10, e11, e12, e13, e14, e15, e16, e17⟩ := hV
                obtain ⟨q0, q1⟩ := hS.1.two; obtain ⟨hoc, hof⟩ := hAt.out _ hS.2.1; have q2 := hS.2.2.1; have q3 := hS.2.2.2
                go_simp
                exact hK.out _ _ _ rfl rfl rfl (Below.refl _ _)
              simp only [List.setIfInBounds_toArray, List.set_cons_zero, List.set_cons_succ]
              refine obs_step (Eq.trans (by simp only [List.getElem?_toArray, List.getElem?_cons_succ, List.getElem?_cons_zero]; exact rfl) rfl) rfl (fun w' hS hV K hK => ?_) ?_
              · obtain ⟨q0, q1⟩ := hS.1.two; obtain ⟨hoc, hof⟩ := hAt.out _ hS.2.1; have q2 := hS.2.2.1; have q3 := hS.2.2.2
                go_simp
                exact hK.out _ _ _ rfl rfl rfl (Below.refl _ _)
              simp only [List.setIfInBounds_toArray, List.set_cons_zero, List.set_cons_succ]
              refine obs_step (Eq.trans (by simp only [List.getElem?_toArray, List.getElem?_cons_succ, List.getElem?_cons_zero]; exact rfl) rfl) rfl (fun w' hS hV K hK => ?_) ?_
              · simp only [List.mem_cons, List.not_mem_nil, or_false, forall_eq, List.getD_cons_succ, List.getD_cons_zero, VIs, VAny] at hV
                obtain e19 := hV
                obtain ⟨q0, q1⟩ := hS.1.two; obtain ⟨hoc, hof⟩ := hAt.out _ hS.2.1; have q2 := hS.2.2.1; have q3 := hS.2.2.2
                go_simp
                exact hK.out _ _ _ rfl rfl rfl (Below.refl _ _)
              simp only [List.setIfInBounds_toArray, List.set_cons_zero, List.set_cons_succ]
              refine obs_step (Eq.trans (by simp only [List.getElem?_toArray, List.getElem?_cons_succ, List.getElem?_cons_zero]; exact rfl) rfl) rfl (fun w' hS hV K hK => ?_) ?_
              · simp only [List.mem_cons, List.not_mem_nil, or_false, forall_eq_or_imp, forall_eq, List.getD_cons_succ, List.getD_cons_zero, VIs, VAny] at hV
                obtain ⟨e10, e11, e12, e13, e14, e15, e16, e17, e18, e19, e20⟩ := hV
                obtain ⟨q0, q1⟩ := hS.1.two; obtain ⟨hoc, hof⟩ := hAt.out _ hS.2.1; have q2 := hS.2.2.1; have q3 := hS.2.2.2
                go_simp
                exact hK.out _ _ _ rfl rfl rfl (Below.refl _ _)
              simp only [List.setIfInBounds_toArray, List.set_cons_zero, List.set_cons_succ]
              refine obs_step (Eq.trans (by simp only [List.getElem?_toArray, List.getElem?_cons_succ, List.getElem?_cons_zero]; exact rfl) rfl) rfl (fun w' hS hV K hK => ?_) ?_
              · obtain ⟨q0, q1⟩ := hS.1.two; obtain ⟨hoc, hof⟩ := hAt.out _ hS.2.1; have q2 := hS.2.2.1; have q3 := hS.2.2.2
                go_simp
                exact hK.out _ _ _ rfl rfl rfl (Below.refl _ _)
              simp only [List.setIfInBounds_toArray, List.set_cons_zero, List.set_cons_succ]
              refine obs_step (Eq.trans (by simp only [List.getElem?_toArray, List.getElem?_cons_succ, List.getElem?_cons_zero]; exact rfl) rfl) rfl (fun w' hS hV K hK => ?_) ?_
              · obtain ⟨q0, q1⟩ := hS.1.two; obtain ⟨hoc, hof⟩ := hAt.out _ hS.2.1; have q2 := hS.2.2.1; have q3 := hS.2.2.2
                go_simp
                exact hK.out _ _ _ rfl rfl rfl (Below.refl _ _)
              simp only [List.setIfInBounds_toArray, List.set_cons_zero, List.set_cons_succ]
              refine obs_step (Eq.trans (by simp only [List.getElem?_toArray, List.getElem?_cons_succ, List.getElem?_cons_zero]; exact rfl) rfl) rfl (fun w' hS hV K hK => ?_) ?_
              · obtain ⟨q0, q1⟩ := hS.1.two; obtain ⟨hoc, hof⟩ := hAt.out _ hS.2.1; have q2 := hS.2.2.1; have q3 := hS.2.2.2
                go_simp
                exact hK.out _ _ _ rfl rfl rfl (Below.refl _ _)
              simp only [List.setIfInBounds_toArray, List.set_cons_zero, List.set_cons_succ]
              refine obs_step (Eq.trans (by simp only [List.getElem?_toArray, List.getElem?_cons_succ, List.getElem?_cons_zero]; exact rfl) rfl) rfl (fun w' hS hV K hK => ?_) ?_
              · simp only [List.mem_cons, List.not_mem_nil, or_false, forall_eq_or_imp, forall_eq, List.getD_cons_succ, List.getD_cons_zero, VIs, VAny] at hV
                obtain ⟨e22, e23, e24⟩ := hV
                obtain ⟨q0, q1⟩ := hS.1.two; obtain ⟨hoc, hof⟩ := hAt.out _ hS.2.1; have q2 := hS.2.2.1; have q3 := hS.2.2.2
                go_simp
                refine (hF.out _ hS.2.1).mono ?_
                rintro e v1 ⟨rfl, hb⟩
                exact hK.out _ _ _ rfl rfl rfl hb
              simp only [List.setIfInBounds_toArray, List.set_cons_zero, List.set_cons_succ]
              refine obs_step (Eq.trans (by simp only [List.getElem?_toArray, List.getElem?_cons_succ, List.getElem?_cons_zero]; exact rfl) rfl) rfl (fun w' hS hV K hK => ?_) ?_
              · simp only [List.mem_cons, List.not_mem_nil, or_false, forall_eq_or_imp, forall_eq, List.getD_cons_succ, List.getD_cons_zero, VIs, VAny] at hV
                obtain ⟨e10, e11, e12, e13, e14, e15, e16, e17, e18, e19, e20, e21, e22, e23, e24, e25⟩ := hV
                obtain ⟨q0, q1⟩ := hS.1.two; obtain ⟨hoc, hof⟩ := hAt.out _ hS.2.1; have q2 := hS.2.2.1; have q3 := hS.2.2.2
                go_simp
                exact hK.out _ _ _ rfl rfl rfl (Below.refl _ _)
              simp only [List.setIfInBounds_toArray, List.set_cons_zero, List.set_cons_succ]
              refine obs_step (Eq.trans (by simp only [List.getElem?_toArray, List.getElem?_cons_succ, List.getElem?_cons_zero]; exact rfl) rfl) rfl (fun w' hS hV K hK => ?_) ?_
              · simp only [List.mem_cons, List.not_mem_nil, or_false, forall_eq_or_imp, forall_eq, List.getD_cons_succ, List.getD_cons_zero, VIs, VAny] at hV
                obtain ⟨e4, e5, e6, e7, e8, e9, e10, e11, e12, e13, e14, e15, e16, e17, e18, e19, e20, e21, e22, e23, e24, e25, e26⟩ := hV
                obtain ⟨q0, q1⟩ := hS.1.two; obtain ⟨hoc, hof⟩ := hAt.out _ hS.2.1; have q2 := hS.2.2.1; have q3 := hS.2.2.2
                go_simp
                exact hK.out _ _ _ rfl rfl rfl (Below.refl _ _)
              simp only [List.setIfInBounds_toArray, List.set_cons_zero, List.set_cons_succ]
              refine obs_step (Eq.trans (by simp only [List.getElem?_toArray, List.getElem?_cons_succ, List.getElem?_cons_zero]; exact rfl) rfl) rfl (fun w' hS hV K hK => ?_) ?_
              · obtain ⟨q0, q1⟩ := hS.1.two; obtain ⟨hoc, hof⟩ := hAt.out _ hS.2.1; have q2 := hS.2.2.1; have q3 := hS.2.2.2
                go_simp
                exact hK.out _ _ _ rfl rfl rfl (Below.refl _ _)
              simp only [List.setIfInBounds_toArray, List.set_cons_zero, List.set_cons_succ]
              refine obs_step (Eq.trans (by simp only [List.getElem?_toArray, List.getElem?_cons_succ, List.getElem?_cons_zero]; exact rfl) rfl) rfl (fun w' hS hV K hK => ?_) ?_
              · simp only [List.mem_cons, List.not_mem_nil, or_false, forall_eq, List.getD_cons_succ, List.getD_cons_zero, VIs, VAny] at hV
                obtain e28 := hV
                obtain ⟨q0, q1⟩ := hS.1.two; obtain ⟨hoc, hof⟩ := hAt.out _ hS.2.1; have q2 := hS.2.2.1; have q3 := hS.2.2.2
                go_simp
                exact hK.out _ _ _ rfl rfl rfl (Below.refl _ _)
              simp only [List.setIfInBounds_toArray, List.set_cons_zero, List.set_cons_succ]
              refine obs_step (Eq.trans (by simp only [List.getElem?_toArray, List.getElem?_cons_succ, List.getElem?_cons_zero]; exact rfl) rfl) rfl (fun w' hS hV K hK => ?_) ?_
              · simp only [List.mem_cons, List.not_mem_nil, or_false, forall_eq_or_imp, forall_eq, List.getD_cons_succ, List.getD_cons_zero, VIs, VAny] at hV
                obtain ⟨e4, e5, e6, e7, e8, e9, e10, e11, e12, e13, e14, e15, e16, e17, e18, e19, e20, e21, e22, e23, e24, e25, e26, e27, e28, e29⟩ := hV
                obtain ⟨q0, q1⟩ := hS.1.two; obtain ⟨hoc, hof⟩ := hAt.out _ hS.2.1; have q2 := hS.2.2.1; have q3 := hS.2.2.2
                go_simp
                exact hK.out _ _ _ rfl rfl rfl (Below.refl _ _)
              simp only [List.setIfInBounds_toArray, List.set_cons_zero, List.set_cons_succ]
              refine obs_step (Eq.trans (by simp only [List.getElem?_toArray, List.getElem?_cons_succ, List.getElem?_cons_zero]; exact rfl) rfl) rfl (fun w' hS hV K hK => ?_) ?_
              · simp only [List.mem_cons, List.not_mem_nil, or_false, forall_eq_or_imp, forall_eq, List.getD_cons_succ, List.getD_cons_zero, VIs, VAny] at hV
                obtain ⟨e0, e1, e2, e3⟩ := hV
                obtain ⟨q0, q1⟩ := hS.1.two; obtain ⟨hoc, hof⟩ := hAt.out _ hS.2.1; have q2 := hS.2.2.1; have q3 := hS.2.2.2
                go_simp
                exact hK.out _ _ _ rfl rfl rfl (Below.refl _ _)
              simp only [List.setIfInBounds_toArray, List.set_cons_zero, List.set_cons_succ]
              refine fun w' hS hV => ?_
              have hV := fun i hi => hV i (List.mem_range.1 hi)
              simp only [List.range, List.range.loop, List.mem_cons, List.not_mem_nil, or_false, forall_eq_or_imp, forall_eq, List.getD_cons_succ, List.getD_cons_zero, VIs, VAny] at hV
              obtain ⟨e0, e1, e2, e3, e4, e5, e6, e7, e8, e9, e10, e11, e12, e13, e14, e15, e16, e17, e18, e19, e20, e21, e22, e23, e24, e25, e26, e27, e28, e29, e30, e31⟩ := hV
              simp only [e0, e1, e2, e3, e4, e5, e6, e7, e8, e9, e10, e11, e12, e13, e14, e15, e16, e17, e18, e19, e20, e21, e22, e23, e24, e25, e26, e27, e28, e29, e30, e31]
              clear e0 e1 e2 e3 e4 e5 e6 e7 e8 e9 e10 e11 e12 e13 e14 e15 e16 e17 e18 e19 e20 e21 e22 e23 e24 e25 e26 e27 e28 e29 e30 e31
              obtain ⟨hk4, hO, s3, s4⟩ := hS
              obtain ⟨hoc, hof⟩ := hAt.out _ hO
              refine any_one (j := 32) (by kernel_rfl) (Eq.trans (by simp only [List.getElem?_toArray, List.getElem?_cons_succ, List.getElem?_cons_zero]; exact rfl) rfl) (fun K hK => ?_)
              go_simp
              refine hK.out _ _ (wpAny_done (by kernel_rfl) ?_ _)
              have hset := (hO.set (k ^^^ j) (.int .i64 ((v0 + xs[k] * ys[j] % P * fac P sq k j) % P))).1
              rw [ints_set] at hset
              have hkn := hk4.far (p := ⟨g, k ^^^ j, none⟩) HNE.out.1.symm (.int .i64 ((v0 + xs[k] * ys[j] % P * fac P sq k j) % P))
              clear W1 W2 W3 T1 T2 hoc hof hO hk4
              go_wp2
              go_roundw
              case rel => exact ⟨j + 1, by omega, by go_num, by rw [addRow_succ]; unfold addPair; rw [if_pos ⟨HPair.out.1, HPair.out.2.1, rfl⟩, ← HV0.out, hxn.out, hyn.out, ← mod_mul_add v0 (xs[k] * ys[j]) (fac P sq k j) P]; exact hset, hkn⟩
              case measure => simp [intOf]; omega
        · obtain rfl : j = pw n := by omega
          have HM := Lib.hid hM3
          clear hM3
          go_wp2
          go_roundw
          case rel => exact ⟨k + 1, by omega, by go_num, by rw [addRows_succ, Hy.out, ← HL0.out]; exact HM.out, hk3⟩
          case measure => simp [intOf]; omega
    · obtain rfl : k = pw n := by omega
      go_wp2
      go_ret
      exact ⟨_, _, rfl, by unfold prodL; rw [Hx.out]; exact hM2⟩
end Go.Proofs.YticofgmmjecleaaGreatDoor
namespace Go.Proofs.YticofgmmjecleaaGreatDoor
open Go.RowKit
/-- A search by a function of one captured pointer that answers of a row what p says and changes nothing that was there. -/
def Tells (f : FuncId) (cap : Array Value) (w : World) (p : List Int → Bool) (ok : List Int → Prop) : Prop :=
  ∀ (w' : World) (A : Option Addr) (m c : Nat) (xs : List Int), Below w.heap.size w w' → Rd w' A m (ints xs) → ok xs →
    Calls Tryz.prog f (#[.slice A m c] ++ cap) w' fun e w'' => e = .returned (.bool (p xs)) ∧ Below w'.heap.size w' w''
set_option maxHeartbeats 800000 in
set_option maxRecDepth 8000 in
theorem IndexFunc_any (f : FuncId) (q : Addr) (p : List Int → Bool) (ok : List Int → Prop) (A : Option Addr) (n c : Nat) (xss : List (List Int)) (w : World) (hn : n ≤ 1099511627776) (ha : RdII w A n xss) (hok : ∀ xs ∈ xss, ok xs)
    (hf : Tells f #[.pointer (some q)] w p ok) (hcf : ∀ (args : Array Value) (w : World), (callFunc f args).run Tryz.prog w = .ok (.enter f args) w) :
    Calls Tryz.prog 123 #[.slice A n c, .func (.func f) #[] #[.pointer (some q)]] w fun e w' => ∃ r : Int, e = .returned (.int .i64 r) ∧ decide (0 ≤ r) = xss.any p ∧ Below w.heap.size w w' := by
  have hxl := ha.len
  have Hx := Lib.hid hxl; clear hxl
  go_enter Tryz.func123, Tryz.ntmps123
  go_wp2
  go_loopw [8] (fun i wr => ∃ k : Nat, k ≤ n ∧ i = .int .i64 k ∧ (xss.take k).any p = false ∧ Below w.heap.size w wr) (fun i _ => n - (intOf i).toNat)
  case atStart => exact ⟨0, by omega, rfl, by simp, Below.refl _ _⟩
  case round =>
    obtain ⟨k, hk, rfl, ht, hB⟩ := hrel
    have H := Lib.hid ht; clear ht
    by_cases hlt : k < n
    · obtain ⟨g, o, rfl, hx, A', c', hcx, hr, -⟩ := (ha.below hB).at_ hlt
      have hoki := hok xss[k] (List.getElem_mem hx)
      clear ha
      cases hi : p xss[k]
      all_goals
        have HI := Lib.hid hi; clear hi
        go_wp2_with fail
        refine (hf _ _ _ _ _ hB hr hoki).mono ?_
        rintro e w1 ⟨rfl, hb1⟩
        rw [HI.out]
        go_wp2
      · go_roundw
        case rel =>
          refine ⟨k + 1, by omega, by go_num, ?_, hB.trans (hb1.mono hB.size)⟩
          rw [List.take_succ_eq_append_getElem hx, List.any_append, H.out]
          simpa using HI.out
        case measure => simp [intOf]; omega
      · go_ret
        refine ⟨_, rfl, ?_, hB.trans (hb1.mono hB.size)⟩
        have : xss.any p = true := List.any_eq_true.2 ⟨xss[k], List.getElem_mem hx, HI.out⟩
        rw [this]; simp
    · go_wp2
      go_ret
      refine ⟨_, rfl, ?_, hB⟩
      have := H.out
      rw [List.take_of_length_le (by rw [Hx.out]; omega)] at this
      rw [this]; simp
set_option maxHeartbeats 400000 in
set_option maxRecDepth 8000 in
theorem ContainsFunc_any (f : FuncId) (q : Addr) (p : List Int → Bool) (ok : List Int → Prop) (A : Option Addr) (n c : Nat) (xss : List (List Int)) (w : World) (hn : n ≤ 1099511627776) (ha : RdII w A n xss) (hok : ∀ xs ∈ xss, ok xs)
    (hf : Tells f #[.pointer (some q)] w p ok) (hcf : ∀ (args : Array Value) (w : World), (callFunc f args).run Tryz.prog w = .ok (.enter f args) w) :
    Calls Tryz.prog 96 #[.slice A n c, .func (.func f) #[] #[.pointer (some q)]] w fun e w' => e = .returned (.bool (xss.any p)) ∧ Below w.heap.size w w' := by
  go_enter Tryz.func96, Tryz.ntmps96
  go_wp2_with fail
  refine (IndexFunc_any _ _ _ _ _ _ _ _ _ hn ha hok hf hcf).mono ?_
  rintro e w1 ⟨r, rfl, hr, hb⟩
  have HR := Lib.hid hr; clear hr
  go_wp2
  go_ret
  exact ⟨ret_bool HR.out, hb⟩
end Go.Proofs.YticofgmmjecleaaGreatDoor
namespace Go.Proofs.YticofgmmjecleaaGreatDoor
open Go.RowKit
/-- The part of grade k. -/
def partG (xs : List Int) (k : Nat) : List Int := tab xs.length fun i => if pc i = k then xs.getD i 0 else 0
theorem partG_len (xs : List Int) (k : Nat) : (partG xs k).length = xs.length := tab_len _ _
theorem partG_nums {p : Int} (hp : 0 < p) {xs : List Int} (h : NumsL p xs) (k : Nat) : NumsL p (partG xs k) := NumsL.tab fun i _ => by
  split
  · exact h.getD hp i
  · omega
theorem tab_pad_set {n k : Nat} {f : Nat → Int} (hk : k < n) : (tab k f ++ List.replicate (n - k) 0).set k (f k) = tab (k + 1) f ++ List.replicate (n - (k + 1)) 0 := by
  rw [List.set_append, if_neg (by rw [tab_len]; omega), tab_len, Nat.sub_self, tab_succ, List.append_assoc]
  congr 1
  obtain ⟨m, hm⟩ : ∃ m, n - k = m + 1 := ⟨n - k - 1, by omega⟩
  rw [hm, show n - (k + 1) = m by omega]
  simp [List.replicate_succ]
theorem tab_pad_zero {n k : Nat} {f : Nat → Int} (hk : k < n) (h0 : f k = 0) : tab k f ++ List.replicate (n - k) 0 = tab (k + 1) f ++ List.replicate (n - (k + 1)) 0 := by
  rw [tab_succ, List.append_assoc, h0]
  congr 1
  obtain ⟨m, hm⟩ : ∃ m, n - k = m + 1 := ⟨n - k - 1, by omega⟩
  rw [hm, show n - (k + 1) = m by omega]
  simp [List.replicate_succ]
set_option maxHeartbeats 800000 in
set_option maxRecDepth 8000 in
theorem l04Part_any (X : Option Addr) (m cx : Nat) (xs : List Int) (q : Nat) (w : World) (hm : m ≤ 64) (_hq : q ≤ 1000) (hx : Rd w X m (ints xs)) :
    Calls Tryz.prog 111 #[.slice X m cx, .int .i64 q] w fun e w' => ∃ A' c', e = .returned (.slice A' m c') ∧ MkI w w' A' m c' (partG xs q) := by
  have hxl : xs.length = m := by have := hx.1; rwa [ints_length] at this
  have hmk := make_i (P := Tryz.prog) 22 2 Tryz.underlying22 info_i m (by omega)
  have hM0 := Mk.made (E := 2) (n := m) (z := .int .i64 0) (Below.refl w.heap.size w) (by simp only [maxLen]; omega)
  rw [ints_replicate] at hM0
  have HP : Hid (partG xs q = tab m fun i => if pc i = q then xs.getD i 0 else 0) := Lib.hid (by unfold partG; rw [hxl])
  clear hxl
  go_enter Tryz.func111, Tryz.ntmps111
  go_wp2
  clear hmk
  go_loopw [6] (fun i wr => ∃ k : Nat, k ≤ m ∧ i = .int .i64 k ∧ MkI w wr (some ⟨w.heap.size, 0, none⟩) m m ((tab k fun i => if pc i = q then xs.getD i 0 else 0) ++ List.replicate (m - k) 0)) (fun i _ => m - (intOf i).toNat)
  case atStart => exact ⟨0, by omega, rfl, by simpa [tab] using hM0⟩
  case round =>
    obtain ⟨k, hk, rfl, hM⟩ := hrel
    clear hM0
    by_cases hlt : k < m
    · obtain ⟨gx, ox, rfl, hxk, hcx⟩ := (hx.below hM.b).int hlt
      by_cases hpc : pc k = q
      · have hb : (((pc k : Nat) : Int) == (q : Int)) = true := by simp [hpc]
        have hset := (hM.set k (.int .i64 xs[k])).1
        have hf : ((tab k fun i => if pc i = q then xs.getD i 0 else 0) ++ List.replicate (m - k) 0).set k xs[k] = (tab (k + 1) fun i => if pc i = q then xs.getD i 0 else 0) ++ List.replicate (m - (k + 1)) 0 := by
          rw [← tab_pad_set hlt]; simp only [hpc, if_true]; rw [getD_of_lt 0 hxk]
        obtain ⟨hoc, hof⟩ := mkI_at hM hlt
        rw [ints_set, hf] at hset
        have HS := Lib.hid hset
        clear hset hM hpc hf
        go_wp2_with (go_at_call 136; refine (l04Grade_any k _ (by omega)).mono ?_; rintro e w' ⟨rfl, rfl⟩)
        go_roundw
        case rel => exact ⟨k + 1, by omega, by go_num, HS.out⟩
        case measure => simp [intOf]; omega
      · have hb : (((pc k : Nat) : Int) == (q : Int)) = false := by simp; omega
        have HS := Lib.hid (tab_pad_zero (f := fun i => if pc i = q then xs.getD i 0 else 0) hlt (if_neg hpc) ▸ hM)
        clear hM hpc
        go_wp2_with (go_at_call 136; refine (l04Grade_any k _ (by omega)).mono ?_; rintro e w' ⟨rfl, rfl⟩)
        go_roundw
        case rel => exact ⟨k + 1, by omega, by go_num, HS.out⟩
        case measure => simp [intOf]; omega
    · obtain rfl : k = m := by omega
      go_wp2
      go_ret
      exact ⟨_, _, rfl, by rw [HP.out]; simpa using hM⟩
end Go.Proofs.YticofgmmjecleaaGreatDoor
namespace Go.Proofs.YticofgmmjecleaaGreatDoor
abbrev By := List UInt8
/-- The name of a blade. -/
def nameTo (m : Nat) : Nat → By
  | 0 => [101]
  | i + 1 => if bit m i = 1 then nameTo m i ++ [UInt8.ofNat (48 + i)] else nameTo m i
def nameL (n m : Nat) : By := if m = 0 then [49] else nameTo m n
/-- The first blade from i on, among k, with a name. -/
def maskF (n : Nat) (t : By) : Nat → Nat → Option Nat
  | 0, _ => none
  | k + 1, i => if nameL n i = t then some i else maskF n t k (i + 1)
def maskOf (n : Nat) (t : By) : Option Nat := maskF n t (pw n) 0
theorem maskF_lt {n : Nat} {t : By} : ∀ {k i m : Nat}, maskF n t k i = some m → i ≤ m ∧ m < i + k ∧ nameL n m = t
  | 0, i, m, h => by cases h
  | k + 1, i, m, h => by
    unfold maskF at h
    by_cases h1 : nameL n i = t
    · rw [if_pos h1] at h; injection h with h; subst h; exact ⟨Nat.le_refl _, by omega, h1⟩
    · rw [if_neg h1] at h
      have := maskF_lt h
      exact ⟨by omega, by omega, this.2.2⟩
/-- Kinds of what is read: a sum, what follows its first part, a product, what follows its first part, a factor, an atom. -/
inductive Md where
  | sum | sumL (o : List Int) | prod | prodL (o : List Int) | fac | atom
/-- What is read is a multivector. -/
def MuL (P : Int) (n : Nat) (x : List Int) : Prop := x.length = pw n ∧ NumsL P x
end Go.Proofs.YticofgmmjecleaaGreatDoor
namespace Go.Proofs.YticofgmmjecleaaGreatDoor
open Go Go.RowKit
/-- Variable g is just the cells cs. -/
def Glob (w : World) (g : Nat) (cs : Array Value) : Prop := ∃ t fr, w.heap[g]? = some (.cells cs t fr)
theorem Glob.lt {w : World} {g : Nat} {cs : Array Value} (h : Glob w g cs) : g < w.heap.size := by obtain ⟨t, fr, h⟩ := h; exact (Array.getElem?_eq_some_iff.1 h).1
theorem Glob.below {w w' : World} {g : Nat} {cs : Array Value} {B : Nat} (h : Glob w g cs) (hb : Below B w w') (hB : g < B) : Glob w' g cs := by obtain ⟨t, fr, h⟩ := h; exact ⟨t, fr, (hb.block g hB).trans h⟩
theorem Glob.var {P : Program} {w : World} {g : Nat} {cs : Array Value} {nm : String} (h : Glob w g cs) (hg : P.globalNamed nm = some g) : w.var? P nm = some cs := by
  obtain ⟨t, fr, h⟩ := h
  unfold World.var?
  rw [hg]
  simp only [Option.bind_some, h]
theorem glob_of_var {P : Program} {w : World} {g : Nat} {cs : Array Value} {nm : String} (h : w.var? P nm = some cs) (hg : P.globalNamed nm = some g) : Glob w g cs := by
  unfold World.var? at h
  rw [hg] at h
  simp only [Option.bind_some] at h
  split at h
  · rename_i cs' t fr e
    injection h with h
    subst h
    exact ⟨t, fr, e⟩
  · cases h
def pow10Vals : Array Value := (Lib.pow10Tab.map fun z => Value.int .u64 z).toArray
/-- What writing numbers and looking into texts reads of the library's variables. -/
structure Env (w : World) : Prop where
  m : ∃ m, w.cell? ⟨0, 0, none⟩ = some (.int .i64 m)
  p : Glob w 3 pow10Vals
theorem Env.below {w w' : World} {B : Nat} (h : Env w) (hb : Below B w w') (hB : w.heap.size ≤ B) : Env w' :=
  ⟨h.m.imp fun m hm => (hb.cell (Nat.lt_of_lt_of_le (World.block_lt_of_cell? _ _ hm) hB)).trans hm, h.p.below hb (Nat.lt_of_lt_of_le h.p.lt hB)⟩
theorem Env.tab {w : World} (h : Env w) {nm : String} (hg : Tryz.prog.globalNamed nm = some 3) : Lib.TabIs Tryz.prog w nm .u64 Lib.pow10Tab := h.p.var hg
/-- .. and what reading numbers reads besides. -/
structure EnvX (w : World) : Prop where
  e : Env w
  s : ∃ tp p, Glob w 6 #[.iface tp p]
  r : ∃ tp p, Glob w 7 #[.iface tp p]
theorem EnvX.below {w w' : World} {B : Nat} (h : EnvX w) (hb : Below B w w') (hB : w.heap.size ≤ B) : EnvX w' :=
  ⟨h.e.below hb hB, h.s.imp fun _ ⟨p, hp⟩ => ⟨p, hp.below hb (Nat.lt_of_lt_of_le hp.lt hB)⟩, h.r.imp fun _ ⟨p, hp⟩ => ⟨p, hp.below hb (Nat.lt_of_lt_of_le hp.lt hB)⟩⟩
/-- .. and holds whatever is done from block B on. -/
def EnvB (B : Nat) (w : World) : Prop := ∀ w', Below B w w' → EnvX w'
theorem EnvX.b {w : World} (h : EnvX w) : EnvB w.heap.size w := fun _ hb => h.below hb (Nat.le_refl _)
theorem EnvB.here {B : Nat} {w : World} (h : EnvB B w) : EnvX w := h w (Below.refl _ _)
theorem EnvB.on {B : Nat} {w w' : World} (h : EnvB B w) (hb : Below B w w') : EnvB B w' := fun _ h2 => h _ (hb.trans h2)
theorem EnvB.mono {B B' : Nat} {w : World} (h : EnvB B w) (hB : B ≤ B') : EnvB B' w := fun _ hb => h _ (hb.mono hB)
/-- All but block g is as it was. -/
structure Ex (g : Nat) (w w' : World) : Prop where
  b : Below g w w'
  k : ∀ k, k < w.heap.size → k ≠ g → w'.heap[k]? = w.heap[k]?
section
variable {g : Nat} {w w' w1 w2 : World}
theorem Ex.refl (g : Nat) (w : World) : Ex g w w := ⟨Below.refl _ _, fun _ _ _ => rfl⟩
theorem Ex.size (h : Ex g w w') : w.heap.size ≤ w'.heap.size := h.b.size
theorem Ex.of_below (hb : Below w.heap.size w w') (hg : g ≤ w.heap.size) : Ex g w w' := ⟨hb.mono hg, fun k hk _ => hb.block k hk⟩
theorem Ex.trans (h : Ex g w w1) (h' : Ex g w1 w2) : Ex g w w2 := ⟨h.b.trans h'.b, fun k hk hne => (h'.k k (Nat.lt_of_lt_of_le hk h.b.size) hne).trans (h.k k hk hne)⟩
theorem Ex.then (h : Ex g w w1) (hb : Below w1.heap.size w1 w2) (hg : g ≤ w.heap.size) : Ex g w w2 := h.trans (Ex.of_below hb (Nat.le_trans hg h.size))
theorem Ex.down {w0 : World} (h : Ex g w w') (hb : Below w0.heap.size w0 w) (hg : w0.heap.size ≤ g) : Below w0.heap.size w0 w' := hb.trans (h.b.mono hg)
theorem Ex.set (hg : g < w.heap.size) (i : Nat) (u : Value) : Ex g w (w.setCell ⟨g, i, none⟩ u) :=
  ⟨(Below.refl _ _).setCell (p := ⟨g, i, none⟩) (Nat.le_refl _) _, fun k _ hne => Below.heap_setCell w ⟨g, i, none⟩ u k hne⟩
theorem Blk.ex {g' : Nat} {t : TypeId} {cs : Array Value} (h : Blk w g' t cs) (d : Ex g w w') (hne : g' ≠ g) : Blk w' g' t cs := (d.k g' h.lt hne).trans h
theorem Own.ex {B : Nat} {E T : TypeId} {A : Option Addr} {n c : Nat} {us : List Value} {cs : Array Value} (h : Own w B E A n c us) (d : Ex g w w') (k : Blk w g T cs) (hne : E ≠ T) : Own w' B E A n c us := by
  have hn := h.ne_blk k hne
  refine ⟨h.1, ?_⟩
  rcases h.2 with hz | ⟨g', cap, cur, he, hB, hg, r⟩
  · exact .inl hz
  · refine .inr ⟨g', cap, cur, he, hB, (d.k g' (Array.getElem?_eq_some_iff.1 hg).1 fun e => hn ?_).trans hg, r⟩
    rw [he, ← e]; rfl
theorem Rd.ex {A : Option Addr} {n : Nat} {us : List Value} (h : Rd w A n us) (d : Ex g w w') (hA : ∀ a, A = some a → a.block < g) : Rd w' A n us :=
  ⟨h.1, fun hn => by
    obtain ⟨b, o, e, hc⟩ := h.2 hn
    exact ⟨b, o, e, fun k u hu => (d.b.cell (show b < g from hA _ e)).trans (hc k u hu)⟩⟩
end
theorem bs_len (l : By) : (ByteArray.mk l.toArray).size = l.length := by show l.toArray.size = _; simp
theorem cat_bs {P : Program} (w : World) (x y : By) (hx : x.length ≤ 4294967296) (hy : y.length ≤ 4294967296) : (Op.stringOp .add ⟨x.toArray⟩ ⟨y.toArray⟩).run P w = .ok (.string ⟨(x ++ y).toArray⟩) w := by
  rw [run_string_add_sum w _ _ (by rw [bs_len, bs_len]; omega), ByteArray.mk_append_mk]
end Go.Proofs.YticofgmmjecleaaGreatDoor
namespace Go.Proofs.YticofgmmjecleaaGreatDoor
open Go Go.RowKit
theorem max_of {W : World} (hsh : W.ShapedOpen Tryz.prog) : ∃ m, W.cell? ⟨0, 0, none⟩ = some (.int .i64 m) :=
  cell_of_shapedOpen_int (P := Tryz.prog) (t := 3) (zero := #[.int .i64 0]) hsh (of_decide_eq_true (by kernel_rfl)) (by kernel_rfl) rfl (by kernel_rfl) (by kernel_rfl) Tryz.underlying3
theorem pow_eq : (Rows.laid_internal_strconv_uint64pow10 : DataW Unit) = Lib.tabData .u64 Lib.pow10Tab := by kernel_rfl
theorem pow_of {nm : String} {rest : List (String × DataW Unit)} {W : World} (h : laidMet Tryz.prog ((nm, Rows.laid_internal_strconv_uint64pow10) :: rest) W) (hg : Tryz.prog.globalNamed nm = some 3) : Glob W 3 pow10Vals := by
  rw [pow_eq] at h
  exact glob_of_var (Lib.tabIs_of_head (t := 186) (e := 58) (n := 20) hg (by kernel_rfl) (by kernel_rfl) (by kernel_rfl) (by kernel_rfl) (by kernel_rfl) h) hg
theorem env_of {n0 n1 n2 : String} {d0 d1 : DataW Unit} {r : List (String × DataW Unit)} {W : World} (hsh : W.ShapedOpen Tryz.prog)
    (hL : laidMet Tryz.prog ((n0, d0) :: (n1, d1) :: (n2, Rows.laid_internal_strconv_uint64pow10) :: r) W) (h2 : Tryz.prog.globalNamed n2 = some 3) : Env W :=
  ⟨max_of hsh, pow_of hL.tail.tail h2⟩
end Go.Proofs.YticofgmmjecleaaGreatDoor

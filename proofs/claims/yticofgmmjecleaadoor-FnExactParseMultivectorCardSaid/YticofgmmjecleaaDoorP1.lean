/-
  LawParseMultivector: part 1 of the texts that the proof needs. No condition.
-/
import Derived.Test.YticofgmmjecleaaDoorRows
import Derived.WalkKit
import Derived.Lib.Hide
import Derived.Deep.LoopGhost
import Derived.Deep.Draws
import Derived.Deep.OwnRows
import Derived.Maps.AppendAt
import Derived.OwnWalk
import Derived.Deep.MidRow
import Derived.IntWalk
import Derived.Deep.QuietTactic
import Derived.BigQuiet
import Derived.ProofKit
import Derived.OpenShut
import Derived.Lib.SmallJoins
import Derived.Deep.Strs
import Derived.Deep.RegionHeld3
import Derived.Deep.AppendLies
import Derived.WalkSpells
import Derived.Lib.ItoaNum
import Derived.Lib.SlTrimSet
import Derived.Lib.LaidTab
import Derived.Deep.DeepHandedRow
import Derived.Shelf.Vars
import Derived.Stop.LaidErr
import Derived.Lay
import Derived.ChangeMaps5
import Derived.Shelf.LaysM
import Derived.Shelf.LaysC
import Derived.Shelf.Strings.Cut
import Derived.Shelf.Strings.SplitShaped
import Derived.Shelf.Strings.Shaped
import Derived.Shelf.Strings.Prefix
import Derived.Shelf.Strings.SlTrimAscii
import Derived.Shelf.Strconv.Itoa4
import Derived.Shelf.Strconv.ErrVarParseInt
import Derived.Lib.Split
import Derived.Lib.SplitLaws
import Derived.Lib.Replace
import Derived.Lib.ParseIntBTie
import Derived.Lib.AppendIntMem
import Derived.Laws.IdiomStrings
import Derived.Deep.Light
import Derived.Test.YticofgmmjecleaaDoorCards
import Derived.Test.YticofgmmjecleaaDoorTie
import Derived.SevenTiedAt
namespace Go.Proofs.YticofgmmjecleaaDoor
open Go.RowKit
/-- The values of a list of numbers. -/
def ints (xs : List Int) : List Value := xs.map (Value.int .i64)
theorem ints_length (xs : List Int) : (ints xs).length = xs.length := by simp [ints]
theorem ints_get (xs : List Int) (k : Nat) (h : k < xs.length) : (ints xs)[k]? = some (.int .i64 xs[k]) := by simp [ints, h]
/-- The slice of n places at A reads as the values us. -/
def Rd (w : World) (A : Option Addr) (n : Nat) (us : List Value) : Prop :=
  us.length = n ∧ (0 < n → ∃ g o, A = some ⟨g, o, none⟩ ∧ ∀ k u, us[k]? = some u → w.cell? ⟨g, o + k, none⟩ = some u)
theorem Rd.nil (w : World) (A : Option Addr) : Rd w A 0 [] := ⟨rfl, fun h => absurd h (by omega)⟩
theorem Rd.keep {w w' : World} {A : Option Addr} {n : Nat} {us : List Value} (h : Rd w A n us)
    (hk : ∀ p : Addr, p.block < w.heap.size → w'.cell? p = w.cell? p) : Rd w' A n us :=
  ⟨h.1, fun hn => by
    obtain ⟨g, o, e, hc⟩ := h.2 hn
    exact ⟨g, o, e, fun k u hu => (hk _ (World.block_lt_of_cell? w _ (hc k u hu))).trans (hc k u hu)⟩⟩
theorem Rd.below {w w' : World} {A : Option Addr} {n : Nat} {us : List Value} (h : Rd w A n us) (hb : Below w.heap.size w w') : Rd w' A n us :=
  h.keep fun _ hp => hb.cell hp
/-- Place k of a slice of numbers. -/
theorem Rd.int {w : World} {A : Option Addr} {n : Nat} {xs : List Int} (h : Rd w A n (ints xs)) {k : Nat} (hk : k < n) :
    ∃ g o, A = some ⟨g, o, none⟩ ∧ ∃ hx : k < xs.length, w.cell? ⟨g, o + k, none⟩ = some (.int .i64 xs[k]) := by
  obtain ⟨g, o, e, hc⟩ := h.2 (by omega)
  have hl : k < xs.length := by have := h.1; rw [ints_length] at this; omega
  exact ⟨g, o, e, hl, hc k _ (ints_get xs k hl)⟩

/-- The slice of n places (capacity c) at A is a row of the call's own, in a block from B on, which holds the values us of type E. -/
def Own (w : World) (B : Nat) (E : TypeId) (A : Option Addr) (n c : Nat) (us : List Value) : Prop := w.ownsRow B E 1 (.slice A n c) n us
section
variable {w w' w0 w1 : World} {B B' : Nat} {E : TypeId} {A : Option Addr} {n c : Nat} {us : List Value}
theorem Own.len (h : Own w B E A n c us) : us.length = n := by have := h.1; simpa using this
theorem Own.rd (h : Own w B E A n c us) : Rd w A n us := by
  refine ⟨h.len, fun hn => ?_⟩
  rcases h.2 with ⟨_, h0⟩ | ⟨g, cap, cur, he, _⟩
  · omega
  · injection he with hA
    subst hA
    refine ⟨g, 0, rfl, fun k u hu => ?_⟩
    have := World.ownsRow.cells (g := g) h rfl k u hu
    rwa [Addr.add_lit] at this
theorem Own.below (h : Own w B E A n c us) (hb : Below w.heap.size w w') : Own w' B E A n c us := by
  refine ⟨h.1, ?_⟩
  rcases h.2 with hn | ⟨g, cap, cur, he, hB, hg, r⟩
  · exact .inl hn
  · exact .inr ⟨g, cap, cur, he, hB, (hb.block g (Array.getElem?_eq_some_iff.1 hg).1).trans hg, r⟩
theorem Own.base (h : Own w B E A n c us) (hB : B' ≤ B) : Own w B' E A n c us := by
  refine ⟨h.1, ?_⟩
  rcases h.2 with hn | ⟨g, cap, cur, he, hb, r⟩
  · exact .inl hn
  · exact .inr ⟨g, cap, cur, he, by omega, r⟩
theorem Own.form (h : Own w B E A n c us) : (A = none ∧ n = 0) ∨ ∃ g, A = some ⟨g, 0, none⟩ ∧ B ≤ g ∧ g < w.heap.size := by
  rcases h.2 with ⟨he, h0⟩ | ⟨g, cap, cur, he, hB, hg, _⟩
  · injection he with hA; exact .inl ⟨hA, h0⟩
  · injection he with hA; exact .inr ⟨g, hA, hB, (Array.getElem?_eq_some_iff.1 hg).1⟩
theorem Own.cap (h : Own w B E A n c us) : n ≤ c := by
  rcases h.2 with ⟨he, h0⟩ | ⟨g, cap, cur, he, _, _, hc, _⟩
  · omega
  · injection he with _ _ hc'; omega
theorem Own.grown {row : Option Nat} (h : Own w B E A n c us) (hg : w.grownBy w' row) (hne : (Value.slice A n c).ownBlock = none ∨ (Value.slice A n c).ownBlock ≠ row) : Own w' B E A n c us := h.kept hg hne
theorem Own.setBelow (h : Own w B E A n c us) {p : Addr} (hp : p.block < B) (u : Value) : Own (w.setCell p u) B E A n c us := ownsRow_setCell_below h hp u
/-- The row's length cut down. -/
theorem Own.cut {k : Nat} (h : Own w B E A n c us) (hk : k ≤ n) : Own w B E A k c (us.take k) := by
  refine ⟨by rw [List.length_take, h.len]; omega, ?_⟩
  rcases h.2 with ⟨he, h0⟩ | ⟨g, cap, cur, he, hB, hg, hnc, hcm, hcs, ht⟩
  · left; injection he with e1 e2 e3; subst e1; subst e3; exact ⟨by congr; omega, by omega⟩
  · injection he with e1 e2 e3
    subst e1; subst e3
    refine .inr ⟨g, c, cur, rfl, hB, hg, by omega, hcm, hcs, ?_⟩
    rw [← ht, List.take_take]; congr 1; omega
/-- What was there when the call began (world w0) is as it was, and the row is the call's own. -/
def Mk (w0 w : World) (E : TypeId) (A : Option Addr) (n c : Nat) (us : List Value) : Prop := Below w0.heap.size w0 w ∧ Own w w0.heap.size E A n c us
theorem Mk.b (h : Mk w0 w E A n c us) : Below w0.heap.size w0 w := h.1
theorem Mk.rd (h : Mk w0 w E A n c us) : Rd w A n us := h.2.rd
theorem Mk.nil (h : Below w0.heap.size w0 w) : Mk w0 w E none 0 0 [] := ⟨h, World.ownsRow_nil _ _ _ _⟩
theorem Mk.lit (h : Below w0.heap.size w0 w) (cs : Array Value) (hm : cs.size ≤ maxLen) : Mk w0 (w.alloc (.cells cs E)) E (some ⟨w.heap.size, 0, none⟩) cs.size cs.size cs.toList :=
  ⟨h.alloc h.size _, World.ownsRow_lit w cs cs.size h.size hm (by simp)⟩
theorem heap_past (w : World) (o o' : Obj) (g : Nat) (h : w.heap[g]? = some o') : (w.alloc o).heap[g]? = some o' := (Below.heap_alloc w o g (Array.getElem?_eq_some_iff.1 h).1).trans h
theorem Mk.made {z : Value} (h : Below w0.heap.size w0 w) (hm : n ≤ maxLen) : Mk w0 (w.alloc (.cells (madeCells #[z] n) E)) E (some ⟨w.heap.size, 0, none⟩) n n (List.replicate n z) := by
  have hl := Mk.lit (E := E) h (madeCells #[z] n) (by simpa [size_madeCells] using hm)
  rw [size_madeCells, toList_madeCells_one] at hl
  exact hl
theorem Mk.after (h : Mk w1 w E A n c us) (hb : Below w0.heap.size w0 w1) : Mk w0 w E A n c us :=
  ⟨hb.trans (h.1.mono hb.size), h.2.base hb.size⟩
theorem Mk.below (h : Mk w0 w E A n c us) (hb : Below w.heap.size w w') : Mk w0 w' E A n c us :=
  ⟨h.1.trans (hb.mono h.1.size), h.2.below hb⟩
theorem Mk.drewN (h : Mk w0 w E A n c us) (k : Nat) : Mk w0 (w.drewN k) E A n c us := h.below (⟨rfl, rfl, rfl, Nat.le_refl _, fun _ _ => rfl⟩)
theorem Mk.drew (h : Mk w0 w E A n c us) : Mk w0 w.drew E A n c us := h.below (⟨rfl, rfl, rfl, Nat.le_refl _, fun _ _ => rfl⟩)
theorem Mk.alloc (h : Mk w0 w E A n c us) (o : Obj) : Mk w0 (w.alloc o) E A n c us := h.below ((Below.refl _ _).alloc (Nat.le_refl _) _)
variable {g : Nat}
theorem Own.cellI {xs : List Int} (h : Own w B E (some ⟨g, 0, none⟩) n c (ints xs)) {k : Nat} (hk : k < n) : ∃ x, w.cell? ⟨g, k, none⟩ = some (.int .i64 x) := by
  have hl : k < xs.length := by have := h.len; rw [ints_length] at this; omega
  exact ⟨xs[k], (World.ownsRow.cellAt h k (by omega)).trans (ints_get xs k hl)⟩
theorem Own.frozen_ (h : Own w B E (some ⟨g, 0, none⟩) n c us) (k : Nat) : w.frozen? ⟨g, k, none⟩ = false := World.ownsRow.frozenAt h k
theorem Mk.set (h : Mk w0 w E (some ⟨g, 0, none⟩) n c us) (k : Nat) (u : Value) : Mk w0 (w.setCell ⟨g, k, none⟩ u) E (some ⟨g, 0, none⟩) n c (us.set k u) ∧ w.grownBy (w.setCell ⟨g, k, none⟩ u) (some g) := by
  obtain ⟨h1, h2⟩ := World.ownsRow.stored h.2 k u
  exact ⟨⟨h.1.setCell (h.2.lt g rfl).1 _, h1⟩, h2⟩
end
theorem info_i : (Tryd.prog.info? 2).map (fun i => (i.zero, i.size, i.bytes)) = some (some (.int .i64 0), 1, 8) := by kernel_rfl
/-- A row of numbers that the call made. -/
abbrev MkI (w0 w : World) (A : Option Addr) (n c : Nat) (xs : List Int) : Prop := Mk w0 w 2 A n c (ints xs)
theorem ints_replicate (n : Nat) : List.replicate n (Value.int .i64 0) = ints (List.replicate n 0) := by simp [ints]
theorem ints_set (xs : List Int) (k : Nat) (x : Int) : (ints xs).set k (.int .i64 x) = ints (xs.set k x) := by simp [ints, List.map_set]
theorem make_i {P : Program} (t e : TypeId) (ht : P.underlying t = some (.slice e)) (hi : (P.info? e).map (fun i => (i.zero, i.size, i.bytes)) = some (some (.int .i64 0), 1, 8)) (n : Nat) (hn : n ≤ 1099511627776) :
    ∀ w : World, (Instr.makeSlice t (.int .i64 (n : Int)) (.int .i64 (n : Int))).run P w = .ok (.slice (some ⟨w.heap.size, 0, none⟩) n n) (w.alloc (.cells (madeCells #[.int .i64 0] n) e)) :=
  run_make_row' t e (.int .i64 0) 8 ht hi rfl .i64 .i64 n (by omega) (by omega)
theorem below_drewN {B : Nat} {a w : World} (h : Below B a w) (n : Nat) : Below B a (w.drewN n) := ⟨h.os, h.tape, h.output, h.size, h.block⟩
theorem quiet_left' {P : Program} {f : FuncId} {args : Array Value} {w : World} {n : Nat} {v : Value}
    (h : Calls P f args (w.drewN n) fun e w' => e = .returned v ∧ w.drewN n = w') : Calls P f args (w.drewN n) fun e w'' => e = .returned v ∧ ∃ m, w'' = w.drewN m :=
  h.mono fun _ _ ⟨he, hm⟩ => ⟨he, n, hm.symm⟩
theorem keepB2 {B : Nat} {W0 w1 w2 : World} {p q : Addr} {u v : Value} (h : w1.cell? p = some u ∧ w1.cell? q = some v ∧ Below B W0 w1) (hb : Below w1.heap.size w1 w2) (hB : B ≤ W0.heap.size) :
    w2.cell? p = some u ∧ w2.cell? q = some v ∧ Below B W0 w2 :=
  ⟨(hb.cell (World.block_lt_of_cell? _ _ h.1)).trans h.1, (hb.cell (World.block_lt_of_cell? _ _ h.2.1)).trans h.2.1, h.2.2.trans (hb.mono (Nat.le_trans hB h.2.2.size))⟩
/-- Two slices lie in different blocks. -/
def Apart (v v' : Value) : Prop := ∀ g, v.ownBlock = some g → v'.ownBlock ≠ some g
theorem Apart.symm {v v' : Value} (h : Apart v v') : Apart v' v := fun g h1 h2 => h g h2 h1
theorem Apart.row {v v' : Value} (h : Apart v v') : v'.ownBlock = none ∨ v'.ownBlock ≠ v.ownBlock := by
  cases hv : v.ownBlock with
  | none => cases hv' : v'.ownBlock <;> simp
  | some g => exact .inr (h g hv)
theorem Own.apart {E E' : TypeId} {A A' : Option Addr} {n n' c c' : Nat} {us us' : List Value} {B : Nat} {w w' : World} (h : Own w B E A n c us) (h' : Own w' w.heap.size E' A' n' c' us') : Apart (.slice A n c) (.slice A' n' c') := fun g h1 h2 => by
  have a := (World.ownsRow.lt h g h1).2
  have b := (World.ownsRow.lt h' g h2).1
  omega
theorem Own.apart_of {E E' : TypeId} {A A' : Option Addr} {n n' c c' : Nat} {us us' : List Value} {B B' : Nat} {w w' : World} (h : Own w B E A n c us) (h' : Own w' B' E' A' n' c' us') (hB : w.heap.size ≤ B') : Apart (.slice A n c) (.slice A' n' c') := fun g h1 h2 => by
  have a := (World.ownsRow.lt h g h1).2
  have b := (World.ownsRow.lt h' g h2).1
  omega
theorem Own.grown_below {E : TypeId} {A : Option Addr} {n c : Nat} {us : List Value} {B : Nat} {a w w' : World} (h : Own w B E A n c us) (hg : w.grownBy w' (Value.slice A n c).ownBlock) (hb : Below B a w) (hB : B ≤ w.heap.size) : Below B a w' :=
  hb.grown hg hB fun k hk => (World.ownsRow.lt h k hk).1
/-- Block g is just the cells cs of type t, none frozen. -/
def Blk (w : World) (g : Nat) (t : TypeId) (cs : Array Value) : Prop := w.heap[g]? = some (.cells cs t (0, 0))
section
variable {w w' : World} {g : Nat} {t : TypeId} {cs : Array Value}
theorem Blk.lt (h : Blk w g t cs) : g < w.heap.size := (Array.getElem?_eq_some_iff.1 h).1
theorem Blk.cell (h : Blk w g t cs) (i : Nat) : w.cell? ⟨g, i, none⟩ = cs[i]? := cell_of_row w g i cs t (0, 0) h
theorem Blk.frozen (h : Blk w g t cs) (i : Nat) : w.frozen? ⟨g, i, none⟩ = false := by
  unfold Blk at h
  simp [World.frozen?, h]
theorem Blk.new (w : World) (t : TypeId) (cs : Array Value) : Blk (w.alloc (.cells cs t)) w.heap.size t cs := heap_alloc_new w _
theorem Blk.alloc (h : Blk w g t cs) (o : Obj) : Blk (w.alloc o) g t cs := heap_past w o _ g h
theorem Blk.below {B : Nat} (h : Blk w g t cs) (hb : Below B w w') (hg : g < B) : Blk w' g t cs := (hb.block g hg).trans h
theorem Blk.grown {row : Option Nat} (h : Blk w g t cs) (hb : w.grownBy w' row) (hg : some g ≠ row) : Blk w' g t cs := (hb.block g h.lt hg).trans h
theorem Blk.drew (h : Blk w g t cs) : Blk w.drew g t cs := h
theorem Blk.range (h : Blk w g t cs) : w.rangeAt g 0 cs.toList := fun j v hv => by
  rw [h.cell, Nat.zero_add]; simpa using hv
theorem Blk.two {a b : Value} (h : Blk w g t #[a, b]) : w.cell? ⟨g, 0, none⟩ = some a ∧ w.cell? ⟨g, 1, none⟩ = some b := ⟨h.cell 0, h.cell 1⟩
theorem Blk.there (h : Blk w g t cs) : w.there g 0 cs.size := fun j hj => by
  refine ⟨?_, h.frozen _⟩
  rw [h.cell, Nat.zero_add, Array.getElem?_eq_getElem hj]; rfl
theorem Own.ne_blk {B : Nat} {E : TypeId} {A : Option Addr} {n c : Nat} {us : List Value} (h : Own w B E A n c us) (hb : Blk w g t cs) (hE : E ≠ t) : some g ≠ (Value.slice A n c).ownBlock := by
  rcases h.2 with ⟨he, _⟩ | ⟨g', cap, cur, he, _, hg', _⟩
  · injection he with hA; subst hA; simp [Value.ownBlock]
  · injection he with hA; subst hA
    simp only [Value.ownBlock, ne_eq, Option.some.injEq]
    rintro rfl
    unfold Blk at hb
    rw [hb] at hg'
    injection hg' with hg'
    injection hg' with _ ht
    exact hE ht.symm
end
theorem Blk.set_ {w : World} {g : Nat} {t : TypeId} {cs : Array Value} (h : Blk w g t cs) (i : Nat) (u : Value) : Blk (w.setCell ⟨g, i, none⟩ u) g t (cs.setIfInBounds i u) := by
  unfold Blk at h ⊢
  simp [World.setCell, Array.getElem?_modify, h]
theorem Blk.far {w : World} {g : Nat} {t : TypeId} {cs : Array Value} (h : Blk w g t cs) {p : Addr} (hp : g ≠ p.block) (u : Value) : Blk (w.setCell p u) g t cs := (Below.heap_setCell w p u g hp).trans h
theorem Own.far {w : World} {g : Nat} {t E : TypeId} {cs : Array Value} {B : Nat} {A : Option Addr} {n c : Nat} {us : List Value} (h : Own w B E A n c us) (k : Blk w g t cs) (hE : E ≠ t) (i : Nat) (u : Value) : Own (w.setCell ⟨g, i, none⟩ u) B E A n c us := by
  have hne := h.ne_blk k hE
  refine ⟨h.1, ?_⟩
  rcases h.2 with hn | ⟨g', cap, cur, he, hB, hg, r⟩
  · exact .inl hn
  · refine .inr ⟨g', cap, cur, he, hB, ?_, r⟩
    rw [Below.heap_setCell _ _ _ _ (fun e => hne (by rw [he]; simp [Value.ownBlock, e]))]
    exact hg
theorem ret_bool {a b : Bool} (h : a = b) : Ending.returned (.bool a) = .returned (.bool b) := by rw [h]
theorem ret_int {k : IntKind} {a b : Int} (h : a = b) : Ending.returned (.int k a) = .returned (.int k b) := by rw [h]
end Go.Proofs.YticofgmmjecleaaDoor
namespace Go.Proofs.YticofgmmjecleaaDoor
open Go.RowKit
theorem take_succ_eq (xs ys : List Int) (k : Nat) (hx : k < xs.length) (hy : k < ys.length) (h : xs.take k = ys.take k) (he : xs[k] = ys[k]) :
    xs.take (k + 1) = ys.take (k + 1) := by
  rw [List.take_succ_eq_append_getElem hx, List.take_succ_eq_append_getElem hy, h, he]
theorem ne_of_get (xs ys : List Int) (k : Nat) (hx : k < xs.length) (hy : k < ys.length) (he : (xs[k] != ys[k]) = true) : decide (xs = ys) = false := by
  rw [decide_eq_false_iff_not]
  rintro rfl
  simp at he
set_option maxHeartbeats 400000 in
set_option maxRecDepth 8000 in
theorem eqInt64S_any (A B : Option Addr) (n m c d : Nat) (xs ys : List Int) (w : World) (hn : n ≤ 1099511627776) (hm : m ≤ 1099511627776)
    (ha : Rd w A n (ints xs)) (hb : Rd w B m (ints ys)) :
    Calls Tryd.prog 8 #[.slice A n c, .slice B m d] w fun e w' => e = .returned (.bool (decide (xs = ys))) ∧ ∃ j, w' = w.drewN j := by
  have hxl : xs.length = n := by have := ha.1; rwa [ints_length] at this
  have hyl : ys.length = m := by have := hb.1; rwa [ints_length] at this
  by_cases hnm : n = m
  · subst hnm
    have Hx := Lib.hid hxl; clear hxl
    have Hy := Lib.hid hyl; clear hyl
    go_enter Tryd.func8, Tryd.ntmps8
    go_wp2
    go_loopw [5] (fun i wr => ∃ k j : Nat, k ≤ n ∧ i = .int .i64 k ∧ xs.take k = ys.take k ∧ wr = w.drewN j) (fun i _ => n - (intOf i).toNat)
    case atStart => exact ⟨0, 0, by omega, rfl, by simp, rfl⟩
    case round =>
      obtain ⟨k, j, hk, rfl, hxy, rfl⟩ := hrel
      have H := Lib.hid hxy; clear hxy
      by_cases hlt : k < n
      · obtain ⟨g, o, rfl, hx, hcx⟩ := ha.int hlt
        obtain ⟨g', o', rfl, hy, hcy⟩ := hb.int hlt
        clear ha hb
        go_wp2
        go_quiet (fail)
        go_wp2
        · go_ret
          exact ⟨ret_bool (ne_of_get xs ys k hx hy (by assumption)).symm, _, World.drewN_drewN _ _ _⟩
        · go_roundw
          case rel => exact ⟨k + 1, _, by omega, by go_num, take_succ_eq xs ys k hx hy H.out (by simpa using (by assumption : (xs[k] != ys[k]) = false)), rfl⟩
          case measure => simp [intOf]; omega
      · go_wp2
        go_ret
        refine ⟨ret_bool ?_, _, rfl⟩
        have := H.out
        rw [List.take_of_length_le (by rw [Hx.out]; omega), List.take_of_length_le (by rw [Hy.out]; omega)] at this
        rw [this]; simp
  · have hne : decide (xs = ys) = false := by
      rw [decide_eq_false_iff_not]; rintro rfl; omega
    have Hne := Lib.hid hne; clear hne hxl hyl
    have hb0 : ((n : Int) != (m : Int)) = true := by rw [bne_iff_ne]; omega
    go_enter Tryd.func8, Tryd.ntmps8
    go_wp2
    go_ret
    exact ⟨ret_bool Hne.out.symm, 0, rfl⟩
end Go.Proofs.YticofgmmjecleaaDoor
namespace Go.Proofs.YticofgmmjecleaaDoor
open Go.RowKit
theorem set_copy (xs : List Int) (n k : Nat) (hx : k < xs.length) (hn : xs.length = n) :
    (xs.take k ++ List.replicate (n - k) 0).set k xs[k] = xs.take (k + 1) ++ List.replicate (n - (k + 1)) 0 := by
  have hl : (xs.take k).length = k := by simp; omega
  rw [List.set_append, if_neg (by omega), hl, Nat.sub_self, List.take_succ_eq_append_getElem hx, List.append_assoc]
  congr 1
  obtain ⟨m, hm⟩ : ∃ m, n - k = m + 1 := ⟨n - k - 1, by omega⟩
  rw [hm, show n - (k + 1) = m by omega]
  simp [List.replicate_succ]
set_option maxHeartbeats 400000 in
set_option maxRecDepth 8000 in
theorem toInt64S_any (A : Option Addr) (n c : Nat) (xs : List Int) (w : World) (hn : n ≤ 1099511627776) (ha : Rd w A n (ints xs)) :
    Calls Tryd.prog 19 #[.slice A n c] w fun e w' => ∃ A' c', e = .returned (.slice A' n c') ∧ MkI w w' A' n c' xs := by
  have hxl : xs.length = n := by have := ha.1; rwa [ints_length] at this
  have Hx := Lib.hid hxl; clear hxl
  have hmk := make_i (P := Tryd.prog) 22 2 Tryd.underlying22 info_i n hn
  have hM0 := Mk.made (E := 2) (n := n) (z := .int .i64 0) (Below.refl w.heap.size w) (by simp only [maxLen]; omega)
  rw [ints_replicate] at hM0
  go_enter Tryd.func19, Tryd.ntmps19
  go_wp2
  clear hmk
  go_loopw [4] (fun i wr => ∃ k : Nat, k ≤ n ∧ i = .int .i64 k ∧ MkI w wr (some ⟨w.heap.size, 0, none⟩) n n (xs.take k ++ List.replicate (n - k) 0)) (fun i _ => n - (intOf i).toNat)
  case atStart => exact ⟨0, by omega, rfl, by simpa using hM0⟩
  case round =>
    obtain ⟨k, hk, rfl, hM⟩ := hrel
    clear hM0
    by_cases hlt : k < n
    · obtain ⟨g, o, rfl, hx, hcx⟩ := ha.int hlt
      have hc0 : wr.cell? ⟨g, o + k, none⟩ = some (.int .i64 xs[k]) := (hM.1.cell (World.block_lt_of_cell? _ _ hcx)).trans hcx
      obtain ⟨u1, hc1⟩ := hM.2.cellI hlt
      have hf1 := hM.2.frozen_ k
      have hset := (hM.set k (.int .i64 xs[k])).1
      rw [ints_set, set_copy xs n k hx Hx.out] at hset
      have HM := Lib.hid hset
      clear ha hM hset
      go_wp2
      go_roundw
      case rel => exact ⟨k + 1, by omega, by go_num, HM.out⟩
      case measure => simp [intOf]; omega
    · go_wp2
      go_ret
      obtain rfl : k = n := by omega
      rw [List.take_of_length_le (by rw [Hx.out]; omega)] at hM
      exact ⟨_, _, rfl, by simpa using hM⟩
/-- The numbers k, k + 1, .. of n places. -/
def marks (k : Int) (n : Nat) : List Int := (List.range n).map fun (i : Nat) => k + i
theorem marks_length (k : Int) (n : Nat) : (marks k n).length = n := by simp [marks]
theorem marks_get (k : Int) (n j : Nat) (h : j < n) : (marks k n)[j]'(by rw [marks_length]; exact h) = k + j := by simp [marks]
theorem set_mark (xs : List Int) (n j : Nat) (k : Int) (hj : j < n) (hn : xs.length = n) :
    (marks k j ++ xs.drop j).set j (k + j) = marks k (j + 1) ++ xs.drop (j + 1) := by
  rw [List.set_append, if_neg (by rw [marks_length]; omega), marks_length, Nat.sub_self]
  have : marks k (j + 1) = marks k j ++ [k + j] := by simp [marks, List.range_succ]
  rw [this, List.append_assoc]
  congr 1
  rw [List.drop_eq_getElem_cons (by omega)]
  rfl
set_option maxHeartbeats 400000 in
set_option maxRecDepth 8000 in
theorem markInt64S_any (B : Nat) (A : Option Addr) (n c : Nat) (xs : List Int) (k : Int) (w : World) (hn : n ≤ 1099511627776) (hk0 : 0 ≤ k) (hk : k ≤ 1099511627776) (ha : Own w B 2 A n c (ints xs)) :
    Calls Tryd.prog 11 #[.slice A n c, .int .i64 k] w fun e w' => e = .returned (.int .i64 (k + n)) ∧ Own w' B 2 A n c (ints (marks k n)) ∧ w.grownBy w' (Value.slice A n c).ownBlock := by
  have hxl : xs.length = n := by have := ha.len; rwa [ints_length] at this
  have Hx := Lib.hid hxl; clear hxl
  go_enter Tryd.func11, Tryd.ntmps11
  go_wp2
  go_loopw [1, 5] (fun m i wr => ∃ j : Nat, j ≤ n ∧ i = .int .i64 j ∧ m = .int .i64 (k + j) ∧ Own wr B 2 A n c (ints (marks k j ++ xs.drop j)) ∧ w.grownBy wr (Value.slice A n c).ownBlock) (fun _ i _ => n - (intOf i).toNat)
  case atStart => exact ⟨0, by omega, rfl, by simp, by simpa [marks] using ha, World.grownBy.refl _ _⟩
  case round =>
    obtain ⟨j, hj, rfl, rfl, hO, hG⟩ := hrel
    clear ha
    by_cases hlt : j < n
    · rcases hO.form with ⟨_, h0⟩ | ⟨g, rfl, hB, hgl⟩
      · omega
      obtain ⟨u1, hc1⟩ := hO.cellI hlt
      have hf1 := hO.frozen_ j
      obtain ⟨hs1, hs2⟩ := World.ownsRow.stored hO j (.int .i64 (k + j))
      rw [ints_set, set_mark xs n j k hlt Hx.out] at hs1
      have HO := Lib.hid hs1
      have HG := Lib.hid (hG.trans hs2)
      clear hs1 hs2 hO hG
      go_wp2
      go_roundw
      case rel => exact ⟨j + 1, by omega, by go_num, by congr 1; omega, HO.out, HG.out⟩
      case measure => simp [intOf]; omega
    · go_wp2
      go_ret
      obtain rfl : j = n := by omega
      rw [List.drop_of_length_le (by rw [Hx.out]; omega), List.append_nil] at hO
      exact ⟨rfl, hO, hG⟩
set_option maxHeartbeats 400000 in
set_option maxRecDepth 8000 in
theorem heldInt64S_any (A : Option Addr) (n c : Nat) (k : Int) (w : World) (hn : n ≤ 1099511627776) (hk0 : 0 ≤ k) (hk : k ≤ 1099511627776) (ha : Rd w A n (ints (marks k n))) :
    Calls Tryd.prog 12 #[.slice A n c, .int .i64 k] w fun e w' => e = .returned (.int .i64 (k + n)) ∧ w = w' := by
  go_enter Tryd.func12, Tryd.ntmps12
  go_wp2
  go_loop [1, 5] (fun m i => ∃ j : Nat, j ≤ n ∧ i = .int .i64 j ∧ m = .int .i64 (k + j)) (fun _ i => n - (intOf i).toNat)
  case atStart => exact ⟨0, by omega, rfl, by simp⟩
  case round =>
    obtain ⟨j, hj, rfl, rfl⟩ := hrel
    by_cases hlt : j < n
    · obtain ⟨g, o, rfl, hx, hcx⟩ := ha.int hlt
      rw [marks_get k n j hlt] at hcx
      clear ha
      go_wp2
      go_round
      case rel => exact ⟨j + 1, by omega, by go_num, by congr 1; omega⟩
      case measure => simp [intOf]; omega
    · go_wp2
      go_ret
      obtain rfl : j = n := by omega
      exact ⟨rfl, rfl⟩
/-- What is left of a size. -/
def szL (n : Nat) (left : Int) : Int := if left - n < 0 then -1 else left - n
set_option maxHeartbeats 400000 in
set_option maxRecDepth 8000 in
theorem szInt64S_any (A : Option Addr) (n c : Nat) (left : Int) (w : World) (hn : n ≤ 9223372036854775807) (h0 : 0 ≤ left) (h1 : left ≤ 1048576) :
    Calls Tryd.prog 13 #[.slice A n c, .int .i64 left] w fun e w' => e = .returned (.int .i64 (szL n left)) ∧ w = w' := by
  by_cases h : left - n < 0
  · have hs : szL n left = -1 := by unfold szL; rw [if_pos h]
    have H := Lib.hid hs; clear hs
    go_enter Tryd.func13, Tryd.ntmps13
    go_wp2
    go_ret
    exact ⟨ret_int H.out.symm, rfl⟩
  · have hs : szL n left = left - n := by unfold szL; rw [if_neg h]
    have H := Lib.hid hs; clear hs
    go_enter Tryd.func13, Tryd.ntmps13
    go_wp2
    go_ret
    exact ⟨ret_int H.out.symm, rfl⟩
end Go.Proofs.YticofgmmjecleaaDoor
namespace Go.Proofs.YticofgmmjecleaaDoor
open Go.RowKit
set_option maxHeartbeats 400000 in
set_option maxRecDepth 8000 in
theorem eqSpace_any (P P' : Int) (A B : Option Addr) (n m c d : Nat) (xs ys : List Int) (w : World) (hn : n ≤ 1099511627776) (hm : m ≤ 1099511627776)
    (ha : Rd w A n (ints xs)) (hb : Rd w B m (ints ys)) :
    Calls Tryd.prog 9 #[.agg #[.int .i64 P, .slice A n c], .agg #[.int .i64 P', .slice B m d]] w
      fun e w' => e = .returned (.bool (decide (P = P' ∧ xs = ys))) ∧ Below w.heap.size w w' := by
  by_cases hp : P = P'
  · subst hp
    have h0 : (P != P) = false := by simp
    cases hxy : decide (xs = ys)
    all_goals
      have H := Lib.hid hxy; clear hxy
      have hB : Below w.heap.size w ((w.alloc (.cells #[.int .i64 P, .slice A n c] 28)).alloc (.cells #[.int .i64 P, .slice B m d] 28)) := ((Below.refl _ _).alloc (Nat.le_refl _) _).alloc (by simp) _
      go_enter Tryd.func9, Tryd.ntmps9
      go_wp2_with (go_at_call 8; refine (eqInt64S_any _ _ _ _ _ _ _ _ _ hn hm (ha.below hB) (hb.below hB)).mono ?_; rintro e w' ⟨rfl, j, rfl⟩; rw [H.out])
      go_ret
      exact ⟨ret_bool (by have := H.out; simpa using this), below_drewN hB j⟩
  · have h0 : (P != P') = true := by simpa using hp
    go_enter Tryd.func9, Tryd.ntmps9
    go_wp2
    go_ret
    exact ⟨ret_bool (by simp [hp]), ((Below.refl _ _).alloc (Nat.le_refl _) _).alloc (by simp) _⟩
set_option maxHeartbeats 400000 in
set_option maxRecDepth 8000 in
theorem markSpace_any (B : Nat) (P : Int) (A : Option Addr) (n c : Nat) (xs : List Int) (k : Int) (w : World) (hn : n ≤ 1099511627776) (hk0 : 0 ≤ k) (hk : k ≤ 1099511627776) (ha : Own w B 2 A n c (ints xs)) :
    Calls Tryd.prog 10 #[.agg #[.int .i64 P, .slice A n c], .int .i64 k] w
      fun e w' => e = .returned (.int .i64 (k + n)) ∧ Own w' B 2 A n c (ints (marks k n)) ∧ w.grownBy w' (Value.slice A n c).ownBlock := by
  go_enter Tryd.func10, Tryd.ntmps10
  go_wp2_with (go_at_call 11; refine (markInt64S_any B _ _ _ _ _ _ hn hk0 hk (World.ownsRow.alloc ha _)).mono ?_; rintro e w' ⟨rfl, ho, hg⟩)
  go_ret
  exact ⟨rfl, ho, World.grownBy.trans (World.grownBy_alloc w _ _) hg⟩
set_option maxHeartbeats 400000 in
set_option maxRecDepth 8000 in
theorem szSpace_any (P : Int) (A : Option Addr) (n c : Nat) (left : Int) (w : World) (hn : n ≤ 9223372036854775807) (h0 : 0 ≤ left) (h1 : left ≤ 1048576) :
    Calls Tryd.prog 4 #[.agg #[.int .i64 P, .slice A n c], .int .i64 left] w fun e w' => e = .returned (.int .i64 (szL n left)) ∧ Below w.heap.size w w' := by
  by_cases h : left - n < 0
  · have hs : szL n left = -1 := by unfold szL; rw [if_pos h]
    have H := Lib.hid hs; clear hs
    go_enter Tryd.func4, Tryd.ntmps4
    go_wp2_with (go_at_call 13; refine (szInt64S_any _ _ _ _ _ hn h0 h1).mono ?_; rintro e w' ⟨rfl, rfl⟩; rw [H.out])
    go_ret
    exact ⟨ret_int H.out.symm, (Below.refl _ _).alloc (Nat.le_refl _) _⟩
  · have hs : szL n left = left - n := by unfold szL; rw [if_neg h]
    have H := Lib.hid hs; clear hs
    have h2 : decide (left - (n : Int) < 0) = false := by simpa using h
    go_enter Tryd.func4, Tryd.ntmps4
    go_wp2_with (go_at_call 13; refine (szInt64S_any _ _ _ _ _ hn h0 h1).mono ?_; rintro e w' ⟨rfl, rfl⟩; rw [H.out])
    go_ret
    exact ⟨ret_int H.out.symm, (Below.refl _ _).alloc (Nat.le_refl _) _⟩
set_option maxHeartbeats 400000 in
set_option maxRecDepth 8000 in
theorem toSpace_any (P : Int) (A : Option Addr) (n c : Nat) (xs : List Int) (w : World) (hn : n ≤ 1099511627776) (ha : Rd w A n (ints xs)) :
    Calls Tryd.prog 6 #[.agg #[.int .i64 P, .slice A n c]] w fun e w' => ∃ A' c', e = .returned (.agg #[.int .i64 P, .slice A' n c']) ∧ MkI w w' A' n c' xs := by
  go_enter Tryd.func6, Tryd.ntmps6
  go_wp2_with fail
  have hB3 : Below w.heap.size w (((w.alloc (.cells #[.int .i64 P, .slice A n c] 24)).alloc (.cells #[.int .i64 0, .slice none 0 0] 28)).alloc (.cells #[.int .i64 P, .slice none 0 0] 28)) :=
    (((Below.refl _ _).alloc (Nat.le_refl _) _).alloc (by simp) _).alloc (by simp; omega) _
  refine (toInt64S_any _ _ _ _ _ hn (ha.below hB3)).mono ?_
  rintro e w1 ⟨A', c', rfl, hM⟩
  have hb := hM.1
  have q0 := hb.cell (p := ⟨w.heap.size + 1 + 1, 0, none⟩) (by simp)
  have q1 := hb.cell (p := ⟨w.heap.size + 1 + 1, 1, none⟩) (by simp)
  have q2 := hb.frozen (p := ⟨w.heap.size + 1 + 1, 1, none⟩) (by simp)
  have q3 := hb.cell (p := ⟨w.heap.size + 1, 0, none⟩) (by simp)
  have q4 := hb.cell (p := ⟨w.heap.size + 1, 1, none⟩) (by simp)
  have q5 := hb.frozen (p := ⟨w.heap.size + 1, 0, none⟩) (by simp)
  have q6 := hb.frozen (p := ⟨w.heap.size + 1, 1, none⟩) (by simp)
  have HB := Lib.hid (hB3.trans (hb.mono (by simp; omega)))
  have hO : Own w1 (w.heap.size + 3) 2 A' n c' (ints xs) := hM.2.base (by simp)
  have HO := Lib.hid hO
  clear hM hb hO
  go_wp2
  refine bodyPost_ret (v := .agg #[.int .i64 P, .slice A' n c']) (by simp [results, Tryd.results6, go_sem, q3, q4]) rfl ⟨A', c', rfl, ?_, ?_⟩
  · exact ((HB.out.setCell (by show _ ≤ _ + 1 + 1; omega) _).setCell (by show _ ≤ _ + 1; omega) _).setCell (by show _ ≤ _ + 1; omega) _
  · exact ((HO.out.setBelow (by show _ + 1 + 1 < _; omega) _).setBelow (by show _ + 1 < _; omega) _).setBelow (by show _ + 1 < _; omega) _ |>.base (by omega)
end Go.Proofs.YticofgmmjecleaaDoor
namespace Go.Proofs.YticofgmmjecleaaDoor
open Go.ChangeShapes Go.WideShapes Go.ChangeAt Go.RowKit
section
variable {H : Type} {enc : TypeId × Value → H} {P : Program}
/-- A law's row: the result is the bool true, the arguments read as they did, nothing that was there has turned. -/
theorem post_below {f : Func} {s : ChangeSpec} {apart fresh handsOn again : Bool} {W W' : World} {args : Array Value} {v : Value} {ds gs : List (DataW H)} {before pa pv : List MemPlace}
    (whole : DataW.Whole enc P f.params.toList s.vars apart W args.toList ds gs before)
    (res : ∀ (b : Nat) (sp : Nat → Bool) (hd : Bool), DataW.TrodAll enc P W' b sp hd f.resultTypes.toList (v.resultList f.resultTypes.size) (s.fn H (ds ++ gs)).results [])
    (arg : ∀ sp : Nat → Bool, (∀ p ∈ before, sp p.block = true) → DataW.TrodAll enc P W' 0 sp true f.params.toList args.toList (s.fn H (ds ++ gs)).args pa)
    (var : ∀ sp : Nat → Bool, (∀ p ∈ before, sp p.block = true) → DataW.TrodVars enc P W' sp s.vars (s.fn H (ds ++ gs)).vars pv)
    (places : before = pa ++ pv) (below : Below W.heap.size W W')
    (ok : ∀ (j : Nat) (t : TypeId) (r : Value), f.resultTypes[j]? = some t → (v.resultList f.resultTypes.size)[j]? = some r → Value.okWide P W' .any 0 t r) :
    s.post enc P f apart fresh handsOn again W args v W' := by
  have old : ∀ p ∈ before, p.block < W.heap.size := fun p hp => whole.lt p hp
  have seen : ∀ p ∈ before, (fun b => decide (b < W.heap.size)) p.block = true := fun p hp => decide_eq_true (old p hp)
  have frame : W.keptBut W' (fun p => p ∈ before ∧ (p ∈ ([] : List MemPlace) ∨ p ∈ pa ++ pv)) :=
    World.keptBut_mono (fun p hp => ⟨hp, .inr (places ▸ hp)⟩) (below.frame (fun p => p ∈ before))
  refine ⟨ds, gs, before, [], pa, pv, whole, res _ _ _, arg _ seen, var _ seen, ?_, fun _ => ?_⟩
  · refine World.keptBut_mono (fun p hp => ?_) frame
    obtain ⟨h1, h2⟩ := hp
    refine ⟨h1, ?_⟩
    rcases h2 with h2 | h2
    · cases h2
    · exact Or.inr (by simpa [List.mem_append] using h2)
  · obtain ⟨_, _, _, _, _, hz, hn⟩ := whole
    refine ⟨ok, _, _, ([] ++ pa) ++ pv, ⟨[] ++ pa, pv, trodAll_append (arg _ (fun _ _ => rfl)) (res _ _ _), var _ (fun _ _ => rfl), rfl, fun b off hp => ?_, fun ha => ?_⟩, fun p hp _ => ?_⟩
    · have hin : MemPlace.cell b off ∈ before := by rw [places]; simpa using hp
      rw [below.frozen (old _ hin)]
      exact hz b off hin
    · have := hn ha
      rw [places] at this
      simpa using this
    · rw [places]
      simpa using hp
end
end Go.Proofs.YticofgmmjecleaaDoor
namespace Go.Proofs.YticofgmmjecleaaDoor
open Go.ChangeShapes Go.WideShapes Go.ChangeAt Go.RowKit
theorem cells_i64 : Tryd.prog.cellsOf 2 = 1 := by kernel_rfl
theorem cells_si64 : Tryd.prog.cellsOf 22 = 1 := by kernel_rfl
section
variable {H : Type} {enc : TypeId × Value → H} {w : World} {base : Nat} {spare : Nat → Bool} {held : Bool}
/-- A list of numbers, out of its one cell. -/
theorem openI {fuel : Nat} {cs : List Value} {x : DataW H × List MemPlace} (h : DataW.trod enc Tryd.prog w base spare held fuel 22 cs = some x) :
    ∃ (A : Option Addr) (n c : Nat) (xs : List Int), cs = [.slice A n c] ∧ n ≤ c ∧ n ≤ 9223372036854775807 ∧ Rd w A n (ints xs) := by
  rcases open_ints Tryd.underlying22 Tryd.underlying2 cells_i64 h with ⟨hcs, hx⟩ | ⟨a, len, cap, zs, hcs, _, hl, hm, hz, hx, hcell, hwz⟩
  · exact ⟨none, 0, 0, [], hcs, Nat.le_refl _, by omega, Rd.nil _ _⟩
  · have hlz : len ≤ zs.length := by rw [hz]; split <;> omega
    have hm' : cap ≤ 9223372036854775807 := by simpa [maxLen] using hm
    refine ⟨some a, len, cap, zs.take len, hcs, hl, by omega, by rw [ints_length, List.length_take]; omega, fun hp => ?_⟩
    obtain ⟨b, off, rfl, hc⟩ := ints_at hcell (by omega)
    refine ⟨b, off, rfl, fun k u hu => ?_⟩
    have hk : k < len := by
      have := (List.getElem?_eq_some_iff.1 hu).1
      rw [ints_length, List.length_take] at this
      omega
    rw [hc k (by omega)]
    rw [ints_get _ k (by rw [List.length_take]; omega)] at hu
    rw [← hu]
    simp [List.getD, show k < zs.length by omega]
/-- A number, out of its one cell. -/
theorem openN {fuel : Nat} {cs : List Value} {x : DataW H × List MemPlace} (h : DataW.trod enc Tryd.prog w base spare held fuel 2 cs = some x) : ∃ n : Int, cs = [.int .i64 n] := by
  obtain ⟨m, hc, _⟩ := DataW.trod_int Tryd.underlying2 h
  exact ⟨m, hc⟩
theorem two_cells {cs : List Value} (h : cs.length = 2) : ∃ a b, cs = [a, b] := by
  match cs, h with
  | [a, b], _ => exact ⟨a, b, rfl⟩
theorem cells_lsp : Tryd.prog.cellsOf 24 = 2 := by kernel_rfl
/-- A struct of a number and a list of numbers, out of its cells. -/
theorem openSp {fuel : Nat} {cs : List Value} {x : DataW H × List MemPlace} (h : DataW.trod enc Tryd.prog w base spare held fuel 24 cs = some x) :
    ∃ (P : Int) (A : Option Addr) (n c : Nat) (xs : List Int), cs = [.int .i64 P, .slice A n c] ∧ n ≤ c ∧ n ≤ 9223372036854775807 ∧ Rd w A n (ints xs) := by
  obtain ⟨y0, y1, m, _, hl, h0, h1⟩ := trod_struct2 Tryd.underlying24 h
  obtain ⟨a, b, rfl⟩ := two_cells (hl.trans cells_lsp)
  obtain ⟨P, e0⟩ := openN h0
  obtain ⟨A, n, c, xs, e1, hn, hm, hr⟩ := openI h1
  simp only [cells_i64, cells_si64] at e0 e1
  simp at e0 e1
  exact ⟨P, A, n, c, xs, by rw [e0, e1], hn, hm, hr⟩
end
end Go.Proofs.YticofgmmjecleaaDoor
namespace Go.Proofs.YticofgmmjecleaaDoor
open Go.RowKit
theorem Own.ne {w : World} {B B' : Nat} {E E' : TypeId} {A A' : Option Addr} {n n' c c' : Nat} {us us' : List Value} (h : Own w B E A n c us) (h' : Own w B' E' A' n' c' us') (hE : E ≠ E') :
    (Value.slice A n c).ownBlock = none ∨ (Value.slice A n c).ownBlock ≠ (Value.slice A' n' c').ownBlock := by
  rcases h.2 with ⟨he, _⟩ | ⟨g, cap, cur, he, _, hg, _⟩
  · left; injection he with hA; subst hA; rfl
  · rcases h'.2 with ⟨he', _⟩ | ⟨g', cap', cur', he', _, hg', _⟩
    · right; injection he with hA; injection he' with hA'; subst hA; subst hA'; simp [Value.ownBlock]
    · right
      injection he with hA; injection he' with hA'; subst hA; subst hA'
      simp only [Value.ownBlock, ne_eq, Option.some.injEq]
      rintro rfl
      rw [hg] at hg'
      injection hg' with hg'
      injection hg' with _ ht
      exact hE ht
/-- Rows of numbers, each of the call's own, no two in one block. -/
structure Nest (w : World) (B : Nat) (rows : List Value) (xss : List (List Int)) : Prop where
  len : rows.length = xss.length
  row : ∀ (k : Nat) (h : k < xss.length), ∃ A c, rows[k]? = some (.slice A xss[k].length c) ∧ Own w B 2 A xss[k].length c (ints xss[k])
  apart : ∀ i j g : Nat, i < j → (rows[i]?).bind Value.ownBlock = some g → (rows[j]?).bind Value.ownBlock ≠ some g
theorem Nest.nil (w : World) (B : Nat) : Nest w B [] [] := ⟨rfl, fun k h => absurd h (by simp), fun i j g _ h => by simp at h⟩
theorem Nest.below {w w' : World} {B : Nat} {rows : List Value} {xss : List (List Int)} (h : Nest w B rows xss) (hb : Below w.heap.size w w') : Nest w' B rows xss :=
  ⟨h.len, fun k hk => by obtain ⟨A, c, e, ho⟩ := h.row k hk; exact ⟨A, c, e, ho.below hb⟩, h.apart⟩
theorem Nest.base {w : World} {B B' : Nat} {rows : List Value} {xss : List (List Int)} (h : Nest w B rows xss) (hB : B' ≤ B) : Nest w B' rows xss :=
  ⟨h.len, fun k hk => by obtain ⟨A, c, e, ho⟩ := h.row k hk; exact ⟨A, c, e, ho.base hB⟩, h.apart⟩
theorem Nest.grown {w w' : World} {B B' : Nat} {rows : List Value} {xss : List (List Int)} {E : TypeId} {A : Option Addr} {n c : Nat} {us : List Value} (h : Nest w B rows xss)
    (ho : Own w B' E A n c us) (hE : 2 ≠ E) (hg : w.grownBy w' (Value.slice A n c).ownBlock) : Nest w' B rows xss :=
  ⟨h.len, fun k hk => by obtain ⟨A', c', e, ho'⟩ := h.row k hk; exact ⟨A', c', e, ho'.grown hg (ho'.ne ho hE)⟩, h.apart⟩
theorem Nest.block {w : World} {B : Nat} {rows : List Value} {xss : List (List Int)} (h : Nest w B rows xss) (i g : Nat) (hi : (rows[i]?).bind Value.ownBlock = some g) : B ≤ g ∧ g < w.heap.size := by
  by_cases hk : i < xss.length
  · obtain ⟨A, c, e, ho⟩ := h.row i hk
    rw [e] at hi
    exact World.ownsRow.lt ho g hi
  · rw [List.getElem?_eq_none (by rw [h.len]; omega)] at hi; cases hi
/-- A slice of rows of numbers that the call made. -/
def MkII (w0 w : World) (A : Option Addr) (n c : Nat) (xss : List (List Int)) : Prop := ∃ rows, Mk w0 w 22 A n c rows ∧ Nest w w0.heap.size rows xss
/-- A slice of rows of numbers that is read. -/
def RdII (w : World) (A : Option Addr) (n : Nat) (xss : List (List Int)) : Prop := ∃ rows, Rd w A n rows ∧ rows.length = xss.length ∧
  ∀ (k : Nat) (h : k < xss.length), ∃ A' c', rows[k]? = some (.slice A' xss[k].length c') ∧ Rd w A' xss[k].length (ints xss[k]) ∧ xss[k].length ≤ c'
section
variable {w w' w0 w1 : World} {A : Option Addr} {n c : Nat} {xss : List (List Int)}
theorem RdII.len (h : RdII w A n xss) : xss.length = n := by obtain ⟨rows, hr, hl, _⟩ := h; rw [← hl]; exact hr.1
theorem RdII.below (h : RdII w A n xss) (hb : Below w.heap.size w w') : RdII w' A n xss := by
  obtain ⟨rows, hr, hl, hk⟩ := h
  exact ⟨rows, hr.below hb, hl, fun k hlt => by obtain ⟨A', c', e, h1, h2⟩ := hk k hlt; exact ⟨A', c', e, h1.below hb, h2⟩⟩
theorem MkII.rd (h : MkII w0 w A n c xss) : RdII w A n xss := by
  obtain ⟨rows, hm, hn⟩ := h
  exact ⟨rows, hm.rd, hn.len, fun k hk => by obtain ⟨A', c', e, ho⟩ := hn.row k hk; exact ⟨A', c', e, ho.rd, ho.cap⟩⟩
theorem MkII.len (h : MkII w0 w A n c xss) : xss.length = n := h.rd.len
theorem MkII.nil (h : Below w0.heap.size w0 w) : MkII w0 w none 0 0 [] := ⟨[], Mk.nil h, Nest.nil _ _⟩
theorem MkII.empty (h : Below w0.heap.size w0 w) : MkII w0 (w.alloc (.cells #[] 22)) (some ⟨w.heap.size, 0, none⟩) 0 0 [] := ⟨[], Mk.lit h #[] (by simp), Nest.nil _ _⟩
theorem MkII.b (h : MkII w0 w A n c xss) : Below w0.heap.size w0 w := by obtain ⟨_, h, _⟩ := h; exact h.1
theorem MkII.below (h : MkII w0 w A n c xss) (hb : Below w.heap.size w w') : MkII w0 w' A n c xss := by
  obtain ⟨rows, hm, hn⟩ := h; exact ⟨rows, hm.below hb, hn.below hb⟩
theorem MkII.after (h : MkII w1 w A n c xss) (hb : Below w0.heap.size w0 w1) : MkII w0 w A n c xss := by
  obtain ⟨rows, hm, hn⟩ := h; exact ⟨rows, hm.after hb, hn.base hb.size⟩
end
end Go.Proofs.YticofgmmjecleaaDoor
namespace Go.Proofs.YticofgmmjecleaaDoor
open Go.RowKit
/-- What an operation's value is good for, in later worlds too. -/
structure VP where
  p : Value → World → Prop
  st : ∀ v w w', p v w → Below w.heap.size w w' → p v w'
/-- The value is u. -/
def VIs (u : Value) : VP := ⟨fun v _ => v = u, fun _ _ _ h _ => h⟩
/-- Nothing is said. -/
def VAny : VP := ⟨fun _ _ => True, fun _ _ _ h _ => h⟩
theorem Rd.lenI {w : World} {A : Option Addr} {n : Nat} {xs : List Int} (h : Rd w A n (ints xs)) : xs.length = n := by have := h.1; rwa [ints_length] at this
def dstOf (ops : Array Oper) (i : Nat) : Option Tmp := (ops[i]?).bind (·.dst)
/-- The frame once those of the first n operations that L tells have been done. -/
def putD (ops : Array Oper) (L : Nat → Bool) (x : Nat → Value) (a0 : Act) : Nat → Act
  | 0 => a0
  | n + 1 => if L n then (putD ops L x a0 n).put (dstOf ops n) (x n) else putD ops L x a0 n
/-- The frame once the first n operations have been done. -/
def putS (ops : Array Oper) (x : Nat → Value) (a0 : Act) (n : Nat) : Act := putD ops (fun _ => true) x a0 n
section
variable {P : Program} {ops : Array Oper} {Q : Exit → Act → World → Prop}
/-- May the first m operations of the region go in the text's order? R: those that each waits for, directly or through others. -/
def tasksOk (ops : Array Oper) (m sz : Nat) (R : List (List Nat)) : Bool :=
  Region.noSelect ops && m ≤ ops.size &&
  (List.range ops.size).all (fun j => match ops[j]? with
    | none => false
    | some o => (R.getD j []).all (fun i => o.after.toList.any fun e => Region.binds .any e && (decide (e.on < j)) && (e.on == i || (R.getD e.on []).contains i)) &&
      if j < m then
        (o.after.toList.all fun e => !Region.binds .any e || decide (e.on < j)) &&
        (match o.dst with
          | none => false
          | some d => decide (d < sz) && (List.range m).all fun i => i == j || dstOf ops i != some d) &&
        (o.looksAt ops).all (fun t => (List.range m).all fun i => dstOf ops i != some t || (R.getD j []).contains i)
      else (List.range m).all fun i => (R.getD j []).contains i)
theorem putD_size (L : Nat → Bool) (x : Nat → Value) (a0 : Act) : ∀ n, (putD ops L x a0 n).tmps.size = a0.tmps.size ∧ (putD ops L x a0 n).defers = a0.defers := by
  intro n
  induction n with
  | zero => exact ⟨rfl, rfl⟩
  | succ n ih =>
    unfold putD
    split
    · cases hd : dstOf ops n with
      | none => exact ih
      | some d => simp [Act.put, ih]
    · exact ih
theorem putD_other (L : Nat → Bool) (x : Nat → Value) (a0 : Act) (t : Tmp) : ∀ n, (∀ i, i < n → dstOf ops i = some t → L i = false) → (putD ops L x a0 n).tmps[t]? = a0.tmps[t]? := by
  intro n
  induction n with
  | zero => intro _; rfl
  | succ n ih =>
    intro h
    have h1 := ih fun i hi => h i (by omega)
    unfold putD
    split
    · rename_i hl
      cases hd : dstOf ops n with
      | none => exact h1
      | some d =>
        have hne : d ≠ t := fun e => by
          have := h n (by omega) (by rw [hd, e])
          rw [hl] at this; cases this
        simp only [Act.put]
        rw [Array.getElem?_setIfInBounds_ne hne]
        exact h1
    · exact h1
theorem putD_at (L : Nat → Bool) (x : Nat → Value) (a0 : Act) (t : Tmp) (i : Nat) (hi : dstOf ops i = some t) (hl : L i = true) (ht : t < a0.tmps.size) :
    ∀ n, i < n → (∀ k, k < n → k ≠ i → dstOf ops k ≠ some t) → (putD ops L x a0 n).tmps[t]? = some (x i) := by
  intro n
  induction n with
  | zero => intro h; omega
  | succ n ih =>
    intro hin hd
    by_cases hni : n = i
    · subst hni
      unfold putD
      rw [if_pos hl, hi]
      simp only [Act.put]
      have := (putD_size (ops := ops) L x a0 n).1
      simp [this, ht]
    · have h1 := ih (by omega) (fun k hk => hd k (by omega))
      unfold putD
      split
      · cases hdn : dstOf ops n with
        | none => exact h1
        | some d =>
          have hne : d ≠ t := fun e => hd n (by omega) hni (by rw [hdn, e])
          simp only [Act.put]
          rw [Array.getElem?_setIfInBounds_ne hne]
          exact h1
      · exact h1
theorem putD_congr (L L' : Nat → Bool) (x x' : Nat → Value) (a0 : Act) : ∀ n, (∀ i, i < n → L i = L' i ∧ (L i = true → x i = x' i)) → putD ops L x a0 n = putD ops L' x' a0 n := by
  intro n
  induction n with
  | zero => intro _; rfl
  | succ n ih =>
    intro h
    have h1 := ih fun i hi => h i (by omega)
    obtain ⟨h2, h3⟩ := h n (by omega)
    unfold putD
    rw [h1, ← h2]
    split
    · rename_i hl; rw [h3 hl]
    · rfl
theorem putD_put (L L' : Nat → Bool) (x x' : Nat → Value) (a0 : Act) (i : Nat) (hL : L i = false) (hL' : L' i = true) (hne : ∀ k, k ≠ i → L k = L' k ∧ x k = x' k) :
    ∀ n, i < n → (∀ d k, k < n → k ≠ i → dstOf ops i = some d → dstOf ops k ≠ some d) → (putD ops L x a0 n).put (dstOf ops i) (x' i) = putD ops L' x' a0 n := by
  intro n
  induction n with
  | zero => intro h; omega
  | succ n ih =>
    intro hin hd
    by_cases hni : n = i
    · subst hni
      unfold putD
      rw [if_neg (by rw [hL]; decide), if_pos hL', putD_congr L L' x x' a0 n (fun k hk => ⟨(hne k (by omega)).1, fun _ => (hne k (by omega)).2⟩)]
    · have h1 := ih (by omega) (fun d k hk => hd d k (by omega))
      obtain ⟨h2, h3⟩ := hne n hni
      unfold putD
      rw [← h2, ← h3]
      split
      · rw [← h1]
        exact Act.put_comm _ _ _ (fun d e1 e2 => hd d n (by omega) hni e2 e1)
      · exact h1
/-- No way out but by a value. -/
def NoWay : Exit → Act → World → Prop := fun _ _ _ => False
theorem NoWay.lets (h : LetsOut NoWay) : False := by obtain ⟨_, _, h⟩ := h; exact h
/-- What operation o does in a frame, it does in another one in which its operands have the same values. -/
theorem wp_move {o : Oper} {a1 a2 : Act} {w : World} {d : Tmp} {R : Value → World → Prop} (he : execOp a2.eval o = execOp a1.eval o) (hd : o.dst = some d) (hs : d < a1.tmps.size)
    (h : o.wp P a1 w (fun a' w' => ∃ v, a'.tmps[d]? = some v ∧ a'.defers = a1.defers ∧ R v w') NoWay) : o.wp P a2 w (fun a' w' => ∃ v, a' = a2.put (some d) v ∧ R v w') Q := by
  have key : ∀ (u : Value) (w' : World), (∃ v, (a1.put (some d) u).tmps[d]? = some v ∧ (a1.put (some d) u).defers = a1.defers ∧ R v w') → ∃ v, a2.put (some d) u = a2.put (some d) v ∧ R v w' := by
    rintro u w' ⟨v, hv, _, hR⟩
    refine ⟨u, rfl, ?_⟩
    simp [Act.put, hs] at hv
    exact hv ▸ hR
  unfold Oper.wp at *
  rw [he]
  generalize (execOp a1.eval o).run P w = r at *
  cases r with
  | ok n w' =>
    cases n <;> simp only [Oper.upon, hd] at h ⊢
    case value u => exact key _ _ h
    case skip => exact key _ _ h
    case defer dd =>
      obtain ⟨v, _, h, _⟩ := h
      have h1 := congrArg List.length h
      simp [Act.put] at h1
    case enter f args =>
      refine Calls.mono h fun e w'' he => ?_
      cases e with
      | returned u => exact key _ _ he
      | panicked c => exact absurd he id
      | outgrown => exact absurd he NoWay.lets
    case row row args => exact Rows.mono h fun u w'' he => key _ _ he
  | halt x w' =>
    cases x <;> simp only [Oper.upon] at h ⊢
    case panic u => exact absurd h id
/-- What is to be shown of operation j. -/
def Ob (P : Program) (ops : Array Oper) (S : World → Prop) (R : List (List Nat)) (V : List VP) (x : Nat → Value) (a0 : Act) (j : Nat) : Prop :=
  ∀ w, S w → (∀ i ∈ R.getD j [], (V.getD i VAny).p (x i) w) →
    wpOp P ops NoWay j (fun a' w' => ∃ v, (∀ d, dstOf ops j = some d → a'.tmps[d]? = some v) ∧ a'.defers = a0.defers ∧ (V.getD j VAny).p v w' ∧ Below w.heap.size w w') (putS ops x a0 j) w
theorem listed_reach {ops : Array Oper} {m sz : Nat} {R : List (List Nat)} (hok : tasksOk ops m sz R = true) (L : Nat → Bool)
    (hL : ∀ (j : Nat) (o : Oper), ops[j]? = some o → L j = true → ∀ e ∈ o.after, Region.binds .any e = true → L e.on = true) :
    ∀ (j : Nat) (o : Oper), ops[j]? = some o → (∀ e ∈ o.after, Region.binds .any e = true → L e.on = true) → ∀ i ∈ R.getD j [], L i = true := by
  intro j
  induction j using Nat.strongRecOn with
  | ind j ih =>
    intro o ho hal i hi
    have hlt : j < ops.size := (Array.getElem?_eq_some_iff.1 ho).1
    unfold tasksOk at hok
    simp only [Bool.and_eq_true] at hok
    have h1 := List.all_eq_true.1 hok.2 j (by simpa using hlt)
    rw [ho] at h1
    simp only [Bool.and_eq_true] at h1
    have h2 := List.all_eq_true.1 h1.1 i hi
    obtain ⟨e, he, hc⟩ := List.any_eq_true.1 h2
    replace he : e ∈ o.after := by simpa using he
    simp only [Bool.and_eq_true, Bool.or_eq_true, decide_eq_true_eq, beq_iff_eq, List.contains_iff_mem] at hc
    obtain ⟨⟨hb, hej⟩, hc⟩ := hc
    have hle := hal e he hb
    rcases hc with rfl | hc
    · exact hle
    · have hes : e.on < ops.size := by omega
      exact ih e.on hej _ (Array.getElem?_eq_getElem hes) (fun e' he' hb' => hL e.on _ (Array.getElem?_eq_getElem hes) hle e' he' hb') i hc
theorem reach_lt {ops : Array Oper} {m sz : Nat} {R : List (List Nat)} (hok : tasksOk ops m sz R = true) : ∀ j, j < ops.size → ∀ i ∈ R.getD j [], i < j := by
  intro j
  induction j using Nat.strongRecOn with
  | ind j ih =>
    intro hlt i hi
    unfold tasksOk at hok
    simp only [Bool.and_eq_true] at hok
    have h1 := List.all_eq_true.1 hok.2 j (by simpa using hlt)
    rw [Array.getElem?_eq_getElem hlt] at h1
    simp only [Bool.and_eq_true] at h1
    have h2 := List.all_eq_true.1 h1.1 i hi
    obtain ⟨e, he, hc⟩ := List.any_eq_true.1 h2
    simp only [Bool.and_eq_true, Bool.or_eq_true, decide_eq_true_eq, beq_iff_eq, List.contains_iff_mem] at hc
    obtain ⟨⟨hb, hej⟩, hc⟩ := hc
    rcases hc with rfl | hc
    · exact hej
    · have := ih e.on hej (by omega) i hc
      omega
theorem tasks_spec {ops : Array Oper} {m sz : Nat} {R : List (List Nat)} (hok : tasksOk ops m sz R = true) :
    m ≤ ops.size ∧ (∀ (j : Nat) (o : Oper), ops[j]? = some o → j < m → (∀ e ∈ o.after, Region.binds .any e = true → e.on < j) ∧ (∃ d, o.dst = some d ∧ d < sz ∧ ∀ i, i < m → i ≠ j → dstOf ops i ≠ some d) ∧
      ∀ t ∈ o.looksAt ops, ∀ i, i < m → dstOf ops i = some t → i ∈ R.getD j []) ∧ (∀ (j : Nat), j < ops.size → m ≤ j → ∀ i, i < m → i ∈ R.getD j []) := by
  unfold tasksOk at hok
  simp only [Bool.and_eq_true, decide_eq_true_eq] at hok
  obtain ⟨⟨_, hm⟩, hall⟩ := hok
  refine ⟨hm, fun j o ho hj => ?_, fun j hlt hj i hi => ?_⟩
  · have hlt : j < ops.size := (Array.getElem?_eq_some_iff.1 ho).1
    have h1 := List.all_eq_true.1 hall j (by simpa using hlt)
    rw [ho] at h1
    simp only [Bool.and_eq_true, if_pos hj] at h1
    obtain ⟨_, ⟨h2, h3⟩, h4⟩ := h1
    refine ⟨fun e he hb => ?_, ?_, fun t ht i hi hd => ?_⟩
    · have := List.all_eq_true.1 h2 e (by simpa using he)
      simpa [hb] using this
    · cases hd : o.dst with
      | none => rw [hd] at h3; cases h3
      | some d =>
        rw [hd] at h3
        simp only [Bool.and_eq_true, decide_eq_true_eq] at h3
        refine ⟨d, rfl, h3.1, fun i hi hne => ?_⟩
        have := List.all_eq_true.1 h3.2 i (by simpa using hi)
        simpa [hne] using this
    · have := List.all_eq_true.1 (List.all_eq_true.1 h4 t ht) i (by simpa using hi)
      simpa [hd] using this
  · have h1 := List.all_eq_true.1 hall j (by simpa using hlt)
    rw [Array.getElem?_eq_getElem hlt] at h1
    simp only [Bool.and_eq_true, if_neg (Nat.not_lt.2 hj)] at h1
    have := List.all_eq_true.1 h1.2 i (by simpa using hi)
    simpa using this
theorem wanted_same {o : Oper} {t1 t2 : Array Value} (h : ∀ t ∈ o.looksAt ops, t1[t]? = t2[t]?) : Region.wanted o (yielded ops t1) = Region.wanted o (yielded ops t2) := by
  unfold Region.wanted
  cases hg : o.guard with
  | none => rfl
  | some gw =>
    obtain ⟨g, want⟩ := gw
    have hy : yielded ops t1 g = yielded ops t2 g := by
      unfold yielded
      cases ht : (ops[g]?).bind (·.dst) with
      | none => rfl
      | some t =>
        have := h t (by simp [Oper.looksAt, hg, ht])
        simp [this]
    simp only [hy]
theorem exec_same {o : Oper} {a1 a2 : Act} (hs : ∀ cs b, o.op ≠ .select cs b) (h : ∀ t ∈ o.looksAt ops, a1.tmps[t]? = a2.tmps[t]?) : execOp a1.eval o = execOp a2.eval o :=
  execOp_congr o hs fun x hx => by
    cases x with
    | tmp t =>
      have := h t (List.mem_append_left _ (List.mem_filterMap.2 ⟨.tmp t, by simpa using hx, rfl⟩))
      simp [Act.eval, this]
    | _ => rfl
theorem min_mem : ∀ (U : List Nat), U ≠ [] → ∃ i ∈ U, ∀ k ∈ U, i ≤ k
  | [], h => absurd rfl h
  | [i], _ => ⟨i, by simp, by simp⟩
  | i :: j :: r, _ => by
    obtain ⟨k, hk, hmin⟩ := min_mem (j :: r) (by simp)
    by_cases h : i ≤ k
    · exact ⟨i, by simp, fun l hl => by
        rcases List.mem_cons.1 hl with rfl | hl
        · exact Nat.le_refl _
        · exact Nat.le_trans h (hmin l hl)⟩
    · exact ⟨k, List.mem_cons_of_mem _ hk, fun l hl => by
        rcases List.mem_cons.1 hl with rfl | hl
        · omega
        · exact hmin l hl⟩
/-- The first m of n have been listed. -/
def listedTo (n m : Nat) : Array Bool := ((List.range n).map fun i => decide (i < m)).toArray
theorem tasks_go {m : Nat} {R : List (List Nat)} {V : List VP} {S : World → Prop} {a0 : Act} (hok : tasksOk ops m a0.tmps.size R = true)
    (hSt : ∀ w w', S w → Below w.heap.size w w' → S w') (hob : ∀ x j, j < m → Ob P ops S R V x a0 j)
    (hend : ∀ x w', S w' → (∀ i, i < m → (V.getD i VAny).p (x i) w') → wpAny P .any ops Q (ops.size - m) (listedTo ops.size m) (putS ops x a0 m) w') :
    ∀ (c : Nat) (U : List Nat) (listed : Array Bool) (w : World) (x : Nat → Value), U.length = c → U.Nodup → (∀ i, i ∈ U ↔ i < m ∧ listed.getD i false = false) → listed.size = ops.size →
      (∀ i, m ≤ i → i < ops.size → listed.getD i false = false) → (∀ (j : Nat) (o : Oper), ops[j]? = some o → listed.getD j false = true → ∀ e ∈ o.after, Region.binds .any e = true → listed.getD e.on false = true) →
      S w → (∀ i, i < m → listed.getD i false = true → (V.getD i VAny).p (x i) w) → wpAny P .any ops Q (ops.size - m + c) listed (putD ops (fun i => listed.getD i false) x a0 m) w := by
  obtain ⟨hmn, hspec, htail⟩ := tasks_spec hok
  have hsel : Region.noSelect ops = true := by unfold tasksOk at hok; simp only [Bool.and_eq_true] at hok; exact hok.1.1
  intro c
  induction c with
  | zero =>
    intro U listed w x hU hnd hmem hsz hun hcl hS hV
    obtain rfl : U = [] := List.eq_nil_of_length_eq_zero hU
    have hall : ∀ i, i < m → listed.getD i false = true := fun i hi => by
      cases h : listed.getD i false
      · exact absurd ((hmem i).2 ⟨hi, h⟩) (by simp)
      · rfl
    have hl : listed = listedTo ops.size m := by
      apply Array.ext
      · simp [listedTo, hsz]
      · intro i h1 h2
        have e : listed.getD i false = listed[i] := by simp [Array.getD, h1]
        by_cases hi : i < m
        · have := hall i hi
          rw [e] at this
          simp [listedTo, this, hi]
        · have := hun i (by omega) (by omega)
          rw [e] at this
          simp [listedTo, this, hi]
    rw [Nat.add_zero, putD_congr (ops := ops) _ (fun _ => true) x x a0 m (fun i hi => ⟨hall i hi, fun _ => rfl⟩), hl]
    exact hend x w hS (fun i hi => hV i hi (hall i hi))
  | succ c ih =>
    intro U listed w x hU hnd hmem hsz hun hcl hS hV
    have hne : U ≠ [] := fun e => by rw [e] at hU; simp at hU
    show (_ → _) ∧ _
    refine ⟨fun hr => ?_, fun i hi => ?_⟩
    · exfalso
      obtain ⟨i, hiU, hmin⟩ := min_mem U hne
      obtain ⟨him, hil⟩ := (hmem i).1 hiU
      have hlt : i < ops.size := by omega
      have : i ∈ Region.ready .any ops listed := mem_ready.2 ⟨by simpa [Array.getD, hsz, hlt] using hil, _, Array.getElem?_eq_getElem hlt, fun e he hb => by
        have hlti := (hspec i _ (Array.getElem?_eq_getElem hlt) him).1 e he hb
        cases h : listed.getD e.on false
        · have := hmin e.on ((hmem _).2 ⟨by omega, h⟩); omega
        · rfl⟩
      rw [hr] at this
      cases this
    · obtain ⟨hil, o, ho, hdeps⟩ := mem_ready.1 hi
      have hlt : i < ops.size := (Array.getElem?_eq_some_iff.1 ho).1
      have hil' : listed.getD i false = false := by simpa [Array.getD, hsz, hlt] using hil
      have hreach := listed_reach hok (fun i => listed.getD i false) hcl i o ho hdeps
      have him : i < m := by
        rcases Nat.lt_or_ge i m with h | h
        · exact h
        · exfalso
          obtain ⟨k, hk⟩ := List.exists_mem_of_ne_nil U hne
          obtain ⟨hkm, hkl⟩ := (hmem k).1 hk
          have := hreach k (htail i hlt h k hkm)
          rw [hkl] at this; cases this
      obtain ⟨_, ⟨d, hd, hdsz, hduniq⟩, hlook⟩ := hspec i o ho him
      have hdst : dstOf ops i = some d := by simp [dstOf, ho, hd]
      have hso : ∀ cs b, o.op ≠ .select cs b := fun cs b => Region.noSelect_spec hsel i o cs b ho
      -- the two frames agree on what o looks at
      have hagree : ∀ t ∈ o.looksAt ops, (putD ops (fun i => listed.getD i false) x a0 m).tmps[t]? = (putS ops x a0 i).tmps[t]? := fun t ht => by
        by_cases hex : ∃ k, k < m ∧ dstOf ops k = some t
        · obtain ⟨k, hkm, hkd⟩ := hex
          have hkR := hlook t ht k hkm hkd
          have hki := reach_lt hok i hlt k hkR
          have hkl := hreach k hkR
          have hks : k < ops.size := by omega
          obtain ⟨_, ⟨d', hd', hdsz', hu'⟩, _⟩ := hspec k _ (Array.getElem?_eq_getElem hks) hkm
          have htd : d' = t := by
            have : dstOf ops k = some d' := by simp [dstOf, Array.getElem?_eq_getElem hks, hd']
            rw [hkd] at this; injection this with this; exact this.symm
          rw [putD_at _ _ _ _ k hkd hkl (htd ▸ hdsz') m hkm (fun l hl hlk => htd ▸ hu' l hl hlk)]
          unfold putS
          rw [putD_at _ _ _ _ k hkd rfl (htd ▸ hdsz') i hki (fun l hl hlk => htd ▸ hu' l (by omega) hlk)]
        · rw [putD_other _ _ _ _ m (fun k hk hkd => absurd ⟨k, hk, hkd⟩ hex)]
          unfold putS
          rw [putD_other _ _ _ _ i (fun k hk hkd => absurd ⟨k, by omega, hkd⟩ hex)]
      have hob' := hob x i him w hS (fun k hk => hV k (by have := reach_lt hok i hlt k hk; omega) (hreach k hk))
      have hsz1 := putD_size (ops := ops) (fun _ => true) x a0 i
      -- what comes behind
      have next : ∀ v w', (V.getD i VAny).p v w' → Below w.heap.size w w' → wpAny P .any ops Q (ops.size - m + c) (listed.setIfInBounds i true) ((putD ops (fun i => listed.getD i false) x a0 m).put (some d) v) w' := fun v w' hv hb => by
        have hput := putD_put (ops := ops) (fun k => listed.getD k false) (fun k => (listed.setIfInBounds i true).getD k false) x (fun k => if k = i then v else x k) a0 i hil'
          (by simp [hsz, hlt]) (fun k hk => ⟨by rw [getD_set_ne _ (Ne.symm hk)], by simp [hk]⟩) m him
          (fun d' k hk hki hd' => by rw [hdst] at hd'; injection hd' with hd'; exact hd' ▸ hduniq k hk hki)
        simp only [if_true] at hput
        rw [← hdst, hput]
        refine ih (U.erase i) _ _ _ ?_ (hnd.erase _) (fun k => ?_) (by simpa using hsz) (fun k h1 h2 => ?_) (fun j oj hoj hj e he hb' => ?_) (hSt _ _ hS hb) (fun k hk hkl => ?_)
        · rw [List.length_erase_of_mem ((hmem i).2 ⟨him, hil'⟩), hU]; rfl
        · rw [hnd.mem_erase_iff, hmem]
          by_cases hk : k = i
          · subst hk; simp [hsz, hlt]
          · rw [getD_set_ne _ (Ne.symm hk)]; simp [hk]
        · rw [getD_set_ne _ (by omega)]; exact hun k h1 h2
        · by_cases hji : j = i
          · subst hji
            rw [ho] at hoj; injection hoj with hoj; subst hoj
            exact getD_set_true (hdeps e he hb')
          · rw [getD_set_ne _ (Ne.symm hji)] at hj
            exact getD_set_true (hcl j oj hoj hj e he hb')
        · by_cases hki : k = i
          · subst hki; simpa using hv
          · rw [getD_set_ne _ (Ne.symm hki)] at hkl
            simp only [hki, if_false]
            exact (V.getD k VAny).st _ _ _ (hV k hk hkl) hb
      unfold wpOp at hob' ⊢
      simp only [ho] at hob' ⊢
      rw [wanted_same hagree]
      split
      · rename_i hw
        rw [if_pos hw] at hob'
        rcases hob' with h | ⟨_, h⟩
        case inr => exact absurd h NoWay.lets
        refine .inl (Oper.wp_mono ?_ (wp_move (Q := Q) (d := d) (R := fun v w' => (V.getD i VAny).p v w' ∧ Below w.heap.size w w') (exec_same hso hagree) hd (by unfold putS; rw [hsz1.1]; exact hdsz)
          (Oper.wp_mono (fun a' w' ⟨v, h1, h2, h3, h4⟩ => ⟨v, h1 d hdst, by unfold putS; rw [hsz1.2]; exact h2, h3, h4⟩) h)))
        rintro a' w' ⟨v, rfl, hv, hb⟩
        exact next v w' hv hb
      · rename_i hw
        rw [if_neg hw] at hob'
        obtain ⟨v, h1, _, h3, h4⟩ := hob'
        have hvu : v = undef := by
          have := h1 d hdst
          rw [hd] at this
          simp [Act.put, putS, hsz1.1, hdsz] at this
          exact this.symm
        rw [hd]
        exact next undef w (hvu ▸ h3) h4
/-- **A region that draws its order**: each of its first m operations is shown once; what is left behind them goes on. -/
theorem wp_tasks {id m : Nat} (R : List (List Nat)) (V : List VP) (S : World → Prop) {a0 : Act} {w : World} (hm : P.follows .mixedOrders = true) (hok : tasksOk ops m a0.tmps.size R = true)
    (hS0 : S w.drew) (hSt : ∀ w w', S w → Below w.heap.size w w' → S w') (hob : ∀ x j, j < m → Ob P ops S R V x a0 j)
    (hend : ∀ x w', S w' → (∀ i, i < m → (V.getD i VAny).p (x i) w') → wpAny P .any ops Q (ops.size - m) (listedTo ops.size m) (putS ops x a0 m) w') : (Code.region id ops true).wp P Q a0 w := by
  have hmn := (tasks_spec hok).1
  have hf : ∀ i, (Array.replicate ops.size false).getD i false = false := fun i => by simp [Array.getD]
  have h := tasks_go (Q := Q) hok hSt hob hend m (List.range m) (Array.replicate ops.size false) w.drew (fun _ => undef) (by simp) List.nodup_range (fun i => by rw [hf]; simp) (by simp) (fun i _ _ => hf i) (fun j o _ hj => by rw [hf] at hj; cases hj) hS0
    (fun i _ hi => by rw [hf] at hi; cases hi)
  refine wp_region_any hm ?_
  rw [show ops.size - m + m = ops.size by omega, putD_congr (ops := ops) _ (fun _ => false) _ (fun _ => undef) a0 m (fun i _ => ⟨hf i, fun _ => rfl⟩)] at h
  have e : ∀ n, putD ops (fun _ => false) (fun _ => undef) a0 n = a0 := fun n => by
    induction n with
    | zero => rfl
    | succ n ih => unfold putD; simpa using ih
  rw [e] at h
  exact h
/-- What is to be shown, operation by operation, in the text's order; the frame goes along. -/
def Obs (P : Program) (ops : Array Oper) (Q : Exit → Act → World → Prop) (S : World → Prop) (R : List (List Nat)) (V : List VP) (x : Nat → Value) : Nat → Nat → Act → Prop
  | 0, j, a => ∀ w, S w → (∀ i, i < j → (V.getD i VAny).p (x i) w) → wpAny P .any ops Q (ops.size - j) (listedTo ops.size j) a w
  | r + 1, j, a => (∀ w, S w → (∀ i ∈ R.getD j [], (V.getD i VAny).p (x i) w) →
      wpOp P ops NoWay j (fun a' w' => ∃ v, (∀ d, dstOf ops j = some d → a'.tmps[d]? = some v) ∧ a'.defers = a.defers ∧ (V.getD j VAny).p v w' ∧ Below w.heap.size w w') a w) ∧
    Obs P ops Q S R V x r (j + 1) (a.put (dstOf ops j) (x j))
theorem obs_all {S : World → Prop} {R : List (List Nat)} {V : List VP} {x : Nat → Value} {a0 : Act} : ∀ (r j : Nat), Obs P ops Q S R V x r j (putS ops x a0 j) →
    (∀ k, j ≤ k → k < j + r → Ob P ops S R V x a0 k) ∧ ∀ w, S w → (∀ i, i < j + r → (V.getD i VAny).p (x i) w) → wpAny P .any ops Q (ops.size - (j + r)) (listedTo ops.size (j + r)) (putS ops x a0 (j + r)) w := by
  intro r
  induction r with
  | zero => intro j h; exact ⟨fun k h1 h2 => by omega, h⟩
  | succ r ih =>
    intro j h
    obtain ⟨h1, h2⟩ := h
    have h2' : Obs P ops Q S R V x r (j + 1) (putS ops x a0 (j + 1)) := h2
    obtain ⟨h3, h4⟩ := ih (j + 1) h2'
    refine ⟨fun k hk1 hk2 => ?_, by rw [show j + (r + 1) = j + 1 + r by omega]; exact h4⟩
    by_cases hk : k = j
    · subst hk
      intro w hS hV
      have h := h1 w hS hV
      rw [show (putS ops x a0 k).defers = a0.defers from (putD_size _ _ _ _).2] at h
      exact h
    · exact h3 k (by omega) (by omega)
theorem wp_obs {id : Nat} (m : Nat) (R : List (List Nat)) (V : List VP) (S : World → Prop) {a0 : Act} {w : World} (hm : P.follows .mixedOrders = true) (hok : tasksOk ops m a0.tmps.size R = true)
    (hSt : ∀ w w', S w → Below w.heap.size w w' → S w') (hS0 : S w.drew) (h : ∀ x, Obs P ops Q S R V x m 0 a0) : (Code.region id ops true).wp P Q a0 w :=
  wp_tasks (m := m) R V S hm hok hS0 hSt (fun x j hj => (obs_all m 0 (h x)).1 j (by omega) (by omega)) (fun x w' hS hV => by
    have := (obs_all m 0 (h x)).2 w' hS (by rw [Nat.zero_add]; exact hV)
    rwa [Nat.zero_add] at this)
theorem obs_step {S : World → Prop} {R : List (List Nat)} {V : List VP} {x : Nat → Value} {r j : Nat} {a : Act} {o : Oper} {d : Tmp} (ho : ops[j]? = some o) (hd : o.dst = some d)
    (h : ∀ w, S w → (∀ i ∈ R.getD j [], (V.getD i VAny).p (x i) w) → ∀ K : Act → World → Prop, Shut (∀ a' w' v, a'.tmps[d]? = some v → a'.defers = a.defers → (V.getD j VAny).p v w' → Below w.heap.size w w' → K a' w') →
      if Region.wanted o (yielded ops a.tmps) = true then Oper.wp P o a w K NoWay else K (a.put o.dst undef) w)
    (hr : Obs P ops Q S R V x r (j + 1) { a with tmps := a.tmps.setIfInBounds d (x j) }) : Obs P ops Q S R V x (r + 1) j a := by
  have hdst : dstOf ops j = some d := by simp [dstOf, ho, hd]
  refine ⟨fun w hS hV => wpOp_step ho (fun K hK => ?_), by rw [hdst]; exact hr⟩
  exact h w hS hV K (fun a' w' v h1 h2 h3 h4 => hK a' w' ⟨v, fun d' hd' => by rw [hdst] at hd'; injection hd' with hd'; exact hd' ▸ h1, h2, h3, h4⟩)
end
end Go.Proofs.YticofgmmjecleaaDoor
namespace Go.Proofs.YticofgmmjecleaaDoor
open Go.RowKit
theorem eqInt64S_same (A B : Option Addr) (n m c d : Nat) (xs : List Int) (w : World) (hn : n ≤ 1099511627776) (hm : m ≤ 1099511627776) (ha : Rd w A n (ints xs)) (hb : Rd w B m (ints xs)) :
    Calls Tryd.prog 8 #[.slice A n c, .slice B m d] w fun e w' => e = .returned (.bool true) ∧ Below w.heap.size w w' := by
  refine (eqInt64S_any A B n m c d xs xs w hn hm ha hb).mono ?_
  rintro e w' ⟨rfl, j, rfl⟩
  exact ⟨by simp, below_drewN (Below.refl _ _) j⟩
theorem eqSpace_same (P : Int) (A B : Option Addr) (n m c d : Nat) (xs : List Int) (w : World) (hn : n ≤ 1099511627776) (hm : m ≤ 1099511627776) (ha : Rd w A n (ints xs)) (hb : Rd w B m (ints xs)) :
    Calls Tryd.prog 9 #[.agg #[.int .i64 P, .slice A n c], .agg #[.int .i64 P, .slice B m d]] w fun e w' => e = .returned (.bool true) ∧ Below w.heap.size w w' := by
  refine (eqSpace_any P P A B n m c d xs xs w hn hm ha hb).mono ?_
  rintro e w' ⟨rfl, hb⟩
  exact ⟨by simp, hb⟩
/-- The value is a new space with the squares sq. -/
def VSp (w0 : World) (P : Int) (n : Nat) (sq : List Int) : VP := ⟨fun v w => ∃ A c, v = .agg #[.int .i64 P, .slice A n c] ∧ MkI w0 w A n c sq, fun _ _ _ ⟨A, c, e, h⟩ hb => ⟨A, c, e, h.below hb⟩⟩
end Go.Proofs.YticofgmmjecleaaDoor
namespace Go.Proofs.YticofgmmjecleaaDoor
open Go.RowKit
set_option maxHeartbeats 400000 in
set_option maxRecDepth 8000 in
theorem dim_any (P : Int) (A : Option Addr) (n c : Nat) (w : World) :
    Calls Tryd.prog 38 #[.agg #[.int .i64 P, .slice A n c]] w fun e w' => e = .returned (.int .i64 n) ∧ Below w.heap.size w w' := by
  go_enter Tryd.func38, Tryd.ntmps38
  go_wp2
  go_ret
  exact ⟨rfl, (Below.refl _ _).alloc (Nat.le_refl _) _⟩
set_option maxHeartbeats 400000 in
set_option maxRecDepth 8000 in
theorem field_any (P : Int) (A : Option Addr) (n c : Nat) (w : World) :
    Calls Tryd.prog 26 #[.agg #[.int .i64 P, .slice A n c]] w fun e w' => e = .returned (.int .i64 P) ∧ Below w.heap.size w w' := by
  go_enter Tryd.func26, Tryd.ntmps26
  go_wp2
  go_ret
  exact ⟨rfl, (Below.refl _ _).alloc (Nat.le_refl _) _⟩
set_option maxHeartbeats 400000 in
set_option maxRecDepth 8000 in
theorem length_any (A : Option Addr) (n c : Nat) (w : World) :
    Calls Tryd.prog 36 #[.slice A n c] w fun e w' => e = .returned (.int .i64 n) ∧ w = w' := by
  go_enter Tryd.func36, Tryd.ntmps36
  go_wp2
  go_ret
  exact ⟨rfl, rfl⟩
def inR (n lo hi : Int) : Bool := decide (lo ≤ n) && decide (n ≤ hi)
set_option maxHeartbeats 400000 in
set_option maxRecDepth 8000 in
theorem inRange_any (n lo hi : Int) (w : World) :
    Calls Tryd.prog 35 #[.int .i64 n, .int .i64 lo, .int .i64 hi] w fun e w' => e = .returned (.bool (inR n lo hi)) ∧ w = w' := by
  by_cases h : lo ≤ n
  · go_enter Tryd.func35, Tryd.ntmps35
    go_wp2
    go_ret
    exact ⟨ret_bool (by simp [inR, h]), rfl⟩
  · go_enter Tryd.func35, Tryd.ntmps35
    go_wp2
    go_ret
    exact ⟨ret_bool (by simp [inR]; omega), rfl⟩
def isP (p : Int) : Bool := (p == 3) || (p == 5) || (p == 7) || (p == 11) || (p == 13)
set_option maxHeartbeats 400000 in
set_option maxRecDepth 8000 in
theorem IsPrime_any (p : Int) (w : World) :
    Calls Tryd.prog 34 #[.int .i64 p] w fun e w' => e = .returned (.bool (isP p)) ∧ w = w' := by
  go_enter Tryd.func34, Tryd.ntmps34
  go_wp2
  all_goals go_ret
  all_goals exact ⟨ret_bool (by simp [isP, *]), rfl⟩
theorem inRange_b {b : Bool} (n lo hi : Int) (w : World) (h : inR n lo hi = b) :
    Calls Tryd.prog 35 #[.int .i64 n, .int .i64 lo, .int .i64 hi] w fun e w' => e = .returned (.bool b) ∧ w = w' := h ▸ inRange_any n lo hi w
theorem IsPrime_b {b : Bool} (p : Int) (w : World) (h : isP p = b) :
    Calls Tryd.prog 34 #[.int .i64 p] w fun e w' => e = .returned (.bool b) ∧ w = w' := h ▸ IsPrime_any p w
/-- All numbers of a list are from 0 to p - 1. -/
def nums (p : Int) (xs : List Int) : Bool := xs.all fun x => inR x 0 (p - 1)
theorem nums_take (p : Int) (xs : List Int) (k : Nat) (h : k < xs.length) (ht : nums p (xs.take k) = true) (hi : inR xs[k] 0 (p - 1) = true) : nums p (xs.take (k + 1)) = true := by
  unfold nums at *
  rw [List.take_succ_eq_append_getElem h, List.all_append, ht]
  simp [hi]
theorem nums_bad (p : Int) (xs : List Int) (k : Nat) (h : k < xs.length) (hi : inR xs[k] 0 (p - 1) = false) : nums p xs = false := by
  unfold nums
  rw [List.all_eq_false]
  exact ⟨xs[k], List.getElem_mem h, by simp [hi]⟩
set_option maxHeartbeats 400000 in
set_option maxRecDepth 8000 in
theorem is_any (p : Int) (A : Option Addr) (n c : Nat) (xs : List Int) (w : World) (hp : 0 < p) (hp2 : p ≤ 100) (hn : n ≤ 1099511627776) (ha : Rd w A n (ints xs)) :
    Calls Tryd.prog 37 #[.int .i64 p, .slice A n c] w fun e w' => e = .returned (.bool (nums p xs)) ∧ w = w' := by
  have hxl : xs.length = n := by have := ha.1; rwa [ints_length] at this
  have Hx := Lib.hid hxl; clear hxl
  go_enter Tryd.func37, Tryd.ntmps37
  go_wp2
  go_loop [9] (fun i => ∃ k : Nat, k ≤ n ∧ i = .int .i64 k ∧ nums p (xs.take k) = true) (fun i => n - (intOf i).toNat)
  case atStart => exact ⟨0, by omega, rfl, by simp [nums]⟩
  case round =>
    obtain ⟨k, hk, rfl, ht⟩ := hrel
    have H := Lib.hid ht; clear ht
    by_cases hlt : k < n
    · obtain ⟨g, o, rfl, hx, hcx⟩ := ha.int hlt
      clear ha
      cases hi : inR xs[k] 0 (p - 1)
      all_goals
        have HI := Lib.hid hi; clear hi
        go_wp2_with (go_at_call 35; refine (inRange_any _ _ _ _).mono ?_; rintro e w' ⟨rfl, rfl⟩; rw [HI.out])
      · go_ret
        exact ⟨ret_bool (nums_bad p xs k hx HI.out).symm, rfl⟩
      · go_round
        case rel => exact ⟨k + 1, by omega, by go_num, nums_take p xs k hx H.out HI.out⟩
        case measure => simp [intOf]; omega
    · go_wp2
      go_ret
      have := H.out
      rw [List.take_of_length_le (by rw [Hx.out]; omega)] at this
      exact ⟨ret_bool this.symm, rfl⟩
/-- Is it a space? -/
def isSp (P : Int) (xs : List Int) : Bool := isP P && inR xs.length 1 6 && nums P xs
theorem isP_pos {p : Int} (h : isP p = true) : 0 < p ∧ p ≤ 13 := by
  simp [isP] at h; omega
set_option maxHeartbeats 800000 in
set_option maxRecDepth 8000 in
theorem IsSpace_any (P : Int) (A : Option Addr) (n c : Nat) (xs : List Int) (w : World) (hn : n ≤ 1099511627776) (ha : Rd w A n (ints xs)) :
    Calls Tryd.prog 20 #[.agg #[.int .i64 P, .slice A n c]] w fun e w' => e = .returned (.bool (isSp P xs)) ∧ Below w.heap.size w w' := by
  have hxl : xs.length = n := by have := ha.1; rwa [ints_length] at this
  have Hx := Lib.hid hxl; clear hxl
  cases h1 : isP P
  · have H1 := Lib.hid h1; clear h1
    go_enter Tryd.func20, Tryd.ntmps20
    go_wp2
    go_quiet ((go_at_call 34; exact quiet_left' (IsPrime_b _ _ H1.out)))
    go_wp2
    go_ret
    exact ⟨ret_bool (by simp [isSp, H1.out]), below_drewN ((Below.refl _ _).alloc (Nat.le_refl _) _) _⟩
  · cases h2 : inR n 1 6
    · have H1 := Lib.hid h1
      have H2 := Lib.hid h2; clear h1 h2
      go_enter Tryd.func20, Tryd.ntmps20
      go_wp2
      go_quiet ((first | (go_at_call 34; exact quiet_left' (IsPrime_b _ _ H1.out)) | (go_at_call 36; exact quiet_left' (length_any _ _ _ _)) | (go_at_call 35; exact quiet_left' (inRange_b _ _ _ _ H2.out))))
      go_wp2
      go_ret
      exact ⟨ret_bool (by simp [isSp, H1.out, H2.out, Hx.out]), below_drewN ((Below.refl _ _).alloc (Nat.le_refl _) _) _⟩
    · have H1 := Lib.hid h1
      have H2 := Lib.hid h2
      obtain ⟨hp0, hp1⟩ := isP_pos h1
      clear h1 h2
      go_enter Tryd.func20, Tryd.ntmps20
      go_wp2
      go_region_held3 (fun w' => w'.cell? ⟨w.heap.size, 0, none⟩ = some (.int .i64 P) ∧ w'.cell? ⟨w.heap.size, 1, none⟩ = some (.slice A n c) ∧ Below w.heap.size w w')
        (first | exact keepB2 (by assumption) hb (Nat.le_refl _) | (refine ⟨?_, ?_, ((Below.refl _ _).alloc (Nat.le_refl _) _).drew⟩ <;> go_keep) | go_keep)
        (first
          | (go_at_call 34; refine (IsPrime_b _ _ H1.out).mono ?_; rintro e w' ⟨rfl, rfl⟩)
          | (go_at_call 36; refine (length_any _ _ _ _).mono ?_; rintro e w' ⟨rfl, rfl⟩)
          | (go_at_call 35; refine (inRange_b _ _ _ _ H2.out).mono ?_; rintro e w' ⟨rfl, rfl⟩)
          | (go_at_call 26; refine (field_any _ _ _ _ _).mono ?_; rintro e w' ⟨rfl, hb⟩)
          | (go_at_call 37; refine (is_any _ _ _ _ _ _ hp0 (by omega) hn (ha.below (by have := ‹_ ∧ _ ∧ Below _ _ _›; exact this.2.2))).mono ?_; rintro e w' ⟨rfl, rfl⟩))
      obtain ⟨_, _, hB⟩ := (by assumption : _ ∧ _ ∧ Below w.heap.size w w')
      go_wp2
      go_ret
      exact ⟨ret_bool (by simp [isSp, H1.out, H2.out, Hx.out]), hB⟩
end Go.Proofs.YticofgmmjecleaaDoor
namespace Go.Proofs.YticofgmmjecleaaDoor
/-- The number of bits of a mask. -/
def pc : Nat → Nat
  | 0 => 0
  | n + 1 => (n + 1) % 2 + pc ((n + 1) / 2)
/-- Bit i of a mask. -/
def bit (a i : Nat) : Nat := a / 2 ^ i % 2
/-- How often the vectors of a that come after the first i of b are passed. -/
def swaps (a b : Nat) : Nat → Nat
  | 0 => 0
  | i + 1 => swaps a b i + (if bit b i = 1 then pc (a / 2 ^ (i + 1)) else 0)
/-- The product of the first i squares that both masks have. -/
def common (p : Int) (sq : List Int) (a b : Nat) : Nat → Int
  | 0 => 1
  | i + 1 => if bit b i = 1 ∧ bit a i = 1 then (common p sq a b i * sq.getD i 0) % p else common p sq a b i
/-- The number by which the product of two blades is that of their different bits. -/
def fac (p : Int) (sq : List Int) (a b : Nat) : Int :=
  if swaps a b sq.length % 2 = 1 then (-(common p sq a b sq.length)) % p else common p sq a b sq.length
/-- One pair of blades of a product, added. -/
def addPair (p : Int) (sq : List Int) (takes : Nat → Nat → Bool) (x y : List Int) (a : Nat) (out : List Int) (b : Nat) : List Int :=
  if x.getD a 0 ≠ 0 ∧ y.getD b 0 ≠ 0 ∧ takes a b = true then out.set (a ^^^ b) ((out.getD (a ^^^ b) 0 + x.getD a 0 * y.getD b 0 * fac p sq a b) % p) else out
/-- The first k pairs of row a, added. -/
def addRow (p : Int) (sq : List Int) (takes : Nat → Nat → Bool) (x y : List Int) (a : Nat) (out : List Int) (k : Nat) : List Int := (List.range k).foldl (addPair p sq takes x y a) out
/-- The first k rows, added. -/
def addRows (p : Int) (sq : List Int) (takes : Nat → Nat → Bool) (x y : List Int) (out : List Int) (k : Nat) : List Int := (List.range k).foldl (fun o a => addRow p sq takes x y a o y.length) out
/-- The sum of the products of the pairs of blades that a function takes. -/
def prodL (p : Int) (sq : List Int) (takes : Nat → Nat → Bool) (x y : List Int) : List Int := addRows p sq takes x y (List.replicate x.length 0) x.length
/-- All elements are numbers. -/
def NumsL (p : Int) (xs : List Int) : Prop := ∀ x ∈ xs, 0 ≤ x ∧ x < p
theorem NumsL.getD {p : Int} {xs : List Int} (h : NumsL p xs) (hp : 0 < p) (i : Nat) : 0 ≤ xs.getD i 0 ∧ xs.getD i 0 < p := by
  by_cases hi : i < xs.length
  · rw [List.getD_eq_getElem?_getD, List.getElem?_eq_getElem hi]; exact h _ (List.getElem_mem hi)
  · rw [List.getD_eq_getElem?_getD, List.getElem?_eq_none (by omega)]; exact ⟨Int.le_refl _, hp⟩
theorem NumsL.set {p : Int} {xs : List Int} (h : NumsL p xs) (i : Nat) {v : Int} (hv : 0 ≤ v ∧ v < p) : NumsL p (xs.set i v) := fun x hx => by
  rcases List.mem_or_eq_of_mem_set hx with h1 | h1
  · exact h x h1
  · exact h1 ▸ hv
theorem NumsL.replicate {p : Int} (hp : 0 < p) (n : Nat) : NumsL p (List.replicate n 0) := fun x hx => by
  rw [(List.mem_replicate.1 hx).2]; exact ⟨Int.le_refl _, hp⟩
end Go.Proofs.YticofgmmjecleaaDoor
namespace Go.Proofs.YticofgmmjecleaaDoor
open Go.RowKit
theorem and_bit_all : ∀ k : Nat, k < 6 → ∀ x : Nat, x < 64 → bits BinOp.and IntKind.i64 ((x : Int) / 2 ^ k) 1 = (bit x k : Int) := by decide +kernel
theorem and_bit {x k : Nat} (hk : k < 6) (hx : x < 64) : bits BinOp.and IntKind.i64 ((x : Int) / 2 ^ k) 1 = (bit x k : Int) := and_bit_all k hk x hx
theorem bit1 {x k : Nat} (hk : k < 6) (hx : x < 64) (h : (bits BinOp.and IntKind.i64 ((x : Int) / 2 ^ k) 1 == 1) = true) : bit x k = 1 := by
  rw [and_bit hk hx] at h; have := beq_iff_eq.1 h; omega
theorem bit0 {x k : Nat} (hk : k < 6) (hx : x < 64) (h : (bits BinOp.and IntKind.i64 ((x : Int) / 2 ^ k) 1 == 1) = false) : ¬ bit x k = 1 := by
  rw [and_bit hk hx] at h; intro hh; rw [hh] at h; simp at h
end Go.Proofs.YticofgmmjecleaaDoor
namespace Go.Proofs.YticofgmmjecleaaDoor
open Go.RowKit
/-- 2 to the power of n. -/
def pw (n : Nat) : Nat := 2 ^ n
theorem pw_pos (n : Nat) : 1 ≤ pw n := Nat.two_pow_pos n
theorem pw_le {n k : Nat} (h : n ≤ k) : pw n ≤ pw k := Nat.pow_le_pow_right (by omega) h
theorem pw_bound {n : Nat} (h : n ≤ 30) : pw n ≤ 1073741824 := Nat.le_trans (pw_le h) (by decide)
theorem wrap_pw (n : Nat) (h : n ≤ 30) : wrap64 (2 ^ n) = (pw n : Int) := by
  have hb := pw_bound h
  have e : (2 : Int) ^ n = (pw n : Int) := by unfold pw; simp
  rw [e]
  unfold wrap64; omega
set_option maxHeartbeats 400000 in
set_option maxRecDepth 8000 in
theorem nothing_any (P : Int) (A : Option Addr) (n c : Nat) (w : World) (hn : n ≤ 10) :
    Calls Tryd.prog 21 #[.agg #[.int .i64 P, .slice A n c]] w fun e w' => ∃ A' c', e = .returned (.slice A' (pw n) c') ∧ MkI w w' A' (pw n) c' (List.replicate (pw n) 0) := by
  have hp : pw n ≤ 1024 := pw_le hn
  have hmk := make_i (P := Tryd.prog) 22 2 Tryd.underlying22 info_i (pw n) (by omega)
  rw [← wrap_pw n (by omega)] at hmk
  go_enter Tryd.func21, Tryd.ntmps21
  go_wp2_with (go_at_call 38; refine (dim_any _ _ _ _ _).mono ?_; rintro e w1 ⟨rfl, hb1⟩)
  go_ret
  have hb2 := (((Below.refl _ _).alloc (Nat.le_refl _) _).trans (hb1.mono (by simp)))
  exact ⟨_, _, rfl, by have := Mk.made (E := 2) (n := pw n) (z := .int .i64 0) hb2 (by simp only [maxLen]; omega); rwa [ints_replicate] at this⟩
end Go.Proofs.YticofgmmjecleaaDoor
namespace Go.Proofs.YticofgmmjecleaaDoor
open Go.RowKit
/-- A row of numbers of the call's own: place i. -/
theorem mkI_at {w w' : World} {g n c : Nat} {L : List Int} (h : MkI w w' (some ⟨g, 0, none⟩) n c L) {i : Nat} (hi : i < n) : w'.cell? ⟨g, i, none⟩ = some (.int .i64 (L.getD i 0)) ∧ w'.frozen? ⟨g, i, none⟩ = false := by
  have hl : L.length = n := by have := h.2.len; rwa [ints_length] at this
  obtain ⟨g', o, e, hx, hc⟩ := Rd.int h.rd hi
  injection e with e; injection e with e1 e2 _
  subst e1; subst e2
  rw [Nat.zero_add] at hc
  exact ⟨by rw [hc, List.getD_eq_getElem?_getD, List.getElem?_eq_getElem hx]; rfl, h.2.frozen_ i⟩
end Go.Proofs.YticofgmmjecleaaDoor
namespace Go.Proofs.YticofgmmjecleaaDoor
/-- The list of the values of f from 0 on. -/
def tab {α : Type} (n : Nat) (f : Nat → α) : List α := (List.range n).map f
theorem tab_len {α : Type} (n : Nat) (f : Nat → α) : (tab n f).length = n := by simp [tab]
theorem tab_get {α : Type} (n : Nat) (f : Nat → α) (i : Nat) (h : i < (tab n f).length) : (tab n f)[i] = f i := by simp [tab]
theorem tab_getD {α : Type} {n : Nat} {f : Nat → α} {i : Nat} (h : i < n) (d : α) : (tab n f).getD i d = f i := by
  rw [List.getD_eq_getElem?_getD, List.getElem?_eq_getElem (by rw [tab_len]; exact h), tab_get]; rfl
theorem tab_mem {α : Type} {n : Nat} {f : Nat → α} {x : α} (h : x ∈ tab n f) : ∃ i, i < n ∧ x = f i := by
  obtain ⟨i, hi, rfl⟩ := List.mem_map.1 h
  exact ⟨i, by simpa using hi, rfl⟩
theorem list_ext_getD {α : Type} {xs ys : List α} (d : α) (hl : xs.length = ys.length) (h : ∀ i, i < xs.length → xs.getD i d = ys.getD i d) : xs = ys := by
  apply List.ext_getElem hl
  intro i h1 h2
  have := h i h1
  rw [List.getD_eq_getElem?_getD, List.getD_eq_getElem?_getD, List.getElem?_eq_getElem h1, List.getElem?_eq_getElem h2] at this
  exact this
theorem getD_of_lt {α : Type} {xs : List α} {i : Nat} (d : α) (h : i < xs.length) : xs.getD i d = xs[i] := by
  rw [List.getD_eq_getElem?_getD, List.getElem?_eq_getElem h]; rfl
theorem getD_set {α : Type} (xs : List α) (i j : Nat) (v d : α) : (xs.set i v).getD j d = if i = j ∧ i < xs.length then v else xs.getD j d := by
  rw [List.getD_eq_getElem?_getD, List.getD_eq_getElem?_getD, List.getElem?_set]
  by_cases h1 : i = j
  · subst h1
    by_cases h2 : i < xs.length
    · simp [h2]
    · simp [h2]
  · simp [h1]
theorem getD_mem {α : Type} {xs : List α} {i : Nat} (d : α) (h : i < xs.length) : xs.getD i d ∈ xs := by
  rw [getD_of_lt d h]; exact List.getElem_mem h
/-- All rows have n numbers. -/
def Tab (p : Int) (n : Nat) (m : List (List Int)) : Prop := ∀ x ∈ m, x.length = n ∧ NumsL p x
theorem Tab.nil (p : Int) (n : Nat) : Tab p n [] := fun x hx => absurd hx (by simp)
theorem Tab.row {p : Int} {n : Nat} {m : List (List Int)} (h : Tab p n m) {i : Nat} (hi : i < m.length) : (m.getD i []).length = n ∧ NumsL p (m.getD i []) := h _ (getD_mem [] hi)
theorem Tab.set {p : Int} {n : Nat} {m : List (List Int)} (h : Tab p n m) (i : Nat) {x : List Int} (hx : x.length = n ∧ NumsL p x) : Tab p n (m.set i x) := fun y hy => by
  rcases List.mem_or_eq_of_mem_set hy with h1 | h1
  · exact h y h1
  · exact h1 ▸ hx
theorem Tab.take {p : Int} {n : Nat} {m : List (List Int)} (h : Tab p n m) (k : Nat) : Tab p n (m.take k) := fun y hy => h y (List.mem_of_mem_take hy)
theorem Tab.tab {p : Int} {n k : Nat} {f : Nat → List Int} (h : ∀ i, i < k → (f i).length = n ∧ NumsL p (f i)) : Tab p n (tab k f) := fun y hy => by
  obtain ⟨i, hi, rfl⟩ := tab_mem hy
  exact h i hi
theorem NumsL.tab {p : Int} {n : Nat} {f : Nat → Int} (h : ∀ i, i < n → 0 ≤ f i ∧ f i < p) : NumsL p (tab n f) := fun y hy => by
  obtain ⟨i, hi, rfl⟩ := tab_mem hy
  exact h i hi
end Go.Proofs.YticofgmmjecleaaDoor
namespace Go.Proofs.YticofgmmjecleaaDoor
open Go.RowKit
theorem isP_ge {p : Int} (h : isP p = true) : 3 ≤ p ∧ p ≤ 13 := by
  simp [isP] at h; omega
end Go.Proofs.YticofgmmjecleaaDoor
namespace Go.Proofs.YticofgmmjecleaaDoor
abbrev By := List UInt8
/-- The name of a blade. -/
def nameTo (m : Nat) : Nat → By
  | 0 => [101]
  | i + 1 => if bit m i = 1 then nameTo m i ++ [UInt8.ofNat (48 + i)] else nameTo m i
def nameL (n m : Nat) : By := if m = 0 then [49] else nameTo m n
/-- The first blade from i on, among k, with a name. -/
def maskF (n : Nat) (t : By) : Nat → Nat → Option Nat
  | 0, _ => none
  | k + 1, i => if nameL n i = t then some i else maskF n t k (i + 1)
def maskOf (n : Nat) (t : By) : Option Nat := maskF n t (pw n) 0
theorem maskF_lt {n : Nat} {t : By} : ∀ {k i m : Nat}, maskF n t k i = some m → i ≤ m ∧ m < i + k ∧ nameL n m = t
  | 0, i, m, h => by cases h
  | k + 1, i, m, h => by
    unfold maskF at h
    by_cases h1 : nameL n i = t
    · rw [if_pos h1] at h; injection h with h; subst h; exact ⟨Nat.le_refl _, by omega, h1⟩
    · rw [if_neg h1] at h
      have := maskF_lt h
      exact ⟨by omega, by omega, this.2.2⟩
/-- Kinds of what is read: a sum, what follows its first part, a product, what follows its first part, a factor, an atom. -/
inductive Md where
  | sum | sumL (o : List Int) | prod | prodL (o : List Int) | fac | atom
/-- What is read is a multivector. -/
def MuL (P : Int) (n : Nat) (x : List Int) : Prop := x.length = pw n ∧ NumsL P x
end Go.Proofs.YticofgmmjecleaaDoor
namespace Go.Proofs.YticofgmmjecleaaDoor
open Go Go.RowKit
/-- Variable g is just the cells cs. -/
def Glob (w : World) (g : Nat) (cs : Array Value) : Prop := ∃ t fr, w.heap[g]? = some (.cells cs t fr)
theorem Glob.lt {w : World} {g : Nat} {cs : Array Value} (h : Glob w g cs) : g < w.heap.size := by obtain ⟨t, fr, h⟩ := h; exact (Array.getElem?_eq_some_iff.1 h).1
theorem Glob.below {w w' : World} {g : Nat} {cs : Array Value} {B : Nat} (h : Glob w g cs) (hb : Below B w w') (hB : g < B) : Glob w' g cs := by obtain ⟨t, fr, h⟩ := h; exact ⟨t, fr, (hb.block g hB).trans h⟩
theorem Glob.var {P : Program} {w : World} {g : Nat} {cs : Array Value} {nm : String} (h : Glob w g cs) (hg : P.globalNamed nm = some g) : w.var? P nm = some cs := by
  obtain ⟨t, fr, h⟩ := h
  unfold World.var?
  rw [hg]
  simp only [Option.bind_some, h]
theorem glob_of_var {P : Program} {w : World} {g : Nat} {cs : Array Value} {nm : String} (h : w.var? P nm = some cs) (hg : P.globalNamed nm = some g) : Glob w g cs := by
  unfold World.var? at h
  rw [hg] at h
  simp only [Option.bind_some] at h
  split at h
  · rename_i cs' t fr e
    injection h with h
    subst h
    exact ⟨t, fr, e⟩
  · cases h
def pow10Vals : Array Value := (Lib.pow10Tab.map fun z => Value.int .u64 z).toArray
/-- What writing numbers and looking into texts reads of the library's variables. -/
structure Env (w : World) : Prop where
  m : ∃ m, w.cell? ⟨0, 0, none⟩ = some (.int .i64 m)
  p : Glob w 3 pow10Vals
theorem Env.below {w w' : World} {B : Nat} (h : Env w) (hb : Below B w w') (hB : w.heap.size ≤ B) : Env w' :=
  ⟨h.m.imp fun m hm => (hb.cell (Nat.lt_of_lt_of_le (World.block_lt_of_cell? _ _ hm) hB)).trans hm, h.p.below hb (Nat.lt_of_lt_of_le h.p.lt hB)⟩
theorem Env.tab {w : World} (h : Env w) {nm : String} (hg : Tryd.prog.globalNamed nm = some 3) : Lib.TabIs Tryd.prog w nm .u64 Lib.pow10Tab := h.p.var hg
/-- All but block g is as it was. -/
structure Ex (g : Nat) (w w' : World) : Prop where
  b : Below g w w'
  k : ∀ k, k < w.heap.size → k ≠ g → w'.heap[k]? = w.heap[k]?
section
variable {g : Nat} {w w' w1 w2 : World}
theorem Ex.refl (g : Nat) (w : World) : Ex g w w := ⟨Below.refl _ _, fun _ _ _ => rfl⟩
theorem Ex.size (h : Ex g w w') : w.heap.size ≤ w'.heap.size := h.b.size
theorem Ex.of_below (hb : Below w.heap.size w w') (hg : g ≤ w.heap.size) : Ex g w w' := ⟨hb.mono hg, fun k hk _ => hb.block k hk⟩
theorem Ex.trans (h : Ex g w w1) (h' : Ex g w1 w2) : Ex g w w2 := ⟨h.b.trans h'.b, fun k hk hne => (h'.k k (Nat.lt_of_lt_of_le hk h.b.size) hne).trans (h.k k hk hne)⟩
theorem Ex.then (h : Ex g w w1) (hb : Below w1.heap.size w1 w2) (hg : g ≤ w.heap.size) : Ex g w w2 := h.trans (Ex.of_below hb (Nat.le_trans hg h.size))
theorem Ex.down {w0 : World} (h : Ex g w w') (hb : Below w0.heap.size w0 w) (hg : w0.heap.size ≤ g) : Below w0.heap.size w0 w' := hb.trans (h.b.mono hg)
theorem Ex.set (hg : g < w.heap.size) (i : Nat) (u : Value) : Ex g w (w.setCell ⟨g, i, none⟩ u) :=
  ⟨(Below.refl _ _).setCell (p := ⟨g, i, none⟩) (Nat.le_refl _) _, fun k _ hne => Below.heap_setCell w ⟨g, i, none⟩ u k hne⟩
end
theorem bs_len (l : By) : (ByteArray.mk l.toArray).size = l.length := by show l.toArray.size = _; simp
theorem bs_of (s : ByteArray) : s = ⟨s.data.toList.toArray⟩ := rfl
theorem cat_bs {P : Program} (w : World) (x y : By) (hx : x.length ≤ 4294967296) (hy : y.length ≤ 4294967296) : (Op.stringOp .add ⟨x.toArray⟩ ⟨y.toArray⟩).run P w = .ok (.string ⟨(x ++ y).toArray⟩) w := by
  rw [run_string_add_sum w _ _ (by rw [bs_len, bs_len]; omega), ByteArray.mk_append_mk]
end Go.Proofs.YticofgmmjecleaaDoor
namespace Go.Proofs.YticofgmmjecleaaDoor
open Go Go.RowKit
theorem max_of {W : World} (hsh : W.ShapedOpen Tryd.prog) : ∃ m, W.cell? ⟨0, 0, none⟩ = some (.int .i64 m) :=
  cell_of_shapedOpen_int (P := Tryd.prog) (t := 3) (zero := #[.int .i64 0]) hsh (of_decide_eq_true (by kernel_rfl)) (by kernel_rfl) rfl (by kernel_rfl) (by kernel_rfl) Tryd.underlying3
theorem pow_eq : (Rows.laid_internal_strconv_uint64pow10 : DataW Unit) = Lib.tabData .u64 Lib.pow10Tab := by kernel_rfl
theorem pow_of {nm : String} {rest : List (String × DataW Unit)} {W : World} (h : laidMet Tryd.prog ((nm, Rows.laid_internal_strconv_uint64pow10) :: rest) W) (hg : Tryd.prog.globalNamed nm = some 3) : Glob W 3 pow10Vals := by
  rw [pow_eq] at h
  exact glob_of_var (Lib.tabIs_of_head (t := 103) (e := 57) (n := 20) hg (by kernel_rfl) (by kernel_rfl) (by kernel_rfl) (by kernel_rfl) (by kernel_rfl) h) hg
theorem env_of {n0 n1 n2 : String} {d0 d1 : DataW Unit} {r : List (String × DataW Unit)} {W : World} (hsh : W.ShapedOpen Tryd.prog)
    (hL : laidMet Tryd.prog ((n0, d0) :: (n1, d1) :: (n2, Rows.laid_internal_strconv_uint64pow10) :: r) W) (h2 : Tryd.prog.globalNamed n2 = some 3) : Env W :=
  ⟨max_of hsh, pow_of hL.tail.tail h2⟩
end Go.Proofs.YticofgmmjecleaaDoor
namespace Go.Proofs.YticofgmmjecleaaDoor
open Go.Shelf
def lays171_ren : Go.Shelf.Ren := ⟨fun | 171 => 54 | 243 => 66 | 246 => 67 | 283 => 72 | 284 => 73 | 285 => 74 | 286 => 75 | 129 => 77 | 317 => 76 | 318 => 78 | 319 => 79 | 320 => 80 | 337 => 81 | 338 => 82 | n => n, fun | 3 => 3 | 9 => 9 | 2 => 2 | 4 => 4 | 171 => 97 | 0 => 0 | 53 => 57 | 37 => 70 | 5 => 5 | 173 => 100 | 212 => 103 | 51 => 94 | 20 => 20 | 213 => 104 | 46 => 86 | 232 => 108 | 233 => 109 | n => n, fun | 17 => 3 | 18 => 4 | 19 => 5 | n => n⟩
theorem lays171 : Go.Proofs.Lays.n171 Tryd.prog lays171_ren := {
  mixed := by kernel_rfl
  f129 := Tryd.func77.trans (congrArg some (by kernel_rfl))
  f171 := Tryd.func54.trans (congrArg some (by kernel_rfl))
  f243 := Tryd.func66.trans (congrArg some (by kernel_rfl))
  f246 := Tryd.func67.trans (congrArg some (by kernel_rfl))
  f283 := Tryd.func72.trans (congrArg some (by kernel_rfl))
  f284 := Tryd.func73.trans (congrArg some (by kernel_rfl))
  f285 := Tryd.func74.trans (congrArg some (by kernel_rfl))
  f286 := Tryd.func75.trans (congrArg some (by kernel_rfl))
  f317 := Tryd.func76.trans (congrArg some (by kernel_rfl))
  f318 := Tryd.func78.trans (congrArg some (by kernel_rfl))
  f319 := Tryd.func79.trans (congrArg some (by kernel_rfl))
  f320 := Tryd.func80.trans (congrArg some (by kernel_rfl))
  f337 := Tryd.func81.trans (congrArg some (by kernel_rfl))
  f338 := Tryd.func82.trans (congrArg some (by kernel_rfl))
  t0 := Tryd.underlying0
  a0 := Tryd.isAgg0
  z0 := Tryd.sizeOf0
  v0 := Tryd.zeroValue0
  t2 := Tryd.underlying2
  a2 := Tryd.isAgg2
  z2 := Tryd.sizeOf2
  v2 := Tryd.zeroValue2
  t3 := Tryd.underlying3
  a3 := Tryd.isAgg3
  z3 := Tryd.sizeOf3
  v3 := Tryd.zeroValue3
  t4 := Tryd.underlying4
  a4 := Tryd.isAgg4
  z4 := Tryd.sizeOf4
  v4 := Tryd.zeroValue4
  t5 := Tryd.underlying5
  a5 := Tryd.isAgg5
  z5 := Tryd.sizeOf5
  v5 := Tryd.zeroValue5
  t9 := Tryd.underlying9
  a9 := Tryd.isAgg9
  z9 := Tryd.sizeOf9
  v9 := Tryd.zeroValue9
  t20 := Tryd.underlying20
  a20 := Tryd.isAgg20
  z20 := Tryd.sizeOf20
  v20 := Tryd.zeroValue20
  t37 := Tryd.underlying70
  a37 := Tryd.isAgg70
  z37 := Tryd.sizeOf70
  v37 := Tryd.zeroValue70
  t46 := Tryd.underlying86
  a46 := Tryd.isAgg86
  z46 := Tryd.sizeOf86
  v46 := Tryd.zeroValue86
  t51 := Tryd.underlying94
  a51 := Tryd.isAgg94
  z51 := Tryd.sizeOf94
  v51 := Tryd.zeroValue94
  t53 := Tryd.underlying57
  a53 := Tryd.isAgg57
  z53 := Tryd.sizeOf57
  v53 := Tryd.zeroValue57
  t171 := Tryd.underlying97
  a171 := Tryd.isAgg97
  z171 := Tryd.sizeOf97
  v171 := Tryd.zeroValue97
  t173 := Tryd.underlying100
  a173 := Tryd.isAgg100
  z173 := Tryd.sizeOf100
  v173 := Tryd.zeroValue100
  t212 := Tryd.underlying103
  a212 := Tryd.isAgg103
  z212 := Tryd.sizeOf103
  v212 := Tryd.zeroValue103
  t213 := Tryd.underlying104
  a213 := Tryd.isAgg104
  z213 := Tryd.sizeOf104
  t232 := Tryd.underlying108
  a232 := Tryd.isAgg108
  z232 := Tryd.sizeOf108
  v232 := Tryd.zeroValue108
  t233 := Tryd.underlying109
  a233 := Tryd.isAgg109
  z233 := Tryd.sizeOf109
  v233 := Tryd.zeroValue109
  g17 := by kernel_rfl
  g18 := by kernel_rfl
  g19 := by kernel_rfl }
def laysM173_ren : Go.Shelf.Ren := ⟨fun | 173 => 55 | 246 => 67 | 283 => 72 | 284 => 73 | 285 => 74 | 286 => 75 | 129 => 77 | 317 => 76 | 318 => 78 | 319 => 79 | 320 => 80 | 337 => 81 | 338 => 82 | n => n, fun | 2 => 2 | 3 => 3 | 9 => 9 | 4 => 4 | 171 => 97 | 0 => 0 | 53 => 57 | 37 => 70 | 5 => 5 | 173 => 100 | 212 => 103 | 51 => 94 | 20 => 20 | 213 => 104 | 46 => 86 | 232 => 108 | 233 => 109 | n => n, fun | 17 => 3 | 18 => 4 | 19 => 5 | n => n⟩
theorem laysM173 : Go.Proofs.LaysM.n173 Tryd.prog laysM173_ren := {
  mixed := by kernel_rfl
  f129 := Tryd.func77.trans (congrArg some (by kernel_rfl))
  f173 := Tryd.func55.trans (congrArg some (by kernel_rfl))
  f246 := Tryd.func67.trans (congrArg some (by kernel_rfl))
  f283 := Tryd.func72.trans (congrArg some (by kernel_rfl))
  f284 := Tryd.func73.trans (congrArg some (by kernel_rfl))
  f285 := Tryd.func74.trans (congrArg some (by kernel_rfl))
  f286 := Tryd.func75.trans (congrArg some (by kernel_rfl))
  f317 := Tryd.func76.trans (congrArg some (by kernel_rfl))
  f318 := Tryd.func78.trans (congrArg some (by kernel_rfl))
  f319 := Tryd.func79.trans (congrArg some (by kernel_rfl))
  f320 := Tryd.func80.trans (congrArg some (by kernel_rfl))
  f337 := Tryd.func81.trans (congrArg some (by kernel_rfl))
  f338 := Tryd.func82.trans (congrArg some (by kernel_rfl))
  t0 := Tryd.underlying0
  a0 := Tryd.isAgg0
  z0 := Tryd.sizeOf0
  v0 := Tryd.zeroValue0
  t2 := Tryd.underlying2
  a2 := Tryd.isAgg2
  z2 := Tryd.sizeOf2
  v2 := Tryd.zeroValue2
  t3 := Tryd.underlying3
  a3 := Tryd.isAgg3
  z3 := Tryd.sizeOf3
  v3 := Tryd.zeroValue3
  t4 := Tryd.underlying4
  a4 := Tryd.isAgg4
  z4 := Tryd.sizeOf4
  v4 := Tryd.zeroValue4
  t5 := Tryd.underlying5
  a5 := Tryd.isAgg5
  z5 := Tryd.sizeOf5
  v5 := Tryd.zeroValue5
  t9 := Tryd.underlying9
  a9 := Tryd.isAgg9
  z9 := Tryd.sizeOf9
  v9 := Tryd.zeroValue9
  t20 := Tryd.underlying20
  a20 := Tryd.isAgg20
  z20 := Tryd.sizeOf20
  v20 := Tryd.zeroValue20
  t37 := Tryd.underlying70
  a37 := Tryd.isAgg70
  z37 := Tryd.sizeOf70
  v37 := Tryd.zeroValue70
  t46 := Tryd.underlying86
  a46 := Tryd.isAgg86
  z46 := Tryd.sizeOf86
  v46 := Tryd.zeroValue86
  t51 := Tryd.underlying94
  a51 := Tryd.isAgg94
  z51 := Tryd.sizeOf94
  v51 := Tryd.zeroValue94
  t53 := Tryd.underlying57
  a53 := Tryd.isAgg57
  z53 := Tryd.sizeOf57
  v53 := Tryd.zeroValue57
  t171 := Tryd.underlying97
  a171 := Tryd.isAgg97
  z171 := Tryd.sizeOf97
  v171 := Tryd.zeroValue97
  t173 := Tryd.underlying100
  a173 := Tryd.isAgg100
  z173 := Tryd.sizeOf100
  v173 := Tryd.zeroValue100
  t212 := Tryd.underlying103
  a212 := Tryd.isAgg103
  z212 := Tryd.sizeOf103
  v212 := Tryd.zeroValue103
  t213 := Tryd.underlying104
  a213 := Tryd.isAgg104
  z213 := Tryd.sizeOf104
  t232 := Tryd.underlying108
  a232 := Tryd.isAgg108
  z232 := Tryd.sizeOf108
  v232 := Tryd.zeroValue108
  t233 := Tryd.underlying109
  a233 := Tryd.isAgg109
  z233 := Tryd.sizeOf109
  v233 := Tryd.zeroValue109
  g17 := by kernel_rfl
  g18 := by kernel_rfl
  g19 := by kernel_rfl
  i0 := by kernel_rfl
  i2 := by kernel_rfl
  i3 := by kernel_rfl
  i4 := by kernel_rfl
  i5 := by kernel_rfl
  i9 := by kernel_rfl
  i20 := by kernel_rfl
  i37 := by kernel_rfl
  i46 := by kernel_rfl
  i51 := by kernel_rfl
  i53 := by kernel_rfl
  i171 := by kernel_rfl
  i173 := by kernel_rfl
  i212 := by kernel_rfl
  i232 := by kernel_rfl
  i233 := by kernel_rfl
  m17 := by kernel_rfl
  m18 := by kernel_rfl
  m19 := by kernel_rfl }
def lays145_ren : Go.Shelf.Ren := ⟨fun | 145 => 24 | 220 => 41 | 219 => 53 | 217 => 62 | 225 => 63 | 224 => 64 | 267 => 65 | 266 => 70 | 314 => 71 | n => n, fun | 9 => 9 | 4 => 4 | 59 => 45 | 3 => 3 | 5 => 5 | 46 => 86 | 146 => 95 | 51 => 94 | n => n, fun | 1 => 0 | n => n⟩
theorem lays145 : Go.Proofs.Lays.n145 Tryd.prog lays145_ren := {
  mixed := by kernel_rfl
  f145 := Tryd.func24.trans (congrArg some (by kernel_rfl))
  f217 := Tryd.func62.trans (congrArg some (by kernel_rfl))
  f219 := Tryd.func53.trans (congrArg some (by kernel_rfl))
  f220 := Tryd.func41.trans (congrArg some (by kernel_rfl))
  f224 := Tryd.func64.trans (congrArg some (by kernel_rfl))
  f225 := Tryd.func63.trans (congrArg some (by kernel_rfl))
  f266 := Tryd.func70.trans (congrArg some (by kernel_rfl))
  f267 := Tryd.func65.trans (congrArg some (by kernel_rfl))
  f314 := Tryd.func71.trans (congrArg some (by kernel_rfl))
  t3 := Tryd.underlying3
  a3 := Tryd.isAgg3
  z3 := Tryd.sizeOf3
  v3 := Tryd.zeroValue3
  t4 := Tryd.underlying4
  a4 := Tryd.isAgg4
  z4 := Tryd.sizeOf4
  v4 := Tryd.zeroValue4
  t5 := Tryd.underlying5
  a5 := Tryd.isAgg5
  z5 := Tryd.sizeOf5
  v5 := Tryd.zeroValue5
  t9 := Tryd.underlying9
  a9 := Tryd.isAgg9
  z9 := Tryd.sizeOf9
  v9 := Tryd.zeroValue9
  t46 := Tryd.underlying86
  a46 := Tryd.isAgg86
  z46 := Tryd.sizeOf86
  v46 := Tryd.zeroValue86
  t51 := Tryd.underlying94
  a51 := Tryd.isAgg94
  z51 := Tryd.sizeOf94
  v51 := Tryd.zeroValue94
  t59 := Tryd.underlying45
  a59 := Tryd.isAgg45
  z59 := Tryd.sizeOf45
  v59 := Tryd.zeroValue45
  t146 := Tryd.underlying95
  a146 := Tryd.isAgg95
  z146 := Tryd.sizeOf95
  v146 := Tryd.zeroValue95
  g1 := by kernel_rfl }
def laysM146_ren : Go.Shelf.Ren := ⟨fun | 146 => 22 | 221 => 39 | 268 => 46 | 138 => 47 | 143 => 48 | 195 => 57 | 197 => 51 | 218 => 58 | 219 => 53 | 260 => 61 | 217 => 62 | 225 => 63 | 224 => 64 | 267 => 65 | 266 => 70 | 314 => 71 | n => n, fun | 9 => 9 | 31 => 42 | 3 => 3 | 4 => 4 | 0 => 0 | 105 => 78 | 21 => 21 | 5 => 5 | 46 => 86 | 119 => 90 | 139 => 93 | 138 => 92 | 146 => 95 | 51 => 94 | n => n, fun | 1 => 0 | 3 => 1 | 4 => 2 | n => n⟩
theorem laysM146 : Go.Proofs.LaysM.n146 Tryd.prog laysM146_ren := {
  mixed := by kernel_rfl
  f138 := Tryd.func47.trans (congrArg some (by kernel_rfl))
  f143 := Tryd.func48.trans (congrArg some (by kernel_rfl))
  f146 := Tryd.func22.trans (congrArg some (by kernel_rfl))
  f195 := Tryd.func57.trans (congrArg some (by kernel_rfl))
  f197 := Tryd.func51.trans (congrArg some (by kernel_rfl))
  f217 := Tryd.func62.trans (congrArg some (by kernel_rfl))
  f218 := Tryd.func58.trans (congrArg some (by kernel_rfl))
  f219 := Tryd.func53.trans (congrArg some (by kernel_rfl))
  f221 := Tryd.func39.trans (congrArg some (by kernel_rfl))
  f224 := Tryd.func64.trans (congrArg some (by kernel_rfl))
  f225 := Tryd.func63.trans (congrArg some (by kernel_rfl))
  f260 := Tryd.func61.trans (congrArg some (by kernel_rfl))
  f266 := Tryd.func70.trans (congrArg some (by kernel_rfl))
  f267 := Tryd.func65.trans (congrArg some (by kernel_rfl))
  f268 := Tryd.func46.trans (congrArg some (by kernel_rfl))
  f314 := Tryd.func71.trans (congrArg some (by kernel_rfl))
  t0 := Tryd.underlying0
  a0 := Tryd.isAgg0
  z0 := Tryd.sizeOf0
  v0 := Tryd.zeroValue0
  t3 := Tryd.underlying3
  a3 := Tryd.isAgg3
  z3 := Tryd.sizeOf3
  v3 := Tryd.zeroValue3
  t4 := Tryd.underlying4
  a4 := Tryd.isAgg4
  z4 := Tryd.sizeOf4
  v4 := Tryd.zeroValue4
  t5 := Tryd.underlying5
  a5 := Tryd.isAgg5
  z5 := Tryd.sizeOf5
  v5 := Tryd.zeroValue5
  t9 := Tryd.underlying9
  a9 := Tryd.isAgg9
  z9 := Tryd.sizeOf9
  v9 := Tryd.zeroValue9
  t21 := Tryd.underlying21
  a21 := Tryd.isAgg21
  z21 := Tryd.sizeOf21
  v21 := Tryd.zeroValue21
  t31 := Tryd.underlying42
  a31 := Tryd.isAgg42
  z31 := Tryd.sizeOf42
  v31 := Tryd.zeroValue42
  t46 := Tryd.underlying86
  a46 := Tryd.isAgg86
  z46 := Tryd.sizeOf86
  v46 := Tryd.zeroValue86
  t51 := Tryd.underlying94
  a51 := Tryd.isAgg94
  z51 := Tryd.sizeOf94
  v51 := Tryd.zeroValue94
  t105 := Tryd.underlying78
  a105 := Tryd.isAgg78
  z105 := Tryd.sizeOf78
  v105 := Tryd.zeroValue78
  t119 := Tryd.underlying90
  a119 := Tryd.isAgg90
  z119 := Tryd.sizeOf90
  t138 := Tryd.underlying92
  a138 := Tryd.isAgg92
  z138 := Tryd.sizeOf92
  v138 := Tryd.zeroValue92
  t139 := Tryd.underlying93
  a139 := Tryd.isAgg93
  z139 := Tryd.sizeOf93
  v139 := Tryd.zeroValue93
  t146 := Tryd.underlying95
  a146 := Tryd.isAgg95
  z146 := Tryd.sizeOf95
  v146 := Tryd.zeroValue95
  g1 := by kernel_rfl
  g3 := by kernel_rfl
  g4 := by kernel_rfl
  i0 := by kernel_rfl
  i3 := by kernel_rfl
  i4 := by kernel_rfl
  i5 := by kernel_rfl
  i9 := by kernel_rfl
  i21 := by kernel_rfl
  i31 := by kernel_rfl
  i46 := by kernel_rfl
  i51 := by kernel_rfl
  i105 := by kernel_rfl
  i138 := by kernel_rfl
  i139 := by kernel_rfl
  i146 := by kernel_rfl
  m1 := by kernel_rfl
  s1_3 := fun w h => Go.Proofs.cell_of_shapedOpen_int (zero := #[.int .i64 0]) (t := 3) h (of_decide_eq_true (by kernel_rfl)) (by kernel_rfl) rfl (by kernel_rfl) (by kernel_rfl) Tryd.underlying3
  m3 := by kernel_rfl
  m4 := by kernel_rfl }
def laysM155_ren : Go.Shelf.Ren := ⟨fun | 155 => 23 | 154 => 40 | 138 => 47 | 165 => 49 | 143 => 48 | 166 => 50 | 197 => 51 | 169 => 52 | 195 => 57 | 218 => 58 | 240 => 59 | 241 => 60 | 219 => 53 | 260 => 61 | 276 => 68 | 277 => 69 | 217 => 62 | 225 => 63 | 224 => 64 | 267 => 65 | 266 => 70 | 314 => 71 | n => n, fun | 9 => 9 | 3 => 3 | 4 => 4 | 72 => 72 | 0 => 0 | 76 => 76 | 105 => 78 | 21 => 21 | 5 => 5 | 70 => 69 | 20 => 20 | 37 => 70 | 75 => 75 | 127 => 84 | 164 => 87 | 46 => 86 | 119 => 90 | 139 => 93 | 138 => 92 | 146 => 95 | 51 => 94 | 80 => 80 | n => n, fun | 1 => 0 | 3 => 1 | 4 => 2 | n => n⟩
theorem laysM155 : Go.Proofs.LaysM.n155 Tryd.prog laysM155_ren := {
  mixed := by kernel_rfl
  f138 := Tryd.func47.trans (congrArg some (by kernel_rfl))
  f143 := Tryd.func48.trans (congrArg some (by kernel_rfl))
  f154 := Tryd.func40.trans (congrArg some (by kernel_rfl))
  f155 := Tryd.func23.trans (congrArg some (by kernel_rfl))
  f165 := Tryd.func49.trans (congrArg some (by kernel_rfl))
  f166 := Tryd.func50.trans (congrArg some (by kernel_rfl))
  f169 := Tryd.func52.trans (congrArg some (by kernel_rfl))
  f195 := Tryd.func57.trans (congrArg some (by kernel_rfl))
  f197 := Tryd.func51.trans (congrArg some (by kernel_rfl))
  f217 := Tryd.func62.trans (congrArg some (by kernel_rfl))
  f218 := Tryd.func58.trans (congrArg some (by kernel_rfl))
  f219 := Tryd.func53.trans (congrArg some (by kernel_rfl))
  f224 := Tryd.func64.trans (congrArg some (by kernel_rfl))
  f225 := Tryd.func63.trans (congrArg some (by kernel_rfl))
  f240 := Tryd.func59.trans (congrArg some (by kernel_rfl))
  f241 := Tryd.func60.trans (congrArg some (by kernel_rfl))
  f260 := Tryd.func61.trans (congrArg some (by kernel_rfl))
  f266 := Tryd.func70.trans (congrArg some (by kernel_rfl))
  f267 := Tryd.func65.trans (congrArg some (by kernel_rfl))
  f276 := Tryd.func68.trans (congrArg some (by kernel_rfl))
  f277 := Tryd.func69.trans (congrArg some (by kernel_rfl))
  f314 := Tryd.func71.trans (congrArg some (by kernel_rfl))
  t0 := Tryd.underlying0
  a0 := Tryd.isAgg0
  z0 := Tryd.sizeOf0
  v0 := Tryd.zeroValue0
  t3 := Tryd.underlying3
  a3 := Tryd.isAgg3
  z3 := Tryd.sizeOf3
  v3 := Tryd.zeroValue3
  t4 := Tryd.underlying4
  a4 := Tryd.isAgg4
  z4 := Tryd.sizeOf4
  v4 := Tryd.zeroValue4
  t5 := Tryd.underlying5
  a5 := Tryd.isAgg5
  z5 := Tryd.sizeOf5
  v5 := Tryd.zeroValue5
  t9 := Tryd.underlying9
  a9 := Tryd.isAgg9
  z9 := Tryd.sizeOf9
  v9 := Tryd.zeroValue9
  t20 := Tryd.underlying20
  a20 := Tryd.isAgg20
  z20 := Tryd.sizeOf20
  v20 := Tryd.zeroValue20
  t21 := Tryd.underlying21
  a21 := Tryd.isAgg21
  z21 := Tryd.sizeOf21
  v21 := Tryd.zeroValue21
  t37 := Tryd.underlying70
  a37 := Tryd.isAgg70
  z37 := Tryd.sizeOf70
  v37 := Tryd.zeroValue70
  t46 := Tryd.underlying86
  a46 := Tryd.isAgg86
  z46 := Tryd.sizeOf86
  v46 := Tryd.zeroValue86
  t51 := Tryd.underlying94
  a51 := Tryd.isAgg94
  z51 := Tryd.sizeOf94
  v51 := Tryd.zeroValue94
  t70 := Tryd.underlying69
  a70 := Tryd.isAgg69
  z70 := Tryd.sizeOf69
  v70 := Tryd.zeroValue69
  t72 := Tryd.underlying72
  a72 := Tryd.isAgg72
  z72 := Tryd.sizeOf72
  v72 := Tryd.zeroValue72
  t75 := Tryd.underlying75
  a75 := Tryd.isAgg75
  z75 := Tryd.sizeOf75
  v75 := Tryd.zeroValue75
  t76 := Tryd.underlying76
  a76 := Tryd.isAgg76
  z76 := Tryd.sizeOf76
  v76 := Tryd.zeroValue76
  t105 := Tryd.underlying78
  a105 := Tryd.isAgg78
  z105 := Tryd.sizeOf78
  v105 := Tryd.zeroValue78
  t119 := Tryd.underlying90
  a119 := Tryd.isAgg90
  z119 := Tryd.sizeOf90
  t127 := Tryd.underlying84
  a127 := Tryd.isAgg84
  z127 := Tryd.sizeOf84
  v127 := Tryd.zeroValue84
  t138 := Tryd.underlying92
  a138 := Tryd.isAgg92
  z138 := Tryd.sizeOf92
  v138 := Tryd.zeroValue92
  t139 := Tryd.underlying93
  a139 := Tryd.isAgg93
  z139 := Tryd.sizeOf93
  v139 := Tryd.zeroValue93
  t146 := Tryd.underlying95
  a146 := Tryd.isAgg95
  z146 := Tryd.sizeOf95
  v146 := Tryd.zeroValue95
  t164 := Tryd.underlying87
  a164 := Tryd.isAgg87
  z164 := Tryd.sizeOf87
  v164 := Tryd.zeroValue87
  g1 := by kernel_rfl
  g3 := by kernel_rfl
  g4 := by kernel_rfl
  t80 := Tryd.underlying80
  a80 := Tryd.isAgg80
  z80 := Tryd.sizeOf80
  v80 := Tryd.zeroValue80
  i0 := by kernel_rfl
  i3 := by kernel_rfl
  i4 := by kernel_rfl
  i5 := by kernel_rfl
  i9 := by kernel_rfl
  i20 := by kernel_rfl
  i21 := by kernel_rfl
  i37 := by kernel_rfl
  i46 := by kernel_rfl
  i51 := by kernel_rfl
  i70 := by kernel_rfl
  i72 := by kernel_rfl
  i75 := by kernel_rfl
  i76 := by kernel_rfl
  i80 := by kernel_rfl
  i105 := by kernel_rfl
  i127 := by kernel_rfl
  i138 := by kernel_rfl
  i139 := by kernel_rfl
  i146 := by kernel_rfl
  i164 := by kernel_rfl
  m1 := by kernel_rfl
  s1_3 := fun w h => Go.Proofs.cell_of_shapedOpen_int (zero := #[.int .i64 0]) (t := 3) h (of_decide_eq_true (by kernel_rfl)) (by kernel_rfl) rfl (by kernel_rfl) (by kernel_rfl) Tryd.underlying3
  m3 := by kernel_rfl
  m4 := by kernel_rfl }
theorem extraBuild : Builder.Extra Tryd.prog laysM155_ren := {
  sizeBuilder := by kernel_rfl
  liesBuilder := by kernel_rfl
  t5 := Tryd.underlying5
  a5 := Tryd.isAgg5
  z5 := Tryd.sizeOf5
  v5 := Tryd.zeroValue5
  infoByte := by kernel_rfl
  cellsByte := by kernel_rfl
  sizeByte := by kernel_rfl
  neB5 := by decide }
def lays99_ren : Go.Shelf.Ren := ⟨fun | 99 => 44 | 206 => 56 | n => n, fun | 9 => 9 | 4 => 4 | 3 => 3 | n => n, fun | n => n⟩
theorem lays99 : Go.Proofs.Lays.n99 Tryd.prog lays99_ren := {
  mixed := by kernel_rfl
  f99 := Tryd.func44.trans (congrArg some (by kernel_rfl))
  f206 := Tryd.func56.trans (congrArg some (by kernel_rfl))
  t3 := Tryd.underlying3
  a3 := Tryd.isAgg3
  z3 := Tryd.sizeOf3
  v3 := Tryd.zeroValue3
  t4 := Tryd.underlying4
  a4 := Tryd.isAgg4
  z4 := Tryd.sizeOf4
  v4 := Tryd.zeroValue4
  t9 := Tryd.underlying9
  a9 := Tryd.isAgg9
  z9 := Tryd.sizeOf9
  v9 := Tryd.zeroValue9 }
end Go.Proofs.YticofgmmjecleaaDoor
namespace Go.Proofs.YticofgmmjecleaaDoor
open Go
/-- The text of a number; of a term. -/
def txtN (p a : Int) : By := Lib.itoa (if (p - 1) / 2 < a then a - p else a)
def numP (p a : Int) : By := if txtN p a = [49] then [] else if txtN p a = [45, 49] then [45] else txtN p a
def termL (p : Int) (n m : Nat) (a : Int) : By := if m = 0 then txtN p a else numP p a ++ nameL n m
/-- The text of the first places. -/
def textTo (p : Int) (n : Nat) (x : List Int) : Nat → By
  | 0 => []
  | k + 1 => if x.getD k 0 = 0 then textTo p n x k else textTo p n x k ++ ((if textTo p n x k ≠ [] ∧ (termL p n k (x.getD k 0)).head? ≠ some 45 then [43] else []) ++ termL p n k (x.getD k 0))
def textL (p : Int) (n : Nat) (x : List Int) : By := if textTo p n x x.length = [] then [48] else textTo p n x x.length
/-- The number with a text. -/
def parF (p : Int) (t : By) : Nat → Nat → Option Int
  | 0, _ => none
  | k + 1, i => if txtN p i = t then some i else parF p t k (i + 1)
def parN (p : Int) (t : By) : Option Int := parF p t p.toNat 0
theorem parF_lt {p : Int} {t : By} : ∀ {k i : Nat} {a : Int}, parF p t k i = some a → (i : Int) ≤ a ∧ a < i + k
  | 0, i, a, h => by cases h
  | k + 1, i, a, h => by
    unfold parF at h
    by_cases h1 : txtN p i = t
    · rw [if_pos h1] at h; injection h with h; subst h; omega
    · rw [if_neg h1] at h
      have := parF_lt h
      omega
theorem parN_lt {p : Int} {t : By} {a : Int} (hp : 0 < p) (h : parN p t = some a) : 0 ≤ a ∧ a < p := by have := parF_lt h; omega
theorem index_one_eq (c : UInt8) (l : By) : Lib.index (c :: l) [c] = 0 := by
  unfold Lib.index
  simp [List.isPrefixOf]
theorem index_one_ne {b c : UInt8} (h : b ≠ c) (l : By) : Lib.index (b :: l) [c] = if Lib.index l [c] = -1 then -1 else Lib.index l [c] + 1 := by
  conv => lhs; unfold Lib.index
  have : (c == b) = false := by simpa using fun e => h e.symm
  simp [List.isPrefixOf, this]
/-- A text cut at each byte c. -/
def splitP (c : UInt8) : By → List By
  | [] => [[]]
  | b :: l => if b = c then [] :: splitP c l else match splitP c l with
    | [] => [[b]]
    | h :: t => (b :: h) :: t
theorem splitP_ne (c : UInt8) (s : By) : splitP c s ≠ [] := by
  cases s with
  | nil => simp [splitP]
  | cons b l =>
    unfold splitP
    split
    · simp
    · split <;> simp
theorem count_zero_of {c : UInt8} {l : By} (h : Lib.index l [c] = -1) : Lib.count l [c] = 0 := Lib.count_miss h
theorem count_pos_of {c : UInt8} {l : By} (h : Lib.index l [c] ≠ -1) : ∃ i : Nat, Lib.index l [c] = i ∧ Lib.count l [c] = 1 + Lib.count (l.drop (i + 1)) [c] := by
  have hge := Lib.index_ge l [c]
  obtain ⟨i, hi⟩ : ∃ i : Nat, Lib.index l [c] = i := ⟨(Lib.index l [c]).toNat, by omega⟩
  exact ⟨i, hi, Lib.count_hit (by simp) hi⟩
theorem split_eq (c : UInt8) : ∀ s : By, Lib.splitK [c] 0 (Lib.count s [c]) s = splitP c s
  | [] => rfl
  | b :: l => by
    by_cases hb : b = c
    · subst hb
      rw [Lib.count_cons_eq, Nat.add_comm]
      unfold Lib.splitK
      rw [index_one_eq]
      unfold splitP
      rw [if_pos rfl, ← split_eq b l]
      rfl
    · rw [Lib.count_cons_ne b c l hb]
      by_cases h1 : Lib.index l [c] = -1
      · have ih := split_eq c l
        rw [count_zero_of h1] at ih ⊢
        unfold splitP
        rw [if_neg hb, ← ih]; rfl
      · obtain ⟨i, hi, hc⟩ := count_pos_of h1
        have ih := split_eq c l
        rw [hc, Nat.add_comm] at ih ⊢
        unfold Lib.splitK at ih ⊢
        rw [index_one_ne hb, if_neg h1]
        rw [hi] at ih ⊢
        have e1 : ((i : Int) == -1) = false := by rw [beq_eq_false_iff_ne]; omega
        have e2 : ((i : Int) + 1 == -1) = false := by rw [beq_eq_false_iff_ne]; omega
        rw [if_neg (by rw [e1]; simp)] at ih
        rw [if_neg (by rw [e2]; simp)]
        unfold splitP
        rw [if_neg hb, ← ih]
        have e3 : ((i : Int) + 1).toNat = i + 1 := by omega
        have e4 : (i : Int).toNat = i := by omega
        rw [e3, e4]; rfl
/-- Each '-' with a '+' ahead. -/
def repP (s : By) : By := s.flatMap fun b => if b = 45 then [43, 45] else [b]
theorem rep_eqK (c : UInt8) (new : By) : ∀ s : By, Lib.replaceK [c] new (Lib.count s [c]) s = s.flatMap fun b => if b = c then new else [b]
  | [] => rfl
  | b :: l => by
    rw [List.flatMap_cons]
    by_cases hb : b = c
    · subst hb
      rw [Lib.count_cons_eq, Nat.add_comm, if_pos rfl, ← rep_eqK b new l]
      have e := Lib.replaceK_hit [b] new (Lib.count l [b]) (b :: l) 0 (index_one_eq b l)
      rw [e]; rfl
    · rw [Lib.count_cons_ne b c l hb, if_neg hb, ← rep_eqK c new l]
      by_cases h1 : Lib.index l [c] = -1
      · rw [count_zero_of h1]; rfl
      · obtain ⟨i, hi, hc⟩ := count_pos_of h1
        rw [hc, Nat.add_comm]
        unfold Lib.replaceK
        rw [index_one_ne hb, if_neg h1, hi]
        have e1 : ((i : Int) == -1) = false := by rw [beq_eq_false_iff_ne]; omega
        have e2 : ((i : Int) + 1 == -1) = false := by rw [beq_eq_false_iff_ne]; omega
        rw [if_neg (by rw [e2]; simp), if_neg (by rw [e1]; simp)]
        have e3 : ((i : Int) + 1).toNat = i + 1 := by omega
        have e4 : (i : Int).toNat = i := by omega
        rw [e3, e4]; rfl
theorem rep_eq (s : By) : Lib.replaceAll s [45] [43, 45] = repP s := by
  unfold Lib.replaceAll Lib.replace
  rw [if_neg (by decide)]
  have : Lib.replaceNum s [45] (-1) = Lib.count s [45] := by unfold Lib.replaceNum; rw [if_pos (Or.inl (by decide))]
  rw [this]
  exact rep_eqK 45 [43, 45] s
theorem index_none_of {c : UInt8} : ∀ {s : By}, (∀ b ∈ s, b ≠ c) → Lib.index s [c] = -1
  | [], _ => rfl
  | b :: l, h => by rw [index_one_ne (h b (by simp)), if_pos (index_none_of fun x hx => h x (by simp [hx]))]
theorem index_at_of {c : UInt8} : ∀ {s t : By}, (∀ b ∈ s, b ≠ c) → Lib.index (s ++ c :: t) [c] = s.length
  | [], t, _ => index_one_eq c t
  | b :: l, t, h => by
    have ih := index_at_of (t := t) fun x hx => h x (List.mem_cons_of_mem b hx)
    rw [List.cons_append, index_one_ne (h b (by simp)), ih, if_neg (by omega), List.length_cons]; omega
theorem cut_none {c : UInt8} {s : By} (h : ∀ b ∈ s, b ≠ c) : Lib.cut s [c] = (s, [], false) := by
  unfold Lib.cut
  rw [index_none_of h, if_neg (by decide)]
theorem cut_some {c : UInt8} {s t : By} (h : ∀ b ∈ s, b ≠ c) : Lib.cut (s ++ c :: t) [c] = (s, t, true) := by
  unfold Lib.cut
  rw [index_at_of h, if_pos (by omega)]
  have e : ((s.length : Nat) : Int).toNat = s.length := by omega
  rw [e]
  simp
def okN (t : By) : Bool := !t.isEmpty && t != [45] && t.all (fun b => b != 43 && b != 101) && t.tail.all (fun b => b != 45)
theorem num_all : ([3, 5, 7, 11, 13].all fun p : Nat => (List.range p).all fun a => okN (txtN p a) && (parN p (txtN p a) == some (a : Int))) = true := by decide +kernel
theorem num_none : ([3, 5, 7, 11, 13].all fun p : Nat => parN p [] == none && txtN p 0 == [48]) = true := by decide +kernel
theorem name_all : ((List.range 7).all fun n => (List.range (pw n)).all fun m => maskOf n (nameL n m) == some m) = true := by decide +kernel
theorem isP_list {p : Int} (h : isP p = true) : ∃ q : Nat, p = q ∧ q ∈ [3, 5, 7, 11, 13] := by
  unfold isP at h
  simp only [Bool.or_eq_true, beq_iff_eq] at h
  rcases h with (((h | h) | h) | h) | h
  · exact ⟨3, h, by simp⟩
  · exact ⟨5, h, by simp⟩
  · exact ⟨7, h, by simp⟩
  · exact ⟨11, h, by simp⟩
  · exact ⟨13, h, by simp⟩
theorem num_facts {p : Int} (hP : isP p = true) {a : Int} (h0 : 0 ≤ a) (h1 : a < p) : okN (txtN p a) = true ∧ parN p (txtN p a) = some a := by
  obtain ⟨q, rfl, hq⟩ := isP_list hP
  have h := List.all_eq_true.1 (List.all_eq_true.1 num_all q hq) a.toNat (List.mem_range.2 (by omega))
  rw [Bool.and_eq_true, beq_iff_eq] at h
  rw [show ((a.toNat : Nat) : Int) = a by omega] at h
  exact h
theorem num_facts0 {p : Int} (hP : isP p = true) : parN p [] = none ∧ txtN p 0 = [48] := by
  obtain ⟨q, rfl, hq⟩ := isP_list hP
  have h := List.all_eq_true.1 num_none q hq
  rw [Bool.and_eq_true, beq_iff_eq, beq_iff_eq] at h
  exact h
theorem mask_name {n m : Nat} (hn : n ≤ 6) (hm : m < pw n) : maskOf n (nameL n m) = some m := by
  have h := List.all_eq_true.1 (List.all_eq_true.1 name_all n (List.mem_range.2 (by omega))) m (List.mem_range.2 hm)
  exact beq_iff_eq.1 h
/-- A name is 'e' and digits. -/
theorem nameTo_form (m : Nat) : ∀ n, n ≤ 6 → ∃ ds : By, nameTo m n = 101 :: ds ∧ ∀ b ∈ ds, 48 ≤ b.toNat ∧ b.toNat ≤ 57
  | 0, _ => ⟨[], rfl, fun b h => by cases h⟩
  | n + 1, hn => by
    obtain ⟨ds, e, h⟩ := nameTo_form m n (by omega)
    unfold nameTo
    by_cases hb : bit m n = 1
    · rw [if_pos hb, e]
      refine ⟨ds ++ [UInt8.ofNat (48 + n)], rfl, fun b hb => ?_⟩
      rcases List.mem_append.1 hb with h1 | h1
      · exact h b h1
      · rw [List.mem_singleton.1 h1]
        have : (UInt8.ofNat (48 + n)).toNat = 48 + n := by rw [UInt8.toNat_ofNat']; omega
        omega
    · rw [if_neg hb]; exact ⟨ds, e, h⟩
/-- What is known of a term: no '+', a '-' at the head alone, not empty. -/
def okT (t : By) : Prop := t ≠ [] ∧ (∀ b ∈ t, b ≠ 43) ∧ ∀ b ∈ t.tail, b ≠ 45
theorem okN_parts {t : By} (h : okN t = true) : t ≠ [] ∧ t ≠ [45] ∧ (∀ b ∈ t, b ≠ 43 ∧ b ≠ 101) ∧ ∀ b ∈ t.tail, b ≠ 45 := by
  unfold okN at h
  simp only [Bool.and_eq_true, List.all_eq_true, bne_iff_ne, ne_eq] at h
  refine ⟨fun e => by rw [e] at h; simp at h, h.1.1.2, h.1.2, h.2⟩
theorem numP_cases {p a : Int} (h : okN (txtN p a) = true) : (∀ b ∈ numP p a, b ≠ 43 ∧ b ≠ 101) ∧ (∀ b ∈ (numP p a).tail, b ≠ 45) ∧
    (if numP p a = [] ∨ numP p a = [45] then numP p a ++ [49] else numP p a) = txtN p a := by
  obtain ⟨h1, h1', h2, h3⟩ := okN_parts h
  unfold numP
  by_cases e1 : txtN p a = [49]
  · rw [if_pos e1, if_pos (Or.inl rfl)]
    exact ⟨fun b hb => absurd hb (by simp), fun b hb => absurd hb (by simp), e1.symm⟩
  · rw [if_neg e1]
    by_cases e2 : txtN p a = [45, 49]
    · rw [if_pos e2, if_pos (Or.inr rfl)]
      exact ⟨fun b hb => by rw [List.mem_singleton.1 hb]; decide, fun b hb => absurd hb (by simp), e2.symm⟩
    · rw [if_neg e2]
      refine ⟨h2, h3, ?_⟩
      rw [if_neg]
      rintro (e | e)
      · exact h1 e
      · exact h1' e
end Go.Proofs.YticofgmmjecleaaDoor
namespace Go.Proofs.YticofgmmjecleaaDoor
open Go Go.RowKit
theorem Itoa_d (i : Nat) (hi : i < 10) (w : World) : Calls Tryd.prog 54 #[.int .i64 i] w fun e w' => e = .returned (.string ⟨[UInt8.ofNat (48 + i)].toArray⟩) ∧ w = w' :=
  (Any.strconv_Itoa_small lays171 i (by omega) w).mono fun e w' ⟨h1, h2⟩ => ⟨by rw [h1, Lib.decDigits_one hi], h2.symm⟩
theorem FormatInt_any (n : Int) (h0 : -4611686018427387904 ≤ n) (h1 : n ≤ 4611686018427387904) (w : World) (he : Env w) : Calls Tryd.prog 55 #[.int .i64 n, .int .i64 10] w fun e w' => e = .returned (.string ⟨(Lib.itoa n).toArray⟩) ∧ Below w.heap.size w w' :=
  (Any.strconv_FormatInt_10 laysM173 n (by omega) (by omega) w (he.tab (by kernel_rfl))).mono fun e w' ⟨h1, k, os, h2⟩ => ⟨h1, by rw [h2]; exact Lib.below_grow _ w (Nat.le_refl _) k os⟩
theorem Cut_any (s sep : By) (w : World) (hs : s.length < 4294967281) (he : Env w) : Calls Tryd.prog 24 #[.string ⟨s.toArray⟩, .string ⟨sep.toArray⟩] w fun e w' => e = .returned (.tuple #[.string ⟨(Lib.cut s sep).1.toArray⟩, .string ⟨(Lib.cut s sep).2.1.toArray⟩, .bool (Lib.cut s sep).2.2]) ∧ Below w.heap.size w w' := by
  obtain ⟨m, hm⟩ := he.m
  exact (Any.strings_Cut lays145 ⟨s.toArray⟩ ⟨sep.toArray⟩ m w (by rw [bs_len]; omega) hm).mono fun e w' ⟨h1, k, h2⟩ => ⟨h1, by rw [h2]; exact below_drewN (Below.refl _ _) k⟩
theorem Split_any (s sep : By) (w : World) (hs : s.length < 4294967281) (h1 : 1 ≤ sep.length) (he : Env w) : Calls Tryd.prog 22 #[.string ⟨s.toArray⟩, .string ⟨sep.toArray⟩] w fun e w' =>
    e = .returned (.slice (some ⟨w.heap.size, 0, none⟩) (Lib.countB ⟨s.toArray⟩ ⟨sep.toArray⟩ + 1) (Lib.countB ⟨s.toArray⟩ ⟨sep.toArray⟩ + 1)) ∧ w' = w.alloc (.cells ((Lib.splitB ⟨sep.toArray⟩ 0 (Lib.countB ⟨s.toArray⟩ ⟨sep.toArray⟩) ⟨s.toArray⟩).map Value.string).toArray 9) := by
  obtain ⟨m, hm⟩ := he.m
  exact Any.strings_Split { laysM146 with } laysM146.i9 ⟨s.toArray⟩ ⟨sep.toArray⟩ m w (by rw [bs_len]; omega) hm (by rw [bs_len]; exact h1)
theorem ReplaceAll_any (s old new : By) (w : World) (hs : s.length ≤ 2147483648) (h1 : old.length = 1) (h2 : new.length ≤ 2) (he : Env w) : Calls Tryd.prog 23 #[.string ⟨s.toArray⟩, .string ⟨old.toArray⟩, .string ⟨new.toArray⟩] w fun e w' =>
    e = .returned (.string ⟨(Lib.replaceAll s old new).toArray⟩) ∧ Below w.heap.size w w' := by
  obtain ⟨m, hm⟩ := he.m
  have hc := Lib.countB_le ⟨old.toArray⟩ (by rw [bs_len]; omega) (ByteArray.mk s.toArray).size ⟨s.toArray⟩ (Nat.le_refl _)
  refine Any.strings_ReplaceAll { laysM155 with } extraBuild ⟨s.toArray⟩ ⟨old.toArray⟩ ⟨new.toArray⟩ m w (by rw [bs_len]; omega) hm (by rw [bs_len]; omega) ?_
  rw [bs_len] at hc
  rw [bs_len, bs_len]
  have := Nat.mul_le_mul hc h2
  omega
theorem HasPrefix_any (s p : By) (w : World) : Calls Tryd.prog 44 #[.string ⟨s.toArray⟩, .string ⟨p.toArray⟩] w fun e w' => e = .returned (.bool (Lib.hasPrefix s p)) ∧ w = w' :=
  (Any.strings_HasPrefix lays99 ⟨s.toArray⟩ ⟨p.toArray⟩ w).mono fun e w' ⟨h1, h2⟩ => ⟨h1, h2.symm⟩
end Go.Proofs.YticofgmmjecleaaDoor
namespace Go.Proofs.YticofgmmjecleaaDoor
open Go.RowKit
set_option maxHeartbeats 400000 in
set_option maxRecDepth 8000 in
theorem l01Prime_any (p : Int) (w : World) :
    Calls Tryd.prog 29 #[.int .i64 p] w fun e w' => e = .returned (.bool (isP p)) ∧ w = w' := by
  by_cases h3 : p = 3
  · subst h3
    go_enter Tryd.func29, Tryd.ntmps29
    go_wp2
    go_ret
    exact ⟨rfl, rfl⟩
  have b3 : (p == 3) = false := by simpa using h3
  by_cases h5 : p = 5
  · subst h5
    go_enter Tryd.func29, Tryd.ntmps29
    go_wp2
    go_ret
    exact ⟨rfl, rfl⟩
  have b5 : (p == 5) = false := by simpa using h5
  by_cases h7 : p = 7
  · subst h7
    go_enter Tryd.func29, Tryd.ntmps29
    go_wp2
    go_ret
    exact ⟨rfl, rfl⟩
  have b7 : (p == 7) = false := by simpa using h7
  by_cases h11 : p = 11
  · subst h11
    go_enter Tryd.func29, Tryd.ntmps29
    go_wp2
    go_ret
    exact ⟨rfl, rfl⟩
  have b11 : (p == 11) = false := by simpa using h11
  go_enter Tryd.func29, Tryd.ntmps29
  go_wp2
  go_ret
  exact ⟨ret_bool (by simp [isP, b3, b5, b7, b11]), rfl⟩
theorem l01Prime_b {b : Bool} (p : Int) (w : World) (h : isP p = b) :
    Calls Tryd.prog 29 #[.int .i64 p] w fun e w' => e = .returned (.bool b) ∧ w = w' := h ▸ l01Prime_any p w
set_option maxHeartbeats 400000 in
set_option maxRecDepth 8000 in
theorem l01In_any (n lo hi : Int) (w : World) :
    Calls Tryd.prog 30 #[.int .i64 n, .int .i64 lo, .int .i64 hi] w fun e w' => e = .returned (.bool (inR n lo hi)) ∧ w = w' := by
  by_cases h : lo ≤ n
  · go_enter Tryd.func30, Tryd.ntmps30
    go_wp2
    go_ret
    exact ⟨ret_bool (by simp [inR, h]), rfl⟩
  · go_enter Tryd.func30, Tryd.ntmps30
    go_wp2
    go_ret
    exact ⟨ret_bool (by simp [inR]; omega), rfl⟩
theorem l01In_b {b : Bool} (n lo hi : Int) (w : World) (h : inR n lo hi = b) :
    Calls Tryd.prog 30 #[.int .i64 n, .int .i64 lo, .int .i64 hi] w fun e w' => e = .returned (.bool b) ∧ w = w' := h ▸ l01In_any n lo hi w
set_option maxHeartbeats 400000 in
set_option maxRecDepth 8000 in
theorem l01Numbers_any (p : Int) (A : Option Addr) (n c : Nat) (xs : List Int) (w : World) (hp : 0 < p) (hp2 : p ≤ 100) (hn : n ≤ 1099511627776) (ha : Rd w A n (ints xs)) :
    Calls Tryd.prog 31 #[.int .i64 p, .slice A n c] w fun e w' => e = .returned (.bool (nums p xs)) ∧ w = w' := by
  have hxl : xs.length = n := by have := ha.1; rwa [ints_length] at this
  have Hx := Lib.hid hxl; clear hxl
  go_enter Tryd.func31, Tryd.ntmps31
  go_wp2
  go_loop [5] (fun i => ∃ k : Nat, k ≤ n ∧ i = .int .i64 k ∧ nums p (xs.take k) = true) (fun i => n - (intOf i).toNat)
  case atStart => exact ⟨0, by omega, rfl, by simp [nums]⟩
  case round =>
    obtain ⟨k, hk, rfl, ht⟩ := hrel
    have H := Lib.hid ht; clear ht
    by_cases hlt : k < n
    · obtain ⟨g, o, rfl, hx, hcx⟩ := ha.int hlt
      clear ha
      cases hi : inR xs[k] 0 (p - 1)
      all_goals
        have HI := Lib.hid hi; clear hi
        go_wp2_with (go_at_call 30; refine (l01In_b _ _ _ _ HI.out).mono ?_; rintro e w' ⟨rfl, rfl⟩)
      · go_ret
        exact ⟨ret_bool (nums_bad p xs k hx HI.out).symm, rfl⟩
      · go_round
        case rel => exact ⟨k + 1, by omega, by go_num, nums_take p xs k hx H.out HI.out⟩
        case measure => simp [intOf]; omega
    · go_wp2
      go_ret
      have := H.out
      rw [List.take_of_length_le (by rw [Hx.out]; omega)] at this
      exact ⟨ret_bool this.symm, rfl⟩
set_option maxHeartbeats 800000 in
set_option maxRecDepth 8000 in
theorem l03Is_any (P : Int) (A : Option Addr) (n c : Nat) (xs : List Int) (w : World) (hn : n ≤ 1099511627776) (ha : Rd w A n (ints xs)) :
    Calls Tryd.prog 14 #[.agg #[.int .i64 P, .slice A n c]] w fun e w' => e = .returned (.bool (isSp P xs)) ∧ Below w.heap.size w w' := by
  have hxl : xs.length = n := by have := ha.1; rwa [ints_length] at this
  have Hx := Lib.hid hxl; clear hxl
  have hB : Below w.heap.size w (w.alloc (.cells #[.int .i64 P, .slice A n c] 28)) := (Below.refl _ _).alloc (Nat.le_refl _) _
  have ha' := ha.below hB
  cases h1 : isP P
  · have H1 := Lib.hid h1; clear h1
    go_enter Tryd.func14, Tryd.ntmps14
    go_wp2_with (go_at_call 29; refine (l01Prime_b _ _ H1.out).mono ?_; rintro e w' ⟨rfl, rfl⟩)
    go_ret
    exact ⟨ret_bool (by simp [isSp, H1.out]), hB⟩
  · obtain ⟨hp0, hp1⟩ := isP_pos h1
    have H1 := Lib.hid h1; clear h1
    cases h2 : inR n 1 6
    · have H2 := Lib.hid h2; clear h2
      go_enter Tryd.func14, Tryd.ntmps14
      go_wp2_with (first | (go_at_call 29; refine (l01Prime_b _ _ H1.out).mono ?_; rintro e w' ⟨rfl, rfl⟩) | (go_at_call 30; refine (l01In_b _ _ _ _ H2.out).mono ?_; rintro e w' ⟨rfl, rfl⟩))
      go_ret
      exact ⟨ret_bool (by simp [isSp, H1.out, H2.out, Hx.out]), hB⟩
    · have H2 := Lib.hid h2; clear h2
      go_enter Tryd.func14, Tryd.ntmps14
      go_wp2_with (first | (go_at_call 29; refine (l01Prime_b _ _ H1.out).mono ?_; rintro e w' ⟨rfl, rfl⟩) | (go_at_call 30; refine (l01In_b _ _ _ _ H2.out).mono ?_; rintro e w' ⟨rfl, rfl⟩) | (go_at_call 31; refine (l01Numbers_any _ _ _ _ _ _ hp0 (by omega) hn ha').mono ?_; rintro e w' ⟨rfl, rfl⟩))
      go_ret
      exact ⟨ret_bool (by simp [isSp, H1.out, H2.out, Hx.out]), hB⟩
end Go.Proofs.YticofgmmjecleaaDoor
namespace Go.Proofs.YticofgmmjecleaaDoor
open Go.RowKit
set_option maxHeartbeats 400000 in
set_option maxRecDepth 8000 in
theorem l04Size_any (P : Int) (A : Option Addr) (n c : Nat) (w : World) (hn : n ≤ 30) :
    Calls Tryd.prog 16 #[.agg #[.int .i64 P, .slice A n c]] w fun e w' => e = .returned (.int .i64 (pw n)) ∧ Below w.heap.size w w' := by
  go_enter Tryd.func16, Tryd.ntmps16
  go_wp2
  go_ret
  exact ⟨ret_int (wrap_pw n hn), (Below.refl _ _).alloc (Nat.le_refl _) _⟩
theorem inR_16 {n : Nat} (h : inR n 1 6 = true) : 1 ≤ n ∧ n ≤ 6 := by simp [inR] at h; omega
theorem isSp_dim {P : Int} {xs : List Int} (h : isSp P xs = true) : isP P = true ∧ 1 ≤ xs.length ∧ xs.length ≤ 6 ∧ nums P xs = true := by
  simp only [isSp, Bool.and_eq_true] at h
  obtain ⟨⟨h1, h2⟩, h3⟩ := h
  obtain ⟨h4, h5⟩ := inR_16 h2
  exact ⟨h1, h4, h5, h3⟩
end Go.Proofs.YticofgmmjecleaaDoor
namespace Go.Proofs.YticofgmmjecleaaDoor
open Go Go.RowKit
theorem nameTo_len (m : Nat) : ∀ k, (nameTo m k).length ≤ k + 1
  | 0 => by simp [nameTo]
  | k + 1 => by
    have := nameTo_len m k
    unfold nameTo
    split
    · simp; omega
    · omega
theorem nameTo_succ1 {m k : Nat} (h : bit m k = 1) : nameTo m (k + 1) = nameTo m k ++ [UInt8.ofNat (48 + k)] := by rw [nameTo, if_pos h]
theorem nameTo_succ0 {m k : Nat} (h : ¬ bit m k = 1) : nameTo m (k + 1) = nameTo m k := by rw [nameTo, if_neg h]
set_option maxHeartbeats 800000 in
set_option maxRecDepth 8000 in
theorem nameOf_any (P : Int) (A : Option Addr) (n c m : Nat) (w : World) (hn : n ≤ 6) (hm : m < 64) :
    Calls Tryd.prog 42 #[.agg #[.int .i64 P, .slice A n c], .int .i64 m] w fun e w' => e = .returned (.string ⟨(nameL n m).toArray⟩) ∧ Below w.heap.size w w' := by
  have hB0 : Below w.heap.size w (w.alloc (.cells #[.int .i64 P, .slice A n c] 28)) := (Below.refl _ _).alloc (Nat.le_refl _) _
  by_cases h0 : m = 0
  · subst h0
    go_enter Tryd.func42, Tryd.ntmps42
    go_wp2
    go_ret
    exact ⟨rfl, hB0⟩
  · have d0 : ((m : Int) == 0) = false := by simp; omega
    have HN : Hid (nameL n m = nameTo m n) := Lib.hid (by unfold nameL; rw [if_neg h0])
    have hdim := fun w => dim_any P A n c w
    clear h0
    go_enter Tryd.func42, Tryd.ntmps42
    go_wp2_with (go_at_call 38; refine (hdim _).mono ?_; rintro e w1 ⟨rfl, hb1⟩)
    have hB1 : Below w.heap.size w w1 := hB0.trans (hb1.mono (by simp))
    clear hb1 hdim hB0
    go_loopw [5, 11] (fun out i wr => ∃ k : Nat, k ≤ n ∧ i = .int .i64 k ∧ out = .string ⟨(nameTo m k).toArray⟩ ∧ Below w.heap.size w wr) (fun _ i _ => n - (intOf i).toNat)
    case atStart => exact ⟨0, by omega, rfl, rfl, hB1⟩
    case round =>
      obtain ⟨k, hk, rfl, rfl, hM⟩ := hrel
      clear hB1
      by_cases hlt : k < n
      · cases hb : (bits BinOp.and IntKind.i64 ((m : Int) / 2 ^ k) 1 == 1)
        · have hb' := Lib.hid (bit0 (by omega) hm hb)
          go_wp2
          go_roundw
          case rel => exact ⟨k + 1, by omega, by go_num, by rw [nameTo_succ0 hb'.out], hM⟩
          case measure => simp [intOf]; omega
        · have hb' := Lib.hid (bit1 (by omega) hm hb)
          have hit := Itoa_d k (by omega) wr
          have hl := nameTo_len m k
          obtain ⟨z, hz⟩ : ∃ z : By, z = [UInt8.ofNat (48 + k)] := ⟨_, rfl⟩
          have hzl : z.length ≤ 1 := by rw [hz]; exact Nat.le_refl 1
          have hcat := cat_bs (P := Tryd.prog) wr (nameTo m k) z (by omega) (by omega)
          rw [← hz] at hit
          have HZ := Lib.hid hz
          clear hl hz hzl
          go_wp2_with (go_at_call 54; refine hit.mono ?_; rintro e w2 ⟨rfl, rfl⟩)
          go_roundw
          case rel => exact ⟨k + 1, by omega, by go_num, by rw [nameTo_succ1 hb'.out, ← HZ.out], hM⟩
          case measure => simp [intOf]; omega
      · obtain rfl : k = n := by omega
        go_wp2
        go_ret
        exact ⟨by rw [HN.out]; rfl, hM⟩
theorem maskF_step (n : Nat) (t : By) (k i : Nat) : maskF n t (k + 1) i = if nameL n i = t then some i else maskF n t k (i + 1) := rfl
/-- The first name from i on is found, or none is. -/
theorem maskF_from (n : Nat) (t : By) : ∀ d i, (∀ j, j < i → nameL n j ≠ t) → i + d = pw n → maskOf n t = maskF n t d i
  | d, 0, _, hd => by rw [Nat.zero_add] at hd; subst hd; rfl
  | d, i + 1, h, hd => by
    rw [maskF_from n t (d + 1) i (fun j hj => h j (by omega)) (by omega), maskF_step, if_neg (h i (by omega))]
def markI (o : Option Nat) : Int := match o with
  | some m => (m : Int)
  | none => 0
set_option maxHeartbeats 1600000 in
set_option maxRecDepth 8000 in
theorem named_any (P : Int) (A : Option Addr) (n c : Nat) (t : By) (w : World) (hn : n ≤ 6) :
    Calls Tryd.prog 25 #[.agg #[.int .i64 P, .slice A n c], .string ⟨t.toArray⟩] w fun e w' => e = .returned (.tuple #[.int .i64 (markI (maskOf n t)), .bool (maskOf n t).isSome]) ∧ Below w.heap.size w w' := by
  have hB0 : Below w.heap.size w (w.alloc (.cells #[.int .i64 P, .slice A n c] 28)) := (Below.refl _ _).alloc (Nat.le_refl _) _
  have hk0 : Blk (w.alloc (.cells #[.int .i64 P, .slice A n c] 28)) w.heap.size 28 #[.int .i64 P, .slice A n c] := Blk.new _ _ _
  have hdim := fun w => dim_any P A n c w
  have hpw : pw n ≤ 64 := pw_le hn
  obtain ⟨R, hR⟩ : ∃ R, R = maskOf n t := ⟨_, rfl⟩
  have HR := Lib.hid hR
  rw [← hR]
  clear hR
  go_enter Tryd.func25, Tryd.ntmps25
  go_wp2_with (go_at_call 38; refine (hdim _).mono ?_; rintro e w1 ⟨rfl, hb1⟩)
  have hB1 : Below w.heap.size w w1 := hB0.trans (hb1.mono (by simp))
  have hk1 := hk0.below hb1 hk0.lt
  clear hb1 hdim hB0 hk0
  rw [wrap_pw n (by omega)]
  obtain ⟨N, hN⟩ : ∃ N, N = pw n := ⟨_, rfl⟩
  have HN := Lib.hid hN
  rw [← hN] at hpw ⊢
  clear hN
  go_loopw [10] (fun i wr => ∃ k : Nat, k ≤ N ∧ i = .int .i64 k ∧ (∀ j, j < k → nameL n j ≠ t) ∧ Below w1.heap.size w1 wr) (fun i _ => N - (intOf i).toNat)
  case atStart => exact ⟨0, by omega, rfl, fun j hj => absurd hj (by omega), Below.refl _ _⟩
  case round =>
    obtain ⟨k, hk, rfl, hnot, hM⟩ := hrel
    have HT := Lib.hid hnot
    clear hnot
    have hkr := hk1.below hM hk1.lt
    obtain ⟨q0, q1⟩ := hkr.two
    by_cases hlt : k < N
    · have hnm := nameOf_any P A n c k wr hn (by omega)
      have hd : maskF n t (N - k) k = if nameL n k = t then some k else maskF n t (N - (k + 1)) (k + 1) := by
        rw [show N - k = (N - (k + 1)) + 1 by omega]; rfl
      by_cases he : nameL n k = t
      · have hm : maskOf n t = some k := by rw [maskF_from n t (N - k) k HT.out (by rw [← HN.out]; omega), hd, if_pos he]
        rw [he] at hnm
        have HM := Lib.hid hm
        clear hd he hm
        go_wp2_with (go_at_call 42; refine hnm.mono ?_; rintro e w2 ⟨rfl, hb2⟩)
        go_ret2
        exact ⟨by rw [HR.out, HM.out]; rfl, hB1.trans ((hM.trans (hb2.mono hM.size)).mono hB1.size)⟩
      · obtain ⟨z, hz⟩ : ∃ z, z = nameL n k := ⟨_, rfl⟩
        rw [← hz] at hnm
        have hne : (z == t) = false := by rw [hz]; simpa using he
        have HT2 := Lib.hid (p := ∀ j, j < k + 1 → nameL n j ≠ t) (fun j hj => by
          by_cases e : j = k
          · subst e; exact he
          · exact HT.out j (by omega))
        clear hd he hz
        go_wp2_with (go_at_call 42; refine hnm.mono ?_; rintro e w2 ⟨rfl, hb2⟩)
        go_roundw
        case rel => exact ⟨k + 1, by omega, by go_num, HT2.out, hM.trans (hb2.mono hM.size)⟩
        case measure => simp [intOf]; omega
    · obtain rfl : k = N := by omega
      have hm : maskOf n t = none := by rw [maskF_from n t 0 k HT.out (by rw [← HN.out]; omega)]; rfl
      have HM := Lib.hid hm
      clear hm
      go_wp2
      go_ret2
      exact ⟨by rw [HR.out, HM.out]; rfl, hB1.trans (hM.mono hB1.size)⟩
end Go.Proofs.YticofgmmjecleaaDoor
namespace Go.Proofs.YticofgmmjecleaaDoor
open Go Go.RowKit
theorem dec_one {n : Nat} (h : n < 10) : Lib.decDigits n = [UInt8.ofNat (48 + n)] := by rw [Lib.decDigits, dif_pos h]
theorem dec_more {n : Nat} (h : ¬ n < 10) : Lib.decDigits n = Lib.decDigits (n / 10) ++ [UInt8.ofNat (48 + n % 10)] := by rw [Lib.decDigits, dif_neg h]
/-- A byte in a new block, read as a text. -/
theorem one_byte_text (w : World) (d : Nat) (hd : d < 10) :
    (convert 70 9 (.slice (some ⟨w.heap.size, 0, none⟩) 1 1)).run Tryd.prog (w.alloc (.cells #[.int .u8 (48 + (d : Int))] 5)) = .ok (.string ⟨[UInt8.ofNat (48 + d)].toArray⟩) (w.alloc (.cells #[.int .u8 (48 + (d : Int))] 5)) := by
  refine run_convert_bytes_back _ _ _ 5 _ 1 [UInt8.ofNat (48 + d)] Tryd.underlying70 Tryd.underlying5 Tryd.underlying9 fun j hj => ?_
  obtain rfl : j = 0 := by simpa using hj
  rw [Addr.add_lit]
  have hk := (Blk.new w 5 #[.int .u8 (48 + (d : Int))]).cell 0
  rw [Nat.zero_add]
  refine hk.trans ?_
  have : (UInt8.ofNat (48 + d)).toNat = 48 + d := by rw [UInt8.toNat_ofNat']; omega
  show some (Value.int .u8 (48 + (d : Int))) = some (.int .u8 ((UInt8.ofNat (48 + d)).toNat : Int))
  rw [this]; simp
set_option maxHeartbeats 800000 in
set_option maxRecDepth 8000 in
theorem l01Dec_small (n : Nat) (w : World) (hn : n < 10) :
    Calls Tryd.prog 45 #[.int .i64 n] w fun e w' => e = .returned (.string ⟨(Lib.decDigits n).toArray⟩) ∧ Below w.heap.size w w' := by
  have d1 : decide ((n : Int) < 10) = true := by simp; omega
  have W1 : wrap64 (48 + (n : Int)) = 48 + (n : Int) := by unfold wrap64; omega
  have W2 : IntKind.u8.wrap (48 + (n : Int)) = 48 + (n : Int) := by
    have e : IntKind.u8.wrap (48 + (n : Int)) = (48 + (n : Int)) % 256 := rfl
    rw [e]; omega
  have hcv := one_byte_text w n hn
  have hB : Below w.heap.size w (w.alloc (.cells #[.int .u8 (48 + (n : Int))] 5)) := (Below.refl _ _).alloc (Nat.le_refl _) _
  rw [dec_one hn]
  obtain ⟨z, hz⟩ : ∃ z : By, z = [UInt8.ofNat (48 + n)] := ⟨_, rfl⟩
  rw [← hz] at hcv ⊢
  clear hz
  go_enter Tryd.func45, Tryd.ntmps45
  go_wp2
  go_ret
  exact ⟨rfl, hB⟩
/-- Places beyond the dimension do not stand in a name. -/
theorem nameTo_more {n m : Nat} (hm : m < pw n) : ∀ d, nameTo m (n + d) = nameTo m n
  | 0 => rfl
  | d + 1 => by
    rw [← Nat.add_assoc, nameTo, if_neg, nameTo_more hm d]
    intro h
    have h1 : m / 2 ^ (n + d) = 0 := Nat.div_eq_of_lt (Nat.lt_of_lt_of_le hm (Nat.pow_le_pow_right (by omega) (by omega)))
    unfold bit at h
    rw [h1] at h
    simp at h
theorem nameL_six {n m : Nat} (hn : n ≤ 6) (hm : m < pw n) : nameL 6 m = nameL n m := by
  unfold nameL
  have := nameTo_more hm (6 - n)
  rw [show n + (6 - n) = 6 by omega] at this
  rw [this]
set_option maxHeartbeats 1600000 in
set_option maxRecDepth 8000 in
theorem l19Name_any (m : Nat) (w : World) (hm : m < 64) :
    Calls Tryd.prog 33 #[.int .i64 m] w fun e w' => e = .returned (.string ⟨(nameL 6 m).toArray⟩) ∧ Below w.heap.size w w' := by
  by_cases h0 : m = 0
  · subst h0
    go_enter Tryd.func33, Tryd.ntmps33
    go_wp2
    go_ret
    exact ⟨rfl, Below.refl _ _⟩
  · have d0 : ((m : Int) == 0) = false := by simp; omega
    have HN : Hid (nameL 6 m = nameTo m 6) := Lib.hid (by unfold nameL; rw [if_neg h0])
    clear h0
    go_enter Tryd.func33, Tryd.ntmps33
    go_wp2
    go_loopw [3, 4] (fun out i wr => ∃ k : Nat, k ≤ 6 ∧ i = .int .i64 k ∧ out = .string ⟨(nameTo m k).toArray⟩ ∧ Below w.heap.size w wr) (fun _ i _ => 6 - (intOf i).toNat)
    case atStart => exact ⟨0, by omega, rfl, rfl, Below.refl _ _⟩
    case round =>
      obtain ⟨k, hk, rfl, rfl, hM⟩ := hrel
      by_cases hlt : k < 6
      · cases hb : (bits BinOp.and IntKind.i64 ((m : Int) / 2 ^ k) 1 == 1)
        · have hb' := Lib.hid (bit0 (by omega) hm hb)
          go_wp2
          go_roundw
          case rel => exact ⟨k + 1, by omega, by go_num, by rw [nameTo_succ0 hb'.out], hM⟩
          case measure => simp [intOf]; omega
        · have hb' := Lib.hid (bit1 (by omega) hm hb)
          have hit := l01Dec_small k wr (by omega)
          rw [dec_one (by omega)] at hit
          have hl := nameTo_len m k
          obtain ⟨z, hz⟩ : ∃ z : By, z = [UInt8.ofNat (48 + k)] := ⟨_, rfl⟩
          have hzl : z.length ≤ 1 := by rw [hz]; exact Nat.le_refl 1
          have hcat := fun wx => cat_bs (P := Tryd.prog) wx (nameTo m k) z (by omega) (by omega)
          rw [← hz] at hit
          have HZ := Lib.hid hz
          clear hl hz hzl
          go_wp2_with (go_at_call 45; refine hit.mono ?_; rintro e w2 ⟨rfl, hb2⟩)
          go_roundw
          case rel => exact ⟨k + 1, by omega, by go_num, by rw [nameTo_succ1 hb'.out, ← HZ.out], hM.trans (hb2.mono hM.size)⟩
          case measure => simp [intOf]; omega
      · obtain rfl : k = 6 := by omega
        go_wp2
        go_ret
        exact ⟨by rw [HN.out]; rfl, hM⟩
end Go.Proofs.YticofgmmjecleaaDoor
namespace Go.Proofs.YticofgmmjecleaaDoor
open Go.RowKit
section
variable {P : Program} {ops : Array Oper} {Q : Exit → Act → World → Prop}
/-- What operation j may do to the world: add to it, or, where C has something at j, what Rel allows. -/
def StepR (C : List (List Nat)) (Rel : World → World → Prop) (j : Nat) (w w' : World) : Prop := if (C.getD j []).isEmpty then Below w.heap.size w w' else Rel w w'
theorem StepR.rel {C : List (List Nat)} {Rel : World → World → Prop} {j : Nat} {w w' : World} (h : (C.getD j []).isEmpty = false) (hb : Rel w w') : StepR C Rel j w w' := by unfold StepR; rw [h]; exact hb
end
end Go.Proofs.YticofgmmjecleaaDoor

/-
  LawFnExpressions: part 3 of the texts that the proof needs. No condition.
-/
import Derived.Test.YticofgmmjecleaaGreatDoorP2
namespace Go.Proofs.YticofgmmjecleaaGreatDoor
abbrev By := List UInt8
/-- The digits; what a text begins with of them, and what comes behind. -/
def decs : By := [48, 49, 50, 51, 52, 53, 54, 55, 56, 57]
def digL (t : By) : By := t.takeWhile (decs.contains ·)
def resL (t : By) : By := t.dropWhile (decs.contains ·)
theorem dig_res (t : By) : digL t ++ resL t = t := List.takeWhile_append_dropWhile
theorem resL_len (t : By) : (resL t).length ≤ t.length := by
  have := congrArg List.length (dig_res t)
  rw [List.length_append] at this; omega
/-- The name of a blade. -/
def nameTo (m : Nat) : Nat → By
  | 0 => [101]
  | i + 1 => if bit m i = 1 then nameTo m i ++ [UInt8.ofNat (48 + i)] else nameTo m i
def nameL (n m : Nat) : By := if m = 0 then [49] else nameTo m n
/-- The first blade from i on, among k, with a name. -/
def maskF (n : Nat) (t : By) : Nat → Nat → Option Nat
  | 0, _ => none
  | k + 1, i => if nameL n i = t then some i else maskF n t k (i + 1)
def maskOf (n : Nat) (t : By) : Option Nat := maskF n t (pw n) 0
theorem maskF_lt {n : Nat} {t : By} : ∀ {k i m : Nat}, maskF n t k i = some m → i ≤ m ∧ m < i + k ∧ nameL n m = t
  | 0, i, m, h => by cases h
  | k + 1, i, m, h => by
    unfold maskF at h
    by_cases h1 : nameL n i = t
    · rw [if_pos h1] at h; injection h with h; subst h; exact ⟨Nat.le_refl _, by omega, h1⟩
    · rw [if_neg h1] at h
      have := maskF_lt h
      exact ⟨by omega, by omega, this.2.2⟩
theorem maskOf_lt {n : Nat} {t : By} {m : Nat} (h : maskOf n t = some m) : m < pw n := by have := maskF_lt h; omega
/-- The number that digits spell. -/
def spell (t : By) : Nat := t.foldl (fun a c => a * 10 + (c.toNat - 48)) 0
/-- The number of an expression: at most nine digits, no 0 ahead of others. -/
def numF (t : By) : Option Nat := if t = [] ∨ 9 < t.length ∨ (1 < t.length ∧ t.head? = some 48) then none else some (spell t)
/-- Kinds of what is read: a sum, what follows its first part, a product, what follows its first part, a factor, an atom. -/
inductive Md where
  | sum | sumL (o : List Int) | prod | prodL (o : List Int) | fac | atom
/-- The first byte, where it is one of some. -/
def nxt (cs t : By) : Option (UInt8 × By) := match t with
  | [] => none
  | c :: r => if cs.contains c then some (c, r) else none
theorem nxt_some {cs t : By} {c : UInt8} {r : By} (h : nxt cs t = some (c, r)) : t = c :: r ∧ cs.contains c = true := by
  unfold nxt at h
  cases t with
  | nil => cases h
  | cons d l =>
    dsimp only at h
    by_cases hc : cs.contains d = true
    · rw [if_pos hc] at h; injection h with h; injection h with h1 h2; subst h1; subst h2; exact ⟨rfl, hc⟩
    · rw [if_neg hc] at h; cases h
/-- What is made of two parts by a sign. -/
def opL (P : Int) (sq : List Int) (c : UInt8) (a b : List Int) : List Int :=
  if c = 42 then mulL P sq a b else if c = 94 then wedgeL P sq a b else if c = 46 then contrL P sq a b else plusL P a b (if c = 45 then -1 else 1)
/-- The reader: what is read, what is left of the text; nothing where the text is wrong. -/
def ev (P : Int) (sq : List Int) (n : Nat) : Nat → Md → By → Option (List Int × By)
  | 0, _, _ => none
  | f + 1, .sum, t => (ev P sq n f .prod t).bind fun r => ev P sq n f (.sumL r.1) r.2
  | f + 1, .sumL o, t => match nxt [43, 45] t with
    | none => some (o, t)
    | some (c, t') => (ev P sq n f .prod t').bind fun r => ev P sq n f (.sumL (opL P sq c o r.1)) r.2
  | f + 1, .prod, t => (ev P sq n f .fac t).bind fun r => ev P sq n f (.prodL r.1) r.2
  | f + 1, .prodL o, t => match nxt [42, 94, 46] t with
    | none => some (o, t)
    | some (c, t') => (ev P sq n f .fac t').bind fun r => ev P sq n f (.prodL (opL P sq c o r.1)) r.2
  | f + 1, .fac, t => match nxt [45, 126] t with
    | none => ev P sq n f .atom t
    | some (c, t') => (ev P sq n f .fac t').map fun r => (if c = 45 then scaleL P r.1 (-1) else revL P r.1, r.2)
  | f + 1, .atom, t => match nxt [40, 101] t with
    | none => (numF (digL t)).map fun (k : Nat) => (scaleL P (bladeL n 0) ((k : Int) % P), resL t)
    | some (c, t') => if c = 40 then (ev P sq n f .sum t').bind fun r => (nxt [41] r.2).map fun q => (r.1, q.2)
      else (maskOf n (101 :: digL t')).map fun (m : Nat) => (bladeL n m, resL t')
/-- How much there is to do. -/
def rk : Md → Nat
  | .sum => 6
  | .sumL _ => 5
  | .prod => 4
  | .prodL _ => 3
  | .fac => 2
  | .atom => 1
def need (m : Md) (t : By) : Nat := 8 * t.length + rk m
/-- A number is read of at least one byte. -/
theorem numF_pos {t : By} {k : Nat} (h : numF (digL t) = some k) : (resL t).length < t.length := by
  have h1 := congrArg List.length (dig_res t)
  rw [List.length_append] at h1
  have h2 : digL t ≠ [] := fun e => by
    unfold numF at h
    rw [if_pos (Or.inl e)] at h; cases h
  have := List.length_pos_iff.2 h2
  omega
/-- The reader never puts anything back; all but what follows a first part take at least one byte. -/
theorem ev_len {P : Int} {sq : List Int} {n : Nat} : ∀ (f : Nat) (m : Md) (t : By) (r : List Int × By), ev P sq n f m t = some r → r.2.length ≤ t.length ∧ ((∀ o, m ≠ .sumL o) → (∀ o, m ≠ .prodL o) → r.2.length < t.length)
  | 0, m, t, r, h => by cases h
  | f + 1, .sum, t, r, h => by
    unfold ev at h
    obtain ⟨a, ha, hb⟩ := Option.bind_eq_some_iff.1 h
    have h1 := (ev_len f _ _ _ ha).2 (fun o => by simp) (fun o => by simp)
    have h2 := (ev_len f _ _ _ hb).1
    exact ⟨by omega, fun _ _ => by omega⟩
  | f + 1, .sumL o, t, r, h => by
    unfold ev at h
    refine ⟨?_, fun h9 => absurd rfl (h9 o)⟩
    split at h
    · injection h with h; subst h; exact Nat.le_refl _
    · rename_i c t' hn
      obtain ⟨rfl, _⟩ := nxt_some hn
      obtain ⟨a, ha, hb⟩ := Option.bind_eq_some_iff.1 h
      have h1 := (ev_len f _ _ _ ha).1
      have h2 := (ev_len f _ _ _ hb).1
      simp only [List.length_cons]; omega
  | f + 1, .prod, t, r, h => by
    unfold ev at h
    obtain ⟨a, ha, hb⟩ := Option.bind_eq_some_iff.1 h
    have h1 := (ev_len f _ _ _ ha).2 (fun o => by simp) (fun o => by simp)
    have h2 := (ev_len f _ _ _ hb).1
    exact ⟨by omega, fun _ _ => by omega⟩
  | f + 1, .prodL o, t, r, h => by
    unfold ev at h
    refine ⟨?_, fun _ h9 => absurd rfl (h9 o)⟩
    split at h
    · injection h with h; subst h; exact Nat.le_refl _
    · rename_i c t' hn
      obtain ⟨rfl, _⟩ := nxt_some hn
      obtain ⟨a, ha, hb⟩ := Option.bind_eq_some_iff.1 h
      have h1 := (ev_len f _ _ _ ha).1
      have h2 := (ev_len f _ _ _ hb).1
      simp only [List.length_cons]; omega
  | f + 1, .fac, t, r, h => by
    unfold ev at h
    split at h
    · have h1 := (ev_len f _ _ _ h).2 (fun o => by simp) (fun o => by simp)
      exact ⟨by omega, fun _ _ => h1⟩
    · rename_i c t' hn
      obtain ⟨rfl, _⟩ := nxt_some hn
      obtain ⟨a, ha, rfl⟩ := Option.map_eq_some_iff.1 h
      have h1 := (ev_len f _ _ _ ha).1
      simp only [List.length_cons]
      exact ⟨by omega, fun _ _ => by omega⟩
  | f + 1, .atom, t, r, h => by
    unfold ev at h
    split at h
    · obtain ⟨a, ha, rfl⟩ := Option.map_eq_some_iff.1 h
      have := numF_pos ha
      exact ⟨by dsimp only; omega, fun _ _ => this⟩
    · rename_i c t' hn
      obtain ⟨rfl, _⟩ := nxt_some hn
      simp only [List.length_cons]
      by_cases hc : c = 40
      · rw [if_pos hc] at h
        obtain ⟨a, ha, hb⟩ := Option.bind_eq_some_iff.1 h
        obtain ⟨q, hq, rfl⟩ := Option.map_eq_some_iff.1 hb
        have h1 := (ev_len f _ _ _ ha).1
        obtain ⟨e, _⟩ := nxt_some hq
        rw [e, List.length_cons] at h1
        exact ⟨by dsimp only; omega, fun _ _ => by dsimp only; omega⟩
      · rw [if_neg hc] at h
        obtain ⟨a, _, rfl⟩ := Option.map_eq_some_iff.1 h
        have := resL_len t'
        exact ⟨by dsimp only; omega, fun _ _ => by dsimp only; omega⟩
/-- More time changes nothing. -/
theorem ev_more {P : Int} {sq : List Int} {n : Nat} : ∀ (f : Nat) (m : Md) (t : By), need m t ≤ f → ev P sq n (f + 1) m t = ev P sq n f m t
  | 0, m, t, h => by cases m <;> simp [need, rk] at h
  | f + 1, .sum, t, h => by
    simp only [need, rk] at h
    rw [ev, ev, ev_more f .prod t (by simp only [need, rk]; omega)]
    cases ha : ev P sq n f .prod t with
    | none => rfl
    | some r =>
      have h1 := (ev_len f _ _ _ ha).1
      exact ev_more f _ _ (by simp only [need, rk]; omega)
  | f + 1, .sumL o, t, h => by
    simp only [need, rk] at h
    rw [ev, ev]
    cases hn : nxt [43, 45] t with
    | none => rfl
    | some q =>
      obtain ⟨c, t'⟩ := q
      obtain ⟨rfl, _⟩ := nxt_some hn
      rw [List.length_cons] at h
      dsimp only
      rw [ev_more f .prod t' (by simp only [need, rk]; omega)]
      cases ha : ev P sq n f .prod t' with
      | none => rfl
      | some r =>
        have h1 := (ev_len f _ _ _ ha).1
        exact ev_more f _ _ (by simp only [need, rk]; omega)
  | f + 1, .prod, t, h => by
    simp only [need, rk] at h
    rw [ev, ev, ev_more f .fac t (by simp only [need, rk]; omega)]
    cases ha : ev P sq n f .fac t with
    | none => rfl
    | some r =>
      have h1 := (ev_len f _ _ _ ha).1
      exact ev_more f _ _ (by simp only [need, rk]; omega)
  | f + 1, .prodL o, t, h => by
    simp only [need, rk] at h
    rw [ev, ev]
    cases hn : nxt [42, 94, 46] t with
    | none => rfl
    | some q =>
      obtain ⟨c, t'⟩ := q
      obtain ⟨rfl, _⟩ := nxt_some hn
      rw [List.length_cons] at h
      dsimp only
      rw [ev_more f .fac t' (by simp only [need, rk]; omega)]
      cases ha : ev P sq n f .fac t' with
      | none => rfl
      | some r =>
        have h1 := (ev_len f _ _ _ ha).1
        exact ev_more f _ _ (by simp only [need, rk]; omega)
  | f + 1, .fac, t, h => by
    simp only [need, rk] at h
    rw [ev, ev]
    cases hn : nxt [45, 126] t with
    | none => exact ev_more f .atom t (by simp only [need, rk]; omega)
    | some q =>
      obtain ⟨c, t'⟩ := q
      obtain ⟨rfl, _⟩ := nxt_some hn
      rw [List.length_cons] at h
      dsimp only
      rw [ev_more f .fac t' (by simp only [need, rk]; omega)]
  | f + 1, .atom, t, h => by
    simp only [need, rk] at h
    rw [ev, ev]
    cases hn : nxt [40, 101] t with
    | none => rfl
    | some q =>
      obtain ⟨c, t'⟩ := q
      obtain ⟨rfl, _⟩ := nxt_some hn
      rw [List.length_cons] at h
      dsimp only
      rw [ev_more f .sum t' (by simp only [need, rk]; omega)]
/-- The value of a whole text. -/
def evE (P : Int) (sq : List Int) (n : Nat) (m : Md) (t : By) : Option (List Int × By) := ev P sq n (need m t) m t
theorem ev_enough {P : Int} {sq : List Int} {n : Nat} {f : Nat} {m : Md} {t : By} (h : need m t ≤ f) : ev P sq n f m t = evE P sq n m t := by
  obtain ⟨d, rfl⟩ : ∃ d, f = need m t + d := ⟨f - need m t, by omega⟩
  clear h
  induction d with
  | zero => rfl
  | succ d ih => rw [← ih]; exact ev_more _ _ _ (Nat.le_add_right _ _)
/-- What is read is a multivector. -/
def MuL (P : Int) (n : Nat) (x : List Int) : Prop := x.length = pw n ∧ NumsL P x
def MdOk (P : Int) (n : Nat) : Md → Prop
  | .sumL o => MuL P n o
  | .prodL o => MuL P n o
  | _ => True
def valR (P : Int) (sq : List Int) (n : Nat) (t : By) : Option (List Int) := match evE P sq n .sum t with
  | some (v, []) => some v
  | _ => none
def evalR (P : Int) (sq : List Int) (t : By) : List Int × Int := if isSp P sq = true then (if 200 < t.length then ([], 3) else match valR P sq sq.length t with
  | some v => (v, 0)
  | none => ([], 6)) else ([], 1)
end Go.Proofs.YticofgmmjecleaaGreatDoor
namespace Go.Proofs.YticofgmmjecleaaGreatDoor
open Go Go.RowKit
/-- Variable g is just the cells cs. -/
def Glob (w : World) (g : Nat) (cs : Array Value) : Prop := ∃ t fr, w.heap[g]? = some (.cells cs t fr)
theorem Glob.lt {w : World} {g : Nat} {cs : Array Value} (h : Glob w g cs) : g < w.heap.size := by obtain ⟨t, fr, h⟩ := h; exact (Array.getElem?_eq_some_iff.1 h).1
theorem Glob.below {w w' : World} {g : Nat} {cs : Array Value} {B : Nat} (h : Glob w g cs) (hb : Below B w w') (hB : g < B) : Glob w' g cs := by obtain ⟨t, fr, h⟩ := h; exact ⟨t, fr, (hb.block g hB).trans h⟩
theorem Glob.var {P : Program} {w : World} {g : Nat} {cs : Array Value} {nm : String} (h : Glob w g cs) (hg : P.globalNamed nm = some g) : w.var? P nm = some cs := by
  obtain ⟨t, fr, h⟩ := h
  unfold World.var?
  rw [hg]
  simp only [Option.bind_some, h]
theorem glob_of_var {P : Program} {w : World} {g : Nat} {cs : Array Value} {nm : String} (h : w.var? P nm = some cs) (hg : P.globalNamed nm = some g) : Glob w g cs := by
  unfold World.var? at h
  rw [hg] at h
  simp only [Option.bind_some] at h
  split at h
  · rename_i cs' t fr e
    injection h with h
    subst h
    exact ⟨t, fr, e⟩
  · cases h
def pow10Vals : Array Value := (Lib.pow10Tab.map fun z => Value.int .u64 z).toArray
/-- What writing numbers and looking into texts reads of the library's variables. -/
structure Env (w : World) : Prop where
  m : ∃ m, w.cell? ⟨0, 0, none⟩ = some (.int .i64 m)
  p : Glob w 3 pow10Vals
theorem Env.below {w w' : World} {B : Nat} (h : Env w) (hb : Below B w w') (hB : w.heap.size ≤ B) : Env w' :=
  ⟨h.m.imp fun m hm => (hb.cell (Nat.lt_of_lt_of_le (World.block_lt_of_cell? _ _ hm) hB)).trans hm, h.p.below hb (Nat.lt_of_lt_of_le h.p.lt hB)⟩
theorem Env.tab {w : World} (h : Env w) {nm : String} (hg : Tryz.prog.globalNamed nm = some 3) : Lib.TabIs Tryz.prog w nm .u64 Lib.pow10Tab := h.p.var hg
/-- .. and what reading numbers reads besides. -/
structure EnvX (w : World) : Prop where
  e : Env w
  s : ∃ tp p, Glob w 6 #[.iface tp p]
  r : ∃ tp p, Glob w 7 #[.iface tp p]
theorem EnvX.below {w w' : World} {B : Nat} (h : EnvX w) (hb : Below B w w') (hB : w.heap.size ≤ B) : EnvX w' :=
  ⟨h.e.below hb hB, h.s.imp fun _ ⟨p, hp⟩ => ⟨p, hp.below hb (Nat.lt_of_lt_of_le hp.lt hB)⟩, h.r.imp fun _ ⟨p, hp⟩ => ⟨p, hp.below hb (Nat.lt_of_lt_of_le hp.lt hB)⟩⟩
/-- .. and holds whatever is done from block B on. -/
def EnvB (B : Nat) (w : World) : Prop := ∀ w', Below B w w' → EnvX w'
theorem EnvX.b {w : World} (h : EnvX w) : EnvB w.heap.size w := fun _ hb => h.below hb (Nat.le_refl _)
theorem EnvB.here {B : Nat} {w : World} (h : EnvB B w) : EnvX w := h w (Below.refl _ _)
theorem EnvB.on {B : Nat} {w w' : World} (h : EnvB B w) (hb : Below B w w') : EnvB B w' := fun _ h2 => h _ (hb.trans h2)
theorem EnvB.mono {B B' : Nat} {w : World} (h : EnvB B w) (hB : B ≤ B') : EnvB B' w := fun _ hb => h _ (hb.mono hB)
/-- All but block g is as it was. -/
structure Ex (g : Nat) (w w' : World) : Prop where
  b : Below g w w'
  k : ∀ k, k < w.heap.size → k ≠ g → w'.heap[k]? = w.heap[k]?
section
variable {g : Nat} {w w' w1 w2 : World}
theorem Ex.refl (g : Nat) (w : World) : Ex g w w := ⟨Below.refl _ _, fun _ _ _ => rfl⟩
theorem Ex.size (h : Ex g w w') : w.heap.size ≤ w'.heap.size := h.b.size
theorem Ex.of_below (hb : Below w.heap.size w w') (hg : g ≤ w.heap.size) : Ex g w w' := ⟨hb.mono hg, fun k hk _ => hb.block k hk⟩
theorem Ex.trans (h : Ex g w w1) (h' : Ex g w1 w2) : Ex g w w2 := ⟨h.b.trans h'.b, fun k hk hne => (h'.k k (Nat.lt_of_lt_of_le hk h.b.size) hne).trans (h.k k hk hne)⟩
theorem Ex.then (h : Ex g w w1) (hb : Below w1.heap.size w1 w2) (hg : g ≤ w.heap.size) : Ex g w w2 := h.trans (Ex.of_below hb (Nat.le_trans hg h.size))
theorem Ex.down {w0 : World} (h : Ex g w w') (hb : Below w0.heap.size w0 w) (hg : w0.heap.size ≤ g) : Below w0.heap.size w0 w' := hb.trans (h.b.mono hg)
theorem Ex.set (hg : g < w.heap.size) (i : Nat) (u : Value) : Ex g w (w.setCell ⟨g, i, none⟩ u) :=
  ⟨(Below.refl _ _).setCell (p := ⟨g, i, none⟩) (Nat.le_refl _) _, fun k _ hne => Below.heap_setCell w ⟨g, i, none⟩ u k hne⟩
theorem Blk.ex {g' : Nat} {t : TypeId} {cs : Array Value} (h : Blk w g' t cs) (d : Ex g w w') (hne : g' ≠ g) : Blk w' g' t cs := (d.k g' h.lt hne).trans h
theorem Own.ex {B : Nat} {E T : TypeId} {A : Option Addr} {n c : Nat} {us : List Value} {cs : Array Value} (h : Own w B E A n c us) (d : Ex g w w') (k : Blk w g T cs) (hne : E ≠ T) : Own w' B E A n c us := by
  have hn := h.ne_blk k hne
  refine ⟨h.1, ?_⟩
  rcases h.2 with hz | ⟨g', cap, cur, he, hB, hg, r⟩
  · exact .inl hz
  · refine .inr ⟨g', cap, cur, he, hB, (d.k g' (Array.getElem?_eq_some_iff.1 hg).1 fun e => hn ?_).trans hg, r⟩
    rw [he, ← e]; rfl
theorem Rd.ex {A : Option Addr} {n : Nat} {us : List Value} (h : Rd w A n us) (d : Ex g w w') (hA : ∀ a, A = some a → a.block < g) : Rd w' A n us :=
  ⟨h.1, fun hn => by
    obtain ⟨b, o, e, hc⟩ := h.2 hn
    exact ⟨b, o, e, fun k u hu => (d.b.cell (show b < g from hA _ e)).trans (hc k u hu)⟩⟩
theorem Rd.blk_lt {A : Option Addr} {n : Nat} {us : List Value} (h : Rd w A n us) (hn : 0 < n) : ∀ a, A = some a → a.block < w.heap.size := fun a ha => by
  obtain ⟨b, o, e, hc⟩ := h.2 hn
  rw [e] at ha
  injection ha with ha
  subst ha
  have hl : 0 < us.length := by rw [h.1]; exact hn
  exact World.block_lt_of_cell? _ _ (hc 0 us[0] (List.getElem?_eq_getElem hl))
end
theorem bs_len (l : By) : (ByteArray.mk l.toArray).size = l.length := by show l.toArray.size = _; simp
theorem cat_bs {P : Program} (w : World) (x y : By) (hx : x.length ≤ 4294967296) (hy : y.length ≤ 4294967296) : (Op.stringOp .add ⟨x.toArray⟩ ⟨y.toArray⟩).run P w = .ok (.string ⟨(x ++ y).toArray⟩) w := by
  rw [run_string_add_sum w _ _ (by rw [bs_len, bs_len]; omega), ByteArray.mk_append_mk]
end Go.Proofs.YticofgmmjecleaaGreatDoor
namespace Go.Proofs.YticofgmmjecleaaGreatDoor
open Go Go.RowKit
theorem max_of {W : World} (hsh : W.ShapedOpen Tryz.prog) : ∃ m, W.cell? ⟨0, 0, none⟩ = some (.int .i64 m) :=
  cell_of_shapedOpen_int (P := Tryz.prog) (t := 3) (zero := #[.int .i64 0]) hsh (of_decide_eq_true (by kernel_rfl)) (by kernel_rfl) rfl (by kernel_rfl) (by kernel_rfl) Tryz.underlying3
theorem pow_eq : (Rows.laid_internal_strconv_uint64pow10 : DataW Unit) = Lib.tabData .u64 Lib.pow10Tab := by kernel_rfl
theorem pow_of {nm : String} {rest : List (String × DataW Unit)} {W : World} (h : laidMet Tryz.prog ((nm, Rows.laid_internal_strconv_uint64pow10) :: rest) W) (hg : Tryz.prog.globalNamed nm = some 3) : Glob W 3 pow10Vals := by
  rw [pow_eq] at h
  exact glob_of_var (Lib.tabIs_of_head (t := 186) (e := 58) (n := 20) hg (by kernel_rfl) (by kernel_rfl) (by kernel_rfl) (by kernel_rfl) (by kernel_rfl) h) hg
theorem err_row (u : TypeId) (h : Tryz.prog.typeName? 3 u = some "*errors.errorString") : u = 214 := by
  have star : "*" ++ "errors.errorString" = "*errors.errorString" := by decide
  exact typeName_ptr_named (nm := "errors.errorString") (by rw [star]; kernel_rfl) (by kernel_rfl) (by decide) u (by rw [star]; exact h)
theorem err_of {nm : String} {text : List UInt8} {rest : List (String × DataW Unit)} {W : World} {g : Nat} (h : laidMet Tryz.prog ((nm, .iface "*errors.errorString" (.ptr (.agg [.lit (.string text)]))) :: rest) W) (hg : Tryz.prog.globalNamed nm = some g) (ht : (Tryz.prog.globals[g]?).map (·.type) = some 142) : ∃ tp p, Glob W g #[.iface tp p] := by
  obtain ⟨a, s, hv, _⟩ := laid_sentinel h hg ht Tryz.underlying142 err_row (te := 216) (ts := 9) (by kernel_rfl) Tryz.underlying216 rfl rfl (by kernel_rfl) (by kernel_rfl) (by kernel_rfl)
  exact ⟨_, _, glob_of_var hv hg⟩
theorem envX_of {n0 n1 n2 n3 n4 n5 : String} {d0 d1 d3 : DataW Unit} {r : List (String × DataW Unit)} {W : World} (hsh : W.ShapedOpen Tryz.prog)
    (hL : laidMet Tryz.prog ((n0, d0) :: (n1, d1) :: (n2, Rows.laid_internal_strconv_uint64pow10) :: (n3, d3) :: (n4, Rows.laid_strconv_ErrRange) :: (n5, Rows.laid_strconv_ErrSyntax) :: r) W)
    (h2 : Tryz.prog.globalNamed n2 = some 3) (h4 : Tryz.prog.globalNamed n4 = some 7) (h5 : Tryz.prog.globalNamed n5 = some 6) : EnvX W :=
  ⟨⟨max_of hsh, pow_of hL.tail.tail h2⟩, err_of hL.tail.tail.tail.tail.tail h5 (by kernel_rfl), err_of hL.tail.tail.tail.tail h4 (by kernel_rfl)⟩
end Go.Proofs.YticofgmmjecleaaGreatDoor
namespace Go.Proofs.YticofgmmjecleaaGreatDoor
open Go.ChangeShapes Go.WideShapes Go.ChangeAt Go.RowKit
theorem cells_u8 : Tryz.prog.cellsOf 5 = 1 := by kernel_rfl
section
variable {H : Type} {enc : TypeId × Value → H} {w : World} {base : Nat} {spare : Nat → Bool} {held : Bool}
/-- A list of bytes, out of its one cell. -/
theorem openB {fuel : Nat} {cs : List Value} {x : DataW H × List MemPlace} (h : DataW.trod enc Tryz.prog w base spare held fuel 43 cs = some x) :
    ∃ (A : Option Addr) (n c : Nat) (xs : List Int), cs = [.slice A n c] ∧ n ≤ c ∧ Rd w A n (xs.map (Value.int .u8)) ∧ (∀ b ∈ xs, 0 ≤ b ∧ b < 256) := by
  rcases open_ints Tryz.underlying43 Tryz.underlying5 cells_u8 h with ⟨hcs, hx⟩ | ⟨a, len, cap, zs, hcs, _, hl, hm, hz, hx, hcell, hwz⟩
  · exact ⟨none, 0, 0, [], hcs, Nat.le_refl _, Rd.nil _ _, by simp⟩
  · have hlz : len ≤ zs.length := by rw [hz]; split <;> omega
    refine ⟨some a, len, cap, zs.take len, hcs, hl, ⟨by rw [List.length_map, List.length_take]; omega, fun hp => ?_⟩, fun b hb => ?_⟩
    · obtain ⟨b, off, rfl, hc⟩ := ints_at hcell (by omega)
      refine ⟨b, off, rfl, fun k u hu => ?_⟩
      have hk : k < len := by
        have := (List.getElem?_eq_some_iff.1 hu).1
        rw [List.length_map, List.length_take] at this
        omega
      rw [hc k (by omega)]
      rw [List.getElem?_map, List.getElem?_take, if_pos hk, List.getElem?_eq_getElem (by omega)] at hu
      rw [← hu]
      simp [List.getD, show k < zs.length by omega]
    · have := hwz b (List.mem_of_mem_take hb)
      simp only [Lit.wf, Bool.and_eq_true, decide_eq_true_eq] at this
      have e1 : IntKind.u8.min = 0 := rfl
      have e2 : IntKind.u8.max = 255 := rfl
      rw [e1, e2] at this
      omega
end
/-- A slice's block, if it has one, was there. -/
theorem okWide_block {P : Program} {w : World} {base : Nat} {t e : TypeId} {A : Option Addr} {n c : Nat} (ht : P.underlying t = some (.slice e)) (h : Value.okWide P w .any base t (.slice A n c)) : ∀ a, A = some a → a.block < w.heap.size := by
  rintro a rfl
  simp only [Value.okWide, ht, Cell.okWide, Cell.ok] at h
  obtain ⟨_, _, _, _, row, cells, hs, _⟩ := h
  refine Classical.byContradiction fun hlt => ?_
  rw [World.shape?, Array.getElem?_eq_none (by omega)] at hs
  cases hs
end Go.Proofs.YticofgmmjecleaaGreatDoor
namespace Go.Proofs.YticofgmmjecleaaGreatDoor
open Go.RowKit
section
variable {P : Program} {ops : Array Oper} {Q : Exit → Act → World → Prop}
/-- Those whose values are good still when operation j is done (C: what each uses up). -/
def availR (R C : List (List Nat)) (m j : Nat) : List Nat := (R.getD j []).filter fun i => (List.range m).all fun k => !((C.getD k []).contains i) || k == j || (R.getD k []).contains j
/-- .. and at the end of the first m. -/
def endR (C : List (List Nat)) (m : Nat) : List Nat := (List.range m).filter fun i => (List.range m).all fun k => !((C.getD k []).contains i)
/-- What operation j may do to the world: add to it, or, where C has something at j, what Rel allows. -/
def StepR (C : List (List Nat)) (Rel : World → World → Prop) (j : Nat) (w w' : World) : Prop := if (C.getD j []).isEmpty then Below w.heap.size w w' else Rel w w'
theorem StepR.plain {C : List (List Nat)} {Rel : World → World → Prop} {j : Nat} {w w' : World} (h : (C.getD j []).isEmpty = true) (hb : Below w.heap.size w w') : StepR C Rel j w w' := by unfold StepR; rw [h]; exact hb
theorem StepR.rel {C : List (List Nat)} {Rel : World → World → Prop} {j : Nat} {w w' : World} (h : (C.getD j []).isEmpty = false) (hb : Rel w w') : StepR C Rel j w w' := by unfold StepR; rw [h]; exact hb
theorem StepR.either {C : List (List Nat)} {Rel : World → World → Prop} {j : Nat} {w w' : World} {q : Prop} (h : StepR C Rel j w w') (h1 : Below w.heap.size w w' → q) (h2 : Rel w w' → q) : q := by
  unfold StepR at h
  split at h
  · exact h1 h
  · exact h2 h
theorem not_containsR {L : List Nat} {i : Nat} : (!(L.contains i)) = true ↔ i ∉ L := by
  rw [Bool.not_eq_true', ← Bool.not_eq_true, List.contains_iff_mem]
theorem availR_spec {R C : List (List Nat)} {m j i : Nat} : i ∈ availR R C m j ↔ i ∈ R.getD j [] ∧ ∀ k, k < m → i ∈ C.getD k [] → k = j ∨ j ∈ R.getD k [] := by
  unfold availR
  rw [List.mem_filter, List.all_eq_true]
  refine and_congr_right fun _ => ⟨fun h k hk hi => ?_, fun h k hk => ?_⟩
  · have h1 := h k (List.mem_range.2 hk)
    rw [Bool.or_eq_true, Bool.or_eq_true, not_containsR, beq_iff_eq, List.contains_iff_mem] at h1
    rcases h1 with (h1 | h1) | h1
    · exact absurd hi h1
    · exact .inl h1
    · exact .inr h1
  · rw [Bool.or_eq_true, Bool.or_eq_true, not_containsR, beq_iff_eq, List.contains_iff_mem]
    by_cases hi : i ∈ C.getD k []
    · rcases h k (List.mem_range.1 hk) hi with h1 | h1
      · exact .inl (.inr h1)
      · exact .inr h1
    · exact .inl (.inl hi)
theorem endR_spec {C : List (List Nat)} {m i : Nat} : i ∈ endR C m ↔ i < m ∧ ∀ k, k < m → i ∉ C.getD k [] := by
  unfold endR
  rw [List.mem_filter, List.all_eq_true, List.mem_range]
  exact and_congr_right fun _ => ⟨fun h k hk => not_containsR.1 (h k (List.mem_range.2 hk)), fun h k hk => not_containsR.2 (h k (List.mem_range.1 hk))⟩
/-- What is to be shown of operation j. -/
def ObR (P : Program) (ops : Array Oper) (S : World → Prop) (R C : List (List Nat)) (Rel : World → World → Prop) (m : Nat) (V : (Nat → Value) → List VP) (x : Nat → Value) (a0 : Act) (j : Nat) : Prop :=
  ∀ w, S w → (∀ i ∈ availR R C m j, ((V x).getD i VAny).p (x i) w) →
    wpOp P ops NoWay j (fun a' w' => ∃ v, (∀ d, dstOf ops j = some d → a'.tmps[d]? = some v) ∧ a'.defers = a0.defers ∧ ((V x).getD j VAny).p v w' ∧ StepR C Rel j w w') (putS ops x a0 j) w
theorem tasks_goR {m : Nat} {Rel : World → World → Prop} {R C : List (List Nat)} {V : (Nat → Value) → List VP} {S : World → Prop} {a0 : Act} (hok : tasksOk ops m a0.tmps.size R = true)
    (hdep : ∀ x x' j, (∀ i ∈ R.getD j [], x i = x' i) → (V x).getD j VAny = (V x').getD j VAny) (hweak : ∀ i, i < m → (C.getD i []).isEmpty = false → ∀ k, k < m → k ≠ i → i ∉ R.getD k [] → k ∉ C.getD i [] → ∀ x v w w', ((V x).getD k VAny).p v w → Rel w w' → ((V x).getD k VAny).p v w') (hSt : ∀ j w w', S w → StepR C Rel j w w' → S w') (hob : ∀ x j, j < m → ObR P ops S R C Rel m V x a0 j)
    (hend : ∀ x w', S w' → (∀ i ∈ endR C m, ((V x).getD i VAny).p (x i) w') → wpAny P .any ops Q (ops.size - m) (listedTo ops.size m) (putS ops x a0 m) w') :
    ∀ (c : Nat) (U : List Nat) (listed : Array Bool) (w : World) (x : Nat → Value), U.length = c → U.Nodup → (∀ i, i ∈ U ↔ i < m ∧ listed.getD i false = false) → listed.size = ops.size →
      (∀ i, m ≤ i → i < ops.size → listed.getD i false = false) → (∀ (j : Nat) (o : Oper), ops[j]? = some o → listed.getD j false = true → ∀ e ∈ o.after, Region.binds .any e = true → listed.getD e.on false = true) →
      S w → (∀ i, i < m → listed.getD i false = true → (∀ j, j < m → i ∈ C.getD j [] → listed.getD j false = false) → ((V x).getD i VAny).p (x i) w) → wpAny P .any ops Q (ops.size - m + c) listed (putD ops (fun i => listed.getD i false) x a0 m) w := by
  obtain ⟨hmn, hspec, htail⟩ := tasks_spec hok
  have hsel : Region.noSelect ops = true := by unfold tasksOk at hok; simp only [Bool.and_eq_true] at hok; exact hok.1.1
  intro c
  induction c with
  | zero =>
    intro U listed w x hU hnd hmem hsz hun hcl hS hV
    obtain rfl : U = [] := List.eq_nil_of_length_eq_zero hU
    have hall : ∀ i, i < m → listed.getD i false = true := fun i hi => by
      cases h : listed.getD i false
      · exact absurd ((hmem i).2 ⟨hi, h⟩) (by simp)
      · rfl
    have hl : listed = listedTo ops.size m := by
      apply Array.ext
      · simp [listedTo, hsz]
      · intro i h1 h2
        have e : listed.getD i false = listed[i] := by simp [Array.getD, h1]
        by_cases hi : i < m
        · have := hall i hi
          rw [e] at this
          simp [listedTo, this, hi]
        · have := hun i (by omega) (by omega)
          rw [e] at this
          simp [listedTo, this, hi]
    rw [Nat.add_zero, putD_congr (ops := ops) _ (fun _ => true) x x a0 m (fun i hi => ⟨hall i hi, fun _ => rfl⟩), hl]
    exact hend x w hS (fun i hi => hV i (endR_spec.1 hi).1 (hall i (endR_spec.1 hi).1) (fun j hj hc => absurd hc ((endR_spec.1 hi).2 j hj)))
  | succ c ih =>
    intro U listed w x hU hnd hmem hsz hun hcl hS hV
    have hne : U ≠ [] := fun e => by rw [e] at hU; simp at hU
    show (_ → _) ∧ _
    refine ⟨fun hr => ?_, fun i hi => ?_⟩
    · exfalso
      obtain ⟨i, hiU, hmin⟩ := min_mem U hne
      obtain ⟨him, hil⟩ := (hmem i).1 hiU
      have hlt : i < ops.size := by omega
      have : i ∈ Region.ready .any ops listed := mem_ready.2 ⟨by simpa [Array.getD, hsz, hlt] using hil, _, Array.getElem?_eq_getElem hlt, fun e he hb => by
        have hlti := (hspec i _ (Array.getElem?_eq_getElem hlt) him).1 e he hb
        cases h : listed.getD e.on false
        · have := hmin e.on ((hmem _).2 ⟨by omega, h⟩); omega
        · rfl⟩
      rw [hr] at this
      cases this
    · obtain ⟨hil, o, ho, hdeps⟩ := mem_ready.1 hi
      have hlt : i < ops.size := (Array.getElem?_eq_some_iff.1 ho).1
      have hil' : listed.getD i false = false := by simpa [Array.getD, hsz, hlt] using hil
      have hreach := listed_reach hok (fun i => listed.getD i false) hcl i o ho hdeps
      have him : i < m := by
        rcases Nat.lt_or_ge i m with h | h
        · exact h
        · exfalso
          obtain ⟨k, hk⟩ := List.exists_mem_of_ne_nil U hne
          obtain ⟨hkm, hkl⟩ := (hmem k).1 hk
          have := hreach k (htail i hlt h k hkm)
          rw [hkl] at this; cases this
      obtain ⟨_, ⟨d, hd, hdsz, hduniq⟩, hlook⟩ := hspec i o ho him
      have hdst : dstOf ops i = some d := by simp [dstOf, ho, hd]
      have hso : ∀ cs b, o.op ≠ .select cs b := fun cs b => Region.noSelect_spec hsel i o cs b ho
      -- the two frames agree on what o looks at
      have hagree : ∀ t ∈ o.looksAt ops, (putD ops (fun i => listed.getD i false) x a0 m).tmps[t]? = (putS ops x a0 i).tmps[t]? := fun t ht => by
        by_cases hex : ∃ k, k < m ∧ dstOf ops k = some t
        · obtain ⟨k, hkm, hkd⟩ := hex
          have hkR := hlook t ht k hkm hkd
          have hki := reach_lt hok i hlt k hkR
          have hkl := hreach k hkR
          have hks : k < ops.size := by omega
          obtain ⟨_, ⟨d', hd', hdsz', hu'⟩, _⟩ := hspec k _ (Array.getElem?_eq_getElem hks) hkm
          have htd : d' = t := by
            have : dstOf ops k = some d' := by simp [dstOf, Array.getElem?_eq_getElem hks, hd']
            rw [hkd] at this; injection this with this; exact this.symm
          rw [putD_at _ _ _ _ k hkd hkl (htd ▸ hdsz') m hkm (fun l hl hlk => htd ▸ hu' l hl hlk)]
          unfold putS
          rw [putD_at _ _ _ _ k hkd rfl (htd ▸ hdsz') i hki (fun l hl hlk => htd ▸ hu' l (by omega) hlk)]
        · rw [putD_other _ _ _ _ m (fun k hk hkd => absurd ⟨k, hk, hkd⟩ hex)]
          unfold putS
          rw [putD_other _ _ _ _ i (fun k hk hkd => absurd ⟨k, by omega, hkd⟩ hex)]
      have hob' := hob x i him w hS (fun k hk => by
        obtain ⟨hkR, hkC⟩ := availR_spec.1 hk
        refine hV k (by have := reach_lt hok i hlt k hkR; omega) (hreach k hkR) (fun j hj hc => ?_)
        rcases hkC j hj hc with rfl | hij
        · exact hil'
        · cases hjl : listed.getD j false
          · rfl
          · have hjs : j < ops.size := by omega
            have := listed_reach hok (fun i => listed.getD i false) hcl j _ (Array.getElem?_eq_getElem hjs) (hcl j _ (Array.getElem?_eq_getElem hjs) hjl) i hij
            rw [hil'] at this; cases this)
      have hsz1 := putD_size (ops := ops) (fun _ => true) x a0 i
      -- what comes behind
      have next : ∀ v w', ((V x).getD i VAny).p v w' → StepR C Rel i w w' → wpAny P .any ops Q (ops.size - m + c) (listed.setIfInBounds i true) ((putD ops (fun i => listed.getD i false) x a0 m).put (some d) v) w' := fun v w' hv hb => by
        have hput := putD_put (ops := ops) (fun k => listed.getD k false) (fun k => (listed.setIfInBounds i true).getD k false) x (fun k => if k = i then v else x k) a0 i hil'
          (by simp [hsz, hlt]) (fun k hk => ⟨by rw [getD_set_ne _ (Ne.symm hk)], by simp [hk]⟩) m him
          (fun d' k hk hki hd' => by rw [hdst] at hd'; injection hd' with hd'; exact hd' ▸ hduniq k hk hki)
        simp only [if_true] at hput
        rw [← hdst, hput]
        refine ih (U.erase i) _ _ _ ?_ (hnd.erase _) (fun k => ?_) (by simpa using hsz) (fun k h1 h2 => ?_) (fun j oj hoj hj e he hb' => ?_) (hSt i _ _ hS hb) (fun k hk hkl hcons => ?_)
        · rw [List.length_erase_of_mem ((hmem i).2 ⟨him, hil'⟩), hU]; rfl
        · rw [hnd.mem_erase_iff, hmem]
          by_cases hk : k = i
          · subst hk; simp [hsz, hlt]
          · rw [getD_set_ne _ (Ne.symm hk)]; simp [hk]
        · rw [getD_set_ne _ (by omega)]; exact hun k h1 h2
        · by_cases hji : j = i
          · subst hji
            rw [ho] at hoj; injection hoj with hoj; subst hoj
            exact getD_set_true (hdeps e he hb')
          · rw [getD_set_ne _ (Ne.symm hji)] at hj
            exact getD_set_true (hcl j oj hoj hj e he hb')
        · by_cases hki : k = i
          · subst hki
            rw [hdep _ x k (fun l hl => by have := reach_lt hok k hlt l hl; simp only [show l ≠ k by omega, if_false])]
            simpa using hv
          · rw [getD_set_ne _ (Ne.symm hki)] at hkl
            have hks : k < ops.size := by omega
            have hdk : (V fun l => if l = i then v else x l).getD k VAny = (V x).getD k VAny := hdep _ x k (fun l hl => by
              have hll := listed_reach hok (fun i => listed.getD i false) hcl k _ (Array.getElem?_eq_getElem hks) (hcl k _ (Array.getElem?_eq_getElem hks) hkl) l hl
              have hne : l ≠ i := fun e => by rw [e] at hll; rw [hil'] at hll; cases hll
              simp only [hne, if_false])
            simp only [hki, if_false]
            rw [hdk]
            have hb0 : ∀ j, j < m → k ∈ C.getD j [] → listed.getD j false = false := fun j hj hc => by
              have h1 := hcons j hj hc
              by_cases hji : j = i
              · rw [hji]; exact hil'
              · rwa [getD_set_ne _ (Ne.symm hji)] at h1
            have hkC : k ∉ C.getD i [] := fun hc => by
              have h1 := hcons i him hc
              simp [hsz, hlt] at h1
            have hiR : i ∉ R.getD k [] := fun hik => by
              have := listed_reach hok (fun i => listed.getD i false) hcl k _ (Array.getElem?_eq_getElem hks) (hcl k _ (Array.getElem?_eq_getElem hks) hkl) i hik
              rw [hil'] at this; cases this
            cases he : (C.getD i []).isEmpty
            · replace hb : Rel w w' := by unfold StepR at hb; rw [he] at hb; exact hb
              exact hweak i him he k hk hki hiR hkC x _ _ _ (hV k hk hkl hb0) hb
            · replace hb : Below w.heap.size w w' := by unfold StepR at hb; rw [he] at hb; exact hb
              exact ((V x).getD k VAny).st _ _ _ (hV k hk hkl hb0) hb
      unfold wpOp at hob' ⊢
      simp only [ho] at hob' ⊢
      rw [wanted_same hagree]
      split
      · rename_i hw
        rw [if_pos hw] at hob'
        rcases hob' with h | ⟨_, h⟩
        case inr => exact absurd h NoWay.lets
        refine .inl (Oper.wp_mono ?_ (wp_move (Q := Q) (d := d) (R := fun v w' => ((V x).getD i VAny).p v w' ∧ StepR C Rel i w w') (exec_same hso hagree) hd (by unfold putS; rw [hsz1.1]; exact hdsz)
          (Oper.wp_mono (fun a' w' ⟨v, h1, h2, h3, h4⟩ => ⟨v, h1 d hdst, by unfold putS; rw [hsz1.2]; exact h2, h3, h4⟩) h)))
        rintro a' w' ⟨v, rfl, hv, hb⟩
        exact next v w' hv hb
      · rename_i hw
        rw [if_neg hw] at hob'
        obtain ⟨v, h1, _, h3, h4⟩ := hob'
        have hvu : v = undef := by
          have := h1 d hdst
          rw [hd] at this
          simp [Act.put, putS, hsz1.1, hdsz] at this
          exact this.symm
        rw [hd]
        exact next undef w (hvu ▸ h3) h4
/-- **A region that draws its order**: each of its first m operations is shown once; what is left behind them goes on. -/
theorem wp_tasksR {id m : Nat} {Rel : World → World → Prop} (R C : List (List Nat)) (V : (Nat → Value) → List VP) (S : World → Prop) {a0 : Act} {w : World} (hm : P.follows .mixedOrders = true) (hok : tasksOk ops m a0.tmps.size R = true)
    (hdep : ∀ x x' j, (∀ i ∈ R.getD j [], x i = x' i) → (V x).getD j VAny = (V x').getD j VAny) (hweak : ∀ i, i < m → (C.getD i []).isEmpty = false → ∀ k, k < m → k ≠ i → i ∉ R.getD k [] → k ∉ C.getD i [] → ∀ x v w w', ((V x).getD k VAny).p v w → Rel w w' → ((V x).getD k VAny).p v w') (hS0 : S w.drew) (hSt : ∀ j w w', S w → StepR C Rel j w w' → S w') (hob : ∀ x j, j < m → ObR P ops S R C Rel m V x a0 j)
    (hend : ∀ x w', S w' → (∀ i ∈ endR C m, ((V x).getD i VAny).p (x i) w') → wpAny P .any ops Q (ops.size - m) (listedTo ops.size m) (putS ops x a0 m) w') : (Code.region id ops true).wp P Q a0 w := by
  have hmn := (tasks_spec hok).1
  have hf : ∀ i, (Array.replicate ops.size false).getD i false = false := fun i => by simp [Array.getD]
  have h := tasks_goR (Q := Q) hok hdep hweak hSt hob hend m (List.range m) (Array.replicate ops.size false) w.drew (fun _ => undef) (by simp) List.nodup_range (fun i => by rw [hf]; simp) (by simp) (fun i _ _ => hf i) (fun j o _ hj => by rw [hf] at hj; cases hj) hS0
    (fun i _ hi => by rw [hf] at hi; cases hi)
  refine wp_region_any hm ?_
  rw [show ops.size - m + m = ops.size by omega, putD_congr (ops := ops) _ (fun _ => false) _ (fun _ => undef) a0 m (fun i _ => ⟨hf i, fun _ => rfl⟩)] at h
  have e : ∀ n, putD ops (fun _ => false) (fun _ => undef) a0 n = a0 := fun n => by
    induction n with
    | zero => rfl
    | succ n ih => unfold putD; simpa using ih
  rw [e] at h
  exact h
/-- What is to be shown, operation by operation, in the text's order; the frame goes along. -/
def ObsR (P : Program) (ops : Array Oper) (Q : Exit → Act → World → Prop) (S : World → Prop) (R C : List (List Nat)) (Rel : World → World → Prop) (m : Nat) (V : (Nat → Value) → List VP) (x : Nat → Value) : Nat → Nat → Act → Prop
  | 0, j, a => ∀ w, S w → (∀ i ∈ endR C m, ((V x).getD i VAny).p (x i) w) → wpAny P .any ops Q (ops.size - j) (listedTo ops.size j) a w
  | r + 1, j, a => (∀ w, S w → (∀ i ∈ availR R C m j, ((V x).getD i VAny).p (x i) w) →
      wpOp P ops NoWay j (fun a' w' => ∃ v, (∀ d, dstOf ops j = some d → a'.tmps[d]? = some v) ∧ a'.defers = a.defers ∧ ((V x).getD j VAny).p v w' ∧ StepR C Rel j w w') a w) ∧
    ObsR P ops Q S R C Rel m V x r (j + 1) (a.put (dstOf ops j) (x j))
theorem obs_allR {S : World → Prop} {R C : List (List Nat)} {Rel : World → World → Prop} {m : Nat} {V : (Nat → Value) → List VP} {x : Nat → Value} {a0 : Act} : ∀ (r j : Nat), ObsR P ops Q S R C Rel m V x r j (putS ops x a0 j) →
    (∀ k, j ≤ k → k < j + r → ObR P ops S R C Rel m V x a0 k) ∧ ∀ w, S w → (∀ i ∈ endR C m, ((V x).getD i VAny).p (x i) w) → wpAny P .any ops Q (ops.size - (j + r)) (listedTo ops.size (j + r)) (putS ops x a0 (j + r)) w := by
  intro r
  induction r with
  | zero => intro j h; exact ⟨fun k h1 h2 => by omega, h⟩
  | succ r ih =>
    intro j h
    obtain ⟨h1, h2⟩ := h
    have h2' : ObsR P ops Q S R C Rel m V x r (j + 1) (putS ops x a0 (j + 1)) := h2
    obtain ⟨h3, h4⟩ := ih (j + 1) h2'
    refine ⟨fun k hk1 hk2 => ?_, by rw [show j + (r + 1) = j + 1 + r by omega]; exact h4⟩
    by_cases hk : k = j
    · subst hk
      intro w hS hV
      have h := h1 w hS hV
      rw [show (putS ops x a0 k).defers = a0.defers from (putD_size _ _ _ _).2] at h
      exact h
    · exact h3 k (by omega) (by omega)
theorem wp_obsR {id : Nat} (m : Nat) (Rel : World → World → Prop) (R C : List (List Nat)) (V : (Nat → Value) → List VP) (S : World → Prop) {a0 : Act} {w : World} (hm : P.follows .mixedOrders = true) (hok : tasksOk ops m a0.tmps.size R = true)
    (hdep : ∀ x x' j, (∀ i ∈ R.getD j [], x i = x' i) → (V x).getD j VAny = (V x').getD j VAny) (hweak : ∀ i, i < m → (C.getD i []).isEmpty = false → ∀ k, k < m → k ≠ i → i ∉ R.getD k [] → k ∉ C.getD i [] → ∀ x v w w', ((V x).getD k VAny).p v w → Rel w w' → ((V x).getD k VAny).p v w') (hSt : ∀ j w w', S w → StepR C Rel j w w' → S w') (hS0 : S w.drew) (h : ∀ x, ObsR P ops Q S R C Rel m V x m 0 a0) : (Code.region id ops true).wp P Q a0 w :=
  wp_tasksR (m := m) (Rel := Rel) R C V S hm hok hdep hweak hS0 hSt (fun x j hj => (obs_allR m 0 (h x)).1 j (by omega) (by omega)) (fun x w' hS hV => by
    have := (obs_allR m 0 (h x)).2 w' hS (hV)
    rwa [Nat.zero_add] at this)
theorem obs_stepR {S : World → Prop} {R C : List (List Nat)} {Rel : World → World → Prop} {m : Nat} {V : (Nat → Value) → List VP} {x : Nat → Value} {r j : Nat} {a : Act} {o : Oper} {d : Tmp} (ho : ops[j]? = some o) (hd : o.dst = some d)
    (h : ∀ w, S w → (∀ i ∈ availR R C m j, ((V x).getD i VAny).p (x i) w) → ∀ K : Act → World → Prop, Shut (∀ a' w' v, a'.tmps[d]? = some v → a'.defers = a.defers → ((V x).getD j VAny).p v w' → StepR C Rel j w w' → K a' w') →
      if Region.wanted o (yielded ops a.tmps) = true then Oper.wp P o a w K NoWay else K (a.put o.dst undef) w)
    (hr : ObsR P ops Q S R C Rel m V x r (j + 1) { a with tmps := a.tmps.setIfInBounds d (x j) }) : ObsR P ops Q S R C Rel m V x (r + 1) j a := by
  have hdst : dstOf ops j = some d := by simp [dstOf, ho, hd]
  refine ⟨fun w hS hV => wpOp_step ho (fun K hK => ?_), by rw [hdst]; exact hr⟩
  exact h w hS hV K (fun a' w' v h1 h2 h3 h4 => hK a' w' ⟨v, fun d' hd' => by rw [hdst] at hd'; injection hd' with hd'; exact hd' ▸ h1, h2, h3, h4⟩)
/-- Those that bear an append in place: their values are plain. -/
theorem weak_ofR {m : Nat} {Rel : World → World → Prop} {R C : List (List Nat)} {V : (Nat → Value) → List VP} (Wk : List Nat)
    (hchk : ((List.range m).all fun i => (C.getD i []).isEmpty || (List.range m).all fun k => k == i || (R.getD k []).contains i || (C.getD i []).contains k || Wk.contains k) = true)
    (hW : ∀ k ∈ Wk, ∀ x v w w', ((V x).getD k VAny).p v w → Rel w w' → ((V x).getD k VAny).p v w') :
    ∀ i, i < m → (C.getD i []).isEmpty = false → ∀ k, k < m → k ≠ i → i ∉ R.getD k [] → k ∉ C.getD i [] → ∀ x v w w', ((V x).getD k VAny).p v w → Rel w w' → ((V x).getD k VAny).p v w' := by
  intro i hi he k hk hne hR hC x v w w' hp hrel
  have h1 := List.all_eq_true.1 hchk i (List.mem_range.2 hi)
  rw [he, Bool.false_or] at h1
  have h2 := List.all_eq_true.1 h1 k (List.mem_range.2 hk)
  rw [Bool.or_eq_true, Bool.or_eq_true, Bool.or_eq_true, beq_iff_eq, List.contains_iff_mem, List.contains_iff_mem, List.contains_iff_mem] at h2
  rcases h2 with ((h2 | h2) | h2) | h2
  · exact absurd h2 hne
  · exact absurd h2 hR
  · exact absurd h2 hC
  · exact hW k h2 x v w w' hp hrel
end
end Go.Proofs.YticofgmmjecleaaGreatDoor
namespace Go.Proofs.YticofgmmjecleaaGreatDoor
open Go.RowKit
theorem and_small (x : Int) : 0 ≤ bits BinOp.and IntKind.u64 x 16777215 ∧ bits BinOp.and IntKind.u64 x 16777215 ≤ 16777215 := by
  unfold bits
  simp only
  have h : (BitVec.ofInt IntKind.u64.bits x &&& BitVec.ofInt IntKind.u64.bits 16777215).toNat ≤ 16777215 := by
    rw [BitVec.toNat_and]
    exact Nat.le_trans Nat.and_le_right (by decide)
  obtain ⟨r, hr⟩ : ∃ r, r = (BitVec.ofInt IntKind.u64.bits x &&& BitVec.ofInt IntKind.u64.bits 16777215).toNat := ⟨_, rfl⟩
  rw [← hr] at h ⊢
  have e : IntKind.u64.wrap ((r : Nat) : Int) = (r : Int) := by
    have e1 : IntKind.u64.wrap ((r : Nat) : Int) = ((r : Nat) : Int) % 18446744073709551616 := rfl
    rw [e1]; omega
  rw [e]
  omega
/-- A source: a code, a place in it, a number. -/
def Src (w : World) (g : Nat) (T : TypeId) : Prop := ∃ (B : Option Addr) (nb cb : Nat) (bs : List Int) (pl : Nat) (h : Int), Blk w g T #[.slice B nb cb, .int .i64 pl, .int .u64 h] ∧ Rd w B nb (bs.map (Value.int .u8)) ∧ (∀ b ∈ bs, 0 ≤ b ∧ b < 256) ∧ pl ≤ nb ∧ nb ≤ 4096 ∧ ∀ a, B = some a → a.block < g
/-- What drawing leaves as it was: all but the source's own block. -/
structure Dr (g : Nat) (T : TypeId) (w w' : World) : Prop where
  s : Src w g T
  s' : Src w' g T
  b : Below g w w'
  k : ∀ k, k < w.heap.size → k ≠ g → w'.heap[k]? = w.heap[k]?
theorem Blk.three {w : World} {g : Nat} {t : TypeId} {a b c : Value} (h : Blk w g t #[a, b, c]) : w.cell? ⟨g, 0, none⟩ = some a ∧ w.cell? ⟨g, 1, none⟩ = some b ∧ w.cell? ⟨g, 2, none⟩ = some c := ⟨h.cell 0, h.cell 1, h.cell 2⟩
theorem Src.lt {w : World} {g : Nat} {T : TypeId} (h : Src w g T) : g < w.heap.size := by obtain ⟨B, nb, cb, bs, pl, x, k, _⟩ := h; exact k.lt
theorem Src.keep {w w' : World} {g : Nat} {T : TypeId} (h : Src w g T) (hk : w'.heap[g]? = w.heap[g]?) (hb : Below g w w') : Src w' g T := by
  obtain ⟨B, nb, cb, bs, pl, x, k, r, h1, h2, h3, h4⟩ := h
  refine ⟨B, nb, cb, bs, pl, x, hk.trans k, ⟨r.1, fun hn0 => ?_⟩, h1, h2, h3, h4⟩
  obtain ⟨gb, ob, e, hc⟩ := r.2 hn0
  exact ⟨gb, ob, e, fun j u hu => (hb.cell (show gb < g from h4 _ e)).trans (hc j u hu)⟩
theorem Src.below {w w' : World} {g : Nat} {T : TypeId} (h : Src w g T) (hb : Below w.heap.size w w') : Src w' g T := by
  obtain ⟨B, nb, cb, bs, pl, x, k, r, rest⟩ := h
  exact ⟨B, nb, cb, bs, pl, x, k.below hb k.lt, r.below hb, rest⟩
theorem Dr.refl {w : World} {g : Nat} {T : TypeId} (h : Src w g T) : Dr g T w w := ⟨h, h, Below.refl _ _, fun _ _ _ => rfl⟩
theorem Dr.of_below {w w' : World} {g : Nat} {T : TypeId} (h : Src w g T) (hb : Below w.heap.size w w') : Dr g T w w' := ⟨h, h.below hb, hb.mono (Nat.le_of_lt h.lt), fun k hk _ => hb.block k hk⟩
theorem Dr.trans {w w1 w2 : World} {g : Nat} {T : TypeId} (h : Dr g T w w1) (h' : Dr g T w1 w2) : Dr g T w w2 :=
  ⟨h.s, h'.s', h.b.trans h'.b, fun k hk hne => (h'.k k (Nat.lt_of_lt_of_le hk h.b.size) hne).trans (h.k k hk hne)⟩
theorem Dr.size {w w' : World} {g : Nat} {T : TypeId} (h : Dr g T w w') : w.heap.size ≤ w'.heap.size := h.b.size
theorem Dr.down {w0 w w' : World} {g : Nat} {T : TypeId} (h : Dr g T w w') (hb : Below w0.heap.size w0 w) (hg : w0.heap.size ≤ g) : Below w0.heap.size w0 w' := hb.trans (h.b.mono hg)
theorem Blk.dr {w w' : World} {g g' : Nat} {T t : TypeId} {cs : Array Value} (h : Blk w g' t cs) (d : Dr g T w w') (hne : t ≠ T) : Blk w' g' t cs := by
  refine (d.k g' h.lt fun e => ?_).trans h
  subst e
  obtain ⟨B, nb, cb, bs, pl, x, k, _⟩ := d.s
  unfold Blk at h k
  rw [h] at k
  injection k with k
  injection k with _ e
  exact hne e
theorem Own.dr {w w' : World} {g : Nat} {T E : TypeId} {B : Nat} {A : Option Addr} {n c : Nat} {us : List Value} (h : Own w B E A n c us) (d : Dr g T w w') (hne : E ≠ T) : Own w' B E A n c us := by
  obtain ⟨B', nb, cb, bs, pl, x, k, _⟩ := d.s
  have hn := h.ne_blk k hne
  refine ⟨h.1, ?_⟩
  rcases h.2 with hz | ⟨g', cap, cur, he, hB, hg, r⟩
  · exact .inl hz
  · refine .inr ⟨g', cap, cur, he, hB, (d.k g' (Array.getElem?_eq_some_iff.1 hg).1 fun e => hn ?_).trans hg, r⟩
    rw [he, ← e]; rfl
theorem Dr.set {w : World} {g : Nat} {T : TypeId} {B : Option Addr} {nb cb : Nat} {bs : List Int} {pl pl' : Nat} {h h' : Int} (k : Blk w g T #[.slice B nb cb, .int .i64 pl, .int .u64 h]) (r : Rd w B nb (bs.map (Value.int .u8))) (hbs : ∀ b ∈ bs, 0 ≤ b ∧ b < 256) (hpl : pl ≤ nb) (hnb : nb ≤ 4096) (hbg : ∀ a, B = some a → a.block < g)
    (i : Nat) (u : Value) (e : (#[.slice B nb cb, .int .i64 pl, .int .u64 h] : Array Value).setIfInBounds i u = #[.slice B nb cb, .int .i64 pl', .int .u64 h']) (hpl' : pl' ≤ nb) :
    Dr g T w (w.setCell ⟨g, i, none⟩ u) ∧ Blk (w.setCell ⟨g, i, none⟩ u) g T #[.slice B nb cb, .int .i64 pl', .int .u64 h'] ∧ Rd (w.setCell ⟨g, i, none⟩ u) B nb (bs.map (Value.int .u8)) := by
  have k1 := k.set_ i u
  rw [e] at k1
  have hfar : ∀ b, b ≠ g → (w.setCell ⟨g, i, none⟩ u).heap[b]? = w.heap[b]? := fun b hb => Below.heap_setCell w ⟨g, i, none⟩ _ b hb
  have hr : Rd (w.setCell ⟨g, i, none⟩ u) B nb (bs.map (Value.int .u8)) := ⟨r.1, fun hn0 => by
    obtain ⟨gb, ob, e, hc⟩ := r.2 hn0
    refine ⟨gb, ob, e, fun j u hu => ?_⟩
    have hcj := hc j u hu
    have hlt := hbg _ e
    exact (World.cell?_of_block (hfar gb (fun e => by simp at hlt; omega))).trans hcj⟩
  exact ⟨⟨⟨B, nb, cb, bs, pl, h, k, r, hbs, hpl, hnb, hbg⟩, ⟨B, nb, cb, bs, pl', h', k1, hr, hbs, hpl', hnb, hbg⟩, (Below.refl _ _).setCell (p := ⟨g, i, none⟩) (Nat.le_refl _) _, fun b _ hb => hfar b hb⟩, k1, hr⟩
theorem Dr.alloc {w w' : World} {g : Nat} {T : TypeId} (h : Dr g T w w') (o : Obj) : Dr g T w (w'.alloc o) := h.trans (Dr.of_below h.s' ((Below.refl _ _).alloc (Nat.le_refl _) o))
theorem Dr.then {w w1 w2 : World} {g : Nat} {T : TypeId} (h : Dr g T w w1) (hb : Below w1.heap.size w1 w2) : Dr g T w w2 := h.trans (Dr.of_below h.s' hb)
/-- A row made since then grows. -/
theorem Dr.grown {w wr w' : World} {g : Nat} {T E : TypeId} {A : Option Addr} {n c : Nat} {us : List Value} (d : Dr g T w wr) (o : Own wr w.heap.size E A n c us) (hg : wr.grownBy w' (Value.slice A n c).ownBlock) : Dr g T w w' := by
  have hlt := d.s.lt
  have hrow : ∀ k, (Value.slice A n c).ownBlock = some k → w.heap.size ≤ k := fun k hk => (World.ownsRow.lt o k hk).1
  have hb : Below g wr w' := (Below.refl g wr).grown hg (Nat.le_of_lt (Nat.lt_of_lt_of_le hlt d.size)) fun k hk => Nat.le_trans (Nat.le_of_lt hlt) (hrow k hk)
  exact ⟨d.s, d.s'.keep (hg.block g (Nat.lt_of_lt_of_le hlt d.size) fun e => by have := hrow g e.symm; omega) hb, d.b.trans hb,
    fun k hk hne => (hg.block k (Nat.lt_of_lt_of_le hk d.size) fun e => by have := hrow k e.symm; omega).trans (d.k k hk hne)⟩
set_option maxHeartbeats 1600000 in
set_option maxRecDepth 8000 in
theorem next_any (g : Nat) (n : Int) (w : World) (hs : Src w g 121) (hn : n ≤ 4611686018427387904) :
    Calls Tryz.prog 72 #[.pointer (some ⟨g, 0, none⟩), .int .i64 n] w fun e w' => ∃ r : Int, e = .returned (.int .i64 r) ∧ 0 ≤ r ∧ (1 ≤ n → r < n) ∧ Dr g 121 w w' := by
  by_cases h1 : n < 1
  · have d1 : decide (n < 1) = true := by simpa using h1
    go_enter Tryz.func72, Tryz.ntmps72
    go_wp2
    go_ret
    exact ⟨0, rfl, by omega, fun h => by omega, Dr.refl hs⟩
  · have d1 : decide (n < 1) = false := by simpa using h1
    obtain ⟨B, nb, cb, bs, pl, h, k, r, hbs, hpl, hnb, hbg⟩ := id hs
    have q0 : w.cell? ⟨g, 0, none⟩ = some (.slice B nb cb) := k.cell 0
    have q1 : w.cell? ⟨g, 1, none⟩ = some (.int .i64 pl) := k.cell 1
    have q2 : w.cell? ⟨g, 2, none⟩ = some (.int .u64 h) := k.cell 2
    have f2 := k.frozen 2
    go_enter Tryz.func72, Tryz.ntmps72
    go_wp2
    obtain ⟨H, hH⟩ : ∃ H, H = IntKind.u64.wrap (IntKind.u64.wrap (h * 6364136223846793005) + 1442695040888963407) := ⟨_, rfl⟩
    rw [← hH]
    have hsm := and_small (H / 8589934592)
    obtain ⟨X, hX⟩ : ∃ X, X = bits BinOp.and IntKind.u64 (H / 8589934592) 16777215 := ⟨_, rfl⟩
    rw [← hX] at hsm ⊢
    have W1 : wrap64 X = X := by unfold wrap64; omega
    rw [W1]
    obtain ⟨x1, x2⟩ := hsm
    obtain ⟨hd1, k1, r1⟩ := Dr.set k r hbs hpl hnb hbg 2 (.int .u64 H) (pl' := pl) (h' := H) (by simp) hpl
    clear q0 q1 q2 f2 hX
    obtain ⟨w1, hw1⟩ : ∃ W, W = w.setCell ⟨g, 2, none⟩ (.int .u64 H) := ⟨_, rfl⟩
    rw [← hw1] at k1 r1 hd1 ⊢
    have hN0 : (n == 0) = false := by simp; omega
    have hN1 : (n == -1) = false := by simp; omega
    have hN2 : ¬ n = 0 := by omega
    have HD := Lib.hid hd1
    have HBS := Lib.hid hbs
    have HBG := Lib.hid hbg
    have HR1 := Lib.hid r1
    clear hw1 hH hd1 r k hbg
    by_cases hpn : pl < nb
    · have dl : decide ((pl : Int) < (nb : Int)) = true := by simp; omega
      obtain ⟨gb, ob, rfl, hc⟩ := r1.2 (by omega)
      have hbl : pl < bs.length := by have := r1.1; rw [List.length_map] at this; omega
      have hcb := hc pl (.int .u8 bs[pl]) (by simp [hbl])
      obtain ⟨b1, b2⟩ := hbs _ (List.getElem_mem hbl)
      obtain ⟨bb, hbb⟩ : ∃ x, x = bs[pl] := ⟨_, rfl⟩
      rw [← hbb] at hcb b1 b2
      have i1 : (0 : Int) ≤ (pl : Int) := by omega
      have i2 : (pl : Int) < (nb : Int) := by omega
      have W2 : IntKind.i64.wrap bb = bb := by rw [IntWalk.i64_left]; unfold wrap64; omega
      have W4 : IntKind.i64.wrap (X + bb) = X + bb := by rw [IntWalk.i64_left]; unfold wrap64; omega
      have W5 : wrap64 ((pl : Int) + 1) = ((pl + 1 : Nat) : Int) := by unfold wrap64; omega
      have T1 := Int.tmod_eq_emod_of_nonneg (b := n) (show 0 ≤ X + bb by omega)
      clear hc hbs hbb r1
      go_wp2
      refine wp_obs 10 [[], [0], [0, 1], [0, 1, 2], [], [4], [4, 5], [4, 5, 6], [4, 5, 6, 7], [0, 1, 2, 3, 4, 5, 6, 7, 8]] [VIs (.pointer (some ⟨g, 0, none⟩)), VIs (.pointer (some ⟨g, 0, none⟩)), VIs (.pointer (some ⟨g, 1, none⟩)), VIs (.int .i64 (pl)), VIs (.pointer (some ⟨g, 0, none⟩)), VIs (.pointer (some ⟨g, 0, none⟩)), VIs (.pointer (some ⟨g, 0, none⟩)), VIs (.slice (some ⟨gb, ob, none⟩) nb cb), VIs (.int .i64 (nb)), VIs (.bool true)] (fun w' => Blk w' g 121 #[.slice (some ⟨gb, ob, none⟩) nb cb, .int .i64 pl, .int .u64 H] ∧ w'.cell? ⟨gb, ob + pl, none⟩ = some (.int .u8 bb) ∧ Below w1.heap.size w1 w') (by kernel_rfl) (by kernel_rfl) (fun _ _ h hb => ⟨h.1.below hb h.1.lt, (hb.cell (World.block_lt_of_cell? _ _ h.2.1)).trans h.2.1, h.2.2.trans (hb.mono h.2.2.size)⟩) (⟨k1.drew, hcb, (Below.refl _ _).drew⟩) (fun x => ?_)
      refine obs_step (Eq.trans (by simp only [List.getElem?_toArray, List.getElem?_cons_zero]; exact rfl) rfl) rfl (fun w' hS hV K hK => ?_) ?_
      · obtain ⟨q0, q1, q2⟩ := hS.1.three; have qb := hS.2.1
        go_simp
        exact hK.out _ _ _ rfl rfl rfl (Below.refl _ _)
      simp only [List.setIfInBounds_toArray, List.set_cons_zero, List.set_cons_succ]
      refine obs_step (Eq.trans (by simp only [List.getElem?_toArray, List.getElem?_cons_succ, List.getElem?_cons_zero]; exact rfl) rfl) rfl (fun w' hS hV K hK => ?_) ?_
      · have e0 : x 0 = (.pointer (some ⟨g, 0, none⟩)) := hV 0 (by decide)
        obtain ⟨q0, q1, q2⟩ := hS.1.three; have qb := hS.2.1
        go_simp
        exact hK.out _ _ _ rfl rfl rfl (Below.refl _ _)
      simp only [List.setIfInBounds_toArray, List.set_cons_zero, List.set_cons_succ]
      refine obs_step (Eq.trans (by simp only [List.getElem?_toArray, List.getElem?_cons_succ, List.getElem?_cons_zero]; exact rfl) rfl) rfl (fun w' hS hV K hK => ?_) ?_
      · have e0 : x 0 = (.pointer (some ⟨g, 0, none⟩)) := hV 0 (by decide)
        have e1 : x 1 = (.pointer (some ⟨g, 0, none⟩)) := hV 1 (by decide)
        obtain ⟨q0, q1, q2⟩ := hS.1.three; have qb := hS.2.1
        go_simp
        exact hK.out _ _ _ rfl rfl rfl (Below.refl _ _)
      simp only [List.setIfInBounds_toArray, List.set_cons_zero, List.set_cons_succ]
      refine obs_step (Eq.trans (by simp only [List.getElem?_toArray, List.getElem?_cons_succ, List.getElem?_cons_zero]; exact rfl) rfl) rfl (fun w' hS hV K hK => ?_) ?_
      · have e0 : x 0 = (.pointer (some ⟨g, 0, none⟩)) := hV 0 (by decide)
        have e1 : x 1 = (.pointer (some ⟨g, 0, none⟩)) := hV 1 (by decide)
        have e2 : x 2 = (.pointer (some ⟨g, 1, none⟩)) := hV 2 (by decide)
        obtain ⟨q0, q1, q2⟩ := hS.1.three; have qb := hS.2.1
        go_simp
        exact hK.out _ _ _ rfl rfl rfl (Below.refl _ _)
      simp only [List.setIfInBounds_toArray, List.set_cons_zero, List.set_cons_succ]
      refine obs_step (Eq.trans (by simp only [List.getElem?_toArray, List.getElem?_cons_succ, List.getElem?_cons_zero]; exact rfl) rfl) rfl (fun w' hS hV K hK => ?_) ?_
      · obtain ⟨q0, q1, q2⟩ := hS.1.three; have qb := hS.2.1
        go_simp
        exact hK.out _ _ _ rfl rfl rfl (Below.refl _ _)
      simp only [List.setIfInBounds_toArray, List.set_cons_zero, List.set_cons_succ]
      refine obs_step (Eq.trans (by simp only [List.getElem?_toArray, List.getElem?_cons_succ, List.getElem?_cons_zero]; exact rfl) rfl) rfl (fun w' hS hV K hK => ?_) ?_
      · have e4 : x 4 = (.pointer (some ⟨g, 0, none⟩)) := hV 4 (by decide)
        obtain ⟨q0, q1, q2⟩ := hS.1.three; have qb := hS.2.1
        go_simp
        exact hK.out _ _ _ rfl rfl rfl (Below.refl _ _)
      simp only [List.setIfInBounds_toArray, List.set_cons_zero, List.set_cons_succ]
      refine obs_step (Eq.trans (by simp only [List.getElem?_toArray, List.getElem?_cons_succ, List.getElem?_cons_zero]; exact rfl) rfl) rfl (fun w' hS hV K hK => ?_) ?_
      · have e4 : x 4 = (.pointer (some ⟨g, 0, none⟩)) := hV 4 (by decide)
        have e5 : x 5 = (.pointer (some ⟨g, 0, none⟩)) := hV 5 (by decide)
        obtain ⟨q0, q1, q2⟩ := hS.1.three; have qb := hS.2.1
        go_simp
        exact hK.out _ _ _ rfl rfl rfl (Below.refl _ _)
      simp only [List.setIfInBounds_toArray, List.set_cons_zero, List.set_cons_succ]
      refine obs_step (Eq.trans (by simp only [List.getElem?_toArray, List.getElem?_cons_succ, List.getElem?_cons_zero]; exact rfl) rfl) rfl (fun w' hS hV K hK => ?_) ?_
      · have e4 : x 4 = (.pointer (some ⟨g, 0, none⟩)) := hV 4 (by decide)
        have e5 : x 5 = (.pointer (some ⟨g, 0, none⟩)) := hV 5 (by decide)
        have e6 : x 6 = (.pointer (some ⟨g, 0, none⟩)) := hV 6 (by decide)
        obtain ⟨q0, q1, q2⟩ := hS.1.three; have qb := hS.2.1
        go_simp
        exact hK.out _ _ _ rfl rfl rfl (Below.refl _ _)
      simp only [List.setIfInBounds_toArray, List.set_cons_zero, List.set_cons_succ]
      refine obs_step (Eq.trans (by simp only [List.getElem?_toArray, List.getElem?_cons_succ, List.getElem?_cons_zero]; exact rfl) rfl) rfl (fun w' hS hV K hK => ?_) ?_
      · have e4 : x 4 = (.pointer (some ⟨g, 0, none⟩)) := hV 4 (by decide)
        have e5 : x 5 = (.pointer (some ⟨g, 0, none⟩)) := hV 5 (by decide)
        have e6 : x 6 = (.pointer (some ⟨g, 0, none⟩)) := hV 6 (by decide)
        have e7 : x 7 = (.slice (some ⟨gb, ob, none⟩) nb cb) := hV 7 (by decide)
        obtain ⟨q0, q1, q2⟩ := hS.1.three; have qb := hS.2.1
        go_simp
        exact hK.out _ _ _ rfl rfl rfl (Below.refl _ _)
      simp only [List.setIfInBounds_toArray, List.set_cons_zero, List.set_cons_succ]
      refine obs_step (Eq.trans (by simp only [List.getElem?_toArray, List.getElem?_cons_succ, List.getElem?_cons_zero]; exact rfl) rfl) rfl (fun w' hS hV K hK => ?_) ?_
      · have e0 : x 0 = (.pointer (some ⟨g, 0, none⟩)) := hV 0 (by decide)
        have e1 : x 1 = (.pointer (some ⟨g, 0, none⟩)) := hV 1 (by decide)
        have e2 : x 2 = (.pointer (some ⟨g, 1, none⟩)) := hV 2 (by decide)
        have e3 : x 3 = (.int .i64 (pl)) := hV 3 (by decide)
        have e4 : x 4 = (.pointer (some ⟨g, 0, none⟩)) := hV 4 (by decide)
        have e5 : x 5 = (.pointer (some ⟨g, 0, none⟩)) := hV 5 (by decide)
        have e6 : x 6 = (.pointer (some ⟨g, 0, none⟩)) := hV 6 (by decide)
        have e7 : x 7 = (.slice (some ⟨gb, ob, none⟩) nb cb) := hV 7 (by decide)
        have e8 : x 8 = (.int .i64 (nb)) := hV 8 (by decide)
        obtain ⟨q0, q1, q2⟩ := hS.1.three; have qb := hS.2.1
        go_simp
        exact hK.out _ _ _ rfl rfl rfl (Below.refl _ _)
      simp only [List.setIfInBounds_toArray, List.set_cons_zero, List.set_cons_succ]
      refine fun w' hS hV => ?_
      have e0 : x 0 = (.pointer (some ⟨g, 0, none⟩)) := hV 0 (by decide)
      have e1 : x 1 = (.pointer (some ⟨g, 0, none⟩)) := hV 1 (by decide)
      have e2 : x 2 = (.pointer (some ⟨g, 1, none⟩)) := hV 2 (by decide)
      have e3 : x 3 = (.int .i64 (pl)) := hV 3 (by decide)
      have e4 : x 4 = (.pointer (some ⟨g, 0, none⟩)) := hV 4 (by decide)
      have e5 : x 5 = (.pointer (some ⟨g, 0, none⟩)) := hV 5 (by decide)
      have e6 : x 6 = (.pointer (some ⟨g, 0, none⟩)) := hV 6 (by decide)
      have e7 : x 7 = (.slice (some ⟨gb, ob, none⟩) nb cb) := hV 7 (by decide)
      have e8 : x 8 = (.int .i64 (nb)) := hV 8 (by decide)
      have e9 : x 9 = (.bool true) := hV 9 (by decide)
      simp only [e0, e1, e2, e3, e4, e5, e6, e7, e8, e9]
      clear e0 e1 e2 e3 e4 e5 e6 e7 e8 e9
      refine wpAny_done (by kernel_rfl) ?_ _
      obtain ⟨w2, rfl⟩ : ∃ W, W = w' := ⟨_, rfl⟩
      obtain ⟨k2, hcb2, hb2⟩ := hS
      have HR2 := Lib.hid (HR1.out.below hb2)
      have HD2 := Lib.hid (HD.out.trans (Dr.of_below HD.out.s' hb2))
      clear k1 hcb hb2
      go_wp2
      refine wp_obs 13 [[], [], [1], [1, 2], [1, 2, 3], [], [5], [5, 6], [5, 6, 7], [1, 2, 3, 4, 5, 6, 7, 8], [1, 2, 3, 4, 5, 6, 7, 8, 9], [1, 2, 3, 4, 5, 6, 7, 8, 9, 10], [0, 1, 2, 3, 4, 5, 6, 7, 8, 9, 10, 11], [0, 1, 2, 3, 4, 5, 6, 7, 8, 9, 10, 11, 12]] [VIs (.int .i64 (X)), VIs (.pointer (some ⟨g, 0, none⟩)), VIs (.pointer (some ⟨g, 0, none⟩)), VIs (.pointer (some ⟨g, 0, none⟩)), VIs (.slice (some ⟨gb, ob, none⟩) nb cb), VIs (.pointer (some ⟨g, 0, none⟩)), VIs (.pointer (some ⟨g, 0, none⟩)), VIs (.pointer (some ⟨g, 1, none⟩)), VIs (.int .i64 (pl)), VIs (.pointer (some ⟨gb, ob + pl, none⟩)), VIs (.int .u8 bb), VIs (.int .i64 (bb)), VIs (.int .i64 (X + bb))] (fun w' => Blk w' g 121 #[.slice (some ⟨gb, ob, none⟩) nb cb, .int .i64 pl, .int .u64 H] ∧ w'.cell? ⟨gb, ob + pl, none⟩ = some (.int .u8 bb) ∧ Below w2.heap.size w2 w') (by kernel_rfl) (by kernel_rfl) (fun _ _ h hb => ⟨h.1.below hb h.1.lt, (hb.cell (World.block_lt_of_cell? _ _ h.2.1)).trans h.2.1, h.2.2.trans (hb.mono h.2.2.size)⟩) (⟨k2.drew, hcb2, (Below.refl _ _).drew⟩) (fun x => ?_)
      refine obs_step (Eq.trans (by simp only [List.getElem?_toArray, List.getElem?_cons_zero]; exact rfl) rfl) rfl (fun w' hS hV K hK => ?_) ?_
      · obtain ⟨q0, q1, q2⟩ := hS.1.three; have qb := hS.2.1
        go_simp
        exact hK.out _ _ _ rfl rfl rfl (Below.refl _ _)
      simp only [List.setIfInBounds_toArray, List.set_cons_zero, List.set_cons_succ]
      refine obs_step (Eq.trans (by simp only [List.getElem?_toArray, List.getElem?_cons_succ, List.getElem?_cons_zero]; exact rfl) rfl) rfl (fun w' hS hV K hK => ?_) ?_
      · obtain ⟨q0, q1, q2⟩ := hS.1.three; have qb := hS.2.1
        go_simp
        exact hK.out _ _ _ rfl rfl rfl (Below.refl _ _)
      simp only [List.setIfInBounds_toArray, List.set_cons_zero, List.set_cons_succ]
      refine obs_step (Eq.trans (by simp only [List.getElem?_toArray, List.getElem?_cons_succ, List.getElem?_cons_zero]; exact rfl) rfl) rfl (fun w' hS hV K hK => ?_) ?_
      · have e1 : x 1 = (.pointer (some ⟨g, 0, none⟩)) := hV 1 (by decide)
        obtain ⟨q0, q1, q2⟩ := hS.1.three; have qb := hS.2.1
        go_simp
        exact hK.out _ _ _ rfl rfl rfl (Below.refl _ _)
      simp only [List.setIfInBounds_toArray, List.set_cons_zero, List.set_cons_succ]
      refine obs_step (Eq.trans (by simp only [List.getElem?_toArray, List.getElem?_cons_succ, List.getElem?_cons_zero]; exact rfl) rfl) rfl (fun w' hS hV K hK => ?_) ?_
      · have e1 : x 1 = (.pointer (some ⟨g, 0, none⟩)) := hV 1 (by decide)
        have e2 : x 2 = (.pointer (some ⟨g, 0, none⟩)) := hV 2 (by decide)
        obtain ⟨q0, q1, q2⟩ := hS.1.three; have qb := hS.2.1
        go_simp
        exact hK.out _ _ _ rfl rfl rfl (Below.refl _ _)
      simp only [List.setIfInBounds_toArray, List.set_cons_zero, List.set_cons_succ]
      refine obs_step (Eq.trans (by simp only [List.getElem?_toArray, List.getElem?_cons_succ, List.getElem?_cons_zero]; exact rfl) rfl) rfl (fun w' hS hV K hK => ?_) ?_
      · have e1 : x 1 = (.pointer (some ⟨g, 0, none⟩)) := hV 1 (by decide)
        have e2 : x 2 = (.pointer (some ⟨g, 0, none⟩)) := hV 2 (by decide)
        have e3 : x 3 = (.pointer (some ⟨g, 0, none⟩)) := hV 3 (by decide)
        obtain ⟨q0, q1, q2⟩ := hS.1.three; have qb := hS.2.1
        go_simp
        exact hK.out _ _ _ rfl rfl rfl (Below.refl _ _)
      simp only [List.setIfInBounds_toArray, List.set_cons_zero, List.set_cons_succ]
      refine obs_step (Eq.trans (by simp only [List.getElem?_toArray, List.getElem?_cons_succ, List.getElem?_cons_zero]; exact rfl) rfl) rfl (fun w' hS hV K hK => ?_) ?_
      · obtain ⟨q0, q1, q2⟩ := hS.1.three; have qb := hS.2.1
        go_simp
        exact hK.out _ _ _ rfl rfl rfl (Below.refl _ _)
      simp only [List.setIfInBounds_toArray, List.set_cons_zero, List.set_cons_succ]
      refine obs_step (Eq.trans (by simp only [List.getElem?_toArray, List.getElem?_cons_succ, List.getElem?_cons_zero]; exact rfl) rfl) rfl (fun w' hS hV K hK => ?_) ?_
      · have e5 : x 5 = (.pointer (some ⟨g, 0, none⟩)) := hV 5 (by decide)
        obtain ⟨q0, q1, q2⟩ := hS.1.three; have qb := hS.2.1
        go_simp
        exact hK.out _ _ _ rfl rfl rfl (Below.refl _ _)
      simp only [List.setIfInBounds_toArray, List.set_cons_zero, List.set_cons_succ]
      refine obs_step (Eq.trans (by simp only [List.getElem?_toArray, List.getElem?_cons_succ, List.getElem?_cons_zero]; exact rfl) rfl) rfl (fun w' hS hV K hK => ?_) ?_
      · have e5 : x 5 = (.pointer (some ⟨g, 0, none⟩)) := hV 5 (by decide)
        have e6 : x 6 = (.pointer (some ⟨g, 0, none⟩)) := hV 6 (by decide)
        obtain ⟨q0, q1, q2⟩ := hS.1.three; have qb := hS.2.1
        go_simp
        exact hK.out _ _ _ rfl rfl rfl (Below.refl _ _)
      simp only [List.setIfInBounds_toArray, List.set_cons_zero, List.set_cons_succ]
      refine obs_step (Eq.trans (by simp only [List.getElem?_toArray, List.getElem?_cons_succ, List.getElem?_cons_zero]; exact rfl) rfl) rfl (fun w' hS hV K hK => ?_) ?_
      · have e5 : x 5 = (.pointer (some ⟨g, 0, none⟩)) := hV 5 (by decide)
        have e6 : x 6 = (.pointer (some ⟨g, 0, none⟩)) := hV 6 (by decide)
        have e7 : x 7 = (.pointer (some ⟨g, 1, none⟩)) := hV 7 (by decide)
        obtain ⟨q0, q1, q2⟩ := hS.1.three; have qb := hS.2.1
        go_simp
        exact hK.out _ _ _ rfl rfl rfl (Below.refl _ _)
      simp only [List.setIfInBounds_toArray, List.set_cons_zero, List.set_cons_succ]
      refine obs_step (Eq.trans (by simp only [List.getElem?_toArray, List.getElem?_cons_succ, List.getElem?_cons_zero]; exact rfl) rfl) rfl (fun w' hS hV K hK => ?_) ?_
      · have e1 : x 1 = (.pointer (some ⟨g, 0, none⟩)) := hV 1 (by decide)
        have e2 : x 2 = (.pointer (some ⟨g, 0, none⟩)) := hV 2 (by decide)
        have e3 : x 3 = (.pointer (some ⟨g, 0, none⟩)) := hV 3 (by decide)
        have e4 : x 4 = (.slice (some ⟨gb, ob, none⟩) nb cb) := hV 4 (by decide)
        have e5 : x 5 = (.pointer (some ⟨g, 0, none⟩)) := hV 5 (by decide)
        have e6 : x 6 = (.pointer (some ⟨g, 0, none⟩)) := hV 6 (by decide)
        have e7 : x 7 = (.pointer (some ⟨g, 1, none⟩)) := hV 7 (by decide)
        have e8 : x 8 = (.int .i64 (pl)) := hV 8 (by decide)
        obtain ⟨q0, q1, q2⟩ := hS.1.three; have qb := hS.2.1
        go_simp
        exact hK.out _ _ _ rfl rfl rfl (Below.refl _ _)
      simp only [List.setIfInBounds_toArray, List.set_cons_zero, List.set_cons_succ]
      refine obs_step (Eq.trans (by simp only [List.getElem?_toArray, List.getElem?_cons_succ, List.getElem?_cons_zero]; exact rfl) rfl) rfl (fun w' hS hV K hK => ?_) ?_
      · have e1 : x 1 = (.pointer (some ⟨g, 0, none⟩)) := hV 1 (by decide)
        have e2 : x 2 = (.pointer (some ⟨g, 0, none⟩)) := hV 2 (by decide)
        have e3 : x 3 = (.pointer (some ⟨g, 0, none⟩)) := hV 3 (by decide)
        have e4 : x 4 = (.slice (some ⟨gb, ob, none⟩) nb cb) := hV 4 (by decide)
        have e5 : x 5 = (.pointer (some ⟨g, 0, none⟩)) := hV 5 (by decide)
        have e6 : x 6 = (.pointer (some ⟨g, 0, none⟩)) := hV 6 (by decide)
        have e7 : x 7 = (.pointer (some ⟨g, 1, none⟩)) := hV 7 (by decide)
        have e8 : x 8 = (.int .i64 (pl)) := hV 8 (by decide)
        have e9 : x 9 = (.pointer (some ⟨gb, ob + pl, none⟩)) := hV 9 (by decide)
        obtain ⟨q0, q1, q2⟩ := hS.1.three; have qb := hS.2.1
        go_simp
        exact hK.out _ _ _ rfl rfl rfl (Below.refl _ _)
      simp only [List.setIfInBounds_toArray, List.set_cons_zero, List.set_cons_succ]
      refine obs_step (Eq.trans (by simp only [List.getElem?_toArray, List.getElem?_cons_succ, List.getElem?_cons_zero]; exact rfl) rfl) rfl (fun w' hS hV K hK => ?_) ?_
      · have e1 : x 1 = (.pointer (some ⟨g, 0, none⟩)) := hV 1 (by decide)
        have e2 : x 2 = (.pointer (some ⟨g, 0, none⟩)) := hV 2 (by decide)
        have e3 : x 3 = (.pointer (some ⟨g, 0, none⟩)) := hV 3 (by decide)
        have e4 : x 4 = (.slice (some ⟨gb, ob, none⟩) nb cb) := hV 4 (by decide)
        have e5 : x 5 = (.pointer (some ⟨g, 0, none⟩)) := hV 5 (by decide)
        have e6 : x 6 = (.pointer (some ⟨g, 0, none⟩)) := hV 6 (by decide)
        have e7 : x 7 = (.pointer (some ⟨g, 1, none⟩)) := hV 7 (by decide)
        have e8 : x 8 = (.int .i64 (pl)) := hV 8 (by decide)
        have e9 : x 9 = (.pointer (some ⟨gb, ob + pl, none⟩)) := hV 9 (by decide)
        have e10 : x 10 = (.int .u8 bb) := hV 10 (by decide)
        obtain ⟨q0, q1, q2⟩ := hS.1.three; have qb := hS.2.1
        go_simp
        exact hK.out _ _ _ rfl rfl rfl (Below.refl _ _)
      simp only [List.setIfInBounds_toArray, List.set_cons_zero, List.set_cons_succ]
      refine obs_step (Eq.trans (by simp only [List.getElem?_toArray, List.getElem?_cons_succ, List.getElem?_cons_zero]; exact rfl) rfl) rfl (fun w' hS hV K hK => ?_) ?_
      · have e0 : x 0 = (.int .i64 (X)) := hV 0 (by decide)
        have e1 : x 1 = (.pointer (some ⟨g, 0, none⟩)) := hV 1 (by decide)
        have e2 : x 2 = (.pointer (some ⟨g, 0, none⟩)) := hV 2 (by decide)
        have e3 : x 3 = (.pointer (some ⟨g, 0, none⟩)) := hV 3 (by decide)
        have e4 : x 4 = (.slice (some ⟨gb, ob, none⟩) nb cb) := hV 4 (by decide)
        have e5 : x 5 = (.pointer (some ⟨g, 0, none⟩)) := hV 5 (by decide)
        have e6 : x 6 = (.pointer (some ⟨g, 0, none⟩)) := hV 6 (by decide)
        have e7 : x 7 = (.pointer (some ⟨g, 1, none⟩)) := hV 7 (by decide)
        have e8 : x 8 = (.int .i64 (pl)) := hV 8 (by decide)
        have e9 : x 9 = (.pointer (some ⟨gb, ob + pl, none⟩)) := hV 9 (by decide)
        have e10 : x 10 = (.int .u8 bb) := hV 10 (by decide)
        have e11 : x 11 = (.int .i64 (bb)) := hV 11 (by decide)
        obtain ⟨q0, q1, q2⟩ := hS.1.three; have qb := hS.2.1
        go_simp
        exact hK.out _ _ _ rfl rfl rfl (Below.refl _ _)
      simp only [List.setIfInBounds_toArray, List.set_cons_zero, List.set_cons_succ]
      refine fun w' hS hV => ?_
      have e0 : x 0 = (.int .i64 (X)) := hV 0 (by decide)
      have e1 : x 1 = (.pointer (some ⟨g, 0, none⟩)) := hV 1 (by decide)
      have e2 : x 2 = (.pointer (some ⟨g, 0, none⟩)) := hV 2 (by decide)
      have e3 : x 3 = (.pointer (some ⟨g, 0, none⟩)) := hV 3 (by decide)
      have e4 : x 4 = (.slice (some ⟨gb, ob, none⟩) nb cb) := hV 4 (by decide)
      have e5 : x 5 = (.pointer (some ⟨g, 0, none⟩)) := hV 5 (by decide)
      have e6 : x 6 = (.pointer (some ⟨g, 0, none⟩)) := hV 6 (by decide)
      have e7 : x 7 = (.pointer (some ⟨g, 1, none⟩)) := hV 7 (by decide)
      have e8 : x 8 = (.int .i64 (pl)) := hV 8 (by decide)
      have e9 : x 9 = (.pointer (some ⟨gb, ob + pl, none⟩)) := hV 9 (by decide)
      have e10 : x 10 = (.int .u8 bb) := hV 10 (by decide)
      have e11 : x 11 = (.int .i64 (bb)) := hV 11 (by decide)
      have e12 : x 12 = (.int .i64 (X + bb)) := hV 12 (by decide)
      simp only [e0, e1, e2, e3, e4, e5, e6, e7, e8, e9, e10, e11, e12]
      clear e0 e1 e2 e3 e4 e5 e6 e7 e8 e9 e10 e11 e12
      refine any_one (j := 13) (by kernel_rfl) (Eq.trans (by simp only [List.getElem?_toArray, List.getElem?_cons_succ, List.getElem?_cons_zero]; exact rfl) rfl) (fun K hK => ?_)
      go_simp
      refine hK.out _ _ (wpAny_done (by kernel_rfl) ?_ _)
      obtain ⟨w3, rfl⟩ : ∃ W, W = w' := ⟨_, rfl⟩
      obtain ⟨k3, hcb3, hb3⟩ := hS
      have HR3 := Lib.hid (HR2.out.below hb3)
      have HD3 := Lib.hid (HD2.out.trans (Dr.of_below HD2.out.s' hb3))
      obtain ⟨hd4, k4, r4⟩ := Dr.set k3 HR3.out HBS.out hpl hnb HBG.out 1 (.int .i64 ((pl + 1 : Nat) : Int)) (pl' := pl + 1) (h' := H) (by simp) hpn
      have HD4 := Lib.hid (HD3.out.trans hd4)
      have q1 : w3.cell? ⟨g, 1, none⟩ = some (.int .i64 pl) := k3.cell 1
      have f1 := k3.frozen 1
      clear k2 hcb2 hb3 hd4 k4 r4
      go_wp2
      go_ret
      refine ⟨(X + bb) % n, rfl, Int.emod_nonneg _ hN2, fun hn => Int.emod_lt_of_pos _ (by omega), ?_⟩
      first
        | exact HD4.out
        | (rw [W5]; exact HD4.out)
    · have dl : decide ((pl : Int) < (nb : Int)) = false := by simp; omega
      have T1 := Int.tmod_eq_emod_of_nonneg (b := n) (show 0 ≤ X by omega)
      clear hbs r1
      go_wp2
      refine wp_obs 10 [[], [0], [0, 1], [0, 1, 2], [], [4], [4, 5], [4, 5, 6], [4, 5, 6, 7], [0, 1, 2, 3, 4, 5, 6, 7, 8]] [VIs (.pointer (some ⟨g, 0, none⟩)), VIs (.pointer (some ⟨g, 0, none⟩)), VIs (.pointer (some ⟨g, 1, none⟩)), VIs (.int .i64 (pl)), VIs (.pointer (some ⟨g, 0, none⟩)), VIs (.pointer (some ⟨g, 0, none⟩)), VIs (.pointer (some ⟨g, 0, none⟩)), VIs (.slice B nb cb), VIs (.int .i64 (nb)), VIs (.bool false)] (fun w' => Blk w' g 121 #[.slice B nb cb, .int .i64 pl, .int .u64 H] ∧ Below w1.heap.size w1 w') (by kernel_rfl) (by kernel_rfl) (fun _ _ h hb => ⟨h.1.below hb h.1.lt, h.2.trans (hb.mono h.2.size)⟩) (⟨k1.drew, (Below.refl _ _).drew⟩) (fun x => ?_)
      refine obs_step (Eq.trans (by simp only [List.getElem?_toArray, List.getElem?_cons_zero]; exact rfl) rfl) rfl (fun w' hS hV K hK => ?_) ?_
      · obtain ⟨q0, q1, q2⟩ := hS.1.three
        go_simp
        exact hK.out _ _ _ rfl rfl rfl (Below.refl _ _)
      simp only [List.setIfInBounds_toArray, List.set_cons_zero, List.set_cons_succ]
      refine obs_step (Eq.trans (by simp only [List.getElem?_toArray, List.getElem?_cons_succ, List.getElem?_cons_zero]; exact rfl) rfl) rfl (fun w' hS hV K hK => ?_) ?_
      · have e0 : x 0 = (.pointer (some ⟨g, 0, none⟩)) := hV 0 (by decide)
        obtain ⟨q0, q1, q2⟩ := hS.1.three
        go_simp
        exact hK.out _ _ _ rfl rfl rfl (Below.refl _ _)
      simp only [List.setIfInBounds_toArray, List.set_cons_zero, List.set_cons_succ]
      refine obs_step (Eq.trans (by simp only [List.getElem?_toArray, List.getElem?_cons_succ, List.getElem?_cons_zero]; exact rfl) rfl) rfl (fun w' hS hV K hK => ?_) ?_
      · have e0 : x 0 = (.pointer (some ⟨g, 0, none⟩)) := hV 0 (by decide)
        have e1 : x 1 = (.pointer (some ⟨g, 0, none⟩)) := hV 1 (by decide)
        obtain ⟨q0, q1, q2⟩ := hS.1.three
        go_simp
        exact hK.out _ _ _ rfl rfl rfl (Below.refl _ _)
      simp only [List.setIfInBounds_toArray, List.set_cons_zero, List.set_cons_succ]
      refine obs_step (Eq.trans (by simp only [List.getElem?_toArray, List.getElem?_cons_succ, List.getElem?_cons_zero]; exact rfl) rfl) rfl (fun w' hS hV K hK => ?_) ?_
      · have e0 : x 0 = (.pointer (some ⟨g, 0, none⟩)) := hV 0 (by decide)
        have e1 : x 1 = (.pointer (some ⟨g, 0, none⟩)) := hV 1 (by decide)
        have e2 : x 2 = (.pointer (some ⟨g, 1, none⟩)) := hV 2 (by decide)
        obtain ⟨q0, q1, q2⟩ := hS.1.three
        go_simp
        exact hK.out _ _ _ rfl rfl rfl (Below.refl _ _)
      simp only [List.setIfInBounds_toArray, List.set_cons_zero, List.set_cons_succ]
      refine obs_step (Eq.trans (by simp only [List.getElem?_toArray, List.getElem?_cons_succ, List.getElem?_cons_zero]; exact rfl) rfl) rfl (fun w' hS hV K hK => ?_) ?_
      · obtain ⟨q0, q1, q2⟩ := hS.1.three
        go_simp
        exact hK.out _ _ _ rfl rfl rfl (Below.refl _ _)
      simp only [List.setIfInBounds_toArray, List.set_cons_zero, List.set_cons_succ]
      refine obs_step (Eq.trans (by simp only [List.getElem?_toArray, List.getElem?_cons_succ, List.getElem?_cons_zero]; exact rfl) rfl) rfl (fun w' hS hV K hK => ?_) ?_
      · have e4 : x 4 = (.pointer (some ⟨g, 0, none⟩)) := hV 4 (by decide)
        obtain ⟨q0, q1, q2⟩ := hS.1.three
        go_simp
        exact hK.out _ _ _ rfl rfl rfl (Below.refl _ _)
      simp only [List.setIfInBounds_toArray, List.set_cons_zero, List.set_cons_succ]
      refine obs_step (Eq.trans (by simp only [List.getElem?_toArray, List.getElem?_cons_succ, List.getElem?_cons_zero]; exact rfl) rfl) rfl (fun w' hS hV K hK => ?_) ?_
      · have e4 : x 4 = (.pointer (some ⟨g, 0, none⟩)) := hV 4 (by decide)
        have e5 : x 5 = (.pointer (some ⟨g, 0, none⟩)) := hV 5 (by decide)
        obtain ⟨q0, q1, q2⟩ := hS.1.three
        go_simp
        exact hK.out _ _ _ rfl rfl rfl (Below.refl _ _)
      simp only [List.setIfInBounds_toArray, List.set_cons_zero, List.set_cons_succ]
      refine obs_step (Eq.trans (by simp only [List.getElem?_toArray, List.getElem?_cons_succ, List.getElem?_cons_zero]; exact rfl) rfl) rfl (fun w' hS hV K hK => ?_) ?_
      · have e4 : x 4 = (.pointer (some ⟨g, 0, none⟩)) := hV 4 (by decide)
        have e5 : x 5 = (.pointer (some ⟨g, 0, none⟩)) := hV 5 (by decide)
        have e6 : x 6 = (.pointer (some ⟨g, 0, none⟩)) := hV 6 (by decide)
        obtain ⟨q0, q1, q2⟩ := hS.1.three
        go_simp
        exact hK.out _ _ _ rfl rfl rfl (Below.refl _ _)
      simp only [List.setIfInBounds_toArray, List.set_cons_zero, List.set_cons_succ]
      refine obs_step (Eq.trans (by simp only [List.getElem?_toArray, List.getElem?_cons_succ, List.getElem?_cons_zero]; exact rfl) rfl) rfl (fun w' hS hV K hK => ?_) ?_
      · have e4 : x 4 = (.pointer (some ⟨g, 0, none⟩)) := hV 4 (by decide)
        have e5 : x 5 = (.pointer (some ⟨g, 0, none⟩)) := hV 5 (by decide)
        have e6 : x 6 = (.pointer (some ⟨g, 0, none⟩)) := hV 6 (by decide)
        have e7 : x 7 = (.slice B nb cb) := hV 7 (by decide)
        obtain ⟨q0, q1, q2⟩ := hS.1.three
        go_simp
        exact hK.out _ _ _ rfl rfl rfl (Below.refl _ _)
      simp only [List.setIfInBounds_toArray, List.set_cons_zero, List.set_cons_succ]
      refine obs_step (Eq.trans (by simp only [List.getElem?_toArray, List.getElem?_cons_succ, List.getElem?_cons_zero]; exact rfl) rfl) rfl (fun w' hS hV K hK => ?_) ?_
      · have e0 : x 0 = (.pointer (some ⟨g, 0, none⟩)) := hV 0 (by decide)
        have e1 : x 1 = (.pointer (some ⟨g, 0, none⟩)) := hV 1 (by decide)
        have e2 : x 2 = (.pointer (some ⟨g, 1, none⟩)) := hV 2 (by decide)
        have e3 : x 3 = (.int .i64 (pl)) := hV 3 (by decide)
        have e4 : x 4 = (.pointer (some ⟨g, 0, none⟩)) := hV 4 (by decide)
        have e5 : x 5 = (.pointer (some ⟨g, 0, none⟩)) := hV 5 (by decide)
        have e6 : x 6 = (.pointer (some ⟨g, 0, none⟩)) := hV 6 (by decide)
        have e7 : x 7 = (.slice B nb cb) := hV 7 (by decide)
        have e8 : x 8 = (.int .i64 (nb)) := hV 8 (by decide)
        obtain ⟨q0, q1, q2⟩ := hS.1.three
        go_simp
        exact hK.out _ _ _ rfl rfl rfl (Below.refl _ _)
      simp only [List.setIfInBounds_toArray, List.set_cons_zero, List.set_cons_succ]
      refine fun w' hS hV => ?_
      have e0 : x 0 = (.pointer (some ⟨g, 0, none⟩)) := hV 0 (by decide)
      have e1 : x 1 = (.pointer (some ⟨g, 0, none⟩)) := hV 1 (by decide)
      have e2 : x 2 = (.pointer (some ⟨g, 1, none⟩)) := hV 2 (by decide)
      have e3 : x 3 = (.int .i64 (pl)) := hV 3 (by decide)
      have e4 : x 4 = (.pointer (some ⟨g, 0, none⟩)) := hV 4 (by decide)
      have e5 : x 5 = (.pointer (some ⟨g, 0, none⟩)) := hV 5 (by decide)
      have e6 : x 6 = (.pointer (some ⟨g, 0, none⟩)) := hV 6 (by decide)
      have e7 : x 7 = (.slice B nb cb) := hV 7 (by decide)
      have e8 : x 8 = (.int .i64 (nb)) := hV 8 (by decide)
      have e9 : x 9 = (.bool false) := hV 9 (by decide)
      simp only [e0, e1, e2, e3, e4, e5, e6, e7, e8, e9]
      clear e0 e1 e2 e3 e4 e5 e6 e7 e8 e9
      refine wpAny_done (by kernel_rfl) ?_ _
      obtain ⟨w2, rfl⟩ : ∃ W, W = w' := ⟨_, rfl⟩
      obtain ⟨k2, hb2⟩ := hS
      have HD2 := Lib.hid (HD.out.trans (Dr.of_below HD.out.s' hb2))
      clear k1 hb2 k2
      go_wp2
      go_ret
      exact ⟨X % n, rfl, Int.emod_nonneg _ hN2, fun hn => Int.emod_lt_of_pos _ (by omega), HD2.out⟩
set_option maxHeartbeats 1600000 in
set_option maxRecDepth 8000 in
theorem below_any (g : Nat) (n : Int) (w : World) (hs : Src w g 98) (hn : n ≤ 4611686018427387904) :
    Calls Tryz.prog 81 #[.pointer (some ⟨g, 0, none⟩), .int .i64 n] w fun e w' => ∃ r : Int, e = .returned (.int .i64 r) ∧ 0 ≤ r ∧ (1 ≤ n → r < n) ∧ Dr g 98 w w' := by
  by_cases h1 : n < 1
  · have d1 : decide (n < 1) = true := by simpa using h1
    go_enter Tryz.func81, Tryz.ntmps81
    go_wp2
    go_ret
    exact ⟨0, rfl, by omega, fun h => by omega, Dr.refl hs⟩
  · have d1 : decide (n < 1) = false := by simpa using h1
    obtain ⟨B, nb, cb, bs, pl, h, k, r, hbs, hpl, hnb, hbg⟩ := id hs
    have q0 : w.cell? ⟨g, 0, none⟩ = some (.slice B nb cb) := k.cell 0
    have q1 : w.cell? ⟨g, 1, none⟩ = some (.int .i64 pl) := k.cell 1
    have q2 : w.cell? ⟨g, 2, none⟩ = some (.int .u64 h) := k.cell 2
    have f2 := k.frozen 2
    go_enter Tryz.func81, Tryz.ntmps81
    go_wp2
    obtain ⟨H, hH⟩ : ∃ H, H = IntKind.u64.wrap (IntKind.u64.wrap (h * 6364136223846793005) + 1442695040888963407) := ⟨_, rfl⟩
    rw [← hH]
    have hsm := and_small (H / 8589934592)
    obtain ⟨X, hX⟩ : ∃ X, X = bits BinOp.and IntKind.u64 (H / 8589934592) 16777215 := ⟨_, rfl⟩
    rw [← hX] at hsm ⊢
    have W1 : wrap64 X = X := by unfold wrap64; omega
    rw [W1]
    obtain ⟨x1, x2⟩ := hsm
    obtain ⟨hd1, k1, r1⟩ := Dr.set k r hbs hpl hnb hbg 2 (.int .u64 H) (pl' := pl) (h' := H) (by simp) hpl
    clear q0 q1 q2 f2 hX
    obtain ⟨w1, hw1⟩ : ∃ W, W = w.setCell ⟨g, 2, none⟩ (.int .u64 H) := ⟨_, rfl⟩
    rw [← hw1] at k1 r1 hd1 ⊢
    have hN0 : (n == 0) = false := by simp; omega
    have hN1 : (n == -1) = false := by simp; omega
    have hN2 : ¬ n = 0 := by omega
    have HD := Lib.hid hd1
    have HBS := Lib.hid hbs
    have HBG := Lib.hid hbg
    have HR1 := Lib.hid r1
    clear hw1 hH hd1 r k hbg
    by_cases hpn : pl < nb
    · have dl : decide ((pl : Int) < (nb : Int)) = true := by simp; omega
      obtain ⟨gb, ob, rfl, hc⟩ := r1.2 (by omega)
      have hbl : pl < bs.length := by have := r1.1; rw [List.length_map] at this; omega
      have hcb := hc pl (.int .u8 bs[pl]) (by simp [hbl])
      obtain ⟨b1, b2⟩ := hbs _ (List.getElem_mem hbl)
      obtain ⟨bb, hbb⟩ : ∃ x, x = bs[pl] := ⟨_, rfl⟩
      rw [← hbb] at hcb b1 b2
      have i1 : (0 : Int) ≤ (pl : Int) := by omega
      have i2 : (pl : Int) < (nb : Int) := by omega
      have W2 : IntKind.i64.wrap bb = bb := by rw [IntWalk.i64_left]; unfold wrap64; omega
      have W4 : IntKind.i64.wrap (X + bb) = X + bb := by rw [IntWalk.i64_left]; unfold wrap64; omega
      have W5 : wrap64 ((pl : Int) + 1) = ((pl + 1 : Nat) : Int) := by unfold wrap64; omega
      have T1 := Int.tmod_eq_emod_of_nonneg (b := n) (show 0 ≤ X + bb by omega)
      clear hc hbs hbb r1
      go_wp2
      refine wp_obs 10 [[], [0], [0, 1], [0, 1, 2], [], [4], [4, 5], [4, 5, 6], [4, 5, 6, 7], [0, 1, 2, 3, 4, 5, 6, 7, 8]] [VIs (.pointer (some ⟨g, 0, none⟩)), VIs (.pointer (some ⟨g, 0, none⟩)), VIs (.pointer (some ⟨g, 1, none⟩)), VIs (.int .i64 (pl)), VIs (.pointer (some ⟨g, 0, none⟩)), VIs (.pointer (some ⟨g, 0, none⟩)), VIs (.pointer (some ⟨g, 0, none⟩)), VIs (.slice (some ⟨gb, ob, none⟩) nb cb), VIs (.int .i64 (nb)), VIs (.bool true)] (fun w' => Blk w' g 98 #[.slice (some ⟨gb, ob, none⟩) nb cb, .int .i64 pl, .int .u64 H] ∧ w'.cell? ⟨gb, ob + pl, none⟩ = some (.int .u8 bb) ∧ Below w1.heap.size w1 w') (by kernel_rfl) (by kernel_rfl) (fun _ _ h hb => ⟨h.1.below hb h.1.lt, (hb.cell (World.block_lt_of_cell? _ _ h.2.1)).trans h.2.1, h.2.2.trans (hb.mono h.2.2.size)⟩) (⟨k1.drew, hcb, (Below.refl _ _).drew⟩) (fun x => ?_)
      refine obs_step (Eq.trans (by simp only [List.getElem?_toArray, List.getElem?_cons_zero]; exact rfl) rfl) rfl (fun w' hS hV K hK => ?_) ?_
      · obtain ⟨q0, q1, q2⟩ := hS.1.three; have qb := hS.2.1
        go_simp
        exact hK.out _ _ _ rfl rfl rfl (Below.refl _ _)
      simp only [List.setIfInBounds_toArray, List.set_cons_zero, List.set_cons_succ]
      refine obs_step (Eq.trans (by simp only [List.getElem?_toArray, List.getElem?_cons_succ, List.getElem?_cons_zero]; exact rfl) rfl) rfl (fun w' hS hV K hK => ?_) ?_
      · have e0 : x 0 = (.pointer (some ⟨g, 0, none⟩)) := hV 0 (by decide)
        obtain ⟨q0, q1, q2⟩ := hS.1.three; have qb := hS.2.1
        go_simp
        exact hK.out _ _ _ rfl rfl rfl (Below.refl _ _)
      simp only [List.setIfInBounds_toArray, List.set_cons_zero, List.set_cons_succ]
      refine obs_step (Eq.trans (by simp only [List.getElem?_toArray, List.getElem?_cons_succ, List.getElem?_cons_zero]; exact rfl) rfl) rfl (fun w' hS hV K hK => ?_) ?_
      · have e0 : x 0 = (.pointer (some ⟨g, 0, none⟩)) := hV 0 (by decide)
        have e1 : x 1 = (.pointer (some ⟨g, 0, none⟩)) := hV 1 (by decide)
        obtain ⟨q0, q1, q2⟩ := hS.1.three; have qb := hS.2.1
        go_simp
        exact hK.out _ _ _ rfl rfl rfl (Below.refl _ _)
      simp only [List.setIfInBounds_toArray, List.set_cons_zero, List.set_cons_succ]
      refine obs_step (Eq.trans (by simp only [List.getElem?_toArray, List.getElem?_cons_succ, List.getElem?_cons_zero]; exact rfl) rfl) rfl (fun w' hS hV K hK => ?_) ?_
      · have e0 : x 0 = (.pointer (some ⟨g, 0, none⟩)) := hV 0 (by decide)
        have e1 : x 1 = (.pointer (some ⟨g, 0, none⟩)) := hV 1 (by decide)
        have e2 : x 2 = (.pointer (some ⟨g, 1, none⟩)) := hV 2 (by decide)
        obtain ⟨q0, q1, q2⟩ := hS.1.three; have qb := hS.2.1
        go_simp
        exact hK.out _ _ _ rfl rfl rfl (Below.refl _ _)
      simp only [List.setIfInBounds_toArray, List.set_cons_zero, List.set_cons_succ]
      refine obs_step (Eq.trans (by simp only [List.getElem?_toArray, List.getElem?_cons_succ, List.getElem?_cons_zero]; exact rfl) rfl) rfl (fun w' hS hV K hK => ?_) ?_
      · obtain ⟨q0, q1, q2⟩ := hS.1.three; have qb := hS.2.1
        go_simp
        exact hK.out _ _ _ rfl rfl rfl (Below.refl _ _)
      simp only [List.setIfInBounds_toArray, List.set_cons_zero, List.set_cons_succ]
      refine obs_step (Eq.trans (by simp only [List.getElem?_toArray, List.getElem?_cons_succ, List.getElem?_cons_zero]; exact rfl) rfl) rfl (fun w' hS hV K hK => ?_) ?_
      · have e4 : x 4 = (.pointer (some ⟨g, 0, none⟩)) := hV 4 (by decide)
        obtain ⟨q0, q1, q2⟩ := hS.1.three; have qb := hS.2.1
        go_simp
        exact hK.out _ _ _ rfl rfl rfl (Below.refl _ _)
      simp only [List.setIfInBounds_toArray, List.set_cons_zero, List.set_cons_succ]
      refine obs_step (Eq.trans (by simp only [List.getElem?_toArray, List.getElem?_cons_succ, List.getElem?_cons_zero]; exact rfl) rfl) rfl (fun w' hS hV K hK => ?_) ?_
      · have e4 : x 4 = (.pointer (some ⟨g, 0, none⟩)) := hV 4 (by decide)
        have e5 : x 5 = (.pointer (some ⟨g, 0, none⟩)) := hV 5 (by decide)
        obtain ⟨q0, q1, q2⟩ := hS.1.three; have qb := hS.2.1
        go_simp
        exact hK.out _ _ _ rfl rfl rfl (Below.refl _ _)
      simp only [List.setIfInBounds_toArray, List.set_cons_zero, List.set_cons_succ]
      refine obs_step (Eq.trans (by simp only [List.getElem?_toArray, List.getElem?_cons_succ, List.getElem?_cons_zero]; exact rfl) rfl) rfl (fun w' hS hV K hK => ?_) ?_
      · have e4 : x 4 = (.pointer (some ⟨g, 0, none⟩)) := hV 4 (by decide)
        have e5 : x 5 = (.pointer (some ⟨g, 0, none⟩)) := hV 5 (by decide)
        have e6 : x 6 = (.pointer (some ⟨g, 0, none⟩)) := hV 6 (by decide)
        obtain ⟨q0, q1, q2⟩ := hS.1.three; have qb := hS.2.1
        go_simp
        exact hK.out _ _ _ rfl rfl rfl (Below.refl _ _)
      simp only [List.setIfInBounds_toArray, List.set_cons_zero, List.set_cons_succ]
      refine obs_step (Eq.trans (by simp only [List.getElem?_toArray, List.getElem?_cons_succ, List.getElem?_cons_zero]; exact rfl) rfl) rfl (fun w' hS hV K hK => ?_) ?_
      · have e4 : x 4 = (.pointer (some ⟨g, 0, none⟩)) := hV 4 (by decide)
        have e5 : x 5 = (.pointer (some ⟨g, 0, none⟩)) := hV 5 (by decide)
        have e6 : x 6 = (.pointer (some ⟨g, 0, none⟩)) := hV 6 (by decide)
        have e7 : x 7 = (.slice (some ⟨gb, ob, none⟩) nb cb) := hV 7 (by decide)
        obtain ⟨q0, q1, q2⟩ := hS.1.three; have qb := hS.2.1
        go_simp
        exact hK.out _ _ _ rfl rfl rfl (Below.refl _ _)
      simp only [List.setIfInBounds_toArray, List.set_cons_zero, List.set_cons_succ]
      refine obs_step (Eq.trans (by simp only [List.getElem?_toArray, List.getElem?_cons_succ, List.getElem?_cons_zero]; exact rfl) rfl) rfl (fun w' hS hV K hK => ?_) ?_
      · have e0 : x 0 = (.pointer (some ⟨g, 0, none⟩)) := hV 0 (by decide)
        have e1 : x 1 = (.pointer (some ⟨g, 0, none⟩)) := hV 1 (by decide)
        have e2 : x 2 = (.pointer (some ⟨g, 1, none⟩)) := hV 2 (by decide)
        have e3 : x 3 = (.int .i64 (pl)) := hV 3 (by decide)
        have e4 : x 4 = (.pointer (some ⟨g, 0, none⟩)) := hV 4 (by decide)
        have e5 : x 5 = (.pointer (some ⟨g, 0, none⟩)) := hV 5 (by decide)
        have e6 : x 6 = (.pointer (some ⟨g, 0, none⟩)) := hV 6 (by decide)
        have e7 : x 7 = (.slice (some ⟨gb, ob, none⟩) nb cb) := hV 7 (by decide)
        have e8 : x 8 = (.int .i64 (nb)) := hV 8 (by decide)
        obtain ⟨q0, q1, q2⟩ := hS.1.three; have qb := hS.2.1
        go_simp
        exact hK.out _ _ _ rfl rfl rfl (Below.refl _ _)
      simp only [List.setIfInBounds_toArray, List.set_cons_zero, List.set_cons_succ]
      refine fun w' hS hV => ?_
      have e0 : x 0 = (.pointer (some ⟨g, 0, none⟩)) := hV 0 (by decide)
      have e1 : x 1 = (.pointer (some ⟨g, 0, none⟩)) := hV 1 (by decide)
      have e2 : x 2 = (.pointer (some ⟨g, 1, none⟩)) := hV 2 (by decide)
      have e3 : x 3 = (.int .i64 (pl)) := hV 3 (by decide)
      have e4 : x 4 = (.pointer (some ⟨g, 0, none⟩)) := hV 4 (by decide)
      have e5 : x 5 = (.pointer (some ⟨g, 0, none⟩)) := hV 5 (by decide)
      have e6 : x 6 = (.pointer (some ⟨g, 0, none⟩)) := hV 6 (by decide)
      have e7 : x 7 = (.slice (some ⟨gb, ob, none⟩) nb cb) := hV 7 (by decide)
      have e8 : x 8 = (.int .i64 (nb)) := hV 8 (by decide)
      have e9 : x 9 = (.bool true) := hV 9 (by decide)
      simp only [e0, e1, e2, e3, e4, e5, e6, e7, e8, e9]
      clear e0 e1 e2 e3 e4 e5 e6 e7 e8 e9
      refine wpAny_done (by kernel_rfl) ?_ _
      obtain ⟨w2, rfl⟩ : ∃ W, W = w' := ⟨_, rfl⟩
      obtain ⟨k2, hcb2, hb2⟩ := hS
      have HR2 := Lib.hid (HR1.out.below hb2)
      have HD2 := Lib.hid (HD.out.trans (Dr.of_below HD.out.s' hb2))
      clear k1 hcb hb2
      go_wp2
      refine wp_obs 13 [[], [], [1], [1, 2], [1, 2, 3], [], [5], [5, 6], [5, 6, 7], [1, 2, 3, 4, 5, 6, 7, 8], [1, 2, 3, 4, 5, 6, 7, 8, 9], [1, 2, 3, 4, 5, 6, 7, 8, 9, 10], [0, 1, 2, 3, 4, 5, 6, 7, 8, 9, 10, 11], [0, 1, 2, 3, 4, 5, 6, 7, 8, 9, 10, 11, 12]] [VIs (.int .i64 (X)), VIs (.pointer (some ⟨g, 0, none⟩)), VIs (.pointer (some ⟨g, 0, none⟩)), VIs (.pointer (some ⟨g, 0, none⟩)), VIs (.slice (some ⟨gb, ob, none⟩) nb cb), VIs (.pointer (some ⟨g, 0, none⟩)), VIs (.pointer (some ⟨g, 0, none⟩)), VIs (.pointer (some ⟨g, 1, none⟩)), VIs (.int .i64 (pl)), VIs (.pointer (some ⟨gb, ob + pl, none⟩)), VIs (.int .u8 bb), VIs (.int .i64 (bb)), VIs (.int .i64 (X + bb))] (fun w' => Blk w' g 98 #[.slice (some ⟨gb, ob, none⟩) nb cb, .int .i64 pl, .int .u64 H] ∧ w'.cell? ⟨gb, ob + pl, none⟩ = some (.int .u8 bb) ∧ Below w2.heap.size w2 w') (by kernel_rfl) (by kernel_rfl) (fun _ _ h hb => ⟨h.1.below hb h.1.lt, (hb.cell (World.block_lt_of_cell? _ _ h.2.1)).trans h.2.1, h.2.2.trans (hb.mono h.2.2.size)⟩) (⟨k2.drew, hcb2, (Below.refl _ _).drew⟩) (fun x => ?_)
      refine obs_step (Eq.trans (by simp only [List.getElem?_toArray, List.getElem?_cons_zero]; exact rfl) rfl) rfl (fun w' hS hV K hK => ?_) ?_
      · obtain ⟨q0, q1, q2⟩ := hS.1.three; have qb := hS.2.1
        go_simp
        exact hK.out _ _ _ rfl rfl rfl (Below.refl _ _)
      simp only [List.setIfInBounds_toArray, List.set_cons_zero, List.set_cons_succ]
      refine obs_step (Eq.trans (by simp only [List.getElem?_toArray, List.getElem?_cons_succ, List.getElem?_cons_zero]; exact rfl) rfl) rfl (fun w' hS hV K hK => ?_) ?_
      · obtain ⟨q0, q1, q2⟩ := hS.1.three; have qb := hS.2.1
        go_simp
        exact hK.out _ _ _ rfl rfl rfl (Below.refl _ _)
      simp only [List.setIfInBounds_toArray, List.set_cons_zero, List.set_cons_succ]
      refine obs_step (Eq.trans (by simp only [List.getElem?_toArray, List.getElem?_cons_succ, List.getElem?_cons_zero]; exact rfl) rfl) rfl (fun w' hS hV K hK => ?_) ?_
      · have e1 : x 1 = (.pointer (some ⟨g, 0, none⟩)) := hV 1 (by decide)
        obtain ⟨q0, q1, q2⟩ := hS.1.three; have qb := hS.2.1
        go_simp
        exact hK.out _ _ _ rfl rfl rfl (Below.refl _ _)
      simp only [List.setIfInBounds_toArray, List.set_cons_zero, List.set_cons_succ]
      refine obs_step (Eq.trans (by simp only [List.getElem?_toArray, List.getElem?_cons_succ, List.getElem?_cons_zero]; exact rfl) rfl) rfl (fun w' hS hV K hK => ?_) ?_
      · have e1 : x 1 = (.pointer (some ⟨g, 0, none⟩)) := hV 1 (by decide)
        have e2 : x 2 = (.pointer (some ⟨g, 0, none⟩)) := hV 2 (by decide)
        obtain ⟨q0, q1, q2⟩ := hS.1.three; have qb := hS.2.1
        go_simp
        exact hK.out _ _ _ rfl rfl rfl (Below.refl _ _)
      simp only [List.setIfInBounds_toArray, List.set_cons_zero, List.set_cons_succ]
      refine obs_step (Eq.trans (by simp only [List.getElem?_toArray, List.getElem?_cons_succ, List.getElem?_cons_zero]; exact rfl) rfl) rfl (fun w' hS hV K hK => ?_) ?_
      · have e1 : x 1 = (.pointer (some ⟨g, 0, none⟩)) := hV 1 (by decide)
        have e2 : x 2 = (.pointer (some ⟨g, 0, none⟩)) := hV 2 (by decide)
        have e3 : x 3 = (.pointer (some ⟨g, 0, none⟩)) := hV 3 (by decide)
        obtain ⟨q0, q1, q2⟩ := hS.1.three; have qb := hS.2.1
        go_simp
        exact hK.out _ _ _ rfl rfl rfl (Below.refl _ _)
      simp only [List.setIfInBounds_toArray, List.set_cons_zero, List.set_cons_succ]
      refine obs_step (Eq.trans (by simp only [List.getElem?_toArray, List.getElem?_cons_succ, List.getElem?_cons_zero]; exact rfl) rfl) rfl (fun w' hS hV K hK => ?_) ?_
      · obtain ⟨q0, q1, q2⟩ := hS.1.three; have qb := hS.2.1
        go_simp
        exact hK.out _ _ _ rfl rfl rfl (Below.refl _ _)
      simp only [List.setIfInBounds_toArray, List.set_cons_zero, List.set_cons_succ]
      refine obs_step (Eq.trans (by simp only [List.getElem?_toArray, List.getElem?_cons_succ, List.getElem?_cons_zero]; exact rfl) rfl) rfl (fun w' hS hV K hK => ?_) ?_
      · have e5 : x 5 = (.pointer (some ⟨g, 0, none⟩)) := hV 5 (by decide)
        obtain ⟨q0, q1, q2⟩ := hS.1.three; have qb := hS.2.1
        go_simp
        exact hK.out _ _ _ rfl rfl rfl (Below.refl _ _)
      simp only [List.setIfInBounds_toArray, List.set_cons_zero, List.set_cons_succ]
      refine obs_step (Eq.trans (by simp only [List.getElem?_toArray, List.getElem?_cons_succ, List.getElem?_cons_zero]; exact rfl) rfl) rfl (fun w' hS hV K hK => ?_) ?_
      · have e5 : x 5 = (.pointer (some ⟨g, 0, none⟩)) := hV 5 (by decide)
        have e6 : x 6 = (.pointer (some ⟨g, 0, none⟩)) := hV 6 (by decide)
        obtain ⟨q0, q1, q2⟩ := hS.1.three; have qb := hS.2.1
        go_simp
        exact hK.out _ _ _ rfl rfl rfl (Below.refl _ _)
      simp only [List.setIfInBounds_toArray, List.set_cons_zero, List.set_cons_succ]
      refine obs_step (Eq.trans (by simp only [List.getElem?_toArray, List.getElem?_cons_succ, List.getElem?_cons_zero]; exact rfl) rfl) rfl (fun w' hS hV K hK => ?_) ?_
      · have e5 : x 5 = (.pointer (some ⟨g, 0, none⟩)) := hV 5 (by decide)
        have e6 : x 6 = (.pointer (some ⟨g, 0, none⟩)) := hV 6 (by decide)
        have e7 : x 7 = (.pointer (some ⟨g, 1, none⟩)) := hV 7 (by decide)
        obtain ⟨q0, q1, q2⟩ := hS.1.three; have qb := hS.2.1
        go_simp
        exact hK.out _ _ _ rfl rfl rfl (Below.refl _ _)
      simp only [List.setIfInBounds_toArray, List.set_cons_zero, List.set_cons_succ]
      refine obs_step (Eq.trans (by simp only [List.getElem?_toArray, List.getElem?_cons_succ, List.getElem?_cons_zero]; exact rfl) rfl) rfl (fun w' hS hV K hK => ?_) ?_
      · have e1 : x 1 = (.pointer (some ⟨g, 0, none⟩)) := hV 1 (by decide)
        have e2 : x 2 = (.pointer (some ⟨g, 0, none⟩)) := hV 2 (by decide)
        have e3 : x 3 = (.pointer (some ⟨g, 0, none⟩)) := hV 3 (by decide)
        have e4 : x 4 = (.slice (some ⟨gb, ob, none⟩) nb cb) := hV 4 (by decide)
        have e5 : x 5 = (.pointer (some ⟨g, 0, none⟩)) := hV 5 (by decide)
        have e6 : x 6 = (.pointer (some ⟨g, 0, none⟩)) := hV 6 (by decide)
        have e7 : x 7 = (.pointer (some ⟨g, 1, none⟩)) := hV 7 (by decide)
        have e8 : x 8 = (.int .i64 (pl)) := hV 8 (by decide)
        obtain ⟨q0, q1, q2⟩ := hS.1.three; have qb := hS.2.1
        go_simp
        exact hK.out _ _ _ rfl rfl rfl (Below.refl _ _)
      simp only [List.setIfInBounds_toArray, List.set_cons_zero, List.set_cons_succ]
      refine obs_step (Eq.trans (by simp only [List.getElem?_toArray, List.getElem?_cons_succ, List.getElem?_cons_zero]; exact rfl) rfl) rfl (fun w' hS hV K hK => ?_) ?_
      · have e1 : x 1 = (.pointer (some ⟨g, 0, none⟩)) := hV 1 (by decide)
        have e2 : x 2 = (.pointer (some ⟨g, 0, none⟩)) := hV 2 (by decide)
        have e3 : x 3 = (.pointer (some ⟨g, 0, none⟩)) := hV 3 (by decide)
        have e4 : x 4 = (.slice (some ⟨gb, ob, none⟩) nb cb) := hV 4 (by decide)
        have e5 : x 5 = (.pointer (some ⟨g, 0, none⟩)) := hV 5 (by decide)
        have e6 : x 6 = (.pointer (some ⟨g, 0, none⟩)) := hV 6 (by decide)
        have e7 : x 7 = (.pointer (some ⟨g, 1, none⟩)) := hV 7 (by decide)
        have e8 : x 8 = (.int .i64 (pl)) := hV 8 (by decide)
        have e9 : x 9 = (.pointer (some ⟨gb, ob + pl, none⟩)) := hV 9 (by decide)
        obtain ⟨q0, q1, q2⟩ := hS.1.three; have qb := hS.2.1
        go_simp
        exact hK.out _ _ _ rfl rfl rfl (Below.refl _ _)
      simp only [List.setIfInBounds_toArray, List.set_cons_zero, List.set_cons_succ]
      refine obs_step (Eq.trans (by simp only [List.getElem?_toArray, List.getElem?_cons_succ, List.getElem?_cons_zero]; exact rfl) rfl) rfl (fun w' hS hV K hK => ?_) ?_
      · have e1 : x 1 = (.pointer (some ⟨g, 0, none⟩)) := hV 1 (by decide)
        have e2 : x 2 = (.pointer (some ⟨g, 0, none⟩)) := hV 2 (by decide)
        have e3 : x 3 = (.pointer (some ⟨g, 0, none⟩)) := hV 3 (by decide)
        have e4 : x 4 = (.slice (some ⟨gb, ob, none⟩) nb cb) := hV 4 (by decide)
        have e5 : x 5 = (.pointer (some ⟨g, 0, none⟩)) := hV 5 (by decide)
        have e6 : x 6 = (.pointer (some ⟨g, 0, none⟩)) := hV 6 (by decide)
        have e7 : x 7 = (.pointer (some ⟨g, 1, none⟩)) := hV 7 (by decide)
        have e8 : x 8 = (.int .i64 (pl)) := hV 8 (by decide)
        have e9 : x 9 = (.pointer (some ⟨gb, ob + pl, none⟩)) := hV 9 (by decide)
        have e10 : x 10 = (.int .u8 bb) := hV 10 (by decide)
        obtain ⟨q0, q1, q2⟩ := hS.1.three; have qb := hS.2.1
        go_simp
        exact hK.out _ _ _ rfl rfl rfl (Below.refl _ _)
      simp only [List.setIfInBounds_toArray, List.set_cons_zero, List.set_cons_succ]
      refine obs_step (Eq.trans (by simp only [List.getElem?_toArray, List.getElem?_cons_succ, List.getElem?_cons_zero]; exact rfl) rfl) rfl (fun w' hS hV K hK => ?_) ?_
      · have e0 : x 0 = (.int .i64 (X)) := hV 0 (by decide)
        have e1 : x 1 = (.pointer (some ⟨g, 0, none⟩)) := hV 1 (by decide)
        have e2 : x 2 = (.pointer (some ⟨g, 0, none⟩)) := hV 2 (by decide)
        have e3 : x 3 = (.pointer (some ⟨g, 0, none⟩)) := hV 3 (by decide)
        have e4 : x 4 = (.slice (some ⟨gb, ob, none⟩) nb cb) := hV 4 (by decide)
        have e5 : x 5 = (.pointer (some ⟨g, 0, none⟩)) := hV 5 (by decide)
        have e6 : x 6 = (.pointer (some ⟨g, 0, none⟩)) := hV 6 (by decide)
        have e7 : x 7 = (.pointer (some ⟨g, 1, none⟩)) := hV 7 (by decide)
        have e8 : x 8 = (.int .i64 (pl)) := hV 8 (by decide)
        have e9 : x 9 = (.pointer (some ⟨gb, ob + pl, none⟩)) := hV 9 (by decide)
        have e10 : x 10 = (.int .u8 bb) := hV 10 (by decide)
        have e11 : x 11 = (.int .i64 (bb)) := hV 11 (by decide)
        obtain ⟨q0, q1, q2⟩ := hS.1.three; have qb := hS.2.1
        go_simp
        exact hK.out _ _ _ rfl rfl rfl (Below.refl _ _)
      simp only [List.setIfInBounds_toArray, List.set_cons_zero, List.set_cons_succ]
      refine fun w' hS hV => ?_
      have e0 : x 0 = (.int .i64 (X)) := hV 0 (by decide)
      have e1 : x 1 = (.pointer (some ⟨g, 0, none⟩)) := hV 1 (by decide)
      have e2 : x 2 = (.pointer (some ⟨g, 0, none⟩)) := hV 2 (by decide)
      have e3 : x 3 = (.pointer (some ⟨g, 0, none⟩)) := hV 3 (by decide)
      have e4 : x 4 = (.slice (some ⟨gb, ob, none⟩) nb cb) := hV 4 (by decide)
      have e5 : x 5 = (.pointer (some ⟨g, 0, none⟩)) := hV 5 (by decide)
      have e6 : x 6 = (.pointer (some ⟨g, 0, none⟩)) := hV 6 (by decide)
      have e7 : x 7 = (.pointer (some ⟨g, 1, none⟩)) := hV 7 (by decide)
      have e8 : x 8 = (.int .i64 (pl)) := hV 8 (by decide)
      have e9 : x 9 = (.pointer (some ⟨gb, ob + pl, none⟩)) := hV 9 (by decide)
      have e10 : x 10 = (.int .u8 bb) := hV 10 (by decide)
      have e11 : x 11 = (.int .i64 (bb)) := hV 11 (by decide)
      have e12 : x 12 = (.int .i64 (X + bb)) := hV 12 (by decide)
      simp only [e0, e1, e2, e3, e4, e5, e6, e7, e8, e9, e10, e11, e12]
      clear e0 e1 e2 e3 e4 e5 e6 e7 e8 e9 e10 e11 e12
      refine any_one (j := 13) (by kernel_rfl) (Eq.trans (by simp only [List.getElem?_toArray, List.getElem?_cons_succ, List.getElem?_cons_zero]; exact rfl) rfl) (fun K hK => ?_)
      go_simp
      refine hK.out _ _ (wpAny_done (by kernel_rfl) ?_ _)
      obtain ⟨w3, rfl⟩ : ∃ W, W = w' := ⟨_, rfl⟩
      obtain ⟨k3, hcb3, hb3⟩ := hS
      have HR3 := Lib.hid (HR2.out.below hb3)
      have HD3 := Lib.hid (HD2.out.trans (Dr.of_below HD2.out.s' hb3))
      obtain ⟨hd4, k4, r4⟩ := Dr.set k3 HR3.out HBS.out hpl hnb HBG.out 1 (.int .i64 ((pl + 1 : Nat) : Int)) (pl' := pl + 1) (h' := H) (by simp) hpn
      have HD4 := Lib.hid (HD3.out.trans hd4)
      have q1 : w3.cell? ⟨g, 1, none⟩ = some (.int .i64 pl) := k3.cell 1
      have f1 := k3.frozen 1
      clear k2 hcb2 hb3 hd4 k4 r4
      go_wp2
      go_ret
      refine ⟨(X + bb) % n, rfl, Int.emod_nonneg _ hN2, fun hn => Int.emod_lt_of_pos _ (by omega), ?_⟩
      first
        | exact HD4.out
        | (rw [W5]; exact HD4.out)
    · have dl : decide ((pl : Int) < (nb : Int)) = false := by simp; omega
      have T1 := Int.tmod_eq_emod_of_nonneg (b := n) (show 0 ≤ X by omega)
      clear hbs r1
      go_wp2
      refine wp_obs 10 [[], [0], [0, 1], [0, 1, 2], [], [4], [4, 5], [4, 5, 6], [4, 5, 6, 7], [0, 1, 2, 3, 4, 5, 6, 7, 8]] [VIs (.pointer (some ⟨g, 0, none⟩)), VIs (.pointer (some ⟨g, 0, none⟩)), VIs (.pointer (some ⟨g, 1, none⟩)), VIs (.int .i64 (pl)), VIs (.pointer (some ⟨g, 0, none⟩)), VIs (.pointer (some ⟨g, 0, none⟩)), VIs (.pointer (some ⟨g, 0, none⟩)), VIs (.slice B nb cb), VIs (.int .i64 (nb)), VIs (.bool false)] (fun w' => Blk w' g 98 #[.slice B nb cb, .int .i64 pl, .int .u64 H] ∧ Below w1.heap.size w1 w') (by kernel_rfl) (by kernel_rfl) (fun _ _ h hb => ⟨h.1.below hb h.1.lt, h.2.trans (hb.mono h.2.size)⟩) (⟨k1.drew, (Below.refl _ _).drew⟩) (fun x => ?_)
      refine obs_step (Eq.trans (by simp only [List.getElem?_toArray, List.getElem?_cons_zero]; exact rfl) rfl) rfl (fun w' hS hV K hK => ?_) ?_
      · obtain ⟨q0, q1, q2⟩ := hS.1.three
        go_simp
        exact hK.out _ _ _ rfl rfl rfl (Below.refl _ _)
      simp only [List.setIfInBounds_toArray, List.set_cons_zero, List.set_cons_succ]
      refine obs_step (Eq.trans (by simp only [List.getElem?_toArray, List.getElem?_cons_succ, List.getElem?_cons_zero]; exact rfl) rfl) rfl (fun w' hS hV K hK => ?_) ?_
      · have e0 : x 0 = (.pointer (some ⟨g, 0, none⟩)) := hV 0 (by decide)
        obtain ⟨q0, q1, q2⟩ := hS.1.three
        go_simp
        exact hK.out _ _ _ rfl rfl rfl (Below.refl _ _)
      simp only [List.setIfInBounds_toArray, List.set_cons_zero, List.set_cons_succ]
      refine obs_step (Eq.trans (by simp only [List.getElem?_toArray, List.getElem?_cons_succ, List.getElem?_cons_zero]; exact rfl) rfl) rfl (fun w' hS hV K hK => ?_) ?_
      · have e0 : x 0 = (.pointer (some ⟨g, 0, none⟩)) := hV 0 (by decide)
        have e1 : x 1 = (.pointer (some ⟨g, 0, none⟩)) := hV 1 (by decide)
        obtain ⟨q0, q1, q2⟩ := hS.1.three
        go_simp
        exact hK.out _ _ _ rfl rfl rfl (Below.refl _ _)
      simp only [List.setIfInBounds_toArray, List.set_cons_zero, List.set_cons_succ]
      refine obs_step (Eq.trans (by simp only [List.getElem?_toArray, List.getElem?_cons_succ, List.getElem?_cons_zero]; exact rfl) rfl) rfl (fun w' hS hV K hK => ?_) ?_
      · have e0 : x 0 = (.pointer (some ⟨g, 0, none⟩)) := hV 0 (by decide)
        have e1 : x 1 = (.pointer (some ⟨g, 0, none⟩)) := hV 1 (by decide)
        have e2 : x 2 = (.pointer (some ⟨g, 1, none⟩)) := hV 2 (by decide)
        obtain ⟨q0, q1, q2⟩ := hS.1.three
        go_simp
        exact hK.out _ _ _ rfl rfl rfl (Below.refl _ _)
      simp only [List.setIfInBounds_toArray, List.set_cons_zero, List.set_cons_succ]
      refine obs_step (Eq.trans (by simp only [List.getElem?_toArray, List.getElem?_cons_succ, List.getElem?_cons_zero]; exact rfl) rfl) rfl (fun w' hS hV K hK => ?_) ?_
      · obtain ⟨q0, q1, q2⟩ := hS.1.three
        go_simp
        exact hK.out _ _ _ rfl rfl rfl (Below.refl _ _)
      simp only [List.setIfInBounds_toArray, List.set_cons_zero, List.set_cons_succ]
      refine obs_step (Eq.trans (by simp only [List.getElem?_toArray, List.getElem?_cons_succ, List.getElem?_cons_zero]; exact rfl) rfl) rfl (fun w' hS hV K hK => ?_) ?_
      · have e4 : x 4 = (.pointer (some ⟨g, 0, none⟩)) := hV 4 (by decide)
        obtain ⟨q0, q1, q2⟩ := hS.1.three
        go_simp
        exact hK.out _ _ _ rfl rfl rfl (Below.refl _ _)
      simp only [List.setIfInBounds_toArray, List.set_cons_zero, List.set_cons_succ]
      refine obs_step (Eq.trans (by simp only [List.getElem?_toArray, List.getElem?_cons_succ, List.getElem?_cons_zero]; exact rfl) rfl) rfl (fun w' hS hV K hK => ?_) ?_
      · have e4 : x 4 = (.pointer (some ⟨g, 0, none⟩)) := hV 4 (by decide)
        have e5 : x 5 = (.pointer (some ⟨g, 0, none⟩)) := hV 5 (by decide)
        obtain ⟨q0, q1, q2⟩ := hS.1.three
        go_simp
        exact hK.out _ _ _ rfl rfl rfl (Below.refl _ _)
      simp only [List.setIfInBounds_toArray, List.set_cons_zero, List.set_cons_succ]
      refine obs_step (Eq.trans (by simp only [List.getElem?_toArray, List.getElem?_cons_succ, List.getElem?_cons_zero]; exact rfl) rfl) rfl (fun w' hS hV K hK => ?_) ?_
      · have e4 : x 4 = (.pointer (some ⟨g, 0, none⟩)) := hV 4 (by decide)
        have e5 : x 5 = (.pointer (some ⟨g, 0, none⟩)) := hV 5 (by decide)
        have e6 : x 6 = (.pointer (some ⟨g, 0, none⟩)) := hV 6 (by decide)
        obtain ⟨q0, q1, q2⟩ := hS.1.three
        go_simp
        exact hK.out _ _ _ rfl rfl rfl (Below.refl _ _)
      simp only [List.setIfInBounds_toArray, List.set_cons_zero, List.set_cons_succ]
      refine obs_step (Eq.trans (by simp only [List.getElem?_toArray, List.getElem?_cons_succ, List.getElem?_cons_zero]; exact rfl) rfl) rfl (fun w' hS hV K hK => ?_) ?_
      · have e4 : x 4 = (.pointer (some ⟨g, 0, none⟩)) := hV 4 (by decide)
        have e5 : x 5 = (.pointer (some ⟨g, 0, none⟩)) := hV 5 (by decide)
        have e6 : x 6 = (.pointer (some ⟨g, 0, none⟩)) := hV 6 (by decide)
        have e7 : x 7 = (.slice B nb cb) := hV 7 (by decide)
        obtain ⟨q0, q1, q2⟩ := hS.1.three
        go_simp
        exact hK.out _ _ _ rfl rfl rfl (Below.refl _ _)
      simp only [List.setIfInBounds_toArray, List.set_cons_zero, List.set_cons_succ]
      refine obs_step (Eq.trans (by simp only [List.getElem?_toArray, List.getElem?_cons_succ, List.getElem?_cons_zero]; exact rfl) rfl) rfl (fun w' hS hV K hK => ?_) ?_
      · have e0 : x 0 = (.pointer (some ⟨g, 0, none⟩)) := hV 0 (by decide)
        have e1 : x 1 = (.pointer (some ⟨g, 0, none⟩)) := hV 1 (by decide)
        have e2 : x 2 = (.pointer (some ⟨g, 1, none⟩)) := hV 2 (by decide)
        have e3 : x 3 = (.int .i64 (pl)) := hV 3 (by decide)
        have e4 : x 4 = (.pointer (some ⟨g, 0, none⟩)) := hV 4 (by decide)
        have e5 : x 5 = (.pointer (some ⟨g, 0, none⟩)) := hV 5 (by decide)
        have e6 : x 6 = (.pointer (some ⟨g, 0, none⟩)) := hV 6 (by decide)
        have e7 : x 7 = (.slice B nb cb) := hV 7 (by decide)
        have e8 : x 8 = (.int .i64 (nb)) := hV 8 (by decide)
        obtain ⟨q0, q1, q2⟩ := hS.1.three
        go_simp
        exact hK.out _ _ _ rfl rfl rfl (Below.refl _ _)
      simp only [List.setIfInBounds_toArray, List.set_cons_zero, List.set_cons_succ]
      refine fun w' hS hV => ?_
      have e0 : x 0 = (.pointer (some ⟨g, 0, none⟩)) := hV 0 (by decide)
      have e1 : x 1 = (.pointer (some ⟨g, 0, none⟩)) := hV 1 (by decide)
      have e2 : x 2 = (.pointer (some ⟨g, 1, none⟩)) := hV 2 (by decide)
      have e3 : x 3 = (.int .i64 (pl)) := hV 3 (by decide)
      have e4 : x 4 = (.pointer (some ⟨g, 0, none⟩)) := hV 4 (by decide)
      have e5 : x 5 = (.pointer (some ⟨g, 0, none⟩)) := hV 5 (by decide)
      have e6 : x 6 = (.pointer (some ⟨g, 0, none⟩)) := hV 6 (by decide)
      have e7 : x 7 = (.slice B nb cb) := hV 7 (by decide)
      have e8 : x 8 = (.int .i64 (nb)) := hV 8 (by decide)
      have e9 : x 9 = (.bool false) := hV 9 (by decide)
      simp only [e0, e1, e2, e3, e4, e5, e6, e7, e8, e9]
      clear e0 e1 e2 e3 e4 e5 e6 e7 e8 e9
      refine wpAny_done (by kernel_rfl) ?_ _
      obtain ⟨w2, rfl⟩ : ∃ W, W = w' := ⟨_, rfl⟩
      obtain ⟨k2, hb2⟩ := hS
      have HD2 := Lib.hid (HD.out.trans (Dr.of_below HD.out.s' hb2))
      clear k1 hb2 k2
      go_wp2
      go_ret
      exact ⟨X % n, rfl, Int.emod_nonneg _ hN2, fun hn => Int.emod_lt_of_pos _ (by omega), HD2.out⟩
end Go.Proofs.YticofgmmjecleaaGreatDoor
namespace Go.Proofs.YticofgmmjecleaaGreatDoor
def gI (h : Int) : Int := h * 6364136223846793005 + 1442695040888963407
def itI : Nat → Int → Int
  | 0, h => h
  | n + 1, h => itI n (gI h)
def xI (h : Int) : Int := h / 8589934592 % 16777216
theorem it_add : ∀ (m n : Nat) (h : Int), itI (m + n) h = itI n (itI m h)
  | 0, n, h => by rw [Nat.zero_add]; rfl
  | m + 1, n, h => by rw [Nat.add_right_comm]; exact it_add m n (gI h)
theorem it_succ (n : Nat) (h : Int) : itI (n + 1) h = gI (itI n h) := it_add n 1 h
/-- A power of two many steps. -/
theorem jump : ∀ k : Nat, ∃ b j : Int, ∀ h, itI (2 ^ k) h = h + 4 * 2 ^ k * (b * h) + 2 ^ k * (2 * j + 1)
  | 0 => ⟨1591034055961698251, 721347520444481703, fun h => by show gI h = _; unfold gI; omega⟩
  | k + 1 => by
    obtain ⟨b, j, e⟩ := jump k
    refine ⟨b + 2 * 2 ^ k * (b * b), j + 2 ^ k * b * (2 * j + 1), fun h => ?_⟩
    rw [Nat.pow_succ, Nat.mul_two, it_add, e, e, Int.pow_succ]
    generalize (2 : Int) ^ k = D
    grind
theorem it_mod {M : Int} : ∀ (n : Nat) {h k : Int}, h % M = k % M → itI n h % M = itI n k % M
  | 0, _, _, e => e
  | n + 1, h, k, e => it_mod n (by unfold gI; rw [Int.add_emod, Int.mul_emod, e, ← Int.mul_emod, ← Int.add_emod])
/-- Steps of 2^s lead to every remainder by 2^(s+m) that agrees below. -/
theorem reach (s : Nat) : ∀ (m : Nat) (h t : Int), (h - t) % 2 ^ s = 0 → ∃ n : Nat, n < 2 ^ m ∧ (itI (2 ^ s * n) h - t) % 2 ^ (s + m) = 0
  | 0, h, t, e => ⟨0, by decide, by rw [Nat.mul_zero]; exact e⟩
  | m + 1, h, t, e => by
    obtain ⟨n, hn, hd⟩ := reach s m h t e
    obtain ⟨b, j, ej⟩ := jump (s + m)
    obtain ⟨q, hq⟩ := Int.dvd_of_emod_eq_zero hd
    by_cases hp : q % 2 = 0
    · refine ⟨n, by rw [Nat.pow_succ]; omega, ?_⟩
      rw [hq, ← Nat.add_assoc, Int.pow_succ]
      obtain ⟨r, rfl⟩ := Int.dvd_of_emod_eq_zero hp
      rw [show (2 : Int) ^ (s + m) * (2 * r) = 2 ^ (s + m) * 2 * r by rw [Int.mul_assoc]]
      exact Int.mul_emod_right _ _
    · refine ⟨n + 2 ^ m, by rw [Nat.pow_succ]; omega, ?_⟩
      rw [Nat.mul_add, ← Nat.pow_add, it_add, ej, ← Nat.add_assoc, Int.pow_succ]
      generalize itI (2 ^ s * n) h = y at hq ⊢
      obtain ⟨r, hr⟩ : ∃ r, q = 2 * r + 1 := ⟨q / 2, by omega⟩
      rw [show y + 4 * 2 ^ (s + m) * (b * y) + 2 ^ (s + m) * (2 * j + 1) - t = 2 ^ (s + m) * 2 * (2 * (b * y) + j + r + 1) by
        generalize (2 : Int) ^ (s + m) = D at hq ⊢
        grind]
      exact Int.mul_emod_right _ _
theorem least {p : Nat → Prop} : ∀ n, p n → ∃ k, k ≤ n ∧ p k ∧ ∀ j, j < k → ¬ p j := fun n => by
  induction n using Nat.strongRecOn with
  | ind n ih =>
    intro hn
    by_cases h : ∃ k, k < n ∧ p k
    · obtain ⟨k, hk, hp⟩ := h
      obtain ⟨i, h1, h2, h3⟩ := ih k hk hp
      exact ⟨i, by omega, h2, h3⟩
    · exact ⟨n, Nat.le_refl _, hn, fun j hj hp => h ⟨j, hj, hp⟩⟩
theorem x_mod (h : Int) : xI (h % 144115188075855872) = xI h := by unfold xI; omega
theorem x_same {h k : Int} (e : h % 144115188075855872 = k % 144115188075855872) : xI h = xI k := by rw [← x_mod h, e, x_mod]
def eqM (h k : Int) : Prop := h % 144115188075855872 = k % 144115188075855872
/-- A count that falls at each round of two or four steps at which the first number has the remainder 0. -/
theorem clock (q : Int) (z : Int) (h1 : xI (itI 1 z) % q ≠ 0) (h2 : xI (itI 2 z) % q ≠ 0) (h3 : xI (itI 3 z) % q ≠ 0) (h4 : xI (itI 4 z) % q ≠ 0) :
    ∃ M : Int → Nat, (∀ h, M h ≤ 144115188075855872) ∧ ∀ h h', (eqM h' (itI 2 h) ∨ eqM h' (itI 4 h)) → xI (gI h) % q = 0 → M h' < M h := by
  have hN : ∀ h, ∃ n, n ≤ 144115188075855871 ∧ eqM (itI n h) z ∧ ∀ j, j < n → ¬ eqM (itI j h) z := fun h => by
    obtain ⟨n, hn, hd⟩ := reach 0 57 h z (by omega)
    rw [Nat.pow_zero, Nat.one_mul] at hd
    obtain ⟨k, a, b, c⟩ := least (p := fun n => eqM (itI n h) z) n (by unfold eqM; rw [show (2 : Int) ^ (0 + 57) = 144115188075855872 from rfl] at hd; omega)
    exact ⟨k, by have : (2 : Nat) ^ 57 = 144115188075855872 := rfl; omega, b, c⟩
  have sp : ∀ h : Int, Decidable (∃ i, (i = 1 ∨ i = 2 ∨ i = 3) ∧ eqM h (itI i z)) := fun h => Classical.propDecidable _
  refine ⟨fun h => if ∃ i, (i = 1 ∨ i = 2 ∨ i = 3) ∧ eqM h (itI i z) then 0 else Classical.choose (hN h) + 1, fun h => ?_, fun h h' hg hx => ?_⟩
  · dsimp only
    split
    · omega
    · have := (Classical.choose_spec (hN h)).1; omega
  · dsimp only
    have gz : ∀ (i : Nat) (k : Int), eqM k (itI i z) → eqM (gI k) (itI (i + 1) z) := fun i k e => by
      unfold eqM; rw [it_succ]; exact it_mod 1 e
    have hns : ¬ ∃ i, (i = 1 ∨ i = 2 ∨ i = 3) ∧ eqM h (itI i z) := by
      rintro ⟨i, hi, e⟩
      have e2 := gz i h e
      rw [x_same e2] at hx
      rcases hi with rfl | rfl | rfl
      · exact h2 hx
      · exact h3 hx
      · exact h4 hx
    rw [if_neg hns]
    split
    · omega
    · rename_i hns'
      obtain ⟨a1, a2, a3⟩ := Classical.choose_spec (hN h)
      obtain ⟨b1, b2, b3⟩ := Classical.choose_spec (hN h')
      generalize Classical.choose (hN h) = n at a1 a2 a3 ⊢
      generalize Classical.choose (hN h') = m at b1 b2 b3 ⊢
      have key : ∀ g : Nat, (g = 2 ∨ g = 4) → eqM h' (itI g h) → m + 1 < n + 1 := fun g hg2 e => by
        by_cases hng : g ≤ n
        · have : eqM (itI (n - g) h') z := by
            unfold eqM at *
            rw [it_mod (n - g) e, ← it_add, show g + (n - g) = n by omega]; exact a2
          have : ¬ n - g < m := fun hl => b3 _ hl this
          omega
        · have hn0 : n ≠ 0 := fun e0 => by
            subst e0
            have e2 := gz 0 h a2
            rw [x_same e2] at hx
            exact h1 hx
          exfalso
          refine hns' ⟨g - n, by omega, ?_⟩
          unfold eqM at *
          rw [e, show g = n + (g - n) by omega, it_add, show n + (g - n) - n = g - n by omega]
          exact it_mod _ a2
      rcases hg with e | e
      · exact key 2 (.inl rfl) e
      · exact key 4 (.inr rfl) e
theorem clock5 : ∃ M : Int → Nat, (∀ h, M h ≤ 144115188075855872) ∧ ∀ h h', (eqM h' (itI 2 h) ∨ eqM h' (itI 4 h)) → xI (gI h) % 5 = 0 → M h' < M h := clock 5 6 (by decide +kernel) (by decide +kernel) (by decide +kernel) (by decide +kernel)
end Go.Proofs.YticofgmmjecleaaGreatDoor

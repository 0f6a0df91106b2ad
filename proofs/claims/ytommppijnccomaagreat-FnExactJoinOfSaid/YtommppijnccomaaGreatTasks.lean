/-
  A region that draws its order, walked once: each operation is shown from what those before it have yielded, whatever else has been done beside it. Conditions on the region are Bools for the kernel.
-/
import Derived.Test.YtommppijnccomaaGreatMat
import Derived.Deep.RegionHeld3
import Derived.Deep.AppendLies
namespace Go.Proofs.YtommppijnccomaaGreat
open Go.RowKit

/-- What an operation's value is good for, in later worlds too. -/
structure VP where
  p : Value → World → Prop
  st : ∀ v w w', p v w → Below w.heap.size w w' → p v w'

/-- The value is u. -/
def VIs (u : Value) : VP := ⟨fun v _ => v = u, fun _ _ _ h _ => h⟩
/-- Nothing is said. -/
def VAny : VP := ⟨fun _ _ => True, fun _ _ _ h _ => h⟩
/-- The value is a new list of numbers. -/
def VSl (w0 : World) (n : Nat) (L : List Int) : VP := ⟨fun v w => ∃ A c, v = .slice A n c ∧ MkI w0 w A n c L, fun _ _ _ ⟨A, c, e, h⟩ hb => ⟨A, c, e, h.below hb⟩⟩
/-- The value is a new list of lists. -/
def VMat (w0 : World) (n : Nat) (L : List (List Int)) : VP := ⟨fun v w => ∃ A c, v = .slice A n c ∧ MkII w0 w A n c L, fun _ _ _ ⟨A, c, e, h⟩ hb => ⟨A, c, e, h.below hb⟩⟩
/-- The value is the slice of a new block with the lists xss, made of slices that lie there already. -/
def VRow (n : Nat) (xss : List (List Int)) : VP := ⟨fun v w => ∃ A c, v = .slice A n c ∧ RdII w A n xss, fun _ _ _ ⟨A, c, e, h⟩ hb => ⟨A, c, e, h.below hb⟩⟩

/-- The value is the slice of a new block that is just cs. -/
def VBs (E : TypeId) (cs : Array Value) : VP := ⟨fun v w => ∃ g, v = .slice (some ⟨g, 0, none⟩) cs.size cs.size ∧ Blk w g E cs, fun _ _ _ ⟨g, e, h⟩ hb => ⟨g, e, h.below hb h.lt⟩⟩

/-- The value is a pointer to a cell that holds u. -/
def VCell (u : Value) : VP := ⟨fun v w => ∃ p, v = .pointer (some p) ∧ w.cell? p = some u, fun _ _ _ ⟨p, e, h⟩ hb => ⟨p, e, (hb.cell (World.block_lt_of_cell? _ _ h)).trans h⟩⟩
theorem Rd.lenI {w : World} {A : Option Addr} {n : Nat} {xs : List Int} (h : Rd w A n (ints xs)) : xs.length = n := by have := h.1; rwa [ints_length] at this

theorem rdII_two {w : World} {g : Nat} {t : TypeId} {A B : Option Addr} {n m c d : Nat} {xs ys : List Int} (k : Blk w g t #[.slice A n c, .slice B m d]) (hx : Rd w A n (ints xs)) (hy : Rd w B m (ints ys)) (h1 : n ≤ c) (h2 : m ≤ d) : RdII w (some ⟨g, 0, none⟩) 2 [xs, ys] := by
  have e1 : xs.length = n := by have := hx.1; rwa [ints_length] at this
  have e2 : ys.length = m := by have := hy.1; rwa [ints_length] at this
  subst e1; subst e2
  refine ⟨[.slice A xs.length c, .slice B ys.length d], ⟨rfl, fun _ => ⟨g, 0, rfl, fun i u hu => ?_⟩⟩, rfl, fun i hi => ?_⟩
  · match i, hu with
    | 0, hu => simp at hu; subst hu; exact k.cell 0
    | 1, hu => simp at hu; subst hu; exact k.cell 1
  · match i, hi with
    | 0, _ => exact ⟨A, c, rfl, hx, h1⟩
    | 1, _ => exact ⟨B, d, rfl, hy, h2⟩
theorem rdII_three {w : World} {g : Nat} {t : TypeId} {A B C : Option Addr} {n m l c d e : Nat} {xs ys zs : List Int} (k : Blk w g t #[.slice A n c, .slice B m d, .slice C l e]) (hx : Rd w A n (ints xs)) (hy : Rd w B m (ints ys)) (hz : Rd w C l (ints zs)) (h1 : n ≤ c) (h2 : m ≤ d) (h3 : l ≤ e) : RdII w (some ⟨g, 0, none⟩) 3 [xs, ys, zs] := by
  have e1 : xs.length = n := by have := hx.1; rwa [ints_length] at this
  have e2 : ys.length = m := by have := hy.1; rwa [ints_length] at this
  have e3 : zs.length = l := by have := hz.1; rwa [ints_length] at this
  subst e1; subst e2; subst e3
  refine ⟨[.slice A xs.length c, .slice B ys.length d, .slice C zs.length e], ⟨rfl, fun _ => ⟨g, 0, rfl, fun i u hu => ?_⟩⟩, rfl, fun i hi => ?_⟩
  · match i, hu with
    | 0, hu => simp at hu; subst hu; exact k.cell 0
    | 1, hu => simp at hu; subst hu; exact k.cell 1
    | 2, hu => simp at hu; subst hu; exact k.cell 2
  · match i, hi with
    | 0, _ => exact ⟨A, c, rfl, hx, h1⟩
    | 1, _ => exact ⟨B, d, rfl, hy, h2⟩
    | 2, _ => exact ⟨C, e, rfl, hz, h3⟩
theorem rdII_one' {w : World} {g : Nat} {t : TypeId} {A : Option Addr} {n c : Nat} {xs : List Int} (k : Blk w g t #[.slice A n c]) (hx : Rd w A n (ints xs)) (h1 : n ≤ c) : RdII w (some ⟨g, 0, none⟩) 1 [xs] := by
  have e1 : xs.length = n := by have := hx.1; rwa [ints_length] at this
  subst e1
  refine ⟨[.slice A xs.length c], ⟨rfl, fun _ => ⟨g, 0, rfl, fun i u hu => ?_⟩⟩, rfl, fun i hi => ?_⟩
  · match i, hu with
    | 0, hu => simp at hu; subst hu; exact k.cell 0
  · match i, hi with
    | 0, _ => exact ⟨A, c, rfl, hx, h1⟩

/-- One value, in a block of its own, is appended to a row of the call's own. -/
theorem wp_app1 {P : Program} {o : Oper} {a : Act} {K : Act → World → Prop} {Q : Exit → Act → World → Prop} (w0 wr : World) (T E : TypeId) (z : Value) (bytes : Nat)
    (ht : P.underlying T = some (.slice E)) (hinfo : (P.info? E).map (fun i => (i.zero, i.size, i.bytes)) = some (some z, 1, bytes)) (hz : z.cells.size = 1) (hby : bytes ≤ 24)
    (s x : Operand) (ho : o.op = .call { callee := .builtin .append, args := #[s, x], argTypes := #[T, T] })
    (A : Option Addr) (n c : Nat) (us : List Value) (u : Value) (hM : Mk w0 wr E A n c us) (hn : n ≤ 1099511627776) (hu : u.oneCell' = true) (g : Nat) (hB : Blk wr g E #[u])
    (hs : a.eval s = .slice A n c) (hx : a.eval x = .slice (some ⟨g, 0, none⟩) 1 1)
    (h : ∀ A' c' w', Mk w0 w' E A' (n + 1) c' (us ++ [u]) → wr.grownBy w' (Value.slice A n c).ownBlock → K (a.put o.dst (.slice A' (n + 1) c')) w') : o.wp P a wr K Q := by
  obtain ⟨i, hi, h1, h2, h3⟩ := info_parts hinfo
  obtain ⟨b1, b2⟩ := bound_of hn
  refine wp_append_lies wr s x T ho w0.heap.size E i z 1 bytes ht hi h1 h2 h3 hz (by omega) (.slice A n c) n us hs hM.2 ⟨g, 0, none⟩ 1 1 [u] hx rfl (fun j v hv => ?_)
    (by intro v hv; simp at hv; rw [hv]; exact hu) (by omega) b1 (b2 _ hby) hM.1.size _ rfl (fun g' cap w' hown hg hat _ => h _ _ _ ⟨hM.1.grown hg hM.1.size (fun k hk => (hM.2.lt k hk).1), hown⟩ hg)
  match j, hv with
  | 0, hv => simp at hv; subst hv; rw [Addr.add_lit]; exact hB.cell 0

def dstOf (ops : Array Oper) (i : Nat) : Option Tmp := (ops[i]?).bind (·.dst)

/-- The frame once those of the first n operations that L tells have been done. -/
def putD (ops : Array Oper) (L : Nat → Bool) (x : Nat → Value) (a0 : Act) : Nat → Act
  | 0 => a0
  | n + 1 => if L n then (putD ops L x a0 n).put (dstOf ops n) (x n) else putD ops L x a0 n
/-- The frame once the first n operations have been done. -/
def putS (ops : Array Oper) (x : Nat → Value) (a0 : Act) (n : Nat) : Act := putD ops (fun _ => true) x a0 n

section
variable {P : Program} {ops : Array Oper} {Q : Exit → Act → World → Prop}

/-- May the first m operations of the region go in the text's order? R: those that each waits for, directly or through others. -/
def tasksOk (ops : Array Oper) (m sz : Nat) (R : List (List Nat)) : Bool :=
  Region.noSelect ops && m ≤ ops.size &&
  (List.range ops.size).all (fun j => match ops[j]? with
    | none => false
    | some o => (R.getD j []).all (fun i => o.after.toList.any fun e => Region.binds .any e && (decide (e.on < j)) && (e.on == i || (R.getD e.on []).contains i)) &&
      if j < m then
        (o.after.toList.all fun e => !Region.binds .any e || decide (e.on < j)) &&
        (match o.dst with
          | none => false
          | some d => decide (d < sz) && (List.range m).all fun i => i == j || dstOf ops i != some d) &&
        (o.looksAt ops).all (fun t => (List.range m).all fun i => dstOf ops i != some t || (R.getD j []).contains i)
      else (List.range m).all fun i => (R.getD j []).contains i)

theorem putD_size (L : Nat → Bool) (x : Nat → Value) (a0 : Act) : ∀ n, (putD ops L x a0 n).tmps.size = a0.tmps.size ∧ (putD ops L x a0 n).defers = a0.defers := by
  intro n
  induction n with
  | zero => exact ⟨rfl, rfl⟩
  | succ n ih =>
    unfold putD
    split
    · cases hd : dstOf ops n with
      | none => exact ih
      | some d => simp [Act.put, ih]
    · exact ih

theorem putD_other (L : Nat → Bool) (x : Nat → Value) (a0 : Act) (t : Tmp) : ∀ n, (∀ i, i < n → dstOf ops i = some t → L i = false) → (putD ops L x a0 n).tmps[t]? = a0.tmps[t]? := by
  intro n
  induction n with
  | zero => intro _; rfl
  | succ n ih =>
    intro h
    have h1 := ih fun i hi => h i (by omega)
    unfold putD
    split
    · rename_i hl
      cases hd : dstOf ops n with
      | none => exact h1
      | some d =>
        have hne : d ≠ t := fun e => by
          have := h n (by omega) (by rw [hd, e])
          rw [hl] at this; cases this
        simp only [Act.put]
        rw [Array.getElem?_setIfInBounds_ne hne]
        exact h1
    · exact h1

theorem putD_at (L : Nat → Bool) (x : Nat → Value) (a0 : Act) (t : Tmp) (i : Nat) (hi : dstOf ops i = some t) (hl : L i = true) (ht : t < a0.tmps.size) :
    ∀ n, i < n → (∀ k, k < n → k ≠ i → dstOf ops k ≠ some t) → (putD ops L x a0 n).tmps[t]? = some (x i) := by
  intro n
  induction n with
  | zero => intro h; omega
  | succ n ih =>
    intro hin hd
    by_cases hni : n = i
    · subst hni
      unfold putD
      rw [if_pos hl, hi]
      simp only [Act.put]
      have := (putD_size (ops := ops) L x a0 n).1
      simp [this, ht]
    · have h1 := ih (by omega) (fun k hk => hd k (by omega))
      unfold putD
      split
      · cases hdn : dstOf ops n with
        | none => exact h1
        | some d =>
          have hne : d ≠ t := fun e => hd n (by omega) hni (by rw [hdn, e])
          simp only [Act.put]
          rw [Array.getElem?_setIfInBounds_ne hne]
          exact h1
      · exact h1

theorem putD_congr (L L' : Nat → Bool) (x x' : Nat → Value) (a0 : Act) : ∀ n, (∀ i, i < n → L i = L' i ∧ (L i = true → x i = x' i)) → putD ops L x a0 n = putD ops L' x' a0 n := by
  intro n
  induction n with
  | zero => intro _; rfl
  | succ n ih =>
    intro h
    have h1 := ih fun i hi => h i (by omega)
    obtain ⟨h2, h3⟩ := h n (by omega)
    unfold putD
    rw [h1, ← h2]
    split
    · rename_i hl; rw [h3 hl]
    · rfl

theorem putD_put (L L' : Nat → Bool) (x x' : Nat → Value) (a0 : Act) (i : Nat) (hL : L i = false) (hL' : L' i = true) (hne : ∀ k, k ≠ i → L k = L' k ∧ x k = x' k) :
    ∀ n, i < n → (∀ d k, k < n → k ≠ i → dstOf ops i = some d → dstOf ops k ≠ some d) → (putD ops L x a0 n).put (dstOf ops i) (x' i) = putD ops L' x' a0 n := by
  intro n
  induction n with
  | zero => intro h; omega
  | succ n ih =>
    intro hin hd
    by_cases hni : n = i
    · subst hni
      unfold putD
      rw [if_neg (by rw [hL]; decide), if_pos hL', putD_congr L L' x x' a0 n (fun k hk => ⟨(hne k (by omega)).1, fun _ => (hne k (by omega)).2⟩)]
    · have h1 := ih (by omega) (fun d k hk => hd d k (by omega))
      obtain ⟨h2, h3⟩ := hne n hni
      unfold putD
      rw [← h2, ← h3]
      split
      · rw [← h1]
        exact Act.put_comm _ _ _ (fun d e1 e2 => hd d n (by omega) hni e2 e1)
      · exact h1

/-- No way out but by a value. -/
def NoWay : Exit → Act → World → Prop := fun _ _ _ => False
theorem NoWay.lets (h : LetsOut NoWay) : False := by obtain ⟨_, _, h⟩ := h; exact h

/-- What operation o does in a frame, it does in another one in which its operands have the same values. -/
theorem wp_move {o : Oper} {a1 a2 : Act} {w : World} {d : Tmp} {R : Value → World → Prop} (he : execOp a2.eval o = execOp a1.eval o) (hd : o.dst = some d) (hs : d < a1.tmps.size)
    (h : o.wp P a1 w (fun a' w' => ∃ v, a'.tmps[d]? = some v ∧ a'.defers = a1.defers ∧ R v w') NoWay) : o.wp P a2 w (fun a' w' => ∃ v, a' = a2.put (some d) v ∧ R v w') Q := by
  have key : ∀ (u : Value) (w' : World), (∃ v, (a1.put (some d) u).tmps[d]? = some v ∧ (a1.put (some d) u).defers = a1.defers ∧ R v w') → ∃ v, a2.put (some d) u = a2.put (some d) v ∧ R v w' := by
    rintro u w' ⟨v, hv, _, hR⟩
    refine ⟨u, rfl, ?_⟩
    simp [Act.put, hs] at hv
    exact hv ▸ hR
  unfold Oper.wp at *
  rw [he]
  generalize (execOp a1.eval o).run P w = r at *
  cases r with
  | ok n w' =>
    cases n <;> simp only [Oper.upon, hd] at h ⊢
    case value u => exact key _ _ h
    case skip => exact key _ _ h
    case defer dd =>
      obtain ⟨v, _, h, _⟩ := h
      have h1 := congrArg List.length h
      simp [Act.put] at h1
    case enter f args =>
      refine Calls.mono h fun e w'' he => ?_
      cases e with
      | returned u => exact key _ _ he
      | panicked c => exact absurd he id
      | outgrown => exact absurd he NoWay.lets
    case row row args => exact Rows.mono h fun u w'' he => key _ _ he
  | halt x w' =>
    cases x <;> simp only [Oper.upon] at h ⊢
    case panic u => exact absurd h id

/-- What is to be shown of operation j. -/
def Ob (P : Program) (ops : Array Oper) (S : World → Prop) (R : List (List Nat)) (V : List VP) (x : Nat → Value) (a0 : Act) (j : Nat) : Prop :=
  ∀ w, S w → (∀ i ∈ R.getD j [], (V.getD i VAny).p (x i) w) →
    wpOp P ops NoWay j (fun a' w' => ∃ v, (∀ d, dstOf ops j = some d → a'.tmps[d]? = some v) ∧ a'.defers = a0.defers ∧ (V.getD j VAny).p v w' ∧ Below w.heap.size w w') (putS ops x a0 j) w

theorem listed_reach {ops : Array Oper} {m sz : Nat} {R : List (List Nat)} (hok : tasksOk ops m sz R = true) (L : Nat → Bool)
    (hL : ∀ (j : Nat) (o : Oper), ops[j]? = some o → L j = true → ∀ e ∈ o.after, Region.binds .any e = true → L e.on = true) :
    ∀ (j : Nat) (o : Oper), ops[j]? = some o → (∀ e ∈ o.after, Region.binds .any e = true → L e.on = true) → ∀ i ∈ R.getD j [], L i = true := by
  intro j
  induction j using Nat.strongRecOn with
  | ind j ih =>
    intro o ho hal i hi
    have hlt : j < ops.size := (Array.getElem?_eq_some_iff.1 ho).1
    unfold tasksOk at hok
    simp only [Bool.and_eq_true] at hok
    have h1 := List.all_eq_true.1 hok.2 j (by simpa using hlt)
    rw [ho] at h1
    simp only [Bool.and_eq_true] at h1
    have h2 := List.all_eq_true.1 h1.1 i hi
    obtain ⟨e, he, hc⟩ := List.any_eq_true.1 h2
    replace he : e ∈ o.after := by simpa using he
    simp only [Bool.and_eq_true, Bool.or_eq_true, decide_eq_true_eq, beq_iff_eq, List.contains_iff_mem] at hc
    obtain ⟨⟨hb, hej⟩, hc⟩ := hc
    have hle := hal e he hb
    rcases hc with rfl | hc
    · exact hle
    · have hes : e.on < ops.size := by omega
      exact ih e.on hej _ (Array.getElem?_eq_getElem hes) (fun e' he' hb' => hL e.on _ (Array.getElem?_eq_getElem hes) hle e' he' hb') i hc

theorem reach_lt {ops : Array Oper} {m sz : Nat} {R : List (List Nat)} (hok : tasksOk ops m sz R = true) : ∀ j, j < ops.size → ∀ i ∈ R.getD j [], i < j := by
  intro j
  induction j using Nat.strongRecOn with
  | ind j ih =>
    intro hlt i hi
    unfold tasksOk at hok
    simp only [Bool.and_eq_true] at hok
    have h1 := List.all_eq_true.1 hok.2 j (by simpa using hlt)
    rw [Array.getElem?_eq_getElem hlt] at h1
    simp only [Bool.and_eq_true] at h1
    have h2 := List.all_eq_true.1 h1.1 i hi
    obtain ⟨e, he, hc⟩ := List.any_eq_true.1 h2
    simp only [Bool.and_eq_true, Bool.or_eq_true, decide_eq_true_eq, beq_iff_eq, List.contains_iff_mem] at hc
    obtain ⟨⟨hb, hej⟩, hc⟩ := hc
    rcases hc with rfl | hc
    · exact hej
    · have := ih e.on hej (by omega) i hc
      omega

theorem tasks_spec {ops : Array Oper} {m sz : Nat} {R : List (List Nat)} (hok : tasksOk ops m sz R = true) :
    m ≤ ops.size ∧ (∀ (j : Nat) (o : Oper), ops[j]? = some o → j < m → (∀ e ∈ o.after, Region.binds .any e = true → e.on < j) ∧ (∃ d, o.dst = some d ∧ d < sz ∧ ∀ i, i < m → i ≠ j → dstOf ops i ≠ some d) ∧
      ∀ t ∈ o.looksAt ops, ∀ i, i < m → dstOf ops i = some t → i ∈ R.getD j []) ∧ (∀ (j : Nat), j < ops.size → m ≤ j → ∀ i, i < m → i ∈ R.getD j []) := by
  unfold tasksOk at hok
  simp only [Bool.and_eq_true, decide_eq_true_eq] at hok
  obtain ⟨⟨_, hm⟩, hall⟩ := hok
  refine ⟨hm, fun j o ho hj => ?_, fun j hlt hj i hi => ?_⟩
  · have hlt : j < ops.size := (Array.getElem?_eq_some_iff.1 ho).1
    have h1 := List.all_eq_true.1 hall j (by simpa using hlt)
    rw [ho] at h1
    simp only [Bool.and_eq_true, if_pos hj] at h1
    obtain ⟨_, ⟨h2, h3⟩, h4⟩ := h1
    refine ⟨fun e he hb => ?_, ?_, fun t ht i hi hd => ?_⟩
    · have := List.all_eq_true.1 h2 e (by simpa using he)
      simpa [hb] using this
    · cases hd : o.dst with
      | none => rw [hd] at h3; cases h3
      | some d =>
        rw [hd] at h3
        simp only [Bool.and_eq_true, decide_eq_true_eq] at h3
        refine ⟨d, rfl, h3.1, fun i hi hne => ?_⟩
        have := List.all_eq_true.1 h3.2 i (by simpa using hi)
        simpa [hne] using this
    · have := List.all_eq_true.1 (List.all_eq_true.1 h4 t ht) i (by simpa using hi)
      simpa [hd] using this
  · have h1 := List.all_eq_true.1 hall j (by simpa using hlt)
    rw [Array.getElem?_eq_getElem hlt] at h1
    simp only [Bool.and_eq_true, if_neg (Nat.not_lt.2 hj)] at h1
    have := List.all_eq_true.1 h1.2 i (by simpa using hi)
    simpa using this

theorem wanted_same {o : Oper} {t1 t2 : Array Value} (h : ∀ t ∈ o.looksAt ops, t1[t]? = t2[t]?) : Region.wanted o (yielded ops t1) = Region.wanted o (yielded ops t2) := by
  unfold Region.wanted
  cases hg : o.guard with
  | none => rfl
  | some gw =>
    obtain ⟨g, want⟩ := gw
    have hy : yielded ops t1 g = yielded ops t2 g := by
      unfold yielded
      cases ht : (ops[g]?).bind (·.dst) with
      | none => rfl
      | some t =>
        have := h t (by simp [Oper.looksAt, hg, ht])
        simp [this]
    simp only [hy]

theorem exec_same {o : Oper} {a1 a2 : Act} (hs : ∀ cs b, o.op ≠ .select cs b) (h : ∀ t ∈ o.looksAt ops, a1.tmps[t]? = a2.tmps[t]?) : execOp a1.eval o = execOp a2.eval o :=
  execOp_congr o hs fun x hx => by
    cases x with
    | tmp t =>
      have := h t (List.mem_append_left _ (List.mem_filterMap.2 ⟨.tmp t, by simpa using hx, rfl⟩))
      simp [Act.eval, this]
    | _ => rfl

theorem min_mem : ∀ (U : List Nat), U ≠ [] → ∃ i ∈ U, ∀ k ∈ U, i ≤ k
  | [], h => absurd rfl h
  | [i], _ => ⟨i, by simp, by simp⟩
  | i :: j :: r, _ => by
    obtain ⟨k, hk, hmin⟩ := min_mem (j :: r) (by simp)
    by_cases h : i ≤ k
    · exact ⟨i, by simp, fun l hl => by
        rcases List.mem_cons.1 hl with rfl | hl
        · exact Nat.le_refl _
        · exact Nat.le_trans h (hmin l hl)⟩
    · exact ⟨k, List.mem_cons_of_mem _ hk, fun l hl => by
        rcases List.mem_cons.1 hl with rfl | hl
        · omega
        · exact hmin l hl⟩

/-- The first m of n have been listed. -/
def listedTo (n m : Nat) : Array Bool := ((List.range n).map fun i => decide (i < m)).toArray

theorem tasks_go {m : Nat} {R : List (List Nat)} {V : List VP} {S : World → Prop} {a0 : Act} (hok : tasksOk ops m a0.tmps.size R = true)
    (hSt : ∀ w w', S w → Below w.heap.size w w' → S w') (hob : ∀ x j, j < m → Ob P ops S R V x a0 j)
    (hend : ∀ x w', S w' → (∀ i, i < m → (V.getD i VAny).p (x i) w') → wpAny P .any ops Q (ops.size - m) (listedTo ops.size m) (putS ops x a0 m) w') :
    ∀ (c : Nat) (U : List Nat) (listed : Array Bool) (w : World) (x : Nat → Value), U.length = c → U.Nodup → (∀ i, i ∈ U ↔ i < m ∧ listed.getD i false = false) → listed.size = ops.size →
      (∀ i, m ≤ i → i < ops.size → listed.getD i false = false) → (∀ (j : Nat) (o : Oper), ops[j]? = some o → listed.getD j false = true → ∀ e ∈ o.after, Region.binds .any e = true → listed.getD e.on false = true) →
      S w → (∀ i, i < m → listed.getD i false = true → (V.getD i VAny).p (x i) w) → wpAny P .any ops Q (ops.size - m + c) listed (putD ops (fun i => listed.getD i false) x a0 m) w := by
  obtain ⟨hmn, hspec, htail⟩ := tasks_spec hok
  have hsel : Region.noSelect ops = true := by unfold tasksOk at hok; simp only [Bool.and_eq_true] at hok; exact hok.1.1
  intro c
  induction c with
  | zero =>
    intro U listed w x hU hnd hmem hsz hun hcl hS hV
    obtain rfl : U = [] := List.eq_nil_of_length_eq_zero hU
    have hall : ∀ i, i < m → listed.getD i false = true := fun i hi => by
      cases h : listed.getD i false
      · exact absurd ((hmem i).2 ⟨hi, h⟩) (by simp)
      · rfl
    have hl : listed = listedTo ops.size m := by
      apply Array.ext
      · simp [listedTo, hsz]
      · intro i h1 h2
        have e : listed.getD i false = listed[i] := by simp [Array.getD, h1]
        by_cases hi : i < m
        · have := hall i hi
          rw [e] at this
          simp [listedTo, this, hi]
        · have := hun i (by omega) (by omega)
          rw [e] at this
          simp [listedTo, this, hi]
    rw [Nat.add_zero, putD_congr (ops := ops) _ (fun _ => true) x x a0 m (fun i hi => ⟨hall i hi, fun _ => rfl⟩), hl]
    exact hend x w hS (fun i hi => hV i hi (hall i hi))
  | succ c ih =>
    intro U listed w x hU hnd hmem hsz hun hcl hS hV
    have hne : U ≠ [] := fun e => by rw [e] at hU; simp at hU
    show (_ → _) ∧ _
    refine ⟨fun hr => ?_, fun i hi => ?_⟩
    · exfalso
      obtain ⟨i, hiU, hmin⟩ := min_mem U hne
      obtain ⟨him, hil⟩ := (hmem i).1 hiU
      have hlt : i < ops.size := by omega
      have : i ∈ Region.ready .any ops listed := mem_ready.2 ⟨by simpa [Array.getD, hsz, hlt] using hil, _, Array.getElem?_eq_getElem hlt, fun e he hb => by
        have hlti := (hspec i _ (Array.getElem?_eq_getElem hlt) him).1 e he hb
        cases h : listed.getD e.on false
        · have := hmin e.on ((hmem _).2 ⟨by omega, h⟩); omega
        · rfl⟩
      rw [hr] at this
      cases this
    · obtain ⟨hil, o, ho, hdeps⟩ := mem_ready.1 hi
      have hlt : i < ops.size := (Array.getElem?_eq_some_iff.1 ho).1
      have hil' : listed.getD i false = false := by simpa [Array.getD, hsz, hlt] using hil
      have hreach := listed_reach hok (fun i => listed.getD i false) hcl i o ho hdeps
      have him : i < m := by
        rcases Nat.lt_or_ge i m with h | h
        · exact h
        · exfalso
          obtain ⟨k, hk⟩ := List.exists_mem_of_ne_nil U hne
          obtain ⟨hkm, hkl⟩ := (hmem k).1 hk
          have := hreach k (htail i hlt h k hkm)
          rw [hkl] at this; cases this
      obtain ⟨_, ⟨d, hd, hdsz, hduniq⟩, hlook⟩ := hspec i o ho him
      have hdst : dstOf ops i = some d := by simp [dstOf, ho, hd]
      have hso : ∀ cs b, o.op ≠ .select cs b := fun cs b => Region.noSelect_spec hsel i o cs b ho
      -- the two frames agree on what o looks at
      have hagree : ∀ t ∈ o.looksAt ops, (putD ops (fun i => listed.getD i false) x a0 m).tmps[t]? = (putS ops x a0 i).tmps[t]? := fun t ht => by
        by_cases hex : ∃ k, k < m ∧ dstOf ops k = some t
        · obtain ⟨k, hkm, hkd⟩ := hex
          have hkR := hlook t ht k hkm hkd
          have hki := reach_lt hok i hlt k hkR
          have hkl := hreach k hkR
          have hks : k < ops.size := by omega
          obtain ⟨_, ⟨d', hd', hdsz', hu'⟩, _⟩ := hspec k _ (Array.getElem?_eq_getElem hks) hkm
          have htd : d' = t := by
            have : dstOf ops k = some d' := by simp [dstOf, Array.getElem?_eq_getElem hks, hd']
            rw [hkd] at this; injection this with this; exact this.symm
          rw [putD_at _ _ _ _ k hkd hkl (htd ▸ hdsz') m hkm (fun l hl hlk => htd ▸ hu' l hl hlk)]
          unfold putS
          rw [putD_at _ _ _ _ k hkd rfl (htd ▸ hdsz') i hki (fun l hl hlk => htd ▸ hu' l (by omega) hlk)]
        · rw [putD_other _ _ _ _ m (fun k hk hkd => absurd ⟨k, hk, hkd⟩ hex)]
          unfold putS
          rw [putD_other _ _ _ _ i (fun k hk hkd => absurd ⟨k, by omega, hkd⟩ hex)]
      have hob' := hob x i him w hS (fun k hk => hV k (by have := reach_lt hok i hlt k hk; omega) (hreach k hk))
      have hsz1 := putD_size (ops := ops) (fun _ => true) x a0 i
      -- what comes behind
      have next : ∀ v w', (V.getD i VAny).p v w' → Below w.heap.size w w' → wpAny P .any ops Q (ops.size - m + c) (listed.setIfInBounds i true) ((putD ops (fun i => listed.getD i false) x a0 m).put (some d) v) w' := fun v w' hv hb => by
        have hput := putD_put (ops := ops) (fun k => listed.getD k false) (fun k => (listed.setIfInBounds i true).getD k false) x (fun k => if k = i then v else x k) a0 i hil'
          (by simp [hsz, hlt]) (fun k hk => ⟨by rw [getD_set_ne _ (Ne.symm hk)], by simp [hk]⟩) m him
          (fun d' k hk hki hd' => by rw [hdst] at hd'; injection hd' with hd'; exact hd' ▸ hduniq k hk hki)
        simp only [if_true] at hput
        rw [← hdst, hput]
        refine ih (U.erase i) _ _ _ ?_ (hnd.erase _) (fun k => ?_) (by simpa using hsz) (fun k h1 h2 => ?_) (fun j oj hoj hj e he hb' => ?_) (hSt _ _ hS hb) (fun k hk hkl => ?_)
        · rw [List.length_erase_of_mem ((hmem i).2 ⟨him, hil'⟩), hU]; rfl
        · rw [hnd.mem_erase_iff, hmem]
          by_cases hk : k = i
          · subst hk; simp [hsz, hlt]
          · rw [getD_set_ne _ (Ne.symm hk)]; simp [hk]
        · rw [getD_set_ne _ (by omega)]; exact hun k h1 h2
        · by_cases hji : j = i
          · subst hji
            rw [ho] at hoj; injection hoj with hoj; subst hoj
            exact getD_set_true (hdeps e he hb')
          · rw [getD_set_ne _ (Ne.symm hji)] at hj
            exact getD_set_true (hcl j oj hoj hj e he hb')
        · by_cases hki : k = i
          · subst hki; simpa using hv
          · rw [getD_set_ne _ (Ne.symm hki)] at hkl
            simp only [hki, if_false]
            exact (V.getD k VAny).st _ _ _ (hV k hk hkl) hb
      unfold wpOp at hob' ⊢
      simp only [ho] at hob' ⊢
      rw [wanted_same hagree]
      split
      · rename_i hw
        rw [if_pos hw] at hob'
        rcases hob' with h | ⟨_, h⟩
        case inr => exact absurd h NoWay.lets
        refine .inl (Oper.wp_mono ?_ (wp_move (Q := Q) (d := d) (R := fun v w' => (V.getD i VAny).p v w' ∧ Below w.heap.size w w') (exec_same hso hagree) hd (by unfold putS; rw [hsz1.1]; exact hdsz)
          (Oper.wp_mono (fun a' w' ⟨v, h1, h2, h3, h4⟩ => ⟨v, h1 d hdst, by unfold putS; rw [hsz1.2]; exact h2, h3, h4⟩) h)))
        rintro a' w' ⟨v, rfl, hv, hb⟩
        exact next v w' hv hb
      · rename_i hw
        rw [if_neg hw] at hob'
        obtain ⟨v, h1, _, h3, h4⟩ := hob'
        have hvu : v = undef := by
          have := h1 d hdst
          rw [hd] at this
          simp [Act.put, putS, hsz1.1, hdsz] at this
          exact this.symm
        rw [hd]
        exact next undef w (hvu ▸ h3) h4

/-- **A region that draws its order**: each of its first m operations is shown once; what is left behind them goes on. -/
theorem wp_tasks {id m : Nat} (R : List (List Nat)) (V : List VP) (S : World → Prop) {a0 : Act} {w : World} (hm : P.follows .mixedOrders = true) (hok : tasksOk ops m a0.tmps.size R = true)
    (hS0 : S w.drew) (hSt : ∀ w w', S w → Below w.heap.size w w' → S w') (hob : ∀ x j, j < m → Ob P ops S R V x a0 j)
    (hend : ∀ x w', S w' → (∀ i, i < m → (V.getD i VAny).p (x i) w') → wpAny P .any ops Q (ops.size - m) (listedTo ops.size m) (putS ops x a0 m) w') : (Code.region id ops true).wp P Q a0 w := by
  have hmn := (tasks_spec hok).1
  have hf : ∀ i, (Array.replicate ops.size false).getD i false = false := fun i => by simp [Array.getD]
  have h := tasks_go (Q := Q) hok hSt hob hend m (List.range m) (Array.replicate ops.size false) w.drew (fun _ => undef) (by simp) List.nodup_range (fun i => by rw [hf]; simp) (by simp) (fun i _ _ => hf i) (fun j o _ hj => by rw [hf] at hj; cases hj) hS0
    (fun i _ hi => by rw [hf] at hi; cases hi)
  refine wp_region_any hm ?_
  rw [show ops.size - m + m = ops.size by omega, putD_congr (ops := ops) _ (fun _ => false) _ (fun _ => undef) a0 m (fun i _ => ⟨hf i, fun _ => rfl⟩)] at h
  have e : ∀ n, putD ops (fun _ => false) (fun _ => undef) a0 n = a0 := fun n => by
    induction n with
    | zero => rfl
    | succ n ih => unfold putD; simpa using ih
  rw [e] at h
  exact h

/-- What is to be shown, operation by operation, in the text's order; the frame goes along. -/
def Obs (P : Program) (ops : Array Oper) (Q : Exit → Act → World → Prop) (S : World → Prop) (R : List (List Nat)) (V : List VP) (x : Nat → Value) : Nat → Nat → Act → Prop
  | 0, j, a => ∀ w, S w → (∀ i, i < j → (V.getD i VAny).p (x i) w) → wpAny P .any ops Q (ops.size - j) (listedTo ops.size j) a w
  | r + 1, j, a => (∀ w, S w → (∀ i ∈ R.getD j [], (V.getD i VAny).p (x i) w) →
      wpOp P ops NoWay j (fun a' w' => ∃ v, (∀ d, dstOf ops j = some d → a'.tmps[d]? = some v) ∧ a'.defers = a.defers ∧ (V.getD j VAny).p v w' ∧ Below w.heap.size w w') a w) ∧
    Obs P ops Q S R V x r (j + 1) (a.put (dstOf ops j) (x j))

theorem obs_all {S : World → Prop} {R : List (List Nat)} {V : List VP} {x : Nat → Value} {a0 : Act} : ∀ (r j : Nat), Obs P ops Q S R V x r j (putS ops x a0 j) →
    (∀ k, j ≤ k → k < j + r → Ob P ops S R V x a0 k) ∧ ∀ w, S w → (∀ i, i < j + r → (V.getD i VAny).p (x i) w) → wpAny P .any ops Q (ops.size - (j + r)) (listedTo ops.size (j + r)) (putS ops x a0 (j + r)) w := by
  intro r
  induction r with
  | zero => intro j h; exact ⟨fun k h1 h2 => by omega, h⟩
  | succ r ih =>
    intro j h
    obtain ⟨h1, h2⟩ := h
    have h2' : Obs P ops Q S R V x r (j + 1) (putS ops x a0 (j + 1)) := h2
    obtain ⟨h3, h4⟩ := ih (j + 1) h2'
    refine ⟨fun k hk1 hk2 => ?_, by rw [show j + (r + 1) = j + 1 + r by omega]; exact h4⟩
    by_cases hk : k = j
    · subst hk
      intro w hS hV
      have h := h1 w hS hV
      rw [show (putS ops x a0 k).defers = a0.defers from (putD_size _ _ _ _).2] at h
      exact h
    · exact h3 k (by omega) (by omega)

theorem wp_obs {id : Nat} (m : Nat) (R : List (List Nat)) (V : List VP) (S : World → Prop) {a0 : Act} {w : World} (hm : P.follows .mixedOrders = true) (hok : tasksOk ops m a0.tmps.size R = true)
    (hSt : ∀ w w', S w → Below w.heap.size w w' → S w') (hS0 : S w.drew) (h : ∀ x, Obs P ops Q S R V x m 0 a0) : (Code.region id ops true).wp P Q a0 w :=
  wp_tasks (m := m) R V S hm hok hS0 hSt (fun x j hj => (obs_all m 0 (h x)).1 j (by omega) (by omega)) (fun x w' hS hV => by
    have := (obs_all m 0 (h x)).2 w' hS (by rw [Nat.zero_add]; exact hV)
    rwa [Nat.zero_add] at this)

theorem obs_step {S : World → Prop} {R : List (List Nat)} {V : List VP} {x : Nat → Value} {r j : Nat} {a : Act} {o : Oper} {d : Tmp} (ho : ops[j]? = some o) (hd : o.dst = some d)
    (h : ∀ w, S w → (∀ i ∈ R.getD j [], (V.getD i VAny).p (x i) w) → ∀ K : Act → World → Prop, Shut (∀ a' w' v, a'.tmps[d]? = some v → a'.defers = a.defers → (V.getD j VAny).p v w' → Below w.heap.size w w' → K a' w') →
      if Region.wanted o (yielded ops a.tmps) = true then Oper.wp P o a w K NoWay else K (a.put o.dst undef) w)
    (hr : Obs P ops Q S R V x r (j + 1) { a with tmps := a.tmps.setIfInBounds d (x j) }) : Obs P ops Q S R V x (r + 1) j a := by
  have hdst : dstOf ops j = some d := by simp [dstOf, ho, hd]
  refine ⟨fun w hS hV => wpOp_step ho (fun K hK => ?_), by rw [hdst]; exact hr⟩
  exact h w hS hV K (fun a' w' v h1 h2 h3 h4 => hK a' w' ⟨v, fun d' hd' => by rw [hdst] at hd'; injection hd' with hd'; exact hd' ▸ h1, h2, h3, h4⟩)

theorem any_one {fuel j : Nat} {listed : Array Bool} {a : Act} {w : World} {o : Oper} (hr : Region.ready .any ops listed = [j]) (ho : ops[j]? = some o)
    (h : ∀ K : Act → World → Prop, Shut (∀ a w, wpAny P .any ops Q fuel (listed.setIfInBounds j true) a w → K a w) → if Region.wanted o (yielded ops a.tmps) = true then Oper.wp P o a w K Q else K (a.put o.dst undef) w) :
    wpAny P .any ops Q (fuel + 1) listed a w :=
  wpAny_all hr (by simp) (fun i hi => by
    obtain rfl : i = j := by simpa using hi
    exact wpOp_step ho (fun K hK => h K hK))

/-- .. an operation without a guard. -/
theorem any_plain {fuel j : Nat} {listed : Array Bool} {a : Act} {w : World} {o : Oper} (hr : Region.ready .any ops listed = [j]) (ho : ops[j]? = some o) (hg : o.guard = none)
    (h : ∀ K : Act → World → Prop, Shut (∀ a w, wpAny P .any ops Q fuel (listed.setIfInBounds j true) a w → K a w) → Oper.wp P o a w K Q) : wpAny P .any ops Q (fuel + 1) listed a w :=
  any_one hr ho (fun K hK => by
    have : Region.wanted o (yielded ops a.tmps) = true := by unfold Region.wanted; rw [hg]
    rw [if_pos this]
    exact h K hK)

end
end Go.Proofs.YtommppijnccomaaGreat

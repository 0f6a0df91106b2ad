/-
  A region that draws its order, walked once, where what one operation's value is good for may tell of the values of those that it waits for, and where an operation may use up what others have yielded (an append in place).
-/
import Derived.Test.YtommppijnccomaaGreatTasks
namespace Go.Proofs.YtommppijnccomaaGreat
open Go.RowKit
section
variable {P : Program} {ops : Array Oper} {Q : Exit → Act → World → Prop}

/-- Those whose values are good still when operation j is done (C: what each uses up). -/
def availL (R C : List (List Nat)) (m j : Nat) : List Nat := (R.getD j []).filter fun i => (List.range m).all fun k => !((C.getD k []).contains i) || k == j || (R.getD k []).contains j
/-- .. and at the end of the first m. -/
def endL (C : List (List Nat)) (m : Nat) : List Nat := (List.range m).filter fun i => (List.range m).all fun k => !((C.getD k []).contains i)
/-- Below what operation j leaves all as it was. -/
def lim (C : List (List Nat)) (B : Nat) (j : Nat) (w : World) : Nat := if (C.getD j []).isEmpty then w.heap.size else B
theorem not_contains {L : List Nat} {i : Nat} : (!(L.contains i)) = true ↔ i ∉ L := by
  rw [Bool.not_eq_true', ← Bool.not_eq_true, List.contains_iff_mem]
theorem avail_spec {R C : List (List Nat)} {m j i : Nat} : i ∈ availL R C m j ↔ i ∈ R.getD j [] ∧ ∀ k, k < m → i ∈ C.getD k [] → k = j ∨ j ∈ R.getD k [] := by
  unfold availL
  rw [List.mem_filter, List.all_eq_true]
  refine and_congr_right fun _ => ⟨fun h k hk hi => ?_, fun h k hk => ?_⟩
  · have h1 := h k (List.mem_range.2 hk)
    rw [Bool.or_eq_true, Bool.or_eq_true, not_contains, beq_iff_eq, List.contains_iff_mem] at h1
    rcases h1 with (h1 | h1) | h1
    · exact absurd hi h1
    · exact .inl h1
    · exact .inr h1
  · rw [Bool.or_eq_true, Bool.or_eq_true, not_contains, beq_iff_eq, List.contains_iff_mem]
    by_cases hi : i ∈ C.getD k []
    · rcases h k (List.mem_range.1 hk) hi with h1 | h1
      · exact .inl (.inr h1)
      · exact .inr h1
    · exact .inl (.inl hi)
theorem end_spec {C : List (List Nat)} {m i : Nat} : i ∈ endL C m ↔ i < m ∧ ∀ k, k < m → i ∉ C.getD k [] := by
  unfold endL
  rw [List.mem_filter, List.all_eq_true, List.mem_range]
  exact and_congr_right fun _ => ⟨fun h k hk => not_contains.1 (h k (List.mem_range.2 hk)), fun h k hk => not_contains.2 (h k (List.mem_range.1 hk))⟩
/-- What is to be shown of operation j. -/
def ObD (P : Program) (ops : Array Oper) (S : World → Prop) (R C : List (List Nat)) (B m : Nat) (V : (Nat → Value) → List VP) (x : Nat → Value) (a0 : Act) (j : Nat) : Prop :=
  ∀ w, S w → (∀ i ∈ availL R C m j, ((V x).getD i VAny).p (x i) w) →
    wpOp P ops NoWay j (fun a' w' => ∃ v, (∀ d, dstOf ops j = some d → a'.tmps[d]? = some v) ∧ a'.defers = a0.defers ∧ ((V x).getD j VAny).p v w' ∧ Below (lim C B j w) w w') (putS ops x a0 j) w

theorem tasks_goD {m B : Nat} {R C : List (List Nat)} {V : (Nat → Value) → List VP} {S : World → Prop} {a0 : Act} (hok : tasksOk ops m a0.tmps.size R = true)
    (hdep : ∀ x x' j, (∀ i ∈ R.getD j [], x i = x' i) → (V x).getD j VAny = (V x').getD j VAny) (hweak : ∀ i, i < m → (C.getD i []).isEmpty = false → ∀ k, k < m → k ≠ i → i ∉ R.getD k [] → k ∉ C.getD i [] → ∀ x v w w', ((V x).getD k VAny).p v w → Below B w w' → ((V x).getD k VAny).p v w') (hSt : ∀ j w w', S w → Below (lim C B j w) w w' → S w') (hob : ∀ x j, j < m → ObD P ops S R C B m V x a0 j)
    (hend : ∀ x w', S w' → (∀ i ∈ endL C m, ((V x).getD i VAny).p (x i) w') → wpAny P .any ops Q (ops.size - m) (listedTo ops.size m) (putS ops x a0 m) w') :
    ∀ (c : Nat) (U : List Nat) (listed : Array Bool) (w : World) (x : Nat → Value), U.length = c → U.Nodup → (∀ i, i ∈ U ↔ i < m ∧ listed.getD i false = false) → listed.size = ops.size →
      (∀ i, m ≤ i → i < ops.size → listed.getD i false = false) → (∀ (j : Nat) (o : Oper), ops[j]? = some o → listed.getD j false = true → ∀ e ∈ o.after, Region.binds .any e = true → listed.getD e.on false = true) →
      S w → (∀ i, i < m → listed.getD i false = true → (∀ j, j < m → i ∈ C.getD j [] → listed.getD j false = false) → ((V x).getD i VAny).p (x i) w) → wpAny P .any ops Q (ops.size - m + c) listed (putD ops (fun i => listed.getD i false) x a0 m) w := by
  obtain ⟨hmn, hspec, htail⟩ := tasks_spec hok
  have hsel : Region.noSelect ops = true := by unfold tasksOk at hok; simp only [Bool.and_eq_true] at hok; exact hok.1.1
  intro c
  induction c with
  | zero =>
    intro U listed w x hU hnd hmem hsz hun hcl hS hV
    obtain rfl : U = [] := List.eq_nil_of_length_eq_zero hU
    have hall : ∀ i, i < m → listed.getD i false = true := fun i hi => by
      cases h : listed.getD i false
      · exact absurd ((hmem i).2 ⟨hi, h⟩) (by simp)
      · rfl
    have hl : listed = listedTo ops.size m := by
      apply Array.ext
      · simp [listedTo, hsz]
      · intro i h1 h2
        have e : listed.getD i false = listed[i] := by simp [Array.getD, h1]
        by_cases hi : i < m
        · have := hall i hi
          rw [e] at this
          simp [listedTo, this, hi]
        · have := hun i (by omega) (by omega)
          rw [e] at this
          simp [listedTo, this, hi]
    rw [Nat.add_zero, putD_congr (ops := ops) _ (fun _ => true) x x a0 m (fun i hi => ⟨hall i hi, fun _ => rfl⟩), hl]
    exact hend x w hS (fun i hi => hV i (end_spec.1 hi).1 (hall i (end_spec.1 hi).1) (fun j hj hc => absurd hc ((end_spec.1 hi).2 j hj)))
  | succ c ih =>
    intro U listed w x hU hnd hmem hsz hun hcl hS hV
    have hne : U ≠ [] := fun e => by rw [e] at hU; simp at hU
    show (_ → _) ∧ _
    refine ⟨fun hr => ?_, fun i hi => ?_⟩
    · exfalso
      obtain ⟨i, hiU, hmin⟩ := min_mem U hne
      obtain ⟨him, hil⟩ := (hmem i).1 hiU
      have hlt : i < ops.size := by omega
      have : i ∈ Region.ready .any ops listed := mem_ready.2 ⟨by simpa [Array.getD, hsz, hlt] using hil, _, Array.getElem?_eq_getElem hlt, fun e he hb => by
        have hlti := (hspec i _ (Array.getElem?_eq_getElem hlt) him).1 e he hb
        cases h : listed.getD e.on false
        · have := hmin e.on ((hmem _).2 ⟨by omega, h⟩); omega
        · rfl⟩
      rw [hr] at this
      cases this
    · obtain ⟨hil, o, ho, hdeps⟩ := mem_ready.1 hi
      have hlt : i < ops.size := (Array.getElem?_eq_some_iff.1 ho).1
      have hil' : listed.getD i false = false := by simpa [Array.getD, hsz, hlt] using hil
      have hreach := listed_reach hok (fun i => listed.getD i false) hcl i o ho hdeps
      have him : i < m := by
        rcases Nat.lt_or_ge i m with h | h
        · exact h
        · exfalso
          obtain ⟨k, hk⟩ := List.exists_mem_of_ne_nil U hne
          obtain ⟨hkm, hkl⟩ := (hmem k).1 hk
          have := hreach k (htail i hlt h k hkm)
          rw [hkl] at this; cases this
      obtain ⟨_, ⟨d, hd, hdsz, hduniq⟩, hlook⟩ := hspec i o ho him
      have hdst : dstOf ops i = some d := by simp [dstOf, ho, hd]
      have hso : ∀ cs b, o.op ≠ .select cs b := fun cs b => Region.noSelect_spec hsel i o cs b ho
      -- the two frames agree on what o looks at
      have hagree : ∀ t ∈ o.looksAt ops, (putD ops (fun i => listed.getD i false) x a0 m).tmps[t]? = (putS ops x a0 i).tmps[t]? := fun t ht => by
        by_cases hex : ∃ k, k < m ∧ dstOf ops k = some t
        · obtain ⟨k, hkm, hkd⟩ := hex
          have hkR := hlook t ht k hkm hkd
          have hki := reach_lt hok i hlt k hkR
          have hkl := hreach k hkR
          have hks : k < ops.size := by omega
          obtain ⟨_, ⟨d', hd', hdsz', hu'⟩, _⟩ := hspec k _ (Array.getElem?_eq_getElem hks) hkm
          have htd : d' = t := by
            have : dstOf ops k = some d' := by simp [dstOf, Array.getElem?_eq_getElem hks, hd']
            rw [hkd] at this; injection this with this; exact this.symm
          rw [putD_at _ _ _ _ k hkd hkl (htd ▸ hdsz') m hkm (fun l hl hlk => htd ▸ hu' l hl hlk)]
          unfold putS
          rw [putD_at _ _ _ _ k hkd rfl (htd ▸ hdsz') i hki (fun l hl hlk => htd ▸ hu' l (by omega) hlk)]
        · rw [putD_other _ _ _ _ m (fun k hk hkd => absurd ⟨k, hk, hkd⟩ hex)]
          unfold putS
          rw [putD_other _ _ _ _ i (fun k hk hkd => absurd ⟨k, by omega, hkd⟩ hex)]
      have hob' := hob x i him w hS (fun k hk => by
        obtain ⟨hkR, hkC⟩ := avail_spec.1 hk
        refine hV k (by have := reach_lt hok i hlt k hkR; omega) (hreach k hkR) (fun j hj hc => ?_)
        rcases hkC j hj hc with rfl | hij
        · exact hil'
        · cases hjl : listed.getD j false
          · rfl
          · have hjs : j < ops.size := by omega
            have := listed_reach hok (fun i => listed.getD i false) hcl j _ (Array.getElem?_eq_getElem hjs) (hcl j _ (Array.getElem?_eq_getElem hjs) hjl) i hij
            rw [hil'] at this; cases this)
      have hsz1 := putD_size (ops := ops) (fun _ => true) x a0 i
      -- what comes behind
      have next : ∀ v w', ((V x).getD i VAny).p v w' → Below (lim C B i w) w w' → wpAny P .any ops Q (ops.size - m + c) (listed.setIfInBounds i true) ((putD ops (fun i => listed.getD i false) x a0 m).put (some d) v) w' := fun v w' hv hb => by
        have hput := putD_put (ops := ops) (fun k => listed.getD k false) (fun k => (listed.setIfInBounds i true).getD k false) x (fun k => if k = i then v else x k) a0 i hil'
          (by simp [hsz, hlt]) (fun k hk => ⟨by rw [getD_set_ne _ (Ne.symm hk)], by simp [hk]⟩) m him
          (fun d' k hk hki hd' => by rw [hdst] at hd'; injection hd' with hd'; exact hd' ▸ hduniq k hk hki)
        simp only [if_true] at hput
        rw [← hdst, hput]
        refine ih (U.erase i) _ _ _ ?_ (hnd.erase _) (fun k => ?_) (by simpa using hsz) (fun k h1 h2 => ?_) (fun j oj hoj hj e he hb' => ?_) (hSt i _ _ hS hb) (fun k hk hkl hcons => ?_)
        · rw [List.length_erase_of_mem ((hmem i).2 ⟨him, hil'⟩), hU]; rfl
        · rw [hnd.mem_erase_iff, hmem]
          by_cases hk : k = i
          · subst hk; simp [hsz, hlt]
          · rw [getD_set_ne _ (Ne.symm hk)]; simp [hk]
        · rw [getD_set_ne _ (by omega)]; exact hun k h1 h2
        · by_cases hji : j = i
          · subst hji
            rw [ho] at hoj; injection hoj with hoj; subst hoj
            exact getD_set_true (hdeps e he hb')
          · rw [getD_set_ne _ (Ne.symm hji)] at hj
            exact getD_set_true (hcl j oj hoj hj e he hb')
        · by_cases hki : k = i
          · subst hki
            rw [hdep _ x k (fun l hl => by have := reach_lt hok k hlt l hl; simp only [show l ≠ k by omega, if_false])]
            simpa using hv
          · rw [getD_set_ne _ (Ne.symm hki)] at hkl
            have hks : k < ops.size := by omega
            have hdk : (V fun l => if l = i then v else x l).getD k VAny = (V x).getD k VAny := hdep _ x k (fun l hl => by
              have hll := listed_reach hok (fun i => listed.getD i false) hcl k _ (Array.getElem?_eq_getElem hks) (hcl k _ (Array.getElem?_eq_getElem hks) hkl) l hl
              have hne : l ≠ i := fun e => by rw [e] at hll; rw [hil'] at hll; cases hll
              simp only [hne, if_false])
            simp only [hki, if_false]
            rw [hdk]
            have hb0 : ∀ j, j < m → k ∈ C.getD j [] → listed.getD j false = false := fun j hj hc => by
              have h1 := hcons j hj hc
              by_cases hji : j = i
              · rw [hji]; exact hil'
              · rwa [getD_set_ne _ (Ne.symm hji)] at h1
            have hkC : k ∉ C.getD i [] := fun hc => by
              have h1 := hcons i him hc
              simp [hsz, hlt] at h1
            have hiR : i ∉ R.getD k [] := fun hik => by
              have := listed_reach hok (fun i => listed.getD i false) hcl k _ (Array.getElem?_eq_getElem hks) (hcl k _ (Array.getElem?_eq_getElem hks) hkl) i hik
              rw [hil'] at this; cases this
            cases he : (C.getD i []).isEmpty
            · rw [show lim C B i w = B by unfold lim; rw [he]; rfl] at hb
              exact hweak i him he k hk hki hiR hkC x _ _ _ (hV k hk hkl hb0) hb
            · rw [show lim C B i w = w.heap.size by unfold lim; rw [he]; rfl] at hb
              exact ((V x).getD k VAny).st _ _ _ (hV k hk hkl hb0) hb
      unfold wpOp at hob' ⊢
      simp only [ho] at hob' ⊢
      rw [wanted_same hagree]
      split
      · rename_i hw
        rw [if_pos hw] at hob'
        rcases hob' with h | ⟨_, h⟩
        case inr => exact absurd h NoWay.lets
        refine .inl (Oper.wp_mono ?_ (wp_move (Q := Q) (d := d) (R := fun v w' => ((V x).getD i VAny).p v w' ∧ Below (lim C B i w) w w') (exec_same hso hagree) hd (by unfold putS; rw [hsz1.1]; exact hdsz)
          (Oper.wp_mono (fun a' w' ⟨v, h1, h2, h3, h4⟩ => ⟨v, h1 d hdst, by unfold putS; rw [hsz1.2]; exact h2, h3, h4⟩) h)))
        rintro a' w' ⟨v, rfl, hv, hb⟩
        exact next v w' hv hb
      · rename_i hw
        rw [if_neg hw] at hob'
        obtain ⟨v, h1, _, h3, h4⟩ := hob'
        have hvu : v = undef := by
          have := h1 d hdst
          rw [hd] at this
          simp [Act.put, putS, hsz1.1, hdsz] at this
          exact this.symm
        rw [hd]
        exact next undef w (hvu ▸ h3) h4

/-- **A region that draws its order**: each of its first m operations is shown once; what is left behind them goes on. -/
theorem wp_tasksD {id m B : Nat} (R C : List (List Nat)) (V : (Nat → Value) → List VP) (S : World → Prop) {a0 : Act} {w : World} (hm : P.follows .mixedOrders = true) (hok : tasksOk ops m a0.tmps.size R = true)
    (hdep : ∀ x x' j, (∀ i ∈ R.getD j [], x i = x' i) → (V x).getD j VAny = (V x').getD j VAny) (hweak : ∀ i, i < m → (C.getD i []).isEmpty = false → ∀ k, k < m → k ≠ i → i ∉ R.getD k [] → k ∉ C.getD i [] → ∀ x v w w', ((V x).getD k VAny).p v w → Below B w w' → ((V x).getD k VAny).p v w') (hS0 : S w.drew) (hSt : ∀ j w w', S w → Below (lim C B j w) w w' → S w') (hob : ∀ x j, j < m → ObD P ops S R C B m V x a0 j)
    (hend : ∀ x w', S w' → (∀ i ∈ endL C m, ((V x).getD i VAny).p (x i) w') → wpAny P .any ops Q (ops.size - m) (listedTo ops.size m) (putS ops x a0 m) w') : (Code.region id ops true).wp P Q a0 w := by
  have hmn := (tasks_spec hok).1
  have hf : ∀ i, (Array.replicate ops.size false).getD i false = false := fun i => by simp [Array.getD]
  have h := tasks_goD (Q := Q) hok hdep hweak hSt hob hend m (List.range m) (Array.replicate ops.size false) w.drew (fun _ => undef) (by simp) List.nodup_range (fun i => by rw [hf]; simp) (by simp) (fun i _ _ => hf i) (fun j o _ hj => by rw [hf] at hj; cases hj) hS0
    (fun i _ hi => by rw [hf] at hi; cases hi)
  refine wp_region_any hm ?_
  rw [show ops.size - m + m = ops.size by omega, putD_congr (ops := ops) _ (fun _ => false) _ (fun _ => undef) a0 m (fun i _ => ⟨hf i, fun _ => rfl⟩)] at h
  have e : ∀ n, putD ops (fun _ => false) (fun _ => undef) a0 n = a0 := fun n => by
    induction n with
    | zero => rfl
    | succ n ih => unfold putD; simpa using ih
  rw [e] at h
  exact h

/-- What is to be shown, operation by operation, in the text's order; the frame goes along. -/
def ObsD (P : Program) (ops : Array Oper) (Q : Exit → Act → World → Prop) (S : World → Prop) (R C : List (List Nat)) (B m : Nat) (V : (Nat → Value) → List VP) (x : Nat → Value) : Nat → Nat → Act → Prop
  | 0, j, a => ∀ w, S w → (∀ i ∈ endL C m, ((V x).getD i VAny).p (x i) w) → wpAny P .any ops Q (ops.size - j) (listedTo ops.size j) a w
  | r + 1, j, a => (∀ w, S w → (∀ i ∈ availL R C m j, ((V x).getD i VAny).p (x i) w) →
      wpOp P ops NoWay j (fun a' w' => ∃ v, (∀ d, dstOf ops j = some d → a'.tmps[d]? = some v) ∧ a'.defers = a.defers ∧ ((V x).getD j VAny).p v w' ∧ Below (lim C B j w) w w') a w) ∧
    ObsD P ops Q S R C B m V x r (j + 1) (a.put (dstOf ops j) (x j))

theorem obs_allD {S : World → Prop} {R C : List (List Nat)} {B m : Nat} {V : (Nat → Value) → List VP} {x : Nat → Value} {a0 : Act} : ∀ (r j : Nat), ObsD P ops Q S R C B m V x r j (putS ops x a0 j) →
    (∀ k, j ≤ k → k < j + r → ObD P ops S R C B m V x a0 k) ∧ ∀ w, S w → (∀ i ∈ endL C m, ((V x).getD i VAny).p (x i) w) → wpAny P .any ops Q (ops.size - (j + r)) (listedTo ops.size (j + r)) (putS ops x a0 (j + r)) w := by
  intro r
  induction r with
  | zero => intro j h; exact ⟨fun k h1 h2 => by omega, h⟩
  | succ r ih =>
    intro j h
    obtain ⟨h1, h2⟩ := h
    have h2' : ObsD P ops Q S R C B m V x r (j + 1) (putS ops x a0 (j + 1)) := h2
    obtain ⟨h3, h4⟩ := ih (j + 1) h2'
    refine ⟨fun k hk1 hk2 => ?_, by rw [show j + (r + 1) = j + 1 + r by omega]; exact h4⟩
    by_cases hk : k = j
    · subst hk
      intro w hS hV
      have h := h1 w hS hV
      rw [show (putS ops x a0 k).defers = a0.defers from (putD_size _ _ _ _).2] at h
      exact h
    · exact h3 k (by omega) (by omega)

theorem wp_obsD {id : Nat} (m B : Nat) (R C : List (List Nat)) (V : (Nat → Value) → List VP) (S : World → Prop) {a0 : Act} {w : World} (hm : P.follows .mixedOrders = true) (hok : tasksOk ops m a0.tmps.size R = true)
    (hdep : ∀ x x' j, (∀ i ∈ R.getD j [], x i = x' i) → (V x).getD j VAny = (V x').getD j VAny) (hweak : ∀ i, i < m → (C.getD i []).isEmpty = false → ∀ k, k < m → k ≠ i → i ∉ R.getD k [] → k ∉ C.getD i [] → ∀ x v w w', ((V x).getD k VAny).p v w → Below B w w' → ((V x).getD k VAny).p v w') (hSt : ∀ j w w', S w → Below (lim C B j w) w w' → S w') (hS0 : S w.drew) (h : ∀ x, ObsD P ops Q S R C B m V x m 0 a0) : (Code.region id ops true).wp P Q a0 w :=
  wp_tasksD (m := m) (B := B) R C V S hm hok hdep hweak hS0 hSt (fun x j hj => (obs_allD m 0 (h x)).1 j (by omega) (by omega)) (fun x w' hS hV => by
    have := (obs_allD m 0 (h x)).2 w' hS (hV)
    rwa [Nat.zero_add] at this)

theorem obs_stepD {S : World → Prop} {R C : List (List Nat)} {B m : Nat} {V : (Nat → Value) → List VP} {x : Nat → Value} {r j : Nat} {a : Act} {o : Oper} {d : Tmp} (ho : ops[j]? = some o) (hd : o.dst = some d)
    (h : ∀ w, S w → (∀ i ∈ availL R C m j, ((V x).getD i VAny).p (x i) w) → ∀ K : Act → World → Prop, Shut (∀ a' w' v, a'.tmps[d]? = some v → a'.defers = a.defers → ((V x).getD j VAny).p v w' → Below (lim C B j w) w w' → K a' w') →
      if Region.wanted o (yielded ops a.tmps) = true then Oper.wp P o a w K NoWay else K (a.put o.dst undef) w)
    (hr : ObsD P ops Q S R C B m V x r (j + 1) { a with tmps := a.tmps.setIfInBounds d (x j) }) : ObsD P ops Q S R C B m V x (r + 1) j a := by
  have hdst : dstOf ops j = some d := by simp [dstOf, ho, hd]
  refine ⟨fun w hS hV => wpOp_step ho (fun K hK => ?_), by rw [hdst]; exact hr⟩
  exact h w hS hV K (fun a' w' v h1 h2 h3 h4 => hK a' w' ⟨v, fun d' hd' => by rw [hdst] at hd'; injection hd' with hd'; exact hd' ▸ h1, h2, h3, h4⟩)

/-- Those that bear an append in place: their values are plain. -/
theorem weak_of {m B : Nat} {R C : List (List Nat)} {V : (Nat → Value) → List VP} (Wk : List Nat)
    (hchk : ((List.range m).all fun i => (C.getD i []).isEmpty || (List.range m).all fun k => k == i || (R.getD k []).contains i || (C.getD i []).contains k || Wk.contains k) = true)
    (hW : ∀ k ∈ Wk, ∀ x, ∃ u, (V x).getD k VAny = VIs u) :
    ∀ i, i < m → (C.getD i []).isEmpty = false → ∀ k, k < m → k ≠ i → i ∉ R.getD k [] → k ∉ C.getD i [] → ∀ x v w w', ((V x).getD k VAny).p v w → Below B w w' → ((V x).getD k VAny).p v w' := by
  intro i hi he k hk hne hR hC x v w w' hp _
  have h1 := List.all_eq_true.1 hchk i (List.mem_range.2 hi)
  rw [he, Bool.false_or] at h1
  have h2 := List.all_eq_true.1 h1 k (List.mem_range.2 hk)
  rw [Bool.or_eq_true, Bool.or_eq_true, Bool.or_eq_true, beq_iff_eq, List.contains_iff_mem, List.contains_iff_mem, List.contains_iff_mem] at h2
  rcases h2 with ((h2 | h2) | h2) | h2
  · exact absurd h2 hne
  · exact absurd h2 hR
  · exact absurd h2 hC
  · obtain ⟨u, hu⟩ := hW k h2 x
    rw [hu] at hp ⊢
    exact hp
theorem lim_ge {C : List (List Nat)} {B j : Nat} {w : World} (h : B ≤ w.heap.size) : B ≤ lim C B j w := by
  unfold lim
  split
  · exact h
  · exact Nat.le_refl _
end
end Go.Proofs.YtommppijnccomaaGreat

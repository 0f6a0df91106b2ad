/-
  LawCommonBlade: part 6 of the texts that the proof needs. No condition.
-/
import Derived.Test.YtommppijnccomaaGreatP5
namespace Go.Proofs.YtommppijnccomaaGreat
open Go.RowKit
section
variable {P : Program} {ops : Array Oper} {Q : Exit → Act → World → Prop}
/-- Those whose values are good still when operation j is done (C: what each uses up). -/
def availL (R C : List (List Nat)) (m j : Nat) : List Nat := (R.getD j []).filter fun i => (List.range m).all fun k => !((C.getD k []).contains i) || k == j || (R.getD k []).contains j
/-- .. and at the end of the first m. -/
def endL (C : List (List Nat)) (m : Nat) : List Nat := (List.range m).filter fun i => (List.range m).all fun k => !((C.getD k []).contains i)
/-- Below what operation j leaves all as it was. -/
def lim (C : List (List Nat)) (B : Nat) (j : Nat) (w : World) : Nat := if (C.getD j []).isEmpty then w.heap.size else B
theorem not_contains {L : List Nat} {i : Nat} : (!(L.contains i)) = true ↔ i ∉ L := by
  rw [Bool.not_eq_true', ← Bool.not_eq_true, List.contains_iff_mem]
theorem avail_spec {R C : List (List Nat)} {m j i : Nat} : i ∈ availL R C m j ↔ i ∈ R.getD j [] ∧ ∀ k, k < m → i ∈ C.getD k [] → k = j ∨ j ∈ R.getD k [] := by
  unfold availL
  rw [List.mem_filter, List.all_eq_true]
  refine and_congr_right fun _ => ⟨fun h k hk hi => ?_, fun h k hk => ?_⟩
  · have h1 := h k (List.mem_range.2 hk)
    rw [Bool.or_eq_true, Bool.or_eq_true, not_contains, beq_iff_eq, List.contains_iff_mem] at h1
    rcases h1 with (h1 | h1) | h1
    · exact absurd hi h1
    · exact .inl h1
    · exact .inr h1
  · rw [Bool.or_eq_true, Bool.or_eq_true, not_contains, beq_iff_eq, List.contains_iff_mem]
    by_cases hi : i ∈ C.getD k []
    · rcases h k (List.mem_range.1 hk) hi with h1 | h1
      · exact .inl (.inr h1)
      · exact .inr h1
    · exact .inl (.inl hi)
theorem end_spec {C : List (List Nat)} {m i : Nat} : i ∈ endL C m ↔ i < m ∧ ∀ k, k < m → i ∉ C.getD k [] := by
  unfold endL
  rw [List.mem_filter, List.all_eq_true, List.mem_range]
  exact and_congr_right fun _ => ⟨fun h k hk => not_contains.1 (h k (List.mem_range.2 hk)), fun h k hk => not_contains.2 (h k (List.mem_range.1 hk))⟩
/-- What is to be shown of operation j. -/
def ObD (P : Program) (ops : Array Oper) (S : World → Prop) (R C : List (List Nat)) (B m : Nat) (V : (Nat → Value) → List VP) (x : Nat → Value) (a0 : Act) (j : Nat) : Prop :=
  ∀ w, S w → (∀ i ∈ availL R C m j, ((V x).getD i VAny).p (x i) w) →
    wpOp P ops NoWay j (fun a' w' => ∃ v, (∀ d, dstOf ops j = some d → a'.tmps[d]? = some v) ∧ a'.defers = a0.defers ∧ ((V x).getD j VAny).p v w' ∧ Below (lim C B j w) w w') (putS ops x a0 j) w
theorem tasks_goD {m B : Nat} {R C : List (List Nat)} {V : (Nat → Value) → List VP} {S : World → Prop} {a0 : Act} (hok : tasksOk ops m a0.tmps.size R = true)
    (hdep : ∀ x x' j, (∀ i ∈ R.getD j [], x i = x' i) → (V x).getD j VAny = (V x').getD j VAny) (hweak : ∀ i, i < m → (C.getD i []).isEmpty = false → ∀ k, k < m → k ≠ i → i ∉ R.getD k [] → k ∉ C.getD i [] → ∀ x v w w', ((V x).getD k VAny).p v w → Below B w w' → ((V x).getD k VAny).p v w') (hSt : ∀ j w w', S w → Below (lim C B j w) w w' → S w') (hob : ∀ x j, j < m → ObD P ops S R C B m V x a0 j)
    (hend : ∀ x w', S w' → (∀ i ∈ endL C m, ((V x).getD i VAny).p (x i) w') → wpAny P .any ops Q (ops.size - m) (listedTo ops.size m) (putS ops x a0 m) w') :
    ∀ (c : Nat) (U : List Nat) (listed : Array Bool) (w : World) (x : Nat → Value), U.length = c → U.Nodup → (∀ i, i ∈ U ↔ i < m ∧ listed.getD i false = false) → listed.size = ops.size →
      (∀ i, m ≤ i → i < ops.size → listed.getD i false = false) → (∀ (j : Nat) (o : Oper), ops[j]? = some o → listed.getD j false = true → ∀ e ∈ o.after, Region.binds .any e = true → listed.getD e.on false = true) →
      S w → (∀ i, i < m → listed.getD i false = true → (∀ j, j < m → i ∈ C.getD j [] → listed.getD j false = false) → ((V x).getD i VAny).p (x i) w) → wpAny P .any ops Q (ops.size - m + c) listed (putD ops (fun i => listed.getD i false) x a0 m) w := by
  obtain ⟨hmn, hspec, htail⟩ := tasks_spec hok
  have hsel : Region.noSelect ops = true := by unfold tasksOk at hok; simp only [Bool.and_eq_true] at hok; exact hok.1.1
  intro c
  induction c with
  | zero =>
    intro U listed w x hU hnd hmem hsz hun hcl hS hV
    obtain rfl : U = [] := List.eq_nil_of_length_eq_zero hU
    have hall : ∀ i, i < m → listed.getD i false = true := fun i hi => by
      cases h : listed.getD i false
      · exact absurd ((hmem i).2 ⟨hi, h⟩) (by simp)
      · rfl
    have hl : listed = listedTo ops.size m := by
      apply Array.ext
      · simp [listedTo, hsz]
      · intro i h1 h2
        have e : listed.getD i false = listed[i] := by simp [Array.getD, h1]
        by_cases hi : i < m
        · have := hall i hi
          rw [e] at this
          simp [listedTo, this, hi]
        · have := hun i (by omega) (by omega)
          rw [e] at this
          simp [listedTo, this, hi]
    rw [Nat.add_zero, putD_congr (ops := ops) _ (fun _ => true) x x a0 m (fun i hi => ⟨hall i hi, fun _ => rfl⟩), hl]
    exact hend x w hS (fun i hi => hV i (end_spec.1 hi).1 (hall i (end_spec.1 hi).1) (fun j hj hc => absurd hc ((end_spec.1 hi).2 j hj)))
  | succ c ih =>
    intro U listed w x hU hnd hmem hsz hun hcl hS hV
    have hne : U ≠ [] := fun e => by rw [e] at hU; simp at hU
    show (_ → _) ∧ _
    refine ⟨fun hr => ?_, fun i hi => ?_⟩
    · exfalso
      obtain ⟨i, hiU, hmin⟩ := min_mem U hne
      obtain ⟨him, hil⟩ := (hmem i).1 hiU
      have hlt : i < ops.size := by omega
      have : i ∈ Region.ready .any ops listed := mem_ready.2 ⟨by simpa [Array.getD, hsz, hlt] using hil, _, Array.getElem?_eq_getElem hlt, fun e he hb => by
        have hlti := (hspec i _ (Array.getElem?_eq_getElem hlt) him).1 e he hb
        cases h : listed.getD e.on false
        · have := hmin e.on ((hmem _).2 ⟨by omega, h⟩); omega
        · rfl⟩
      rw [hr] at this
      cases this
    · obtain ⟨hil, o, ho, hdeps⟩ := mem_ready.1 hi
      have hlt : i < ops.size := (Array.getElem?_eq_some_iff.1 ho).1
      have hil' : listed.getD i false = false := by simpa [Array.getD, hsz, hlt] using hil
      have hreach := listed_reach hok (fun i => listed.getD i false) hcl i o ho hdeps
      have him : i < m := by
        rcases Nat.lt_or_ge i m with h | h
        · exact h
        · exfalso
          obtain ⟨k, hk⟩ := List.exists_mem_of_ne_nil U hne
          obtain ⟨hkm, hkl⟩ := (hmem k).1 hk
          have := hreach k (htail i hlt h k hkm)
          rw [hkl] at this; cases this
      obtain ⟨_, ⟨d, hd, hdsz, hduniq⟩, hlook⟩ := hspec i o ho him
      have hdst : dstOf ops i = some d := by simp [dstOf, ho, hd]
      have hso : ∀ cs b, o.op ≠ .select cs b := fun cs b => Region.noSelect_spec hsel i o cs b ho
      -- the two frames agree on what o looks at
      have hagree : ∀ t ∈ o.looksAt ops, (putD ops (fun i => listed.getD i false) x a0 m).tmps[t]? = (putS ops x a0 i).tmps[t]? := fun t ht => by
        by_cases hex : ∃ k, k < m ∧ dstOf ops k = some t
        · obtain ⟨k, hkm, hkd⟩ := hex
          have hkR := hlook t ht k hkm hkd
          have hki := reach_lt hok i hlt k hkR
          have hkl := hreach k hkR
          have hks : k < ops.size := by omega
          obtain ⟨_, ⟨d', hd', hdsz', hu'⟩, _⟩ := hspec k _ (Array.getElem?_eq_getElem hks) hkm
          have htd : d' = t := by
            have : dstOf ops k = some d' := by simp [dstOf, Array.getElem?_eq_getElem hks, hd']
            rw [hkd] at this; injection this with this; exact this.symm
          rw [putD_at _ _ _ _ k hkd hkl (htd ▸ hdsz') m hkm (fun l hl hlk => htd ▸ hu' l hl hlk)]
          unfold putS
          rw [putD_at _ _ _ _ k hkd rfl (htd ▸ hdsz') i hki (fun l hl hlk => htd ▸ hu' l (by omega) hlk)]
        · rw [putD_other _ _ _ _ m (fun k hk hkd => absurd ⟨k, hk, hkd⟩ hex)]
          unfold putS
          rw [putD_other _ _ _ _ i (fun k hk hkd => absurd ⟨k, by omega, hkd⟩ hex)]
      have hob' := hob x i him w hS (fun k hk => by
        obtain ⟨hkR, hkC⟩ := avail_spec.1 hk
        refine hV k (by have := reach_lt hok i hlt k hkR; omega) (hreach k hkR) (fun j hj hc => ?_)
        rcases hkC j hj hc with rfl | hij
        · exact hil'
        · cases hjl : listed.getD j false
          · rfl
          · have hjs : j < ops.size := by omega
            have := listed_reach hok (fun i => listed.getD i false) hcl j _ (Array.getElem?_eq_getElem hjs) (hcl j _ (Array.getElem?_eq_getElem hjs) hjl) i hij
            rw [hil'] at this; cases this)
      have hsz1 := putD_size (ops := ops) (fun _ => true) x a0 i
      -- what comes behind
      have next : ∀ v w', ((V x).getD i VAny).p v w' → Below (lim C B i w) w w' → wpAny P .any ops Q (ops.size - m + c) (listed.setIfInBounds i true) ((putD ops (fun i => listed.getD i false) x a0 m).put (some d) v) w' := fun v w' hv hb => by
        have hput := putD_put (ops := ops) (fun k => listed.getD k false) (fun k => (listed.setIfInBounds i true).getD k false) x (fun k => if k = i then v else x k) a0 i hil'
          (by simp [hsz, hlt]) (fun k hk => ⟨by rw [getD_set_ne _ (Ne.symm hk)], by simp [hk]⟩) m him
          (fun d' k hk hki hd' => by rw [hdst] at hd'; injection hd' with hd'; exact hd' ▸ hduniq k hk hki)
        simp only [if_true] at hput
        rw [← hdst, hput]
        refine ih (U.erase i) _ _ _ ?_ (hnd.erase _) (fun k => ?_) (by simpa using hsz) (fun k h1 h2 => ?_) (fun j oj hoj hj e he hb' => ?_) (hSt i _ _ hS hb) (fun k hk hkl hcons => ?_)
        · rw [List.length_erase_of_mem ((hmem i).2 ⟨him, hil'⟩), hU]; rfl
        · rw [hnd.mem_erase_iff, hmem]
          by_cases hk : k = i
          · subst hk; simp [hsz, hlt]
          · rw [getD_set_ne _ (Ne.symm hk)]; simp [hk]
        · rw [getD_set_ne _ (by omega)]; exact hun k h1 h2
        · by_cases hji : j = i
          · subst hji
            rw [ho] at hoj; injection hoj with hoj; subst hoj
            exact getD_set_true (hdeps e he hb')
          · rw [getD_set_ne _ (Ne.symm hji)] at hj
            exact getD_set_true (hcl j oj hoj hj e he hb')
        · by_cases hki : k = i
          · subst hki
            rw [hdep _ x k (fun l hl => by have := reach_lt hok k hlt l hl; simp only [show l ≠ k by omega, if_false])]
            simpa using hv
          · rw [getD_set_ne _ (Ne.symm hki)] at hkl
            have hks : k < ops.size := by omega
            have hdk : (V fun l => if l = i then v else x l).getD k VAny = (V x).getD k VAny := hdep _ x k (fun l hl => by
              have hll := listed_reach hok (fun i => listed.getD i false) hcl k _ (Array.getElem?_eq_getElem hks) (hcl k _ (Array.getElem?_eq_getElem hks) hkl) l hl
              have hne : l ≠ i := fun e => by rw [e] at hll; rw [hil'] at hll; cases hll
              simp only [hne, if_false])
            simp only [hki, if_false]
            rw [hdk]
            have hb0 : ∀ j, j < m → k ∈ C.getD j [] → listed.getD j false = false := fun j hj hc => by
              have h1 := hcons j hj hc
              by_cases hji : j = i
              · rw [hji]; exact hil'
              · rwa [getD_set_ne _ (Ne.symm hji)] at h1
            have hkC : k ∉ C.getD i [] := fun hc => by
              have h1 := hcons i him hc
              simp [hsz, hlt] at h1
            have hiR : i ∉ R.getD k [] := fun hik => by
              have := listed_reach hok (fun i => listed.getD i false) hcl k _ (Array.getElem?_eq_getElem hks) (hcl k _ (Array.getElem?_eq_getElem hks) hkl) i hik
              rw [hil'] at this; cases this
            cases he : (C.getD i []).isEmpty
            · rw [show lim C B i w = B by unfold lim; rw [he]; rfl] at hb
              exact hweak i him he k hk hki hiR hkC x _ _ _ (hV k hk hkl hb0) hb
            · rw [show lim C B i w = w.heap.size by unfold lim; rw [he]; rfl] at hb
              exact ((V x).getD k VAny).st _ _ _ (hV k hk hkl hb0) hb
      unfold wpOp at hob' ⊢
      simp only [ho] at hob' ⊢
      rw [wanted_same hagree]
      split
      · rename_i hw
        rw [if_pos hw] at hob'
        rcases hob' with h | ⟨_, h⟩
        case inr => exact absurd h NoWay.lets
        refine .inl (Oper.wp_mono ?_ (wp_move (Q := Q) (d := d) (R := fun v w' => ((V x).getD i VAny).p v w' ∧ Below (lim C B i w) w w') (exec_same hso hagree) hd (by unfold putS; rw [hsz1.1]; exact hdsz)
          (Oper.wp_mono (fun a' w' ⟨v, h1, h2, h3, h4⟩ => ⟨v, h1 d hdst, by unfold putS; rw [hsz1.2]; exact h2, h3, h4⟩) h)))
        rintro a' w' ⟨v, rfl, hv, hb⟩
        exact next v w' hv hb
      · rename_i hw
        rw [if_neg hw] at hob'
        obtain ⟨v, h1, _, h3, h4⟩ := hob'
        have hvu : v = undef := by
          have := h1 d hdst
          rw [hd] at this
          simp [Act.put, putS, hsz1.1, hdsz] at this
          exact this.symm
        rw [hd]
        exact next undef w (hvu ▸ h3) h4
/-- **A region that draws its order**: each of its first m operations is shown once; what is left behind them goes on. -/
theorem wp_tasksD {id m B : Nat} (R C : List (List Nat)) (V : (Nat → Value) → List VP) (S : World → Prop) {a0 : Act} {w : World} (hm : P.follows .mixedOrders = true) (hok : tasksOk ops m a0.tmps.size R = true)
    (hdep : ∀ x x' j, (∀ i ∈ R.getD j [], x i = x' i) → (V x).getD j VAny = (V x').getD j VAny) (hweak : ∀ i, i < m → (C.getD i []).isEmpty = false → ∀ k, k < m → k ≠ i → i ∉ R.getD k [] → k ∉ C.getD i [] → ∀ x v w w', ((V x).getD k VAny).p v w → Below B w w' → ((V x).getD k VAny).p v w') (hS0 : S w.drew) (hSt : ∀ j w w', S w → Below (lim C B j w) w w' → S w') (hob : ∀ x j, j < m → ObD P ops S R C B m V x a0 j)
    (hend : ∀ x w', S w' → (∀ i ∈ endL C m, ((V x).getD i VAny).p (x i) w') → wpAny P .any ops Q (ops.size - m) (listedTo ops.size m) (putS ops x a0 m) w') : (Code.region id ops true).wp P Q a0 w := by
  have hmn := (tasks_spec hok).1
  have hf : ∀ i, (Array.replicate ops.size false).getD i false = false := fun i => by simp [Array.getD]
  have h := tasks_goD (Q := Q) hok hdep hweak hSt hob hend m (List.range m) (Array.replicate ops.size false) w.drew (fun _ => undef) (by simp) List.nodup_range (fun i => by rw [hf]; simp) (by simp) (fun i _ _ => hf i) (fun j o _ hj => by rw [hf] at hj; cases hj) hS0
    (fun i _ hi => by rw [hf] at hi; cases hi)
  refine wp_region_any hm ?_
  rw [show ops.size - m + m = ops.size by omega, putD_congr (ops := ops) _ (fun _ => false) _ (fun _ => undef) a0 m (fun i _ => ⟨hf i, fun _ => rfl⟩)] at h
  have e : ∀ n, putD ops (fun _ => false) (fun _ => undef) a0 n = a0 := fun n => by
    induction n with
    | zero => rfl
    | succ n ih => unfold putD; simpa using ih
  rw [e] at h
  exact h
/-- What is to be shown, operation by operation, in the text's order; the frame goes along. -/
def ObsD (P : Program) (ops : Array Oper) (Q : Exit → Act → World → Prop) (S : World → Prop) (R C : List (List Nat)) (B m : Nat) (V : (Nat → Value) → List VP) (x : Nat → Value) : Nat → Nat → Act → Prop
  | 0, j, a => ∀ w, S w → (∀ i ∈ endL C m, ((V x).getD i VAny).p (x i) w) → wpAny P .any ops Q (ops.size - j) (listedTo ops.size j) a w
  | r + 1, j, a => (∀ w, S w → (∀ i ∈ availL R C m j, ((V x).getD i VAny).p (x i) w) →
      wpOp P ops NoWay j (fun a' w' => ∃ v, (∀ d, dstOf ops j = some d → a'.tmps[d]? = some v) ∧ a'.defers = a.defers ∧ ((V x).getD j VAny).p v w' ∧ Below (lim C B j w) w w') a w) ∧
    ObsD P ops Q S R C B m V x r (j + 1) (a.put (dstOf ops j) (x j))
theorem obs_allD {S : World → Prop} {R C : List (List Nat)} {B m : Nat} {V : (Nat → Value) → List VP} {x : Nat → Value} {a0 : Act} : ∀ (r j : Nat), ObsD P ops Q S R C B m V x r j (putS ops x a0 j) →
    (∀ k, j ≤ k → k < j + r → ObD P ops S R C B m V x a0 k) ∧ ∀ w, S w → (∀ i ∈ endL C m, ((V x).getD i VAny).p (x i) w) → wpAny P .any ops Q (ops.size - (j + r)) (listedTo ops.size (j + r)) (putS ops x a0 (j + r)) w := by
  intro r
  induction r with
  | zero => intro j h; exact ⟨fun k h1 h2 => by omega, h⟩
  | succ r ih =>
    intro j h
    obtain ⟨h1, h2⟩ := h
    have h2' : ObsD P ops Q S R C B m V x r (j + 1) (putS ops x a0 (j + 1)) := h2
    obtain ⟨h3, h4⟩ := ih (j + 1) h2'
    refine ⟨fun k hk1 hk2 => ?_, by rw [show j + (r + 1) = j + 1 + r by omega]; exact h4⟩
    by_cases hk : k = j
    · subst hk
      intro w hS hV
      have h := h1 w hS hV
      rw [show (putS ops x a0 k).defers = a0.defers from (putD_size _ _ _ _).2] at h
      exact h
    · exact h3 k (by omega) (by omega)
theorem wp_obsD {id : Nat} (m B : Nat) (R C : List (List Nat)) (V : (Nat → Value) → List VP) (S : World → Prop) {a0 : Act} {w : World} (hm : P.follows .mixedOrders = true) (hok : tasksOk ops m a0.tmps.size R = true)
    (hdep : ∀ x x' j, (∀ i ∈ R.getD j [], x i = x' i) → (V x).getD j VAny = (V x').getD j VAny) (hweak : ∀ i, i < m → (C.getD i []).isEmpty = false → ∀ k, k < m → k ≠ i → i ∉ R.getD k [] → k ∉ C.getD i [] → ∀ x v w w', ((V x).getD k VAny).p v w → Below B w w' → ((V x).getD k VAny).p v w') (hSt : ∀ j w w', S w → Below (lim C B j w) w w' → S w') (hS0 : S w.drew) (h : ∀ x, ObsD P ops Q S R C B m V x m 0 a0) : (Code.region id ops true).wp P Q a0 w :=
  wp_tasksD (m := m) (B := B) R C V S hm hok hdep hweak hS0 hSt (fun x j hj => (obs_allD m 0 (h x)).1 j (by omega) (by omega)) (fun x w' hS hV => by
    have := (obs_allD m 0 (h x)).2 w' hS (hV)
    rwa [Nat.zero_add] at this)
theorem obs_stepD {S : World → Prop} {R C : List (List Nat)} {B m : Nat} {V : (Nat → Value) → List VP} {x : Nat → Value} {r j : Nat} {a : Act} {o : Oper} {d : Tmp} (ho : ops[j]? = some o) (hd : o.dst = some d)
    (h : ∀ w, S w → (∀ i ∈ availL R C m j, ((V x).getD i VAny).p (x i) w) → ∀ K : Act → World → Prop, Shut (∀ a' w' v, a'.tmps[d]? = some v → a'.defers = a.defers → ((V x).getD j VAny).p v w' → Below (lim C B j w) w w' → K a' w') →
      if Region.wanted o (yielded ops a.tmps) = true then Oper.wp P o a w K NoWay else K (a.put o.dst undef) w)
    (hr : ObsD P ops Q S R C B m V x r (j + 1) { a with tmps := a.tmps.setIfInBounds d (x j) }) : ObsD P ops Q S R C B m V x (r + 1) j a := by
  have hdst : dstOf ops j = some d := by simp [dstOf, ho, hd]
  refine ⟨fun w hS hV => wpOp_step ho (fun K hK => ?_), by rw [hdst]; exact hr⟩
  exact h w hS hV K (fun a' w' v h1 h2 h3 h4 => hK a' w' ⟨v, fun d' hd' => by rw [hdst] at hd'; injection hd' with hd'; exact hd' ▸ h1, h2, h3, h4⟩)
/-- Those that bear an append in place: their values are plain. -/
theorem weak_of {m B : Nat} {R C : List (List Nat)} {V : (Nat → Value) → List VP} (Wk : List Nat)
    (hchk : ((List.range m).all fun i => (C.getD i []).isEmpty || (List.range m).all fun k => k == i || (R.getD k []).contains i || (C.getD i []).contains k || Wk.contains k) = true)
    (hW : ∀ k ∈ Wk, ∀ x, ∃ u, (V x).getD k VAny = VIs u) :
    ∀ i, i < m → (C.getD i []).isEmpty = false → ∀ k, k < m → k ≠ i → i ∉ R.getD k [] → k ∉ C.getD i [] → ∀ x v w w', ((V x).getD k VAny).p v w → Below B w w' → ((V x).getD k VAny).p v w' := by
  intro i hi he k hk hne hR hC x v w w' hp _
  have h1 := List.all_eq_true.1 hchk i (List.mem_range.2 hi)
  rw [he, Bool.false_or] at h1
  have h2 := List.all_eq_true.1 h1 k (List.mem_range.2 hk)
  rw [Bool.or_eq_true, Bool.or_eq_true, Bool.or_eq_true, beq_iff_eq, List.contains_iff_mem, List.contains_iff_mem, List.contains_iff_mem] at h2
  rcases h2 with ((h2 | h2) | h2) | h2
  · exact absurd h2 hne
  · exact absurd h2 hR
  · exact absurd h2 hC
  · obtain ⟨u, hu⟩ := hW k h2 x
    rw [hu] at hp ⊢
    exact hp
theorem lim_ge {C : List (List Nat)} {B j : Nat} {w : World} (h : B ≤ w.heap.size) : B ≤ lim C B j w := by
  unfold lim
  split
  · exact h
  · exact Nat.le_refl _
end
end Go.Proofs.YtommppijnccomaaGreat
namespace Go.Proofs.YtommppijnccomaaGreat
open Go.RowKit
/-- The value is the second one of two lists of lists; the first one is x. -/
def VTwo (w0 : World) (n : Nat) (L : List (List Int)) (m : Nat) (M : List (List Int)) (x : Value) : VP :=
  ⟨fun v w => ∃ A c B d, x = .slice A n c ∧ v = .slice B m d ∧ MkII2 w0 w A n c L B m M, fun _ _ _ ⟨A, c, B, d, e, e', h⟩ hb => ⟨A, c, B, d, e, e', h.below hb⟩⟩
end Go.Proofs.YtommppijnccomaaGreat
namespace Go.Proofs.YtommppijnccomaaGreat
theorem cg_add {p a b c d : Int} (h : a % p = b % p) (h' : c % p = d % p) : (a + c) % p = (b + d) % p := by rw [Int.add_emod, h, h', ← Int.add_emod]
theorem cg_mul {p a b c d : Int} (h : a % p = b % p) (h' : c % p = d % p) : a * c % p = b * d % p := by rw [Int.mul_emod, h, h', ← Int.mul_emod]
theorem cg_self (p a : Int) : a % p % p = a % p := Int.emod_emod_of_dvd _ (Int.dvd_refl p)
theorem sumTo_two {n : Nat} {f : Nat → Int} (a b : Nat) (ha : a < n) (hb : b < n) (hab : a ≠ b) (h : ∀ i, i < n → i ≠ a → i ≠ b → f i = 0) : sumTo n f = f a + f b := by
  have e : sumTo n f = sumTo n (fun i => (if i = a then f i else 0) + (if i = a then 0 else f i)) := sumTo_congr fun i _ => by split <;> omega
  rw [e, sumTo_add, sumTo_one (f := fun i => if i = a then f i else 0) a ha (fun i _ hi => if_neg hi), sumTo_one (f := fun i => if i = a then 0 else f i) b hb (fun i hi hib => by
    by_cases hia : i = a
    · exact if_pos hia
    · simp only [if_neg hia]; exact h i hi hia hib)]
  rw [if_pos rfl, if_neg (Ne.symm hab)]
theorem getD_app_left {α : Type} (d : α) {xs : List α} (ys : List α) {i : Nat} (h : i < xs.length) : (xs ++ ys).getD i d = xs.getD i d := by
  rw [getD_of_lt d h, getD_of_lt d (by rw [List.length_append]; omega), List.getElem_append_left h]
theorem getD_app_right {α : Type} (d : α) (xs ys : List α) (i : Nat) : (xs ++ ys).getD (xs.length + i) d = ys.getD i d := by
  by_cases h : i < ys.length
  · rw [getD_of_lt d h, getD_of_lt d (by rw [List.length_append]; omega), List.getElem_append_right (by omega)]
    congr 1; omega
  · rw [getD_of_ge d (show ys.length ≤ i by omega), getD_of_ge d (show (xs ++ ys).length ≤ xs.length + i by rw [List.length_append]; omega)]
/-- A sum of multiples of the rows. -/
def Sp (p : Int) (n : Nat) (m : List (List Int)) (v : Nat → Int) : Prop := ∃ c : Nat → Int, ∀ q, q < n → v q % p = (sumTo m.length fun i => c i * ent m i q) % p
theorem Sp.congr {p : Int} {n : Nat} {m : List (List Int)} {v u : Nat → Int} (h : Sp p n m v) (e : ∀ q, q < n → v q % p = u q % p) : Sp p n m u := by
  obtain ⟨c, hc⟩ := h
  exact ⟨c, fun q hq => (e q hq).symm.trans (hc q hq)⟩
theorem Sp.zero (p : Int) (n : Nat) (m : List (List Int)) : Sp p n m fun _ => 0 := ⟨fun _ => 0, fun q _ => by rw [sumTo_zero fun i _ => Int.zero_mul _]⟩
theorem Sp.add {p : Int} {n : Nat} {m : List (List Int)} {v u : Nat → Int} (h : Sp p n m v) (h' : Sp p n m u) : Sp p n m fun q => v q + u q := by
  obtain ⟨c, hc⟩ := h
  obtain ⟨d, hd⟩ := h'
  refine ⟨fun i => c i + d i, fun q hq => ?_⟩
  rw [sumTo_congr (g := fun i => c i * ent m i q + d i * ent m i q) fun i _ => Int.add_mul _ _ _, sumTo_add]
  exact cg_add (hc q hq) (hd q hq)
theorem Sp.mul {p : Int} {n : Nat} {m : List (List Int)} {v : Nat → Int} (h : Sp p n m v) (k : Int) : Sp p n m fun q => k * v q := by
  obtain ⟨c, hc⟩ := h
  refine ⟨fun i => k * c i, fun q hq => ?_⟩
  rw [sumTo_congr (g := fun i => k * (c i * ent m i q)) fun i _ => Int.mul_assoc _ _ _, sumTo_mul]
  exact cg_mul rfl (hc q hq)
theorem Sp.row {p : Int} {n : Nat} {m : List (List Int)} {i : Nat} (hi : i < m.length) : Sp p n m fun q => ent m i q := by
  refine ⟨fun j => if j = i then 1 else 0, fun q _ => ?_⟩
  rw [sumTo_one (f := fun j => (if j = i then 1 else 0) * ent m j q) i hi (fun j _ hj => by simp only [if_neg hj, Int.zero_mul])]
  simp
theorem Sp.mem {p : Int} {n : Nat} {m : List (List Int)} {x : List Int} (hx : x ∈ m) : Sp p n m fun q => x.getD q 0 := by
  obtain ⟨i, hi, rfl⟩ := List.getElem_of_mem hx
  refine (Sp.row hi).congr fun q _ => ?_
  unfold ent; rw [getD_of_lt [] hi]
theorem Sp.sum {p : Int} {n : Nat} {m : List (List Int)} (k : Nat) {f : Nat → Nat → Int} (h : ∀ i, i < k → Sp p n m (f i)) : Sp p n m fun q => sumTo k fun i => f i q := by
  induction k with
  | zero => exact Sp.zero p n m
  | succ k ih => exact (ih fun i hi => h i (by omega)).add (h k (by omega))
theorem Sp.nil {p : Int} {n : Nat} {v : Nat → Int} (h : Sp p n [] v) : ∀ q, q < n → v q % p = 0 := fun q hq => by
  obtain ⟨c, hc⟩ := h
  rw [hc q hq]; simp [sumTo]
/-- All rows of the first are made of those of the second. -/
def InSp (p : Int) (n : Nat) (m m' : List (List Int)) : Prop := ∀ i, i < m.length → Sp p n m' fun q => ent m i q
theorem InSp.sp {p : Int} {n : Nat} {m m' : List (List Int)} (h : InSp p n m m') {v : Nat → Int} (hv : Sp p n m v) : Sp p n m' v := by
  obtain ⟨c, hc⟩ := hv
  exact (Sp.sum m.length fun i hi => (h i hi).mul (c i)).congr fun q hq => (hc q hq).symm
theorem InSp.refl (p : Int) (n : Nat) (m : List (List Int)) : InSp p n m m := fun _ hi => Sp.row hi
theorem InSp.trans {p : Int} {n : Nat} {m m' m2 : List (List Int)} (h : InSp p n m m') (h' : InSp p n m' m2) : InSp p n m m2 := fun i hi => h'.sp (h i hi)
theorem InSp.of_mem {p : Int} {n : Nat} {m m' : List (List Int)} (h : ∀ x ∈ m, Sp p n m' fun q => x.getD q 0) : InSp p n m m' := fun i hi =>
  (h _ (List.getElem_mem hi)).congr fun q _ => by unfold ent; rw [getD_of_lt [] hi]
theorem InSp.of_sub {p : Int} {n : Nat} {m m' : List (List Int)} (h : ∀ x ∈ m, x ∈ m') : InSp p n m m' := InSp.of_mem fun x hx => Sp.mem (h x hx)
theorem InSp.append {p : Int} {n : Nat} {m1 m2 m' : List (List Int)} (h1 : InSp p n m1 m') (h2 : InSp p n m2 m') : InSp p n (m1 ++ m2) m' := InSp.of_mem fun x hx => by
  rcases List.mem_append.1 hx with h | h
  · exact h1.sp (Sp.mem h)
  · exact h2.sp (Sp.mem h)
theorem Sp.append {p : Int} {n : Nat} {m m' : List (List Int)} {v : Nat → Int} (h : Sp p n (m ++ m') v) : ∃ u u', Sp p n m u ∧ Sp p n m' u' ∧ ∀ q, q < n → v q % p = (u q + u' q) % p := by
  obtain ⟨c, hc⟩ := h
  refine ⟨fun q => sumTo m.length fun i => c i * ent m i q, fun q => sumTo m'.length fun i => c (m.length + i) * ent m' i q, ⟨c, fun _ _ => rfl⟩, ⟨fun i => c (m.length + i), fun _ _ => rfl⟩, fun q hq => ?_⟩
  rw [hc q hq, List.length_append]
  congr 1
  have e1 : ∀ i, i < m.length → ent (m ++ m') i q = ent m i q := fun i hi => by unfold ent; rw [getD_app_left [] _ hi]
  have e2 : ∀ k, sumTo (m.length + k) (fun i => c i * ent (m ++ m') i q) = sumTo m.length (fun i => c i * ent m i q) + sumTo k (fun i => c (m.length + i) * ent m' i q) := by
    intro k
    induction k with
    | zero => exact (sumTo_congr fun i hi => by rw [e1 i hi]).trans (by simp [sumTo])
    | succ k ih =>
      rw [← Nat.add_assoc, sumTo_succ, ih, sumTo_succ]
      have : ent (m ++ m') (m.length + k) q = ent m' k q := by unfold ent; rw [getD_app_right]
      rw [this]; omega
  exact e2 _
/-- Two numbers that have the same remainder and are remainders. -/
theorem cg_eq {p a b : Int} (ha : 0 ≤ a ∧ a < p) (hb : 0 ≤ b ∧ b < p) (h : a % p = b % p) : a = b := by
  rwa [Int.emod_eq_of_lt ha.1 ha.2, Int.emod_eq_of_lt hb.1 hb.2] at h
theorem scaledAt_in {p : Int} (hP : isP p = true) {n : Nat} {m : List (List Int)} (hT : Tab p n m) {k d : Nat} (hd : d < m.length) (hv : pivOf m k d < m.length) :
    InSp p n (scaledAt p m k d) m ∧ InSp p n m (scaledAt p m k d) := by
  have hp : 2 ≤ p := by have := isP_ge hP; omega
  have hlen := scaledAt_len p m k d
  have hE := fun r q hq => ent_scaled (p := p) (k := k) rfl hd hv hT r q hq
  obtain ⟨hb1, hb2⟩ := pivOf_bound m k d (by omega)
  have hx : ent m (pivOf m k d) k ≠ 0 := piv_at m k _ _ (by unfold pivOf at hv; omega)
  obtain ⟨x1, x2⟩ := hT.ent (by omega) (pivOf m k d) k
  obtain ⟨i1, i2, i3⟩ := inv_spec hP (show 0 < ent m (pivOf m k d) k by omega) x2
  have hinv : ent m (pivOf m k d) k * invF p (ent m (pivOf m k d) k) % p = 1 := (i3 _ (by omega) i2).2 rfl
  obtain ⟨v, hv'⟩ : ∃ v, v = pivOf m k d := ⟨_, rfl⟩
  rw [← hv'] at hE hx x1 x2 hinv hv hb1 hb2
  obtain ⟨y, hy⟩ : ∃ y, y = invF p (ent m v k) := ⟨_, rfl⟩
  rw [← hy] at hE hinv
  constructor
  · intro r hr
    rw [hlen] at hr
    by_cases h1 : r = d
    · refine ((Sp.row hv).mul y).congr fun q hq => ?_
      rw [hE r q hq, if_pos h1, cg_self, Int.mul_comm]
    · by_cases h2 : r = v
      · refine (Sp.row hd).congr fun q hq => ?_
        rw [hE r q hq, if_neg h1, if_pos h2]
      · refine (Sp.row hr).congr fun q hq => ?_
        rw [hE r q hq, if_neg h1, if_neg h2]
  · intro r hr
    by_cases h2 : r = v
    · refine ((Sp.row (show d < (scaledAt p m k d).length by omega)).mul (ent m v k)).congr fun q hq => ?_
      rw [hE d q hq, if_pos rfl, h2]
      have e1 : ent m v k * (ent m v q * y % p) % p = ent m v k * (ent m v q * y) % p := cg_mul rfl (cg_self _ _)
      have e2 : ent m v k * (ent m v q * y) = ent m v q * (ent m v k * y) := by rw [Int.mul_comm (ent m v q) y, ← Int.mul_assoc, Int.mul_comm]
      rw [e1, e2]
      have e3 : ent m v q * (ent m v k * y) % p = ent m v q * 1 % p := cg_mul rfl (by rw [hinv, Int.emod_eq_of_lt (by omega) (by omega)])
      rw [e3, Int.mul_one]
    · by_cases h1 : r = d
      · refine (Sp.row (show v < (scaledAt p m k d).length by omega)).congr fun q hq => ?_
        rw [hE v q hq, if_neg (fun e => h2 (h1.trans e.symm)), if_pos rfl, h1]
      · refine (Sp.row (show r < (scaledAt p m k d).length by omega)).congr fun q hq => ?_
        rw [hE r q hq, if_neg h1, if_neg h2]
theorem clearTo_in {p : Int} {n : Nat} {m : List (List Int)} (hT : Tab p n m) {k d : Nat} (hd : d < m.length) :
    InSp p n (clearTo p m d k m.length) m ∧ InSp p n m (clearTo p m d k m.length) := by
  have hlen := clearTo_len p m d k m.length
  have hE := fun r q hr hq => ent_cleared (p := p) hT d k r q hr hq
  constructor
  · intro r hr
    rw [hlen] at hr
    by_cases h1 : r = d
    · refine (Sp.row hd).congr fun q hq => ?_
      rw [hE r q hr hq, if_pos h1]
    · refine ((Sp.row hr).add ((Sp.row hd).mul (-(ent m r k)))).congr fun q hq => ?_
      rw [hE r q hr hq, if_neg h1, cg_self]
  · intro r hr
    by_cases h1 : r = d
    · refine (Sp.row (show d < (clearTo p m d k m.length).length by omega)).congr fun q hq => ?_
      rw [hE d q hd hq, if_pos rfl, h1]
    · refine ((Sp.row (show r < (clearTo p m d k m.length).length by omega)).add ((Sp.row (show d < (clearTo p m d k m.length).length by omega)).mul (ent m r k))).congr fun q hq => ?_
      rw [hE r q hr hq, if_neg h1, hE d q hd hq, if_pos rfl]
      refine (cg_add (cg_self _ _) rfl).trans ?_
      congr 1
      rw [Int.neg_mul]; omega
theorem stepB_in {p : Int} (hP : isP p = true) {n : Nat} {s : List (List Int) × Nat} {k : Nat} (hT : Tab p n s.1) (hd : s.2 ≤ s.1.length) : InSp p n (stepB p k s).1 s.1 ∧ InSp p n s.1 (stepB p k s).1 := by
  unfold stepB
  split
  · exact ⟨InSp.refl _ _ _, InSp.refl _ _ _⟩
  · rename_i hne
    have hb := pivOf_bound s.1 k s.2 hd
    have hp : 2 ≤ p := by have := isP_ge hP; omega
    obtain ⟨a1, a2⟩ := scaledAt_in (k := k) hP hT (show s.2 < s.1.length by omega) (by omega)
    obtain ⟨b1, b2⟩ := clearTo_in (k := k) (d := s.2) (scaledAt_tab (p := p) (k := k) (by omega) hT (show s.2 < s.1.length by omega) (by omega)) (by rw [scaledAt_len]; omega)
    rw [scaledAt_len] at b1 b2
    exact ⟨b1.trans a1, a2.trans b2⟩
theorem basisTo_in {p : Int} (hP : isP p = true) {n : Nat} (m : List (List Int)) (hT : Tab p n m) (k : Nat) (hk : k ≤ n) : InSp p n (basisTo p m k).1 m ∧ InSp p n m (basisTo p m k).1 := by
  have hp : 2 ≤ p := by have := isP_ge hP; omega
  induction k with
  | zero => exact ⟨InSp.refl _ _ _, InSp.refl _ _ _⟩
  | succ k ih =>
    obtain ⟨h1, h2⟩ := ih (by omega)
    obtain ⟨t1, t2, t3⟩ := basisTo_inv (p := p) (by omega) m hT k
    obtain ⟨g1, g2⟩ := stepB_in (k := k) hP (s := basisTo p m k) t1 (by omega)
    exact ⟨g1.trans h1, h2.trans g2⟩
/-- The reduced basis makes what the rows make. -/
theorem basisL_in {p : Int} (hP : isP p = true) {n : Nat} (m : List (List Int)) (hT : Tab p n m) : InSp p n (basisL p m) m ∧ InSp p n m (basisL p m) := by
  have hp : 2 ≤ p := by have := isP_ge hP; omega
  by_cases h0 : 0 < m.length
  · have hl := row0_len hT h0
    obtain ⟨a1, a2⟩ := basisTo_in hP m hT n (Nat.le_refl _)
    obtain ⟨c, hc⟩ := basisTo_ech hP m hT n (Nat.le_refl _)
    obtain ⟨h1, h2, h3⟩ := basisTo_inv (p := p) (by omega) m hT n
    have e : basisL p m = (basisTo p m n).1.take (basisTo p m n).2 := by unfold basisL; rw [hl]
    constructor
    · refine InSp.trans (InSp.of_sub fun x hx => ?_) a1
      rw [e] at hx
      exact List.mem_of_mem_take hx
    · refine a2.trans fun i hi => ?_
      by_cases hid : i < (basisTo p m n).2
      · refine (Sp.mem (x := (basisTo p m n).1[i]) ?_).congr fun q _ => by unfold ent; rw [getD_of_lt [] hi]
        rw [e]
        exact List.mem_take_iff_getElem.2 ⟨i, by omega, rfl⟩
      · exact (Sp.zero _ _ _).congr fun q hq => by rw [hc.rest i (by omega) hi q hq]
  · obtain rfl : m = [] := List.eq_nil_of_length_eq_zero (by omega)
    rw [basisL_nil]
    exact ⟨InSp.refl _ _ _, InSp.refl _ _ _⟩
/-- What a reduced basis makes is told by its numbers at the places of the firsts. -/
theorem Red.coef {p : Int} {n : Nat} {B : List (List Int)} (hR : Red n B) {v : Nat → Int} (hv : Sp p n B v) : ∀ q, q < n → v q % p = (sumTo B.length fun i => v (ld B i) * ent B i q) % p := by
  obtain ⟨c, hc⟩ := hv
  intro q hq
  rw [hc q hq]
  refine sumTo_mod p fun i hi => cg_mul ?_ rfl
  rw [hc _ (hR.lt i hi), sumTo_one (f := fun j => c j * ent B j (ld B i)) i hi (fun j hj hji => by rw [hR.zero i j hi hj hji, Int.mul_zero]), hR.one i hi, Int.mul_one]
theorem Red.lead_of {p : Int} {n : Nat} {B : List (List Int)} (hR : Red n B) {v : Nat → Int} (hv : Sp p n B v) {q0 : Nat} (hq : q0 < n) (h0 : v q0 % p ≠ 0) (hb : ∀ q, q < q0 → v q % p = 0) : ∃ i, i < B.length ∧ ld B i = q0 := by
  refine Classical.byContradiction fun hno => h0 ?_
  rw [hR.coef hv q0 hq]
  refine (sumTo_mod p (g := fun _ => 0) fun i hi => ?_).trans (by rw [sumTo_zero fun _ _ => rfl]; rfl)
  rcases Nat.lt_trichotomy (ld B i) q0 with h | h | h
  · rw [Int.mul_emod, hb _ h]; simp
  · exact absurd ⟨i, hi, h⟩ hno
  · rw [hR.before i q0 h, Int.mul_zero]
theorem Red.leads_le {p : Int} (hp : 2 ≤ p) {n : Nat} {B C : List (List Int)} (hB : Red n B) (hC : Red n C) (h1 : InSp p n B C) (h2 : InSp p n C B) : ∀ i, i < B.length → i < C.length ∧ ld C i = ld B i := by
  have one : ∀ (B C : List (List Int)), Red n B → Red n C → InSp p n B C → ∀ i, i < B.length → ∃ j, j < C.length ∧ ld C j = ld B i := fun B C hB hC h i hi =>
    hC.lead_of (h i hi) (hB.lt i hi) (by rw [hB.one i hi, Int.emod_eq_of_lt (by omega) (by omega)]; omega) (fun q hq => by rw [hB.before i q hq]; simp)
  intro i
  induction i using Nat.strongRecOn with
  | _ i ih =>
    intro hi
    obtain ⟨j, hj, e⟩ := one B C hB hC h1 i hi
    have hij : i ≤ j := by
      refine Nat.le_of_not_lt fun hlt => ?_
      have := (ih j hlt (by omega)).2
      have := hB.inj (i := j) (j := i) (by omega) hi (by omega)
      omega
    have hic : i < C.length := by omega
    refine ⟨hic, ?_⟩
    rcases Nat.lt_or_ge i j with hlt | hge
    · obtain ⟨k, hk, e2⟩ := one C B hC hB h2 i hic
      have m1 := hC.mono i j hlt hj
      rcases Nat.lt_trichotomy k i with h | h | h
      · have := (ih k h (by omega)).2
        have := hC.inj (i := k) (j := i) (by omega) hic (by omega)
        omega
      · subst h; omega
      · have := hB.mono i k h hk; omega
    · obtain rfl : i = j := by omega
      exact e
/-- There is only one reduced basis. -/
theorem Red.unique {p : Int} (hp : 2 ≤ p) {n : Nat} {B C : List (List Int)} (hB : Red n B) (hC : Red n C) (TB : Tab p n B) (TC : Tab p n C) (h1 : InSp p n B C) (h2 : InSp p n C B) : B = C := by
  have a := hB.leads_le hp hC h1 h2
  have b := hC.leads_le hp hB h2 h1
  have hl : B.length = C.length := by
    rcases Nat.lt_trichotomy B.length C.length with h | h | h
    · have := (b B.length h).1; omega
    · exact h
    · have := (a C.length h).1; omega
  refine list_ext_getD [] hl fun i hi => ?_
  have hic : i < C.length := by omega
  obtain ⟨r1, r2⟩ := TB.row hi
  obtain ⟨s1, s2⟩ := TC.row hic
  refine list_ext_getD 0 (by omega) fun q hq => ?_
  rw [r1] at hq
  refine cg_eq (p := p) (TB.ent (by omega) i q) (TC.ent (by omega) i q) ?_
  show ent B i q % p = ent C i q % p
  rw [hC.coef (h1 i hi) q hq]
  congr 1
  rw [sumTo_one (f := fun j => ent B i (ld C j) * ent C j q) i hic (fun j hj hji => by
    rw [← (b j hj).2, hB.zero j i (by omega) hi (Ne.symm hji), Int.zero_mul]), (a i hi).2, hB.one i hi, Int.one_mul]
theorem basisL_same {p : Int} (hP : isP p = true) {n : Nat} {m m' : List (List Int)} (hT : Tab p n m) (hT' : Tab p n m') (h : InSp p n m m') (h' : InSp p n m' m) : basisL p m = basisL p m' := by
  have hp : 2 ≤ p := by have := isP_ge hP; omega
  obtain ⟨a1, a2⟩ := basisL_in hP m hT
  obtain ⟨b1, b2⟩ := basisL_in hP m' hT'
  exact (basisL_red hP m hT).unique hp (basisL_red hP m' hT') (basisL_tab (by omega) m hT) (basisL_tab (by omega) m' hT') ((a1.trans h).trans b2) ((b1.trans h').trans a2)
/-- Orthogonal to all rows. -/
def Orth (p : Int) (n : Nat) (m : List (List Int)) (v : Nat → Int) : Prop := ∀ i, i < m.length → (sumTo n fun q => ent m i q * v q) % p = 0
theorem Orth.sp {p : Int} {n : Nat} {m : List (List Int)} {v : Nat → Int} (h : Orth p n m v) {u : Nat → Int} (hu : Sp p n m u) : (sumTo n fun q => u q * v q) % p = 0 := by
  obtain ⟨c, hc⟩ := hu
  have e1 : (sumTo n fun q => u q * v q) % p = (sumTo n fun q => sumTo m.length fun i => c i * (ent m i q * v q)) % p := by
    refine sumTo_mod p fun q hq => ?_
    rw [sumTo_congr (f := fun i => c i * (ent m i q * v q)) (g := fun i => v q * (c i * ent m i q)) (fun i _ => by rw [Int.mul_comm (v q), Int.mul_assoc]), sumTo_mul, Int.mul_comm (v q)]
    exact cg_mul (hc q hq) rfl
  rw [e1, sumTo_comm]
  refine (sumTo_mod p (g := fun _ => 0) fun i hi => ?_).trans (by rw [sumTo_zero fun _ _ => rfl]; rfl)
  rw [sumTo_mul, Int.mul_emod, h i hi]; simp
theorem Orth.of_in {p : Int} {n : Nat} {m m' : List (List Int)} {v : Nat → Int} (h : Orth p n m v) (hi : InSp p n m' m) : Orth p n m' v := fun i hl => h.sp (hi i hl)
theorem Orth.congr {p : Int} {n : Nat} {m : List (List Int)} {v u : Nat → Int} (h : Orth p n m v) (e : ∀ q, q < n → v q % p = u q % p) : Orth p n m u := fun i hi => by
  rw [← h i hi]; exact (sumTo_mod p fun q hq => cg_mul rfl (e q hq)).symm
theorem Orth.append {p : Int} {n : Nat} {m m' : List (List Int)} {v : Nat → Int} : Orth p n (m ++ m') v ↔ Orth p n m v ∧ Orth p n m' v := by
  have hall : ∀ M : List (List Int), Orth p n M v ↔ ∀ x ∈ M, (sumTo n fun q => x.getD q 0 * v q) % p = 0 := fun M => by
    constructor
    · intro h x hx
      obtain ⟨i, hi, rfl⟩ := List.getElem_of_mem hx
      have := h i hi
      unfold ent at this; rwa [getD_of_lt [] hi] at this
    · intro h i hi
      have := h _ (List.getElem_mem hi)
      unfold ent; rwa [getD_of_lt [] hi]
  rw [hall, hall, hall]
  constructor
  · exact fun h => ⟨fun x hx => h x (by simp [hx]), fun x hx => h x (by simp [hx])⟩
  · rintro ⟨h1, h2⟩ x hx
    rcases List.mem_append.1 hx with h | h
    · exact h1 x h
    · exact h2 x h
theorem freeRow_at {p : Int} {B : List (List Int)} {n f k : Nat} (hk : k < n) : (freeRow p B n f).getD k 0 = if k = f then 1 else match ldIdx B k with | some i => (-(ent B i f)) % p | none => 0 := by
  unfold freeRow freePart
  rw [tab_getD hk]; simp
  rfl
theorem freeRow_ld {p : Int} {B : List (List Int)} {n f i : Nat} (hR : Red n B) (hi : i < B.length) (hf : isLd B f = false) : (freeRow p B n f).getD (ld B i) 0 = (-(ent B i f)) % p := by
  rw [freeRow_at (hR.lt i hi), if_neg (fun e => by rw [isLd_iff.2 ⟨i, hi, e⟩] at hf; cases hf), ldIdx_some hR hi]
theorem freeRow_own {p : Int} {B : List (List Int)} {n f : Nat} (hf : f < n) : (freeRow p B n f).getD f 0 = 1 := by rw [freeRow_at hf, if_pos rfl]
theorem freeRow_no {p : Int} {B : List (List Int)} {n f k : Nat} (hk : k < n) (hkf : k ≠ f) (hl : isLd B k = false) : (freeRow p B n f).getD k 0 = 0 := by rw [freeRow_at hk, if_neg hkf, ldIdx_none hl]
theorem freeRow_orth {p : Int} {B : List (List Int)} {n f : Nat} (hR : Red n B) (hf : f < n) (hl : isLd B f = false) : Orth p n B fun q => (freeRow p B n f).getD q 0 := fun i hi => by
  have hne : ld B i ≠ f := fun e => by rw [isLd_iff.2 ⟨i, hi, e⟩] at hl; cases hl
  rw [sumTo_two (f := fun q => ent B i q * (freeRow p B n f).getD q 0) (ld B i) f (hR.lt i hi) hf hne (fun q hq h1 h2 => by
    cases hq' : isLd B q with
    | false => simp only [freeRow_no hq h2 hq', Int.mul_zero]
    | true =>
      obtain ⟨j, hj, rfl⟩ := isLd_iff.1 hq'
      simp only [hR.zero j i hj hi (fun e => h1 (by rw [e])), Int.zero_mul]), freeRow_ld hR hi hl, freeRow_own hf, hR.one i hi, Int.one_mul, Int.mul_one]
  refine (cg_add (cg_self _ _) rfl).trans ?_
  rw [Int.add_comm, ← Int.sub_eq_add_neg, Int.sub_self]; rfl
theorem freeTo_mem {p : Int} {B : List (List Int)} {n k : Nat} {x : List Int} : x ∈ freeTo p B n k ↔ ∃ f, f < k ∧ isLd B f = false ∧ x = freeRow p B n f := by
  unfold freeTo
  rw [List.mem_map]
  constructor
  · rintro ⟨f, hf, rfl⟩
    rw [List.mem_filter] at hf
    exact ⟨f, by simpa using hf.1, by simpa using hf.2, rfl⟩
  · rintro ⟨f, h1, h2, rfl⟩
    exact ⟨f, List.mem_filter.2 ⟨by simpa using h1, by simp [h2]⟩, rfl⟩
/-- What the free rows make is what is orthogonal to the reduced basis. -/
theorem freeTo_sp {p : Int} {B : List (List Int)} {n : Nat} (hR : Red n B) {v : Nat → Int} : Sp p n (freeTo p B n n) v ↔ Orth p n B v := by
  constructor
  · rintro ⟨c, hc⟩ i hi
    have h2 : Orth p n (freeTo p B n n) fun q => ent B i q := fun r hr => by
      have hx := List.getElem_mem hr
      obtain ⟨f, hf, hl, e⟩ := freeTo_mem.1 hx
      have := freeRow_orth (p := p) hR hf hl i hi
      rw [sumTo_congr (g := fun q => ent B i q * (freeRow p B n f).getD q 0) fun q _ => by unfold ent; rw [getD_of_lt [] hr, e, Int.mul_comm]]
      exact this
    have := h2.sp ⟨c, hc⟩
    rw [sumTo_congr (g := fun q => v q * ent B i q) fun q _ => Int.mul_comm _ _]
    exact this
  · intro h
    have hmem : Sp p n (freeTo p B n n) fun q => sumTo n fun f => if isLd B f then 0 else v f * (freeRow p B n f).getD q 0 := Sp.sum n fun f hf => by
      cases hl : isLd B f with
      | true => simp only [if_true]; exact Sp.zero _ _ _
      | false => simp only [Bool.false_eq_true, if_false]; exact (Sp.mem (freeTo_mem.2 ⟨f, hf, hl, rfl⟩)).mul (v f)
    refine hmem.congr fun q hq => ?_
    cases hl : isLd B q with
    | false =>
      rw [sumTo_one (f := fun f => if isLd B f then 0 else v f * (freeRow p B n f).getD q 0) q hq (fun f hf hfq => by
        cases hlf : isLd B f with
        | true => simp
        | false => simp only [Bool.false_eq_true, if_false, freeRow_no hq (Ne.symm hfq) hl, Int.mul_zero])]
      simp only [hl, Bool.false_eq_true, if_false, freeRow_own hq, Int.mul_one]
    | true =>
      obtain ⟨i, hi, rfl⟩ := isLd_iff.1 hl
      have ho := h i hi
      have e1 : (sumTo n fun f => ent B i f * v f) % p = (sumTo n fun f => (if f = ld B i then v f else 0) + (-1) * (if isLd B f then 0 else v f * (freeRow p B n f).getD (ld B i) 0)) % p := by
        refine sumTo_mod p fun f hf => ?_
        cases hlf : isLd B f with
        | true =>
          obtain ⟨j, hj, rfl⟩ := isLd_iff.1 hlf
          simp only [if_true, Int.mul_zero, Int.add_zero]
          by_cases hji : j = i
          · subst hji; rw [if_pos rfl, hR.one j hj, Int.one_mul]
          · rw [if_neg (fun e => hji (hR.inj hj hi e)), hR.zero j i hj hi (Ne.symm hji), Int.zero_mul]
        | false =>
          have hne : f ≠ ld B i := fun e => by rw [e, hl] at hlf; cases hlf
          simp only [Bool.false_eq_true, if_false, if_neg hne, Int.zero_add, freeRow_ld hR hi hlf]
          have : -1 * (v f * (-(ent B i f) % p)) % p = -1 * (v f * (-(ent B i f))) % p := cg_mul rfl (cg_mul rfl (cg_self _ _))
          rw [this]; congr 1
          rw [Int.mul_neg, Int.neg_mul, Int.one_mul, Int.neg_neg, Int.mul_comm]
      rw [e1, sumTo_add, sumTo_mul, sumTo_one (f := fun f => if f = ld B i then v f else 0) (ld B i) hq (fun f _ hf => if_neg hf), if_pos rfl] at ho
      obtain ⟨S, hS⟩ : ∃ S, S = sumTo n fun f => if isLd B f then 0 else v f * (freeRow p B n f).getD (ld B i) 0 := ⟨_, rfl⟩
      rw [← hS] at ho ⊢
      have := cg_add (ho.trans (Int.zero_emod p).symm) (show S % p = S % p from rfl)
      rw [Int.zero_add] at this
      rw [← this]; congr 1; omega
theorem kernL_sp {p : Int} (hP : isP p = true) {n : Nat} {m : List (List Int)} (hT : Tab p n m) {v : Nat → Int} : Sp p n (kernL p m n) v ↔ Orth p n m v := by
  have hp : 2 ≤ p := by have := isP_ge hP; omega
  obtain ⟨a1, a2⟩ := basisL_in hP m hT
  obtain ⟨b1, b2⟩ := basisL_in hP _ (freeTo_tab (p := p) hp (basisL p m) n n)
  constructor
  · exact fun h => ((freeTo_sp (basisL_red hP m hT)).1 (b1.sp h)).of_in a2
  · exact fun h => b2.sp ((freeTo_sp (basisL_red hP m hT)).2 (h.of_in a1))
/-- What is orthogonal to the kernel is made of the rows. -/
theorem kernL_orth {p : Int} (hP : isP p = true) {n : Nat} {m : List (List Int)} (hT : Tab p n m) {v : Nat → Int} : Orth p n (kernL p m n) v ↔ Sp p n m v := by
  have hp : 2 ≤ p := by have := isP_ge hP; omega
  constructor
  · intro h
    obtain ⟨a1, _⟩ := basisL_in hP m hT
    have hR := basisL_red hP m hT
    obtain ⟨B, hB⟩ : ∃ B, B = basisL p m := ⟨_, rfl⟩
    obtain ⟨_, b2⟩ := basisL_in hP _ (freeTo_tab (p := p) hp B n n)
    have hf : Orth p n (freeTo p B n n) v := h.of_in (by unfold kernL; rw [← hB]; exact b2)
    rw [← hB] at a1 hR
    refine a1.sp ((Sp.sum (f := fun i q => v (ld B i) * ent B i q) B.length fun i hi => (Sp.row hi).mul _).congr fun q hq => ?_)
    cases hl : isLd B q with
    | true =>
      obtain ⟨j, hj, rfl⟩ := isLd_iff.1 hl
      rw [sumTo_one (f := fun i => v (ld B i) * ent B i (ld B j)) j hj (fun i hi hij => by rw [hR.zero j i hj hi hij, Int.mul_zero]), hR.one j hj, Int.mul_one]
    | false =>
      have h0 : (sumTo n fun k => (freeRow p B n q).getD k 0 * v k) % p = 0 := hf.sp (Sp.mem (freeTo_mem.2 ⟨q, hq, hl, rfl⟩))
      have e1 : (sumTo n fun k => (freeRow p B n q).getD k 0 * v k) % p = (sumTo n fun k => (if k = q then v k else 0) + (-1) * (sumTo B.length fun i => if k = ld B i then v k * ent B i q else 0)) % p := by
        refine sumTo_mod p fun k hk => ?_
        by_cases hkq : k = q
        · subst hkq
          rw [if_pos rfl, freeRow_own hk, sumTo_zero (f := fun i => if k = ld B i then v k * ent B i k else 0) fun i hi => if_neg (fun e => by rw [isLd_iff.2 ⟨i, hi, e.symm⟩] at hl; cases hl)]
          simp
        · rw [if_neg hkq, Int.zero_add]
          cases hlk : isLd B k with
          | false =>
            rw [freeRow_no hk hkq hlk, sumTo_zero (f := fun i => if k = ld B i then v k * ent B i q else 0) fun i hi => if_neg (fun e => by rw [isLd_iff.2 ⟨i, hi, e.symm⟩] at hlk; cases hlk)]
            simp
          | true =>
            obtain ⟨j, hj, rfl⟩ := isLd_iff.1 hlk
            rw [freeRow_ld hR hj hl, sumTo_one (f := fun i => if ld B j = ld B i then v (ld B j) * ent B i q else 0) j hj (fun i hi hij => if_neg (fun e => hij (hR.inj hi hj e.symm))), if_pos rfl]
            refine (cg_mul (cg_self _ _) rfl).trans ?_
            congr 1
            rw [Int.neg_mul, Int.neg_mul, Int.one_mul, Int.mul_comm]
      rw [e1, sumTo_add, sumTo_mul, sumTo_one (f := fun k => if k = q then v k else 0) q hq (fun k _ hk => if_neg hk), if_pos rfl, sumTo_comm] at h0
      have e2 : (sumTo B.length fun i => sumTo n fun k => if k = ld B i then v k * ent B i q else 0) = sumTo B.length fun i => v (ld B i) * ent B i q := sumTo_congr fun i hi => by
        rw [sumTo_one (f := fun k => if k = ld B i then v k * ent B i q else 0) (ld B i) (hR.lt i hi) (fun k _ hk => if_neg hk), if_pos rfl]
      rw [e2] at h0
      obtain ⟨S, hS⟩ : ∃ S, S = sumTo B.length fun i => v (ld B i) * ent B i q := ⟨_, rfl⟩
      rw [← hS] at h0
      show sumTo B.length (fun i => v (ld B i) * ent B i q) % p = v q % p
      rw [← hS]
      have := cg_add (h0.trans (Int.zero_emod p).symm) (show S % p = S % p from rfl)
      rw [Int.zero_add] at this
      rw [← this]; congr 1; omega
  · intro h i hi
    have hk := (kernL_sp hP hT).1 (Sp.row (p := p) (n := n) hi)
    rw [sumTo_congr (g := fun q => v q * ent (kernL p m n) i q) fun q _ => Int.mul_comm _ _]
    exact hk.sp h
end Go.Proofs.YtommppijnccomaaGreat
namespace Go.Proofs.YtommppijnccomaaGreat
theorem transL_row {m : List (List Int)} {n q : Nat} {p : Int} (hT : Tab p n m) (h0 : 0 < m.length) (hq : q < n) : (transL m).getD q [] = tab m.length fun i => ent m i q := by
  unfold transL
  rw [row0_len hT h0, tab_getD hq]
theorem apply_at {p : Int} {n : Nat} {a : List (List Int)} (hT : Tab p n a) (h0 : 0 < a.length) (z : List Int) {q : Nat} (hq : q < n) : (applyL p (transL a) z).getD q 0 = (sumTo a.length fun i => ent a i q * z.getD i 0) % p := by
  unfold applyL
  rw [tab_getD (by rw [transL_len hT h0]; exact hq), transL_row hT h0 hq]
  unfold dotL
  rw [tab_len]
  congr 1
  exact sumTo_congr fun i hi => by rw [tab_getD hi]
/-- The common vectors that the sums that are 0 tell. -/
def outL (p : Int) (a K : List (List Int)) : List (List Int) := K.map fun z => applyL p (transL a) (z.take a.length)
def commonL (p : Int) (a b : List (List Int)) : List (List Int) := if a.length = 0 ∨ b.length = 0 then [] else basisL p (outL p a (kernL p (transL (a ++ b)) (a.length + b.length)))
def comL (p : Int) (n : Nat) (a b : List (List Int)) : List (List Int) := kernL p (kernL p a n ++ kernL p b n) n
theorem outL_tab {p : Int} {n : Nat} (hp : 0 < p) {a : List (List Int)} (hT : Tab p n a) (h0 : 0 < a.length) (K : List (List Int)) : Tab p n (outL p a K) := fun x hx => by
  obtain ⟨z, _, rfl⟩ := List.mem_map.1 hx
  refine ⟨by unfold applyL; rw [tab_len, transL_len hT h0], ?_⟩
  unfold applyL
  exact NumsL.tab fun i _ => by unfold dotL; exact ⟨Int.emod_nonneg _ (by omega), Int.emod_lt_of_pos _ hp⟩
theorem commonL_tab {p : Int} {n : Nat} (hp : 0 < p) {a b : List (List Int)} (ha : Tab p n a) : Tab p n (commonL p a b) := by
  unfold commonL
  split
  · exact Tab.nil _ _
  · exact basisL_tab hp _ (outL_tab hp ha (by omega) _)
theorem comL_tab {p : Int} (hp : 2 ≤ p) (n : Nat) (a b : List (List Int)) : Tab p n (comL p n a b) := kernL_tab hp _ _
theorem comL_sp {p : Int} (hP : isP p = true) {n : Nat} {a b : List (List Int)} (ha : Tab p n a) (hb : Tab p n b) {v : Nat → Int} : Sp p n (comL p n a b) v ↔ Sp p n a v ∧ Sp p n b v := by
  have hp : 2 ≤ p := by have := isP_ge hP; omega
  unfold comL
  rw [kernL_sp hP ((kernL_tab hp a n).append (kernL_tab hp b n)), Orth.append, kernL_orth hP ha, kernL_orth hP hb]
theorem take_getD {α : Type} (d : α) (z : List α) {k i : Nat} (h : i < k) : (z.take k).getD i d = z.getD i d := by
  by_cases hz : i < z.length
  · rw [getD_of_lt d (by rw [List.length_take]; omega), getD_of_lt d hz, List.getElem_take]
  · rw [getD_of_ge d (by rw [List.length_take]; omega), getD_of_ge d (by omega)]
theorem outL_sp {p : Int} (hP : isP p = true) {n : Nat} {a b : List (List Int)} (ha : Tab p n a) (hb : Tab p n b) (h0 : 0 < a.length) {v : Nat → Int} : Sp p n (outL p a (kernL p (transL (a ++ b)) (a.length + b.length))) v ↔ Sp p n a v ∧ Sp p n b v := by
  have hp : 2 ≤ p := by have := isP_ge hP; omega
  have hab := ha.append hb
  have hl : (a ++ b).length = a.length + b.length := List.length_append
  have h0' : 0 < (a ++ b).length := by omega
  have hTT := transL_tab (p := p) (by omega) hab
  rw [hl] at hTT
  have e1 : ∀ i q, i < a.length → ent (a ++ b) i q = ent a i q := fun i q hi => by unfold ent; rw [getD_app_left [] _ hi]
  have e2 : ∀ i q, ent (a ++ b) (a.length + i) q = ent b i q := fun i q => by unfold ent; rw [getD_app_right]
  have split : ∀ (z : Nat → Int) (q : Nat) k, sumTo (a.length + k) (fun i => ent (a ++ b) i q * z i) = sumTo a.length (fun i => ent a i q * z i) + sumTo k (fun i => ent b i q * z (a.length + i)) := by
    intro z q k
    induction k with
    | zero => exact (sumTo_congr fun i hi => by rw [e1 i q hi]).trans (by simp [sumTo])
    | succ k ih => rw [← Nat.add_assoc, sumTo_succ, ih, sumTo_succ, e2]; omega
  have horth : ∀ z : Nat → Int, Orth p (a.length + b.length) (transL (a ++ b)) z ↔ ∀ q, q < n → (sumTo a.length (fun i => ent a i q * z i) + sumTo b.length (fun i => ent b i q * z (a.length + i))) % p = 0 := by
    intro z
    unfold Orth
    rw [transL_len hab h0']
    refine forall_congr' fun q => forall_congr' fun hq => ?_
    have : (sumTo (a.length + b.length) fun i => ent (transL (a ++ b)) q i * z i) = sumTo (a.length + b.length) fun i => ent (a ++ b) i q * z i := sumTo_congr fun i hi => by
      show ((transL (a ++ b)).getD q []).getD i 0 * _ = _
      rw [transL_row hab h0' hq, tab_getD (by omega)]
    rw [this, split]
  constructor
  · intro h
    have hr : ∀ x ∈ outL p a (kernL p (transL (a ++ b)) (a.length + b.length)), Sp p n a (fun q => x.getD q 0) ∧ Sp p n b (fun q => x.getD q 0) := fun x hx => by
      obtain ⟨z, hz, rfl⟩ := List.mem_map.1 hx
      have hk := (horth _).1 ((kernL_sp hP hTT).1 (Sp.mem hz))
      have hat : ∀ q, q < n → (applyL p (transL a) (z.take a.length)).getD q 0 % p = (sumTo a.length fun i => ent a i q * z.getD i 0) % p := fun q hq => by
        rw [apply_at ha h0 _ hq, cg_self]
        congr 1
        exact sumTo_congr fun i hi => by rw [take_getD 0 z hi]
      refine ⟨⟨fun i => z.getD i 0, fun q hq => ?_⟩, ⟨fun i => -(z.getD (a.length + i) 0), fun q hq => ?_⟩⟩
      · rw [hat q hq]; congr 1; exact sumTo_congr fun i _ => Int.mul_comm _ _
      · rw [hat q hq, sumTo_congr (f := fun i => -(z.getD (a.length + i) 0) * ent b i q) (g := fun i => (-1) * (ent b i q * z.getD (a.length + i) 0)) fun i _ => by rw [Int.neg_mul, Int.neg_mul, Int.one_mul, Int.mul_comm], sumTo_mul]
        have h1 := hk q hq
        obtain ⟨S, hS⟩ : ∃ S, S = sumTo a.length fun i => ent a i q * z.getD i 0 := ⟨_, rfl⟩
        obtain ⟨T, hT⟩ : ∃ T, T = sumTo b.length fun i => ent b i q * z.getD (a.length + i) 0 := ⟨_, rfl⟩
        rw [← hS, ← hT] at h1
        rw [← hS, ← hT]
        have := cg_add (h1.trans (Int.zero_emod p).symm) (show (-1 * T) % p = (-1 * T) % p from rfl)
        rw [Int.zero_add] at this
        rw [← this]; congr 1; omega
    exact ⟨(InSp.of_mem fun x hx => (hr x hx).1).sp h, (InSp.of_mem fun x hx => (hr x hx).2).sp h⟩
  · rintro ⟨⟨c, hc⟩, ⟨d, hd⟩⟩
    have hz : Orth p (a.length + b.length) (transL (a ++ b)) fun i => if i < a.length then c i else -(d (i - a.length)) := (horth _).2 fun q hq => by
      rw [sumTo_congr (f := fun i => ent a i q * _) (g := fun i => c i * ent a i q) fun i hi => by rw [if_pos hi, Int.mul_comm]]
      rw [sumTo_congr (f := fun i => ent b i q * _) (g := fun i => (-1) * (d i * ent b i q)) fun i hi => by rw [if_neg (by omega), show a.length + i - a.length = i by omega, Int.mul_neg, Int.neg_mul, Int.one_mul, Int.mul_comm], sumTo_mul]
      have h1 := (hc q hq).symm.trans (hd q hq)
      obtain ⟨S, hS⟩ : ∃ S, S = sumTo a.length fun i => c i * ent a i q := ⟨_, rfl⟩
      obtain ⟨T, hT⟩ : ∃ T, T = sumTo b.length fun i => d i * ent b i q := ⟨_, rfl⟩
      rw [← hS, ← hT] at h1
      rw [← hS, ← hT]
      have := cg_add h1 (show (-1 * T) % p = (-1 * T) % p from rfl)
      rw [this, Int.neg_mul, Int.one_mul, ← Int.sub_eq_add_neg, Int.sub_self]; rfl
    obtain ⟨e, he⟩ := (kernL_sp hP hTT).2 hz
    obtain ⟨K, hK⟩ : ∃ K, K = kernL p (transL (a ++ b)) (a.length + b.length) := ⟨_, rfl⟩
    rw [← hK] at he ⊢
    refine ⟨e, fun q hq => ?_⟩
    have hlen : (outL p a K).length = K.length := by unfold outL; rw [List.length_map]
    have hrow : ∀ k, k < K.length → ent (outL p a K) k q % p = (sumTo a.length fun i => ent a i q * ent K k i) % p := fun k hk => by
      have : (outL p a K).getD k [] = applyL p (transL a) ((K.getD k []).take a.length) := by
        rw [getD_of_lt [] (by omega), getD_of_lt [] hk]; unfold outL; rw [List.getElem_map]
      unfold ent
      rw [this, apply_at ha h0 _ hq, cg_self]
      congr 1
      exact sumTo_congr fun i hi => by rw [take_getD 0 _ hi]; rfl
    rw [hlen, sumTo_mod p (g := fun k => e k * sumTo a.length fun i => ent a i q * ent K k i) fun k hk => cg_mul rfl (hrow k hk)]
    rw [sumTo_congr (g := fun k => sumTo a.length fun i => ent a i q * (e k * ent K k i)) fun k _ => by
      rw [← sumTo_mul]; exact sumTo_congr fun i _ => by rw [← Int.mul_assoc, Int.mul_comm (e k), Int.mul_assoc], sumTo_comm]
    rw [hc q hq]
    refine sumTo_mod p fun i hi => ?_
    rw [sumTo_mul, Int.mul_comm (c i)]
    have := he i (by omega)
    simp only [if_pos hi] at this
    exact cg_mul rfl this
/-- Both ways tell the same. -/
theorem common_same {p : Int} (hP : isP p = true) {n : Nat} {a b : List (List Int)} (ha : Tab p n a) (hb : Tab p n b) : basisL p (commonL p a b) = basisL p (comL p n a b) := by
  have hp : 2 ≤ p := by have := isP_ge hP; omega
  refine basisL_same hP (commonL_tab (by omega) ha) (comL_tab hp n a b) ?_ ?_
  · unfold commonL
    split
    · exact fun i hi => absurd hi (by simp)
    · intro i hi
      have h := Sp.row (p := p) (n := n) hi
      exact (comL_sp hP ha hb).2 ((outL_sp hP ha hb (by omega)).1 ((basisL_in hP _ (outL_tab (p := p) (by omega) ha (by omega) _)).1.sp h))
  · intro i hi
    obtain ⟨h1, h2⟩ := (comL_sp hP ha hb).1 (Sp.row (p := p) (n := n) hi)
    unfold commonL
    split
    · rename_i hz
      refine (Sp.zero _ _ _).congr fun q hq => ?_
      rcases hz with hz | hz
      · obtain ⟨c, hc⟩ := h1
        have := hc q hq
        rw [hz] at this
        exact this.symm
      · obtain ⟨c, hc⟩ := h2
        have := hc q hq
        rw [hz] at this
        exact this.symm
    · exact (basisL_in hP _ (outL_tab (p := p) (by omega) ha (by omega) _)).2.sp ((outL_sp hP ha hb (by omega)).2 ⟨h1, h2⟩)
end Go.Proofs.YtommppijnccomaaGreat
namespace Go.Proofs.YtommppijnccomaaGreat
open Go.RowKit
def CK (w w' : World) : Prop := ∀ b i u, w.cell? ⟨b, i, none⟩ = some u → w'.cell? ⟨b, i, none⟩ = some u
theorem CK.refl (w : World) : CK w w := fun _ _ _ h => h
theorem CK.below {w w1 w2 : World} (h : CK w w1) (hb : Below w1.heap.size w1 w2) : CK w w2 := fun b i u hu =>
  (hb.cell (World.block_lt_of_cell? _ _ (h b i u hu))).trans (h b i u hu)
theorem Rd.ck {w w' : World} {A : Option Addr} {n : Nat} {us : List Value} (h : Rd w A n us) (k : CK w w') : Rd w' A n us := ⟨h.1, fun hn => by
  obtain ⟨g, o, e, hc⟩ := h.2 hn
  exact ⟨g, o, e, fun j u hu => k _ _ _ (hc j u hu)⟩⟩
theorem RdII.ck {w w' : World} {A : Option Addr} {n : Nat} {xss : List (List Int)} (h : RdII w A n xss) (k : CK w w') : RdII w' A n xss := by
  obtain ⟨rows, hr, hl, hk⟩ := h
  exact ⟨rows, hr.ck k, hl, fun j hj => by obtain ⟨A', c', e, h1, h2⟩ := hk j hj; exact ⟨A', c', e, h1.ck k, h2⟩⟩
theorem Rd.cut {w : World} {A : Option Addr} {n k : Nat} {us : List Value} (h : Rd w A n us) (hk : k ≤ n) : Rd w A k (us.take k) := ⟨by rw [List.length_take, h.1]; omega, fun hn => by
  obtain ⟨g, o, e, hc⟩ := h.2 (by omega)
  exact ⟨g, o, e, fun j u hu => hc j u (by
    rw [List.getElem?_take] at hu
    split at hu
    · exact hu
    · cases hu)⟩⟩
/-- A row that grows; it began as the empty block g; what lay in w is as it was. -/
def Grows (w wr : World) (g : Nat) (v : Value) : Prop := CK w wr ∧ w.heap.size ≤ wr.heap.size ∧ ∀ gb, v.ownBlock = some gb → gb = g ∨ w.heap.size ≤ gb
theorem Grows.step {w wr v1 w' : World} {g : Nat} {T : TypeId} {A A' : Option Addr} {n c n' c' : Nat} (h : Grows w wr g (.slice A n c)) (he : Blk w g T #[]) (hb : Below wr.heap.size wr v1) (hg : v1.grownBy w' (Value.slice A n c).ownBlock)
    (hat : ∃ g', A' = some ⟨g', 0, none⟩ ∧ ((Value.slice A n c).ownBlock = some g' ∨ v1.heap.size ≤ g')) : Grows w w' g (.slice A' n' c') := by
  obtain ⟨h1, h2, h3⟩ := h
  refine ⟨fun b i u hu => ?_, by have := hb.size; have := hg.size; omega, fun gb hgb => ?_⟩
  · refine hg.cell ((hb.cell (World.block_lt_of_cell? _ _ (h1 b i u hu))).trans (h1 b i u hu)) fun e => ?_
    rcases h3 b e.symm with rfl | hge
    · rw [he.cell] at hu; simp at hu
    · have hlt : b < w.heap.size := World.block_lt_of_cell? _ _ hu
      omega
  · obtain ⟨g', rfl, hor⟩ := hat
    simp only [Value.ownBlock, Option.some.injEq] at hgb
    subst hgb
    rcases hor with hor | hor
    · exact h3 _ hor
    · right; have := hb.size; omega
/-- The value is the slice of a new empty block. -/
def VEmp (w0 : World) (E : TypeId) : VP := ⟨fun v w => ∃ g, v = .slice (some ⟨g, 0, none⟩) 0 0 ∧ w0.heap.size ≤ g ∧ Blk w g E #[], fun _ _ _ ⟨g, e, hg, h⟩ hb => ⟨g, e, hg, h.below hb h.lt⟩⟩
/-- A list that was there is appended to one of the call's own. -/
theorem wp_appRowsR {o : Oper} {a : Act} {K : Act → World → Prop} {Q : Exit → Act → World → Prop} (w0 wr : World)
    (s x : Operand) (ho : o.op = .call { callee := .builtin .append, args := #[s, x], argTypes := #[37, 37] })
    (A : Option Addr) (n c : Nat) (xss : List (List Int)) (B : Option Addr) (m d : Nat) (yss : List (List Int)) (hM : MkII w0 wr A n c xss) (hR : RdII w0 B m yss) (hn : n + m ≤ 1099511627775)
    (hs : a.eval s = .slice A n c) (hx : a.eval x = .slice B m d)
    (h : ∀ A' c' w', RdII w' A' (n + m) (xss ++ yss) → Below w0.heap.size w0 w' → K (a.put o.dst (.slice A' (n + m) c')) w') : o.wp Tryz.prog a wr K Q := by
  obtain ⟨rows, hm, hnest⟩ := hM
  obtain ⟨rows', hr0, hrl, hrow⟩ := hR
  have hr := hr0.below hm.1
  obtain ⟨i, hi, h1, h2, h3⟩ := info_parts info_s
  obtain ⟨b1, b2⟩ := bound_of (show n + m - 1 ≤ 1099511627776 by omega)
  have hr1 : rows'.length = m := hr.1
  have hone : ∀ u ∈ rows', u.oneCell' = true := fun u hu => by
    obtain ⟨k, hk, rfl⟩ := List.getElem_of_mem hu
    obtain ⟨A2, c2, e, _⟩ := hrow k (by omega)
    rw [List.getElem?_eq_getElem hk] at e
    rw [Option.some.inj e]; rfl
  have key : ∃ A' c' w', (Builtin.append_ #[37, 37] o.type #[.slice A n c, .slice B m d]).run Tryz.prog wr = .ok (.slice A' (n + m) c') w' ∧ Own w' w0.heap.size 22 A' (n + m) c' (rows ++ rows') ∧ wr.grownBy w' (Value.slice A n c).ownBlock := by
    by_cases hm0 : m = 0
    · subst hm0
      obtain rfl : rows' = [] := List.eq_nil_of_length_eq_zero hr1
      have hsrc : Src Tryz.prog i.size 37 (.slice B 0 d) 0 [] wr := by
        cases B with
        | none => exact Src.ofNil wr Tryz.underlying37 d
        | some ad => exact Src.ofSlice wr Tryz.underlying37 ad 0 d [] (by simp) (fun j u hu => by simp at hu) (fun u hu => by simp at hu)
      refine ⟨A, c, wr, run_append_nothing wr _ _ _ _ i Tryz.underlying37 hi A n c hm.2.cap _ hsrc, ?_, World.grownBy.refl _ _⟩
      rw [List.append_nil]
      exact hm.2
    · obtain ⟨g, o', rfl, hc⟩ := hr.2 (by omega)
      obtain ⟨g', cap, w', hrun, hown, hg, _, _⟩ := run_append_lies (P := Tryz.prog) (w := wr) 37 o.type w0.heap.size 22 i (.slice none 0 0) 1 24 Tryz.underlying37 hi h1 h2 h3 rfl (by omega) (.slice A n c) n rows hm.2 ⟨g, o', none⟩ m d rows' (by omega)
        (fun j u hu => by rw [Addr.add_lit]; exact hc j u hu) hone (by omega) (by simp only [maxLen]; omega) (by omega) hm.1.size _ rfl
      exact ⟨_, _, _, hrun, hown, hg⟩
  obtain ⟨A', c', w', hrun, hown, hg⟩ := key
  have hbw : Below w0.heap.size w0 w' := hm.1.grown hg hm.1.size (fun k hk => (hm.2.lt k hk).1)
  have hnest' := hnest.grown hm.2 (by decide) hg
  have hrr : RdII w' A' (n + m) (xss ++ yss) := by
    have hl := hnest.len
    refine ⟨rows ++ rows', hown.rd, by rw [List.length_append, List.length_append, hl, hrl], fun k hk => ?_⟩
    by_cases hlt : k < xss.length
    · obtain ⟨A2, c2, e, ho2⟩ := hnest'.row k hlt
      simp only [List.getElem_append_left hlt]
      exact ⟨A2, c2, by rw [List.getElem?_append_left (by omega)]; exact e, ho2.rd, ho2.cap⟩
    · have hk2 : k - xss.length < yss.length := by rw [List.length_append] at hk; omega
      obtain ⟨A2, c2, e, ho2, hc2⟩ := hrow (k - xss.length) hk2
      simp only [List.getElem_append_right (Nat.le_of_not_lt hlt)]
      exact ⟨A2, c2, by rw [List.getElem?_append_right (by omega), hl]; exact e, ho2.below hbw, hc2⟩
  unfold Oper.wp execOp
  simp only [ho, resolve, invoke, builtin, Sem.run_bind, Sem.run_pure, Result.andThen_ok, List.map_toArray, List.map_cons, List.map_nil, hs, hx, hrun]
  exact h A' c' w' hrr hbw
theorem takes_len {p : Int} {n : Nat} {K : List (List Int)} (hT : Tab p n K) {k : Nat} (hk : k < K.length) {m : Nat} (hm : m ≤ n) : (K[k].take m).length = m ∧ NumsL p (K[k].take m) := by
  obtain ⟨h1, h2⟩ := hT _ (List.getElem_mem hk)
  exact ⟨by rw [List.length_take]; omega, fun x hx => h2 x (List.mem_of_mem_take hx)⟩
theorem ints_take (xs : List Int) (k : Nat) : (ints xs).take k = ints (xs.take k) := by unfold ints; rw [List.map_take]
theorem blaL_common {p : Int} (hP : isP p = true) {n : Nat} {a b : List (List Int)} (ha : Tab p n a) (hb : Tab p n b) (sq : List Int) : blaL p sq n (commonL p a b) = blaL p sq n (comL p n a b) := by
  unfold blaL
  rw [common_same hP ha hb]
theorem commonL_nil_left (p : Int) (a b : List (List Int)) (h : a.length = 0) : commonL p a b = [] := by unfold commonL; rw [if_pos (.inl h)]
theorem commonL_nil_right (p : Int) (a b : List (List Int)) (h : b.length = 0) : commonL p a b = [] := by unfold commonL; rw [if_pos (.inr h)]
theorem commonL_eq {p : Int} {a b : List (List Int)} (ha : a.length ≠ 0) (hb : b.length ≠ 0) : commonL p a b = basisL p (outL p a (kernL p (transL (a ++ b)) (a.length + b.length))) := by
  unfold commonL; rw [if_neg (by omega)]
theorem outL_take {p : Int} {a K : List (List Int)} {k : Nat} (hk : k < K.length) : (outL p a K).take (k + 1) = (outL p a K).take k ++ [applyL p (transL a) (K[k].take a.length)] := by
  rw [List.take_succ_eq_append_getElem (by unfold outL; rw [List.length_map]; exact hk)]
  unfold outL
  rw [List.getElem_map]
theorem commonL_len {p : Int} (hP : isP p = true) {n : Nat} {a b : List (List Int)} (ha : Tab p n a) : (commonL p a b).length ≤ n := by
  have hp := (isP_ge hP).1
  unfold commonL
  split
  · simp
  · exact (basisL_red hP _ (outL_tab (by omega) ha (by omega) _)).len
set_option maxHeartbeats 800000 in
theorem l01Dot_any (p : Int) (A : Option Addr) (n c : Nat) (B : Option Addr) (m d : Nat) (xs ys : List Int) (w : World) (hp : 2 ≤ p) (hp2 : p ≤ 13) (hn : n ≤ 65536) (hnm : n ≤ m) (ha : Rd w A n (ints xs)) (hx : NumsL p xs) (hb : Rd w B m (ints ys)) (hy : NumsL p ys) :
    Calls Tryz.prog 141 #[.int .i64 p, .slice A n c, .slice B m d] w fun e w' => e = .returned (.int .i64 (dotL p xs ys)) ∧ Below w.heap.size w w' := by
  have hxl := ha.lenI
  have hyl := hb.lenI
  have hD : dotL p xs ys = (sumTo n fun i => xs.getD i 0 * ys.getD i 0) % p := by unfold dotL; rw [hxl]
  have HD := Lib.hid hD
  have HX := Lib.hid hx
  have HY := Lib.hid hy
  clear hD hxl hyl hx hy
  have hP0 : (p == 0) = false := by simp; omega
  have hP1 : (p == -1) = false := by simp; omega
  have hP2 : ¬ p = 0 := by omega
  go_enter Tryz.func141, Tryz.ntmps141
  go_wp2
  go_loopw [7, 8] (fun s i wr => ∃ (k : Nat), k ≤ n ∧ i = .int .i64 k ∧ s = .int .i64 ((sumTo k fun i => xs.getD i 0 * ys.getD i 0) % p) ∧ Below w.heap.size w wr) (fun _ i _ => n - (intOf i).toNat)
  case atStart => exact ⟨0, by omega, rfl, by simp [sumTo], Below.refl _ _⟩
  case round =>
    obtain ⟨k, hk, rfl, rfl, hbw⟩ := hrel
    by_cases hlt : k < n
    · obtain ⟨g, o, rfl, hxk, hc⟩ := (ha.below hbw).int hlt
      obtain ⟨g2, o2, rfl, hyk, hc2⟩ := (hb.below hbw).int (show k < m by omega)
      obtain ⟨x1, x2⟩ := HX.out _ (List.getElem_mem hxk)
      obtain ⟨y1, y2⟩ := HY.out _ (List.getElem_mem hyk)
      have HV : Hid ((sumTo (k + 1) fun i => xs.getD i 0 * ys.getD i 0) % p = ((sumTo k fun i => xs.getD i 0 * ys.getD i 0) % p + xs[k] * ys[k]) % p) := Lib.hid (by rw [← getD_of_lt 0 hxk, ← getD_of_lt 0 hyk, ← sumTo_step])
      obtain ⟨xa, hxa⟩ : ∃ x, x = xs[k] := ⟨_, rfl⟩
      obtain ⟨ya, hya⟩ : ∃ x, x = ys[k] := ⟨_, rfl⟩
      rw [← hxa] at hc x1 x2 HV
      rw [← hya] at hc2 y1 y2 HV
      obtain ⟨m1, m2⟩ := mul_small x1 (show xa ≤ 13 by omega) y1 (show ya ≤ 13 by omega)
      obtain ⟨s1, s2⟩ := emod_small (sumTo k fun i => xs.getD i 0 * ys.getD i 0) p (by omega)
      obtain ⟨ss, hss⟩ : ∃ x, x = (sumTo k fun i => xs.getD i 0 * ys.getD i 0) % p := ⟨_, rfl⟩
      rw [← hss] at s1 s2 HV ⊢
      have W1 := i64_fit (xa * ya) (by omega) (by omega)
      have W2 := i64_fit (ss + xa * ya) (by omega) (by omega)
      have T1 := Int.tmod_eq_emod_of_nonneg (b := p) (show 0 ≤ ss + xa * ya by omega)
      have i1 : (0 : Int) ≤ (k : Int) := by omega
      have i2 : (k : Int) < (n : Int) := by omega
      have i3 : (k : Int) < (m : Int) := by omega
      clear hxa hya hss ha hb
      go_wp2
      go_quiet (fail)
      go_wp2
      go_roundw
      case rel => exact ⟨k + 1, by omega, by go_num, by rw [HV.out], below_drewN hbw _⟩
      case measure => simp [intOf]; omega
    · obtain rfl : k = n := by omega
      go_wp2
      go_ret
      exact ⟨ret_int HD.out.symm, hbw⟩
set_option maxHeartbeats 800000 in
theorem l02Apply_any (p : Int) (A : Option Addr) (n c : Nat) (M : List (List Int)) (B : Option Addr) (m d : Nat) (v : List Int) (w : World) (hp : 2 ≤ p) (hp2 : p ≤ 13) (hn : n ≤ 65536) (hm : m ≤ 65536) (ha : RdII w A n M) (hM : Tab p m M) (hb : Rd w B m (ints v)) (hv : NumsL p v) :
    Calls Tryz.prog 118 #[.int .i64 p, .slice A n c, .slice B m d] w fun e w' => ∃ A' c', e = .returned (.slice A' n c') ∧ MkI w w' A' n c' (applyL p M v) := by
  have HL := Lib.hid ha.len
  have HT := Lib.hid hM
  have hM0 := Mk.lit (E := 2) (Below.refl w.heap.size w) #[] (by simp)
  clear hM
  go_enter Tryz.func118, Tryz.ntmps118
  go_wp2
  go_loopw [7, 8] (fun out i wr => ∃ (j : Nat) (A' : Option Addr) (c' : Nat), j ≤ n ∧ i = .int .i64 j ∧ out = .slice A' j c' ∧ MkI w wr A' j c' (tab j fun i => dotL p (M.getD i []) v)) (fun _ i _ => n - (intOf i).toNat)
  case atStart => exact ⟨0, _, _, by omega, rfl, rfl, by simpa [MkI, ints, tab] using hM0⟩
  case round =>
    obtain ⟨j, A', c', hj, rfl, rfl, hM⟩ := hrel
    clear hM0
    by_cases hlt : j < n
    · obtain ⟨g, o, rfl, hxj, A1, c1, hcx, hr1, _⟩ := (ha.below hM.b).at_ hlt
      have HRow := Lib.hid (HT.out M[j] (List.getElem_mem hxj))
      have hle : M[j].length ≤ m := by rw [HRow.out.1]; exact Nat.le_refl _
      have hle2 : M[j].length ≤ 65536 := by omega
      have HV : Hid ((tab (j + 1) fun i => dotL p (M.getD i []) v) = (tab j fun i => dotL p (M.getD i []) v) ++ [dotL p M[j] v]) := Lib.hid (by rw [tab_succ, getD_of_lt [] hxj])
      have hdot := fun w' (hb' : Below wr.heap.size wr w') => l01Dot_any p A1 M[j].length c1 B m d M[j] v w' hp hp2 hle2 hle (hr1.below hb') HRow.out.2 (hb.below (hM.b.trans (hb'.mono hM.b.size))) hv
      have HM := Lib.hid hM
      clear ha hM
      go_wp2_with (first
        | (go_at_call 141; refine (hdot _ (Below.refl _ _)).mono ?_; rintro e w' ⟨rfl, hbd⟩)
        | (at_builtin; refine wpList_app1 w _ 22 2 _ _ Tryz.underlying22 info_i rfl (by omega) rfl _ _ rfl A' j c' _ _ (HM.out.below hbd) (by omega) rfl rfl rfl ?_; intro A2 c2 w2 hM2 _ _))
      go_roundw
      case rel => exact ⟨j + 1, A2, c2, by omega, by go_num, rfl, by rw [HV.out]; simpa [MkI, ints] using hM2⟩
      case measure => simp [intOf]; omega
    · go_wp2
      go_ret
      obtain rfl : j = n := by omega
      exact ⟨_, _, rfl, by unfold applyL; rw [HL.out]; exact hM⟩
set_option maxHeartbeats 3200000 in
set_option maxRecDepth 8000 in
theorem l06Common_any (P : Int) (A : Option Addr) (n c : Nat) (sq : List Int) (B1 : Option Addr) (na d1 : Nat) (LA : List (List Int)) (B2 : Option Addr) (nb d2 : Nat) (LB : List (List Int)) (w : World) (HP : isP P = true) (hn : n ≤ 6) (h0 : 0 < n) (hna : na ≤ 100) (hnb : nb ≤ 100) (h1 : RdII w B1 na LA) (t1 : Tab P n LA) (h2 : RdII w B2 nb LB) (t2 : Tab P n LB) :
    Calls Tryz.prog 76 #[.agg #[.int .i64 P, .slice A n c], .slice B1 na d1, .slice B2 nb d2] w fun e w' => ∃ A' c', e = .returned (.slice A' (commonL P LA LB).length c') ∧ MkII w w' A' (commonL P LA LB).length c' (commonL P LA LB) := by
  obtain ⟨hp3, hp2⟩ := isP_ge HP
  have hp : 2 ≤ P := by omega
  have hla := h1.len
  have hlb := h2.len
  have hB0 : Below w.heap.size w (w.alloc (.cells #[.int .i64 P, .slice A n c] 28)) := (Below.refl _ _).alloc (Nat.le_refl _) _
  have k0 : Blk (w.alloc (.cells #[.int .i64 P, .slice A n c] 28)) w.heap.size 28 #[.int .i64 P, .slice A n c] := Blk.new _ _ _
  have hown := l01Own2_any P B1 na d1 LA n (w.alloc (.cells #[.int .i64 P, .slice A n c] 28)) (by omega) (by omega) (h1.below hB0) t1
  have h2' := h2.below hB0
  obtain ⟨W1, hW1⟩ : ∃ W, W = (w.alloc (.cells #[.int .i64 P, .slice A n c] 28)) := ⟨_, rfl⟩
  rw [← hW1] at hown h2' hB0 k0
  by_cases hz : na = 0 ∨ nb = 0
  · have hnil : commonL P LA LB = [] := by
      rcases hz with hz | hz
      · exact commonL_nil_left _ _ _ (by omega)
      · exact commonL_nil_right _ _ _ (by omega)
    rw [hnil]
    clear hnil
    by_cases hz1 : na = 0
    · subst hz1
      go_enter Tryz.func76, Tryz.ntmps76
      go_wp2_with fail
      rw [← hW1]
      refine hown.mono ?_
      rintro e w2 ⟨A2, c2, rfl, hM2⟩
      go_wp2_with (at_builtin; refine wpList_plain rfl (fun K hK => wp_appRowsR W1 w2 _ _ rfl A2 _ c2 LA B2 nb d2 LB hM2 h2' (by omega) rfl rfl (fun A3 c3 w3 hR3 hb3 => hK _ _ ?_)))
      go_wp2
      go_ret
      exact ⟨_, _, rfl, MkII.empty (hB0.trans (hb3.mono hB0.size))⟩
    · have hz2 : nb = 0 := by omega
      subst hz2
      have hna0 : ((na : Int) == 0) = false := by simp; omega
      go_enter Tryz.func76, Tryz.ntmps76
      go_wp2_with fail
      rw [← hW1]
      refine hown.mono ?_
      rintro e w2 ⟨A2, c2, rfl, hM2⟩
      go_wp2_with (at_builtin; refine wpList_plain rfl (fun K hK => wp_appRowsR W1 w2 _ _ rfl A2 _ c2 LA B2 0 d2 LB hM2 h2' (by omega) rfl rfl (fun A3 c3 w3 hR3 hb3 => hK _ _ ?_)))
      go_wp2
      go_ret
      exact ⟨_, _, rfl, MkII.empty (hB0.trans (hb3.mono hB0.size))⟩
  · have hna0 : ((na : Int) == 0) = false := by simp; omega
    have hnb0 : ((nb : Int) == 0) = false := by simp; omega
    have HCL : Hid (commonL P LA LB = basisL P (outL P LA (kernL P (transL (LA ++ LB)) (LA.length + LB.length)))) := Lib.hid (commonL_eq (by omega) (by omega))
    have HTAB := Lib.hid (t1.append t2)
    have HTT := Lib.hid (transL_tab (p := P) (by omega) (t1.append t2))
    have HTA := Lib.hid (transL_tab (p := P) (by omega) t1)
    have HTO := Lib.hid (outL_tab (p := P) (by omega) t1 (by omega) (kernL P (transL (LA ++ LB)) (LA.length + LB.length)))
    have HKT := Lib.hid (kernL_tab hp (transL (LA ++ LB)) (LA.length + LB.length))
    have HKN := Lib.hid (kernL_len HP (transL (LA ++ LB)) (LA.length + LB.length))
    have HT1 := Lib.hid t1
    have HLA := Lib.hid hla
    have HLB := Lib.hid hlb
    have HZ := Lib.hid hz
    have HPP := Lib.hid HP
    rw [List.length_append] at HTT
    rw [hla, hlb] at HCL HTT HTO HKT HKN
    clear hz t1 t2 HP hla hlb
    obtain ⟨KN, hK⟩ : ∃ K, K = kernL P (transL (LA ++ LB)) (na + nb) := ⟨_, rfl⟩
    have HKE := Lib.hid hK
    rw [← hK] at HCL HTO HKT HKN
    clear hK
    go_enter Tryz.func76, Tryz.ntmps76
    go_wp2_with fail
    rw [← hW1]
    refine hown.mono ?_
    rintro e w2 ⟨A2, c2, rfl, hM2⟩

    go_wp2_with (at_builtin; refine wpList_plain rfl (fun K hK => wp_appRowsR W1 w2 _ _ rfl A2 _ c2 LA B2 nb d2 LB hM2 h2' (by omega) rfl rfl (fun A3 c3 w3 hR3 hb3 => hK _ _ ?_)))
    have hB3 := hB0.trans (hb3.mono hB0.size)
    have k3 := k0.below hb3 k0.lt
    obtain ⟨q0, q1⟩ := k3.two
    have h13 := h1.below hB3
    clear hown h2' hM2 hb3 k0 hB0 hW1
    go_wp2

    refine wp_obs 8 [[], [0], [], [2], [0, 1, 2, 3], [], [0, 1, 2, 3, 4], [5]] [VIs (.pointer (some ⟨w.heap.size, 0, none⟩)), VIs (.int .i64 (P)), VIs (.slice A3 (na + nb) c3), VMat w3 n (transL (LA ++ LB)), VMat w3 KN.length KN, VEmp w3 22, VMat w3 KN.length KN, VEmp w3 22] (fun w' => Blk w' w.heap.size 28 #[.int .i64 P, .slice A n c] ∧ Below w3.heap.size w3 w') (by kernel_rfl) (by kernel_rfl) (fun _ _ h hb => ⟨h.1.below hb h.1.lt, h.2.trans (hb.mono h.2.size)⟩) (⟨k3.drew, (Below.refl _ _).drew⟩) (fun x => ?_)
    refine obs_step (Eq.trans (by simp only [List.getElem?_toArray, List.getElem?_cons_zero]; exact rfl) rfl) rfl (fun w' hS hV K hK => ?_) ?_
    · obtain ⟨q0, q1⟩ := hS.1.two
      go_simp
      exact hK.out _ _ _ rfl rfl rfl (Below.refl _ _)
    simp only [List.setIfInBounds_toArray, List.set_cons_zero, List.set_cons_succ]
    refine obs_step (Eq.trans (by simp only [List.getElem?_toArray, List.getElem?_cons_succ, List.getElem?_cons_zero]; exact rfl) rfl) rfl (fun w' hS hV K hK => ?_) ?_
    · have e0 : x 0 = (.pointer (some ⟨w.heap.size, 0, none⟩)) := hV 0 (by decide)
      obtain ⟨q0, q1⟩ := hS.1.two
      go_simp
      exact hK.out _ _ _ rfl rfl rfl (Below.refl _ _)
    simp only [List.setIfInBounds_toArray, List.set_cons_zero, List.set_cons_succ]
    refine obs_step (Eq.trans (by simp only [List.getElem?_toArray, List.getElem?_cons_succ, List.getElem?_cons_zero]; exact rfl) rfl) rfl (fun w' hS hV K hK => ?_) ?_
    · obtain ⟨q0, q1⟩ := hS.1.two
      go_simp
      exact hK.out _ _ _ rfl rfl rfl (Below.refl _ _)
    simp only [List.setIfInBounds_toArray, List.set_cons_zero, List.set_cons_succ]
    refine obs_step (Eq.trans (by simp only [List.getElem?_toArray, List.getElem?_cons_succ, List.getElem?_cons_zero]; exact rfl) rfl) rfl (fun w' hS hV K hK => ?_) ?_
    · have e2 : x 2 = (.slice A3 (na + nb) c3) := hV 2 (by decide)
      obtain ⟨q0, q1⟩ := hS.1.two
      go_simp
      refine (l02Turn_any P _ _ _ (LA ++ LB) n _ (by have := HZ.out; omega) (by omega) (by omega) (hR3.below hS.2) HTAB.out).mono ?_
      rintro e v1 ⟨A4, c4, rfl, hM⟩
      exact hK.out _ _ _ rfl rfl ⟨_, _, rfl, hM.after hS.2⟩ hM.b
    simp only [List.setIfInBounds_toArray, List.set_cons_zero, List.set_cons_succ]
    refine obs_step (Eq.trans (by simp only [List.getElem?_toArray, List.getElem?_cons_succ, List.getElem?_cons_zero]; exact rfl) rfl) rfl (fun w' hS hV K hK => ?_) ?_
    · have e0 : x 0 = (.pointer (some ⟨w.heap.size, 0, none⟩)) := hV 0 (by decide)
      have e1 : x 1 = (.int .i64 (P)) := hV 1 (by decide)
      have e2 : x 2 = (.slice A3 (na + nb) c3) := hV 2 (by decide)
      obtain ⟨A3, c3, e3, h3⟩ := hV 3 (by decide)
      obtain ⟨q0, q1⟩ := hS.1.two
      go_simp
      refine (l02Kernel_any P _ _ _ (transL (LA ++ LB)) (na + nb) _ HPP.out h0 (by omega) (by omega) h3.rd HTT.out).mono ?_
      rw [← HKE.out]
      rintro e v1 ⟨A4, c4, rfl, hM⟩
      exact hK.out _ _ _ rfl rfl ⟨_, _, rfl, hM.after hS.2⟩ hM.b
    simp only [List.setIfInBounds_toArray, List.set_cons_zero, List.set_cons_succ]
    refine obs_step (Eq.trans (by simp only [List.getElem?_toArray, List.getElem?_cons_succ, List.getElem?_cons_zero]; exact rfl) rfl) rfl (fun w' hS hV K hK => ?_) ?_
    · obtain ⟨q0, q1⟩ := hS.1.two
      go_simp
      exact hK.out _ _ _ rfl rfl ⟨_, rfl, hS.2.size, Blk.new _ _ _⟩ ((Below.refl _ _).alloc (Nat.le_refl _) _)
    simp only [List.setIfInBounds_toArray, List.set_cons_zero, List.set_cons_succ]
    refine obs_step (Eq.trans (by simp only [List.getElem?_toArray, List.getElem?_cons_succ, List.getElem?_cons_zero]; exact rfl) rfl) rfl (fun w' hS hV K hK => ?_) ?_
    · have e0 : x 0 = (.pointer (some ⟨w.heap.size, 0, none⟩)) := hV 0 (by decide)
      have e1 : x 1 = (.int .i64 (P)) := hV 1 (by decide)
      have e2 : x 2 = (.slice A3 (na + nb) c3) := hV 2 (by decide)
      obtain ⟨A3, c3, e3, h3⟩ := hV 3 (by decide)
      obtain ⟨A4, c4, e4, h4⟩ := hV 4 (by decide)
      obtain ⟨q0, q1⟩ := hS.1.two
      go_simp
      exact hK.out _ _ _ rfl rfl ⟨_, _, rfl, h4⟩ (Below.refl _ _)
    simp only [List.setIfInBounds_toArray, List.set_cons_zero, List.set_cons_succ]
    refine obs_step (Eq.trans (by simp only [List.getElem?_toArray, List.getElem?_cons_succ, List.getElem?_cons_zero]; exact rfl) rfl) rfl (fun w' hS hV K hK => ?_) ?_
    · obtain ⟨A5, e5, z5, h5⟩ := hV 5 (by decide)
      obtain ⟨q0, q1⟩ := hS.1.two
      go_simp
      exact hK.out _ _ _ rfl rfl ⟨_, rfl, z5, h5⟩ (Below.refl _ _)
    simp only [List.setIfInBounds_toArray, List.set_cons_zero, List.set_cons_succ]
    refine fun w' hS hV => ?_
    have e0 : x 0 = (.pointer (some ⟨w.heap.size, 0, none⟩)) := hV 0 (by decide)
    have e1 : x 1 = (.int .i64 (P)) := hV 1 (by decide)
    have e2 : x 2 = (.slice A3 (na + nb) c3) := hV 2 (by decide)
    obtain ⟨A3, c3, e3, h3⟩ := hV 3 (by decide)
    obtain ⟨A4, c4, e4, h4⟩ := hV 4 (by decide)
    obtain ⟨A5, e5, z5, h5⟩ := hV 5 (by decide)
    obtain ⟨A6, c6, e6, h6⟩ := hV 6 (by decide)
    obtain ⟨A7, e7, z7, h7⟩ := hV 7 (by decide)
    simp only [e0, e1, e2, e3, e4, e5, e6, e7]
    clear e0 e1 e2 e3 e4 e5 e6 e7
    refine wpAny_done (by kernel_rfl) ?_ _
    obtain ⟨w4, rfl⟩ : ∃ W, W = w' := ⟨_, rfl⟩
    have k4 := hS.1
    have hB4 := hB3.trans (hS.2.mono hB3.size)
    have hK4 := h6.rd
    have hE4 := h7
    have hge : w.heap.size ≤ A7 := Nat.le_trans hB3.size z7
    have hO4 : MkII w w4 (some ⟨A7, 0, none⟩) 0 0 [] := ⟨[], ⟨hB4, Own.of_cells (cs := #[]) hge hE4 (by simp [maxLen])⟩, Nest.nil _ _⟩
    obtain ⟨g9, hg9⟩ : ∃ g, g = A7 := ⟨_, rfl⟩
    obtain ⟨A8, hA8⟩ : ∃ g, g = A6 := ⟨_, rfl⟩
    obtain ⟨c8, hc8⟩ : ∃ g, g = c6 := ⟨_, rfl⟩
    rw [← hA8] at hK4 ⊢
    rw [← hg9] at hE4 hO4 ⊢
    rw [← hc8]
    have hgr0 : Grows w4 w4 g9 (.slice (some ⟨g9, 0, none⟩) 0 0) := ⟨CK.refl _, Nat.le_refl _, fun gb h => .inl (by simpa [Value.ownBlock] using h.symm)⟩
    have h14 := h1.below hB4
    clear hS h3 h4 h5 h6 h7 z7 z5 hA8 hg9 hc8 hR3 h13 k3 hB3 hge q0 q1
    go_wp2
    go_loopw [9, 10] (fun out i wr => ∃ (k : Nat) (A' : Option Addr) (c' : Nat), k ≤ KN.length ∧ i = .int .i64 k ∧ out = .slice A' k c' ∧ MkII w wr A' k c' ((outL P LA KN).take k) ∧ Grows w4 wr g9 (.slice A' k c') ∧ Blk wr w.heap.size 28 #[.int .i64 P, .slice A n c]) (fun _ i _ => KN.length - (intOf i).toNat)
    case atStart => exact ⟨0, _, _, by omega, rfl, rfl, by simpa using hO4, hgr0, k4⟩
    case round =>
      obtain ⟨k, A', c', hk, rfl, rfl, hM, hgr, k5⟩ := hrel
      clear hO4 hgr0 k4
      have hkn := HKN.out
      obtain ⟨q0, q1⟩ := k5.two
      by_cases hlt : k < KN.length
      · obtain ⟨g8, o8, rfl, hxk, Ak, ck, hcx, hrk, hcc⟩ := (hK4.ck hgr.1).at_ hlt
        have hlk : KN[k].length = na + nb := (HKT.out _ (List.getElem_mem hxk)).1
        have htk := takes_len HKT.out hxk (show na ≤ na + nb by omega)
        have hrt : Rd wr Ak na (ints (KN[k].take na)) := by rw [← ints_take]; exact hrk.cut (by omega)
        have hlen := htk.1
        rw [hlk] at hcx hcc
        have HAP : Hid ((outL P LA KN).take (k + 1) = (outL P LA KN).take k ++ [applyL P (transL LA) (KN[k].take na)]) := Lib.hid (by rw [outL_take hxk, HLA.out])
        obtain ⟨z, hz⟩ : ∃ z, z = KN[k].take na := ⟨_, rfl⟩
        rw [← hz] at htk hrt HAP hlen
        have HZN := Lib.hid htk.2
        have HHR := Lib.hid hrt
        have h15 := h1.below hM.b
        have HM := Lib.hid hM
        have HGR := Lib.hid hgr
        have i1 : (0 : Int) ≤ (k : Int) := by omega
        have i2 : (k : Int) < (KN.length : Int) := by omega
        have hck : na ≤ ck := by omega
        clear hM hgr hrk hlk htk hrt hz hcc hlen
        go_wp2
        refine wp_obs 14 [[], [], [1], [], [3], [], [], [5, 6], [5, 6, 7], [], [9], [5, 6, 7, 8, 9, 10], [1, 2, 3, 4, 5, 6, 7, 8, 9, 10, 11], [1, 2, 3, 4, 5, 6, 7, 8, 9, 10, 11, 12], [0, 1, 2, 3, 4, 5, 6, 7, 8, 9, 10, 11, 12, 13], [0, 1, 2, 3, 4, 5, 6, 7, 8, 9, 10, 11, 12, 13, 14]] [VIs (.slice A' k c'), VIs (.pointer (some ⟨w.heap.size, 0, none⟩)), VIs (.int .i64 (P)), VIs (.slice B1 na d1), VMat wr n (transL LA), VIs (.slice (some ⟨g8, o8, none⟩) KN.length c8), VIs (.int .i64 (k)), VIs (.pointer (some ⟨g8, o8 + k, none⟩)), VIs (.slice Ak (na + nb) ck), VIs (.slice B1 na d1), VIs (.int .i64 (na)), VIs (.slice Ak na ck), VSl wr n (applyL P (transL LA) z), VNew wr n (applyL P (transL LA) z)] (fun w' => w'.cell? ⟨g8, o8 + k, none⟩ = some (.slice Ak (na + nb) ck) ∧ Blk w' w.heap.size 28 #[.int .i64 P, .slice A n c] ∧ Below wr.heap.size wr w') (by kernel_rfl) (by kernel_rfl) (fun _ _ h hb => ⟨(hb.cell (World.block_lt_of_cell? _ _ h.1)).trans h.1, h.2.1.below hb h.2.1.lt, h.2.2.trans (hb.mono h.2.2.size)⟩) (⟨hcx, k5.drew, (Below.refl _ _).drew⟩) (fun x => ?_)
        refine obs_step (Eq.trans (by simp only [List.getElem?_toArray, List.getElem?_cons_zero]; exact rfl) rfl) rfl (fun w' hS hV K hK => ?_) ?_
        · have q2 := hS.1; obtain ⟨q0, q1⟩ := hS.2.1.two
          go_simp
          exact hK.out _ _ _ rfl rfl rfl (Below.refl _ _)
        simp only [List.setIfInBounds_toArray, List.set_cons_zero, List.set_cons_succ]
        refine obs_step (Eq.trans (by simp only [List.getElem?_toArray, List.getElem?_cons_succ, List.getElem?_cons_zero]; exact rfl) rfl) rfl (fun w' hS hV K hK => ?_) ?_
        · have q2 := hS.1; obtain ⟨q0, q1⟩ := hS.2.1.two
          go_simp
          exact hK.out _ _ _ rfl rfl rfl (Below.refl _ _)
        simp only [List.setIfInBounds_toArray, List.set_cons_zero, List.set_cons_succ]
        refine obs_step (Eq.trans (by simp only [List.getElem?_toArray, List.getElem?_cons_succ, List.getElem?_cons_zero]; exact rfl) rfl) rfl (fun w' hS hV K hK => ?_) ?_
        · have e1 : x 1 = (.pointer (some ⟨w.heap.size, 0, none⟩)) := hV 1 (by decide)
          have q2 := hS.1; obtain ⟨q0, q1⟩ := hS.2.1.two
          go_simp
          exact hK.out _ _ _ rfl rfl rfl (Below.refl _ _)
        simp only [List.setIfInBounds_toArray, List.set_cons_zero, List.set_cons_succ]
        refine obs_step (Eq.trans (by simp only [List.getElem?_toArray, List.getElem?_cons_succ, List.getElem?_cons_zero]; exact rfl) rfl) rfl (fun w' hS hV K hK => ?_) ?_
        · have q2 := hS.1; obtain ⟨q0, q1⟩ := hS.2.1.two
          go_simp
          exact hK.out _ _ _ rfl rfl rfl (Below.refl _ _)
        simp only [List.setIfInBounds_toArray, List.set_cons_zero, List.set_cons_succ]
        refine obs_step (Eq.trans (by simp only [List.getElem?_toArray, List.getElem?_cons_succ, List.getElem?_cons_zero]; exact rfl) rfl) rfl (fun w' hS hV K hK => ?_) ?_
        · have e3 : x 3 = (.slice B1 na d1) := hV 3 (by decide)
          have q2 := hS.1; obtain ⟨q0, q1⟩ := hS.2.1.two
          go_simp
          refine (l02Turn_any P _ _ _ LA n _ (by have := HZ.out; omega) (by omega) (by omega) (h15.below hS.2.2) HT1.out).mono ?_
          rintro e v1 ⟨A4, c4, rfl, hM⟩
          exact hK.out _ _ _ rfl rfl ⟨_, _, rfl, hM.after hS.2.2⟩ hM.b
        simp only [List.setIfInBounds_toArray, List.set_cons_zero, List.set_cons_succ]
        refine obs_step (Eq.trans (by simp only [List.getElem?_toArray, List.getElem?_cons_succ, List.getElem?_cons_zero]; exact rfl) rfl) rfl (fun w' hS hV K hK => ?_) ?_
        · have q2 := hS.1; obtain ⟨q0, q1⟩ := hS.2.1.two
          go_simp
          exact hK.out _ _ _ rfl rfl rfl (Below.refl _ _)
        simp only [List.setIfInBounds_toArray, List.set_cons_zero, List.set_cons_succ]
        refine obs_step (Eq.trans (by simp only [List.getElem?_toArray, List.getElem?_cons_succ, List.getElem?_cons_zero]; exact rfl) rfl) rfl (fun w' hS hV K hK => ?_) ?_
        · have q2 := hS.1; obtain ⟨q0, q1⟩ := hS.2.1.two
          go_simp
          exact hK.out _ _ _ rfl rfl rfl (Below.refl _ _)
        simp only [List.setIfInBounds_toArray, List.set_cons_zero, List.set_cons_succ]
        refine obs_step (Eq.trans (by simp only [List.getElem?_toArray, List.getElem?_cons_succ, List.getElem?_cons_zero]; exact rfl) rfl) rfl (fun w' hS hV K hK => ?_) ?_
        · have e5 : x 5 = (.slice (some ⟨g8, o8, none⟩) KN.length c8) := hV 5 (by decide)
          have e6 : x 6 = (.int .i64 (k)) := hV 6 (by decide)
          have q2 := hS.1; obtain ⟨q0, q1⟩ := hS.2.1.two
          go_simp
          exact hK.out _ _ _ rfl rfl rfl (Below.refl _ _)
        simp only [List.setIfInBounds_toArray, List.set_cons_zero, List.set_cons_succ]
        refine obs_step (Eq.trans (by simp only [List.getElem?_toArray, List.getElem?_cons_succ, List.getElem?_cons_zero]; exact rfl) rfl) rfl (fun w' hS hV K hK => ?_) ?_
        · have e5 : x 5 = (.slice (some ⟨g8, o8, none⟩) KN.length c8) := hV 5 (by decide)
          have e6 : x 6 = (.int .i64 (k)) := hV 6 (by decide)
          have e7 : x 7 = (.pointer (some ⟨g8, o8 + k, none⟩)) := hV 7 (by decide)
          have q2 := hS.1; obtain ⟨q0, q1⟩ := hS.2.1.two
          go_simp
          exact hK.out _ _ _ rfl rfl rfl (Below.refl _ _)
        simp only [List.setIfInBounds_toArray, List.set_cons_zero, List.set_cons_succ]
        refine obs_step (Eq.trans (by simp only [List.getElem?_toArray, List.getElem?_cons_succ, List.getElem?_cons_zero]; exact rfl) rfl) rfl (fun w' hS hV K hK => ?_) ?_
        · have q2 := hS.1; obtain ⟨q0, q1⟩ := hS.2.1.two
          go_simp
          exact hK.out _ _ _ rfl rfl rfl (Below.refl _ _)
        simp only [List.setIfInBounds_toArray, List.set_cons_zero, List.set_cons_succ]
        refine obs_step (Eq.trans (by simp only [List.getElem?_toArray, List.getElem?_cons_succ, List.getElem?_cons_zero]; exact rfl) rfl) rfl (fun w' hS hV K hK => ?_) ?_
        · have e9 : x 9 = (.slice B1 na d1) := hV 9 (by decide)
          have q2 := hS.1; obtain ⟨q0, q1⟩ := hS.2.1.two
          go_simp
          exact hK.out _ _ _ rfl rfl rfl (Below.refl _ _)
        simp only [List.setIfInBounds_toArray, List.set_cons_zero, List.set_cons_succ]
        refine obs_step (Eq.trans (by simp only [List.getElem?_toArray, List.getElem?_cons_succ, List.getElem?_cons_zero]; exact rfl) rfl) rfl (fun w' hS hV K hK => ?_) ?_
        · have e5 : x 5 = (.slice (some ⟨g8, o8, none⟩) KN.length c8) := hV 5 (by decide)
          have e6 : x 6 = (.int .i64 (k)) := hV 6 (by decide)
          have e7 : x 7 = (.pointer (some ⟨g8, o8 + k, none⟩)) := hV 7 (by decide)
          have e8 : x 8 = (.slice Ak (na + nb) ck) := hV 8 (by decide)
          have e9 : x 9 = (.slice B1 na d1) := hV 9 (by decide)
          have e10 : x 10 = (.int .i64 (na)) := hV 10 (by decide)
          have q2 := hS.1; obtain ⟨q0, q1⟩ := hS.2.1.two
          go_simp
          exact hK.out _ _ _ rfl rfl rfl (Below.refl _ _)
        simp only [List.setIfInBounds_toArray, List.set_cons_zero, List.set_cons_succ]
        refine obs_step (Eq.trans (by simp only [List.getElem?_toArray, List.getElem?_cons_succ, List.getElem?_cons_zero]; exact rfl) rfl) rfl (fun w' hS hV K hK => ?_) ?_
        · have e1 : x 1 = (.pointer (some ⟨w.heap.size, 0, none⟩)) := hV 1 (by decide)
          have e2 : x 2 = (.int .i64 (P)) := hV 2 (by decide)
          have e3 : x 3 = (.slice B1 na d1) := hV 3 (by decide)
          obtain ⟨A4, c4, e4, h4⟩ := hV 4 (by decide)
          have e5 : x 5 = (.slice (some ⟨g8, o8, none⟩) KN.length c8) := hV 5 (by decide)
          have e6 : x 6 = (.int .i64 (k)) := hV 6 (by decide)
          have e7 : x 7 = (.pointer (some ⟨g8, o8 + k, none⟩)) := hV 7 (by decide)
          have e8 : x 8 = (.slice Ak (na + nb) ck) := hV 8 (by decide)
          have e9 : x 9 = (.slice B1 na d1) := hV 9 (by decide)
          have e10 : x 10 = (.int .i64 (na)) := hV 10 (by decide)
          have e11 : x 11 = (.slice Ak na ck) := hV 11 (by decide)
          have q2 := hS.1; obtain ⟨q0, q1⟩ := hS.2.1.two
          go_simp
          refine (l02Apply_any P _ _ _ (transL LA) _ na _ z _ hp hp2 (by omega) (by omega) h4.rd (by have := HTA.out; rwa [HLA.out] at this) (HHR.out.below hS.2.2) HZN.out).mono ?_
          rintro e v1 ⟨A4, c4, rfl, hM⟩
          exact hK.out _ _ _ rfl rfl ⟨_, _, rfl, hM.after hS.2.2⟩ hM.b
        simp only [List.setIfInBounds_toArray, List.set_cons_zero, List.set_cons_succ]
        refine obs_step (Eq.trans (by simp only [List.getElem?_toArray, List.getElem?_cons_succ, List.getElem?_cons_zero]; exact rfl) rfl) rfl (fun w' hS hV K hK => ?_) ?_
        · have e1 : x 1 = (.pointer (some ⟨w.heap.size, 0, none⟩)) := hV 1 (by decide)
          have e2 : x 2 = (.int .i64 (P)) := hV 2 (by decide)
          have e3 : x 3 = (.slice B1 na d1) := hV 3 (by decide)
          obtain ⟨A4, c4, e4, h4⟩ := hV 4 (by decide)
          have e5 : x 5 = (.slice (some ⟨g8, o8, none⟩) KN.length c8) := hV 5 (by decide)
          have e6 : x 6 = (.int .i64 (k)) := hV 6 (by decide)
          have e7 : x 7 = (.pointer (some ⟨g8, o8 + k, none⟩)) := hV 7 (by decide)
          have e8 : x 8 = (.slice Ak (na + nb) ck) := hV 8 (by decide)
          have e9 : x 9 = (.slice B1 na d1) := hV 9 (by decide)
          have e10 : x 10 = (.int .i64 (na)) := hV 10 (by decide)
          have e11 : x 11 = (.slice Ak na ck) := hV 11 (by decide)
          obtain ⟨A12, c12, e12, h12⟩ := hV 12 (by decide)
          have q2 := hS.1; obtain ⟨q0, q1⟩ := hS.2.1.two
          go_simp
          exact hK.out _ _ _ rfl rfl ⟨_, _, _, rfl, Blk.new _ _ _, h12.below ((Below.refl _ _).alloc (Nat.le_refl _) _)⟩ ((Below.refl _ _).alloc (Nat.le_refl _) _)
        simp only [List.setIfInBounds_toArray, List.set_cons_zero, List.set_cons_succ]
        refine fun w' hS hV => ?_
        have e0 : x 0 = (.slice A' k c') := hV 0 (by decide)
        have e1 : x 1 = (.pointer (some ⟨w.heap.size, 0, none⟩)) := hV 1 (by decide)
        have e2 : x 2 = (.int .i64 (P)) := hV 2 (by decide)
        have e3 : x 3 = (.slice B1 na d1) := hV 3 (by decide)
        obtain ⟨A4, c4, e4, h4⟩ := hV 4 (by decide)
        have e5 : x 5 = (.slice (some ⟨g8, o8, none⟩) KN.length c8) := hV 5 (by decide)
        have e6 : x 6 = (.int .i64 (k)) := hV 6 (by decide)
        have e7 : x 7 = (.pointer (some ⟨g8, o8 + k, none⟩)) := hV 7 (by decide)
        have e8 : x 8 = (.slice Ak (na + nb) ck) := hV 8 (by decide)
        have e9 : x 9 = (.slice B1 na d1) := hV 9 (by decide)
        have e10 : x 10 = (.int .i64 (na)) := hV 10 (by decide)
        have e11 : x 11 = (.slice Ak na ck) := hV 11 (by decide)
        obtain ⟨A12, c12, e12, h12⟩ := hV 12 (by decide)
        obtain ⟨g13, A13, c13, e13, b13, h13⟩ := hV 13 (by decide)
        simp only [e0, e1, e2, e3, e4, e5, e6, e7, e8, e9, e10, e11, e12, e13]
        clear e0 e1 e2 e3 e4 e5 e6 e7 e8 e9 e10 e11 e12 e13
        obtain ⟨_, k6, s2⟩ := hS
        refine any_plain (j := 14) (by kernel_rfl) (Eq.trans (by simp only [List.getElem?_toArray, List.getElem?_cons_succ, List.getElem?_cons_zero]; exact rfl) rfl) rfl (fun K hK => ?_)
        refine wp_appRow w wr w' _ _ rfl A' k c' _ A13 n c13 _ HM.out h13 (by have := HKN.out; omega) g13 b13 (by rfl) (by rfl) ?_
        intro A20 c20 w20 hM20 hg20 hat20
        refine hK.out _ _ ?_
        simp only [Act.put, List.setIfInBounds_toArray, List.set_cons_zero, List.set_cons_succ]
        refine any_one (j := 15) (by kernel_rfl) (Eq.trans (by simp only [List.getElem?_toArray, List.getElem?_cons_succ, List.getElem?_cons_zero]; exact rfl) rfl) (fun K hK => ?_)
        go_simp
        refine hK.out _ _ (wpAny_done (by kernel_rfl) ?_ _)
        have hk7 := k6.grown hg20 ((HM.out.below s2).ne_blk k6 (by decide))
        have hgr7 := HGR.out.step (n' := k + 1) (c' := c20) hE4 s2 hg20 hat20
        clear k6 hg20 hat20 s2
        go_wp2
        go_roundw
        case rel => exact ⟨k + 1, A20, c20, by omega, by go_num, rfl, by rw [HAP.out]; exact hM20, hgr7, hk7⟩
        case measure => simp [intOf]; omega
      · obtain rfl : k = KN.length := by omega
        rw [List.take_of_length_le (by unfold outL; rw [List.length_map]; exact Nat.le_refl _)] at hM
        have hcall := l02Basis_any P A' KN.length c' (outL P LA KN) n wr HPP.out (by have := HKN.out; omega) (by omega) hM.rd HTO.out
        obtain ⟨R, hR⟩ : ∃ R, R = basisL P (outL P LA KN) := ⟨_, rfl⟩
        have HRR : Hid (commonL P LA LB = R) := Lib.hid (by rw [HCL.out, hR])
        rw [← hR] at hcall
        clear hR
        go_wp2_with fail
        refine hcall.mono ?_
        rintro e w6 ⟨A6, c6, rfl, hM6⟩
        go_wp2
        go_ret
        rw [HRR.out]
        exact ⟨_, _, rfl, hM6.after hM.b⟩
/-- CommonBlade. -/
def comR (P : Int) (sq : List Int) (xs : List Int) (ys : List Int) : List Int × Int := if codeL P sq [xs, ys] = 0 then (blaL P sq sq.length (comL P sq.length (subL P sq sq.length xs) (subL P sq sq.length ys)), 0) else ([], codeL P sq [xs, ys])
theorem comR_ok {P : Int} {sq xs ys : List Int} (h : codeL P sq [xs, ys] = 0) : comR P sq xs ys = (blaL P sq sq.length (comL P sq.length (subL P sq sq.length xs) (subL P sq sq.length ys)), 0) := by unfold comR; rw [if_pos h]
theorem comR_bad {P : Int} {sq xs ys : List Int} (h : ¬ codeL P sq [xs, ys] = 0) : comR P sq xs ys = ([], codeL P sq [xs, ys]) := by unfold comR; rw [if_neg h]
theorem comR_len (P : Int) (sq xs ys : List Int) : (comR P sq xs ys).1.length ≤ 1048576 := by
  by_cases h : codeL P sq [xs, ys] = 0
  · obtain ⟨HP, hp, _, h1, h6, _, _⟩ := codeM_spec3 (codeL_zero h).1
    rw [comR_ok h]
    show (blaL _ _ _ _).length ≤ _
    rw [blaL_len]
    exact Nat.le_trans (pw_le h6) (by decide)
  · rw [comR_bad h]; simp
theorem comL_len {p : Int} (hP : isP p = true) (n : Nat) (a b : List (List Int)) : (comL p n a b).length ≤ n := kernL_len hP _ _
set_option maxHeartbeats 3200000 in
set_option maxRecDepth 8000 in
theorem specCommonBlade_any (P : Int) (A : Option Addr) (n c : Nat) (sq : List Int) (X : Option Addr) (m cx : Nat) (xs : List Int) (Y : Option Addr) (l cy : Nat) (ys : List Int) (w : World) (hn : n ≤ 1048576) (hm : m ≤ 1048576) (hl : l ≤ 1048576) (ha : Rd w A n (ints sq)) (hx : Rd w X m (ints xs)) (hcx : m ≤ cx) (hy : Rd w Y l (ints ys)) (hcy : l ≤ cy) :
    Calls Tryz.prog 39 #[.agg #[.int .i64 P, .slice A n c], .slice X m cx, .slice Y l cy] w fun e w' => ∃ (A' : Option Addr) (k c' : Nat), e = .returned (.tuple #[.slice A' k c', .int .i64 (comR P sq xs ys).2]) ∧ MkI w w' A' k c' (comR P sq xs ys).1 := by
  have hB0 : Below w.heap.size w (w.alloc (.cells #[.int .i64 P, .slice A n c] 28)) := (Below.refl _ _).alloc (Nat.le_refl _) _
  have k0 : Blk (w.alloc (.cells #[.int .i64 P, .slice A n c] 28)) w.heap.size 28 #[.int .i64 P, .slice A n c] := Blk.new _ _ _
  have hB1 : Below w.heap.size w ((w.alloc (.cells #[.int .i64 P, .slice A n c] 28)).alloc (.cells #[.slice X m cx, .slice Y l cy] 22)) := hB0.alloc (by simp) _
  have k1 : Blk ((w.alloc (.cells #[.int .i64 P, .slice A n c] 28)).alloc (.cells #[.slice X m cx, .slice Y l cy] 22)) w.heap.size 28 #[.int .i64 P, .slice A n c] := k0.alloc _
  have hreg := l06Code_any P A (some ⟨w.heap.size + 1, 0, none⟩) n c 2 2 sq [xs, ys] ((w.alloc (.cells #[.int .i64 P, .slice A n c] 28)).alloc (.cells #[.slice X m cx, .slice Y l cy] 22)) hn (by omega) (ha.below hB1) (rdII_two (Blk.newAt3 (by simp)) (hx.below hB1) (hy.below hB1) hcx hcy) (all_two (by rw [hx.lenI]; exact hm) (by rw [hy.lenI]; exact hl))
  by_cases hr0 : codeL P sq [xs, ys] = 0
  · skip
    have hcM := (codeL_zero hr0).1
    rw [hr0] at hreg
    have HR0 := Lib.hid hr0
    clear hr0
    obtain ⟨HP, hp, hp2, hd1, hd2, hs0, hms⟩ := codeM_spec3 hcM
    have hsl := ha.lenI
    obtain ⟨hx1, hxs0⟩ := hms xs (by simp)
    have hmx : m = pw n := by rw [← hx.lenI, hx1, hsl]
    subst hmx
    obtain ⟨hy1, hys0⟩ := hms ys (by simp)
    have hly : l = pw n := by rw [← hy.lenI, hy1, hsl]
    subst hly
    have HYS := Lib.hid hys0
    clear hy1 hys0
    have HSL := Lib.hid hsl
    have HS0 := Lib.hid hs0
    have HXS := Lib.hid hxs0
    have hn6 : n ≤ 6 := by omega
    have hn0 : 0 < n := by omega
    clear hsl hms hx1 hs0 hxs0 hd1 hd2 hcM
    go_enter Tryz.func39, Tryz.ntmps39
    go_wp2_with fail
    refine hreg.mono ?_
    rintro e w2 ⟨rfl, hb2⟩
    have hB2 := hB1.trans (hb2.mono hB1.size)
    have k2 := k1.below hb2 k1.lt
    obtain ⟨q0, q1⟩ := k2.two
    clear k0 hB0 k1 hB1 hb2
    have HOK : Hid (comR P sq xs ys = (blaL P sq n (comL P n (subL P sq n xs) (subL P sq n ys)), 0)) := Lib.hid (by rw [comR_ok HR0.out, HSL.out])
    have hkl : w.heap.size < w2.heap.size := k2.lt
    have hls := subL_len HP sq n xs
    have hly := subL_len HP sq n ys
    have htx := subL_tab hp sq n xs
    have hty := subL_tab hp sq n ys
    have hcl : (commonL P (subL P sq n xs) (subL P sq n ys)).length ≤ 65536 := by have := commonL_len (b := subL P sq n ys) HP htx; omega
    have HSUB := Lib.hid fun (w' : World) (h : Below w2.heap.size w2 w') => l06Subspace_any P A n c sq X cx xs w' HP hn6 hn0 ((ha.below hB2).below h) HS0.out ((hx.below hB2).below h) HXS.out
    have HSUY := Lib.hid fun (w' : World) (h : Below w2.heap.size w2 w') => l06Subspace_any P A n c sq Y cy ys w' HP hn6 hn0 ((ha.below hB2).below h) HS0.out ((hy.below hB2).below h) HYS.out
    have HCOM := Lib.hid fun (w' : World) (B1 : Option Addr) (d1 : Nat) (B2 : Option Addr) (d2 : Nat) (_h : Below w2.heap.size w2 w') (h1 : RdII w' B1 (subL P sq n xs).length (subL P sq n xs)) (h2 : RdII w' B2 (subL P sq n ys).length (subL P sq n ys)) => l06Common_any P A n c sq B1 _ d1 (subL P sq n xs) B2 _ d2 (subL P sq n ys) w' HP hn6 hn0 (by omega) (by omega) h1 htx h2 hty
    have HBLA := Lib.hid fun (w' : World) (B : Option Addr) (d : Nat) (h : Below w2.heap.size w2 w') (hb : RdII w' B (commonL P (subL P sq n xs) (subL P sq n ys)).length (commonL P (subL P sq n xs) (subL P sq n ys))) => l06Blade_any P A n c sq B _ d _ w' HP hn6 hn0 hcl ((ha.below hB2).below h) HS0.out hb (commonL_tab (by omega) htx)
    rw [blaL_common HP htx hty] at HBLA
    obtain ⟨LJ, hLJ⟩ : ∃ R, R = blaL P sq n (comL P n (subL P sq n xs) (subL P sq n ys)) := ⟨_, rfl⟩
    rw [← hLJ] at HOK HBLA
    obtain ⟨LC, hLC⟩ : ∃ R, R = commonL P (subL P sq n xs) (subL P sq n ys) := ⟨_, rfl⟩
    rw [← hLC] at HBLA HCOM
    obtain ⟨LA, hLA⟩ : ∃ R, R = subL P sq n xs := ⟨_, rfl⟩
    obtain ⟨LB, hLB⟩ : ∃ R, R = subL P sq n ys := ⟨_, rfl⟩
    rw [← hLA] at HSUB
    rw [← hLB] at HSUY
    rw [← hLA, ← hLB] at HCOM
    clear hLJ hLC hLA hLB htx hty hls hly hcl hkl
    go_wp2
    refine wp_obs 12 [[], [], [], [], [2, 3], [], [], [5, 6], [1, 2, 3, 4, 5, 6, 7], [0, 1, 2, 3, 4, 5, 6, 7, 8], [0, 1, 2, 3, 4, 5, 6, 7, 8, 9], []] [VIs (.agg #[.int .i64 P, .slice A n c]), VIs (.agg #[.int .i64 P, .slice A n c]), VIs (.agg #[.int .i64 P, .slice A n c]), VIs (.slice X (pw n) cx), VMat w2 LA.length LA, VIs (.agg #[.int .i64 P, .slice A n c]), VIs (.slice Y (pw n) cy), VMat w2 LB.length LB, VMat w2 LC.length LC, VSl w2 (pw n) LJ, VSl w2 (pw n) LJ, VIs (.int .i64 0)] (fun w' => Blk w' w.heap.size 28 #[.int .i64 P, .slice A n c] ∧ Below w2.heap.size w2 w') (by kernel_rfl) (by kernel_rfl) (fun _ _ h hb => ⟨h.1.below hb h.1.lt, h.2.trans (hb.mono h.2.size)⟩) (⟨k2.drew, (Below.refl _ _).drew⟩) (fun x => ?_)
    refine obs_step (Eq.trans (by simp only [List.getElem?_toArray, List.getElem?_cons_zero]; exact rfl) rfl) rfl (fun w' hS hV K hK => ?_) ?_
    · obtain ⟨q0, q1⟩ := hS.1.two
      go_simp
      exact hK.out _ _ _ rfl rfl rfl (Below.refl _ _)
    simp only [List.setIfInBounds_toArray, List.set_cons_zero, List.set_cons_succ]
    refine obs_step (Eq.trans (by simp only [List.getElem?_toArray, List.getElem?_cons_succ, List.getElem?_cons_zero]; exact rfl) rfl) rfl (fun w' hS hV K hK => ?_) ?_
    · obtain ⟨q0, q1⟩ := hS.1.two
      go_simp
      exact hK.out _ _ _ rfl rfl rfl (Below.refl _ _)
    simp only [List.setIfInBounds_toArray, List.set_cons_zero, List.set_cons_succ]
    refine obs_step (Eq.trans (by simp only [List.getElem?_toArray, List.getElem?_cons_succ, List.getElem?_cons_zero]; exact rfl) rfl) rfl (fun w' hS hV K hK => ?_) ?_
    · obtain ⟨q0, q1⟩ := hS.1.two
      go_simp
      exact hK.out _ _ _ rfl rfl rfl (Below.refl _ _)
    simp only [List.setIfInBounds_toArray, List.set_cons_zero, List.set_cons_succ]
    refine obs_step (Eq.trans (by simp only [List.getElem?_toArray, List.getElem?_cons_succ, List.getElem?_cons_zero]; exact rfl) rfl) rfl (fun w' hS hV K hK => ?_) ?_
    · obtain ⟨q0, q1⟩ := hS.1.two
      go_simp
      exact hK.out _ _ _ rfl rfl rfl (Below.refl _ _)
    simp only [List.setIfInBounds_toArray, List.set_cons_zero, List.set_cons_succ]
    refine obs_step (Eq.trans (by simp only [List.getElem?_toArray, List.getElem?_cons_succ, List.getElem?_cons_zero]; exact rfl) rfl) rfl (fun w' hS hV K hK => ?_) ?_
    · have e2 : x 2 = (.agg #[.int .i64 P, .slice A n c]) := hV 2 (by decide)
      have e3 : x 3 = (.slice X (pw n) cx) := hV 3 (by decide)
      obtain ⟨q0, q1⟩ := hS.1.two
      go_simp
      refine (HSUB.out _ hS.2).mono ?_
      rintro e v1 ⟨A2, c2, rfl, hM⟩
      exact hK.out _ _ _ rfl rfl ⟨_, _, rfl, hM.after hS.2⟩ hM.b
    simp only [List.setIfInBounds_toArray, List.set_cons_zero, List.set_cons_succ]
    refine obs_step (Eq.trans (by simp only [List.getElem?_toArray, List.getElem?_cons_succ, List.getElem?_cons_zero]; exact rfl) rfl) rfl (fun w' hS hV K hK => ?_) ?_
    · obtain ⟨q0, q1⟩ := hS.1.two
      go_simp
      exact hK.out _ _ _ rfl rfl rfl (Below.refl _ _)
    simp only [List.setIfInBounds_toArray, List.set_cons_zero, List.set_cons_succ]
    refine obs_step (Eq.trans (by simp only [List.getElem?_toArray, List.getElem?_cons_succ, List.getElem?_cons_zero]; exact rfl) rfl) rfl (fun w' hS hV K hK => ?_) ?_
    · obtain ⟨q0, q1⟩ := hS.1.two
      go_simp
      exact hK.out _ _ _ rfl rfl rfl (Below.refl _ _)
    simp only [List.setIfInBounds_toArray, List.set_cons_zero, List.set_cons_succ]
    refine obs_step (Eq.trans (by simp only [List.getElem?_toArray, List.getElem?_cons_succ, List.getElem?_cons_zero]; exact rfl) rfl) rfl (fun w' hS hV K hK => ?_) ?_
    · have e5 : x 5 = (.agg #[.int .i64 P, .slice A n c]) := hV 5 (by decide)
      have e6 : x 6 = (.slice Y (pw n) cy) := hV 6 (by decide)
      obtain ⟨q0, q1⟩ := hS.1.two
      go_simp
      refine (HSUY.out _ hS.2).mono ?_
      rintro e v1 ⟨A2, c2, rfl, hM⟩
      exact hK.out _ _ _ rfl rfl ⟨_, _, rfl, hM.after hS.2⟩ hM.b
    simp only [List.setIfInBounds_toArray, List.set_cons_zero, List.set_cons_succ]
    refine obs_step (Eq.trans (by simp only [List.getElem?_toArray, List.getElem?_cons_succ, List.getElem?_cons_zero]; exact rfl) rfl) rfl (fun w' hS hV K hK => ?_) ?_
    · have e1 : x 1 = (.agg #[.int .i64 P, .slice A n c]) := hV 1 (by decide)
      have e2 : x 2 = (.agg #[.int .i64 P, .slice A n c]) := hV 2 (by decide)
      have e3 : x 3 = (.slice X (pw n) cx) := hV 3 (by decide)
      obtain ⟨A4, c4, e4, h4⟩ := hV 4 (by decide)
      have e5 : x 5 = (.agg #[.int .i64 P, .slice A n c]) := hV 5 (by decide)
      have e6 : x 6 = (.slice Y (pw n) cy) := hV 6 (by decide)
      obtain ⟨A7, c7, e7, h7⟩ := hV 7 (by decide)
      obtain ⟨q0, q1⟩ := hS.1.two
      go_simp
      refine (HCOM.out _ _ _ _ _ hS.2 h4.rd h7.rd).mono ?_
      rintro e v1 ⟨A2, c2, rfl, hM⟩
      exact hK.out _ _ _ rfl rfl ⟨_, _, rfl, hM.after hS.2⟩ hM.b
    simp only [List.setIfInBounds_toArray, List.set_cons_zero, List.set_cons_succ]
    refine obs_step (Eq.trans (by simp only [List.getElem?_toArray, List.getElem?_cons_succ, List.getElem?_cons_zero]; exact rfl) rfl) rfl (fun w' hS hV K hK => ?_) ?_
    · have e0 : x 0 = (.agg #[.int .i64 P, .slice A n c]) := hV 0 (by decide)
      have e1 : x 1 = (.agg #[.int .i64 P, .slice A n c]) := hV 1 (by decide)
      have e2 : x 2 = (.agg #[.int .i64 P, .slice A n c]) := hV 2 (by decide)
      have e3 : x 3 = (.slice X (pw n) cx) := hV 3 (by decide)
      obtain ⟨A4, c4, e4, h4⟩ := hV 4 (by decide)
      have e5 : x 5 = (.agg #[.int .i64 P, .slice A n c]) := hV 5 (by decide)
      have e6 : x 6 = (.slice Y (pw n) cy) := hV 6 (by decide)
      obtain ⟨A7, c7, e7, h7⟩ := hV 7 (by decide)
      obtain ⟨A8, c8, e8, h8⟩ := hV 8 (by decide)
      obtain ⟨q0, q1⟩ := hS.1.two
      go_simp
      refine (HBLA.out _ _ _ hS.2 h8.rd).mono ?_
      rintro e v1 ⟨A2, c2, rfl, hM⟩
      exact hK.out _ _ _ rfl rfl ⟨_, _, rfl, hM.after hS.2⟩ hM.b
    simp only [List.setIfInBounds_toArray, List.set_cons_zero, List.set_cons_succ]
    refine obs_step (Eq.trans (by simp only [List.getElem?_toArray, List.getElem?_cons_succ, List.getElem?_cons_zero]; exact rfl) rfl) rfl (fun w' hS hV K hK => ?_) ?_
    · have e0 : x 0 = (.agg #[.int .i64 P, .slice A n c]) := hV 0 (by decide)
      have e1 : x 1 = (.agg #[.int .i64 P, .slice A n c]) := hV 1 (by decide)
      have e2 : x 2 = (.agg #[.int .i64 P, .slice A n c]) := hV 2 (by decide)
      have e3 : x 3 = (.slice X (pw n) cx) := hV 3 (by decide)
      obtain ⟨A4, c4, e4, h4⟩ := hV 4 (by decide)
      have e5 : x 5 = (.agg #[.int .i64 P, .slice A n c]) := hV 5 (by decide)
      have e6 : x 6 = (.slice Y (pw n) cy) := hV 6 (by decide)
      obtain ⟨A7, c7, e7, h7⟩ := hV 7 (by decide)
      obtain ⟨A8, c8, e8, h8⟩ := hV 8 (by decide)
      obtain ⟨A9, c9, e9, h9⟩ := hV 9 (by decide)
      obtain ⟨q0, q1⟩ := hS.1.two
      go_simp
      exact hK.out _ _ _ rfl rfl ⟨_, _, rfl, h9⟩ (Below.refl _ _)
    simp only [List.setIfInBounds_toArray, List.set_cons_zero, List.set_cons_succ]
    refine obs_step (Eq.trans (by simp only [List.getElem?_toArray, List.getElem?_cons_succ, List.getElem?_cons_zero]; exact rfl) rfl) rfl (fun w' hS hV K hK => ?_) ?_
    · obtain ⟨q0, q1⟩ := hS.1.two
      go_simp
      exact hK.out _ _ _ rfl rfl rfl (Below.refl _ _)
    simp only [List.setIfInBounds_toArray, List.set_cons_zero, List.set_cons_succ]
    refine fun w' hS hV => ?_
    have e0 : x 0 = (.agg #[.int .i64 P, .slice A n c]) := hV 0 (by decide)
    have e1 : x 1 = (.agg #[.int .i64 P, .slice A n c]) := hV 1 (by decide)
    have e2 : x 2 = (.agg #[.int .i64 P, .slice A n c]) := hV 2 (by decide)
    have e3 : x 3 = (.slice X (pw n) cx) := hV 3 (by decide)
    obtain ⟨A4, c4, e4, h4⟩ := hV 4 (by decide)
    have e5 : x 5 = (.agg #[.int .i64 P, .slice A n c]) := hV 5 (by decide)
    have e6 : x 6 = (.slice Y (pw n) cy) := hV 6 (by decide)
    obtain ⟨A7, c7, e7, h7⟩ := hV 7 (by decide)
    obtain ⟨A8, c8, e8, h8⟩ := hV 8 (by decide)
    obtain ⟨A9, c9, e9, h9⟩ := hV 9 (by decide)
    obtain ⟨A10, c10, e10, h10⟩ := hV 10 (by decide)
    have e11 : x 11 = (.int .i64 0) := hV 11 (by decide)
    simp only [e0, e1, e2, e3, e4, e5, e6, e7, e8, e9, e10, e11]
    clear e0 e1 e2 e3 e4 e5 e6 e7 e8 e9 e10 e11
    refine wpAny_done (by kernel_rfl) ?_ _
    go_wp2
    go_ret2
    exact aRow3 HOK.out (h10.after hB2)
  · obtain ⟨r, hr⟩ : ∃ r, r = codeL P sq [xs, ys] := ⟨_, rfl⟩
    have HR := Lib.hid hr
    have HR0 := Lib.hid hr0
    have b0 : (r != 0) = true := code_ne (by rw [hr]; exact hr0)
    rw [← hr] at hreg
    clear hr hr0
    go_enter Tryz.func39, Tryz.ntmps39
    go_wp2_with fail
    refine hreg.mono ?_
    rintro e w2 ⟨rfl, hb2⟩
    have hB2 := hB1.trans (hb2.mono hB1.size)
    have k2 := k1.below hb2 k1.lt
    obtain ⟨q0, q1⟩ := k2.two
    clear k0 hB0 k1 hB1 hb2
    go_wp2
    go_ret2
    exact noRow3 (by rw [comR_bad HR0.out, HR.out]) hB2
set_option maxHeartbeats 3200000 in
set_option maxRecDepth 8000 in
theorem CommonBlade_any (P : Int) (A : Option Addr) (n c : Nat) (sq : List Int) (X : Option Addr) (m cx : Nat) (xs : List Int) (Y : Option Addr) (l cy : Nat) (ys : List Int) (w : World) (hn : n ≤ 1048576) (hm : m ≤ 1048576) (hl : l ≤ 1048576) (ha : Rd w A n (ints sq)) (hx : Rd w X m (ints xs)) (hcx : m ≤ cx) (hy : Rd w Y l (ints ys)) (hcy : l ≤ cy) :
    Calls Tryz.prog 40 #[.agg #[.int .i64 P, .slice A n c], .slice X m cx, .slice Y l cy] w fun e w' => ∃ (A' : Option Addr) (k c' : Nat), e = .returned (.tuple #[.slice A' k c', .int .i64 (comR P sq xs ys).2]) ∧ MkI w w' A' k c' (comR P sq xs ys).1 := by
  have hB0 : Below w.heap.size w (w.alloc (.cells #[.int .i64 P, .slice A n c] 28)) := (Below.refl _ _).alloc (Nat.le_refl _) _
  have k0 : Blk (w.alloc (.cells #[.int .i64 P, .slice A n c] 28)) w.heap.size 28 #[.int .i64 P, .slice A n c] := Blk.new _ _ _
  have hB1 : Below w.heap.size w ((w.alloc (.cells #[.int .i64 P, .slice A n c] 28)).alloc (.cells #[.slice X m cx, .slice Y l cy] 22)) := hB0.alloc (by simp) _
  have k1 : Blk ((w.alloc (.cells #[.int .i64 P, .slice A n c] 28)).alloc (.cells #[.slice X m cx, .slice Y l cy] 22)) w.heap.size 28 #[.int .i64 P, .slice A n c] := k0.alloc _
  have hreg := checkBlades_any P A (some ⟨w.heap.size + 1, 0, none⟩) n c 2 2 sq [xs, ys] ((w.alloc (.cells #[.int .i64 P, .slice A n c] 28)).alloc (.cells #[.slice X m cx, .slice Y l cy] 22)) hn (by omega) (ha.below hB1) (rdII_two (Blk.newAt3 (by simp)) (hx.below hB1) (hy.below hB1) hcx hcy) (all_two (by rw [hx.lenI]; exact hm) (by rw [hy.lenI]; exact hl))
  by_cases hr0 : codeL P sq [xs, ys] = 0
  · skip
    have hcM := (codeL_zero hr0).1
    rw [hr0] at hreg
    have HR0 := Lib.hid hr0
    clear hr0
    obtain ⟨HP, hp, hp2, hd1, hd2, hs0, hms⟩ := codeM_spec3 hcM
    have hsl := ha.lenI
    obtain ⟨hx1, hxs0⟩ := hms xs (by simp)
    have hmx : m = pw n := by rw [← hx.lenI, hx1, hsl]
    subst hmx
    obtain ⟨hy1, hys0⟩ := hms ys (by simp)
    have hly : l = pw n := by rw [← hy.lenI, hy1, hsl]
    subst hly
    have HYS := Lib.hid hys0
    clear hy1 hys0
    have HSL := Lib.hid hsl
    have HS0 := Lib.hid hs0
    have HXS := Lib.hid hxs0
    have hn6 : n ≤ 6 := by omega
    have hn0 : 0 < n := by omega
    clear hsl hms hx1 hs0 hxs0 hd1 hd2 hcM
    go_enter Tryz.func40, Tryz.ntmps40
    go_wp2_with fail
    refine hreg.mono ?_
    rintro e w2 ⟨rfl, hb2⟩
    have hB2 := hB1.trans (hb2.mono hB1.size)
    have k2 := k1.below hb2 k1.lt
    obtain ⟨q0, q1⟩ := k2.two
    clear k0 hB0 k1 hB1 hb2
    have HOK : Hid (comR P sq xs ys = (blaL P sq n (comL P n (subL P sq n xs) (subL P sq n ys)), 0)) := Lib.hid (by rw [comR_ok HR0.out, HSL.out])
    have hkl : w.heap.size < w2.heap.size := k2.lt
    have hls := subL_len HP sq n xs
    have hly := subL_len HP sq n ys
    have htx := subL_tab hp sq n xs
    have hty := subL_tab hp sq n ys
    have hkl1 := kernL_len HP (subL P sq n xs) n
    have hkl2 := kernL_len HP (subL P sq n ys) n
    have htk1 := kernL_tab hp (subL P sq n xs) n
    have htk2 := kernL_tab hp (subL P sq n ys) n
    have hcl := comL_len HP n (subL P sq n xs) (subL P sq n ys)
    have HLL := Lib.hid (And.intro hkl1 hkl2)
    go_wp2
    refine wp_obs 6 [[], [0], [], [2], [0, 1], [2, 3]] [VIs (.agg #[.int .i64 P, .slice A n c]), VIs (.int .i64 (P)), VIs (.agg #[.int .i64 P, .slice A n c]), VIs (.int .i64 (n)), VIs (.int .i64 (P)), VIs (.int .i64 (n))] (fun w' => Blk w' w.heap.size 28 #[.int .i64 P, .slice A n c] ∧ Below w2.heap.size w2 w') (by kernel_rfl) (by kernel_rfl) (fun _ _ h hb => ⟨h.1.below hb h.1.lt, h.2.trans (hb.mono h.2.size)⟩) (⟨k2.drew, (Below.refl _ _).drew⟩) (fun x => ?_)
    refine obs_step (Eq.trans (by simp only [List.getElem?_toArray, List.getElem?_cons_zero]; exact rfl) rfl) rfl (fun w' hS hV K hK => ?_) ?_
    · obtain ⟨q0, q1⟩ := hS.1.two
      go_simp
      exact hK.out _ _ _ rfl rfl rfl (Below.refl _ _)
    simp only [List.setIfInBounds_toArray, List.set_cons_zero, List.set_cons_succ]
    refine obs_step (Eq.trans (by simp only [List.getElem?_toArray, List.getElem?_cons_succ, List.getElem?_cons_zero]; exact rfl) rfl) rfl (fun w' hS hV K hK => ?_) ?_
    · have e0 : x 0 = (.agg #[.int .i64 P, .slice A n c]) := hV 0 (by decide)
      obtain ⟨q0, q1⟩ := hS.1.two
      go_simp
      refine (field_any _ _ _ _ _).mono ?_
      rintro e v1 ⟨rfl, hb⟩
      exact hK.out _ _ _ rfl rfl rfl hb
    simp only [List.setIfInBounds_toArray, List.set_cons_zero, List.set_cons_succ]
    refine obs_step (Eq.trans (by simp only [List.getElem?_toArray, List.getElem?_cons_succ, List.getElem?_cons_zero]; exact rfl) rfl) rfl (fun w' hS hV K hK => ?_) ?_
    · obtain ⟨q0, q1⟩ := hS.1.two
      go_simp
      exact hK.out _ _ _ rfl rfl rfl (Below.refl _ _)
    simp only [List.setIfInBounds_toArray, List.set_cons_zero, List.set_cons_succ]
    refine obs_step (Eq.trans (by simp only [List.getElem?_toArray, List.getElem?_cons_succ, List.getElem?_cons_zero]; exact rfl) rfl) rfl (fun w' hS hV K hK => ?_) ?_
    · have e2 : x 2 = (.agg #[.int .i64 P, .slice A n c]) := hV 2 (by decide)
      obtain ⟨q0, q1⟩ := hS.1.two
      go_simp
      refine (dim_any _ _ _ _ _).mono ?_
      rintro e v1 ⟨rfl, hb⟩
      exact hK.out _ _ _ rfl rfl rfl hb
    simp only [List.setIfInBounds_toArray, List.set_cons_zero, List.set_cons_succ]
    refine obs_step (Eq.trans (by simp only [List.getElem?_toArray, List.getElem?_cons_succ, List.getElem?_cons_zero]; exact rfl) rfl) rfl (fun w' hS hV K hK => ?_) ?_
    · have e0 : x 0 = (.agg #[.int .i64 P, .slice A n c]) := hV 0 (by decide)
      have e1 : x 1 = (.int .i64 (P)) := hV 1 (by decide)
      obtain ⟨q0, q1⟩ := hS.1.two
      go_simp
      exact hK.out _ _ _ rfl rfl rfl (Below.refl _ _)
    simp only [List.setIfInBounds_toArray, List.set_cons_zero, List.set_cons_succ]
    refine obs_step (Eq.trans (by simp only [List.getElem?_toArray, List.getElem?_cons_succ, List.getElem?_cons_zero]; exact rfl) rfl) rfl (fun w' hS hV K hK => ?_) ?_
    · have e2 : x 2 = (.agg #[.int .i64 P, .slice A n c]) := hV 2 (by decide)
      have e3 : x 3 = (.int .i64 (n)) := hV 3 (by decide)
      obtain ⟨q0, q1⟩ := hS.1.two
      go_simp
      exact hK.out _ _ _ rfl rfl rfl (Below.refl _ _)
    simp only [List.setIfInBounds_toArray, List.set_cons_zero, List.set_cons_succ]
    refine fun w' hS hV => ?_
    have e0 : x 0 = (.agg #[.int .i64 P, .slice A n c]) := hV 0 (by decide)
    have e1 : x 1 = (.int .i64 (P)) := hV 1 (by decide)
    have e2 : x 2 = (.agg #[.int .i64 P, .slice A n c]) := hV 2 (by decide)
    have e3 : x 3 = (.int .i64 (n)) := hV 3 (by decide)
    have e4 : x 4 = (.int .i64 (P)) := hV 4 (by decide)
    have e5 : x 5 = (.int .i64 (n)) := hV 5 (by decide)
    simp only [e0, e1, e2, e3, e4, e5]
    clear e0 e1 e2 e3 e4 e5
    refine wpAny_done (by kernel_rfl) ?_ _
    obtain ⟨w3, rfl⟩ : ∃ W, W = w' := ⟨_, rfl⟩
    have k3 := hS.1
    have hB3 := hB2.trans (hS.2.mono hB2.size)
    have hkl3 : w.heap.size < w3.heap.size := k3.lt
    have HSUB := Lib.hid fun (w' : World) (h : Below w3.heap.size w3 w') => subspace_any P A n c sq X cx xs w' HP hn6 hn0 ((ha.below hB3).below h) HS0.out ((hx.below hB3).below h) HXS.out
    have HSUY := Lib.hid fun (w' : World) (h : Below w3.heap.size w3 w') => subspace_any P A n c sq Y cy ys w' HP hn6 hn0 ((ha.below hB3).below h) HS0.out ((hy.below hB3).below h) HYS.out
    have HKEA := Lib.hid fun (w' : World) (B1 : Option Addr) (d1 : Nat) (_h : Below w3.heap.size w3 w') (h1 : RdII w' B1 (subL P sq n xs).length (subL P sq n xs)) => kernel_any P B1 _ d1 (subL P sq n xs) n w' HP (by omega) (by omega) h1 htx
    have HKEB := Lib.hid fun (w' : World) (B1 : Option Addr) (d1 : Nat) (_h : Below w3.heap.size w3 w') (h1 : RdII w' B1 (subL P sq n ys).length (subL P sq n ys)) => kernel_any P B1 _ d1 (subL P sq n ys) n w' HP (by omega) (by omega) h1 hty
    have HKEC : Hid (∀ (w4 w' : World) (B1 : Option Addr) (d1 : Nat) (_h : Below w4.heap.size w4 w') (_h1 : RdII w' B1 ((kernL P (subL P sq n xs) n).length + (kernL P (subL P sq n ys) n).length) (kernL P (subL P sq n xs) n ++ kernL P (subL P sq n ys) n)), Calls Tryz.prog 78 #[.int .i64 P, .slice B1 ((kernL P (subL P sq n xs) n).length + (kernL P (subL P sq n ys) n).length) d1, .int .i64 n] w' fun e w2 => ∃ A' c', e = .returned (.slice A' (comL P n (subL P sq n xs) (subL P sq n ys)).length c') ∧ MkII w' w2 A' (comL P n (subL P sq n xs) (subL P sq n ys)).length c' (comL P n (subL P sq n xs) (subL P sq n ys))) := Lib.hid fun w4 w' B1 d1 _ h1 => kernel_any P B1 _ d1 (kernL P (subL P sq n xs) n ++ kernL P (subL P sq n ys) n) n w' HP (by omega) (by omega) h1 (htk1.append htk2)
    have HBLA := Lib.hid fun (w' : World) (B : Option Addr) (d : Nat) (h : Below w3.heap.size w3 w') (hb : RdII w' B (comL P n (subL P sq n xs) (subL P sq n ys)).length (comL P n (subL P sq n xs) (subL P sq n ys))) => bladeOf_any P A n c sq B _ d _ w' HP hn6 hn0 (by omega) ((ha.below hB3).below h) HS0.out hb (comL_tab hp n _ _)
    obtain ⟨LJ, hLJ⟩ : ∃ R, R = blaL P sq n (comL P n (subL P sq n xs) (subL P sq n ys)) := ⟨_, rfl⟩
    rw [← hLJ] at HOK HBLA
    obtain ⟨LC, hLC⟩ : ∃ R, R = comL P n (subL P sq n xs) (subL P sq n ys) := ⟨_, rfl⟩
    rw [← hLC] at HBLA HKEC
    obtain ⟨KA, hKA⟩ : ∃ R, R = kernL P (subL P sq n xs) n := ⟨_, rfl⟩
    obtain ⟨KB, hKB⟩ : ∃ R, R = kernL P (subL P sq n ys) n := ⟨_, rfl⟩
    rw [← hKA] at HKEA
    rw [← hKB] at HKEB
    rw [← hKA, ← hKB] at HKEC HLL
    obtain ⟨LA, hLA⟩ : ∃ R, R = subL P sq n xs := ⟨_, rfl⟩
    obtain ⟨LB, hLB⟩ : ∃ R, R = subL P sq n ys := ⟨_, rfl⟩
    rw [← hLA] at HSUB HKEA
    rw [← hLB] at HSUY HKEB
    clear hLJ hLC hLA hLB hKA hKB htx hty hls hly hcl hkl hkl1 hkl2 htk1 htk2 hS k2 q0 q1
    go_wp2
    refine wp_obsD 14 w3.heap.size [[], [], [], [1, 2], [], [0, 1, 2, 3, 4], [], [], [], [0, 1, 2, 3, 4, 5, 7, 8], [], [0, 1, 2, 3, 4, 5, 6, 7, 8, 9, 10], [0, 1, 2, 3, 4, 5, 6, 7, 8, 9, 10, 11], [0, 1, 2, 3, 4, 5, 6, 7, 8, 9, 10, 11, 12]] [[], [], [], [], [], [], [], [], [], [], [], [], [3, 5, 9, 11], []] (fun x => [VIs (.int .i64 (P)), VIs (.agg #[.int .i64 P, .slice A n c]), VIs (.slice X (pw n) cx), VMat w3 LA.length LA, VIs (.int .i64 (n)), VMat w3 KA.length KA, VIs (.int .i64 (P)), VIs (.agg #[.int .i64 P, .slice A n c]), VIs (.slice Y (pw n) cy), VMat w3 LB.length LB, VIs (.int .i64 (n)), VTwo w3 KA.length KA KB.length KB (x 5), VMat w3 (KA.length + KB.length) (KA ++ KB), VMat w3 (KA.length + KB.length) (KA ++ KB)]) (fun w' => Blk w' w.heap.size 28 #[.int .i64 P, .slice A n c] ∧ Below w3.heap.size w3 w') (by kernel_rfl) (by kernel_rfl) (fun x x' j hx => by
        rcases j with _ | _ | _ | _ | _ | _ | _ | _ | _ | _ | _ | _ | _ | _ | j
        · rfl
        · rfl
        · rfl
        · rfl
        · rfl
        · rfl
        · rfl
        · rfl
        · rfl
        · rfl
        · rfl
        · rw [hx 5 (by decide)]
        · rfl
        · rfl
        · rfl)
      (weak_of [0, 1, 2, 4, 6, 7, 8, 10] (by decide) (fun k hk x => by
        simp only [List.mem_cons, List.not_mem_nil, or_false] at hk
        rcases hk with rfl | rfl | rfl | rfl | rfl | rfl | rfl | rfl <;> exact ⟨_, rfl⟩)) (fun j _ _ h hb => ⟨h.1.below (hb.mono (lim_ge h.2.size)) hkl3, h.2.trans (hb.mono (lim_ge h.2.size))⟩) (⟨k3.drew, (Below.refl _ _).drew⟩) (fun x => ?_)
    refine obs_stepD (Eq.trans (by simp only [List.getElem?_toArray, List.getElem?_cons_zero]; exact rfl) rfl) rfl (fun w' hS hV K hK => ?_) ?_
    · obtain ⟨q0, q1⟩ := hS.1.two
      go_simp
      exact hK.out _ _ _ rfl rfl rfl (Below.refl _ _)
    simp only [List.setIfInBounds_toArray, List.set_cons_zero, List.set_cons_succ]
    refine obs_stepD (Eq.trans (by simp only [List.getElem?_toArray, List.getElem?_cons_succ, List.getElem?_cons_zero]; exact rfl) rfl) rfl (fun w' hS hV K hK => ?_) ?_
    · obtain ⟨q0, q1⟩ := hS.1.two
      go_simp
      exact hK.out _ _ _ rfl rfl rfl (Below.refl _ _)
    simp only [List.setIfInBounds_toArray, List.set_cons_zero, List.set_cons_succ]
    refine obs_stepD (Eq.trans (by simp only [List.getElem?_toArray, List.getElem?_cons_succ, List.getElem?_cons_zero]; exact rfl) rfl) rfl (fun w' hS hV K hK => ?_) ?_
    · obtain ⟨q0, q1⟩ := hS.1.two
      go_simp
      exact hK.out _ _ _ rfl rfl rfl (Below.refl _ _)
    simp only [List.setIfInBounds_toArray, List.set_cons_zero, List.set_cons_succ]
    refine obs_stepD (Eq.trans (by simp only [List.getElem?_toArray, List.getElem?_cons_succ, List.getElem?_cons_zero]; exact rfl) rfl) rfl (fun w' hS hV K hK => ?_) ?_
    · have e1 : x 1 = (.agg #[.int .i64 P, .slice A n c]) := hV 1 (by decide)
      have e2 : x 2 = (.slice X (pw n) cx) := hV 2 (by decide)
      obtain ⟨q0, q1⟩ := hS.1.two
      go_simp
      refine (HSUB.out w' hS.2).mono ?_
      rintro e v1 ⟨A2, c2, rfl, hM⟩
      exact hK.out _ _ _ rfl rfl ⟨_, _, rfl, hM.after hS.2⟩ hM.b
    simp only [List.setIfInBounds_toArray, List.set_cons_zero, List.set_cons_succ]
    refine obs_stepD (Eq.trans (by simp only [List.getElem?_toArray, List.getElem?_cons_succ, List.getElem?_cons_zero]; exact rfl) rfl) rfl (fun w' hS hV K hK => ?_) ?_
    · obtain ⟨q0, q1⟩ := hS.1.two
      go_simp
      exact hK.out _ _ _ rfl rfl rfl (Below.refl _ _)
    simp only [List.setIfInBounds_toArray, List.set_cons_zero, List.set_cons_succ]
    refine obs_stepD (Eq.trans (by simp only [List.getElem?_toArray, List.getElem?_cons_succ, List.getElem?_cons_zero]; exact rfl) rfl) rfl (fun w' hS hV K hK => ?_) ?_
    · have e0 : x 0 = (.int .i64 (P)) := hV 0 (by decide)
      have e1 : x 1 = (.agg #[.int .i64 P, .slice A n c]) := hV 1 (by decide)
      have e2 : x 2 = (.slice X (pw n) cx) := hV 2 (by decide)
      obtain ⟨A3, c3, e3, h3⟩ := hV 3 (by decide)
      have e4 : x 4 = (.int .i64 (n)) := hV 4 (by decide)
      obtain ⟨q0, q1⟩ := hS.1.two
      go_simp
      refine (HKEA.out w' _ _ hS.2 h3.rd).mono ?_
      rintro e v1 ⟨A2, c2, rfl, hM⟩
      exact hK.out _ _ _ rfl rfl ⟨_, _, rfl, hM.after hS.2⟩ hM.b
    simp only [List.setIfInBounds_toArray, List.set_cons_zero, List.set_cons_succ]
    refine obs_stepD (Eq.trans (by simp only [List.getElem?_toArray, List.getElem?_cons_succ, List.getElem?_cons_zero]; exact rfl) rfl) rfl (fun w' hS hV K hK => ?_) ?_
    · obtain ⟨q0, q1⟩ := hS.1.two
      go_simp
      exact hK.out _ _ _ rfl rfl rfl (Below.refl _ _)
    simp only [List.setIfInBounds_toArray, List.set_cons_zero, List.set_cons_succ]
    refine obs_stepD (Eq.trans (by simp only [List.getElem?_toArray, List.getElem?_cons_succ, List.getElem?_cons_zero]; exact rfl) rfl) rfl (fun w' hS hV K hK => ?_) ?_
    · obtain ⟨q0, q1⟩ := hS.1.two
      go_simp
      exact hK.out _ _ _ rfl rfl rfl (Below.refl _ _)
    simp only [List.setIfInBounds_toArray, List.set_cons_zero, List.set_cons_succ]
    refine obs_stepD (Eq.trans (by simp only [List.getElem?_toArray, List.getElem?_cons_succ, List.getElem?_cons_zero]; exact rfl) rfl) rfl (fun w' hS hV K hK => ?_) ?_
    · obtain ⟨q0, q1⟩ := hS.1.two
      go_simp
      exact hK.out _ _ _ rfl rfl rfl (Below.refl _ _)
    simp only [List.setIfInBounds_toArray, List.set_cons_zero, List.set_cons_succ]
    refine obs_stepD (Eq.trans (by simp only [List.getElem?_toArray, List.getElem?_cons_succ, List.getElem?_cons_zero]; exact rfl) rfl) rfl (fun w' hS hV K hK => ?_) ?_
    · have e0 : x 0 = (.int .i64 (P)) := hV 0 (by decide)
      have e1 : x 1 = (.agg #[.int .i64 P, .slice A n c]) := hV 1 (by decide)
      have e2 : x 2 = (.slice X (pw n) cx) := hV 2 (by decide)
      obtain ⟨A3, c3, e3, h3⟩ := hV 3 (by decide)
      have e4 : x 4 = (.int .i64 (n)) := hV 4 (by decide)
      obtain ⟨A5, c5, e5, h5⟩ := hV 5 (by decide)
      have e7 : x 7 = (.agg #[.int .i64 P, .slice A n c]) := hV 7 (by decide)
      have e8 : x 8 = (.slice Y (pw n) cy) := hV 8 (by decide)
      obtain ⟨q0, q1⟩ := hS.1.two
      go_simp
      refine (HSUY.out w' hS.2).mono ?_
      rintro e v1 ⟨A2, c2, rfl, hM⟩
      exact hK.out _ _ _ rfl rfl ⟨_, _, rfl, hM.after hS.2⟩ hM.b
    simp only [List.setIfInBounds_toArray, List.set_cons_zero, List.set_cons_succ]
    refine obs_stepD (Eq.trans (by simp only [List.getElem?_toArray, List.getElem?_cons_succ, List.getElem?_cons_zero]; exact rfl) rfl) rfl (fun w' hS hV K hK => ?_) ?_
    · obtain ⟨q0, q1⟩ := hS.1.two
      go_simp
      exact hK.out _ _ _ rfl rfl rfl (Below.refl _ _)
    simp only [List.setIfInBounds_toArray, List.set_cons_zero, List.set_cons_succ]
    refine obs_stepD (Eq.trans (by simp only [List.getElem?_toArray, List.getElem?_cons_succ, List.getElem?_cons_zero]; exact rfl) rfl) rfl (fun w' hS hV K hK => ?_) ?_
    · have e0 : x 0 = (.int .i64 (P)) := hV 0 (by decide)
      have e1 : x 1 = (.agg #[.int .i64 P, .slice A n c]) := hV 1 (by decide)
      have e2 : x 2 = (.slice X (pw n) cx) := hV 2 (by decide)
      obtain ⟨A3, c3, e3, h3⟩ := hV 3 (by decide)
      have e4 : x 4 = (.int .i64 (n)) := hV 4 (by decide)
      obtain ⟨A5, c5, e5, h5⟩ := hV 5 (by decide)
      have e6 : x 6 = (.int .i64 (P)) := hV 6 (by decide)
      have e7 : x 7 = (.agg #[.int .i64 P, .slice A n c]) := hV 7 (by decide)
      have e8 : x 8 = (.slice Y (pw n) cy) := hV 8 (by decide)
      obtain ⟨A9, c9, e9, h9⟩ := hV 9 (by decide)
      have e10 : x 10 = (.int .i64 (n)) := hV 10 (by decide)
      obtain ⟨q0, q1⟩ := hS.1.two
      go_simp
      refine (HKEB.out w' _ _ hS.2 h9.rd).mono ?_
      rintro e v1 ⟨A2, c2, rfl, hM⟩
      exact hK.out _ _ _ rfl rfl ⟨_, _, _, _, e5, rfl, MkII2.of_first h5 hM⟩ hM.b
    simp only [List.setIfInBounds_toArray, List.set_cons_zero, List.set_cons_succ]
    refine obs_stepD (Eq.trans (by simp only [List.getElem?_toArray, List.getElem?_cons_succ, List.getElem?_cons_zero]; exact rfl) rfl) rfl (fun w' hS hV K hK => ?_) ?_
    · have e0 : x 0 = (.int .i64 (P)) := hV 0 (by decide)
      have e1 : x 1 = (.agg #[.int .i64 P, .slice A n c]) := hV 1 (by decide)
      have e2 : x 2 = (.slice X (pw n) cx) := hV 2 (by decide)
      obtain ⟨A3, c3, e3, h3⟩ := hV 3 (by decide)
      have e4 : x 4 = (.int .i64 (n)) := hV 4 (by decide)
      obtain ⟨A5, c5, e5, h5⟩ := hV 5 (by decide)
      have e6 : x 6 = (.int .i64 (P)) := hV 6 (by decide)
      have e7 : x 7 = (.agg #[.int .i64 P, .slice A n c]) := hV 7 (by decide)
      have e8 : x 8 = (.slice Y (pw n) cy) := hV 8 (by decide)
      obtain ⟨A9, c9, e9, h9⟩ := hV 9 (by decide)
      have e10 : x 10 = (.int .i64 (n)) := hV 10 (by decide)
      obtain ⟨A0, c0, B0, d0, eA, eB, hTW⟩ := hV 11 (by decide)
      obtain ⟨q0, q1⟩ := hS.1.two
      refine wp_appRows w3 w' _ _ rfl A0 KA.length c0 KA B0 KB.length d0 KB hTW (by have := HLL.out; omega) eA eB ?_
      intro A' c' w'' hM hgr
      exact hK.out _ _ _ rfl rfl ⟨_, _, rfl, hM⟩ (hTW.grown_below hgr (Below.refl _ _) (Nat.le_refl _))
    simp only [List.setIfInBounds_toArray, List.set_cons_zero, List.set_cons_succ]
    refine obs_stepD (Eq.trans (by simp only [List.getElem?_toArray, List.getElem?_cons_succ, List.getElem?_cons_zero]; exact rfl) rfl) rfl (fun w' hS hV K hK => ?_) ?_
    · have e0 : x 0 = (.int .i64 (P)) := hV 0 (by decide)
      have e1 : x 1 = (.agg #[.int .i64 P, .slice A n c]) := hV 1 (by decide)
      have e2 : x 2 = (.slice X (pw n) cx) := hV 2 (by decide)
      have e4 : x 4 = (.int .i64 (n)) := hV 4 (by decide)
      have e6 : x 6 = (.int .i64 (P)) := hV 6 (by decide)
      have e7 : x 7 = (.agg #[.int .i64 P, .slice A n c]) := hV 7 (by decide)
      have e8 : x 8 = (.slice Y (pw n) cy) := hV 8 (by decide)
      have e10 : x 10 = (.int .i64 (n)) := hV 10 (by decide)
      obtain ⟨A12, c12, e12, h12⟩ := hV 12 (by decide)
      obtain ⟨q0, q1⟩ := hS.1.two
      go_simp
      exact hK.out _ _ _ rfl rfl ⟨_, _, rfl, h12⟩ (Below.refl _ _)
    simp only [List.setIfInBounds_toArray, List.set_cons_zero, List.set_cons_succ]
    refine fun w' hS hV => ?_
    have e0 : x 0 = (.int .i64 (P)) := hV 0 (by decide)
    have e1 : x 1 = (.agg #[.int .i64 P, .slice A n c]) := hV 1 (by decide)
    have e2 : x 2 = (.slice X (pw n) cx) := hV 2 (by decide)
    have e4 : x 4 = (.int .i64 (n)) := hV 4 (by decide)
    have e6 : x 6 = (.int .i64 (P)) := hV 6 (by decide)
    have e7 : x 7 = (.agg #[.int .i64 P, .slice A n c]) := hV 7 (by decide)
    have e8 : x 8 = (.slice Y (pw n) cy) := hV 8 (by decide)
    have e10 : x 10 = (.int .i64 (n)) := hV 10 (by decide)
    obtain ⟨A12, c12, e12, h12⟩ := hV 12 (by decide)
    obtain ⟨A13, c13, e13, h13⟩ := hV 13 (by decide)
    simp only [e0, e1, e2, e4, e6, e7, e8, e10, e12, e13]
    clear e0 e1 e2 e4 e6 e7 e8 e10 e12 e13
    refine wpAny_done (by kernel_rfl) ?_ _
    obtain ⟨w4, rfl⟩ : ∃ W, W = w' := ⟨_, rfl⟩
    have k4 := hS.1
    have HB34 := Lib.hid hS.2
    have hM11 := h13
    obtain ⟨A11, hA11⟩ : ∃ a, a = A13 := ⟨_, rfl⟩
    obtain ⟨c11, hc11⟩ : ∃ a, a = c13 := ⟨_, rfl⟩
    rw [← hA11, ← hc11] at hM11 ⊢
    have hR11 := Lib.hid hM11.rd
    replace HKEC := Lib.hid (HKEC.out w4)
    clear hS k3 hA11 hc11 hM11 hkl3
    go_wp2
    refine wp_obs 8 [[], [], [], [], [1, 2, 3], [0, 1, 2, 3, 4], [0, 1, 2, 3, 4, 5], []] [VIs (.agg #[.int .i64 P, .slice A n c]), VIs (.int .i64 (P)), VIs (.slice A11 (KA.length + KB.length) c11), VIs (.int .i64 (n)), VMat w4 LC.length LC, VSl w4 (pw n) LJ, VSl w4 (pw n) LJ, VIs (.int .i64 0)] (fun w' => Blk w' w.heap.size 28 #[.int .i64 P, .slice A n c] ∧ Below w4.heap.size w4 w') (by kernel_rfl) (by kernel_rfl) (fun _ _ h hb => ⟨h.1.below hb h.1.lt, h.2.trans (hb.mono h.2.size)⟩) (⟨k4.drew, (Below.refl _ _).drew⟩) (fun x => ?_)
    refine obs_step (Eq.trans (by simp only [List.getElem?_toArray, List.getElem?_cons_zero]; exact rfl) rfl) rfl (fun w' hS hV K hK => ?_) ?_
    · obtain ⟨q0, q1⟩ := hS.1.two
      go_simp
      exact hK.out _ _ _ rfl rfl rfl (Below.refl _ _)
    simp only [List.setIfInBounds_toArray, List.set_cons_zero, List.set_cons_succ]
    refine obs_step (Eq.trans (by simp only [List.getElem?_toArray, List.getElem?_cons_succ, List.getElem?_cons_zero]; exact rfl) rfl) rfl (fun w' hS hV K hK => ?_) ?_
    · obtain ⟨q0, q1⟩ := hS.1.two
      go_simp
      exact hK.out _ _ _ rfl rfl rfl (Below.refl _ _)
    simp only [List.setIfInBounds_toArray, List.set_cons_zero, List.set_cons_succ]
    refine obs_step (Eq.trans (by simp only [List.getElem?_toArray, List.getElem?_cons_succ, List.getElem?_cons_zero]; exact rfl) rfl) rfl (fun w' hS hV K hK => ?_) ?_
    · obtain ⟨q0, q1⟩ := hS.1.two
      go_simp
      exact hK.out _ _ _ rfl rfl rfl (Below.refl _ _)
    simp only [List.setIfInBounds_toArray, List.set_cons_zero, List.set_cons_succ]
    refine obs_step (Eq.trans (by simp only [List.getElem?_toArray, List.getElem?_cons_succ, List.getElem?_cons_zero]; exact rfl) rfl) rfl (fun w' hS hV K hK => ?_) ?_
    · obtain ⟨q0, q1⟩ := hS.1.two
      go_simp
      exact hK.out _ _ _ rfl rfl rfl (Below.refl _ _)
    simp only [List.setIfInBounds_toArray, List.set_cons_zero, List.set_cons_succ]
    refine obs_step (Eq.trans (by simp only [List.getElem?_toArray, List.getElem?_cons_succ, List.getElem?_cons_zero]; exact rfl) rfl) rfl (fun w' hS hV K hK => ?_) ?_
    · have e1 : x 1 = (.int .i64 (P)) := hV 1 (by decide)
      have e2 : x 2 = (.slice A11 (KA.length + KB.length) c11) := hV 2 (by decide)
      have e3 : x 3 = (.int .i64 (n)) := hV 3 (by decide)
      obtain ⟨q0, q1⟩ := hS.1.two
      go_simp
      refine (HKEC.out w' _ _ hS.2 (hR11.out.below hS.2)).mono ?_
      rintro e v1 ⟨A2, c2, rfl, hM⟩
      exact hK.out _ _ _ rfl rfl ⟨_, _, rfl, hM.after hS.2⟩ hM.b
    simp only [List.setIfInBounds_toArray, List.set_cons_zero, List.set_cons_succ]
    refine obs_step (Eq.trans (by simp only [List.getElem?_toArray, List.getElem?_cons_succ, List.getElem?_cons_zero]; exact rfl) rfl) rfl (fun w' hS hV K hK => ?_) ?_
    · have e0 : x 0 = (.agg #[.int .i64 P, .slice A n c]) := hV 0 (by decide)
      have e1 : x 1 = (.int .i64 (P)) := hV 1 (by decide)
      have e2 : x 2 = (.slice A11 (KA.length + KB.length) c11) := hV 2 (by decide)
      have e3 : x 3 = (.int .i64 (n)) := hV 3 (by decide)
      obtain ⟨A4, c4, e4, h4⟩ := hV 4 (by decide)
      obtain ⟨q0, q1⟩ := hS.1.two
      go_simp
      refine (HBLA.out w' _ _ ((HB34.out.trans (hS.2.mono HB34.out.size))) h4.rd).mono ?_
      rintro e v1 ⟨A2, c2, rfl, hM⟩
      exact hK.out _ _ _ rfl rfl ⟨_, _, rfl, hM.after hS.2⟩ hM.b
    simp only [List.setIfInBounds_toArray, List.set_cons_zero, List.set_cons_succ]
    refine obs_step (Eq.trans (by simp only [List.getElem?_toArray, List.getElem?_cons_succ, List.getElem?_cons_zero]; exact rfl) rfl) rfl (fun w' hS hV K hK => ?_) ?_
    · have e0 : x 0 = (.agg #[.int .i64 P, .slice A n c]) := hV 0 (by decide)
      have e1 : x 1 = (.int .i64 (P)) := hV 1 (by decide)
      have e2 : x 2 = (.slice A11 (KA.length + KB.length) c11) := hV 2 (by decide)
      have e3 : x 3 = (.int .i64 (n)) := hV 3 (by decide)
      obtain ⟨A4, c4, e4, h4⟩ := hV 4 (by decide)
      obtain ⟨A5, c5, e5, h5⟩ := hV 5 (by decide)
      obtain ⟨q0, q1⟩ := hS.1.two
      go_simp
      exact hK.out _ _ _ rfl rfl ⟨_, _, rfl, h5⟩ (Below.refl _ _)
    simp only [List.setIfInBounds_toArray, List.set_cons_zero, List.set_cons_succ]
    refine obs_step (Eq.trans (by simp only [List.getElem?_toArray, List.getElem?_cons_succ, List.getElem?_cons_zero]; exact rfl) rfl) rfl (fun w' hS hV K hK => ?_) ?_
    · obtain ⟨q0, q1⟩ := hS.1.two
      go_simp
      exact hK.out _ _ _ rfl rfl rfl (Below.refl _ _)
    simp only [List.setIfInBounds_toArray, List.set_cons_zero, List.set_cons_succ]
    refine fun w' hS hV => ?_
    have e0 : x 0 = (.agg #[.int .i64 P, .slice A n c]) := hV 0 (by decide)
    have e1 : x 1 = (.int .i64 (P)) := hV 1 (by decide)
    have e2 : x 2 = (.slice A11 (KA.length + KB.length) c11) := hV 2 (by decide)
    have e3 : x 3 = (.int .i64 (n)) := hV 3 (by decide)
    obtain ⟨A4, c4, e4, h4⟩ := hV 4 (by decide)
    obtain ⟨A5, c5, e5, h5⟩ := hV 5 (by decide)
    obtain ⟨A6, c6, e6, h6⟩ := hV 6 (by decide)
    have e7 : x 7 = (.int .i64 0) := hV 7 (by decide)
    simp only [e0, e1, e2, e3, e4, e5, e6, e7]
    clear e0 e1 e2 e3 e4 e5 e6 e7
    refine wpAny_done (by kernel_rfl) ?_ _
    go_wp2
    go_ret2
    exact aRow3 HOK.out (h6.after (hB3.trans (HB34.out.mono hB3.size)))
  · obtain ⟨r, hr⟩ : ∃ r, r = codeL P sq [xs, ys] := ⟨_, rfl⟩
    have HR := Lib.hid hr
    have HR0 := Lib.hid hr0
    have b0 : (r != 0) = true := code_ne (by rw [hr]; exact hr0)
    rw [← hr] at hreg
    clear hr hr0
    go_enter Tryz.func40, Tryz.ntmps40
    go_wp2_with fail
    refine hreg.mono ?_
    rintro e w2 ⟨rfl, hb2⟩
    have hB2 := hB1.trans (hb2.mono hB1.size)
    have k2 := k1.below hb2 k1.lt
    obtain ⟨q0, q1⟩ := k2.two
    clear k0 hB0 k1 hB1 hb2
    go_wp2
    go_ret2
    exact noRow3 (by rw [comR_bad HR0.out, HR.out]) hB2
end Go.Proofs.YtommppijnccomaaGreat

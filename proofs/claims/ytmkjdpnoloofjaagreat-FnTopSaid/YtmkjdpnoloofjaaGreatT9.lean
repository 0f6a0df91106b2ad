/-
  LawFnTop: part 9 of the texts that the proof needs. No condition.
-/
import Derived.Test.YtmkjdpnoloofjaaGreatT8
namespace Go.Proofs.YtmkjdpnoloofjaaGreat
open Go.RowKit
section
variable {P : Program} {ops : Array Oper} {Q : Exit → Act → World → Prop}
/-- Those whose values are good still when operation j is done (C: what each uses up). -/
def availR (R C : List (List Nat)) (m j : Nat) : List Nat := (R.getD j []).filter fun i => (List.range m).all fun k => !((C.getD k []).contains i) || k == j || (R.getD k []).contains j
/-- .. and at the end of the first m. -/
def endR (C : List (List Nat)) (m : Nat) : List Nat := (List.range m).filter fun i => (List.range m).all fun k => !((C.getD k []).contains i)
/-- What operation j may do to the world: add to it, or, where C has something at j, what Rel allows. -/
def StepR (C : List (List Nat)) (Rel : World → World → Prop) (j : Nat) (w w' : World) : Prop := if (C.getD j []).isEmpty then Below w.heap.size w w' else Rel w w'
theorem StepR.rel {C : List (List Nat)} {Rel : World → World → Prop} {j : Nat} {w w' : World} (h : (C.getD j []).isEmpty = false) (hb : Rel w w') : StepR C Rel j w w' := by unfold StepR; rw [h]; exact hb
theorem StepR.either {C : List (List Nat)} {Rel : World → World → Prop} {j : Nat} {w w' : World} {q : Prop} (h : StepR C Rel j w w') (h1 : Below w.heap.size w w' → q) (h2 : Rel w w' → q) : q := by
 unfold StepR at h
 split at h
 · exact h1 h
 · exact h2 h
theorem not_containsR {L : List Nat} {i : Nat} : (!(L.contains i)) = true ↔ i ∉ L := by
 rw [Bool.not_eq_true', ← Bool.not_eq_true, List.contains_iff_mem]
theorem availR_spec {R C : List (List Nat)} {m j i : Nat} : i ∈ availR R C m j ↔ i ∈ R.getD j [] ∧ ∀ k, k < m → i ∈ C.getD k [] → k = j ∨ j ∈ R.getD k [] := by
 unfold availR
 rw [List.mem_filter, List.all_eq_true]
 refine and_congr_right fun _ => ⟨fun h k hk hi => ?_, fun h k hk => ?_⟩
 · have h1 := h k (List.mem_range.2 hk)
   rw [Bool.or_eq_true, Bool.or_eq_true, not_containsR, beq_iff_eq, List.contains_iff_mem] at h1
   rcases h1 with (h1 | h1) | h1
   · exact absurd hi h1
   · exact .inl h1
   · exact .inr h1
 · rw [Bool.or_eq_true, Bool.or_eq_true, not_containsR, beq_iff_eq, List.contains_iff_mem]
   by_cases hi : i ∈ C.getD k []
   · rcases h k (List.mem_range.1 hk) hi with h1 | h1
     · exact .inl (.inr h1)
     · exact .inr h1
   · exact .inl (.inl hi)
theorem endR_spec {C : List (List Nat)} {m i : Nat} : i ∈ endR C m ↔ i < m ∧ ∀ k, k < m → i ∉ C.getD k [] := by
 unfold endR
 rw [List.mem_filter, List.all_eq_true, List.mem_range]
 exact and_congr_right fun _ => ⟨fun h k hk => not_containsR.1 (h k (List.mem_range.2 hk)), fun h k hk => not_containsR.2 (h k (List.mem_range.1 hk))⟩
/-- What is to be shown of operation j. -/
def ObR (P : Program) (ops : Array Oper) (S : World → Prop) (R C : List (List Nat)) (Rel : World → World → Prop) (m : Nat) (V : (Nat → Value) → List VP) (x : Nat → Value) (a0 : Act) (j : Nat) : Prop :=
 ∀ w, S w → (∀ i ∈ availR R C m j, ((V x).getD i VAny).p (x i) w) →
  wpOp P ops NoWay j (fun a' w' => ∃ v, (∀ d, dstOf ops j = some d → a'.tmps[d]? = some v) ∧ a'.defers = a0.defers ∧ ((V x).getD j VAny).p v w' ∧ StepR C Rel j w w') (putS ops x a0 j) w
theorem tasks_goR {m : Nat} {Rel : World → World → Prop} {R C : List (List Nat)} {V : (Nat → Value) → List VP} {S : World → Prop} {a0 : Act} (hok : tasksOk ops m a0.tmps.size R = true)
    (hdep : ∀ x x' j, (∀ i ∈ R.getD j [], x i = x' i) → (V x).getD j VAny = (V x').getD j VAny) (hweak : ∀ i, i < m → (C.getD i []).isEmpty = false → ∀ k, k < m → k ≠ i → i ∉ R.getD k [] → k ∉ C.getD i [] → ∀ x v w w', ((V x).getD k VAny).p v w → Rel w w' → ((V x).getD k VAny).p v w') (hSt : ∀ j w w', S w → StepR C Rel j w w' → S w') (hob : ∀ x j, j < m → ObR P ops S R C Rel m V x a0 j)
    (hend : ∀ x w', S w' → (∀ i ∈ endR C m, ((V x).getD i VAny).p (x i) w') → wpAny P .any ops Q (ops.size - m) (listedTo ops.size m) (putS ops x a0 m) w') :
    ∀ (c : Nat) (U : List Nat) (listed : Array Bool) (w : World) (x : Nat → Value), U.length = c → U.Nodup → (∀ i, i ∈ U ↔ i < m ∧ listed.getD i false = false) → listed.size = ops.size →
     (∀ i, m ≤ i → i < ops.size → listed.getD i false = false) → (∀ (j : Nat) (o : Oper), ops[j]? = some o → listed.getD j false = true → ∀ e ∈ o.after, Region.binds .any e = true → listed.getD e.on false = true) →
     S w → (∀ i, i < m → listed.getD i false = true → (∀ j, j < m → i ∈ C.getD j [] → listed.getD j false = false) → ((V x).getD i VAny).p (x i) w) → wpAny P .any ops Q (ops.size - m + c) listed (putD ops (fun i => listed.getD i false) x a0 m) w := by
 obtain ⟨hmn, hspec, htail⟩ := tasks_spec hok
 have hsel : Region.noSelect ops = true := by unfold tasksOk at hok; simp only [Bool.and_eq_true] at hok; exact hok.1.1
 intro c
 induction c with
 | zero =>
  intro U listed w x hU hnd hmem hsz hun hcl hS hV
  obtain rfl : U = [] := List.eq_nil_of_length_eq_zero hU
  have hall : ∀ i, i < m → listed.getD i false = true := fun i hi => by
   cases h : listed.getD i false
   · exact absurd ((hmem i).2 ⟨hi, h⟩) (by simp)
   · rfl
  have hl : listed = listedTo ops.size m := by
   apply Array.ext
   · simp [listedTo, hsz]
   · intro i h1 h2
     have e : listed.getD i false = listed[i] := by simp [Array.getD, h1]
     by_cases hi : i < m
     · have := hall i hi
       rw [e] at this
       simp [listedTo, this, hi]
     · have := hun i (by omega) (by omega)
       rw [e] at this
       simp [listedTo, this, hi]
  rw [Nat.add_zero, putD_congr (ops := ops) _ (fun _ => true) x x a0 m (fun i hi => ⟨hall i hi, fun _ => rfl⟩), hl]
  exact hend x w hS (fun i hi => hV i (endR_spec.1 hi).1 (hall i (endR_spec.1 hi).1) (fun j hj hc => absurd hc ((endR_spec.1 hi).2 j hj)))
 | succ c ih =>
  intro U listed w x hU hnd hmem hsz hun hcl hS hV
  have hne : U ≠ [] := fun e => by rw [e] at hU; simp at hU
  show (_ → _) ∧ _
  refine ⟨fun hr => ?_, fun i hi => ?_⟩
  · exfalso
    obtain ⟨i, hiU, hmin⟩ := min_mem U hne
    obtain ⟨him, hil⟩ := (hmem i).1 hiU
    have hlt : i < ops.size := by omega
    have : i ∈ Region.ready .any ops listed := mem_ready.2 ⟨by simpa [Array.getD, hsz, hlt] using hil, _, Array.getElem?_eq_getElem hlt, fun e he hb => by
     have hlti := (hspec i _ (Array.getElem?_eq_getElem hlt) him).1 e he hb
     cases h : listed.getD e.on false
     · have := hmin e.on ((hmem _).2 ⟨by omega, h⟩); omega
     · rfl⟩
    rw [hr] at this
    cases this
  · obtain ⟨hil, o, ho, hdeps⟩ := mem_ready.1 hi
    have hlt : i < ops.size := (Array.getElem?_eq_some_iff.1 ho).1
    have hil' : listed.getD i false = false := by simpa [Array.getD, hsz, hlt] using hil
    have hreach := listed_reach hok (fun i => listed.getD i false) hcl i o ho hdeps
    have him : i < m := by
     rcases Nat.lt_or_ge i m with h | h
     · exact h
     · exfalso
       obtain ⟨k, hk⟩ := List.exists_mem_of_ne_nil U hne
       obtain ⟨hkm, hkl⟩ := (hmem k).1 hk
       have := hreach k (htail i hlt h k hkm)
       rw [hkl] at this; cases this
    obtain ⟨_, ⟨d, hd, hdsz, hduniq⟩, hlook⟩ := hspec i o ho him
    have hdst : dstOf ops i = some d := by simp [dstOf, ho, hd]
    have hso : ∀ cs b, o.op ≠ .select cs b := fun cs b => Region.noSelect_spec hsel i o cs b ho
    -- the two frames agree on what o looks at
    have hagree : ∀ t ∈ o.looksAt ops, (putD ops (fun i => listed.getD i false) x a0 m).tmps[t]? = (putS ops x a0 i).tmps[t]? := fun t ht => by
     by_cases hex : ∃ k, k < m ∧ dstOf ops k = some t
     · obtain ⟨k, hkm, hkd⟩ := hex
       have hkR := hlook t ht k hkm hkd
       have hki := reach_lt hok i hlt k hkR
       have hkl := hreach k hkR
       have hks : k < ops.size := by omega
       obtain ⟨_, ⟨d', hd', hdsz', hu'⟩, _⟩ := hspec k _ (Array.getElem?_eq_getElem hks) hkm
       have htd : d' = t := by
        have : dstOf ops k = some d' := by simp [dstOf, Array.getElem?_eq_getElem hks, hd']
        rw [hkd] at this; injection this with this; exact this.symm
       rw [putD_at _ _ _ _ k hkd hkl (htd ▸ hdsz') m hkm (fun l hl hlk => htd ▸ hu' l hl hlk)]
       unfold putS
       rw [putD_at _ _ _ _ k hkd rfl (htd ▸ hdsz') i hki (fun l hl hlk => htd ▸ hu' l (by omega) hlk)]
     · rw [putD_other _ _ _ _ m (fun k hk hkd => absurd ⟨k, hk, hkd⟩ hex)]
       unfold putS
       rw [putD_other _ _ _ _ i (fun k hk hkd => absurd ⟨k, by omega, hkd⟩ hex)]
    have hob' := hob x i him w hS (fun k hk => by
     obtain ⟨hkR, hkC⟩ := availR_spec.1 hk
     refine hV k (by have := reach_lt hok i hlt k hkR; omega) (hreach k hkR) (fun j hj hc => ?_)
     rcases hkC j hj hc with rfl | hij
     · exact hil'
     · cases hjl : listed.getD j false
       · rfl
       · have hjs : j < ops.size := by omega
         have := listed_reach hok (fun i => listed.getD i false) hcl j _ (Array.getElem?_eq_getElem hjs) (hcl j _ (Array.getElem?_eq_getElem hjs) hjl) i hij
         rw [hil'] at this; cases this)
    have hsz1 := putD_size (ops := ops) (fun _ => true) x a0 i
    -- what comes behind
    have next : ∀ v w', ((V x).getD i VAny).p v w' → StepR C Rel i w w' → wpAny P .any ops Q (ops.size - m + c) (listed.setIfInBounds i true) ((putD ops (fun i => listed.getD i false) x a0 m).put (some d) v) w' := fun v w' hv hb => by
     have hput := putD_put (ops := ops) (fun k => listed.getD k false) (fun k => (listed.setIfInBounds i true).getD k false) x (fun k => if k = i then v else x k) a0 i hil'
      (by simp [hsz, hlt]) (fun k hk => ⟨by rw [getD_set_ne _ (Ne.symm hk)], by simp [hk]⟩) m him
      (fun d' k hk hki hd' => by rw [hdst] at hd'; injection hd' with hd'; exact hd' ▸ hduniq k hk hki)
     simp only [if_true] at hput
     rw [← hdst, hput]
     refine ih (U.erase i) _ _ _ ?_ (hnd.erase _) (fun k => ?_) (by simpa using hsz) (fun k h1 h2 => ?_) (fun j oj hoj hj e he hb' => ?_) (hSt i _ _ hS hb) (fun k hk hkl hcons => ?_)
     · rw [List.length_erase_of_mem ((hmem i).2 ⟨him, hil'⟩), hU]; rfl
     · rw [hnd.mem_erase_iff, hmem]
       by_cases hk : k = i
       · subst hk; simp [hsz, hlt]
       · rw [getD_set_ne _ (Ne.symm hk)]; simp [hk]
     · rw [getD_set_ne _ (by omega)]; exact hun k h1 h2
     · by_cases hji : j = i
       · subst hji
         rw [ho] at hoj; injection hoj with hoj; subst hoj
         exact getD_set_true (hdeps e he hb')
       · rw [getD_set_ne _ (Ne.symm hji)] at hj
         exact getD_set_true (hcl j oj hoj hj e he hb')
     · by_cases hki : k = i
       · subst hki
         rw [hdep _ x k (fun l hl => by have := reach_lt hok k hlt l hl; simp only [show l ≠ k by omega, if_false])]
         simpa using hv
       · rw [getD_set_ne _ (Ne.symm hki)] at hkl
         have hks : k < ops.size := by omega
         have hdk : (V fun l => if l = i then v else x l).getD k VAny = (V x).getD k VAny := hdep _ x k (fun l hl => by
          have hll := listed_reach hok (fun i => listed.getD i false) hcl k _ (Array.getElem?_eq_getElem hks) (hcl k _ (Array.getElem?_eq_getElem hks) hkl) l hl
          have hne : l ≠ i := fun e => by rw [e] at hll; rw [hil'] at hll; cases hll
          simp only [hne, if_false])
         simp only [hki, if_false]
         rw [hdk]
         have hb0 : ∀ j, j < m → k ∈ C.getD j [] → listed.getD j false = false := fun j hj hc => by
          have h1 := hcons j hj hc
          by_cases hji : j = i
          · rw [hji]; exact hil'
          · rwa [getD_set_ne _ (Ne.symm hji)] at h1
         have hkC : k ∉ C.getD i [] := fun hc => by
          have h1 := hcons i him hc
          simp [hsz, hlt] at h1
         have hiR : i ∉ R.getD k [] := fun hik => by
          have := listed_reach hok (fun i => listed.getD i false) hcl k _ (Array.getElem?_eq_getElem hks) (hcl k _ (Array.getElem?_eq_getElem hks) hkl) i hik
          rw [hil'] at this; cases this
         cases he : (C.getD i []).isEmpty
         · replace hb : Rel w w' := by unfold StepR at hb; rw [he] at hb; exact hb
           exact hweak i him he k hk hki hiR hkC x _ _ _ (hV k hk hkl hb0) hb
         · replace hb : Below w.heap.size w w' := by unfold StepR at hb; rw [he] at hb; exact hb
           exact ((V x).getD k VAny).st _ _ _ (hV k hk hkl hb0) hb
    unfold wpOp at hob' ⊢
    simp only [ho] at hob' ⊢
    rw [wanted_same hagree]
    split
    · rename_i hw
      rw [if_pos hw] at hob'
      rcases hob' with h | ⟨_, h⟩
      case inr => exact absurd h NoWay.lets
      refine .inl (Oper.wp_mono ?_ (wp_move (Q := Q) (d := d) (R := fun v w' => ((V x).getD i VAny).p v w' ∧ StepR C Rel i w w') (exec_same hso hagree) hd (by unfold putS; rw [hsz1.1]; exact hdsz)
       (Oper.wp_mono (fun a' w' ⟨v, h1, h2, h3, h4⟩ => ⟨v, h1 d hdst, by unfold putS; rw [hsz1.2]; exact h2, h3, h4⟩) h)))
      rintro a' w' ⟨v, rfl, hv, hb⟩
      exact next v w' hv hb
    · rename_i hw
      rw [if_neg hw] at hob'
      obtain ⟨v, h1, _, h3, h4⟩ := hob'
      have hvu : v = undef := by
       have := h1 d hdst
       rw [hd] at this
       simp [Act.put, putS, hsz1.1, hdsz] at this
       exact this.symm
      rw [hd]
      exact next undef w (hvu ▸ h3) h4
/-- **A region that draws its order**: each of its first m operations is shown once; what is left behind them goes on. -/
theorem wp_tasksR {id m : Nat} {Rel : World → World → Prop} (R C : List (List Nat)) (V : (Nat → Value) → List VP) (S : World → Prop) {a0 : Act} {w : World} (hm : P.follows .mixedOrders = true) (hok : tasksOk ops m a0.tmps.size R = true)
    (hdep : ∀ x x' j, (∀ i ∈ R.getD j [], x i = x' i) → (V x).getD j VAny = (V x').getD j VAny) (hweak : ∀ i, i < m → (C.getD i []).isEmpty = false → ∀ k, k < m → k ≠ i → i ∉ R.getD k [] → k ∉ C.getD i [] → ∀ x v w w', ((V x).getD k VAny).p v w → Rel w w' → ((V x).getD k VAny).p v w') (hS0 : S w.drew) (hSt : ∀ j w w', S w → StepR C Rel j w w' → S w') (hob : ∀ x j, j < m → ObR P ops S R C Rel m V x a0 j)
    (hend : ∀ x w', S w' → (∀ i ∈ endR C m, ((V x).getD i VAny).p (x i) w') → wpAny P .any ops Q (ops.size - m) (listedTo ops.size m) (putS ops x a0 m) w') : (Code.region id ops true).wp P Q a0 w := by
 have hmn := (tasks_spec hok).1
 have hf : ∀ i, (Array.replicate ops.size false).getD i false = false := fun i => by simp [Array.getD]
 have h := tasks_goR (Q := Q) hok hdep hweak hSt hob hend m (List.range m) (Array.replicate ops.size false) w.drew (fun _ => undef) (by simp) List.nodup_range (fun i => by rw [hf]; simp) (by simp) (fun i _ _ => hf i) (fun j o _ hj => by rw [hf] at hj; cases hj) hS0
  (fun i _ hi => by rw [hf] at hi; cases hi)
 refine wp_region_any hm ?_
 rw [show ops.size - m + m = ops.size by omega, putD_congr (ops := ops) _ (fun _ => false) _ (fun _ => undef) a0 m (fun i _ => ⟨hf i, fun _ => rfl⟩)] at h
 have e : ∀ n, putD ops (fun _ => false) (fun _ => undef) a0 n = a0 := fun n => by
  induction n with
  | zero => rfl
  | succ n ih => unfold putD; simpa using ih
 rw [e] at h
 exact h
/-- What is to be shown, operation by operation, in the text's order; the frame goes along. -/
def ObsR (P : Program) (ops : Array Oper) (Q : Exit → Act → World → Prop) (S : World → Prop) (R C : List (List Nat)) (Rel : World → World → Prop) (m : Nat) (V : (Nat → Value) → List VP) (x : Nat → Value) : Nat → Nat → Act → Prop
 | 0, j, a => ∀ w, S w → (∀ i ∈ endR C m, ((V x).getD i VAny).p (x i) w) → wpAny P .any ops Q (ops.size - j) (listedTo ops.size j) a w
 | r + 1, j, a => (∀ w, S w → (∀ i ∈ availR R C m j, ((V x).getD i VAny).p (x i) w) →
     wpOp P ops NoWay j (fun a' w' => ∃ v, (∀ d, dstOf ops j = some d → a'.tmps[d]? = some v) ∧ a'.defers = a.defers ∧ ((V x).getD j VAny).p v w' ∧ StepR C Rel j w w') a w) ∧
  ObsR P ops Q S R C Rel m V x r (j + 1) (a.put (dstOf ops j) (x j))
theorem obs_allR {S : World → Prop} {R C : List (List Nat)} {Rel : World → World → Prop} {m : Nat} {V : (Nat → Value) → List VP} {x : Nat → Value} {a0 : Act} : ∀ (r j : Nat), ObsR P ops Q S R C Rel m V x r j (putS ops x a0 j) →
    (∀ k, j ≤ k → k < j + r → ObR P ops S R C Rel m V x a0 k) ∧ ∀ w, S w → (∀ i ∈ endR C m, ((V x).getD i VAny).p (x i) w) → wpAny P .any ops Q (ops.size - (j + r)) (listedTo ops.size (j + r)) (putS ops x a0 (j + r)) w := by
 intro r
 induction r with
 | zero => intro j h; exact ⟨fun k h1 h2 => by omega, h⟩
 | succ r ih =>
  intro j h
  obtain ⟨h1, h2⟩ := h
  have h2' : ObsR P ops Q S R C Rel m V x r (j + 1) (putS ops x a0 (j + 1)) := h2
  obtain ⟨h3, h4⟩ := ih (j + 1) h2'
  refine ⟨fun k hk1 hk2 => ?_, by rw [show j + (r + 1) = j + 1 + r by omega]; exact h4⟩
  by_cases hk : k = j
  · subst hk
    intro w hS hV
    have h := h1 w hS hV
    rw [show (putS ops x a0 k).defers = a0.defers from (putD_size _ _ _ _).2] at h
    exact h
  · exact h3 k (by omega) (by omega)
theorem wp_obsR {id : Nat} (m : Nat) (Rel : World → World → Prop) (R C : List (List Nat)) (V : (Nat → Value) → List VP) (S : World → Prop) {a0 : Act} {w : World} (hm : P.follows .mixedOrders = true) (hok : tasksOk ops m a0.tmps.size R = true)
    (hdep : ∀ x x' j, (∀ i ∈ R.getD j [], x i = x' i) → (V x).getD j VAny = (V x').getD j VAny) (hweak : ∀ i, i < m → (C.getD i []).isEmpty = false → ∀ k, k < m → k ≠ i → i ∉ R.getD k [] → k ∉ C.getD i [] → ∀ x v w w', ((V x).getD k VAny).p v w → Rel w w' → ((V x).getD k VAny).p v w') (hSt : ∀ j w w', S w → StepR C Rel j w w' → S w') (hS0 : S w.drew) (h : ∀ x, ObsR P ops Q S R C Rel m V x m 0 a0) : (Code.region id ops true).wp P Q a0 w :=
 wp_tasksR (m := m) (Rel := Rel) R C V S hm hok hdep hweak hS0 hSt (fun x j hj => (obs_allR m 0 (h x)).1 j (by omega) (by omega)) (fun x w' hS hV => by
  have := (obs_allR m 0 (h x)).2 w' hS (hV)
  rwa [Nat.zero_add] at this)
theorem obs_stepR {S : World → Prop} {R C : List (List Nat)} {Rel : World → World → Prop} {m : Nat} {V : (Nat → Value) → List VP} {x : Nat → Value} {r j : Nat} {a : Act} {o : Oper} {d : Tmp} (ho : ops[j]? = some o) (hd : o.dst = some d)
    (h : ∀ w, S w → (∀ i ∈ availR R C m j, ((V x).getD i VAny).p (x i) w) → ∀ K : Act → World → Prop, Shut (∀ a' w' v, a'.tmps[d]? = some v → a'.defers = a.defers → ((V x).getD j VAny).p v w' → StepR C Rel j w w' → K a' w') →
     if Region.wanted o (yielded ops a.tmps) = true then Oper.wp P o a w K NoWay else K (a.put o.dst undef) w)
    (hr : ObsR P ops Q S R C Rel m V x r (j + 1) { a with tmps := a.tmps.setIfInBounds d (x j) }) : ObsR P ops Q S R C Rel m V x (r + 1) j a := by
 have hdst : dstOf ops j = some d := by simp [dstOf, ho, hd]
 refine ⟨fun w hS hV => wpOp_step ho (fun K hK => ?_), by rw [hdst]; exact hr⟩
 exact h w hS hV K (fun a' w' v h1 h2 h3 h4 => hK a' w' ⟨v, fun d' hd' => by rw [hdst] at hd'; injection hd' with hd'; exact hd' ▸ h1, h2, h3, h4⟩)
/-- A step, its listing read by itself. -/
theorem zSR {S : World → Prop} {R C : List (List Nat)} {Rel : World → World → Prop} {m : Nat} {V : (Nat → Value) → List VP} {x : Nat → Value} {r j : Nat} {a a' : Act} {o : Oper} {d : Tmp}
    (h : ∀ w, S w → (∀ i ∈ availR R C m j, ((V x).getD i VAny).p (x i) w) → ∀ K : Act → World → Prop, Shut (∀ a' w' v, a'.tmps[d]? = some v → a'.defers = a.defers → ((V x).getD j VAny).p v w' → StepR C Rel j w w' → K a' w') →
     if Region.wanted o (yielded ops a.tmps) = true then Oper.wp P o a w K NoWay else K (a.put o.dst undef) w)
    (hr : ObsR P ops Q S R C Rel m V x r (j + 1) a') (ho : ops[j]? = some o := by exact Eq.trans (by simp only [zA, zB, zC]; exact rfl) rfl) (hd : o.dst = some d := by exact rfl)
    (ha : { a with tmps := a.tmps.setIfInBounds d (x j) } = a' := by simp only [zD, zE, zF]; exact rfl) : ObsR P ops Q S R C Rel m V x (r + 1) j a := by
 subst ha
 exact obs_stepR ho hd h hr
/-- Those that bear an append in place: their values are plain. -/
theorem weak_ofR {m : Nat} {Rel : World → World → Prop} {R C : List (List Nat)} {V : (Nat → Value) → List VP} (Wk : List Nat)
    (hchk : ((List.range m).all fun i => (C.getD i []).isEmpty || (List.range m).all fun k => k == i || (R.getD k []).contains i || (C.getD i []).contains k || Wk.contains k) = true)
    (hW : ∀ k ∈ Wk, ∀ x v w w', ((V x).getD k VAny).p v w → Rel w w' → ((V x).getD k VAny).p v w') :
    ∀ i, i < m → (C.getD i []).isEmpty = false → ∀ k, k < m → k ≠ i → i ∉ R.getD k [] → k ∉ C.getD i [] → ∀ x v w w', ((V x).getD k VAny).p v w → Rel w w' → ((V x).getD k VAny).p v w' := by
 intro i hi he k hk hne hR hC x v w w' hp hrel
 have h1 := List.all_eq_true.1 hchk i (List.mem_range.2 hi)
 rw [he, Bool.false_or] at h1
 have h2 := List.all_eq_true.1 h1 k (List.mem_range.2 hk)
 rw [Bool.or_eq_true, Bool.or_eq_true, Bool.or_eq_true, beq_iff_eq, List.contains_iff_mem, List.contains_iff_mem, List.contains_iff_mem] at h2
 rcases h2 with ((h2 | h2) | h2) | h2
 · exact absurd h2 hne
 · exact absurd h2 hR
 · exact absurd h2 hC
 · exact hW k h2 x v w w' hp hrel
end
theorem and_small (x : Int) : 0 ≤ bits BinOp.and IntKind.u64 x 16777215 ∧ bits BinOp.and IntKind.u64 x 16777215 ≤ 16777215 := by
 unfold bits
 simp only
 have h : (BitVec.ofInt IntKind.u64.bits x &&& BitVec.ofInt IntKind.u64.bits 16777215).toNat ≤ 16777215 := by
  rw [BitVec.toNat_and]
  exact Nat.le_trans Nat.and_le_right (by decide)
 obtain ⟨r, hr⟩ : ∃ r, r = (BitVec.ofInt IntKind.u64.bits x &&& BitVec.ofInt IntKind.u64.bits 16777215).toNat := ⟨_, rfl⟩
 rw [← hr] at h ⊢
 have e : IntKind.u64.wrap ((r : Nat) : Int) = (r : Int) := by
  have e1 : IntKind.u64.wrap ((r : Nat) : Int) = ((r : Nat) : Int) % 18446744073709551616 := rfl
  rw [e1]; omega
 rw [e]
 omega
/-- A source: a code, a place in it, a number. -/
def Src (w : World) (g : Nat) (T : TypeId) : Prop := ∃ (B : Option Addr) (nb cb : Nat) (bs : List Int) (pl : Nat) (h : Int), Blk w g T #[.slice B nb cb, .int .i64 pl, .int .u64 h] ∧ Rd w B nb (bs.map (Value.int .u8)) ∧ (∀ b ∈ bs, 0 ≤ b ∧ b < 256) ∧ pl ≤ nb ∧ nb ≤ 4096 ∧ ∀ a, B = some a → a.block < g
/-- What drawing leaves as it was: all but the source's own block. -/
structure Dr (g : Nat) (T : TypeId) (w w' : World) : Prop where
 s : Src w g T
 s' : Src w' g T
 b : Below g w w'
 k : ∀ k, k < w.heap.size → k ≠ g → w'.heap[k]? = w.heap[k]?
theorem Blk.three {w : World} {g : Nat} {t : TypeId} {a b c : Value} (h : Blk w g t #[a, b, c]) : w.cell? ⟨g, 0, none⟩ = some a ∧ w.cell? ⟨g, 1, none⟩ = some b ∧ w.cell? ⟨g, 2, none⟩ = some c := ⟨h.cell 0, h.cell 1, h.cell 2⟩
theorem Src.lt {w : World} {g : Nat} {T : TypeId} (h : Src w g T) : g < w.heap.size := by obtain ⟨B, nb, cb, bs, pl, x, k, _⟩ := h; exact k.lt
theorem Src.keep {w w' : World} {g : Nat} {T : TypeId} (h : Src w g T) (hk : w'.heap[g]? = w.heap[g]?) (hb : Below g w w') : Src w' g T := by
 obtain ⟨B, nb, cb, bs, pl, x, k, r, h1, h2, h3, h4⟩ := h
 refine ⟨B, nb, cb, bs, pl, x, hk.trans k, ⟨r.1, fun hn0 => ?_⟩, h1, h2, h3, h4⟩
 obtain ⟨gb, ob, e, hc⟩ := r.2 hn0
 exact ⟨gb, ob, e, fun j u hu => (hb.cell (show gb < g from h4 _ e)).trans (hc j u hu)⟩
theorem Src.below {w w' : World} {g : Nat} {T : TypeId} (h : Src w g T) (hb : Below w.heap.size w w') : Src w' g T := by
 obtain ⟨B, nb, cb, bs, pl, x, k, r, rest⟩ := h
 exact ⟨B, nb, cb, bs, pl, x, k.below hb k.lt, r.below hb, rest⟩
theorem Dr.refl {w : World} {g : Nat} {T : TypeId} (h : Src w g T) : Dr g T w w := ⟨h, h, Below.refl _ _, fun _ _ _ => rfl⟩
theorem Dr.of_below {w w' : World} {g : Nat} {T : TypeId} (h : Src w g T) (hb : Below w.heap.size w w') : Dr g T w w' := ⟨h, h.below hb, hb.mono (Nat.le_of_lt h.lt), fun k hk _ => hb.block k hk⟩
theorem Dr.trans {w w1 w2 : World} {g : Nat} {T : TypeId} (h : Dr g T w w1) (h' : Dr g T w1 w2) : Dr g T w w2 :=
 ⟨h.s, h'.s', h.b.trans h'.b, fun k hk hne => (h'.k k (Nat.lt_of_lt_of_le hk h.b.size) hne).trans (h.k k hk hne)⟩
theorem Dr.size {w w' : World} {g : Nat} {T : TypeId} (h : Dr g T w w') : w.heap.size ≤ w'.heap.size := h.b.size
theorem Blk.dr {w w' : World} {g g' : Nat} {T t : TypeId} {cs : Array Value} (h : Blk w g' t cs) (d : Dr g T w w') (hne : t ≠ T) : Blk w' g' t cs := by
 refine (d.k g' h.lt fun e => ?_).trans h
 subst e
 obtain ⟨B, nb, cb, bs, pl, x, k, _⟩ := d.s
 unfold Blk at h k
 rw [h] at k
 injection k with k
 injection k with _ e
 exact hne e
theorem Own.dr {w w' : World} {g : Nat} {T E : TypeId} {B : Nat} {A : Option Addr} {n c : Nat} {us : List Value} (h : Own w B E A n c us) (d : Dr g T w w') (hne : E ≠ T) : Own w' B E A n c us := by
 obtain ⟨B', nb, cb, bs, pl, x, k, _⟩ := d.s
 have hn := h.ne_blk k hne
 refine ⟨h.1, ?_⟩
 rcases h.2 with hz | ⟨g', cap, cur, he, hB, hg, r⟩
 · exact .inl hz
 · refine .inr ⟨g', cap, cur, he, hB, (d.k g' (Array.getElem?_eq_some_iff.1 hg).1 fun e => hn ?_).trans hg, r⟩
   rw [he, ← e]; rfl
theorem Dr.set {w : World} {g : Nat} {T : TypeId} {B : Option Addr} {nb cb : Nat} {bs : List Int} {pl pl' : Nat} {h h' : Int} (k : Blk w g T #[.slice B nb cb, .int .i64 pl, .int .u64 h]) (r : Rd w B nb (bs.map (Value.int .u8))) (hbs : ∀ b ∈ bs, 0 ≤ b ∧ b < 256) (hpl : pl ≤ nb) (hnb : nb ≤ 4096) (hbg : ∀ a, B = some a → a.block < g)
    (i : Nat) (u : Value) (e : (#[.slice B nb cb, .int .i64 pl, .int .u64 h] : Array Value).setIfInBounds i u = #[.slice B nb cb, .int .i64 pl', .int .u64 h']) (hpl' : pl' ≤ nb) :
    Dr g T w (w.setCell ⟨g, i, none⟩ u) ∧ Blk (w.setCell ⟨g, i, none⟩ u) g T #[.slice B nb cb, .int .i64 pl', .int .u64 h'] ∧ Rd (w.setCell ⟨g, i, none⟩ u) B nb (bs.map (Value.int .u8)) := by
 have k1 := k.set_ i u
 rw [e] at k1
 have hfar : ∀ b, b ≠ g → (w.setCell ⟨g, i, none⟩ u).heap[b]? = w.heap[b]? := fun b hb => Below.heap_setCell w ⟨g, i, none⟩ _ b hb
 have hr : Rd (w.setCell ⟨g, i, none⟩ u) B nb (bs.map (Value.int .u8)) := ⟨r.1, fun hn0 => by
  obtain ⟨gb, ob, e, hc⟩ := r.2 hn0
  refine ⟨gb, ob, e, fun j u hu => ?_⟩
  have hcj := hc j u hu
  have hlt := hbg _ e
  exact (World.cell?_of_block (hfar gb (fun e => by simp at hlt; omega))).trans hcj⟩
 exact ⟨⟨⟨B, nb, cb, bs, pl, h, k, r, hbs, hpl, hnb, hbg⟩, ⟨B, nb, cb, bs, pl', h', k1, hr, hbs, hpl', hnb, hbg⟩, zG.setCell (p := ⟨g, i, none⟩) (Nat.le_refl _) _, fun b _ hb => hfar b hb⟩, k1, hr⟩
theorem Dr.alloc {w w' : World} {g : Nat} {T : TypeId} (h : Dr g T w w') (o : Obj) : Dr g T w (w'.alloc o) := h.trans (Dr.of_below h.s' (zG.alloc (Nat.le_refl _) o))
theorem Dr.then {w w1 w2 : World} {g : Nat} {T : TypeId} (h : Dr g T w w1) (hb : Below w1.heap.size w1 w2) : Dr g T w w2 := h.trans (Dr.of_below h.s' hb)
/-- A row made since then grows. -/
theorem Dr.grown {w wr w' : World} {g : Nat} {T E : TypeId} {A : Option Addr} {n c : Nat} {us : List Value} (d : Dr g T w wr) (o : Own wr w.heap.size E A n c us) (hg : wr.grownBy w' (Value.slice A n c).ownBlock) : Dr g T w w' := by
 have hlt := d.s.lt
 have hrow : ∀ k, (Value.slice A n c).ownBlock = some k → w.heap.size ≤ k := fun k hk => (World.ownsRow.lt o k hk).1
 have hb : Below g wr w' := (Below.refl g wr).grown hg (Nat.le_of_lt (Nat.lt_of_lt_of_le hlt d.size)) fun k hk => Nat.le_trans (Nat.le_of_lt hlt) (hrow k hk)
 exact ⟨d.s, d.s'.keep (hg.block g (Nat.lt_of_lt_of_le hlt d.size) fun e => by have := hrow g e.symm; omega) hb, d.b.trans hb,
  fun k hk hne => (hg.block k (Nat.lt_of_lt_of_le hk d.size) fun e => by have := hrow k e.symm; omega).trans (d.k k hk hne)⟩
set_option maxHeartbeats 1600000 in
set_option maxRecDepth 8000 in
theorem below_any (g : Nat) (n : Int) (w : World) (hs : Src w g 100) (hn : n ≤ 4611686018427387904) :
    Calls Tryz.prog 26 #[.pointer (some ⟨g, 0, none⟩), .int .i64 n] w fun e w' => ∃ r : Int, e = .returned (.int .i64 r) ∧ 0 ≤ r ∧ (1 ≤ n → r < n) ∧ Dr g 100 w w' := by
 by_cases h1 : n < 1
 · have d1 : decide (n < 1) = true := by simpa using h1
   go_enter Tryz.func26, Tryz.ntmps26
   go_wp2
   go_ret
   exact ⟨0, rfl, by omega, fun h => by omega, Dr.refl hs⟩
 · have d1 : decide (n < 1) = false := by simpa using h1
   obtain ⟨B, nb, cb, bs, pl, h, k, r, hbs, hpl, hnb, hbg⟩ := id hs
   have q0 : w.cell? ⟨g, 0, none⟩ = some (.slice B nb cb) := k.cell 0
   have q1 : w.cell? ⟨g, 1, none⟩ = some (.int .i64 pl) := k.cell 1
   have q2 : w.cell? ⟨g, 2, none⟩ = some (.int .u64 h) := k.cell 2
   have f2 := k.frozen 2
   go_enter Tryz.func26, Tryz.ntmps26
   go_wp2
   obtain ⟨H, hH⟩ : ∃ H, H = IntKind.u64.wrap (IntKind.u64.wrap (h * 6364136223846793005) + 1442695040888963407) := ⟨_, rfl⟩
   rw [← hH]
   have hsm := and_small (H / 8589934592)
   obtain ⟨X, hX⟩ : ∃ X, X = bits BinOp.and IntKind.u64 (H / 8589934592) 16777215 := ⟨_, rfl⟩
   rw [← hX] at hsm ⊢
   have W1 : wrap64 X = X := by unfold wrap64; omega
   rw [W1]
   obtain ⟨x1, x2⟩ := hsm
   obtain ⟨hd1, k1, r1⟩ := Dr.set k r hbs hpl hnb hbg 2 (.int .u64 H) (pl' := pl) (h' := H) (by simp) hpl
   clear q0 q1 q2 f2 hX
   obtain ⟨w1, hw1⟩ : ∃ W, W = w.setCell ⟨g, 2, none⟩ (.int .u64 H) := ⟨_, rfl⟩
   rw [← hw1] at k1 r1 hd1 ⊢
   have hN0 : (n == 0) = false := by simp; omega
   have hN1 : (n == -1) = false := by simp; omega
   have hN2 : ¬ n = 0 := by omega
   have HD := Lib.hid hd1
   have HBS := Lib.hid hbs
   have HBG := Lib.hid hbg
   have HR1 := Lib.hid r1
   clear hw1 hH hd1 r k hbg
   by_cases hpn : pl < nb
   · have dl : decide ((pl : Int) < (nb : Int)) = true := by simp; omega
     obtain ⟨gb, ob, rfl, hc⟩ := r1.2 (by omega)
     have hbl : pl < bs.length := by have := r1.1; rw [List.length_map] at this; omega
     have hcb := hc pl (.int .u8 bs[pl]) (by simp [hbl])
     obtain ⟨b1, b2⟩ := hbs _ (List.getElem_mem hbl)
     obtain ⟨bb, hbb⟩ : ∃ x, x = bs[pl] := ⟨_, rfl⟩
     rw [← hbb] at hcb b1 b2
     have i1 : (0 : Int) ≤ (pl : Int) := by omega
     have i2 : (pl : Int) < (nb : Int) := by omega
     have W2 : IntKind.i64.wrap bb = bb := by rw [IntWalk.i64_left]; unfold wrap64; omega
     have W4 : IntKind.i64.wrap (X + bb) = X + bb := by rw [IntWalk.i64_left]; unfold wrap64; omega
     have W5 : wrap64 ((pl : Int) + 1) = ((pl + 1 : Nat) : Int) := by unfold wrap64; omega
     have T1 := Int.tmod_eq_emod_of_nonneg (b := n) (show 0 ≤ X + bb by omega)
     clear hc hbs hbb r1
     go_wp2
     refine wp_obs 10 [[],[0],[0,1],[0,1,2],[],[4],[4,5],[4,5,6],[4,5,6,7],[0,1,2,3,4,5,6,7,8]] [VIs (.pointer (some ⟨g, 0, none⟩)), VIs (.pointer (some ⟨g, 0, none⟩)), VIs (.pointer (some ⟨g, 1, none⟩)), VIs (.int .i64 (pl)), VIs (.pointer (some ⟨g, 0, none⟩)), VIs (.pointer (some ⟨g, 0, none⟩)), VIs (.pointer (some ⟨g, 0, none⟩)), VIs (.slice (some ⟨gb, ob, none⟩) nb cb), VIs (.int .i64 (nb)), VIs (.bool true)] (fun w' => Blk w' g 100 #[.slice (some ⟨gb, ob, none⟩) nb cb, .int .i64 pl, .int .u64 H] ∧ w'.cell? ⟨gb, ob + pl, none⟩ = some (.int .u8 bb) ∧ Below w1.heap.size w1 w') (by kernel_rfl) (by kernel_rfl) (fun _ _ h hb => ⟨h.1.below hb h.1.lt, (hb.cell (World.block_lt_of_cell? _ _ h.2.1)).trans h.2.1, h.2.2.trans (hb.mono h.2.2.size)⟩) (⟨k1.drew, hcb, zG.drew⟩) (fun x => ?_)
     refine zS (fun w' hS hV K hK => ?_) ?_
     · obtain ⟨q0, q1, q2⟩ := hS.1.three; have qb := hS.2.1; go_simp; exact zO hK
     refine zS (fun w' hS hV K hK => ?_) ?_
     · have e0 := zQ hV 0; obtain ⟨q0, q1, q2⟩ := hS.1.three; have qb := hS.2.1; go_simp; exact zO hK
     refine zS (fun w' hS hV K hK => ?_) ?_
     · have e1 := zQ hV 1; obtain ⟨q0, q1, q2⟩ := hS.1.three; have qb := hS.2.1; go_simp; exact zO hK
     refine zS (fun w' hS hV K hK => ?_) ?_
     · have e2 := zQ hV 2; obtain ⟨q0, q1, q2⟩ := hS.1.three; have qb := hS.2.1; go_simp; exact zO hK
     refine zS (fun w' hS hV K hK => ?_) ?_
     · obtain ⟨q0, q1, q2⟩ := hS.1.three; have qb := hS.2.1; go_simp; exact zO hK
     refine zS (fun w' hS hV K hK => ?_) ?_
     · have e4 := zQ hV 4; obtain ⟨q0, q1, q2⟩ := hS.1.three; have qb := hS.2.1; go_simp; exact zO hK
     refine zS (fun w' hS hV K hK => ?_) ?_
     · have e5 := zQ hV 5; obtain ⟨q0, q1, q2⟩ := hS.1.three; have qb := hS.2.1; go_simp; exact zO hK
     refine zS (fun w' hS hV K hK => ?_) ?_
     · have e6 := zQ hV 6; obtain ⟨q0, q1, q2⟩ := hS.1.three; have qb := hS.2.1; go_simp; exact zO hK
     refine zS (fun w' hS hV K hK => ?_) ?_
     · have e7 := zQ hV 7; obtain ⟨q0, q1, q2⟩ := hS.1.three; have qb := hS.2.1; go_simp; exact zO hK
     refine zS (fun w' hS hV K hK => ?_) ?_
     · have e3 := zQ hV 3; have e8 := zQ hV 8; obtain ⟨q0, q1, q2⟩ := hS.1.three; have qb := hS.2.1; go_simp; exact zO hK
     refine fun w' hS hV => ?_
     have e0 := zT hV 0
     have e1 := zT hV 1
     have e2 := zT hV 2
     have e3 := zT hV 3
     have e4 := zT hV 4
     have e5 := zT hV 5
     have e6 := zT hV 6
     have e7 := zT hV 7
     have e8 := zT hV 8
     have e9 := zT hV 9
     simp only [e0, e1, e2, e3, e4, e5, e6, e7, e8, e9]
     clear e0 e1 e2 e3 e4 e5 e6 e7 e8 e9
     refine wpAny_done (by kernel_rfl) ?_ _
     obtain ⟨w2, rfl⟩ : ∃ W, W = w' := ⟨_, rfl⟩
     obtain ⟨k2, hcb2, hb2⟩ := hS
     have HR2 := Lib.hid (HR1.out.below hb2)
     have HD2 := Lib.hid (HD.out.trans (Dr.of_below HD.out.s' hb2))
     clear k1 hcb hb2
     go_wp2
     refine wp_obs 13 [[],[],[1],[1,2],[1,2,3],[],[5],[5,6],[5,6,7],[1,2,3,4,5,6,7,8],[1,2,3,4,5,6,7,8,9],[1,2,3,4,5,6,7,8,9,10],[0,1,2,3,4,5,6,7,8,9,10,11],[0,1,2,3,4,5,6,7,8,9,10,11,12]] [VIs (.int .i64 (X)), VIs (.pointer (some ⟨g, 0, none⟩)), VIs (.pointer (some ⟨g, 0, none⟩)), VIs (.pointer (some ⟨g, 0, none⟩)), VIs (.slice (some ⟨gb, ob, none⟩) nb cb), VIs (.pointer (some ⟨g, 0, none⟩)), VIs (.pointer (some ⟨g, 0, none⟩)), VIs (.pointer (some ⟨g, 1, none⟩)), VIs (.int .i64 (pl)), VIs (.pointer (some ⟨gb, ob + pl, none⟩)), VIs (.int .u8 bb), VIs (.int .i64 (bb)), VIs (.int .i64 (X + bb))] (fun w' => Blk w' g 100 #[.slice (some ⟨gb, ob, none⟩) nb cb, .int .i64 pl, .int .u64 H] ∧ w'.cell? ⟨gb, ob + pl, none⟩ = some (.int .u8 bb) ∧ Below w2.heap.size w2 w') (by kernel_rfl) (by kernel_rfl) (fun _ _ h hb => ⟨h.1.below hb h.1.lt, (hb.cell (World.block_lt_of_cell? _ _ h.2.1)).trans h.2.1, h.2.2.trans (hb.mono h.2.2.size)⟩) (⟨k2.drew, hcb2, zG.drew⟩) (fun x => ?_)
     refine zS (fun w' hS hV K hK => ?_) ?_
     · obtain ⟨q0, q1, q2⟩ := hS.1.three; have qb := hS.2.1; go_simp; exact zO hK
     refine zS (fun w' hS hV K hK => ?_) ?_
     · obtain ⟨q0, q1, q2⟩ := hS.1.three; have qb := hS.2.1; go_simp; exact zO hK
     refine zS (fun w' hS hV K hK => ?_) ?_
     · have e1 := zQ hV 1; obtain ⟨q0, q1, q2⟩ := hS.1.three; have qb := hS.2.1; go_simp; exact zO hK
     refine zS (fun w' hS hV K hK => ?_) ?_
     · have e2 := zQ hV 2; obtain ⟨q0, q1, q2⟩ := hS.1.three; have qb := hS.2.1; go_simp; exact zO hK
     refine zS (fun w' hS hV K hK => ?_) ?_
     · have e3 := zQ hV 3; obtain ⟨q0, q1, q2⟩ := hS.1.three; have qb := hS.2.1; go_simp; exact zO hK
     refine zS (fun w' hS hV K hK => ?_) ?_
     · obtain ⟨q0, q1, q2⟩ := hS.1.three; have qb := hS.2.1; go_simp; exact zO hK
     refine zS (fun w' hS hV K hK => ?_) ?_
     · have e5 := zQ hV 5; obtain ⟨q0, q1, q2⟩ := hS.1.three; have qb := hS.2.1; go_simp; exact zO hK
     refine zS (fun w' hS hV K hK => ?_) ?_
     · have e6 := zQ hV 6; obtain ⟨q0, q1, q2⟩ := hS.1.three; have qb := hS.2.1; go_simp; exact zO hK
     refine zS (fun w' hS hV K hK => ?_) ?_
     · have e7 := zQ hV 7; obtain ⟨q0, q1, q2⟩ := hS.1.three; have qb := hS.2.1; go_simp; exact zO hK
     refine zS (fun w' hS hV K hK => ?_) ?_
     · have e4 := zQ hV 4; have e8 := zQ hV 8; obtain ⟨q0, q1, q2⟩ := hS.1.three; have qb := hS.2.1; go_simp; exact zO hK
     refine zS (fun w' hS hV K hK => ?_) ?_
     · have e9 := zQ hV 9; obtain ⟨q0, q1, q2⟩ := hS.1.three; have qb := hS.2.1; go_simp; exact zO hK
     refine zS (fun w' hS hV K hK => ?_) ?_
     · have e10 := zQ hV 10; obtain ⟨q0, q1, q2⟩ := hS.1.three; have qb := hS.2.1; go_simp; exact zO hK
     refine zS (fun w' hS hV K hK => ?_) ?_
     · have e0 := zQ hV 0; have e11 := zQ hV 11; obtain ⟨q0, q1, q2⟩ := hS.1.three; have qb := hS.2.1; go_simp; exact zO hK
     refine fun w' hS hV => ?_
     have e0 := zT hV 0
     have e1 := zT hV 1
     have e2 := zT hV 2
     have e3 := zT hV 3
     have e4 := zT hV 4
     have e5 := zT hV 5
     have e6 := zT hV 6
     have e7 := zT hV 7
     have e8 := zT hV 8
     have e9 := zT hV 9
     have e10 := zT hV 10
     have e11 := zT hV 11
     have e12 := zT hV 12
     simp only [e0, e1, e2, e3, e4, e5, e6, e7, e8, e9, e10, e11, e12]
     clear e0 e1 e2 e3 e4 e5 e6 e7 e8 e9 e10 e11 e12
     refine any_one (j := 13) (by kernel_rfl) (Eq.trans (by simp only [zA, zB, zC]; exact rfl) rfl) (fun K hK => ?_)
     go_simp
     refine hK.out _ _ (wpAny_done (by kernel_rfl) ?_ _)
     obtain ⟨w3, rfl⟩ : ∃ W, W = w' := ⟨_, rfl⟩
     obtain ⟨k3, hcb3, hb3⟩ := hS
     have HR3 := Lib.hid (HR2.out.below hb3)
     have HD3 := Lib.hid (HD2.out.trans (Dr.of_below HD2.out.s' hb3))
     obtain ⟨hd4, k4, r4⟩ := Dr.set k3 HR3.out HBS.out hpl hnb HBG.out 1 (.int .i64 ((pl + 1 : Nat) : Int)) (pl' := pl + 1) (h' := H) (by simp) hpn
     have HD4 := Lib.hid (HD3.out.trans hd4)
     have q1 : w3.cell? ⟨g, 1, none⟩ = some (.int .i64 pl) := k3.cell 1
     have f1 := k3.frozen 1
     clear k2 hcb2 hb3 hd4 k4 r4
     go_wp2
     go_ret
     refine ⟨(X + bb) % n, rfl, Int.emod_nonneg _ hN2, fun hn => Int.emod_lt_of_pos _ (by omega), ?_⟩
     first
      | exact HD4.out
      | (rw [W5]; exact HD4.out)
   · have dl : decide ((pl : Int) < (nb : Int)) = false := by simp; omega
     have T1 := Int.tmod_eq_emod_of_nonneg (b := n) (show 0 ≤ X by omega)
     clear hbs r1
     go_wp2
     refine wp_obs 10 [[],[0],[0,1],[0,1,2],[],[4],[4,5],[4,5,6],[4,5,6,7],[0,1,2,3,4,5,6,7,8]] [VIs (.pointer (some ⟨g, 0, none⟩)), VIs (.pointer (some ⟨g, 0, none⟩)), VIs (.pointer (some ⟨g, 1, none⟩)), VIs (.int .i64 (pl)), VIs (.pointer (some ⟨g, 0, none⟩)), VIs (.pointer (some ⟨g, 0, none⟩)), VIs (.pointer (some ⟨g, 0, none⟩)), VIs (.slice B nb cb), VIs (.int .i64 (nb)), VIs (.bool false)] (fun w' => Blk w' g 100 #[.slice B nb cb, .int .i64 pl, .int .u64 H] ∧ Below w1.heap.size w1 w') (by kernel_rfl) (by kernel_rfl) (fun _ _ h hb => ⟨h.1.below hb h.1.lt, h.2.trans (hb.mono h.2.size)⟩) (⟨k1.drew, zG.drew⟩) (fun x => ?_)
     refine zS (fun w' hS hV K hK => ?_) ?_
     · obtain ⟨q0, q1, q2⟩ := hS.1.three; go_simp; exact zO hK
     refine zS (fun w' hS hV K hK => ?_) ?_
     · have e0 := zQ hV 0; obtain ⟨q0, q1, q2⟩ := hS.1.three; go_simp; exact zO hK
     refine zS (fun w' hS hV K hK => ?_) ?_
     · have e1 := zQ hV 1; obtain ⟨q0, q1, q2⟩ := hS.1.three; go_simp; exact zO hK
     refine zS (fun w' hS hV K hK => ?_) ?_
     · have e2 := zQ hV 2; obtain ⟨q0, q1, q2⟩ := hS.1.three; go_simp; exact zO hK
     refine zS (fun w' hS hV K hK => ?_) ?_
     · obtain ⟨q0, q1, q2⟩ := hS.1.three; go_simp; exact zO hK
     refine zS (fun w' hS hV K hK => ?_) ?_
     · have e4 := zQ hV 4; obtain ⟨q0, q1, q2⟩ := hS.1.three; go_simp; exact zO hK
     refine zS (fun w' hS hV K hK => ?_) ?_
     · have e5 := zQ hV 5; obtain ⟨q0, q1, q2⟩ := hS.1.three; go_simp; exact zO hK
     refine zS (fun w' hS hV K hK => ?_) ?_
     · have e6 := zQ hV 6; obtain ⟨q0, q1, q2⟩ := hS.1.three; go_simp; exact zO hK
     refine zS (fun w' hS hV K hK => ?_) ?_
     · have e7 := zQ hV 7; obtain ⟨q0, q1, q2⟩ := hS.1.three; go_simp; exact zO hK
     refine zS (fun w' hS hV K hK => ?_) ?_
     · have e3 := zQ hV 3; have e8 := zQ hV 8; obtain ⟨q0, q1, q2⟩ := hS.1.three; go_simp; exact zO hK
     refine fun w' hS hV => ?_
     have e0 := zT hV 0
     have e1 := zT hV 1
     have e2 := zT hV 2
     have e3 := zT hV 3
     have e4 := zT hV 4
     have e5 := zT hV 5
     have e6 := zT hV 6
     have e7 := zT hV 7
     have e8 := zT hV 8
     have e9 := zT hV 9
     simp only [e0, e1, e2, e3, e4, e5, e6, e7, e8, e9]
     clear e0 e1 e2 e3 e4 e5 e6 e7 e8 e9
     refine wpAny_done (by kernel_rfl) ?_ _
     obtain ⟨w2, rfl⟩ : ∃ W, W = w' := ⟨_, rfl⟩
     obtain ⟨k2, hb2⟩ := hS
     have HD2 := Lib.hid (HD.out.trans (Dr.of_below HD.out.s' hb2))
     clear k1 hb2 k2
     go_wp2
     go_ret
     exact ⟨X % n, rfl, Int.emod_nonneg _ hN2, fun hn => Int.emod_lt_of_pos _ (by omega), HD2.out⟩
/-- A world of the first B blocks. -/
def cutW (w : World) (B : Nat) : World := { w with heap := w.heap.extract 0 B }
theorem cutW_size {w : World} {B : Nat} (h : B ≤ w.heap.size) : (cutW w B).heap.size = B := by simp [cutW]; omega
theorem cutW_below {w : World} {B : Nat} (h : B ≤ w.heap.size) : Below (cutW w B).heap.size (cutW w B) w := by
 refine ⟨rfl, rfl, rfl, by rw [cutW_size h]; exact h, fun k hk => ?_⟩
 rw [cutW_size h] at hk
 simp [cutW, Array.getElem?_extract, hk]
 intro h2
 omega
theorem Own.mk_ {w : World} {E : TypeId} {B : Nat} {A : Option Addr} {n c : Nat} {us : List Value} (h : Own w B E A n c us) (hB : B ≤ w.heap.size) : Mk (cutW w B) w E A n c us := ⟨cutW_below hB, by rw [cutW_size hB]; exact h⟩
theorem Mk.own_ {w0 w : World} {E : TypeId} {B : Nat} {A : Option Addr} {n c : Nat} {us : List Value} (h : Mk w0 w E A n c us) (hB : w0.heap.size = B) : Own w B E A n c us := by rw [← hB]; exact h.2
set_option maxHeartbeats 1600000 in
set_option maxRecDepth 8000 in
theorem roll_any (B : Option Addr) (nb cb : Nat) (bs : List Int) (sd : Int) (w : World) (hnb : nb ≤ 4096) (r : Rd w B nb (bs.map (Value.int .u8))) (hbs : ∀ b ∈ bs, 0 ≤ b ∧ b < 256) (hbg : ∀ a, B = some a → a.block < w.heap.size) :
    Calls Tryz.prog 25 #[.slice B nb cb, .int .u64 sd] w fun e w' => ∃ g, e = .returned (.pointer (some ⟨g, 0, none⟩)) ∧ w.heap.size ≤ g ∧ Src w' g 100 ∧ Below w.heap.size w w' := by
 have W0 : wrap64 (nb : Int) = nb := by unfold wrap64; omega
 go_enter Tryz.func25, Tryz.ntmps25
 go_wp2
 go_loopw [6] (fun i wr => ∃ (j : Nat) (h : Int), j ≤ nb ∧ i = .int .i64 j ∧ Blk wr w.heap.size 100 #[.slice B nb cb, .int .i64 0, .int .u64 h] ∧ Below w.heap.size w wr) (fun i _ => nb - (intOf i).toNat)
 case atStart => exact ⟨0, _, by omega, rfl, Blk.new _ _ _, zG.alloc (Nat.le_refl _) _⟩
 case round =>
  obtain ⟨j, h, hj, rfl, k1, hb1⟩ := hrel
  by_cases hlt : j < nb
  · have d1 : decide ((j : Int) < (nb : Int)) = true := by simp; omega
    skip
    obtain ⟨gb, ob, rfl, hc⟩ := (r.below hb1).2 (by omega)
    have hbl : j < bs.length := by have := r.1; rw [List.length_map] at this; omega
    have hcb := hc j (.int .u8 bs[j]) (by simp [hbl])
    obtain ⟨b1, b2⟩ := hbs _ (List.getElem_mem hbl)
    obtain ⟨bb, hbb⟩ : ∃ x, x = bs[j] := ⟨_, rfl⟩
    rw [← hbb] at hcb b1 b2
    have i1 : (0 : Int) ≤ (j : Int) := by omega
    have i2 : (j : Int) < (nb : Int) := by omega
    have W2 : IntKind.u64.wrap bb = bb := IntWalk.u64_in _ ⟨b1, by omega⟩
    clear hc hbb
    go_wp2
    refine wp_obs 15 [[],[],[1],[1,2],[1,2,3],[1,2,3,4],[],[],[6,7],[6,7,8],[6,7,8,9],[1,2,3,4,5,6,7,8,9,10],[1,2,3,4,5,6,7,8,9,10,11],[0],[0,13],[0,1,2,3,4,5,6,7,8,9,10,11,12,13,14]] [VIs (.pointer (some ⟨w.heap.size, 0, none⟩)), VIs (.pointer (some ⟨w.heap.size, 0, none⟩)), VIs (.pointer (some ⟨w.heap.size, 0, none⟩)), VIs (.pointer (some ⟨w.heap.size, 2, none⟩)), VIs (.int .u64 (h)), VIs (.int .u64 (IntKind.u64.wrap (h * 1099511628211))), VIs (.slice (some ⟨gb, ob, none⟩) nb cb), VIs (.int .i64 (j)), VIs (.pointer (some ⟨gb, ob + j, none⟩)), VIs (.int .u8 bb), VIs (.int .u64 (bb)), VIs (.int .u64 (IntKind.u64.wrap (IntKind.u64.wrap (h * 1099511628211) + bb))), VIs (.int .u64 (IntKind.u64.wrap (IntKind.u64.wrap (IntKind.u64.wrap (h * 1099511628211) + bb) + 5))), VIs (.pointer (some ⟨w.heap.size, 0, none⟩)), VIs (.pointer (some ⟨w.heap.size, 2, none⟩))] (fun w' => Blk w' w.heap.size 100 #[.slice (some ⟨gb, ob, none⟩) nb cb, .int .i64 0, .int .u64 h] ∧ w'.cell? ⟨gb, ob + j, none⟩ = some (.int .u8 bb) ∧ Below wr.heap.size wr w') (by kernel_rfl) (by kernel_rfl) (fun _ _ h hb => ⟨h.1.below hb h.1.lt, (hb.cell (World.block_lt_of_cell? _ _ h.2.1)).trans h.2.1, h.2.2.trans (hb.mono h.2.2.size)⟩) (⟨k1.drew, hcb, zG.drew⟩) (fun x => ?_)
    refine zS (fun w' hS hV K hK => ?_) ?_
    · obtain ⟨q0, q1, q2⟩ := hS.1.three; have qb := hS.2.1; go_simp; exact zO hK
    refine zS (fun w' hS hV K hK => ?_) ?_
    · obtain ⟨q0, q1, q2⟩ := hS.1.three; have qb := hS.2.1; go_simp; exact zO hK
    refine zS (fun w' hS hV K hK => ?_) ?_
    · have e1 := zQ hV 1; obtain ⟨q0, q1, q2⟩ := hS.1.three; have qb := hS.2.1; go_simp; exact zO hK
    refine zS (fun w' hS hV K hK => ?_) ?_
    · have e2 := zQ hV 2; obtain ⟨q0, q1, q2⟩ := hS.1.three; have qb := hS.2.1; go_simp; exact zO hK
    refine zS (fun w' hS hV K hK => ?_) ?_
    · have e3 := zQ hV 3; obtain ⟨q0, q1, q2⟩ := hS.1.three; have qb := hS.2.1; go_simp; exact zO hK
    refine zS (fun w' hS hV K hK => ?_) ?_
    · have e4 := zQ hV 4; obtain ⟨q0, q1, q2⟩ := hS.1.three; have qb := hS.2.1; go_simp; exact zO hK
    refine zS (fun w' hS hV K hK => ?_) ?_
    · obtain ⟨q0, q1, q2⟩ := hS.1.three; have qb := hS.2.1; go_simp; exact zO hK
    refine zS (fun w' hS hV K hK => ?_) ?_
    · obtain ⟨q0, q1, q2⟩ := hS.1.three; have qb := hS.2.1; go_simp; exact zO hK
    refine zS (fun w' hS hV K hK => ?_) ?_
    · have e6 := zQ hV 6; have e7 := zQ hV 7; obtain ⟨q0, q1, q2⟩ := hS.1.three; have qb := hS.2.1; go_simp; exact zO hK
    refine zS (fun w' hS hV K hK => ?_) ?_
    · have e8 := zQ hV 8; obtain ⟨q0, q1, q2⟩ := hS.1.three; have qb := hS.2.1; go_simp; exact zO hK
    refine zS (fun w' hS hV K hK => ?_) ?_
    · have e9 := zQ hV 9; obtain ⟨q0, q1, q2⟩ := hS.1.three; have qb := hS.2.1; go_simp; exact zO hK
    refine zS (fun w' hS hV K hK => ?_) ?_
    · have e5 := zQ hV 5; have e10 := zQ hV 10; obtain ⟨q0, q1, q2⟩ := hS.1.three; have qb := hS.2.1; go_simp; exact zO hK
    refine zS (fun w' hS hV K hK => ?_) ?_
    · have e11 := zQ hV 11; obtain ⟨q0, q1, q2⟩ := hS.1.three; have qb := hS.2.1; go_simp; exact zO hK
    refine zS (fun w' hS hV K hK => ?_) ?_
    · have e0 := zQ hV 0; obtain ⟨q0, q1, q2⟩ := hS.1.three; have qb := hS.2.1; go_simp; exact zO hK
    refine zS (fun w' hS hV K hK => ?_) ?_
    · have e13 := zQ hV 13; obtain ⟨q0, q1, q2⟩ := hS.1.three; have qb := hS.2.1; go_simp; exact zO hK
    refine fun w' hS hV => ?_
    have e0 := zT hV 0
    have e1 := zT hV 1
    have e2 := zT hV 2
    have e3 := zT hV 3
    have e4 := zT hV 4
    have e5 := zT hV 5
    have e6 := zT hV 6
    have e7 := zT hV 7
    have e8 := zT hV 8
    have e9 := zT hV 9
    have e10 := zT hV 10
    have e11 := zT hV 11
    have e12 := zT hV 12
    have e13 := zT hV 13
    have e14 := zT hV 14
    simp only [e0, e1, e2, e3, e4, e5, e6, e7, e8, e9, e10, e11, e12, e13, e14]
    clear e0 e1 e2 e3 e4 e5 e6 e7 e8 e9 e10 e11 e12 e13 e14
    obtain ⟨k2, _, hb2⟩ := hS
    have q2 := k2.three.2.2
    have f2 := k2.frozen 2
    refine any_one (j := 15) (by kernel_rfl) (Eq.trans (by simp only [zA, zB, zC]; exact rfl) rfl) (fun K hK => ?_)
    go_simp
    refine hK.out _ _ (wpAny_done (by kernel_rfl) ?_ _)
    have k3 := k2.set_ 2 (.int .u64 (IntKind.u64.wrap (IntKind.u64.wrap (IntKind.u64.wrap (h * 1099511628211) + bb) + 5)))
    simp only [zD, zE, zF] at k3
    have hb3 := (hb1.trans (hb2.mono hb1.size)).setCell (p := ⟨w.heap.size, 2, none⟩) (Nat.le_refl _) (.int .u64 (IntKind.u64.wrap (IntKind.u64.wrap (IntKind.u64.wrap (h * 1099511628211) + bb) + 5)))
    clear q2 f2 k2 hb2 k1
    go_wp2
    go_roundw
    case rel => exact ⟨j + 1, _, by omega, by go_num, k3, hb3⟩
    case measure => simp [intOf]; omega
  · have d1 : decide ((j : Int) < (nb : Int)) = false := by simp; omega
    go_wp2
    go_ret
    exact ⟨_, rfl, Nat.le_refl _, ⟨B, nb, cb, bs, 0, h, k1, r.below hb1, hbs, by omega, hnb, hbg⟩, hb1⟩
set_option maxHeartbeats 1600000 in
set_option maxRecDepth 8000 in
theorem belowList_any (g : Nat) (p : Int) (n : Nat) (w : World) (hs : Src w g 100) (hp : p ≤ 4611686018427387904) (hn : n ≤ 1048576) :
    Calls Tryz.prog 27 #[.pointer (some ⟨g, 0, none⟩), .int .i64 n, .int .i64 p] w fun e w' => ∃ (A : Option Addr) (c : Nat) (xs : List Int), e = .returned (.slice A n c) ∧ xs.length = n ∧ (∀ x ∈ xs, 0 ≤ x ∧ (1 ≤ p → x < p)) ∧ Own w' w.heap.size 2 A n c (ints xs) ∧ Dr g 100 w w' := by
 have hM0 := Mk.lit (E := 2) (Below.refl w.heap.size w) #[] (by simp)
 have hd0 := (Dr.refl hs).alloc (.cells #[] 2)
 go_enter Tryz.func27, Tryz.ntmps27
 go_wp2
 go_loopw [7, 1] (fun out i wr => ∃ (j : Nat) (A : Option Addr) (c : Nat) (xs : List Int), j ≤ n ∧ i = .int .i64 ((n - j : Nat) : Int) ∧ out = .slice A j c ∧ xs.length = j ∧ (∀ x ∈ xs, 0 ≤ x ∧ (1 ≤ p → x < p)) ∧ Own wr w.heap.size 2 A j c (ints xs) ∧ Dr g 100 w wr) (fun _ i _ => (intOf i).toNat)
 case atStart => exact ⟨0, _, _, [], by omega, by simp, rfl, rfl, fun x hx => (by cases hx), by simpa [ints] using hM0.2, hd0⟩
 case round =>
  obtain ⟨j, A, c, xs, hj, rfl, rfl, hl, hx, hO, hd⟩ := hrel
  clear hM0 hd0
  by_cases hlt : j < n
  · have d1 : decide (0 < ((n - j : Nat) : Int)) = true := by simp; omega
    have W5 : wrap64 (((n - j : Nat) : Int) - 1) = ((n - (j + 1) : Nat) : Int) := by unfold wrap64; omega
    have hnx := below_any g p wr hd.s' hp
    have HX := Lib.hid hx
    have HO := Lib.hid hO
    have HD := Lib.hid hd
    clear hx hO hd
    go_wp2_with (first
     | (go_at_call 26; refine hnx.mono ?_; rintro e w' ⟨r, rfl, hr1, hr2, hd2⟩
        have HO2 := Lib.hid (HO.out.dr hd2 (by decide))
        have HD2 := Lib.hid (HD.out.trans hd2)
        clear hnx hd2)
     | (at_builtin; refine wpList_app1 (cutW w' w.heap.size) w' 24 2 _ _ Tryz.underlying24 info_i rfl (by omega) rfl _ _ rfl A j c _ _ (HO2.out.mk_ HD2.out.size) (by omega) rfl rfl rfl ?_; intro A2 c2 w2 hM2 hg2 _))
    have hO3 := hM2.own_ (cutW_size HD2.out.size)
    have hd3 := HD2.out.grown HO2.out hg2
    clear hM2 hg2
    go_roundw
    case rel => exact ⟨j + 1, A2, c2, xs ++ [r], by omega, by go_num, rfl, by simp [hl], fun x hx => by
     rcases List.mem_append.1 hx with hx | hx
     · exact HX.out x hx
     · rw [List.mem_singleton.1 hx]; exact ⟨hr1, hr2⟩, by simpa [ints] using hO3, hd3⟩
    case measure => simp [intOf]; omega
  · obtain rfl : j = n := by omega
    have d1 : decide (0 < ((j - j : Nat) : Int)) = false := by simp
    go_wp2
    go_ret
    exact ⟨A, c, xs, rfl, hl, hx, hO, hd⟩
theorem Dr.setNew {w wr : World} {g b : Nat} {T : TypeId} (d : Dr g T w wr) (hb : w.heap.size ≤ b) (i : Nat) (u : Value) : Dr g T w (wr.setCell ⟨b, i, none⟩ u) := by
 have hlt := d.s.lt
 have hfar : ∀ k, k ≠ b → (wr.setCell ⟨b, i, none⟩ u).heap[k]? = wr.heap[k]? := fun k hk => Below.heap_setCell wr ⟨b, i, none⟩ _ k hk
 have hB : Below g wr (wr.setCell ⟨b, i, none⟩ u) := zG.setCell (p := ⟨b, i, none⟩) (Nat.le_trans (Nat.le_of_lt hlt) hb) _
 exact ⟨d.s, d.s'.keep (hfar g (by omega)) hB, d.b.trans hB, fun k hk hne => (hfar k (by omega)).trans (d.k k hk hne)⟩
/-- The value is a list of n numbers of the field that was made since the heap had B blocks. -/
def VLs (B n : Nat) (P : Int) : VP := ⟨fun v w => ∃ (A : Option Addr) (c : Nat) (xs : List Int), v = .slice A n c ∧ xs.length = n ∧ NumsL P xs ∧ Own w B 2 A n c (ints xs), fun _ _ _ ⟨A, c, xs, e, hl, hn, ho⟩ hb => ⟨A, c, xs, e, hl, hn, ho.below hb⟩⟩
theorem VLs.dr {B n g : Nat} {P : Int} {T : TypeId} {v : Value} {w w' : World} (h : (VLs B n P).p v w) (d : Dr g T w w') (hT : 2 ≠ T) : (VLs B n P).p v w' := by
 obtain ⟨A, c, xs, e, hl, hn, ho⟩ := h
 refine ⟨A, c, xs, e, ?_, hn, ho.dr d hT⟩
 exact hl
theorem nums_of {P : Int} {xs : List Int} (hp : 1 ≤ P) (h : ∀ x ∈ xs, 0 ≤ x ∧ (1 ≤ P → x < P)) : NumsL P xs := fun x hx => ⟨(h x hx).1, (h x hx).2 hp⟩
/-- A list of lists of the call's own, in blocks from B on. -/
def OwnM (w : World) (B : Nat) (A : Option Addr) (n c : Nat) (xss : List (List Int)) : Prop := ∃ rows, Own w B 24 A n c rows ∧ Nest w B rows xss
section
variable {w w' w0 W : World} {B B' g : Nat} {T : TypeId} {A : Option Addr} {n c : Nat} {xss : List (List Int)}
theorem OwnM.dr (h : OwnM w B A n c xss) (d : Dr g T w w') (h1 : 24 ≠ T) (h2 : 2 ≠ T) : OwnM w' B A n c xss := by
 obtain ⟨rows, ho, hn⟩ := h
 exact ⟨rows, ho.dr d h1, hn.len, fun k hk => by obtain ⟨A1, c1, e, h3⟩ := hn.row k hk; exact ⟨A1, c1, e, h3.dr d h2⟩, hn.apart⟩
theorem OwnM.below (h : OwnM w B A n c xss) (hb : Below w.heap.size w w') : OwnM w' B A n c xss := by
 obtain ⟨rows, ho, hn⟩ := h; exact ⟨rows, ho.below hb, hn.below hb⟩
theorem OwnM.base (h : OwnM w B A n c xss) (hB : B' ≤ B) : OwnM w B' A n c xss := by
 obtain ⟨rows, ho, hn⟩ := h; exact ⟨rows, ho.base hB, hn.base hB⟩
theorem OwnM.rd (h : OwnM w B A n c xss) : RdII w A n xss := by
 obtain ⟨rows, ho, hn⟩ := h
 exact ⟨rows, ho.rd, hn.len, fun k hk => by obtain ⟨A', c', e, ho⟩ := hn.row k hk; exact ⟨A', c', e, ho.rd, ho.cap⟩⟩
theorem OwnM.empty (w : World) (hB : B ≤ w.heap.size) : OwnM (w.alloc (.cells #[] 24)) B (some ⟨w.heap.size, 0, none⟩) 0 0 [] := by
 refine ⟨[], ?_, Nest.nil _ _⟩
 have := (Mk.lit (E := 24) (Below.refl w.heap.size w) #[] (by simp)).2
 exact Own.base (by simpa using this) hB
theorem Nest.push {rows : List Value} {A1 : Option Addr} {m c1 K : Nat} {xs : List Int} (h : Nest w B rows xss) (hk : ∀ i g : Nat, (rows[i]?).bind Value.ownBlock = some g → g < K) (hr : Own w K 2 A1 m c1 (ints xs)) (hB : B ≤ K) :
    Nest w B (rows ++ [.slice A1 m c1]) (xss ++ [xs]) := by
 have hn : xs.length = m := by have := hr.len; rwa [ints_length] at this
 subst hn
 refine ⟨by simp [h.len], fun k hk => ?_, fun i j g hij hi => ?_⟩
 · by_cases hlt : k < xss.length
   · obtain ⟨A', c', e, ho⟩ := h.row k hlt
     rw [List.getElem_append_left hlt]
     exact ⟨A', c', by rw [List.getElem?_append_left (by rw [h.len]; exact hlt)]; exact e, ho⟩
   · have hk' : k = xss.length := by simp at hk; omega
     subst hk'
     simp only [List.getElem_append_right (Nat.le_refl _), Nat.sub_self, List.getElem_cons_zero]
     exact ⟨A1, c1, by rw [List.getElem?_append_right (by rw [h.len]; exact Nat.le_refl _), h.len, Nat.sub_self]; rfl, hr.base hB⟩
 · rcases Nat.lt_or_ge j rows.length with hj | hj
   · rw [List.getElem?_append_left (by omega)] at hi
     rw [List.getElem?_append_left hj]
     exact h.apart i j g hij hi
   · rcases Nat.lt_or_ge i rows.length with hil | hil
     · rw [List.getElem?_append_left hil] at hi
       have hg := hk i g hi
       rw [List.getElem?_append_right hj]
       by_cases hj0 : j - rows.length = 0
       · rw [hj0]
         intro he
         have := (World.ownsRow.lt hr g (by simpa using he)).1
         omega
       · rw [List.getElem?_eq_none (by simp; omega)]; simp
     · rw [List.getElem?_append_right hj, List.getElem?_eq_none (by simp; omega)]; simp
end
/-- Other rows of numbers and other blocks are as they were. -/
def KeptR (w w' : World) : Prop := (∀ (B : Nat) (A : Option Addr) (n c : Nat) (us : List Value), Own w B 2 A n c us → Own w' B 2 A n c us) ∧ ∀ (g : Nat) (t : TypeId) (cs : Array Value), Blk w g t cs → 24 ≠ t → Blk w' g t cs
/-- A drawn row is appended. -/
theorem wpList_pushRow {ops : Array Oper} {rest : List Oper} {o : Oper} {a : Act} {Q : Exit → Act → World → Prop} (W w0 w : World) (g : Nat) (T : TypeId)
    (hgd : o.guard = none) (s x : Operand) (ho : o.op = .call { callee := .builtin .append, args := #[s, x], argTypes := #[27, 27] })
    (A : Option Addr) (n c : Nat) (xss : List (List Int)) (A1 : Option Addr) (m c1 : Nat) (xs : List Int) (h : OwnM w0 W.heap.size A n c xss) (dW : Dr g T W w0) (d : Dr g T w0 w) (h1 : 24 ≠ T) (h2 : 2 ≠ T)
    (hr : Own w w0.heap.size 2 A1 m c1 (ints xs)) (hn : n ≤ 1099511627776)
    (hs : a.eval s = .slice A n c) (hx : a.eval x = .slice (some ⟨w.heap.size, 0, none⟩) 1 1)
    (k : ∀ A' c' w', OwnM w' W.heap.size A' (n + 1) c' (xss ++ [xs]) → Dr g T W w' → KeptR w w' → wpList Tryz.prog ops Q rest (a.put o.dst (.slice A' (n + 1) c')) w') :
    wpList Tryz.prog ops Q (o :: rest) a (w.alloc (.cells #[.slice A1 m c1] 24)) := by
 obtain ⟨rows, ho0, hn0⟩ := h
 have hblk := hn0.block
 have ho1 := ho0.dr d h1
 have hn1 : Nest w W.heap.size rows xss := ⟨hn0.len, fun k hk => by obtain ⟨A1, c1, e, h3⟩ := hn0.row k hk; exact ⟨A1, c1, e, h3.dr d h2⟩, hn0.apart⟩
 have hn2 := hn1.push (fun i g hg => (hblk i g hg).2) hr dW.size
 have dd := dW.trans d
 refine wpList_app1 (cutW w W.heap.size) w 27 24 (.slice none 0 0) 24 Tryz.underlying27 info_s rfl (by omega) hgd s x ho A n c rows (.slice A1 m c1) (ho1.mk_ dd.size) hn rfl hs hx ?_
 intro A' c' w' hM' hg _
 exact k A' c' w' ⟨_, hM'.own_ (cutW_size dd.size), hn2.grown ho1 (by decide) hg⟩ (dd.grown ho1 hg) ⟨fun B A2 n2 c2 us h2 => h2.grown hg (h2.ne ho1 (by decide)), fun g2 t cs h2 hne => h2.grown hg (ho1.ne_blk h2 hne)⟩
section
variable {w w' : World} {a : Addr} {v : Value}
end
theorem OwnM.of {w0 w : World} {A : Option Addr} {n c : Nat} {xss : List (List Int)} (h : MkII w0 w A n c xss) : OwnM w w0.heap.size A n c xss := by
 obtain ⟨rows, hm, hn⟩ := h
 exact ⟨rows, hm.2, hn⟩
section
variable {w0 w w' : World} {E : TypeId} {A : Option Addr} {n c : Nat} {us : List Value}
theorem Rd.behind {k : Nat} (h : Rd w A n us) (hk : k < n) : ∃ g o, A = some ⟨g, o, none⟩ ∧ Rd w (some ⟨g, o + k, none⟩) (n - k) (us.drop k) := by
 obtain ⟨g, o, e, hc⟩ := h.2 (by omega)
 refine ⟨g, o, e, by rw [List.length_drop, h.1], fun _ => ⟨g, o + k, rfl, fun j u hu => ?_⟩⟩
 rw [List.getElem?_drop] at hu
 rw [Nat.add_assoc]
 exact hc _ _ hu
end
theorem ints_drop (xs : List Int) (k : Nat) : (ints xs).drop k = ints (xs.drop k) := by unfold ints; rw [List.map_drop]
/-- What is left of a row behind its first k numbers. -/
theorem slice_rest {g o c m k : Nat} (w : World) (hk : k ≤ m) (hc : k < c) : (Instr.slice 24 (.slice (some ⟨g, o, none⟩) m c) (some (.int .i64 (k : Int))) none none).run Tryz.prog w = .ok (.slice (some ⟨g, o + k, none⟩) (m - k) (c - k)) w := by
 have h := run_slice_l (P := Tryz.prog) (w := w) (t := 24) (a := some ⟨g, o, none⟩) (len := m) (cap := c) (ht := by kernel_rfl) (kl := .i64) (l := (k : Int)) (h0 := by omega) (h1 := by omega)
 have hne : c ≠ k := by omega
 rw [h]
 simp [go_sem, sliced, hne, Addr.add]
/-- A whole list is appended, in a region that draws its order. -/
theorem wp_appAll {o : Oper} {a : Act} {K : Act → World → Prop} {Q : Exit → Act → World → Prop} (w0 wr : World)
    (s x : Operand) (ho : o.op = .call { callee := .builtin .append, args := #[s, x], argTypes := #[24, 24] })
    (A : Option Addr) (n c : Nat) (xs : List Int) (B : Option Addr) (m d : Nat) (ys : List Int) (hM : MkI w0 wr A n c xs) (hY : Rd wr B m (ints ys)) (h0 : 0 < m) (hn : n ≤ 65536) (hm : m ≤ 65536)
    (hs : a.eval s = .slice A n c) (hx : a.eval x = .slice B m d)
    (h : ∀ A' c' w', MkI w0 w' A' (n + m) c' (xs ++ ys) → wr.grownBy w' (Value.slice A n c).ownBlock → K (a.put o.dst (.slice A' (n + m) c')) w') : o.wp Tryz.prog a wr K Q := by
 obtain ⟨i, hi, h1, h2, h3⟩ := info_parts info_i
 obtain ⟨b1, b2⟩ := bound_of (show n + m ≤ 1099511627776 by omega)
 have hyl : ys.length = m := by have := hY.1; rwa [ints_length] at this
 obtain ⟨g, o', rfl, hc⟩ := hY.2 h0
 obtain ⟨v', w', hr, hown, hg, _, _⟩ := run_append_own_at (P := Tryz.prog) wr w0.heap.size 24 o.type 2 i _ 1 8 Tryz.underlying24 hi h1 h2 h3 rfl (by omega) (.slice A n c) n (ints xs) hM.2 ⟨g, o', none⟩ m d (ints ys) (by rw [ints_length, hyl, Nat.mul_one]) (fun j u hu => by rw [Addr.add_lit]; exact hc j u hu) (by intro u hu; obtain ⟨y, _, rfl⟩ := List.mem_map.1 hu; rfl) (by simp only [maxLen]; omega) (by have := b2 8 (by omega); omega) hM.1.size
 unfold Oper.wp execOp
 simp only [ho, resolve, invoke, builtin, Sem.run_bind, Sem.run_pure, Result.andThen_ok, List.map_toArray, List.map_cons, List.map_nil, hs, hx, hr]
 have hb' : Below w0.heap.size w0 w' := hM.1.grown hg hM.1.size (fun k hk => (hM.2.lt k hk).1)
 have e : ints xs ++ ints ys = ints (xs ++ ys) := by unfold ints; rw [List.map_append]
 rw [e] at hown
 rcases hown.2 with ⟨_, h0⟩ | ⟨g, cap, cur, rfl, hr⟩
 · omega
 · exact h _ _ _ ⟨hb', hown⟩ hg
theorem wide_take {M : List (List Int)} {k : Nat} (h : k < M.length) : (wideM M).take (k + 1) = (wideM M).take k ++ [M.getD k [] ++ unitRow M.length k] := by
 have hl : k < (wideM M).length := by rw [wide_len]; exact h
 rw [List.take_succ_eq_append_getElem hl]
 congr 2
 rw [← getD_of_lt [] hl]
 unfold wideM
 rw [tab_getD h]
/-- The first j rows of B without their first n places, the others as they are. -/
def dropTo (n : Nat) (B : List (List Int)) (j : Nat) : List (List Int) := tab B.length fun i => if i < j then (B.getD i []).drop n else B.getD i []
theorem dropTo_zero (n : Nat) (B : List (List Int)) : dropTo n B 0 = B := by
 refine list_ext_getD [] (tab_len _ _) fun r hr => ?_
 unfold dropTo at hr ⊢
 rw [tab_len] at hr
 rw [tab_getD hr, if_neg (by omega)]
theorem dropTo_len (n : Nat) (B : List (List Int)) (j : Nat) : (dropTo n B j).length = B.length := tab_len _ _
theorem dropTo_succ {n : Nat} {B : List (List Int)} {j : Nat} (hj : j < B.length) : dropTo n B (j + 1) = (dropTo n B j).set j ((B.getD j []).drop n) := by
 refine list_ext_getD [] (by rw [List.length_set, dropTo_len, dropTo_len]) fun r hr => ?_
 rw [dropTo_len] at hr
 rw [getD_set]
 unfold dropTo
 rw [tab_getD hr, tab_getD hr, tab_len]
 by_cases e : j = r
 · subst e; rw [if_pos (by omega), if_pos ⟨rfl, hj⟩]
 · rw [if_neg (c := j = r ∧ _) (fun h => e h.1)]
   by_cases h2 : r < j
   · rw [if_pos (by omega), if_pos h2]
   · rw [if_neg (by omega), if_neg h2]
theorem dropTo_end {p : Int} {M : List (List Int)} {j : Nat} (h : (basisL p (wideM M)).length ≤ j) : dropTo M.length (basisL p (wideM M)) j = invL p M := by
 unfold dropTo invL
 exact tab_congr fun i hi => if_pos (by omega)
set_option maxHeartbeats 3200000 in
set_option maxRecDepth 8000 in
theorem inverse_any (p : Int) (A : Option Addr) (n c : Nat) (M : List (List Int)) (w : World) (HP : isP p = true) (h0 : 0 < n) (hn : n ≤ 16) (ha : RdII w A n M) (hT : Tab p n M) :
    Calls Tryz.prog 233 #[.int .i64 p, .slice A n c] w fun e w' => ∃ (A' : Option Addr) (k c' : Nat), e = .returned (.tuple #[.slice A' k c', .bool (decide (detL p M ≠ 0))]) ∧ MkII w w' A' k c' (if detL p M ≠ 0 then invL p M else []) := by
 obtain ⟨hp3, hp2⟩ := isP_ge HP
 have hl := ha.len
 have hWT := wide_tab (show 2 ≤ p by omega) hT hl
 have HBL := Lib.hid (wideB_len HP hT hl)
 have HBT := Lib.hid (wideB_tab HP hT hl)
 have HM := Lib.hid hT
 have HL := Lib.hid hl
 have HPP := Lib.hid HP
 have HWT := Lib.hid hWT
 have hA0 : Below w.heap.size w (w.alloc (.cells #[] 24)) := zG.alloc (Nat.le_refl _) _
 have hO0 : MkII w (w.alloc (.cells #[] 24)) (some ⟨w.heap.size, 0, none⟩) 0 0 [] := MkII.empty zG
 have hE0 : Blk (w.alloc (.cells #[] 24)) w.heap.size 24 #[] := Blk.new _ _ _
 have HIFF := Lib.hid (inv_iff HP h0 hT hl)
 have hun := unit_any n (w.alloc (.cells #[] 24)) (by omega)
 obtain ⟨nn, hnn⟩ : ∃ nn, nn = n + n := ⟨_, rfl⟩
 have HNN := Lib.hid hnn
 obtain ⟨D, hD⟩ : ∃ D, D = decide (detL p M ≠ 0) := ⟨_, rfl⟩
 obtain ⟨RR, hRR⟩ : ∃ R, R = if detL p M ≠ 0 then invL p M else [] := ⟨_, rfl⟩
 rw [← hD, ← hRR]
 have HD := Lib.hid hD
 have HRR := Lib.hid hRR
 clear hl hWT hT HP hnn hD hRR
 go_enter Tryz.func233, Tryz.ntmps233
 go_wp2_with fail
 refine hun.mono ?_
 rintro e w3 ⟨Au, cu, rfl, hU⟩
 clear hun
 have hB3 := hA0.trans (hU.b.mono hA0.size)
 have hO3 := hO0.below hU.b
 have hE3 := hE0.below hU.b hE0.lt
 have a3 := ha.below hB3
 have u3 := hU.rd
 have hgr0 : Grows w3 w3 w.heap.size (.slice (some ⟨w.heap.size, 0, none⟩) 0 0) := ⟨CK.refl _, Nat.le_refl _, fun gb h => .inl (by simpa [Value.ownBlock] using h.symm)⟩
 obtain ⟨g3, hg3⟩ : ∃ g, g = w.heap.size := ⟨_, rfl⟩
 rw [← hg3] at hO3 hE3 hgr0 ⊢
 clear hg3 hU hA0 hO0 hE0
 go_wp2
 go_loopw [7, 18] (fun out i wr => ∃ (k : Nat) (A' : Option Addr) (c' : Nat), k ≤ n ∧ i = .int .i64 k ∧ out = .slice A' k c' ∧ MkII w wr A' k c' ((wideM M).take k) ∧ Grows w3 wr g3 (.slice A' k c')) (fun _ i _ => n - (intOf i).toNat)
 case atStart => exact ⟨0, _, _, by omega, rfl, rfl, by simpa using hO3, hgr0⟩
 case round =>
  obtain ⟨k, A', c', hk, rfl, rfl, hM, hgr⟩ := hrel
  clear hO3 hgr0
  by_cases hlt : k < n
  · have hBn := hM.b
    obtain ⟨ga, oa, rfl, hxk, Ak, ck, hck, hrk, hcc⟩ := (a3.ck hgr.1).at_ hlt
    obtain ⟨gu, ou, rfl, hxu, Uk, cu2, hcu, hru, hcuc⟩ := (u3.ck hgr.1).at_ hlt
    have hlk : M[k].length = n := (HM.out M[k] (List.getElem_mem hxk)).1
    have hlu : (unitM n)[k] = unitRow n k := unitM_get n k hxu
    rw [hlk] at hck hrk hcc
    rw [hlu, unitRow_len] at hcu hcuc
    have hru2 : Rd wr Uk n (ints (unitRow n k)) := by have h := hru; simp only [hlu, unitRow_len] at h; exact h
    clear hru hlu hxu
    have HAP : Hid ((wideM M).take (k + 1) = (wideM M).take k ++ [M[k] ++ unitRow n k]) := Lib.hid (by rw [wide_take hxk, getD_of_lt [] hxk, HL.out])
    obtain ⟨X, hX⟩ : ∃ X, X = M[k] := ⟨_, rfl⟩
    rw [← hX] at hrk HAP hlk
    clear hX hxk
    have hb1 : Below wr.heap.size wr (wr.alloc (.cells #[.slice Ak n ck, .slice Uk n cu2] 24)) := zG.alloc (Nat.le_refl _) _
    have hcall := concat_any (some ⟨wr.heap.size, 0, none⟩) 2 2 [X, unitRow n k] (wr.alloc (.cells #[.slice Ak n ck, .slice Uk n cu2] 24)) (by omega) (by omega) (rdII_two (Blk.new _ _ _) (hrk.below hb1) (hru2.below hb1) hcc hcuc) (by
     intro r hr
     simp only [List.mem_cons, zJ, or_false] at hr
     rcases hr with rfl | rfl
     · omega
     · rw [unitRow_len]; omega)
    rw [show [X, unitRow n k].flatten = X ++ unitRow n k by simp, show (X ++ unitRow n k).length = nn by rw [List.length_append, hlk, unitRow_len, HNN.out]] at hcall
    obtain ⟨Y, hY⟩ : ∃ Y, Y = X ++ unitRow n k := ⟨_, rfl⟩
    rw [← hY] at hcall HAP
    clear hrk hru2 hlk hY hcc hcuc
    have HMM := Lib.hid hM
    have HGR := Lib.hid hgr
    clear hM hgr
    go_wp2_with fail
    refine hcall.mono ?_
    rintro e w5 ⟨A5, c5, rfl, hM5⟩
    have HM5 := Lib.hid (hM5.after hb1)
    clear hcall hM5
    go_wp2_with (at_builtin; refine wpList_appRowG w wr w5 rfl _ _ rfl A' k c' _ A5 nn c5 _ HMM.out HM5.out (by omega) rfl ?_ ?_; (go_simp); intro A6 c6 w6 hM6 hg6 hat6)
    go_roundw
    case rel => exact ⟨k + 1, A6, c6, by omega, by go_num, rfl, by rw [HAP.out]; exact hM6, HGR.out.step hE3 HM5.out.b hg6 hat6⟩
    case measure => simp [intOf]; omega
  · obtain rfl : k = n := by omega
    clear a3 u3 hE3 hgr ha hB3
    rw [List.take_of_length_le (by rw [wide_len, HL.out]; omega)] at hM
    have hcall := basis_any p A' k c' (wideM M) (k + k) wr HPP.out (by omega) (by omega) hM.rd HWT.out
    rw [HBL.out] at hcall
    obtain ⟨B, hB⟩ : ∃ B, B = basisL p (wideM M) := ⟨_, rfl⟩
    rw [← hB] at hcall HBT HBL
    have HMB := Lib.hid hM.b
    clear hM
    go_wp2_with fail
    refine hcall.mono ?_
    rintro e w6 ⟨A6, c6, rfl, hM6⟩
    clear hcall
    replace hM6 := hM6.after HMB.out
    obtain ⟨q, hq⟩ : ∃ q, q + 1 = k := ⟨k - 1, by omega⟩
    have W1 : IntKind.i64.wrap ((k : Int) - 1) = (q : Int) := by rw [i64_fit _ (by omega) (by omega)]; omega
    obtain ⟨gb, rfl, hxq, Aq, cq, hcq, hrq⟩ := hM6.at_ (show q < k by omega)
    have hlq : B[q].length = nn := by rw [(HBT.out B[q] (List.getElem_mem hxq)).1, HNN.out]
    rw [hlq] at hcq hrq
    have hlead := lead_any Aq nn cq B[q] w6 (by have := HNN.out; omega) hrq.rd
    have hld : leadL B[q] = ld B (k - 1) := by unfold ld; rw [show k - 1 = q by omega, getD_of_lt [] hxq]
    rw [hld] at hlead
    have hiff := HIFF.out
    rw [← hB] at hiff
    obtain ⟨y, hy⟩ : ∃ y, y = ld B (k - 1) := ⟨_, rfl⟩
    rw [← hy] at hlead hiff
    have t0 : ((k : Int) < (k : Int)) = False := by simp
    have HB := Lib.hid hB
    have hlb : B.length = k := HBL.out
    have HLB := Lib.hid hlb
    clear hrq hlq hld hy HIFF hxq hB hlb
    by_cases hd : detL p M ≠ 0
    · have hyn : ¬ k ≤ y := by have := hiff.2 hd; omega
      have HDD := Lib.hid hd
      clear hiff
      go_wp2_with fail
      refine hlead.mono ?_
      rintro e w7 ⟨rfl, rfl⟩
      go_wp2
      have hM7 : MkII w w6 (some ⟨gb, 0, none⟩) k c6 (dropTo k B 0) := by rw [dropTo_zero]; exact hM6
      clear hM6 hcq hlead hyn hd W1 hq t0
      go_loopw [11, 53] (fun _ i wr => ∃ j : Nat, j ≤ k ∧ i = .int .i64 j ∧ MkII w wr (some ⟨gb, 0, none⟩) k c6 (dropTo k B j)) (fun _ i _ => k - (intOf i).toNat)
      case atStart => exact ⟨0, by omega, rfl, hM7⟩
      case round =>
       obtain ⟨j, hj, rfl, hMj⟩ := hrel
       clear hM7
       by_cases hjt : j < k
       · obtain ⟨g0, e0, hxj, Aj, cj, hcj, hrj⟩ := hMj.at_ hjt
         injection e0 with e0; injection e0 with e0 _ _; subst e0
         have hrow : (dropTo k B j)[j] = B.getD j [] := by
          rw [← getD_of_lt [] hxj]
          unfold dropTo
          rw [tab_getD (by rw [HLB.out]; exact hjt), if_neg (by omega)]
         have hlj : (B.getD j []).length = nn := by rw [(HBT.out.row (i := j) (by rw [HLB.out]; exact hjt)).1, HNN.out]
         rw [hrow, hlj] at hcj
         have hrj2 : Mk w wr 2 Aj nn cj (ints (B.getD j [])) := by have h := hrj; simp only [hrow, hlj] at h; exact h
         have hnc := hrj2.2.cap
         obtain ⟨gj, oj, rfl, hbh⟩ := hrj2.rd.behind (show k < nn by have := HNN.out; omega)
         rw [ints_drop, show nn - k = k by have := HNN.out; omega] at hbh
         have hsl := fun w' => slice_rest (g := gj) (o := oj) (c := cj) (m := nn) (k := k) w' (by have := HNN.out; omega) (by have := HNN.out; omega)
         rw [show nn - k = k by have := HNN.out; omega] at hsl
         have hcl := clone_any (some ⟨gj, oj + k, none⟩) k (cj - k) _ wr (by omega) hbh
         have hfz := fun w' (h : Below wr.heap.size wr w') => (hMj.below h).frozen_ j
         have hce := fun w' (h : Below wr.heap.size wr w') => (hMj.below h).outer
         have HNX : Hid (dropTo k B (j + 1) = (dropTo k B j).set j ((B.getD j []).drop k)) := Lib.hid (dropTo_succ (by rw [HLB.out]; exact hjt))
         obtain ⟨Z, hZ⟩ : ∃ Z, Z = (B.getD j []).drop k := ⟨_, rfl⟩
         rw [← hZ] at hcl HNX
         have HMJ := Lib.hid hMj
         have HFZ := Lib.hid hfz
         have HCJ := Lib.hid hcj
         clear hrj hrj2 hrow hlj hbh hfz hce hZ hMj hxj
         go_wp2_with fail
         refine hcl.mono ?_
         rintro e w8 ⟨A8, c8, rfl, hM8⟩
         have hf8 := HFZ.out w8 hM8.b
         have hcj8 : w8.cell? ⟨gb, j, none⟩ = some (.slice (some ⟨gj, oj, none⟩) nn cj) := (hM8.b.cell (World.block_lt_of_cell? _ _ HCJ.out)).trans HCJ.out
         have HM9 := Lib.hid (HMJ.out.setRow hM8 j)
         clear hcl hM8 hsl hcj
         go_wp2
         go_roundw
         case rel => exact ⟨j + 1, by omega, by go_num, by rw [HNX.out]; exact HM9.out⟩
         case measure => simp [intOf]; omega
       · obtain rfl : j = k := by omega
         go_wp2
         go_ret2
         obtain rfl : D = true := by rw [HD.out, decide_eq_true HDD.out]
         obtain rfl : RR = invL p M := by rw [HRR.out, if_pos HDD.out]
         refine ⟨_, _, _, rfl, ?_⟩
         have e9 : dropTo j B j = invL p M := by
          have h := dropTo_end (p := p) (M := M) (j := j) (by rw [← HB.out, HLB.out]; omega)
          rw [HL.out, ← HB.out] at h
          exact h
         rw [← e9]; exact hMj
    · have hyn : k ≤ y := Nat.le_of_not_lt fun h => hd (hiff.1 h)
      have HDD := Lib.hid hd
      have hBB := hM6.b
      clear hiff hM6 hd
      go_wp2_with fail
      refine hlead.mono ?_
      rintro e w7 ⟨rfl, rfl⟩
      go_wp2
      go_ret2
      obtain rfl : D = false := by rw [HD.out, decide_eq_false HDD.out]
      obtain rfl : RR = [] := by rw [HRR.out, if_neg HDD.out]
      exact ⟨_, _, _, rfl, MkII.nil hBB⟩
/-- The conjugate of an element of a doubling. -/
def conjL (p : Int) (xs : List Int) : List Int := (scaleL p xs (-1)).set 0 (xs.getD 0 0)
set_option maxHeartbeats 400000 in
set_option maxRecDepth 8000 in
theorem conjugate_any (p : Int) (X : Option Addr) (n c : Nat) (xs : List Int) (w : World) (hp : 2 ≤ p) (hp2 : p ≤ 13) (hn : n ≤ 65536) (h0 : 0 < n) (hx : Rd w X n (ints xs)) (hxs : NumsL p xs) :
    Calls Tryz.prog 216 #[.int .i64 p, .slice X n c] w fun e w' => ∃ A' c', e = .returned (.slice A' n c') ∧ MkI w w' A' n c' (conjL p xs) := by
 obtain ⟨gx, ox, rfl, hxk, hcx⟩ := hx.int h0
 rw [Nat.add_zero] at hcx
 have HS1 := Lib.hid (scaled_any p (some ⟨gx, ox, none⟩) n c (-1) xs w hp hp2 hn hx hxs (by omega) (by omega))
 have HE : Hid (xs[0] = xs.getD 0 0) := Lib.hid (by rw [List.getD_eq_getElem?_getD, List.getElem?_eq_getElem hxk]; rfl)
 have hlt := World.block_lt_of_cell? _ _ hcx
 go_enter Tryz.func216, Tryz.ntmps216
 go_wp2_with fail
 refine HS1.out.mono ?_
 rintro e w1 ⟨G, c1, rfl, hM⟩
 have hcx1 := (hM.b.cell hlt).trans hcx
 rcases hM.2.form with ⟨_, hz⟩ | ⟨g, rfl, hg, _⟩
 · omega
 · obtain ⟨u1, hc1⟩ := hM.2.cellI h0
   have hf1 := hM.2.frozen_ 0
   have hset := (hM.set 0 (.int .i64 xs[0])).1
   rw [ints_set, HE.out] at hset
   have HS := Lib.hid hset
   clear hM hset
   go_wp2
   go_ret
   exact ⟨_, _, rfl, by rw [HE.out]; exact HS.out⟩
theorem conjL_len (p : Int) (xs : List Int) : (conjL p xs).length = xs.length := by unfold conjL; rw [List.length_set, scaleL_len]
theorem conjL_nums {p : Int} (hp : 0 < p) {xs : List Int} (h : NumsL p xs) : NumsL p (conjL p xs) := fun v hv => by
 rcases List.mem_or_eq_of_mem_set hv with h1 | rfl
 · exact scaleL_nums hp _ _ _ h1
 · cases xs with
   | nil => simp; omega
   | cons a r => simpa using h a (by simp)
/-- The product of elements of a doubling, by the number of steps. -/
def dblL (p : Int) : Nat → List Int → List Int → List Int → List Int
 | 0, _, x, y => [(x.getD 0 0 * y.getD 0 0) % p]
 | k + 1, st, x, y =>
  plusL p (dblL p k (st.take k) (x.take (pw k)) (y.take (pw k))) (dblL p k (st.take k) (conjL p (y.drop (pw k))) (x.drop (pw k))) (st.getD k 0) ++
  plusL p (dblL p k (st.take k) (y.drop (pw k)) (x.take (pw k))) (dblL p k (st.take k) (x.drop (pw k)) (conjL p (y.take (pw k)))) 1
theorem dblL_nums {p : Int} (hp : 0 < p) : ∀ (k : Nat) (st x y : List Int), NumsL p (dblL p k st x y) := by
 intro k
 cases k with
 | zero =>
  intro st x y v hv
  obtain rfl : v = (x.getD 0 0 * y.getD 0 0) % p := by simpa [dblL] using hv
  exact ⟨Int.emod_nonneg _ (by omega), Int.emod_lt_of_pos _ hp⟩
 | succ k =>
  intro st x y v hv
  rcases List.mem_append.1 (show v ∈ _ ++ _ from hv) with h | h
  · exact plusL_nums hp _ _ _ v h
  · exact plusL_nums hp _ _ _ v h
/-- The first k numbers of a row. -/
theorem slice_head {g o c m k : Nat} (w : World) (hk : k ≤ c) (hc : 0 < c) : (Instr.slice 24 (.slice (some ⟨g, o, none⟩) m c) none (some (.int .i64 (k : Int))) none).run Tryz.prog w = .ok (.slice (some ⟨g, o, none⟩) k c) w := by
 have h := run_slice_h (P := Tryz.prog) (w := w) (t := 24) (a := some ⟨g, o, none⟩) (len := m) (cap := c) (ht := by kernel_rfl) (kh := .i64) (h := (k : Int)) (h0 := by omega) (h2 := by omega)
 have hne : c ≠ 0 := by omega
 rw [h]
 simp [go_sem, sliced, hne, Addr.add]
set_option maxHeartbeats 1600000 in
set_option maxRecDepth 8000 in
theorem doubled_zero (p : Int) (hp : 2 ≤ p) (hp2 : p ≤ 13) (A : Option Addr) (c : Nat) (X : Option Addr) (cx : Nat) (xs : List Int) (Y : Option Addr) (cy : Nat) (ys : List Int) (w : World) (hx : Rd w X 1 (ints xs)) (hxs : NumsL p xs) (hy : Rd w Y 1 (ints ys)) (hys : NumsL p ys) :
    Calls Tryz.prog 215 #[.int .i64 p, .slice A 0 c, .slice X 1 cx, .slice Y 1 cy] w fun e w' => ∃ A' c', e = .returned (.slice A' 1 c') ∧ MkI w w' A' 1 c' [(xs.getD 0 0 * ys.getD 0 0) % p] := by
 obtain ⟨gx, ox, rfl, hxk, hcx⟩ := hx.int (show 0 < 1 by omega)
 obtain ⟨gy, oy, rfl, hyk, hcy⟩ := hy.int (show 0 < 1 by omega)
 rw [Nat.add_zero] at hcx hcy
 have b1 := hxs _ (List.getElem_mem hxk)
 have b2 := hys _ (List.getElem_mem hyk)
 have e1 : xs.getD 0 0 = xs[0] := by rw [List.getD_eq_getElem?_getD, List.getElem?_eq_getElem hxk]; rfl
 have e2 : ys.getD 0 0 = ys[0] := by rw [List.getD_eq_getElem?_getD, List.getElem?_eq_getElem hyk]; rfl
 rw [e1, e2]
 obtain ⟨x0, hx0⟩ : ∃ z, z = xs[0] := ⟨_, rfl⟩
 obtain ⟨y0, hy0⟩ : ∃ z, z = ys[0] := ⟨_, rfl⟩
 rw [← hx0] at hcx b1 ⊢
 rw [← hy0] at hcy b2 ⊢
 have hm1 : 0 ≤ x0 * y0 := Int.mul_nonneg b1.1 b2.1
 have hm2 : x0 * y0 ≤ 13 * 13 := Int.mul_le_mul (by omega) (by omega) b2.1 (by omega)
 have HB : -1000000000000 ≤ x0 * y0 ∧ x0 * y0 ≤ 1000000000000 := by omega
 have hwr : IntKind.i64.wrap (x0 * y0) = x0 * y0 := i64_fit _ HB.1 HB.2
 clear e1 e2 hx0 hy0 hx hy hm1 hm2 b1 b2
 go_enter Tryz.func215, Tryz.ntmps215
 go_wp2
 refine wp_obs 11 [[],[],[1],[1,2],[],[4],[4,5],[1,2,3,4,5,6],[0,1,2,3,4,5,6,7],[0,1,2,3,4,5,6,7,8],[0,1,2,3,4,5,6,7,8,9]] [VIs (.int .i64 (p)), VIs (.slice (some ⟨gx, ox, none⟩) 1 cx), VIs (.pointer (some ⟨gx, ox, none⟩)), VIs (.int .i64 (x0)), VIs (.slice (some ⟨gy, oy, none⟩) 1 cy), VIs (.pointer (some ⟨gy, oy, none⟩)), VIs (.int .i64 (y0)), VIs (.int .i64 (x0 * y0)), VIs (.int .i64 ((x0 * y0) % p)), VSl w 1 [(x0 * y0) % p], VSl w 1 [(x0 * y0) % p]] (fun w' => w'.cell? ⟨gx, ox, none⟩ = some (.int .i64 x0) ∧ w'.cell? ⟨gy, oy, none⟩ = some (.int .i64 y0) ∧ Below w.heap.size w w') (by kernel_rfl) (by kernel_rfl) (fun _ _ h hb => ⟨(hb.cell (World.block_lt_of_cell? _ _ h.1)).trans h.1, (hb.cell (World.block_lt_of_cell? _ _ h.2.1)).trans h.2.1, h.2.2.trans (hb.mono h.2.2.size)⟩) (⟨hcx, hcy, zG.drew⟩) (fun x => ?_)
 refine zS (fun w' hS hV K hK => ?_) ?_
 · have q0 := hS.1; have q1 := hS.2.1; go_simp; exact zO hK
 refine zS (fun w' hS hV K hK => ?_) ?_
 · have q0 := hS.1; have q1 := hS.2.1; go_simp; exact zO hK
 refine zS (fun w' hS hV K hK => ?_) ?_
 · have e1 := zQ hV 1; have q0 := hS.1; have q1 := hS.2.1; go_simp; exact zO hK
 refine zS (fun w' hS hV K hK => ?_) ?_
 · have e2 := zQ hV 2; have q0 := hS.1; have q1 := hS.2.1; go_simp; exact zO hK
 refine zS (fun w' hS hV K hK => ?_) ?_
 · have q0 := hS.1; have q1 := hS.2.1; go_simp; exact zO hK
 refine zS (fun w' hS hV K hK => ?_) ?_
 · have e4 := zQ hV 4; have q0 := hS.1; have q1 := hS.2.1; go_simp; exact zO hK
 refine zS (fun w' hS hV K hK => ?_) ?_
 · have e5 := zQ hV 5; have q0 := hS.1; have q1 := hS.2.1; go_simp; exact zO hK
 refine zS (fun w' hS hV K hK => ?_) ?_
 · have e3 := zQ hV 3; have e6 := zQ hV 6; have q0 := hS.1; have q1 := hS.2.1; go_simp; exact zO hK
 refine zS (fun w' hS hV K hK => ?_) ?_
 · have e0 := zQ hV 0; have e7 := zQ hV 7; have q0 := hS.1; have q1 := hS.2.1; go_simp; refine (num_any p (x0 * y0) w' (by omega) hp2 HB.1 HB.2).mono ?_; rintro e w1 ⟨rfl, rfl⟩; exact zO hK
 refine zS (fun w' hS hV K hK => ?_) ?_
 · have e8 := zQ hV 8; have q0 := hS.1; have q1 := hS.2.1; go_simp; exact hK.out _ _ _ rfl rfl ⟨_, _, rfl, by have := Mk.lit (E := 2) hS.2.2 #[.int .i64 ((x0 * y0) % p)] (by simp [maxLen]); simpa [MkI, ints] using this⟩ (zG.alloc (Nat.le_refl _) _)
 refine zS (fun w' hS hV K hK => ?_) ?_
 · obtain ⟨A9, c9, e9, h9⟩ := hV 9 (by decide); have q0 := hS.1; have q1 := hS.2.1; go_simp; exact hK.out _ _ _ rfl rfl ⟨_, _, rfl, h9⟩ zG
 refine fun w' hS hV => ?_
 have e0 := zT hV 0
 have e1 := zT hV 1
 have e2 := zT hV 2
 have e3 := zT hV 3
 have e4 := zT hV 4
 have e5 := zT hV 5
 have e6 := zT hV 6
 have e7 := zT hV 7
 have e8 := zT hV 8
 obtain ⟨A9, c9, e9, h9⟩ := hV 9 (by decide)
 obtain ⟨A10, c10, e10, h10⟩ := hV 10 (by decide)
 simp only [e0, e1, e2, e3, e4, e5, e6, e7, e8, e9, e10]
 clear e0 e1 e2 e3 e4 e5 e6 e7 e8 e9 e10
 refine wpAny_done (by kernel_rfl) ?_ _
 go_wp2
 go_ret
 exact ⟨_, _, rfl, h10⟩
/-- The contract of the product for k steps. -/
def DblOk (p : Int) (k : Nat) : Prop := ∀ (A : Option Addr) (c : Nat) (st : List Int) (X : Option Addr) (cx : Nat) (xs : List Int) (Y : Option Addr) (cy : Nat) (ys : List Int) (w : World), k ≤ c → pw k ≤ cx → pw k ≤ cy →
 Rd w A k (ints st) → NumsL p st → Rd w X (pw k) (ints xs) → NumsL p xs → Rd w Y (pw k) (ints ys) → NumsL p ys →
 Calls Tryz.prog 215 #[.int .i64 p, .slice A k c, .slice X (pw k) cx, .slice Y (pw k) cy] w fun e w' => ∃ A' c', e = .returned (.slice A' (pw k) c') ∧ MkI w w' A' (pw k) c' (dblL p k st xs ys)
set_option maxHeartbeats 1600000 in
set_option maxRecDepth 8000 in
theorem doubled_succ (p : Int) (hp : 2 ≤ p) (hp2 : p ≤ 13) (k : Nat) (hk : k + 1 ≤ 4) (ih : DblOk p k) : DblOk p (k + 1) := by
 intro A c st X cx xs Y cy ys w hc hcx hcy ha hst hx hxs hy hys
 obtain ⟨ga, oa, rfl, hsk, hca⟩ := ha.int (show k < k + 1 by omega)
 obtain ⟨h, hh⟩ : ∃ h, h = pw k := ⟨_, rfl⟩
 have hpw : pw (k + 1) = 2 * h := by rw [pw_succ, hh]
 have h1 : 1 ≤ h := hh ▸ pw_pos k
 have h64 : h ≤ 8 := by have := pw_le (show k ≤ 3 by omega); rw [← hh] at this; exact this
 rw [hpw] at hcx hcy hx hy
 obtain ⟨gx, ox, rfl, hx2⟩ := hx.behind (show h < 2 * h by omega)
 obtain ⟨gy, oy, rfl, hy2⟩ := hy.behind (show h < 2 * h by omega)
 have hx1 := hx.cut (show h ≤ 2 * h by omega)
 have hy1 := hy.cut (show h ≤ 2 * h by omega)
 have ha1 := ha.cut (show k ≤ k + 1 by omega)
 have s1 := fun w => slice_head (g := gx) (o := ox) (c := cx) (m := 2 * h) (k := h) w (by omega) (by omega)
 have s2 := fun w => slice_rest (g := gx) (o := ox) (c := cx) (m := 2 * h) (k := h) w (by omega) (by omega)
 have s3 := fun w => slice_head (g := gy) (o := oy) (c := cy) (m := 2 * h) (k := h) w (by omega) (by omega)
 have s4 := fun w => slice_rest (g := gy) (o := oy) (c := cy) (m := 2 * h) (k := h) w (by omega) (by omega)
 have s5 := fun w => slice_head (g := ga) (o := oa) (c := c) (m := k + 1) (k := k) w (by omega) (by omega)
 have e9 : 2 * h - h = h := by omega
 simp only [e9] at s2 s4 hx2 hy2
 rw [ints_drop] at hx2 hy2
 rw [ints_take] at hx1 hy1 ha1
 have hst1 : NumsL p (st.take k) := fun v hv => hst v (List.mem_of_mem_take hv)
 have hxs1 : NumsL p (xs.take h) := fun v hv => hxs v (List.mem_of_mem_take hv)
 have hxs2 : NumsL p (xs.drop h) := fun v hv => hxs v (List.mem_of_mem_drop hv)
 have hys1 : NumsL p (ys.take h) := fun v hv => hys v (List.mem_of_mem_take hv)
 have hys2 : NumsL p (ys.drop h) := fun v hv => hys v (List.mem_of_mem_drop hv)
 obtain ⟨sk, hsk2⟩ : ∃ z, z = st[k] := ⟨_, rfl⟩
 obtain ⟨hs1, hs2⟩ := hst _ (List.getElem_mem hsk)
 rw [← hsk2] at hca hs1 hs2
 have IH := ih
 unfold DblOk at IH
 rw [← hh] at IH
 have hcs := hca
 rw [hpw]
 have hw1 : IntKind.i64.wrap (2 * (h : Int)) = 2 * (h : Int) := i64_fit _ (by omega) (by omega)
 have hkk : k < k + 1 := by omega
 have hkk2 : (k : Int) < (k : Int) + 1 := by omega
 have HH := Lib.hid hh
 have HPW := Lib.hid hpw
 have HSK := Lib.hid hsk2
 clear hh hpw hsk2 e9 ih
 go_enter Tryz.func215, Tryz.ntmps215
 go_wp2
 refine wp_obs 16 [[],[],[0,1],[],[],[3,4],[],[],[6,7],[],[],[9,10],[0,1,2],[3,4,5],[6,7,8],[9,10,11]] [VIs (.slice (some ⟨gx, ox, none⟩) (2 * h) cx), VIs (.int .i64 (h)), VIs (.slice (some ⟨gx, ox, none⟩) h cx), VIs (.slice (some ⟨gx, ox, none⟩) (2 * h) cx), VIs (.int .i64 (h)), VIs (.slice (some ⟨gx, ox + h, none⟩) h (cx - h)), VIs (.slice (some ⟨gy, oy, none⟩) (2 * h) cy), VIs (.int .i64 (h)), VIs (.slice (some ⟨gy, oy, none⟩) h cy), VIs (.slice (some ⟨gy, oy, none⟩) (2 * h) cy), VIs (.int .i64 (h)), VIs (.slice (some ⟨gy, oy + h, none⟩) h (cy - h)), VIs (.slice (some ⟨gx, ox, none⟩) h cx), VIs (.slice (some ⟨gx, ox + h, none⟩) h (cx - h)), VIs (.slice (some ⟨gy, oy, none⟩) h cy), VIs (.slice (some ⟨gy, oy + h, none⟩) h (cy - h))] (fun w' => Below w.heap.size w w') (by kernel_rfl) (by kernel_rfl) (fun _ _ h hb => h.trans (hb.mono h.size)) (zG.drew) (fun x => ?_)
 refine zS (fun w' hS hV K hK => ?_) ?_
 · go_simp; exact zO hK
 refine zS (fun w' hS hV K hK => ?_) ?_
 · go_simp; exact zO hK
 refine zS (fun w' hS hV K hK => ?_) ?_
 · have e0 := zQ hV 0; have e1 := zQ hV 1; go_simp; exact zO hK
 refine zS (fun w' hS hV K hK => ?_) ?_
 · go_simp; exact zO hK
 refine zS (fun w' hS hV K hK => ?_) ?_
 · go_simp; exact zO hK
 refine zS (fun w' hS hV K hK => ?_) ?_
 · have e3 := zQ hV 3; have e4 := zQ hV 4; go_simp; exact zO hK
 refine zS (fun w' hS hV K hK => ?_) ?_
 · go_simp; exact zO hK
 refine zS (fun w' hS hV K hK => ?_) ?_
 · go_simp; exact zO hK
 refine zS (fun w' hS hV K hK => ?_) ?_
 · have e6 := zQ hV 6; have e7 := zQ hV 7; go_simp; exact zO hK
 refine zS (fun w' hS hV K hK => ?_) ?_
 · go_simp; exact zO hK
 refine zS (fun w' hS hV K hK => ?_) ?_
 · go_simp; exact zO hK
 refine zS (fun w' hS hV K hK => ?_) ?_
 · have e9 := zQ hV 9; have e10 := zQ hV 10; go_simp; exact zO hK
 refine zS (fun w' hS hV K hK => ?_) ?_
 · have e2 := zQ hV 2; go_simp; exact zO hK
 refine zS (fun w' hS hV K hK => ?_) ?_
 · have e5 := zQ hV 5; go_simp; exact zO hK
 refine zS (fun w' hS hV K hK => ?_) ?_
 · have e8 := zQ hV 8; go_simp; exact zO hK
 refine zS (fun w' hS hV K hK => ?_) ?_
 · have e11 := zQ hV 11; go_simp; exact zO hK
 refine fun w' hS hV => ?_
 have e0 := zT hV 0
 have e1 := zT hV 1
 have e2 := zT hV 2
 have e3 := zT hV 3
 have e4 := zT hV 4
 have e5 := zT hV 5
 have e6 := zT hV 6
 have e7 := zT hV 7
 have e8 := zT hV 8
 have e9 := zT hV 9
 have e10 := zT hV 10
 have e11 := zT hV 11
 have e12 := zT hV 12
 have e13 := zT hV 13
 have e14 := zT hV 14
 have e15 := zT hV 15
 simp only [e0, e1, e2, e3, e4, e5, e6, e7, e8, e9, e10, e11, e12, e13, e14, e15]
 clear e0 e1 e2 e3 e4 e5 e6 e7 e8 e9 e10 e11 e12 e13 e14 e15
 refine wpAny_done (by kernel_rfl) ?_ _
 go_wp2
 refine wp_obs 19 [[],[],[],[],[],[1,2,3,4],[],[],[],[],[8,9],[],[6,7,8,9,10,11],[],[],[13,14],[13,14,15],[0,1,2,3,4,5,6,7,8,9,10,11,12,13,14,15,16],[0,1,2,3,4,5,6,7,8,9,10,11,12,13,14,15,16,17]] [VIs (.int .i64 (p)), VIs (.int .i64 (p)), VIs (.slice (some ⟨ga, oa, none⟩) k c), VIs (.slice (some ⟨gx, ox, none⟩) h cx), VIs (.slice (some ⟨gy, oy, none⟩) h cy), VSl w h (dblL p k (st.take k) (xs.take h) (ys.take h)), VIs (.int .i64 (p)), VIs (.slice (some ⟨ga, oa, none⟩) k c), VIs (.int .i64 (p)), VIs (.slice (some ⟨gy, oy + h, none⟩) h (cy - h)), VSl w h (conjL p (ys.drop h)), VIs (.slice (some ⟨gx, ox + h, none⟩) h (cx - h)), VSl w h (dblL p k (st.take k) (conjL p (ys.drop h)) (xs.drop h)), VIs (.slice (some ⟨ga, oa, none⟩) (k + 1) c), VIs (.int .i64 (k)), VIs (.pointer (some ⟨ga, oa + k, none⟩)), VIs (.int .i64 (sk)), VSl w h (plusL p (dblL p k (st.take k) (xs.take h) (ys.take h)) (dblL p k (st.take k) (conjL p (ys.drop h)) (xs.drop h)) sk), VSl w h (plusL p (dblL p k (st.take k) (xs.take h) (ys.take h)) (dblL p k (st.take k) (conjL p (ys.drop h)) (xs.drop h)) sk)] (fun w' => w'.cell? ⟨ga, oa + k, none⟩ = some (.int .i64 sk) ∧ Below w.heap.size w w') (by kernel_rfl) (by kernel_rfl) (fun _ _ h hb => ⟨(hb.cell (World.block_lt_of_cell? _ _ h.1)).trans h.1, h.2.trans (hb.mono h.2.size)⟩) (⟨((hS.drew).cell (World.block_lt_of_cell? _ _ hcs)).trans hcs, hS.drew⟩) (fun x => ?_)
 refine zS (fun w' hS hV K hK => ?_) ?_
 · have q0 := hS.1; go_simp; exact zO hK
 refine zS (fun w' hS hV K hK => ?_) ?_
 · have q0 := hS.1; go_simp; exact zO hK
 refine zS (fun w' hS hV K hK => ?_) ?_
 · have q0 := hS.1; go_simp; exact zO hK
 refine zS (fun w' hS hV K hK => ?_) ?_
 · have q0 := hS.1; go_simp; exact zO hK
 refine zS (fun w' hS hV K hK => ?_) ?_
 · have q0 := hS.1; go_simp; exact zO hK
 refine zS (fun w' hS hV K hK => ?_) ?_
 · have e1 := zQ hV 1; have e2 := zQ hV 2; have e3 := zQ hV 3; have e4 := zQ hV 4; have q0 := hS.1; go_simp; refine (IH _ c (st.take k) _ cx (xs.take h) _ cy (ys.take h) w' (by omega) (by omega) (by omega) (ha1.below hS.2) hst1 (hx1.below hS.2) hxs1 (hy1.below hS.2) hys1).mono ?_; rintro e v1 ⟨A9, c9, rfl, hM⟩; exact hK.out _ _ _ rfl rfl ⟨_, _, rfl, hM.after hS.2⟩ hM.b
 refine zS (fun w' hS hV K hK => ?_) ?_
 · have q0 := hS.1; go_simp; exact zO hK
 refine zS (fun w' hS hV K hK => ?_) ?_
 · have q0 := hS.1; go_simp; exact zO hK
 refine zS (fun w' hS hV K hK => ?_) ?_
 · have q0 := hS.1; go_simp; exact zO hK
 refine zS (fun w' hS hV K hK => ?_) ?_
 · have q0 := hS.1; go_simp; exact zO hK
 refine zS (fun w' hS hV K hK => ?_) ?_
 · have e8 := zQ hV 8; have e9 := zQ hV 9; have q0 := hS.1; go_simp; refine (conjugate_any p _ h _ (ys.drop h) w' hp hp2 (by omega) (by omega) (hy2.below hS.2) hys2).mono ?_; rintro e v1 ⟨A9, c9, rfl, hM⟩; exact hK.out _ _ _ rfl rfl ⟨_, _, rfl, hM.after hS.2⟩ hM.b
 refine zS (fun w' hS hV K hK => ?_) ?_
 · have q0 := hS.1; go_simp; exact zO hK
 refine zS (fun w' hS hV K hK => ?_) ?_
 · have e6 := zQ hV 6; have e7 := zQ hV 7; obtain ⟨A10, c10, e10, h10⟩ := hV 10 (by decide); have e11 := zQ hV 11; have q0 := hS.1; go_simp; refine (IH _ c (st.take k) _ c10 (conjL p (ys.drop h)) _ (cx - h) (xs.drop h) w' (by omega) h10.2.cap (by omega) (ha1.below hS.2) hst1 h10.rd (conjL_nums (by omega) hys2) (hx2.below hS.2) hxs2).mono ?_; rintro e v1 ⟨A9, c9, rfl, hM⟩; exact hK.out _ _ _ rfl rfl ⟨_, _, rfl, hM.after hS.2⟩ hM.b
 refine zS (fun w' hS hV K hK => ?_) ?_
 · have q0 := hS.1; go_simp; exact zO hK
 refine zS (fun w' hS hV K hK => ?_) ?_
 · have q0 := hS.1; go_simp; exact zO hK
 refine zS (fun w' hS hV K hK => ?_) ?_
 · have e13 := zQ hV 13; have e14 := zQ hV 14; have q0 := hS.1; go_simp; exact zO hK
 refine zS (fun w' hS hV K hK => ?_) ?_
 · have e15 := zQ hV 15; have q0 := hS.1; go_simp; exact zO hK
 refine zS (fun w' hS hV K hK => ?_) ?_
 · have e0 := zQ hV 0; obtain ⟨A5, c5, e5, h5⟩ := hV 5 (by decide); obtain ⟨A10, c10, e10, h10⟩ := hV 10 (by decide); obtain ⟨A12, c12, e12, h12⟩ := hV 12 (by decide); have e16 := zQ hV 16; have q0 := hS.1; go_simp; refine (plus_any p _ h _ _ h _ sk _ _ w' hp hp2 (by omega) (Nat.le_refl _) h5.rd (dblL_nums (by omega) _ _ _ _) h12.rd (dblL_nums (by omega) _ _ _ _) (by omega) (by omega)).mono ?_; rintro e v1 ⟨A9, c9, rfl, hM⟩; exact hK.out _ _ _ rfl rfl ⟨_, _, rfl, hM.after hS.2⟩ hM.b
 refine zS (fun w' hS hV K hK => ?_) ?_
 · obtain ⟨A5, c5, e5, h5⟩ := hV 5 (by decide); obtain ⟨A10, c10, e10, h10⟩ := hV 10 (by decide); obtain ⟨A12, c12, e12, h12⟩ := hV 12 (by decide); obtain ⟨A17, c17, e17, h17⟩ := hV 17 (by decide); have q0 := hS.1; go_simp; exact hK.out _ _ _ rfl rfl ⟨_, _, rfl, h17⟩ zG
 refine fun w' hS hV => ?_
 have e0 := zT hV 0
 have e1 := zT hV 1
 have e2 := zT hV 2
 have e3 := zT hV 3
 have e4 := zT hV 4
 obtain ⟨A5, c5, e5, h5⟩ := hV 5 (by decide)
 have e6 := zT hV 6
 have e7 := zT hV 7
 have e8 := zT hV 8
 have e9 := zT hV 9
 obtain ⟨A10, c10, e10, h10⟩ := hV 10 (by decide)
 have e11 := zT hV 11
 obtain ⟨A12, c12, e12, h12⟩ := hV 12 (by decide)
 have e13 := zT hV 13
 have e14 := zT hV 14
 have e15 := zT hV 15
 have e16 := zT hV 16
 obtain ⟨A17, c17, e17, h17⟩ := hV 17 (by decide)
 obtain ⟨A18, c18, e18, h18⟩ := hV 18 (by decide)
 simp only [e0, e1, e2, e3, e4, e5, e6, e7, e8, e9, e10, e11, e12, e13, e14, e15, e16, e17, e18]
 clear e0 e1 e2 e3 e4 e5 e6 e7 e8 e9 e10 e11 e12 e13 e14 e15 e16 e17 e18
 refine wpAny_done (by kernel_rfl) ?_ _
 have hB6 := hS.2
 obtain ⟨P1, hP1⟩ : ∃ L, L = plusL p (dblL p k (st.take k) (xs.take h) (ys.take h)) (dblL p k (st.take k) (conjL p (ys.drop h)) (xs.drop h)) sk := ⟨_, rfl⟩
 have HM6 := Lib.hid h18
 obtain ⟨A6, hA6⟩ : ∃ L, L = A18 := ⟨_, rfl⟩
 obtain ⟨c6, hc6⟩ : ∃ L, L = c18 := ⟨_, rfl⟩
 rw [← hA6, ← hc6, ← hP1] at HM6
 rw [← hA6, ← hc6]
 clear hA6 hc6 hV hS h5 h10 h12 h17 h18
 go_wp2_with fail
 refine (IH _ c (st.take k) _ (cy - h) (ys.drop h) _ cx (xs.take h) _ (by omega) (by omega) (by omega) (ha1.below hB6) hst1 (hy2.below hB6) hys2 (hx1.below hB6) hxs1).mono ?_
 rintro e w2 ⟨A2, c2, rfl, hM2⟩
 have hB2 := hB6.trans (hM2.b.mono hB6.size)
 have r2 := hM2.rd
 have HM7 : Hid (MkI w w2 A6 h c6 P1) := Lib.hid (HM6.out.below hM2.b)
 clear hM2 hB6 HM6
 go_wp2_with fail
 refine (conjugate_any p _ h _ (ys.take h) _ hp hp2 (by omega) (by omega) (hy1.below hB2) hys1).mono ?_
 rintro e w3 ⟨A3, c3, rfl, hM3⟩
 have hB3 := hB2.trans (hM3.b.mono hB2.size)
 have r3 := r2.below hM3.b
 have HM8 : Hid (MkI w w3 A6 h c6 P1) := Lib.hid (HM7.out.below hM3.b)
 clear hB2 r2 HM7
 go_wp2_with fail
 refine (IH _ c (st.take k) _ (cx - h) (xs.drop h) _ c3 (conjL p (ys.take h)) _ (by omega) (by omega) hM3.2.cap (ha1.below hB3) hst1 (hx2.below hB3) hxs2 hM3.rd (conjL_nums (by omega) hys1)).mono ?_
 rintro e w4 ⟨A4, c4, rfl, hM4⟩
 have hB4 := hB3.trans (hM4.b.mono hB3.size)
 have r4 := r3.below hM4.b
 have HM9 : Hid (MkI w w4 A6 h c6 P1) := Lib.hid (HM8.out.below hM4.b)
 clear hB3 r3 HM8 hM3
 go_wp2_with fail
 refine (plus_any p _ h _ _ h _ 1 _ _ _ hp hp2 (by omega) (Nat.le_refl _) r4 (dblL_nums (by omega) _ _ _ _) hM4.rd (dblL_nums (by omega) _ _ _ _) (by omega) (by omega)).mono ?_
 rintro e w5 ⟨A5, c5, rfl, hM5⟩
 have HMA : Hid (MkI w w5 A6 h c6 P1) := Lib.hid (HM9.out.below hM5.b)
 have HRA := Lib.hid hM5.rd
 clear r4 hM4 hM5 HM9
 go_wp2_with (at_builtin; refine wpList_appAll w _ rfl _ _ rfl A6 h c6 _ A5 h c5 _ HMA.out HRA.out (by omega) (by omega) (by omega) rfl rfl ?_; intro A' c' w' hM' _)
 go_ret
 refine ⟨A', c', by rw [show 2 * h = h + h by omega]; rfl, ?_⟩
 rw [show 2 * h = h + h by omega]
 rw [hP1] at hM'
 have e : dblL p (k + 1) st xs ys = plusL p (dblL p k (st.take k) (xs.take h) (ys.take h)) (dblL p k (st.take k) (conjL p (ys.drop h)) (xs.drop h)) sk ++ plusL p (dblL p k (st.take k) (ys.drop h) (xs.take h)) (dblL p k (st.take k) (xs.drop h) (conjL p (ys.take h))) 1 := by
  show plusL p _ _ (st.getD k 0) ++ _ = _
  rw [← HH.out, HSK.out, List.getD_eq_getElem?_getD, List.getElem?_eq_getElem hsk]
  rfl
 rw [e]
 exact hM'
/-- The product of elements of a doubling. -/
theorem doubled_any (p : Int) (hp : 2 ≤ p) (hp2 : p ≤ 13) (k : Nat) (hk : k ≤ 4) : DblOk p k := by
 induction k with
 | zero => exact fun A c st X cx xs Y cy ys w _ _ _ _ _ hx hxs hy hys => doubled_zero p hp hp2 A c X cx xs Y cy ys w hx hxs hy hys
 | succ k ih => exact doubled_succ p hp hp2 k hk (ih (by omega))
set_option maxRecDepth 8000 in
theorem dfield_any (p : Int) (A : Option Addr) (k c : Nat) (w : World) :
    Calls Tryz.prog 214 #[.agg #[.int .i64 p, .slice A k c]] w fun e w' => e = .returned (.int .i64 p) ∧ Below w.heap.size w w' := by
 go_enter Tryz.func214, Tryz.ntmps214
 go_wp2
 go_ret
 exact ⟨rfl, zG.alloc (Nat.le_refl _) _⟩
set_option maxRecDepth 8000 in
theorem dsize_any (p : Int) (A : Option Addr) (k c : Nat) (w : World) (hk : k ≤ 4) :
    Calls Tryz.prog 213 #[.agg #[.int .i64 p, .slice A k c]] w fun e w' => e = .returned (.int .i64 (pw k : Nat)) ∧ Below w.heap.size w w' := by
 have hs : IntKind.i64.wrap (2 ^ k) = (pw k : Int) := by rw [IntWalk.i64_left]; exact wrap_pw k (by omega)
 go_enter Tryz.func213, Tryz.ntmps213
 go_wp2
 go_ret
 exact ⟨rfl, zG.alloc (Nat.le_refl _) _⟩
set_option maxHeartbeats 800000 in
set_option maxRecDepth 8000 in
theorem dtimes_any (p : Int) (hp : 2 ≤ p) (hp2 : p ≤ 13) (k : Nat) (hk : k ≤ 4) (A : Option Addr) (c : Nat) (st : List Int) (X : Option Addr) (cx : Nat) (xs : List Int) (Y : Option Addr) (cy : Nat) (ys : List Int) (w : World) (hc : k ≤ c) (hcx : pw k ≤ cx) (hcy : pw k ≤ cy)
    (ha : Rd w A k (ints st)) (hst : NumsL p st) (hx : Rd w X (pw k) (ints xs)) (hxs : NumsL p xs) (hy : Rd w Y (pw k) (ints ys)) (hys : NumsL p ys) :
    Calls Tryz.prog 109 #[.agg #[.int .i64 p, .slice A k c], .slice X (pw k) cx, .slice Y (pw k) cy] w fun e w' => ∃ A' c', e = .returned (.slice A' (pw k) c') ∧ MkI w w' A' (pw k) c' (dblL p k st xs ys) := by
 have hB0 : Below w.heap.size w (w.alloc (.cells #[.int .i64 p, .slice A k c] 51)) := zG.alloc (Nat.le_refl _) _
 have k0 : Blk (w.alloc (.cells #[.int .i64 p, .slice A k c] 51)) w.heap.size 51 #[.int .i64 p, .slice A k c] := Blk.new _ _ _
 go_enter Tryz.func109, Tryz.ntmps109
 go_wp2
 refine wp_obs 8 [[],[0],[],[2],[],[],[0,1,2,3,4,5],[0,1,2,3,4,5,6]] [VIs (.agg #[.int .i64 p, .slice A k c]), VIs (.int .i64 (p)), VIs (.pointer (some ⟨w.heap.size, 1, none⟩)), VIs (.slice A k c), VIs (.slice X (pw k) cx), VIs (.slice Y (pw k) cy), VSl w (pw k) (dblL p k st xs ys), VSl w (pw k) (dblL p k st xs ys)] (fun w' => Blk w' w.heap.size 51 #[.int .i64 p, .slice A k c] ∧ Below w.heap.size w w') (by kernel_rfl) (by kernel_rfl) (fun _ _ h hb => ⟨h.1.below hb h.1.lt, h.2.trans (hb.mono h.2.size)⟩) (⟨k0.drew, hB0.drew⟩) (fun x => ?_)
 refine zS (fun w' hS hV K hK => ?_) ?_
 · obtain ⟨q0, q1⟩ := hS.1.two; go_simp; exact zO hK
 refine zS (fun w' hS hV K hK => ?_) ?_
 · have e0 := zQ hV 0; obtain ⟨q0, q1⟩ := hS.1.two; go_simp; refine (dfield_any p A k c w').mono ?_; rintro e v1 ⟨rfl, hb⟩; exact hK.out _ _ _ rfl rfl rfl hb
 refine zS (fun w' hS hV K hK => ?_) ?_
 · obtain ⟨q0, q1⟩ := hS.1.two; go_simp; exact zO hK
 refine zS (fun w' hS hV K hK => ?_) ?_
 · have e2 := zQ hV 2; obtain ⟨q0, q1⟩ := hS.1.two; go_simp; exact zO hK
 refine zS (fun w' hS hV K hK => ?_) ?_
 · obtain ⟨q0, q1⟩ := hS.1.two; go_simp; exact zO hK
 refine zS (fun w' hS hV K hK => ?_) ?_
 · obtain ⟨q0, q1⟩ := hS.1.two; go_simp; exact zO hK
 refine zS (fun w' hS hV K hK => ?_) ?_
 · have e1 := zQ hV 1; have e3 := zQ hV 3; have e4 := zQ hV 4; have e5 := zQ hV 5; obtain ⟨q0, q1⟩ := hS.1.two; go_simp; refine (doubled_any p hp hp2 k hk A c st X cx xs Y cy ys w' hc hcx hcy (ha.below hS.2) hst (hx.below hS.2) hxs (hy.below hS.2) hys).mono ?_; rintro e v1 ⟨A9, c9, rfl, hM⟩; exact hK.out _ _ _ rfl rfl ⟨_, _, rfl, hM.after hS.2⟩ hM.b
 refine zS (fun w' hS hV K hK => ?_) ?_
 · obtain ⟨A6, c6, e6, h6⟩ := hV 6 (by decide); obtain ⟨q0, q1⟩ := hS.1.two; go_simp; exact hK.out _ _ _ rfl rfl ⟨_, _, rfl, h6⟩ zG
 refine fun w' hS hV => ?_
 have e0 := zT hV 0
 have e1 := zT hV 1
 have e2 := zT hV 2
 have e3 := zT hV 3
 have e4 := zT hV 4
 have e5 := zT hV 5
 obtain ⟨A6, c6, e6, h6⟩ := hV 6 (by decide)
 obtain ⟨A7, c7, e7, h7⟩ := hV 7 (by decide)
 simp only [e0, e1, e2, e3, e4, e5, e6, e7]
 clear e0 e1 e2 e3 e4 e5 e6 e7
 refine wpAny_done (by kernel_rfl) ?_ _
 go_wp2
 go_ret
 exact ⟨_, _, rfl, h7⟩
/-- The norm of an element. -/
def dnormL (p : Int) (k : Nat) (st xs : List Int) : Int := (dblL p k st xs (conjL p xs)).getD 0 0
set_option maxHeartbeats 800000 in
set_option maxRecDepth 8000 in
theorem dnorm_any (p : Int) (hp : 2 ≤ p) (hp2 : p ≤ 13) (k : Nat) (hk : k ≤ 4) (A : Option Addr) (c : Nat) (st : List Int) (X : Option Addr) (cx : Nat) (xs : List Int) (w : World) (hc : k ≤ c) (hcx : pw k ≤ cx)
    (ha : Rd w A k (ints st)) (hst : NumsL p st) (hx : Rd w X (pw k) (ints xs)) (hxs : NumsL p xs) :
    Calls Tryz.prog 110 #[.agg #[.int .i64 p, .slice A k c], .slice X (pw k) cx] w fun e w' => e = .returned (.int .i64 (dnormL p k st xs)) ∧ Below w.heap.size w w' := by
 have hB0 : Below w.heap.size w (w.alloc (.cells #[.int .i64 p, .slice A k c] 51)) := zG.alloc (Nat.le_refl _) _
 have k0 : Blk (w.alloc (.cells #[.int .i64 p, .slice A k c] 51)) w.heap.size 51 #[.int .i64 p, .slice A k c] := Blk.new _ _ _
 have hpk : pw k ≤ 16 := pw_le hk
 go_enter Tryz.func110, Tryz.ntmps110
 go_wp2
 refine wp_obs 10 [[],[],[],[2],[],[2,3,4],[0,1,2,3,4,5],[0,1,2,3,4,5,6],[0,1,2,3,4,5,6,7],[0,1,2,3,4,5,6,7,8]] [VIs (.agg #[.int .i64 p, .slice A k c]), VIs (.slice X (pw k) cx), VIs (.agg #[.int .i64 p, .slice A k c]), VIs (.int .i64 (p)), VIs (.slice X (pw k) cx), VSl w (pw k) (conjL p xs), VSl w (pw k) (dblL p k st xs (conjL p xs)), VCell (.int .i64 (dnormL p k st xs)), VIs (.int .i64 (dnormL p k st xs)), VIs (.int .i64 (dnormL p k st xs))] (fun w' => Blk w' w.heap.size 51 #[.int .i64 p, .slice A k c] ∧ Below w.heap.size w w') (by kernel_rfl) (by kernel_rfl) (fun _ _ h hb => ⟨h.1.below hb h.1.lt, h.2.trans (hb.mono h.2.size)⟩) (⟨k0.drew, hB0.drew⟩) (fun x => ?_)
 refine zS (fun w' hS hV K hK => ?_) ?_
 · obtain ⟨q0, q1⟩ := hS.1.two; go_simp; exact zO hK
 refine zS (fun w' hS hV K hK => ?_) ?_
 · obtain ⟨q0, q1⟩ := hS.1.two; go_simp; exact zO hK
 refine zS (fun w' hS hV K hK => ?_) ?_
 · obtain ⟨q0, q1⟩ := hS.1.two; go_simp; exact zO hK
 refine zS (fun w' hS hV K hK => ?_) ?_
 · have e2 := zQ hV 2; obtain ⟨q0, q1⟩ := hS.1.two; go_simp; refine (dfield_any p A k c w').mono ?_; rintro e v1 ⟨rfl, hb⟩; exact hK.out _ _ _ rfl rfl rfl hb
 refine zS (fun w' hS hV K hK => ?_) ?_
 · obtain ⟨q0, q1⟩ := hS.1.two; go_simp; exact zO hK
 refine zS (fun w' hS hV K hK => ?_) ?_
 · have e3 := zQ hV 3; have e4 := zQ hV 4; obtain ⟨q0, q1⟩ := hS.1.two; go_simp; refine (conjugate_any p X (pw k) cx xs w' hp hp2 (by omega) (pw_pos k) (hx.below hS.2) hxs).mono ?_; rintro e v1 ⟨A9, c9, rfl, hM⟩; exact hK.out _ _ _ rfl rfl ⟨_, _, rfl, hM.after hS.2⟩ hM.b
 refine zS (fun w' hS hV K hK => ?_) ?_
 · have e0 := zQ hV 0; have e1 := zQ hV 1; obtain ⟨A5, c5, e5, h5⟩ := hV 5 (by decide); obtain ⟨q0, q1⟩ := hS.1.two; go_simp; refine (dtimes_any p hp hp2 k hk A c st X cx xs _ c5 (conjL p xs) w' hc hcx h5.2.cap (ha.below hS.2) hst (hx.below hS.2) hxs h5.rd (conjL_nums (by omega) hxs)).mono ?_; rintro e v1 ⟨A9, c9, rfl, hM⟩; exact hK.out _ _ _ rfl rfl ⟨_, _, rfl, hM.after hS.2⟩ hM.b
 refine zS (fun w' hS hV K hK => ?_) ?_
 · obtain ⟨A5, c5, e5, h5⟩ := hV 5 (by decide); obtain ⟨A6, c6, e6, h6⟩ := hV 6 (by decide); obtain ⟨q0, q1⟩ := hS.1.two; obtain ⟨g, o1, rfl, hgk, hgc⟩ := h6.rd.int (pw_pos k); rw [Nat.add_zero] at hgc; have h0 : 0 < pw k := pw_pos k; go_simp; exact hK.out _ _ _ rfl rfl ⟨_, rfl, by rw [hgc]; unfold dnormL; rw [List.getD_eq_getElem?_getD, List.getElem?_eq_getElem hgk]; rfl⟩ zG
 refine zS (fun w' hS hV K hK => ?_) ?_
 · obtain ⟨A5, c5, e5, h5⟩ := hV 5 (by decide); obtain ⟨A6, c6, e6, h6⟩ := hV 6 (by decide); obtain ⟨p7, e7, h7⟩ := hV 7 (by decide); obtain ⟨q0, q1⟩ := hS.1.two; skip; go_simp; exact zO hK
 refine zS (fun w' hS hV K hK => ?_) ?_
 · obtain ⟨A5, c5, e5, h5⟩ := hV 5 (by decide); obtain ⟨A6, c6, e6, h6⟩ := hV 6 (by decide); obtain ⟨p7, e7, h7⟩ := hV 7 (by decide); have e8 := zQ hV 8; obtain ⟨q0, q1⟩ := hS.1.two; go_simp; exact zO hK
 refine fun w' hS hV => ?_
 have e0 := zT hV 0
 have e1 := zT hV 1
 have e2 := zT hV 2
 have e3 := zT hV 3
 have e4 := zT hV 4
 obtain ⟨A5, c5, e5, h5⟩ := hV 5 (by decide)
 obtain ⟨A6, c6, e6, h6⟩ := hV 6 (by decide)
 obtain ⟨p7, e7, h7⟩ := hV 7 (by decide)
 have e8 := zT hV 8
 have e9 := zT hV 9
 simp only [e0, e1, e2, e3, e4, e5, e6, e7, e8, e9]
 clear e0 e1 e2 e3 e4 e5 e6 e7 e8 e9
 refine wpAny_done (by kernel_rfl) ?_ _
 go_wp2
 go_ret
 exact ⟨rfl, hS.2⟩
end Go.Proofs.YtmkjdpnoloofjaaGreat
namespace Go.Proofs.YtmkjdpnoloofjaaGreat
section
variable {p : Int} {sq : List Int}
theorem reg_ne (hp : 0 < p) (hs : NumsL p sq) (hr : regB sq = true) {i : Nat} (hi : i < sq.length) : sq.getD i 0 % p ≠ 0 := by
 have h := hs.getD hp i
 rw [Int.emod_eq_of_lt h.1 h.2]
 exact regB_at hr (getD_mem 0 hi)
theorem facZ_ne (hr : ∀ i, i < sq.length → sq.getD i 0 % p ≠ 0) {i : Nat} (hi : i < sq.length) (m : Nat) : facZ sq (2 ^ i) (2 ^ i ^^^ m) % p ≠ 0 := fun h => by
 have h1 := facZ_cocycle sq (2 ^ i) (2 ^ i) m
 rw [facZ_same sq hi, Nat.xor_self, facZ_zero_left, Int.mul_one] at h1
 apply hr i hi
 rw [h1, Int.mul_emod, h, Int.mul_zero, Int.zero_emod]
theorem neg_same {a : Int} (hP : isP p = true) (h : (-a) % p = a % p) : a % p = 0 := by
 have h3 := isP_ge hP
 by_cases h0 : a % p = 0
 · exact h0
 · refine absurd ?_ (neg_ne hP ⟨Int.emod_nonneg a (by omega), Int.emod_lt_of_pos a (by omega)⟩ h0)
   obtain ⟨k, hk⟩ := cg_wit.1 h
   obtain ⟨j, hj⟩ := cg_wit.1 (cg_self p a)
   exact cg_wit.2 ⟨2 * j - k, by grind⟩
/-- What passes all vectors as its involute does is a number. -/
theorem Cl.scalar (hP : isP p = true) (hp : 0 < p) (h6 : sq.length ≤ 6) (hr : ∀ i, i < sq.length → sq.getD i 0 % p ≠ 0) {z : Cl p sq}
    (h : ∀ i, i < sq.length → z.invo * Cl.vec hp (unitRow sq.length i) = Cl.vec hp (unitRow sq.length i) * z) : z = z.co 0 * Cl.one hp := Cl.same fun m hm => by
 rw [Cl.sm_co _ _ hm, Int.mul_emod, Cl.one_co hp hm, ← Int.mul_emod]
 by_cases h0 : m = 0
 · subst h0; rw [if_pos rfl, Int.mul_one]
 rw [if_neg h0, Int.mul_zero, Int.zero_emod]
 obtain ⟨i, hi⟩ := Nat.exists_testBit_of_ne_zero h0
 have hin : i < sq.length := by
  rcases Nat.lt_or_ge i sq.length with h1 | h1
  · exact h1
  · rw [Nat.testBit_lt_two_pow (Nat.lt_of_lt_of_le hm (Nat.pow_le_pow_right (by decide) h1))] at hi
    cases hi
 have hm2 : 2 ^ i ^^^ m < pw sq.length := xor_lt (two_lt hin) hm
 have ht := testBit_own i m
 have hx : 2 ^ i ^^^ (2 ^ i ^^^ m) = m := xor_self_left _ _
 have hf := facZ_ne hr hin (2 ^ i ^^^ m)
 rw [hx] at hf
 have e := congrArg (fun y : Cl p sq => y.co (2 ^ i ^^^ m) % p) (h i hin)
 have hz : ∀ k, k < sq.length → k ≠ i → (unitRow sq.length i).getD k 0 = 0 := fun k hk hne => by
  rw [unitRow_getD hk, if_neg fun e => hne e.symm]
 rw [Cl.invo_vec_co hp h6 _ _ hm2, Cl.vec_mul_co hp _ _ hm2,
  sumTo_one i hin fun k hk hne => by unfold vmT; rw [hz k hk hne, Int.zero_mul, Int.zero_mul, Int.mul_zero],
  sumTo_one i hin fun k hk hne => by rw [hz k hk hne, Int.zero_mul, Int.zero_mul], ht, hi] at e
 unfold vmT at e
 rw [hx, unitRow_getD hin, if_pos rfl, Int.one_mul] at e
 simp only [Bool.not_true, Bool.false_eq_true, if_false, Int.neg_mul, Int.one_mul] at e
 have e2 := neg_same hP e
 by_cases hc : z.co m % p = 0
 · exact hc
 · exact absurd e2 (mul_ne hP hc hf)
theorem prod_pass (hp : 0 < p) (hP : isP p = true) (h6 : sq.length ≤ 6) {L : List (List Int)} (hL : Good p sq L) {w : List Int} (hw : w.length = sq.length) :
    (Cl.prod hp L : Cl p sq).invo * Cl.vec hp w = Cl.vec hp (refls p sq L w) * Cl.prod hp L := by
 have h1 := Cl.prod_acts hp hP h6 L hL.ne hw
 have h2 := congrArg (fun y : Cl p sq => y * Cl.prod hp L) h1
 rw [Cl.mul_assoc, Cl.prod_norm' hp hP h6, Cl.mul_sm, Cl.mul_one, Cl.sm_mul] at h2
 exact Cl.sm_cancel hP (nrmP_ne hP L hL.ne) h2
/-- Products of vectors that make the same reflections are multiples of each other. -/
theorem prod_same (hp : 0 < p) (hP : isP p = true) (h6 : sq.length ≤ 6) (hr : ∀ i, i < sq.length → sq.getD i 0 % p ≠ 0) {L M : List (List Int)} (hL : Good p sq L) (hM : Good p sq M)
    (h : ∀ i, i < sq.length → refls p sq L (unitRow sq.length i) = refls p sq M (unitRow sq.length i)) : ∃ k : Int, (Cl.prod hp L : Cl p sq) = k * Cl.prod hp M := by
 obtain ⟨X, hX⟩ : ∃ X : Cl p sq, X = Cl.prod hp L := ⟨_, rfl⟩
 obtain ⟨Y, hY⟩ : ∃ Y : Cl p sq, Y = Cl.prod hp M := ⟨_, rfl⟩
 have n1 : Y * Y.rev = nrmP sq M * Cl.one hp := by rw [hY]; exact Cl.prod_norm hp hP h6 M
 have hz : (Y.rev * X) = (Y.rev * X).co 0 * Cl.one hp := Cl.scalar hP hp h6 hr fun i hi => by
  have a1 := prod_pass hp hP h6 hL (unitRow_len sq.length i)
  have a2 := prod_pass hp hP h6 hM (unitRow_len sq.length i)
  rw [h i hi] at a1
  obtain ⟨v, hv⟩ : ∃ v, v = refls p sq M (unitRow sq.length i) := ⟨_, rfl⟩
  rw [← hX, ← hv] at a1
  rw [← hY, ← hv] at a2
  have a3 := congrArg (fun y : Cl p sq => y.rev.invo) a2
  rw [Cl.rev_mul h6, Cl.rev_mul h6, Cl.vec_rev, Cl.vec_rev, Cl.invo_mul, Cl.invo_mul, Cl.vec_invo, Cl.vec_invo, Cl.rev_invo, Cl.invo_invo, Cl.sm_mul, Cl.mul_sm] at a3
  have a4 : Cl.vec hp (unitRow sq.length i) * Y.rev = Y.rev.invo * Cl.vec hp v := by
   have := congrArg (fun y : Cl p sq => (-1 : Int) * y) a3
   simp only [Cl.sm_sm] at this
   rw [show (-1 : Int) * -1 = 1 by rfl, Cl.one_sm, Cl.one_sm] at this
   exact this
  rw [Cl.invo_mul, Cl.mul_assoc, a1, ← Cl.mul_assoc, ← a4, Cl.mul_assoc]
 have e := congrArg (fun y => Y * y) hz
 rw [← Cl.mul_assoc, n1, Cl.sm_mul, Cl.one_mul, Cl.mul_sm, Cl.mul_one] at e
 refine ⟨invF p (nrmP sq M % p) * (Y.rev * X).co 0, ?_⟩
 rw [← hX, ← hY]
 refine Cl.sm_cancel hP (nrmP_ne hP M hM.ne) ?_
 rw [e, Cl.sm_sm, ← Int.mul_assoc]
 refine Cl.sm_cg ?_ Y
 have h1 := inv_mod hP (nrmP_ne hP M hM.ne)
 have h3 := isP_ge hP
 rw [cg_mul (show nrmP sq M * invF p (nrmP sq M % p) % p = 1 % p by rw [h1, Int.emod_eq_of_lt (by omega) (by omega)]) rfl, Int.one_mul]
/-- The matrix of a product of vectors is orthogonal. -/
theorem refls_pair (hP : isP p = true) {a b : List Int} (ha : a.length = sq.length) (hb : b.length = sq.length) : ∀ (L : List (List Int)), Good p sq L → bil sq (refls p sq L a) (refls p sq L b) % p = bil sq a b % p
 | [], _ => rfl
 | v :: L, h => by
  show bil sq (reflF p sq v (refls p sq L a)) (reflF p sq v (refls p sq L b)) % p = _
  rw [refl_pair hP (by rw [refls_len, ha]) (by rw [refls_len, hb]) (h v (by simp)).2.2]
  exact refls_pair hP ha hb L fun u hu => h u (List.mem_cons_of_mem _ hu)
theorem prod_iso {L : List (List Int)} (hP : isP p = true) (hp : 2 ≤ p) (h0 : 0 < sq.length) (h6 : sq.length ≤ 6) (hs : NumsL p sq) (hL : Good p sq L) : isoB p sq (vmatL p sq sq.length (versL p sq sq.length L)) = true := by
 have h3 := isP_ge hP
 have hp0 : 0 < p := by omega
 have hT := vmatL_tab hp sq sq.length (versL p sq sq.length L)
 have hl := vmatL_len hp sq h0 (versL p sq sq.length L)
 have hm := vmat_prod hP hp h0 h6 hL
 rw [iso_iff hp0 hs hT hl]
 refine ⟨?_, Mt.same fun i j hi hj => ?_⟩
 · have h1 := prodR_det hP hp h0 L hL
   rw [hm]
   intro e
   have e2 : (prodR hp h0 L).det = 0 := e
   rw [e2, Int.zero_emod] at h1
   split at h1
   · rw [Int.emod_eq_of_lt (by omega) (by omega)] at h1; omega
   · rw [show (-1 : Int) = p - 1 + p * (-1) by omega, Int.add_mul_emod_self_left, Int.emod_eq_of_lt (by omega) (by omega)] at h1; omega
 · rw [← pair_cols hp0 hT hl hi hj, pairL_bil (trans_row hp0 hT hl hi).1, Wm_at hp0 hi hj]
   have hc : ∀ {i : Nat}, i < sq.length → (transL (vmatL p sq sq.length (versL p sq sq.length L))).getD i [] = refls p sq L (unitRow sq.length i) := fun {i} hi => by
    rw [← prodR_col hP hp h0 L hL hi, hm]; rfl
   rw [hc hi, hc hj, refls_pair hP (unitRow_len _ _) (unitRow_len _ _) L hL, bil_unit hi hj]
   by_cases h : i = j
   · subst h; rfl
   · rw [if_neg h, if_neg h]
theorem first_ne {f : Nat → Int} : ∀ n, (∃ i, i < n ∧ f i ≠ 0) → ∃ a, a < n ∧ f a ≠ 0 ∧ ∀ i, i < a → f i = 0
 | 0, h => by obtain ⟨i, hi, _⟩ := h; omega
 | n + 1, h => by
  by_cases h1 : ∃ i, i < n ∧ f i ≠ 0
  · obtain ⟨a, h2, h3⟩ := first_ne n h1
    exact ⟨a, by omega, h3⟩
  · obtain ⟨i, hi, hf⟩ := h
    have hz : ∀ j, j < n → f j = 0 := fun j hj => Classical.byContradiction fun h => h1 ⟨j, hj, h⟩
    rcases Nat.lt_or_ge i n with h2 | h2
    · exact absurd (hz i h2) hf
    · obtain rfl : i = n := by omega
      exact ⟨i, by omega, hf, hz⟩
/-- The first number other than 0 tells by which number they differ. -/
theorem own_factor {L : List (List Int)} (hsp : isSp p sq = true) (hr : regB sq = true) {n : Nat} (hn : sq.length = n) (hL : Good p sq L) :
    movR p sq (versL p sq n L) = (vmatL p sq n (versL p sq n L), 0) ∧ isoB p sq (vmatL p sq n (versL p sq n L)) = true ∧ ∃ M : List (List Int), decL p sq (vmatL p sq n (versL p sq n L)) = M ∧ (versL p sq n M).length = pw n ∧ (versL p sq n L).length = pw n ∧ NumsL p (versL p sq n M) ∧ NumsL p (versL p sq n L) ∧
    (∃ at_ : Nat, at_ < pw n ∧ (∀ i, i < at_ → (versL p sq n M).getD i 0 = 0) ∧ (versL p sq n M).getD at_ 0 ≠ 0 ∧
     ((versL p sq n L).getD at_ 0 * invF p ((versL p sq n M).getD at_ 0)) % p ≠ 0 ∧ scaleL p (versL p sq n M) (((versL p sq n L).getD at_ 0 * invF p ((versL p sq n M).getD at_ 0)) % p) = versL p sq n L) := by
 subst hn
 obtain ⟨hP, hd1, hd2, hnum⟩ := isSp_dim hsp
 have h3 := isP_ge hP
 have hp : 2 ≤ p := by omega
 have hp0 : 0 < p := by omega
 have hs := nums_numsL hnum
 have hiso := prod_iso hP hp hd1 hd2 hs hL
 obtain ⟨hl, hT⟩ := isoB_frame hiso
 obtain ⟨m1, hMg, m3⟩ := dec_all hP hd1 hs hr hT hl hiso
 have m3 := m3 hp
 have hvl := versL_prod (sq := sq) hp0 hp L hL.nums
 have hvm := versL_prod (sq := sq) hp0 hp _ hMg.nums
 obtain ⟨v1, v2⟩ := versL_vers hP hd2 L hL
 obtain ⟨-, -, c3⟩ := codeVr_mk hsp hr (by rw [hvl]; exact Cl.len _) (by rw [hvl]; exact (Cl.prod hp0 L : Cl p sq).nums) v1
 refine ⟨by unfold movR; rw [if_pos c3], hiso, _, rfl, ?_⟩
 obtain ⟨M, hM⟩ : ∃ M, M = decL p sq (vmatL p sq sq.length (versL p sq sq.length L)) := ⟨_, rfl⟩
 rw [← hM] at hMg m3 hvm ⊢
 have hprod : prodR hp hd1 M = prodR hp hd1 L := Mt.ext (by rw [m3]; exact vmat_prod hP hp hd1 hd2 hL)
 obtain ⟨k, hk⟩ := prod_same hp0 hP hd2 (fun i hi => reg_ne hp0 hs hr hi) hL hMg fun i hi => by
  rw [← prodR_col hP hp hd1 L hL hi, ← prodR_col hP hp hd1 M hMg hi, hprod]
 rw [hvl, hvm]
 refine ⟨Cl.len _, Cl.len _, Cl.nums _, Cl.nums _, ?_⟩
 obtain ⟨X, hX⟩ : ∃ X : Cl p sq, X = Cl.prod hp0 L := ⟨_, rfl⟩
 obtain ⟨Y, hY⟩ : ∃ Y : Cl p sq, Y = Cl.prod hp0 M := ⟨_, rfl⟩
 rw [← hX, ← hY] at hk
 have hXn : X * X.rev = nrmP sq L * Cl.one hp0 := by rw [hX]; exact Cl.prod_norm hp0 hP hd2 L
 have hX0 : X ≠ Cl.zero hp0 := fun e => by
  rw [e, Cl.zero_mul] at hXn
  have := congrArg (fun y : Cl p sq => y.co 0 % p) hXn
  rw [Cl.zero_co hp0 (pw_pos _), Cl.sm_co _ _ (pw_pos _), Int.mul_emod, Cl.one_co hp0 (pw_pos _), ← Int.mul_emod, if_pos rfl, Int.mul_one] at this
  exact nrmP_ne hP L hL.ne this.symm
 rw [← hX, ← hY]
 have hex : ∃ i, i < pw sq.length ∧ Y.co i ≠ 0 := by
  refine Classical.byContradiction fun hne => hX0 ?_
  rw [hk]
  refine Cl.same fun m hm => ?_
  have hy0 : Y.co m = 0 := Classical.byContradiction fun h => hne ⟨m, hm, h⟩
  rw [Cl.sm_co _ _ hm, Cl.zero_co hp0 hm, hy0, Int.mul_zero, Int.zero_emod]
 obtain ⟨a, han, ha1, ha2⟩ := first_ne _ hex
 have hya := Y.co_small a
 have hyi := inv_one hP hya ha1
 have hxa : X.co a % p = k * Y.co a % p := by rw [hk, Cl.sm_co _ _ han]
 have hfk : (X.co a * invF p (Y.co a)) % p = k % p := by
  rw [cg_mul hxa rfl, Int.mul_assoc, cg_mul rfl hyi, Int.mul_one]
 refine ⟨a, han, ha2, ha1, ?_, ?_⟩
 · show (X.co a * invF p (Y.co a)) % p ≠ 0
   rw [hfk]
   intro e
   apply hX0
   rw [hk, Cl.sm_cg (k := k) (j := 0) (by rw [e, Int.zero_emod]), Cl.zero_sm]
 · show scaleL p Y.l ((X.co a * invF p (Y.co a)) % p) = X.l
   rw [hfk, ← Cl.sm_l, Cl.sm_cg (cg_self p k), ← hk]
def d4 (p a b x0 x1 x2 x3 y0 y1 y2 y3 : Int) : List Int :=
 [(x0 * y0 + a * (x1 * y1) + b * (x2 * y2) - a * b * (x3 * y3)) % p, (x0 * y1 + x1 * y0 - b * (x2 * y3) + b * (x3 * y2)) % p, (x0 * y2 + x2 * y0 + a * (x1 * y3) - a * (x3 * y1)) % p, (x0 * y3 + x3 * y0 + x1 * y2 - x2 * y1) % p]
theorem facZ_four (a b : Int) : ([0, 1, 2, 3].map fun i => [0, 1, 2, 3].map fun j => facZ [a, b] i j) = [[1, 1, 1, 1], [1, a, 1, a], [1, -1, b, -b], [1, -a, b, -(a * b)]] := by
 have s : ∀ i j : Nat, facZ [a, b] i j = sg (swaps i j 2) * (1 * (if bit j 0 = 1 ∧ bit i 0 = 1 then a else 1) * (if bit j 1 = 1 ∧ bit i 1 = 1 then b else 1)) := fun i j => rfl
 have w : ([0, 1, 2, 3].map fun i => [0, 1, 2, 3].map fun j => sg (swaps i j 2)) = [[1, 1, 1, 1], [1, 1, 1, 1], [1, -1, 1, -1], [1, -1, 1, -1]] := by decide +kernel
 simp only [List.map_cons, List.map_nil, List.cons.injEq, and_true] at w ⊢
 simp only [s, w]
 simp [bit]
theorem mulZ_four (a b : Int) (x y : Nat → Int) : [mulZ [a, b] x y 0, mulZ [a, b] x y 1, mulZ [a, b] x y 2, mulZ [a, b] x y 3] =
    [x 0 * y 0 + a * (x 1 * y 1) + b * (x 2 * y 2) - a * b * (x 3 * y 3), x 0 * y 1 + x 1 * y 0 - b * (x 2 * y 3) + b * (x 3 * y 2), x 0 * y 2 + x 2 * y 0 + a * (x 1 * y 3) - a * (x 3 * y 1), x 0 * y 3 + x 3 * y 0 + x 1 * y 2 - x 2 * y 1] := by
 have h := facZ_four a b
 simp only [List.map_cons, List.map_nil, List.cons.injEq, and_true] at h
 obtain ⟨⟨h00, h01, h02, h03⟩, ⟨h10, h11, h12, h13⟩, ⟨h20, h21, h22, h23⟩, h30, h31, h32, h33⟩ := h
 have e : ∀ m, mulZ [a, b] x y m = 0 + x 0 * y (0 ^^^ m) * facZ [a, b] 0 (0 ^^^ m) + x 1 * y (1 ^^^ m) * facZ [a, b] 1 (1 ^^^ m) + x 2 * y (2 ^^^ m) * facZ [a, b] 2 (2 ^^^ m) + x 3 * y (3 ^^^ m) * facZ [a, b] 3 (3 ^^^ m) := fun m => rfl
 rw [e 0, e 1, e 2, e 3]
 simp only [show (0 : Nat) ^^^ 0 = 0 from rfl, show (1 : Nat) ^^^ 0 = 1 from rfl, show (2 : Nat) ^^^ 0 = 2 from rfl, show (3 : Nat) ^^^ 0 = 3 from rfl, show (0 : Nat) ^^^ 1 = 1 from rfl, show (1 : Nat) ^^^ 1 = 0 from rfl, show (2 : Nat) ^^^ 1 = 3 from rfl, show (3 : Nat) ^^^ 1 = 2 from rfl,
  show (0 : Nat) ^^^ 2 = 2 from rfl, show (1 : Nat) ^^^ 2 = 3 from rfl, show (2 : Nat) ^^^ 2 = 0 from rfl, show (3 : Nat) ^^^ 2 = 1 from rfl, show (0 : Nat) ^^^ 3 = 3 from rfl, show (1 : Nat) ^^^ 3 = 2 from rfl, show (2 : Nat) ^^^ 3 = 1 from rfl, show (3 : Nat) ^^^ 3 = 0 from rfl,
  h00, h01, h02, h03, h10, h11, h12, h13, h20, h21, h22, h23, h30, h31, h32, h33]
 simp only [List.cons.injEq, and_true]
 refine ⟨?_, ?_, ?_, ?_⟩ <;> grind
theorem four_list {xs : List Int} (h : xs.length = 4) : xs = [xs.getD 0 0, xs.getD 1 0, xs.getD 2 0, xs.getD 3 0] := by
 match xs, h with
 | [a, b, c, d], _ => rfl
theorem mul_d4 (hp : 0 < p) (a b : Int) {xs ys : List Int} (hx : xs.length = 4) (hy : ys.length = 4) :
    mulL p [a, b] xs ys = d4 p a b (xs.getD 0 0) (xs.getD 1 0) (xs.getD 2 0) (xs.getD 3 0) (ys.getD 0 0) (ys.getD 1 0) (ys.getD 2 0) (ys.getD 3 0) := by
 have hl : (mulL p [a, b] xs ys).length = 4 := by unfold mulL; rw [prodL_len, hx]
 have hn : NumsL p (mulL p [a, b] xs ys) := prodL_nums _ _ _ _ hp
 have h := mulZ_four a b (fun c => xs.getD c 0) (fun c => ys.getD c 0)
 simp only [List.cons.injEq, and_true] at h
 obtain ⟨h0, h1, h2, h3⟩ := h
 have key : ∀ m, m < 4 → (mulL p [a, b] xs ys).getD m 0 = mulZ [a, b] (fun c => xs.getD c 0) (fun c => ys.getD c 0) m % p := fun m hm => by
  rw [← mulL_co (p := p) (sq := [a, b]) (n := 2) rfl (show xs.length = pw 2 from hx) (show ys.length = pw 2 from hy) (show m < pw 2 from hm)]
  exact (Int.emod_eq_of_lt (hn.getD hp m).1 (hn.getD hp m).2).symm
 rw [four_list hl, key 0 (by decide), key 1 (by decide), key 2 (by decide), key 3 (by decide), h0, h1, h2, h3]
 rfl
/-- The doubling with two steps is the algebra of two squares. -/
theorem dbl_d4 (a b : Int) {xs ys : List Int} (hx : xs.length = 4) (hy : ys.length = 4) :
    dblL p 2 [a, b] xs ys = d4 p a b (xs.getD 0 0) (xs.getD 1 0) (xs.getD 2 0) (xs.getD 3 0) (ys.getD 0 0) (ys.getD 1 0) (ys.getD 2 0) (ys.getD 3 0) := by
 match xs, hx, ys, hy with
 | [x0, x1, x2, x3], _, [y0, y1, y2, y3], _ =>
  have f1 : ∀ u v s t c : Int, dblL p 1 [c] [u, v] [s, t] = [(u * s % p + c * (t * v % p)) % p, (t * u % p + 1 * (v * s % p)) % p] := fun u v s t c => rfl
  have f2 : dblL p 2 [a, b] [x0, x1, x2, x3] [y0, y1, y2, y3] = plusL p (dblL p 1 [a] [x0, x1] [y0, y1]) (dblL p 1 [a] (conjL p [y2, y3]) [x2, x3]) b ++ plusL p (dblL p 1 [a] [y2, y3] [x0, x1]) (dblL p 1 [a] [x2, x3] (conjL p [y0, y1])) 1 := rfl
  have f3 : ∀ u v : Int, conjL p [u, v] = [u, v * -1 % p] := fun u v => rfl
  have f4 : ∀ u v s t c : Int, plusL p [u, v] [s, t] c = [(u + c * s) % p, (v + c * t) % p] := fun u v s t c => rfl
  rw [f2, f3, f3, f1, f1, f1, f1, f4, f4]
  have S : ∀ {x y : Int}, x % p = y % p → x % p % p = y % p := fun h => (cg_self p _).trans h
  unfold d4
  simp only [List.cons_append, List.nil_append, List.cons.injEq, and_true, zI, zH]
  refine ⟨?_, ?_, ?_, ?_⟩
  · exact (cg_add (S (cg_add (S rfl) (cg_mul rfl (S rfl)))) (cg_mul rfl (S (cg_add (S rfl) (cg_mul rfl (S (cg_mul rfl (S rfl)))))))).trans (by congr 1; grind)
  · exact (cg_add (S (cg_add (S rfl) (cg_mul rfl (S rfl)))) (cg_mul rfl (S (cg_add (S rfl) (cg_mul rfl (S (cg_mul (S rfl) rfl))))))).trans (by congr 1; grind)
  · exact (cg_add (S (cg_add (S rfl) (cg_mul rfl (S rfl)))) (cg_mul rfl (S (cg_add (S rfl) (cg_mul rfl (S (cg_mul (S rfl) rfl))))))).trans (by congr 1; grind)
  · exact (cg_add (S (cg_add (S rfl) (cg_mul rfl (S rfl)))) (cg_mul rfl (S (cg_add (S (cg_mul (S rfl) rfl)) (cg_mul rfl (S rfl)))))).trans (by congr 1; grind)
theorem dbl_mul (hp : 0 < p) (a b : Int) {xs ys : List Int} (hx : xs.length = 4) (hy : ys.length = 4) : dblL p 2 [a, b] xs ys = mulL p [a, b] xs ys := by rw [dbl_d4 a b hx hy, mul_d4 hp a b hx hy]
/-- The conjugate, both ways. -/
theorem conj_four {xs : List Int} (hx : xs.length = 4) : revL p (invoL p xs) = conjL p xs := by
 match xs, hx with
 | [x0, x1, x2, x3], _ =>
  have e0 : oddT (pc 0) = false := by decide +kernel
  have e1 : oddT (pc 1) = true := by decide +kernel
  have e2 : oddT (pc 2) = true := by decide +kernel
  have e3 : oddT (pc 3) = false := by decide +kernel
  have r0 : revT (pc 0) = false := by decide +kernel
  have r1 : revT (pc 1) = false := by decide +kernel
  have r2 : revT (pc 2) = false := by decide +kernel
  have r3 : revT (pc 3) = true := by decide +kernel
  have h : ∀ (t : Nat → Bool) (u0 u1 u2 u3 : Int), sgnL p t [u0, u1, u2, u3] = [if t (pc 0) then (-u0) % p else u0, if t (pc 1) then (-u1) % p else u1, if t (pc 2) then (-u2) % p else u2, if t (pc 3) then (-u3) % p else u3] := fun t u0 u1 u2 u3 => rfl
  have hc : conjL p [x0, x1, x2, x3] = [x0, x1 * -1 % p, x2 * -1 % p, x3 * -1 % p] := rfl
  unfold revL invoL
  rw [h, h, hc, e0, e1, e2, e3, r0, r1, r2, r3]
  simp [Int.mul_neg]
theorem norm_four (hp : 0 < p) (a b : Int) {xs : List Int} (hx : xs.length = 4) : mulL p [a, b] xs (conjL p xs) = [dnormL p 2 [a, b] xs, 0, 0, 0] := by
 unfold dnormL
 rw [dbl_mul hp a b hx (by rw [conjL_len, hx]), mul_d4 hp a b hx (by rw [conjL_len, hx])]
 match xs, hx with
 | [x0, x1, x2, x3], _ =>
  have hc : conjL p [x0, x1, x2, x3] = [x0, x1 * -1 % p, x2 * -1 % p, x3 * -1 % p] := rfl
  obtain ⟨k1, h1⟩ := cg_wit.1 (cg_self p (x1 * -1))
  obtain ⟨k2, h2⟩ := cg_wit.1 (cg_self p (x2 * -1))
  obtain ⟨k3, h3⟩ := cg_wit.1 (cg_self p (x3 * -1))
  rw [hc, h1, h2, h3]
  unfold d4
  simp only [List.cons.injEq, and_true, zI, zH, true_and]
  refine ⟨?_, ?_, ?_⟩
  · exact (cg_wit.2 ⟨x0 * k1 - b * (x2 * k3) + b * (x3 * k2), by grind⟩ : _ % p = 0 % p).trans (Int.zero_emod p)
  · exact (cg_wit.2 ⟨x0 * k2 + a * (x1 * k3) - a * (x3 * k1), by grind⟩ : _ % p = 0 % p).trans (Int.zero_emod p)
  · exact (cg_wit.2 ⟨x0 * k3 + x1 * k2 - x2 * k1, by grind⟩ : _ % p = 0 % p).trans (Int.zero_emod p)
/-- Norms multiply. -/
theorem norm_times (hp : 2 ≤ p) (a b : Int) {xs ys : List Int} (hx : xs.length = 4) (hxn : NumsL p xs) (hy : ys.length = 4) (hyn : NumsL p ys) :
    dnormL p 2 [a, b] (mulL p [a, b] xs ys) = (dnormL p 2 [a, b] xs * dnormL p 2 [a, b] ys) % p := by
 have hp0 : 0 < p := by omega
 have N : ∀ z : Cl p [a, b], z * z.invo.rev = dnormL p 2 [a, b] z.l * Cl.one hp0 := fun z => by
  have hz : z.l.length = 4 := z.len
  refine Cl.ext ?_
  rw [Cl.mul_l, Cl.rev_l, Cl.invo_l, conj_four hz, norm_four hp0 a b hz, Cl.sm_l, Cl.one_l hp]
  have hb : 0 ≤ dnormL p 2 [a, b] z.l ∧ dnormL p 2 [a, b] z.l < p := (dblL_nums hp0 2 [a, b] z.l (conjL p z.l)).getD hp0 0
  have hbl : bladeL 2 0 = [1, 0, 0, 0] := by decide +kernel
  show _ = scaleL p (bladeL 2 0) _
  rw [hbl]
  show _ = [1 * dnormL p 2 [a, b] z.l % p, 0 * dnormL p 2 [a, b] z.l % p, 0 * dnormL p 2 [a, b] z.l % p, 0 * dnormL p 2 [a, b] z.l % p]
  rw [Int.one_mul, Int.zero_mul, Int.zero_emod, Int.emod_eq_of_lt hb.1 hb.2]
 obtain ⟨X, hX⟩ : ∃ X : Cl p [a, b], X.l = xs := ⟨⟨xs, hx, hxn, hp0⟩, rfl⟩
 obtain ⟨Y, hY⟩ : ∃ Y : Cl p [a, b], Y.l = ys := ⟨⟨ys, hy, hyn, hp0⟩, rfl⟩
 have h1 := N (X * Y)
 rw [Cl.invo_mul, Cl.rev_mul (sq := [a, b]) (show 2 ≤ 6 by decide), Cl.mul_assoc, ← Cl.mul_assoc Y, N Y, Cl.sm_mul, Cl.one_mul, Cl.mul_sm, N X, Cl.sm_sm, Cl.mul_l, hX, hY] at h1
 have h2 := congrArg (fun y : Cl p [a, b] => y.co 0 % p) h1
 rw [Cl.sm_co _ _ (pw_pos _), Cl.sm_co _ _ (pw_pos _), Int.mul_emod, Cl.one_co hp0 (pw_pos _), ← Int.mul_emod, Int.mul_emod (dnormL p 2 [a, b] (mulL p [a, b] xs ys)), Cl.one_co hp0 (pw_pos _), ← Int.mul_emod, if_pos rfl, Int.mul_one, Int.mul_one] at h2
 have hb : 0 ≤ dnormL p 2 [a, b] (mulL p [a, b] xs ys) ∧ dnormL p 2 [a, b] (mulL p [a, b] xs ys) < p := (dblL_nums hp0 2 [a, b] _ _).getD hp0 0
 rw [Int.emod_eq_of_lt hb.1 hb.2] at h2
 rw [← h2, Int.mul_comm]
end
end Go.Proofs.YtmkjdpnoloofjaaGreat

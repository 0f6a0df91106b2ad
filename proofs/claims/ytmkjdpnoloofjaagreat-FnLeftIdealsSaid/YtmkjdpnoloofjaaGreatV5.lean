/-
  LawFnLeftIdeals: part 5 of the texts that the proof needs. No condition.
-/
import Derived.Test.YtmkjdpnoloofjaaGreatV4
namespace Go.Proofs.YtmkjdpnoloofjaaGreat
open Go.RowKit
section
variable {P : Program} {ops : Array Oper} {Q : Exit → Act → World → Prop}
/-- Those whose values are good still when operation j is done (C: what each uses up). -/
def availL (R C : List (List Nat)) (m j : Nat) : List Nat := (R.getD j []).filter fun i => (List.range m).all fun k => !((C.getD k []).contains i) || k == j || (R.getD k []).contains j
/-- .. and at the end of the first m. -/
def endL (C : List (List Nat)) (m : Nat) : List Nat := (List.range m).filter fun i => (List.range m).all fun k => !((C.getD k []).contains i)
/-- Below what operation j leaves all as it was. -/
def lim (C : List (List Nat)) (B : Nat) (j : Nat) (w : World) : Nat := if (C.getD j []).isEmpty then w.heap.size else B
theorem not_contains {L : List Nat} {i : Nat} : (!(L.contains i)) = true ↔ i ∉ L := by
 rw [Bool.not_eq_true', ← Bool.not_eq_true, List.contains_iff_mem]
theorem avail_spec {R C : List (List Nat)} {m j i : Nat} : i ∈ availL R C m j ↔ i ∈ R.getD j [] ∧ ∀ k, k < m → i ∈ C.getD k [] → k = j ∨ j ∈ R.getD k [] := by
 unfold availL
 rw [List.mem_filter, List.all_eq_true]
 refine and_congr_right fun _ => ⟨fun h k hk hi => ?_, fun h k hk => ?_⟩
 · have h1 := h k (List.mem_range.2 hk)
   rw [Bool.or_eq_true, Bool.or_eq_true, not_contains, beq_iff_eq, List.contains_iff_mem] at h1
   rcases h1 with (h1 | h1) | h1
   · exact absurd hi h1
   · exact .inl h1
   · exact .inr h1
 · rw [Bool.or_eq_true, Bool.or_eq_true, not_contains, beq_iff_eq, List.contains_iff_mem]
   by_cases hi : i ∈ C.getD k []
   · rcases h k (List.mem_range.1 hk) hi with h1 | h1
     · exact .inl (.inr h1)
     · exact .inr h1
   · exact .inl (.inl hi)
theorem end_spec {C : List (List Nat)} {m i : Nat} : i ∈ endL C m ↔ i < m ∧ ∀ k, k < m → i ∉ C.getD k [] := by
 unfold endL
 rw [List.mem_filter, List.all_eq_true, List.mem_range]
 exact and_congr_right fun _ => ⟨fun h k hk => not_contains.1 (h k (List.mem_range.2 hk)), fun h k hk => not_contains.2 (h k (List.mem_range.1 hk))⟩
/-- What is to be shown of operation j. -/
def ObD (P : Program) (ops : Array Oper) (S : World → Prop) (R C : List (List Nat)) (B m : Nat) (V : (Nat → Value) → List VP) (x : Nat → Value) (a0 : Act) (j : Nat) : Prop :=
 ∀ w, S w → (∀ i ∈ availL R C m j, ((V x).getD i VAny).p (x i) w) →
  wpOp P ops NoWay j (fun a' w' => ∃ v, (∀ d, dstOf ops j = some d → a'.tmps[d]? = some v) ∧ a'.defers = a0.defers ∧ ((V x).getD j VAny).p v w' ∧ Below (lim C B j w) w w') (putS ops x a0 j) w
theorem tasks_goD {m B : Nat} {R C : List (List Nat)} {V : (Nat → Value) → List VP} {S : World → Prop} {a0 : Act} (hok : tasksOk ops m a0.tmps.size R = true)
    (hdep : ∀ x x' j, (∀ i ∈ R.getD j [], x i = x' i) → (V x).getD j VAny = (V x').getD j VAny) (hweak : ∀ i, i < m → (C.getD i []).isEmpty = false → ∀ k, k < m → k ≠ i → i ∉ R.getD k [] → k ∉ C.getD i [] → ∀ x v w w', ((V x).getD k VAny).p v w → Below B w w' → ((V x).getD k VAny).p v w') (hSt : ∀ j w w', S w → Below (lim C B j w) w w' → S w') (hob : ∀ x j, j < m → ObD P ops S R C B m V x a0 j)
    (hend : ∀ x w', S w' → (∀ i ∈ endL C m, ((V x).getD i VAny).p (x i) w') → wpAny P .any ops Q (ops.size - m) (listedTo ops.size m) (putS ops x a0 m) w') :
    ∀ (c : Nat) (U : List Nat) (listed : Array Bool) (w : World) (x : Nat → Value), U.length = c → U.Nodup → (∀ i, i ∈ U ↔ i < m ∧ listed.getD i false = false) → listed.size = ops.size →
     (∀ i, m ≤ i → i < ops.size → listed.getD i false = false) → (∀ (j : Nat) (o : Oper), ops[j]? = some o → listed.getD j false = true → ∀ e ∈ o.after, Region.binds .any e = true → listed.getD e.on false = true) →
     S w → (∀ i, i < m → listed.getD i false = true → (∀ j, j < m → i ∈ C.getD j [] → listed.getD j false = false) → ((V x).getD i VAny).p (x i) w) → wpAny P .any ops Q (ops.size - m + c) listed (putD ops (fun i => listed.getD i false) x a0 m) w := by
 obtain ⟨hmn, hspec, htail⟩ := tasks_spec hok
 have hsel : Region.noSelect ops = true := by unfold tasksOk at hok; simp only [Bool.and_eq_true] at hok; exact hok.1.1
 intro c
 induction c with
 | zero =>
  intro U listed w x hU hnd hmem hsz hun hcl hS hV
  obtain rfl : U = [] := List.eq_nil_of_length_eq_zero hU
  have hall : ∀ i, i < m → listed.getD i false = true := fun i hi => by
   cases h : listed.getD i false
   · exact absurd ((hmem i).2 ⟨hi, h⟩) (by simp)
   · rfl
  have hl : listed = listedTo ops.size m := by
   apply Array.ext
   · simp [listedTo, hsz]
   · intro i h1 h2
     have e : listed.getD i false = listed[i] := by simp [Array.getD, h1]
     by_cases hi : i < m
     · have := hall i hi
       rw [e] at this
       simp [listedTo, this, hi]
     · have := hun i (by omega) (by omega)
       rw [e] at this
       simp [listedTo, this, hi]
  rw [Nat.add_zero, putD_congr (ops := ops) _ (fun _ => true) x x a0 m (fun i hi => ⟨hall i hi, fun _ => rfl⟩), hl]
  exact hend x w hS (fun i hi => hV i (end_spec.1 hi).1 (hall i (end_spec.1 hi).1) (fun j hj hc => absurd hc ((end_spec.1 hi).2 j hj)))
 | succ c ih =>
  intro U listed w x hU hnd hmem hsz hun hcl hS hV
  have hne : U ≠ [] := fun e => by rw [e] at hU; simp at hU
  show (_ → _) ∧ _
  refine ⟨fun hr => ?_, fun i hi => ?_⟩
  · exfalso
    obtain ⟨i, hiU, hmin⟩ := min_mem U hne
    obtain ⟨him, hil⟩ := (hmem i).1 hiU
    have hlt : i < ops.size := by omega
    have : i ∈ Region.ready .any ops listed := mem_ready.2 ⟨by simpa [Array.getD, hsz, hlt] using hil, _, Array.getElem?_eq_getElem hlt, fun e he hb => by
     have hlti := (hspec i _ (Array.getElem?_eq_getElem hlt) him).1 e he hb
     cases h : listed.getD e.on false
     · have := hmin e.on ((hmem _).2 ⟨by omega, h⟩); omega
     · rfl⟩
    rw [hr] at this
    cases this
  · obtain ⟨hil, o, ho, hdeps⟩ := mem_ready.1 hi
    have hlt : i < ops.size := (Array.getElem?_eq_some_iff.1 ho).1
    have hil' : listed.getD i false = false := by simpa [Array.getD, hsz, hlt] using hil
    have hreach := listed_reach hok (fun i => listed.getD i false) hcl i o ho hdeps
    have him : i < m := by
     rcases Nat.lt_or_ge i m with h | h
     · exact h
     · exfalso
       obtain ⟨k, hk⟩ := List.exists_mem_of_ne_nil U hne
       obtain ⟨hkm, hkl⟩ := (hmem k).1 hk
       have := hreach k (htail i hlt h k hkm)
       rw [hkl] at this; cases this
    obtain ⟨_, ⟨d, hd, hdsz, hduniq⟩, hlook⟩ := hspec i o ho him
    have hdst : dstOf ops i = some d := by simp [dstOf, ho, hd]
    have hso : ∀ cs b, o.op ≠ .select cs b := fun cs b => Region.noSelect_spec hsel i o cs b ho
    -- the two frames agree on what o looks at
    have hagree : ∀ t ∈ o.looksAt ops, (putD ops (fun i => listed.getD i false) x a0 m).tmps[t]? = (putS ops x a0 i).tmps[t]? := fun t ht => by
     by_cases hex : ∃ k, k < m ∧ dstOf ops k = some t
     · obtain ⟨k, hkm, hkd⟩ := hex
       have hkR := hlook t ht k hkm hkd
       have hki := reach_lt hok i hlt k hkR
       have hkl := hreach k hkR
       have hks : k < ops.size := by omega
       obtain ⟨_, ⟨d', hd', hdsz', hu'⟩, _⟩ := hspec k _ (Array.getElem?_eq_getElem hks) hkm
       have htd : d' = t := by
        have : dstOf ops k = some d' := by simp [dstOf, Array.getElem?_eq_getElem hks, hd']
        rw [hkd] at this; injection this with this; exact this.symm
       rw [putD_at _ _ _ _ k hkd hkl (htd ▸ hdsz') m hkm (fun l hl hlk => htd ▸ hu' l hl hlk)]
       unfold putS
       rw [putD_at _ _ _ _ k hkd rfl (htd ▸ hdsz') i hki (fun l hl hlk => htd ▸ hu' l (by omega) hlk)]
     · rw [putD_other _ _ _ _ m (fun k hk hkd => absurd ⟨k, hk, hkd⟩ hex)]
       unfold putS
       rw [putD_other _ _ _ _ i (fun k hk hkd => absurd ⟨k, by omega, hkd⟩ hex)]
    have hob' := hob x i him w hS (fun k hk => by
     obtain ⟨hkR, hkC⟩ := avail_spec.1 hk
     refine hV k (by have := reach_lt hok i hlt k hkR; omega) (hreach k hkR) (fun j hj hc => ?_)
     rcases hkC j hj hc with rfl | hij
     · exact hil'
     · cases hjl : listed.getD j false
       · rfl
       · have hjs : j < ops.size := by omega
         have := listed_reach hok (fun i => listed.getD i false) hcl j _ (Array.getElem?_eq_getElem hjs) (hcl j _ (Array.getElem?_eq_getElem hjs) hjl) i hij
         rw [hil'] at this; cases this)
    have hsz1 := putD_size (ops := ops) (fun _ => true) x a0 i
    -- what comes behind
    have next : ∀ v w', ((V x).getD i VAny).p v w' → Below (lim C B i w) w w' → wpAny P .any ops Q (ops.size - m + c) (listed.setIfInBounds i true) ((putD ops (fun i => listed.getD i false) x a0 m).put (some d) v) w' := fun v w' hv hb => by
     have hput := putD_put (ops := ops) (fun k => listed.getD k false) (fun k => (listed.setIfInBounds i true).getD k false) x (fun k => if k = i then v else x k) a0 i hil'
      (by simp [hsz, hlt]) (fun k hk => ⟨by rw [getD_set_ne _ (Ne.symm hk)], by simp [hk]⟩) m him
      (fun d' k hk hki hd' => by rw [hdst] at hd'; injection hd' with hd'; exact hd' ▸ hduniq k hk hki)
     simp only [if_true] at hput
     rw [← hdst, hput]
     refine ih (U.erase i) _ _ _ ?_ (hnd.erase _) (fun k => ?_) (by simpa using hsz) (fun k h1 h2 => ?_) (fun j oj hoj hj e he hb' => ?_) (hSt i _ _ hS hb) (fun k hk hkl hcons => ?_)
     · rw [List.length_erase_of_mem ((hmem i).2 ⟨him, hil'⟩), hU]; rfl
     · rw [hnd.mem_erase_iff, hmem]
       by_cases hk : k = i
       · subst hk; simp [hsz, hlt]
       · rw [getD_set_ne _ (Ne.symm hk)]; simp [hk]
     · rw [getD_set_ne _ (by omega)]; exact hun k h1 h2
     · by_cases hji : j = i
       · subst hji
         rw [ho] at hoj; injection hoj with hoj; subst hoj
         exact getD_set_true (hdeps e he hb')
       · rw [getD_set_ne _ (Ne.symm hji)] at hj
         exact getD_set_true (hcl j oj hoj hj e he hb')
     · by_cases hki : k = i
       · subst hki
         rw [hdep _ x k (fun l hl => by have := reach_lt hok k hlt l hl; simp only [show l ≠ k by omega, if_false])]
         simpa using hv
       · rw [getD_set_ne _ (Ne.symm hki)] at hkl
         have hks : k < ops.size := by omega
         have hdk : (V fun l => if l = i then v else x l).getD k VAny = (V x).getD k VAny := hdep _ x k (fun l hl => by
          have hll := listed_reach hok (fun i => listed.getD i false) hcl k _ (Array.getElem?_eq_getElem hks) (hcl k _ (Array.getElem?_eq_getElem hks) hkl) l hl
          have hne : l ≠ i := fun e => by rw [e] at hll; rw [hil'] at hll; cases hll
          simp only [hne, if_false])
         simp only [hki, if_false]
         rw [hdk]
         have hb0 : ∀ j, j < m → k ∈ C.getD j [] → listed.getD j false = false := fun j hj hc => by
          have h1 := hcons j hj hc
          by_cases hji : j = i
          · rw [hji]; exact hil'
          · rwa [getD_set_ne _ (Ne.symm hji)] at h1
         have hkC : k ∉ C.getD i [] := fun hc => by
          have h1 := hcons i him hc
          simp [hsz, hlt] at h1
         have hiR : i ∉ R.getD k [] := fun hik => by
          have := listed_reach hok (fun i => listed.getD i false) hcl k _ (Array.getElem?_eq_getElem hks) (hcl k _ (Array.getElem?_eq_getElem hks) hkl) i hik
          rw [hil'] at this; cases this
         cases he : (C.getD i []).isEmpty
         · rw [show lim C B i w = B by unfold lim; rw [he]; rfl] at hb
           exact hweak i him he k hk hki hiR hkC x _ _ _ (hV k hk hkl hb0) hb
         · rw [show lim C B i w = w.heap.size by unfold lim; rw [he]; rfl] at hb
           exact ((V x).getD k VAny).st _ _ _ (hV k hk hkl hb0) hb
    unfold wpOp at hob' ⊢
    simp only [ho] at hob' ⊢
    rw [wanted_same hagree]
    split
    · rename_i hw
      rw [if_pos hw] at hob'
      rcases hob' with h | ⟨_, h⟩
      case inr => exact absurd h NoWay.lets
      refine .inl (Oper.wp_mono ?_ (wp_move (Q := Q) (d := d) (R := fun v w' => ((V x).getD i VAny).p v w' ∧ Below (lim C B i w) w w') (exec_same hso hagree) hd (by unfold putS; rw [hsz1.1]; exact hdsz)
       (Oper.wp_mono (fun a' w' ⟨v, h1, h2, h3, h4⟩ => ⟨v, h1 d hdst, by unfold putS; rw [hsz1.2]; exact h2, h3, h4⟩) h)))
      rintro a' w' ⟨v, rfl, hv, hb⟩
      exact next v w' hv hb
    · rename_i hw
      rw [if_neg hw] at hob'
      obtain ⟨v, h1, _, h3, h4⟩ := hob'
      have hvu : v = undef := by
       have := h1 d hdst
       rw [hd] at this
       simp [Act.put, putS, hsz1.1, hdsz] at this
       exact this.symm
      rw [hd]
      exact next undef w (hvu ▸ h3) h4
/-- **A region that draws its order**: each of its first m operations is shown once; what is left behind them goes on. -/
theorem wp_tasksD {id m B : Nat} (R C : List (List Nat)) (V : (Nat → Value) → List VP) (S : World → Prop) {a0 : Act} {w : World} (hm : P.follows .mixedOrders = true) (hok : tasksOk ops m a0.tmps.size R = true)
    (hdep : ∀ x x' j, (∀ i ∈ R.getD j [], x i = x' i) → (V x).getD j VAny = (V x').getD j VAny) (hweak : ∀ i, i < m → (C.getD i []).isEmpty = false → ∀ k, k < m → k ≠ i → i ∉ R.getD k [] → k ∉ C.getD i [] → ∀ x v w w', ((V x).getD k VAny).p v w → Below B w w' → ((V x).getD k VAny).p v w') (hS0 : S w.drew) (hSt : ∀ j w w', S w → Below (lim C B j w) w w' → S w') (hob : ∀ x j, j < m → ObD P ops S R C B m V x a0 j)
    (hend : ∀ x w', S w' → (∀ i ∈ endL C m, ((V x).getD i VAny).p (x i) w') → wpAny P .any ops Q (ops.size - m) (listedTo ops.size m) (putS ops x a0 m) w') : (Code.region id ops true).wp P Q a0 w := by
 have hmn := (tasks_spec hok).1
 have hf : ∀ i, (Array.replicate ops.size false).getD i false = false := fun i => by simp [Array.getD]
 have h := tasks_goD (Q := Q) hok hdep hweak hSt hob hend m (List.range m) (Array.replicate ops.size false) w.drew (fun _ => undef) (by simp) List.nodup_range (fun i => by rw [hf]; simp) (by simp) (fun i _ _ => hf i) (fun j o _ hj => by rw [hf] at hj; cases hj) hS0
  (fun i _ hi => by rw [hf] at hi; cases hi)
 refine wp_region_any hm ?_
 rw [show ops.size - m + m = ops.size by omega, putD_congr (ops := ops) _ (fun _ => false) _ (fun _ => undef) a0 m (fun i _ => ⟨hf i, fun _ => rfl⟩)] at h
 have e : ∀ n, putD ops (fun _ => false) (fun _ => undef) a0 n = a0 := fun n => by
  induction n with
  | zero => rfl
  | succ n ih => unfold putD; simpa using ih
 rw [e] at h
 exact h
/-- What is to be shown, operation by operation, in the text's order; the frame goes along. -/
def ObsD (P : Program) (ops : Array Oper) (Q : Exit → Act → World → Prop) (S : World → Prop) (R C : List (List Nat)) (B m : Nat) (V : (Nat → Value) → List VP) (x : Nat → Value) : Nat → Nat → Act → Prop
 | 0, j, a => ∀ w, S w → (∀ i ∈ endL C m, ((V x).getD i VAny).p (x i) w) → wpAny P .any ops Q (ops.size - j) (listedTo ops.size j) a w
 | r + 1, j, a => (∀ w, S w → (∀ i ∈ availL R C m j, ((V x).getD i VAny).p (x i) w) →
     wpOp P ops NoWay j (fun a' w' => ∃ v, (∀ d, dstOf ops j = some d → a'.tmps[d]? = some v) ∧ a'.defers = a.defers ∧ ((V x).getD j VAny).p v w' ∧ Below (lim C B j w) w w') a w) ∧
  ObsD P ops Q S R C B m V x r (j + 1) (a.put (dstOf ops j) (x j))
theorem obs_allD {S : World → Prop} {R C : List (List Nat)} {B m : Nat} {V : (Nat → Value) → List VP} {x : Nat → Value} {a0 : Act} : ∀ (r j : Nat), ObsD P ops Q S R C B m V x r j (putS ops x a0 j) →
    (∀ k, j ≤ k → k < j + r → ObD P ops S R C B m V x a0 k) ∧ ∀ w, S w → (∀ i ∈ endL C m, ((V x).getD i VAny).p (x i) w) → wpAny P .any ops Q (ops.size - (j + r)) (listedTo ops.size (j + r)) (putS ops x a0 (j + r)) w := by
 intro r
 induction r with
 | zero => intro j h; exact ⟨fun k h1 h2 => by omega, h⟩
 | succ r ih =>
  intro j h
  obtain ⟨h1, h2⟩ := h
  have h2' : ObsD P ops Q S R C B m V x r (j + 1) (putS ops x a0 (j + 1)) := h2
  obtain ⟨h3, h4⟩ := ih (j + 1) h2'
  refine ⟨fun k hk1 hk2 => ?_, by rw [show j + (r + 1) = j + 1 + r by omega]; exact h4⟩
  by_cases hk : k = j
  · subst hk
    intro w hS hV
    have h := h1 w hS hV
    rw [show (putS ops x a0 k).defers = a0.defers from (putD_size _ _ _ _).2] at h
    exact h
  · exact h3 k (by omega) (by omega)
theorem wp_obsD {id : Nat} (m B : Nat) (R C : List (List Nat)) (V : (Nat → Value) → List VP) (S : World → Prop) {a0 : Act} {w : World} (hm : P.follows .mixedOrders = true) (hok : tasksOk ops m a0.tmps.size R = true)
    (hdep : ∀ x x' j, (∀ i ∈ R.getD j [], x i = x' i) → (V x).getD j VAny = (V x').getD j VAny) (hweak : ∀ i, i < m → (C.getD i []).isEmpty = false → ∀ k, k < m → k ≠ i → i ∉ R.getD k [] → k ∉ C.getD i [] → ∀ x v w w', ((V x).getD k VAny).p v w → Below B w w' → ((V x).getD k VAny).p v w') (hSt : ∀ j w w', S w → Below (lim C B j w) w w' → S w') (hS0 : S w.drew) (h : ∀ x, ObsD P ops Q S R C B m V x m 0 a0) : (Code.region id ops true).wp P Q a0 w :=
 wp_tasksD (m := m) (B := B) R C V S hm hok hdep hweak hS0 hSt (fun x j hj => (obs_allD m 0 (h x)).1 j (by omega) (by omega)) (fun x w' hS hV => by
  have := (obs_allD m 0 (h x)).2 w' hS (hV)
  rwa [Nat.zero_add] at this)
theorem obs_stepD {S : World → Prop} {R C : List (List Nat)} {B m : Nat} {V : (Nat → Value) → List VP} {x : Nat → Value} {r j : Nat} {a : Act} {o : Oper} {d : Tmp} (ho : ops[j]? = some o) (hd : o.dst = some d)
    (h : ∀ w, S w → (∀ i ∈ availL R C m j, ((V x).getD i VAny).p (x i) w) → ∀ K : Act → World → Prop, Shut (∀ a' w' v, a'.tmps[d]? = some v → a'.defers = a.defers → ((V x).getD j VAny).p v w' → Below (lim C B j w) w w' → K a' w') →
     if Region.wanted o (yielded ops a.tmps) = true then Oper.wp P o a w K NoWay else K (a.put o.dst undef) w)
    (hr : ObsD P ops Q S R C B m V x r (j + 1) { a with tmps := a.tmps.setIfInBounds d (x j) }) : ObsD P ops Q S R C B m V x (r + 1) j a := by
 have hdst : dstOf ops j = some d := by simp [dstOf, ho, hd]
 refine ⟨fun w hS hV => wpOp_step ho (fun K hK => ?_), by rw [hdst]; exact hr⟩
 exact h w hS hV K (fun a' w' v h1 h2 h3 h4 => hK a' w' ⟨v, fun d' hd' => by rw [hdst] at hd'; injection hd' with hd'; exact hd' ▸ h1, h2, h3, h4⟩)
/-- Those that bear an append in place: their values are plain. -/
theorem weak_of {m B : Nat} {R C : List (List Nat)} {V : (Nat → Value) → List VP} (Wk : List Nat)
    (hchk : ((List.range m).all fun i => (C.getD i []).isEmpty || (List.range m).all fun k => k == i || (R.getD k []).contains i || (C.getD i []).contains k || Wk.contains k) = true)
    (hW : ∀ k ∈ Wk, ∀ x, ∃ u, (V x).getD k VAny = VIs u) :
    ∀ i, i < m → (C.getD i []).isEmpty = false → ∀ k, k < m → k ≠ i → i ∉ R.getD k [] → k ∉ C.getD i [] → ∀ x v w w', ((V x).getD k VAny).p v w → Below B w w' → ((V x).getD k VAny).p v w' := by
 intro i hi he k hk hne hR hC x v w w' hp _
 have h1 := List.all_eq_true.1 hchk i (List.mem_range.2 hi)
 rw [he, Bool.false_or] at h1
 have h2 := List.all_eq_true.1 h1 k (List.mem_range.2 hk)
 rw [Bool.or_eq_true, Bool.or_eq_true, Bool.or_eq_true, beq_iff_eq, List.contains_iff_mem, List.contains_iff_mem, List.contains_iff_mem] at h2
 rcases h2 with ((h2 | h2) | h2) | h2
 · exact absurd h2 hne
 · exact absurd h2 hR
 · exact absurd h2 hC
 · obtain ⟨u, hu⟩ := hW k h2 x
   rw [hu] at hp ⊢
   exact hp
theorem lim_ge {C : List (List Nat)} {B j : Nat} {w : World} (h : B ≤ w.heap.size) : B ≤ lim C B j w := by
 unfold lim
 split
 · exact h
 · exact Nat.le_refl _
end
def CK (w w' : World) : Prop := ∀ b i u, w.cell? ⟨b, i, none⟩ = some u → w'.cell? ⟨b, i, none⟩ = some u
theorem CK.refl (w : World) : CK w w := fun _ _ _ h => h
theorem Rd.ck {w w' : World} {A : Option Addr} {n : Nat} {us : List Value} (h : Rd w A n us) (k : CK w w') : Rd w' A n us := ⟨h.1, fun hn => by
 obtain ⟨g, o, e, hc⟩ := h.2 hn
 exact ⟨g, o, e, fun j u hu => k _ _ _ (hc j u hu)⟩⟩
theorem RdII.ck {w w' : World} {A : Option Addr} {n : Nat} {xss : List (List Int)} (h : RdII w A n xss) (k : CK w w') : RdII w' A n xss := by
 obtain ⟨rows, hr, hl, hk⟩ := h
 exact ⟨rows, hr.ck k, hl, fun j hj => by obtain ⟨A', c', e, h1, h2⟩ := hk j hj; exact ⟨A', c', e, h1.ck k, h2⟩⟩
/-- A row that grows; it began as the empty block g; what lay in w is as it was. -/
def Grows (w wr : World) (g : Nat) (v : Value) : Prop := CK w wr ∧ w.heap.size ≤ wr.heap.size ∧ ∀ gb, v.ownBlock = some gb → gb = g ∨ w.heap.size ≤ gb
theorem Grows.step {w wr v1 w' : World} {g : Nat} {T : TypeId} {A A' : Option Addr} {n c n' c' : Nat} (h : Grows w wr g (.slice A n c)) (he : Blk w g T #[]) (hb : Below wr.heap.size wr v1) (hg : v1.grownBy w' (Value.slice A n c).ownBlock)
    (hat : ∃ g', A' = some ⟨g', 0, none⟩ ∧ ((Value.slice A n c).ownBlock = some g' ∨ v1.heap.size ≤ g')) : Grows w w' g (.slice A' n' c') := by
 obtain ⟨h1, h2, h3⟩ := h
 refine ⟨fun b i u hu => ?_, by have := hb.size; have := hg.size; omega, fun gb hgb => ?_⟩
 · refine hg.cell ((hb.cell (World.block_lt_of_cell? _ _ (h1 b i u hu))).trans (h1 b i u hu)) fun e => ?_
   rcases h3 b e.symm with rfl | hge
   · rw [he.cell] at hu; simp at hu
   · have hlt : b < w.heap.size := World.block_lt_of_cell? _ _ hu
     omega
 · obtain ⟨g', rfl, hor⟩ := hat
   simp only [Value.ownBlock, Option.some.injEq] at hgb
   subst hgb
   rcases hor with hor | hor
   · exact h3 _ hor
   · right; have := hb.size; omega
end Go.Proofs.YtmkjdpnoloofjaaGreat
namespace Go.Proofs.YtmkjdpnoloofjaaGreat
section
variable {P : Int} {sq : List Int}
theorem regB_at {sq : List Int} {x : Int} (h : regB sq = true) (hx : x ∈ sq) : x ≠ 0 := fun e => by
 subst e
 unfold regB at h
 simp only [Bool.not_eq_true', List.contains_eq_mem, decide_eq_false_iff_not] at h
 exact h hx
end
end Go.Proofs.YtmkjdpnoloofjaaGreat
namespace Go.Proofs.YtmkjdpnoloofjaaGreat
open Go.RowKit
section
variable {P : Program} {ops : Array Oper} {Q : Exit → Act → World → Prop}
/-- Those whose values are good still when operation j is done (C: what each uses up). -/
def availR (R C : List (List Nat)) (m j : Nat) : List Nat := (R.getD j []).filter fun i => (List.range m).all fun k => !((C.getD k []).contains i) || k == j || (R.getD k []).contains j
/-- .. and at the end of the first m. -/
def endR (C : List (List Nat)) (m : Nat) : List Nat := (List.range m).filter fun i => (List.range m).all fun k => !((C.getD k []).contains i)
/-- What operation j may do to the world: add to it, or, where C has something at j, what Rel allows. -/
def StepR (C : List (List Nat)) (Rel : World → World → Prop) (j : Nat) (w w' : World) : Prop := if (C.getD j []).isEmpty then Below w.heap.size w w' else Rel w w'
theorem StepR.rel {C : List (List Nat)} {Rel : World → World → Prop} {j : Nat} {w w' : World} (h : (C.getD j []).isEmpty = false) (hb : Rel w w') : StepR C Rel j w w' := by unfold StepR; rw [h]; exact hb
theorem StepR.either {C : List (List Nat)} {Rel : World → World → Prop} {j : Nat} {w w' : World} {q : Prop} (h : StepR C Rel j w w') (h1 : Below w.heap.size w w' → q) (h2 : Rel w w' → q) : q := by
 unfold StepR at h
 split at h
 · exact h1 h
 · exact h2 h
theorem not_containsR {L : List Nat} {i : Nat} : (!(L.contains i)) = true ↔ i ∉ L := by
 rw [Bool.not_eq_true', ← Bool.not_eq_true, List.contains_iff_mem]
theorem availR_spec {R C : List (List Nat)} {m j i : Nat} : i ∈ availR R C m j ↔ i ∈ R.getD j [] ∧ ∀ k, k < m → i ∈ C.getD k [] → k = j ∨ j ∈ R.getD k [] := by
 unfold availR
 rw [List.mem_filter, List.all_eq_true]
 refine and_congr_right fun _ => ⟨fun h k hk hi => ?_, fun h k hk => ?_⟩
 · have h1 := h k (List.mem_range.2 hk)
   rw [Bool.or_eq_true, Bool.or_eq_true, not_containsR, beq_iff_eq, List.contains_iff_mem] at h1
   rcases h1 with (h1 | h1) | h1
   · exact absurd hi h1
   · exact .inl h1
   · exact .inr h1
 · rw [Bool.or_eq_true, Bool.or_eq_true, not_containsR, beq_iff_eq, List.contains_iff_mem]
   by_cases hi : i ∈ C.getD k []
   · rcases h k (List.mem_range.1 hk) hi with h1 | h1
     · exact .inl (.inr h1)
     · exact .inr h1
   · exact .inl (.inl hi)
theorem endR_spec {C : List (List Nat)} {m i : Nat} : i ∈ endR C m ↔ i < m ∧ ∀ k, k < m → i ∉ C.getD k [] := by
 unfold endR
 rw [List.mem_filter, List.all_eq_true, List.mem_range]
 exact and_congr_right fun _ => ⟨fun h k hk => not_containsR.1 (h k (List.mem_range.2 hk)), fun h k hk => not_containsR.2 (h k (List.mem_range.1 hk))⟩
/-- What is to be shown of operation j. -/
def ObR (P : Program) (ops : Array Oper) (S : World → Prop) (R C : List (List Nat)) (Rel : World → World → Prop) (m : Nat) (V : (Nat → Value) → List VP) (x : Nat → Value) (a0 : Act) (j : Nat) : Prop :=
 ∀ w, S w → (∀ i ∈ availR R C m j, ((V x).getD i VAny).p (x i) w) →
  wpOp P ops NoWay j (fun a' w' => ∃ v, (∀ d, dstOf ops j = some d → a'.tmps[d]? = some v) ∧ a'.defers = a0.defers ∧ ((V x).getD j VAny).p v w' ∧ StepR C Rel j w w') (putS ops x a0 j) w
theorem tasks_goR {m : Nat} {Rel : World → World → Prop} {R C : List (List Nat)} {V : (Nat → Value) → List VP} {S : World → Prop} {a0 : Act} (hok : tasksOk ops m a0.tmps.size R = true)
    (hdep : ∀ x x' j, (∀ i ∈ R.getD j [], x i = x' i) → (V x).getD j VAny = (V x').getD j VAny) (hweak : ∀ i, i < m → (C.getD i []).isEmpty = false → ∀ k, k < m → k ≠ i → i ∉ R.getD k [] → k ∉ C.getD i [] → ∀ x v w w', ((V x).getD k VAny).p v w → Rel w w' → ((V x).getD k VAny).p v w') (hSt : ∀ j w w', S w → StepR C Rel j w w' → S w') (hob : ∀ x j, j < m → ObR P ops S R C Rel m V x a0 j)
    (hend : ∀ x w', S w' → (∀ i ∈ endR C m, ((V x).getD i VAny).p (x i) w') → wpAny P .any ops Q (ops.size - m) (listedTo ops.size m) (putS ops x a0 m) w') :
    ∀ (c : Nat) (U : List Nat) (listed : Array Bool) (w : World) (x : Nat → Value), U.length = c → U.Nodup → (∀ i, i ∈ U ↔ i < m ∧ listed.getD i false = false) → listed.size = ops.size →
     (∀ i, m ≤ i → i < ops.size → listed.getD i false = false) → (∀ (j : Nat) (o : Oper), ops[j]? = some o → listed.getD j false = true → ∀ e ∈ o.after, Region.binds .any e = true → listed.getD e.on false = true) →
     S w → (∀ i, i < m → listed.getD i false = true → (∀ j, j < m → i ∈ C.getD j [] → listed.getD j false = false) → ((V x).getD i VAny).p (x i) w) → wpAny P .any ops Q (ops.size - m + c) listed (putD ops (fun i => listed.getD i false) x a0 m) w := by
 obtain ⟨hmn, hspec, htail⟩ := tasks_spec hok
 have hsel : Region.noSelect ops = true := by unfold tasksOk at hok; simp only [Bool.and_eq_true] at hok; exact hok.1.1
 intro c
 induction c with
 | zero =>
  intro U listed w x hU hnd hmem hsz hun hcl hS hV
  obtain rfl : U = [] := List.eq_nil_of_length_eq_zero hU
  have hall : ∀ i, i < m → listed.getD i false = true := fun i hi => by
   cases h : listed.getD i false
   · exact absurd ((hmem i).2 ⟨hi, h⟩) (by simp)
   · rfl
  have hl : listed = listedTo ops.size m := by
   apply Array.ext
   · simp [listedTo, hsz]
   · intro i h1 h2
     have e : listed.getD i false = listed[i] := by simp [Array.getD, h1]
     by_cases hi : i < m
     · have := hall i hi
       rw [e] at this
       simp [listedTo, this, hi]
     · have := hun i (by omega) (by omega)
       rw [e] at this
       simp [listedTo, this, hi]
  rw [Nat.add_zero, putD_congr (ops := ops) _ (fun _ => true) x x a0 m (fun i hi => ⟨hall i hi, fun _ => rfl⟩), hl]
  exact hend x w hS (fun i hi => hV i (endR_spec.1 hi).1 (hall i (endR_spec.1 hi).1) (fun j hj hc => absurd hc ((endR_spec.1 hi).2 j hj)))
 | succ c ih =>
  intro U listed w x hU hnd hmem hsz hun hcl hS hV
  have hne : U ≠ [] := fun e => by rw [e] at hU; simp at hU
  show (_ → _) ∧ _
  refine ⟨fun hr => ?_, fun i hi => ?_⟩
  · exfalso
    obtain ⟨i, hiU, hmin⟩ := min_mem U hne
    obtain ⟨him, hil⟩ := (hmem i).1 hiU
    have hlt : i < ops.size := by omega
    have : i ∈ Region.ready .any ops listed := mem_ready.2 ⟨by simpa [Array.getD, hsz, hlt] using hil, _, Array.getElem?_eq_getElem hlt, fun e he hb => by
     have hlti := (hspec i _ (Array.getElem?_eq_getElem hlt) him).1 e he hb
     cases h : listed.getD e.on false
     · have := hmin e.on ((hmem _).2 ⟨by omega, h⟩); omega
     · rfl⟩
    rw [hr] at this
    cases this
  · obtain ⟨hil, o, ho, hdeps⟩ := mem_ready.1 hi
    have hlt : i < ops.size := (Array.getElem?_eq_some_iff.1 ho).1
    have hil' : listed.getD i false = false := by simpa [Array.getD, hsz, hlt] using hil
    have hreach := listed_reach hok (fun i => listed.getD i false) hcl i o ho hdeps
    have him : i < m := by
     rcases Nat.lt_or_ge i m with h | h
     · exact h
     · exfalso
       obtain ⟨k, hk⟩ := List.exists_mem_of_ne_nil U hne
       obtain ⟨hkm, hkl⟩ := (hmem k).1 hk
       have := hreach k (htail i hlt h k hkm)
       rw [hkl] at this; cases this
    obtain ⟨_, ⟨d, hd, hdsz, hduniq⟩, hlook⟩ := hspec i o ho him
    have hdst : dstOf ops i = some d := by simp [dstOf, ho, hd]
    have hso : ∀ cs b, o.op ≠ .select cs b := fun cs b => Region.noSelect_spec hsel i o cs b ho
    -- the two frames agree on what o looks at
    have hagree : ∀ t ∈ o.looksAt ops, (putD ops (fun i => listed.getD i false) x a0 m).tmps[t]? = (putS ops x a0 i).tmps[t]? := fun t ht => by
     by_cases hex : ∃ k, k < m ∧ dstOf ops k = some t
     · obtain ⟨k, hkm, hkd⟩ := hex
       have hkR := hlook t ht k hkm hkd
       have hki := reach_lt hok i hlt k hkR
       have hkl := hreach k hkR
       have hks : k < ops.size := by omega
       obtain ⟨_, ⟨d', hd', hdsz', hu'⟩, _⟩ := hspec k _ (Array.getElem?_eq_getElem hks) hkm
       have htd : d' = t := by
        have : dstOf ops k = some d' := by simp [dstOf, Array.getElem?_eq_getElem hks, hd']
        rw [hkd] at this; injection this with this; exact this.symm
       rw [putD_at _ _ _ _ k hkd hkl (htd ▸ hdsz') m hkm (fun l hl hlk => htd ▸ hu' l hl hlk)]
       unfold putS
       rw [putD_at _ _ _ _ k hkd rfl (htd ▸ hdsz') i hki (fun l hl hlk => htd ▸ hu' l (by omega) hlk)]
     · rw [putD_other _ _ _ _ m (fun k hk hkd => absurd ⟨k, hk, hkd⟩ hex)]
       unfold putS
       rw [putD_other _ _ _ _ i (fun k hk hkd => absurd ⟨k, by omega, hkd⟩ hex)]
    have hob' := hob x i him w hS (fun k hk => by
     obtain ⟨hkR, hkC⟩ := availR_spec.1 hk
     refine hV k (by have := reach_lt hok i hlt k hkR; omega) (hreach k hkR) (fun j hj hc => ?_)
     rcases hkC j hj hc with rfl | hij
     · exact hil'
     · cases hjl : listed.getD j false
       · rfl
       · have hjs : j < ops.size := by omega
         have := listed_reach hok (fun i => listed.getD i false) hcl j _ (Array.getElem?_eq_getElem hjs) (hcl j _ (Array.getElem?_eq_getElem hjs) hjl) i hij
         rw [hil'] at this; cases this)
    have hsz1 := putD_size (ops := ops) (fun _ => true) x a0 i
    -- what comes behind
    have next : ∀ v w', ((V x).getD i VAny).p v w' → StepR C Rel i w w' → wpAny P .any ops Q (ops.size - m + c) (listed.setIfInBounds i true) ((putD ops (fun i => listed.getD i false) x a0 m).put (some d) v) w' := fun v w' hv hb => by
     have hput := putD_put (ops := ops) (fun k => listed.getD k false) (fun k => (listed.setIfInBounds i true).getD k false) x (fun k => if k = i then v else x k) a0 i hil'
      (by simp [hsz, hlt]) (fun k hk => ⟨by rw [getD_set_ne _ (Ne.symm hk)], by simp [hk]⟩) m him
      (fun d' k hk hki hd' => by rw [hdst] at hd'; injection hd' with hd'; exact hd' ▸ hduniq k hk hki)
     simp only [if_true] at hput
     rw [← hdst, hput]
     refine ih (U.erase i) _ _ _ ?_ (hnd.erase _) (fun k => ?_) (by simpa using hsz) (fun k h1 h2 => ?_) (fun j oj hoj hj e he hb' => ?_) (hSt i _ _ hS hb) (fun k hk hkl hcons => ?_)
     · rw [List.length_erase_of_mem ((hmem i).2 ⟨him, hil'⟩), hU]; rfl
     · rw [hnd.mem_erase_iff, hmem]
       by_cases hk : k = i
       · subst hk; simp [hsz, hlt]
       · rw [getD_set_ne _ (Ne.symm hk)]; simp [hk]
     · rw [getD_set_ne _ (by omega)]; exact hun k h1 h2
     · by_cases hji : j = i
       · subst hji
         rw [ho] at hoj; injection hoj with hoj; subst hoj
         exact getD_set_true (hdeps e he hb')
       · rw [getD_set_ne _ (Ne.symm hji)] at hj
         exact getD_set_true (hcl j oj hoj hj e he hb')
     · by_cases hki : k = i
       · subst hki
         rw [hdep _ x k (fun l hl => by have := reach_lt hok k hlt l hl; simp only [show l ≠ k by omega, if_false])]
         simpa using hv
       · rw [getD_set_ne _ (Ne.symm hki)] at hkl
         have hks : k < ops.size := by omega
         have hdk : (V fun l => if l = i then v else x l).getD k VAny = (V x).getD k VAny := hdep _ x k (fun l hl => by
          have hll := listed_reach hok (fun i => listed.getD i false) hcl k _ (Array.getElem?_eq_getElem hks) (hcl k _ (Array.getElem?_eq_getElem hks) hkl) l hl
          have hne : l ≠ i := fun e => by rw [e] at hll; rw [hil'] at hll; cases hll
          simp only [hne, if_false])
         simp only [hki, if_false]
         rw [hdk]
         have hb0 : ∀ j, j < m → k ∈ C.getD j [] → listed.getD j false = false := fun j hj hc => by
          have h1 := hcons j hj hc
          by_cases hji : j = i
          · rw [hji]; exact hil'
          · rwa [getD_set_ne _ (Ne.symm hji)] at h1
         have hkC : k ∉ C.getD i [] := fun hc => by
          have h1 := hcons i him hc
          simp [hsz, hlt] at h1
         have hiR : i ∉ R.getD k [] := fun hik => by
          have := listed_reach hok (fun i => listed.getD i false) hcl k _ (Array.getElem?_eq_getElem hks) (hcl k _ (Array.getElem?_eq_getElem hks) hkl) i hik
          rw [hil'] at this; cases this
         cases he : (C.getD i []).isEmpty
         · replace hb : Rel w w' := by unfold StepR at hb; rw [he] at hb; exact hb
           exact hweak i him he k hk hki hiR hkC x _ _ _ (hV k hk hkl hb0) hb
         · replace hb : Below w.heap.size w w' := by unfold StepR at hb; rw [he] at hb; exact hb
           exact ((V x).getD k VAny).st _ _ _ (hV k hk hkl hb0) hb
    unfold wpOp at hob' ⊢
    simp only [ho] at hob' ⊢
    rw [wanted_same hagree]
    split
    · rename_i hw
      rw [if_pos hw] at hob'
      rcases hob' with h | ⟨_, h⟩
      case inr => exact absurd h NoWay.lets
      refine .inl (Oper.wp_mono ?_ (wp_move (Q := Q) (d := d) (R := fun v w' => ((V x).getD i VAny).p v w' ∧ StepR C Rel i w w') (exec_same hso hagree) hd (by unfold putS; rw [hsz1.1]; exact hdsz)
       (Oper.wp_mono (fun a' w' ⟨v, h1, h2, h3, h4⟩ => ⟨v, h1 d hdst, by unfold putS; rw [hsz1.2]; exact h2, h3, h4⟩) h)))
      rintro a' w' ⟨v, rfl, hv, hb⟩
      exact next v w' hv hb
    · rename_i hw
      rw [if_neg hw] at hob'
      obtain ⟨v, h1, _, h3, h4⟩ := hob'
      have hvu : v = undef := by
       have := h1 d hdst
       rw [hd] at this
       simp [Act.put, putS, hsz1.1, hdsz] at this
       exact this.symm
      rw [hd]
      exact next undef w (hvu ▸ h3) h4
/-- **A region that draws its order**: each of its first m operations is shown once; what is left behind them goes on. -/
theorem wp_tasksR {id m : Nat} {Rel : World → World → Prop} (R C : List (List Nat)) (V : (Nat → Value) → List VP) (S : World → Prop) {a0 : Act} {w : World} (hm : P.follows .mixedOrders = true) (hok : tasksOk ops m a0.tmps.size R = true)
    (hdep : ∀ x x' j, (∀ i ∈ R.getD j [], x i = x' i) → (V x).getD j VAny = (V x').getD j VAny) (hweak : ∀ i, i < m → (C.getD i []).isEmpty = false → ∀ k, k < m → k ≠ i → i ∉ R.getD k [] → k ∉ C.getD i [] → ∀ x v w w', ((V x).getD k VAny).p v w → Rel w w' → ((V x).getD k VAny).p v w') (hS0 : S w.drew) (hSt : ∀ j w w', S w → StepR C Rel j w w' → S w') (hob : ∀ x j, j < m → ObR P ops S R C Rel m V x a0 j)
    (hend : ∀ x w', S w' → (∀ i ∈ endR C m, ((V x).getD i VAny).p (x i) w') → wpAny P .any ops Q (ops.size - m) (listedTo ops.size m) (putS ops x a0 m) w') : (Code.region id ops true).wp P Q a0 w := by
 have hmn := (tasks_spec hok).1
 have hf : ∀ i, (Array.replicate ops.size false).getD i false = false := fun i => by simp [Array.getD]
 have h := tasks_goR (Q := Q) hok hdep hweak hSt hob hend m (List.range m) (Array.replicate ops.size false) w.drew (fun _ => undef) (by simp) List.nodup_range (fun i => by rw [hf]; simp) (by simp) (fun i _ _ => hf i) (fun j o _ hj => by rw [hf] at hj; cases hj) hS0
  (fun i _ hi => by rw [hf] at hi; cases hi)
 refine wp_region_any hm ?_
 rw [show ops.size - m + m = ops.size by omega, putD_congr (ops := ops) _ (fun _ => false) _ (fun _ => undef) a0 m (fun i _ => ⟨hf i, fun _ => rfl⟩)] at h
 have e : ∀ n, putD ops (fun _ => false) (fun _ => undef) a0 n = a0 := fun n => by
  induction n with
  | zero => rfl
  | succ n ih => unfold putD; simpa using ih
 rw [e] at h
 exact h
/-- What is to be shown, operation by operation, in the text's order; the frame goes along. -/
def ObsR (P : Program) (ops : Array Oper) (Q : Exit → Act → World → Prop) (S : World → Prop) (R C : List (List Nat)) (Rel : World → World → Prop) (m : Nat) (V : (Nat → Value) → List VP) (x : Nat → Value) : Nat → Nat → Act → Prop
 | 0, j, a => ∀ w, S w → (∀ i ∈ endR C m, ((V x).getD i VAny).p (x i) w) → wpAny P .any ops Q (ops.size - j) (listedTo ops.size j) a w
 | r + 1, j, a => (∀ w, S w → (∀ i ∈ availR R C m j, ((V x).getD i VAny).p (x i) w) →
     wpOp P ops NoWay j (fun a' w' => ∃ v, (∀ d, dstOf ops j = some d → a'.tmps[d]? = some v) ∧ a'.defers = a.defers ∧ ((V x).getD j VAny).p v w' ∧ StepR C Rel j w w') a w) ∧
  ObsR P ops Q S R C Rel m V x r (j + 1) (a.put (dstOf ops j) (x j))
theorem obs_allR {S : World → Prop} {R C : List (List Nat)} {Rel : World → World → Prop} {m : Nat} {V : (Nat → Value) → List VP} {x : Nat → Value} {a0 : Act} : ∀ (r j : Nat), ObsR P ops Q S R C Rel m V x r j (putS ops x a0 j) →
    (∀ k, j ≤ k → k < j + r → ObR P ops S R C Rel m V x a0 k) ∧ ∀ w, S w → (∀ i ∈ endR C m, ((V x).getD i VAny).p (x i) w) → wpAny P .any ops Q (ops.size - (j + r)) (listedTo ops.size (j + r)) (putS ops x a0 (j + r)) w := by
 intro r
 induction r with
 | zero => intro j h; exact ⟨fun k h1 h2 => by omega, h⟩
 | succ r ih =>
  intro j h
  obtain ⟨h1, h2⟩ := h
  have h2' : ObsR P ops Q S R C Rel m V x r (j + 1) (putS ops x a0 (j + 1)) := h2
  obtain ⟨h3, h4⟩ := ih (j + 1) h2'
  refine ⟨fun k hk1 hk2 => ?_, by rw [show j + (r + 1) = j + 1 + r by omega]; exact h4⟩
  by_cases hk : k = j
  · subst hk
    intro w hS hV
    have h := h1 w hS hV
    rw [show (putS ops x a0 k).defers = a0.defers from (putD_size _ _ _ _).2] at h
    exact h
  · exact h3 k (by omega) (by omega)
theorem wp_obsR {id : Nat} (m : Nat) (Rel : World → World → Prop) (R C : List (List Nat)) (V : (Nat → Value) → List VP) (S : World → Prop) {a0 : Act} {w : World} (hm : P.follows .mixedOrders = true) (hok : tasksOk ops m a0.tmps.size R = true)
    (hdep : ∀ x x' j, (∀ i ∈ R.getD j [], x i = x' i) → (V x).getD j VAny = (V x').getD j VAny) (hweak : ∀ i, i < m → (C.getD i []).isEmpty = false → ∀ k, k < m → k ≠ i → i ∉ R.getD k [] → k ∉ C.getD i [] → ∀ x v w w', ((V x).getD k VAny).p v w → Rel w w' → ((V x).getD k VAny).p v w') (hSt : ∀ j w w', S w → StepR C Rel j w w' → S w') (hS0 : S w.drew) (h : ∀ x, ObsR P ops Q S R C Rel m V x m 0 a0) : (Code.region id ops true).wp P Q a0 w :=
 wp_tasksR (m := m) (Rel := Rel) R C V S hm hok hdep hweak hS0 hSt (fun x j hj => (obs_allR m 0 (h x)).1 j (by omega) (by omega)) (fun x w' hS hV => by
  have := (obs_allR m 0 (h x)).2 w' hS (hV)
  rwa [Nat.zero_add] at this)
theorem obs_stepR {S : World → Prop} {R C : List (List Nat)} {Rel : World → World → Prop} {m : Nat} {V : (Nat → Value) → List VP} {x : Nat → Value} {r j : Nat} {a : Act} {o : Oper} {d : Tmp} (ho : ops[j]? = some o) (hd : o.dst = some d)
    (h : ∀ w, S w → (∀ i ∈ availR R C m j, ((V x).getD i VAny).p (x i) w) → ∀ K : Act → World → Prop, Shut (∀ a' w' v, a'.tmps[d]? = some v → a'.defers = a.defers → ((V x).getD j VAny).p v w' → StepR C Rel j w w' → K a' w') →
     if Region.wanted o (yielded ops a.tmps) = true then Oper.wp P o a w K NoWay else K (a.put o.dst undef) w)
    (hr : ObsR P ops Q S R C Rel m V x r (j + 1) { a with tmps := a.tmps.setIfInBounds d (x j) }) : ObsR P ops Q S R C Rel m V x (r + 1) j a := by
 have hdst : dstOf ops j = some d := by simp [dstOf, ho, hd]
 refine ⟨fun w hS hV => wpOp_step ho (fun K hK => ?_), by rw [hdst]; exact hr⟩
 exact h w hS hV K (fun a' w' v h1 h2 h3 h4 => hK a' w' ⟨v, fun d' hd' => by rw [hdst] at hd'; injection hd' with hd'; exact hd' ▸ h1, h2, h3, h4⟩)
/-- A step, its listing read by itself. -/
theorem zSR {S : World → Prop} {R C : List (List Nat)} {Rel : World → World → Prop} {m : Nat} {V : (Nat → Value) → List VP} {x : Nat → Value} {r j : Nat} {a a' : Act} {o : Oper} {d : Tmp}
    (h : ∀ w, S w → (∀ i ∈ availR R C m j, ((V x).getD i VAny).p (x i) w) → ∀ K : Act → World → Prop, Shut (∀ a' w' v, a'.tmps[d]? = some v → a'.defers = a.defers → ((V x).getD j VAny).p v w' → StepR C Rel j w w' → K a' w') →
     if Region.wanted o (yielded ops a.tmps) = true then Oper.wp P o a w K NoWay else K (a.put o.dst undef) w)
    (hr : ObsR P ops Q S R C Rel m V x r (j + 1) a') (ho : ops[j]? = some o := by exact Eq.trans (by simp only [zA, zB, zC]; exact rfl) rfl) (hd : o.dst = some d := by exact rfl)
    (ha : { a with tmps := a.tmps.setIfInBounds d (x j) } = a' := by simp only [zD, zE, zF]; exact rfl) : ObsR P ops Q S R C Rel m V x (r + 1) j a := by
 subst ha
 exact obs_stepR ho hd h hr
/-- Those that bear an append in place: their values are plain. -/
theorem weak_ofR {m : Nat} {Rel : World → World → Prop} {R C : List (List Nat)} {V : (Nat → Value) → List VP} (Wk : List Nat)
    (hchk : ((List.range m).all fun i => (C.getD i []).isEmpty || (List.range m).all fun k => k == i || (R.getD k []).contains i || (C.getD i []).contains k || Wk.contains k) = true)
    (hW : ∀ k ∈ Wk, ∀ x v w w', ((V x).getD k VAny).p v w → Rel w w' → ((V x).getD k VAny).p v w') :
    ∀ i, i < m → (C.getD i []).isEmpty = false → ∀ k, k < m → k ≠ i → i ∉ R.getD k [] → k ∉ C.getD i [] → ∀ x v w w', ((V x).getD k VAny).p v w → Rel w w' → ((V x).getD k VAny).p v w' := by
 intro i hi he k hk hne hR hC x v w w' hp hrel
 have h1 := List.all_eq_true.1 hchk i (List.mem_range.2 hi)
 rw [he, Bool.false_or] at h1
 have h2 := List.all_eq_true.1 h1 k (List.mem_range.2 hk)
 rw [Bool.or_eq_true, Bool.or_eq_true, Bool.or_eq_true, beq_iff_eq, List.contains_iff_mem, List.contains_iff_mem, List.contains_iff_mem] at h2
 rcases h2 with ((h2 | h2) | h2) | h2
 · exact absurd h2 hne
 · exact absurd h2 hR
 · exact absurd h2 hC
 · exact hW k h2 x v w w' hp hrel
end
theorem and_small (x : Int) : 0 ≤ bits BinOp.and IntKind.u64 x 16777215 ∧ bits BinOp.and IntKind.u64 x 16777215 ≤ 16777215 := by
 unfold bits
 simp only
 have h : (BitVec.ofInt IntKind.u64.bits x &&& BitVec.ofInt IntKind.u64.bits 16777215).toNat ≤ 16777215 := by
  rw [BitVec.toNat_and]
  exact Nat.le_trans Nat.and_le_right (by decide)
 obtain ⟨r, hr⟩ : ∃ r, r = (BitVec.ofInt IntKind.u64.bits x &&& BitVec.ofInt IntKind.u64.bits 16777215).toNat := ⟨_, rfl⟩
 rw [← hr] at h ⊢
 have e : IntKind.u64.wrap ((r : Nat) : Int) = (r : Int) := by
  have e1 : IntKind.u64.wrap ((r : Nat) : Int) = ((r : Nat) : Int) % 18446744073709551616 := rfl
  rw [e1]; omega
 rw [e]
 omega
/-- A source: a code, a place in it, a number. -/
def Src (w : World) (g : Nat) (T : TypeId) : Prop := ∃ (B : Option Addr) (nb cb : Nat) (bs : List Int) (pl : Nat) (h : Int), Blk w g T #[.slice B nb cb, .int .i64 pl, .int .u64 h] ∧ Rd w B nb (bs.map (Value.int .u8)) ∧ (∀ b ∈ bs, 0 ≤ b ∧ b < 256) ∧ pl ≤ nb ∧ nb ≤ 4096 ∧ ∀ a, B = some a → a.block < g
/-- What drawing leaves as it was: all but the source's own block. -/
structure Dr (g : Nat) (T : TypeId) (w w' : World) : Prop where
 s : Src w g T
 s' : Src w' g T
 b : Below g w w'
 k : ∀ k, k < w.heap.size → k ≠ g → w'.heap[k]? = w.heap[k]?
theorem Blk.three {w : World} {g : Nat} {t : TypeId} {a b c : Value} (h : Blk w g t #[a, b, c]) : w.cell? ⟨g, 0, none⟩ = some a ∧ w.cell? ⟨g, 1, none⟩ = some b ∧ w.cell? ⟨g, 2, none⟩ = some c := ⟨h.cell 0, h.cell 1, h.cell 2⟩
theorem Src.lt {w : World} {g : Nat} {T : TypeId} (h : Src w g T) : g < w.heap.size := by obtain ⟨B, nb, cb, bs, pl, x, k, _⟩ := h; exact k.lt
theorem Src.keep {w w' : World} {g : Nat} {T : TypeId} (h : Src w g T) (hk : w'.heap[g]? = w.heap[g]?) (hb : Below g w w') : Src w' g T := by
 obtain ⟨B, nb, cb, bs, pl, x, k, r, h1, h2, h3, h4⟩ := h
 refine ⟨B, nb, cb, bs, pl, x, hk.trans k, ⟨r.1, fun hn0 => ?_⟩, h1, h2, h3, h4⟩
 obtain ⟨gb, ob, e, hc⟩ := r.2 hn0
 exact ⟨gb, ob, e, fun j u hu => (hb.cell (show gb < g from h4 _ e)).trans (hc j u hu)⟩
theorem Src.below {w w' : World} {g : Nat} {T : TypeId} (h : Src w g T) (hb : Below w.heap.size w w') : Src w' g T := by
 obtain ⟨B, nb, cb, bs, pl, x, k, r, rest⟩ := h
 exact ⟨B, nb, cb, bs, pl, x, k.below hb k.lt, r.below hb, rest⟩
theorem Dr.refl {w : World} {g : Nat} {T : TypeId} (h : Src w g T) : Dr g T w w := ⟨h, h, Below.refl _ _, fun _ _ _ => rfl⟩
theorem Dr.of_below {w w' : World} {g : Nat} {T : TypeId} (h : Src w g T) (hb : Below w.heap.size w w') : Dr g T w w' := ⟨h, h.below hb, hb.mono (Nat.le_of_lt h.lt), fun k hk _ => hb.block k hk⟩
theorem Dr.trans {w w1 w2 : World} {g : Nat} {T : TypeId} (h : Dr g T w w1) (h' : Dr g T w1 w2) : Dr g T w w2 :=
 ⟨h.s, h'.s', h.b.trans h'.b, fun k hk hne => (h'.k k (Nat.lt_of_lt_of_le hk h.b.size) hne).trans (h.k k hk hne)⟩
theorem Dr.size {w w' : World} {g : Nat} {T : TypeId} (h : Dr g T w w') : w.heap.size ≤ w'.heap.size := h.b.size
theorem Blk.dr {w w' : World} {g g' : Nat} {T t : TypeId} {cs : Array Value} (h : Blk w g' t cs) (d : Dr g T w w') (hne : t ≠ T) : Blk w' g' t cs := by
 refine (d.k g' h.lt fun e => ?_).trans h
 subst e
 obtain ⟨B, nb, cb, bs, pl, x, k, _⟩ := d.s
 unfold Blk at h k
 rw [h] at k
 injection k with k
 injection k with _ e
 exact hne e
theorem Own.dr {w w' : World} {g : Nat} {T E : TypeId} {B : Nat} {A : Option Addr} {n c : Nat} {us : List Value} (h : Own w B E A n c us) (d : Dr g T w w') (hne : E ≠ T) : Own w' B E A n c us := by
 obtain ⟨B', nb, cb, bs, pl, x, k, _⟩ := d.s
 have hn := h.ne_blk k hne
 refine ⟨h.1, ?_⟩
 rcases h.2 with hz | ⟨g', cap, cur, he, hB, hg, r⟩
 · exact .inl hz
 · refine .inr ⟨g', cap, cur, he, hB, (d.k g' (Array.getElem?_eq_some_iff.1 hg).1 fun e => hn ?_).trans hg, r⟩
   rw [he, ← e]; rfl
theorem Dr.set {w : World} {g : Nat} {T : TypeId} {B : Option Addr} {nb cb : Nat} {bs : List Int} {pl pl' : Nat} {h h' : Int} (k : Blk w g T #[.slice B nb cb, .int .i64 pl, .int .u64 h]) (r : Rd w B nb (bs.map (Value.int .u8))) (hbs : ∀ b ∈ bs, 0 ≤ b ∧ b < 256) (hpl : pl ≤ nb) (hnb : nb ≤ 4096) (hbg : ∀ a, B = some a → a.block < g)
    (i : Nat) (u : Value) (e : (#[.slice B nb cb, .int .i64 pl, .int .u64 h] : Array Value).setIfInBounds i u = #[.slice B nb cb, .int .i64 pl', .int .u64 h']) (hpl' : pl' ≤ nb) :
    Dr g T w (w.setCell ⟨g, i, none⟩ u) ∧ Blk (w.setCell ⟨g, i, none⟩ u) g T #[.slice B nb cb, .int .i64 pl', .int .u64 h'] ∧ Rd (w.setCell ⟨g, i, none⟩ u) B nb (bs.map (Value.int .u8)) := by
 have k1 := k.set_ i u
 rw [e] at k1
 have hfar : ∀ b, b ≠ g → (w.setCell ⟨g, i, none⟩ u).heap[b]? = w.heap[b]? := fun b hb => Below.heap_setCell w ⟨g, i, none⟩ _ b hb
 have hr : Rd (w.setCell ⟨g, i, none⟩ u) B nb (bs.map (Value.int .u8)) := ⟨r.1, fun hn0 => by
  obtain ⟨gb, ob, e, hc⟩ := r.2 hn0
  refine ⟨gb, ob, e, fun j u hu => ?_⟩
  have hcj := hc j u hu
  have hlt := hbg _ e
  exact (World.cell?_of_block (hfar gb (fun e => by simp at hlt; omega))).trans hcj⟩
 exact ⟨⟨⟨B, nb, cb, bs, pl, h, k, r, hbs, hpl, hnb, hbg⟩, ⟨B, nb, cb, bs, pl', h', k1, hr, hbs, hpl', hnb, hbg⟩, zG.setCell (p := ⟨g, i, none⟩) (Nat.le_refl _) _, fun b _ hb => hfar b hb⟩, k1, hr⟩
theorem Dr.alloc {w w' : World} {g : Nat} {T : TypeId} (h : Dr g T w w') (o : Obj) : Dr g T w (w'.alloc o) := h.trans (Dr.of_below h.s' (zG.alloc (Nat.le_refl _) o))
theorem Dr.then {w w1 w2 : World} {g : Nat} {T : TypeId} (h : Dr g T w w1) (hb : Below w1.heap.size w1 w2) : Dr g T w w2 := h.trans (Dr.of_below h.s' hb)
/-- A row made since then grows. -/
theorem Dr.grown {w wr w' : World} {g : Nat} {T E : TypeId} {A : Option Addr} {n c : Nat} {us : List Value} (d : Dr g T w wr) (o : Own wr w.heap.size E A n c us) (hg : wr.grownBy w' (Value.slice A n c).ownBlock) : Dr g T w w' := by
 have hlt := d.s.lt
 have hrow : ∀ k, (Value.slice A n c).ownBlock = some k → w.heap.size ≤ k := fun k hk => (World.ownsRow.lt o k hk).1
 have hb : Below g wr w' := (Below.refl g wr).grown hg (Nat.le_of_lt (Nat.lt_of_lt_of_le hlt d.size)) fun k hk => Nat.le_trans (Nat.le_of_lt hlt) (hrow k hk)
 exact ⟨d.s, d.s'.keep (hg.block g (Nat.lt_of_lt_of_le hlt d.size) fun e => by have := hrow g e.symm; omega) hb, d.b.trans hb,
  fun k hk hne => (hg.block k (Nat.lt_of_lt_of_le hk d.size) fun e => by have := hrow k e.symm; omega).trans (d.k k hk hne)⟩
set_option maxHeartbeats 1600000 in
set_option maxRecDepth 8000 in
theorem next_any (g : Nat) (n : Int) (w : World) (hs : Src w g 144) (hn : n ≤ 4611686018427387904) :
    Calls Tryz.prog 150 #[.pointer (some ⟨g, 0, none⟩), .int .i64 n] w fun e w' => ∃ r : Int, e = .returned (.int .i64 r) ∧ 0 ≤ r ∧ (1 ≤ n → r < n) ∧ Dr g 144 w w' := by
 by_cases h1 : n < 1
 · have d1 : decide (n < 1) = true := by simpa using h1
   go_enter Tryz.func150, Tryz.ntmps150
   go_wp2
   go_ret
   exact ⟨0, rfl, by omega, fun h => by omega, Dr.refl hs⟩
 · have d1 : decide (n < 1) = false := by simpa using h1
   obtain ⟨B, nb, cb, bs, pl, h, k, r, hbs, hpl, hnb, hbg⟩ := id hs
   have q0 : w.cell? ⟨g, 0, none⟩ = some (.slice B nb cb) := k.cell 0
   have q1 : w.cell? ⟨g, 1, none⟩ = some (.int .i64 pl) := k.cell 1
   have q2 : w.cell? ⟨g, 2, none⟩ = some (.int .u64 h) := k.cell 2
   have f2 := k.frozen 2
   go_enter Tryz.func150, Tryz.ntmps150
   go_wp2
   obtain ⟨H, hH⟩ : ∃ H, H = IntKind.u64.wrap (IntKind.u64.wrap (h * 6364136223846793005) + 1442695040888963407) := ⟨_, rfl⟩
   rw [← hH]
   have hsm := and_small (H / 8589934592)
   obtain ⟨X, hX⟩ : ∃ X, X = bits BinOp.and IntKind.u64 (H / 8589934592) 16777215 := ⟨_, rfl⟩
   rw [← hX] at hsm ⊢
   have W1 : wrap64 X = X := by unfold wrap64; omega
   rw [W1]
   obtain ⟨x1, x2⟩ := hsm
   obtain ⟨hd1, k1, r1⟩ := Dr.set k r hbs hpl hnb hbg 2 (.int .u64 H) (pl' := pl) (h' := H) (by simp) hpl
   clear q0 q1 q2 f2 hX
   obtain ⟨w1, hw1⟩ : ∃ W, W = w.setCell ⟨g, 2, none⟩ (.int .u64 H) := ⟨_, rfl⟩
   rw [← hw1] at k1 r1 hd1 ⊢
   have hN0 : (n == 0) = false := by simp; omega
   have hN1 : (n == -1) = false := by simp; omega
   have hN2 : ¬ n = 0 := by omega
   have HD := Lib.hid hd1
   have HBS := Lib.hid hbs
   have HBG := Lib.hid hbg
   have HR1 := Lib.hid r1
   clear hw1 hH hd1 r k hbg
   by_cases hpn : pl < nb
   · have dl : decide ((pl : Int) < (nb : Int)) = true := by simp; omega
     obtain ⟨gb, ob, rfl, hc⟩ := r1.2 (by omega)
     have hbl : pl < bs.length := by have := r1.1; rw [List.length_map] at this; omega
     have hcb := hc pl (.int .u8 bs[pl]) (by simp [hbl])
     obtain ⟨b1, b2⟩ := hbs _ (List.getElem_mem hbl)
     obtain ⟨bb, hbb⟩ : ∃ x, x = bs[pl] := ⟨_, rfl⟩
     rw [← hbb] at hcb b1 b2
     have i1 : (0 : Int) ≤ (pl : Int) := by omega
     have i2 : (pl : Int) < (nb : Int) := by omega
     have W2 : IntKind.i64.wrap bb = bb := by rw [IntWalk.i64_left]; unfold wrap64; omega
     have W4 : IntKind.i64.wrap (X + bb) = X + bb := by rw [IntWalk.i64_left]; unfold wrap64; omega
     have W5 : wrap64 ((pl : Int) + 1) = ((pl + 1 : Nat) : Int) := by unfold wrap64; omega
     have T1 := Int.tmod_eq_emod_of_nonneg (b := n) (show 0 ≤ X + bb by omega)
     clear hc hbs hbb r1
     go_wp2
     refine wp_obs 10 [[],[0],[0,1],[0,1,2],[],[4],[4,5],[4,5,6],[4,5,6,7],[0,1,2,3,4,5,6,7,8]] [VIs (.pointer (some ⟨g, 0, none⟩)), VIs (.pointer (some ⟨g, 0, none⟩)), VIs (.pointer (some ⟨g, 1, none⟩)), VIs (.int .i64 (pl)), VIs (.pointer (some ⟨g, 0, none⟩)), VIs (.pointer (some ⟨g, 0, none⟩)), VIs (.pointer (some ⟨g, 0, none⟩)), VIs (.slice (some ⟨gb, ob, none⟩) nb cb), VIs (.int .i64 (nb)), VIs (.bool true)] (fun w' => Blk w' g 144 #[.slice (some ⟨gb, ob, none⟩) nb cb, .int .i64 pl, .int .u64 H] ∧ w'.cell? ⟨gb, ob + pl, none⟩ = some (.int .u8 bb) ∧ Below w1.heap.size w1 w') (by kernel_rfl) (by kernel_rfl) (fun _ _ h hb => ⟨h.1.below hb h.1.lt, (hb.cell (World.block_lt_of_cell? _ _ h.2.1)).trans h.2.1, h.2.2.trans (hb.mono h.2.2.size)⟩) (⟨k1.drew, hcb, zG.drew⟩) (fun x => ?_)
     refine zS (fun w' hS hV K hK => ?_) ?_
     · obtain ⟨q0, q1, q2⟩ := hS.1.three; have qb := hS.2.1; go_simp; exact zO hK
     refine zS (fun w' hS hV K hK => ?_) ?_
     · have e0 := zQ hV 0; obtain ⟨q0, q1, q2⟩ := hS.1.three; have qb := hS.2.1; go_simp; exact zO hK
     refine zS (fun w' hS hV K hK => ?_) ?_
     · have e1 := zQ hV 1; obtain ⟨q0, q1, q2⟩ := hS.1.three; have qb := hS.2.1; go_simp; exact zO hK
     refine zS (fun w' hS hV K hK => ?_) ?_
     · have e2 := zQ hV 2; obtain ⟨q0, q1, q2⟩ := hS.1.three; have qb := hS.2.1; go_simp; exact zO hK
     refine zS (fun w' hS hV K hK => ?_) ?_
     · obtain ⟨q0, q1, q2⟩ := hS.1.three; have qb := hS.2.1; go_simp; exact zO hK
     refine zS (fun w' hS hV K hK => ?_) ?_
     · have e4 := zQ hV 4; obtain ⟨q0, q1, q2⟩ := hS.1.three; have qb := hS.2.1; go_simp; exact zO hK
     refine zS (fun w' hS hV K hK => ?_) ?_
     · have e5 := zQ hV 5; obtain ⟨q0, q1, q2⟩ := hS.1.three; have qb := hS.2.1; go_simp; exact zO hK
     refine zS (fun w' hS hV K hK => ?_) ?_
     · have e6 := zQ hV 6; obtain ⟨q0, q1, q2⟩ := hS.1.three; have qb := hS.2.1; go_simp; exact zO hK
     refine zS (fun w' hS hV K hK => ?_) ?_
     · have e7 := zQ hV 7; obtain ⟨q0, q1, q2⟩ := hS.1.three; have qb := hS.2.1; go_simp; exact zO hK
     refine zS (fun w' hS hV K hK => ?_) ?_
     · have e3 := zQ hV 3; have e8 := zQ hV 8; obtain ⟨q0, q1, q2⟩ := hS.1.three; have qb := hS.2.1; go_simp; exact zO hK
     refine fun w' hS hV => ?_
     have e0 := zT hV 0
     have e1 := zT hV 1
     have e2 := zT hV 2
     have e3 := zT hV 3
     have e4 := zT hV 4
     have e5 := zT hV 5
     have e6 := zT hV 6
     have e7 := zT hV 7
     have e8 := zT hV 8
     have e9 := zT hV 9
     simp only [e0, e1, e2, e3, e4, e5, e6, e7, e8, e9]
     clear e0 e1 e2 e3 e4 e5 e6 e7 e8 e9
     refine wpAny_done (by kernel_rfl) ?_ _
     obtain ⟨w2, rfl⟩ : ∃ W, W = w' := ⟨_, rfl⟩
     obtain ⟨k2, hcb2, hb2⟩ := hS
     have HR2 := Lib.hid (HR1.out.below hb2)
     have HD2 := Lib.hid (HD.out.trans (Dr.of_below HD.out.s' hb2))
     clear k1 hcb hb2
     go_wp2
     refine wp_obs 13 [[],[],[1],[1,2],[1,2,3],[],[5],[5,6],[5,6,7],[1,2,3,4,5,6,7,8],[1,2,3,4,5,6,7,8,9],[1,2,3,4,5,6,7,8,9,10],[0,1,2,3,4,5,6,7,8,9,10,11],[0,1,2,3,4,5,6,7,8,9,10,11,12]] [VIs (.int .i64 (X)), VIs (.pointer (some ⟨g, 0, none⟩)), VIs (.pointer (some ⟨g, 0, none⟩)), VIs (.pointer (some ⟨g, 0, none⟩)), VIs (.slice (some ⟨gb, ob, none⟩) nb cb), VIs (.pointer (some ⟨g, 0, none⟩)), VIs (.pointer (some ⟨g, 0, none⟩)), VIs (.pointer (some ⟨g, 1, none⟩)), VIs (.int .i64 (pl)), VIs (.pointer (some ⟨gb, ob + pl, none⟩)), VIs (.int .u8 bb), VIs (.int .i64 (bb)), VIs (.int .i64 (X + bb))] (fun w' => Blk w' g 144 #[.slice (some ⟨gb, ob, none⟩) nb cb, .int .i64 pl, .int .u64 H] ∧ w'.cell? ⟨gb, ob + pl, none⟩ = some (.int .u8 bb) ∧ Below w2.heap.size w2 w') (by kernel_rfl) (by kernel_rfl) (fun _ _ h hb => ⟨h.1.below hb h.1.lt, (hb.cell (World.block_lt_of_cell? _ _ h.2.1)).trans h.2.1, h.2.2.trans (hb.mono h.2.2.size)⟩) (⟨k2.drew, hcb2, zG.drew⟩) (fun x => ?_)
     refine zS (fun w' hS hV K hK => ?_) ?_
     · obtain ⟨q0, q1, q2⟩ := hS.1.three; have qb := hS.2.1; go_simp; exact zO hK
     refine zS (fun w' hS hV K hK => ?_) ?_
     · obtain ⟨q0, q1, q2⟩ := hS.1.three; have qb := hS.2.1; go_simp; exact zO hK
     refine zS (fun w' hS hV K hK => ?_) ?_
     · have e1 := zQ hV 1; obtain ⟨q0, q1, q2⟩ := hS.1.three; have qb := hS.2.1; go_simp; exact zO hK
     refine zS (fun w' hS hV K hK => ?_) ?_
     · have e2 := zQ hV 2; obtain ⟨q0, q1, q2⟩ := hS.1.three; have qb := hS.2.1; go_simp; exact zO hK
     refine zS (fun w' hS hV K hK => ?_) ?_
     · have e3 := zQ hV 3; obtain ⟨q0, q1, q2⟩ := hS.1.three; have qb := hS.2.1; go_simp; exact zO hK
     refine zS (fun w' hS hV K hK => ?_) ?_
     · obtain ⟨q0, q1, q2⟩ := hS.1.three; have qb := hS.2.1; go_simp; exact zO hK
     refine zS (fun w' hS hV K hK => ?_) ?_
     · have e5 := zQ hV 5; obtain ⟨q0, q1, q2⟩ := hS.1.three; have qb := hS.2.1; go_simp; exact zO hK
     refine zS (fun w' hS hV K hK => ?_) ?_
     · have e6 := zQ hV 6; obtain ⟨q0, q1, q2⟩ := hS.1.three; have qb := hS.2.1; go_simp; exact zO hK
     refine zS (fun w' hS hV K hK => ?_) ?_
     · have e7 := zQ hV 7; obtain ⟨q0, q1, q2⟩ := hS.1.three; have qb := hS.2.1; go_simp; exact zO hK
     refine zS (fun w' hS hV K hK => ?_) ?_
     · have e4 := zQ hV 4; have e8 := zQ hV 8; obtain ⟨q0, q1, q2⟩ := hS.1.three; have qb := hS.2.1; go_simp; exact zO hK
     refine zS (fun w' hS hV K hK => ?_) ?_
     · have e9 := zQ hV 9; obtain ⟨q0, q1, q2⟩ := hS.1.three; have qb := hS.2.1; go_simp; exact zO hK
     refine zS (fun w' hS hV K hK => ?_) ?_
     · have e10 := zQ hV 10; obtain ⟨q0, q1, q2⟩ := hS.1.three; have qb := hS.2.1; go_simp; exact zO hK
     refine zS (fun w' hS hV K hK => ?_) ?_
     · have e0 := zQ hV 0; have e11 := zQ hV 11; obtain ⟨q0, q1, q2⟩ := hS.1.three; have qb := hS.2.1; go_simp; exact zO hK
     refine fun w' hS hV => ?_
     have e0 := zT hV 0
     have e1 := zT hV 1
     have e2 := zT hV 2
     have e3 := zT hV 3
     have e4 := zT hV 4
     have e5 := zT hV 5
     have e6 := zT hV 6
     have e7 := zT hV 7
     have e8 := zT hV 8
     have e9 := zT hV 9
     have e10 := zT hV 10
     have e11 := zT hV 11
     have e12 := zT hV 12
     simp only [e0, e1, e2, e3, e4, e5, e6, e7, e8, e9, e10, e11, e12]
     clear e0 e1 e2 e3 e4 e5 e6 e7 e8 e9 e10 e11 e12
     refine any_one (j := 13) (by kernel_rfl) (Eq.trans (by simp only [zA, zB, zC]; exact rfl) rfl) (fun K hK => ?_)
     go_simp
     refine hK.out _ _ (wpAny_done (by kernel_rfl) ?_ _)
     obtain ⟨w3, rfl⟩ : ∃ W, W = w' := ⟨_, rfl⟩
     obtain ⟨k3, hcb3, hb3⟩ := hS
     have HR3 := Lib.hid (HR2.out.below hb3)
     have HD3 := Lib.hid (HD2.out.trans (Dr.of_below HD2.out.s' hb3))
     obtain ⟨hd4, k4, r4⟩ := Dr.set k3 HR3.out HBS.out hpl hnb HBG.out 1 (.int .i64 ((pl + 1 : Nat) : Int)) (pl' := pl + 1) (h' := H) (by simp) hpn
     have HD4 := Lib.hid (HD3.out.trans hd4)
     have q1 : w3.cell? ⟨g, 1, none⟩ = some (.int .i64 pl) := k3.cell 1
     have f1 := k3.frozen 1
     clear k2 hcb2 hb3 hd4 k4 r4
     go_wp2
     go_ret
     refine ⟨(X + bb) % n, rfl, Int.emod_nonneg _ hN2, fun hn => Int.emod_lt_of_pos _ (by omega), ?_⟩
     first
      | exact HD4.out
      | (rw [W5]; exact HD4.out)
   · have dl : decide ((pl : Int) < (nb : Int)) = false := by simp; omega
     have T1 := Int.tmod_eq_emod_of_nonneg (b := n) (show 0 ≤ X by omega)
     clear hbs r1
     go_wp2
     refine wp_obs 10 [[],[0],[0,1],[0,1,2],[],[4],[4,5],[4,5,6],[4,5,6,7],[0,1,2,3,4,5,6,7,8]] [VIs (.pointer (some ⟨g, 0, none⟩)), VIs (.pointer (some ⟨g, 0, none⟩)), VIs (.pointer (some ⟨g, 1, none⟩)), VIs (.int .i64 (pl)), VIs (.pointer (some ⟨g, 0, none⟩)), VIs (.pointer (some ⟨g, 0, none⟩)), VIs (.pointer (some ⟨g, 0, none⟩)), VIs (.slice B nb cb), VIs (.int .i64 (nb)), VIs (.bool false)] (fun w' => Blk w' g 144 #[.slice B nb cb, .int .i64 pl, .int .u64 H] ∧ Below w1.heap.size w1 w') (by kernel_rfl) (by kernel_rfl) (fun _ _ h hb => ⟨h.1.below hb h.1.lt, h.2.trans (hb.mono h.2.size)⟩) (⟨k1.drew, zG.drew⟩) (fun x => ?_)
     refine zS (fun w' hS hV K hK => ?_) ?_
     · obtain ⟨q0, q1, q2⟩ := hS.1.three; go_simp; exact zO hK
     refine zS (fun w' hS hV K hK => ?_) ?_
     · have e0 := zQ hV 0; obtain ⟨q0, q1, q2⟩ := hS.1.three; go_simp; exact zO hK
     refine zS (fun w' hS hV K hK => ?_) ?_
     · have e1 := zQ hV 1; obtain ⟨q0, q1, q2⟩ := hS.1.three; go_simp; exact zO hK
     refine zS (fun w' hS hV K hK => ?_) ?_
     · have e2 := zQ hV 2; obtain ⟨q0, q1, q2⟩ := hS.1.three; go_simp; exact zO hK
     refine zS (fun w' hS hV K hK => ?_) ?_
     · obtain ⟨q0, q1, q2⟩ := hS.1.three; go_simp; exact zO hK
     refine zS (fun w' hS hV K hK => ?_) ?_
     · have e4 := zQ hV 4; obtain ⟨q0, q1, q2⟩ := hS.1.three; go_simp; exact zO hK
     refine zS (fun w' hS hV K hK => ?_) ?_
     · have e5 := zQ hV 5; obtain ⟨q0, q1, q2⟩ := hS.1.three; go_simp; exact zO hK
     refine zS (fun w' hS hV K hK => ?_) ?_
     · have e6 := zQ hV 6; obtain ⟨q0, q1, q2⟩ := hS.1.three; go_simp; exact zO hK
     refine zS (fun w' hS hV K hK => ?_) ?_
     · have e7 := zQ hV 7; obtain ⟨q0, q1, q2⟩ := hS.1.three; go_simp; exact zO hK
     refine zS (fun w' hS hV K hK => ?_) ?_
     · have e3 := zQ hV 3; have e8 := zQ hV 8; obtain ⟨q0, q1, q2⟩ := hS.1.three; go_simp; exact zO hK
     refine fun w' hS hV => ?_
     have e0 := zT hV 0
     have e1 := zT hV 1
     have e2 := zT hV 2
     have e3 := zT hV 3
     have e4 := zT hV 4
     have e5 := zT hV 5
     have e6 := zT hV 6
     have e7 := zT hV 7
     have e8 := zT hV 8
     have e9 := zT hV 9
     simp only [e0, e1, e2, e3, e4, e5, e6, e7, e8, e9]
     clear e0 e1 e2 e3 e4 e5 e6 e7 e8 e9
     refine wpAny_done (by kernel_rfl) ?_ _
     obtain ⟨w2, rfl⟩ : ∃ W, W = w' := ⟨_, rfl⟩
     obtain ⟨k2, hb2⟩ := hS
     have HD2 := Lib.hid (HD.out.trans (Dr.of_below HD.out.s' hb2))
     clear k1 hb2 k2
     go_wp2
     go_ret
     exact ⟨X % n, rfl, Int.emod_nonneg _ hN2, fun hn => Int.emod_lt_of_pos _ (by omega), HD2.out⟩
set_option maxHeartbeats 1600000 in
set_option maxRecDepth 8000 in
theorem below_any (g : Nat) (n : Int) (w : World) (hs : Src w g 100) (hn : n ≤ 4611686018427387904) :
    Calls Tryz.prog 26 #[.pointer (some ⟨g, 0, none⟩), .int .i64 n] w fun e w' => ∃ r : Int, e = .returned (.int .i64 r) ∧ 0 ≤ r ∧ (1 ≤ n → r < n) ∧ Dr g 100 w w' := by
 by_cases h1 : n < 1
 · have d1 : decide (n < 1) = true := by simpa using h1
   go_enter Tryz.func26, Tryz.ntmps26
   go_wp2
   go_ret
   exact ⟨0, rfl, by omega, fun h => by omega, Dr.refl hs⟩
 · have d1 : decide (n < 1) = false := by simpa using h1
   obtain ⟨B, nb, cb, bs, pl, h, k, r, hbs, hpl, hnb, hbg⟩ := id hs
   have q0 : w.cell? ⟨g, 0, none⟩ = some (.slice B nb cb) := k.cell 0
   have q1 : w.cell? ⟨g, 1, none⟩ = some (.int .i64 pl) := k.cell 1
   have q2 : w.cell? ⟨g, 2, none⟩ = some (.int .u64 h) := k.cell 2
   have f2 := k.frozen 2
   go_enter Tryz.func26, Tryz.ntmps26
   go_wp2
   obtain ⟨H, hH⟩ : ∃ H, H = IntKind.u64.wrap (IntKind.u64.wrap (h * 6364136223846793005) + 1442695040888963407) := ⟨_, rfl⟩
   rw [← hH]
   have hsm := and_small (H / 8589934592)
   obtain ⟨X, hX⟩ : ∃ X, X = bits BinOp.and IntKind.u64 (H / 8589934592) 16777215 := ⟨_, rfl⟩
   rw [← hX] at hsm ⊢
   have W1 : wrap64 X = X := by unfold wrap64; omega
   rw [W1]
   obtain ⟨x1, x2⟩ := hsm
   obtain ⟨hd1, k1, r1⟩ := Dr.set k r hbs hpl hnb hbg 2 (.int .u64 H) (pl' := pl) (h' := H) (by simp) hpl
   clear q0 q1 q2 f2 hX
   obtain ⟨w1, hw1⟩ : ∃ W, W = w.setCell ⟨g, 2, none⟩ (.int .u64 H) := ⟨_, rfl⟩
   rw [← hw1] at k1 r1 hd1 ⊢
   have hN0 : (n == 0) = false := by simp; omega
   have hN1 : (n == -1) = false := by simp; omega
   have hN2 : ¬ n = 0 := by omega
   have HD := Lib.hid hd1
   have HBS := Lib.hid hbs
   have HBG := Lib.hid hbg
   have HR1 := Lib.hid r1
   clear hw1 hH hd1 r k hbg
   by_cases hpn : pl < nb
   · have dl : decide ((pl : Int) < (nb : Int)) = true := by simp; omega
     obtain ⟨gb, ob, rfl, hc⟩ := r1.2 (by omega)
     have hbl : pl < bs.length := by have := r1.1; rw [List.length_map] at this; omega
     have hcb := hc pl (.int .u8 bs[pl]) (by simp [hbl])
     obtain ⟨b1, b2⟩ := hbs _ (List.getElem_mem hbl)
     obtain ⟨bb, hbb⟩ : ∃ x, x = bs[pl] := ⟨_, rfl⟩
     rw [← hbb] at hcb b1 b2
     have i1 : (0 : Int) ≤ (pl : Int) := by omega
     have i2 : (pl : Int) < (nb : Int) := by omega
     have W2 : IntKind.i64.wrap bb = bb := by rw [IntWalk.i64_left]; unfold wrap64; omega
     have W4 : IntKind.i64.wrap (X + bb) = X + bb := by rw [IntWalk.i64_left]; unfold wrap64; omega
     have W5 : wrap64 ((pl : Int) + 1) = ((pl + 1 : Nat) : Int) := by unfold wrap64; omega
     have T1 := Int.tmod_eq_emod_of_nonneg (b := n) (show 0 ≤ X + bb by omega)
     clear hc hbs hbb r1
     go_wp2
     refine wp_obs 10 [[],[0],[0,1],[0,1,2],[],[4],[4,5],[4,5,6],[4,5,6,7],[0,1,2,3,4,5,6,7,8]] [VIs (.pointer (some ⟨g, 0, none⟩)), VIs (.pointer (some ⟨g, 0, none⟩)), VIs (.pointer (some ⟨g, 1, none⟩)), VIs (.int .i64 (pl)), VIs (.pointer (some ⟨g, 0, none⟩)), VIs (.pointer (some ⟨g, 0, none⟩)), VIs (.pointer (some ⟨g, 0, none⟩)), VIs (.slice (some ⟨gb, ob, none⟩) nb cb), VIs (.int .i64 (nb)), VIs (.bool true)] (fun w' => Blk w' g 100 #[.slice (some ⟨gb, ob, none⟩) nb cb, .int .i64 pl, .int .u64 H] ∧ w'.cell? ⟨gb, ob + pl, none⟩ = some (.int .u8 bb) ∧ Below w1.heap.size w1 w') (by kernel_rfl) (by kernel_rfl) (fun _ _ h hb => ⟨h.1.below hb h.1.lt, (hb.cell (World.block_lt_of_cell? _ _ h.2.1)).trans h.2.1, h.2.2.trans (hb.mono h.2.2.size)⟩) (⟨k1.drew, hcb, zG.drew⟩) (fun x => ?_)
     refine zS (fun w' hS hV K hK => ?_) ?_
     · obtain ⟨q0, q1, q2⟩ := hS.1.three; have qb := hS.2.1; go_simp; exact zO hK
     refine zS (fun w' hS hV K hK => ?_) ?_
     · have e0 := zQ hV 0; obtain ⟨q0, q1, q2⟩ := hS.1.three; have qb := hS.2.1; go_simp; exact zO hK
     refine zS (fun w' hS hV K hK => ?_) ?_
     · have e1 := zQ hV 1; obtain ⟨q0, q1, q2⟩ := hS.1.three; have qb := hS.2.1; go_simp; exact zO hK
     refine zS (fun w' hS hV K hK => ?_) ?_
     · have e2 := zQ hV 2; obtain ⟨q0, q1, q2⟩ := hS.1.three; have qb := hS.2.1; go_simp; exact zO hK
     refine zS (fun w' hS hV K hK => ?_) ?_
     · obtain ⟨q0, q1, q2⟩ := hS.1.three; have qb := hS.2.1; go_simp; exact zO hK
     refine zS (fun w' hS hV K hK => ?_) ?_
     · have e4 := zQ hV 4; obtain ⟨q0, q1, q2⟩ := hS.1.three; have qb := hS.2.1; go_simp; exact zO hK
     refine zS (fun w' hS hV K hK => ?_) ?_
     · have e5 := zQ hV 5; obtain ⟨q0, q1, q2⟩ := hS.1.three; have qb := hS.2.1; go_simp; exact zO hK
     refine zS (fun w' hS hV K hK => ?_) ?_
     · have e6 := zQ hV 6; obtain ⟨q0, q1, q2⟩ := hS.1.three; have qb := hS.2.1; go_simp; exact zO hK
     refine zS (fun w' hS hV K hK => ?_) ?_
     · have e7 := zQ hV 7; obtain ⟨q0, q1, q2⟩ := hS.1.three; have qb := hS.2.1; go_simp; exact zO hK
     refine zS (fun w' hS hV K hK => ?_) ?_
     · have e3 := zQ hV 3; have e8 := zQ hV 8; obtain ⟨q0, q1, q2⟩ := hS.1.three; have qb := hS.2.1; go_simp; exact zO hK
     refine fun w' hS hV => ?_
     have e0 := zT hV 0
     have e1 := zT hV 1
     have e2 := zT hV 2
     have e3 := zT hV 3
     have e4 := zT hV 4
     have e5 := zT hV 5
     have e6 := zT hV 6
     have e7 := zT hV 7
     have e8 := zT hV 8
     have e9 := zT hV 9
     simp only [e0, e1, e2, e3, e4, e5, e6, e7, e8, e9]
     clear e0 e1 e2 e3 e4 e5 e6 e7 e8 e9
     refine wpAny_done (by kernel_rfl) ?_ _
     obtain ⟨w2, rfl⟩ : ∃ W, W = w' := ⟨_, rfl⟩
     obtain ⟨k2, hcb2, hb2⟩ := hS
     have HR2 := Lib.hid (HR1.out.below hb2)
     have HD2 := Lib.hid (HD.out.trans (Dr.of_below HD.out.s' hb2))
     clear k1 hcb hb2
     go_wp2
     refine wp_obs 13 [[],[],[1],[1,2],[1,2,3],[],[5],[5,6],[5,6,7],[1,2,3,4,5,6,7,8],[1,2,3,4,5,6,7,8,9],[1,2,3,4,5,6,7,8,9,10],[0,1,2,3,4,5,6,7,8,9,10,11],[0,1,2,3,4,5,6,7,8,9,10,11,12]] [VIs (.int .i64 (X)), VIs (.pointer (some ⟨g, 0, none⟩)), VIs (.pointer (some ⟨g, 0, none⟩)), VIs (.pointer (some ⟨g, 0, none⟩)), VIs (.slice (some ⟨gb, ob, none⟩) nb cb), VIs (.pointer (some ⟨g, 0, none⟩)), VIs (.pointer (some ⟨g, 0, none⟩)), VIs (.pointer (some ⟨g, 1, none⟩)), VIs (.int .i64 (pl)), VIs (.pointer (some ⟨gb, ob + pl, none⟩)), VIs (.int .u8 bb), VIs (.int .i64 (bb)), VIs (.int .i64 (X + bb))] (fun w' => Blk w' g 100 #[.slice (some ⟨gb, ob, none⟩) nb cb, .int .i64 pl, .int .u64 H] ∧ w'.cell? ⟨gb, ob + pl, none⟩ = some (.int .u8 bb) ∧ Below w2.heap.size w2 w') (by kernel_rfl) (by kernel_rfl) (fun _ _ h hb => ⟨h.1.below hb h.1.lt, (hb.cell (World.block_lt_of_cell? _ _ h.2.1)).trans h.2.1, h.2.2.trans (hb.mono h.2.2.size)⟩) (⟨k2.drew, hcb2, zG.drew⟩) (fun x => ?_)
     refine zS (fun w' hS hV K hK => ?_) ?_
     · obtain ⟨q0, q1, q2⟩ := hS.1.three; have qb := hS.2.1; go_simp; exact zO hK
     refine zS (fun w' hS hV K hK => ?_) ?_
     · obtain ⟨q0, q1, q2⟩ := hS.1.three; have qb := hS.2.1; go_simp; exact zO hK
     refine zS (fun w' hS hV K hK => ?_) ?_
     · have e1 := zQ hV 1; obtain ⟨q0, q1, q2⟩ := hS.1.three; have qb := hS.2.1; go_simp; exact zO hK
     refine zS (fun w' hS hV K hK => ?_) ?_
     · have e2 := zQ hV 2; obtain ⟨q0, q1, q2⟩ := hS.1.three; have qb := hS.2.1; go_simp; exact zO hK
     refine zS (fun w' hS hV K hK => ?_) ?_
     · have e3 := zQ hV 3; obtain ⟨q0, q1, q2⟩ := hS.1.three; have qb := hS.2.1; go_simp; exact zO hK
     refine zS (fun w' hS hV K hK => ?_) ?_
     · obtain ⟨q0, q1, q2⟩ := hS.1.three; have qb := hS.2.1; go_simp; exact zO hK
     refine zS (fun w' hS hV K hK => ?_) ?_
     · have e5 := zQ hV 5; obtain ⟨q0, q1, q2⟩ := hS.1.three; have qb := hS.2.1; go_simp; exact zO hK
     refine zS (fun w' hS hV K hK => ?_) ?_
     · have e6 := zQ hV 6; obtain ⟨q0, q1, q2⟩ := hS.1.three; have qb := hS.2.1; go_simp; exact zO hK
     refine zS (fun w' hS hV K hK => ?_) ?_
     · have e7 := zQ hV 7; obtain ⟨q0, q1, q2⟩ := hS.1.three; have qb := hS.2.1; go_simp; exact zO hK
     refine zS (fun w' hS hV K hK => ?_) ?_
     · have e4 := zQ hV 4; have e8 := zQ hV 8; obtain ⟨q0, q1, q2⟩ := hS.1.three; have qb := hS.2.1; go_simp; exact zO hK
     refine zS (fun w' hS hV K hK => ?_) ?_
     · have e9 := zQ hV 9; obtain ⟨q0, q1, q2⟩ := hS.1.three; have qb := hS.2.1; go_simp; exact zO hK
     refine zS (fun w' hS hV K hK => ?_) ?_
     · have e10 := zQ hV 10; obtain ⟨q0, q1, q2⟩ := hS.1.three; have qb := hS.2.1; go_simp; exact zO hK
     refine zS (fun w' hS hV K hK => ?_) ?_
     · have e0 := zQ hV 0; have e11 := zQ hV 11; obtain ⟨q0, q1, q2⟩ := hS.1.three; have qb := hS.2.1; go_simp; exact zO hK
     refine fun w' hS hV => ?_
     have e0 := zT hV 0
     have e1 := zT hV 1
     have e2 := zT hV 2
     have e3 := zT hV 3
     have e4 := zT hV 4
     have e5 := zT hV 5
     have e6 := zT hV 6
     have e7 := zT hV 7
     have e8 := zT hV 8
     have e9 := zT hV 9
     have e10 := zT hV 10
     have e11 := zT hV 11
     have e12 := zT hV 12
     simp only [e0, e1, e2, e3, e4, e5, e6, e7, e8, e9, e10, e11, e12]
     clear e0 e1 e2 e3 e4 e5 e6 e7 e8 e9 e10 e11 e12
     refine any_one (j := 13) (by kernel_rfl) (Eq.trans (by simp only [zA, zB, zC]; exact rfl) rfl) (fun K hK => ?_)
     go_simp
     refine hK.out _ _ (wpAny_done (by kernel_rfl) ?_ _)
     obtain ⟨w3, rfl⟩ : ∃ W, W = w' := ⟨_, rfl⟩
     obtain ⟨k3, hcb3, hb3⟩ := hS
     have HR3 := Lib.hid (HR2.out.below hb3)
     have HD3 := Lib.hid (HD2.out.trans (Dr.of_below HD2.out.s' hb3))
     obtain ⟨hd4, k4, r4⟩ := Dr.set k3 HR3.out HBS.out hpl hnb HBG.out 1 (.int .i64 ((pl + 1 : Nat) : Int)) (pl' := pl + 1) (h' := H) (by simp) hpn
     have HD4 := Lib.hid (HD3.out.trans hd4)
     have q1 : w3.cell? ⟨g, 1, none⟩ = some (.int .i64 pl) := k3.cell 1
     have f1 := k3.frozen 1
     clear k2 hcb2 hb3 hd4 k4 r4
     go_wp2
     go_ret
     refine ⟨(X + bb) % n, rfl, Int.emod_nonneg _ hN2, fun hn => Int.emod_lt_of_pos _ (by omega), ?_⟩
     first
      | exact HD4.out
      | (rw [W5]; exact HD4.out)
   · have dl : decide ((pl : Int) < (nb : Int)) = false := by simp; omega
     have T1 := Int.tmod_eq_emod_of_nonneg (b := n) (show 0 ≤ X by omega)
     clear hbs r1
     go_wp2
     refine wp_obs 10 [[],[0],[0,1],[0,1,2],[],[4],[4,5],[4,5,6],[4,5,6,7],[0,1,2,3,4,5,6,7,8]] [VIs (.pointer (some ⟨g, 0, none⟩)), VIs (.pointer (some ⟨g, 0, none⟩)), VIs (.pointer (some ⟨g, 1, none⟩)), VIs (.int .i64 (pl)), VIs (.pointer (some ⟨g, 0, none⟩)), VIs (.pointer (some ⟨g, 0, none⟩)), VIs (.pointer (some ⟨g, 0, none⟩)), VIs (.slice B nb cb), VIs (.int .i64 (nb)), VIs (.bool false)] (fun w' => Blk w' g 100 #[.slice B nb cb, .int .i64 pl, .int .u64 H] ∧ Below w1.heap.size w1 w') (by kernel_rfl) (by kernel_rfl) (fun _ _ h hb => ⟨h.1.below hb h.1.lt, h.2.trans (hb.mono h.2.size)⟩) (⟨k1.drew, zG.drew⟩) (fun x => ?_)
     refine zS (fun w' hS hV K hK => ?_) ?_
     · obtain ⟨q0, q1, q2⟩ := hS.1.three; go_simp; exact zO hK
     refine zS (fun w' hS hV K hK => ?_) ?_
     · have e0 := zQ hV 0; obtain ⟨q0, q1, q2⟩ := hS.1.three; go_simp; exact zO hK
     refine zS (fun w' hS hV K hK => ?_) ?_
     · have e1 := zQ hV 1; obtain ⟨q0, q1, q2⟩ := hS.1.three; go_simp; exact zO hK
     refine zS (fun w' hS hV K hK => ?_) ?_
     · have e2 := zQ hV 2; obtain ⟨q0, q1, q2⟩ := hS.1.three; go_simp; exact zO hK
     refine zS (fun w' hS hV K hK => ?_) ?_
     · obtain ⟨q0, q1, q2⟩ := hS.1.three; go_simp; exact zO hK
     refine zS (fun w' hS hV K hK => ?_) ?_
     · have e4 := zQ hV 4; obtain ⟨q0, q1, q2⟩ := hS.1.three; go_simp; exact zO hK
     refine zS (fun w' hS hV K hK => ?_) ?_
     · have e5 := zQ hV 5; obtain ⟨q0, q1, q2⟩ := hS.1.three; go_simp; exact zO hK
     refine zS (fun w' hS hV K hK => ?_) ?_
     · have e6 := zQ hV 6; obtain ⟨q0, q1, q2⟩ := hS.1.three; go_simp; exact zO hK
     refine zS (fun w' hS hV K hK => ?_) ?_
     · have e7 := zQ hV 7; obtain ⟨q0, q1, q2⟩ := hS.1.three; go_simp; exact zO hK
     refine zS (fun w' hS hV K hK => ?_) ?_
     · have e3 := zQ hV 3; have e8 := zQ hV 8; obtain ⟨q0, q1, q2⟩ := hS.1.three; go_simp; exact zO hK
     refine fun w' hS hV => ?_
     have e0 := zT hV 0
     have e1 := zT hV 1
     have e2 := zT hV 2
     have e3 := zT hV 3
     have e4 := zT hV 4
     have e5 := zT hV 5
     have e6 := zT hV 6
     have e7 := zT hV 7
     have e8 := zT hV 8
     have e9 := zT hV 9
     simp only [e0, e1, e2, e3, e4, e5, e6, e7, e8, e9]
     clear e0 e1 e2 e3 e4 e5 e6 e7 e8 e9
     refine wpAny_done (by kernel_rfl) ?_ _
     obtain ⟨w2, rfl⟩ : ∃ W, W = w' := ⟨_, rfl⟩
     obtain ⟨k2, hb2⟩ := hS
     have HD2 := Lib.hid (HD.out.trans (Dr.of_below HD.out.s' hb2))
     clear k1 hb2 k2
     go_wp2
     go_ret
     exact ⟨X % n, rfl, Int.emod_nonneg _ hN2, fun hn => Int.emod_lt_of_pos _ (by omega), HD2.out⟩
/-- A world of the first B blocks. -/
def cutW (w : World) (B : Nat) : World := { w with heap := w.heap.extract 0 B }
theorem cutW_size {w : World} {B : Nat} (h : B ≤ w.heap.size) : (cutW w B).heap.size = B := by simp [cutW]; omega
theorem cutW_below {w : World} {B : Nat} (h : B ≤ w.heap.size) : Below (cutW w B).heap.size (cutW w B) w := by
 refine ⟨rfl, rfl, rfl, by rw [cutW_size h]; exact h, fun k hk => ?_⟩
 rw [cutW_size h] at hk
 simp [cutW, Array.getElem?_extract, hk]
 intro h2
 omega
theorem Own.mk_ {w : World} {E : TypeId} {B : Nat} {A : Option Addr} {n c : Nat} {us : List Value} (h : Own w B E A n c us) (hB : B ≤ w.heap.size) : Mk (cutW w B) w E A n c us := ⟨cutW_below hB, by rw [cutW_size hB]; exact h⟩
theorem Mk.own_ {w0 w : World} {E : TypeId} {B : Nat} {A : Option Addr} {n c : Nat} {us : List Value} (h : Mk w0 w E A n c us) (hB : w0.heap.size = B) : Own w B E A n c us := by rw [← hB]; exact h.2
set_option maxHeartbeats 1600000 in
set_option maxRecDepth 8000 in
theorem from__any (B : Option Addr) (nb cb : Nat) (bs : List Int) (w : World) (hnb : nb ≤ 4096) (r : Rd w B nb (bs.map (Value.int .u8))) (hbs : ∀ b ∈ bs, 0 ≤ b ∧ b < 256) (hbg : ∀ a, B = some a → a.block < w.heap.size) :
    Calls Tryz.prog 73 #[.slice B nb cb] w fun e w' => ∃ g, e = .returned (.pointer (some ⟨g, 0, none⟩)) ∧ w.heap.size ≤ g ∧ Src w' g 144 ∧ Below w.heap.size w w' := by
 have W0 : wrap64 (nb : Int) = nb := by unfold wrap64; omega
 go_enter Tryz.func73, Tryz.ntmps73
 go_wp2
 go_loopw [4] (fun i wr => ∃ (j : Nat) (h : Int), j ≤ nb ∧ i = .int .i64 j ∧ Blk wr w.heap.size 144 #[.slice B nb cb, .int .i64 0, .int .u64 h] ∧ Below w.heap.size w wr) (fun i _ => nb - (intOf i).toNat)
 case atStart => exact ⟨0, _, by omega, rfl, Blk.new _ _ _, zG.alloc (Nat.le_refl _) _⟩
 case round =>
  obtain ⟨j, h, hj, rfl, k1, hb1⟩ := hrel
  by_cases hlt : j < nb
  · have d1 : decide ((j : Int) < (nb : Int)) = true := by simp; omega
    have d2 : decide ((j : Int) < 4096) = true := by simp; omega
    obtain ⟨gb, ob, rfl, hc⟩ := (r.below hb1).2 (by omega)
    have hbl : j < bs.length := by have := r.1; rw [List.length_map] at this; omega
    have hcb := hc j (.int .u8 bs[j]) (by simp [hbl])
    obtain ⟨b1, b2⟩ := hbs _ (List.getElem_mem hbl)
    obtain ⟨bb, hbb⟩ : ∃ x, x = bs[j] := ⟨_, rfl⟩
    rw [← hbb] at hcb b1 b2
    have i1 : (0 : Int) ≤ (j : Int) := by omega
    have i2 : (j : Int) < (nb : Int) := by omega
    have W2 : IntKind.u64.wrap bb = bb := IntWalk.u64_in _ ⟨b1, by omega⟩
    clear hc hbb
    go_wp2
    refine wp_obs 15 [[],[],[1],[1,2],[1,2,3],[1,2,3,4],[],[],[6,7],[6,7,8],[6,7,8,9],[1,2,3,4,5,6,7,8,9,10],[1,2,3,4,5,6,7,8,9,10,11],[0],[0,13],[0,1,2,3,4,5,6,7,8,9,10,11,12,13,14]] [VIs (.pointer (some ⟨w.heap.size, 0, none⟩)), VIs (.pointer (some ⟨w.heap.size, 0, none⟩)), VIs (.pointer (some ⟨w.heap.size, 0, none⟩)), VIs (.pointer (some ⟨w.heap.size, 2, none⟩)), VIs (.int .u64 (h)), VIs (.int .u64 (IntKind.u64.wrap (h * 1099511628211))), VIs (.slice (some ⟨gb, ob, none⟩) nb cb), VIs (.int .i64 (j)), VIs (.pointer (some ⟨gb, ob + j, none⟩)), VIs (.int .u8 bb), VIs (.int .u64 (bb)), VIs (.int .u64 (IntKind.u64.wrap (IntKind.u64.wrap (h * 1099511628211) + bb))), VIs (.int .u64 (IntKind.u64.wrap (IntKind.u64.wrap (IntKind.u64.wrap (h * 1099511628211) + bb) + 11))), VIs (.pointer (some ⟨w.heap.size, 0, none⟩)), VIs (.pointer (some ⟨w.heap.size, 2, none⟩))] (fun w' => Blk w' w.heap.size 144 #[.slice (some ⟨gb, ob, none⟩) nb cb, .int .i64 0, .int .u64 h] ∧ w'.cell? ⟨gb, ob + j, none⟩ = some (.int .u8 bb) ∧ Below wr.heap.size wr w') (by kernel_rfl) (by kernel_rfl) (fun _ _ h hb => ⟨h.1.below hb h.1.lt, (hb.cell (World.block_lt_of_cell? _ _ h.2.1)).trans h.2.1, h.2.2.trans (hb.mono h.2.2.size)⟩) (⟨k1.drew, hcb, zG.drew⟩) (fun x => ?_)
    refine zS (fun w' hS hV K hK => ?_) ?_
    · obtain ⟨q0, q1, q2⟩ := hS.1.three; have qb := hS.2.1; go_simp; exact zO hK
    refine zS (fun w' hS hV K hK => ?_) ?_
    · obtain ⟨q0, q1, q2⟩ := hS.1.three; have qb := hS.2.1; go_simp; exact zO hK
    refine zS (fun w' hS hV K hK => ?_) ?_
    · have e1 := zQ hV 1; obtain ⟨q0, q1, q2⟩ := hS.1.three; have qb := hS.2.1; go_simp; exact zO hK
    refine zS (fun w' hS hV K hK => ?_) ?_
    · have e2 := zQ hV 2; obtain ⟨q0, q1, q2⟩ := hS.1.three; have qb := hS.2.1; go_simp; exact zO hK
    refine zS (fun w' hS hV K hK => ?_) ?_
    · have e3 := zQ hV 3; obtain ⟨q0, q1, q2⟩ := hS.1.three; have qb := hS.2.1; go_simp; exact zO hK
    refine zS (fun w' hS hV K hK => ?_) ?_
    · have e4 := zQ hV 4; obtain ⟨q0, q1, q2⟩ := hS.1.three; have qb := hS.2.1; go_simp; exact zO hK
    refine zS (fun w' hS hV K hK => ?_) ?_
    · obtain ⟨q0, q1, q2⟩ := hS.1.three; have qb := hS.2.1; go_simp; exact zO hK
    refine zS (fun w' hS hV K hK => ?_) ?_
    · obtain ⟨q0, q1, q2⟩ := hS.1.three; have qb := hS.2.1; go_simp; exact zO hK
    refine zS (fun w' hS hV K hK => ?_) ?_
    · have e6 := zQ hV 6; have e7 := zQ hV 7; obtain ⟨q0, q1, q2⟩ := hS.1.three; have qb := hS.2.1; go_simp; exact zO hK
    refine zS (fun w' hS hV K hK => ?_) ?_
    · have e8 := zQ hV 8; obtain ⟨q0, q1, q2⟩ := hS.1.three; have qb := hS.2.1; go_simp; exact zO hK
    refine zS (fun w' hS hV K hK => ?_) ?_
    · have e9 := zQ hV 9; obtain ⟨q0, q1, q2⟩ := hS.1.three; have qb := hS.2.1; go_simp; exact zO hK
    refine zS (fun w' hS hV K hK => ?_) ?_
    · have e5 := zQ hV 5; have e10 := zQ hV 10; obtain ⟨q0, q1, q2⟩ := hS.1.three; have qb := hS.2.1; go_simp; exact zO hK
    refine zS (fun w' hS hV K hK => ?_) ?_
    · have e11 := zQ hV 11; obtain ⟨q0, q1, q2⟩ := hS.1.three; have qb := hS.2.1; go_simp; exact zO hK
    refine zS (fun w' hS hV K hK => ?_) ?_
    · have e0 := zQ hV 0; obtain ⟨q0, q1, q2⟩ := hS.1.three; have qb := hS.2.1; go_simp; exact zO hK
    refine zS (fun w' hS hV K hK => ?_) ?_
    · have e13 := zQ hV 13; obtain ⟨q0, q1, q2⟩ := hS.1.three; have qb := hS.2.1; go_simp; exact zO hK
    refine fun w' hS hV => ?_
    have e0 := zT hV 0
    have e1 := zT hV 1
    have e2 := zT hV 2
    have e3 := zT hV 3
    have e4 := zT hV 4
    have e5 := zT hV 5
    have e6 := zT hV 6
    have e7 := zT hV 7
    have e8 := zT hV 8
    have e9 := zT hV 9
    have e10 := zT hV 10
    have e11 := zT hV 11
    have e12 := zT hV 12
    have e13 := zT hV 13
    have e14 := zT hV 14
    simp only [e0, e1, e2, e3, e4, e5, e6, e7, e8, e9, e10, e11, e12, e13, e14]
    clear e0 e1 e2 e3 e4 e5 e6 e7 e8 e9 e10 e11 e12 e13 e14
    obtain ⟨k2, _, hb2⟩ := hS
    have q2 := k2.three.2.2
    have f2 := k2.frozen 2
    refine any_one (j := 15) (by kernel_rfl) (Eq.trans (by simp only [zA, zB, zC]; exact rfl) rfl) (fun K hK => ?_)
    go_simp
    refine hK.out _ _ (wpAny_done (by kernel_rfl) ?_ _)
    have k3 := k2.set_ 2 (.int .u64 (IntKind.u64.wrap (IntKind.u64.wrap (IntKind.u64.wrap (h * 1099511628211) + bb) + 11)))
    simp only [zD, zE, zF] at k3
    have hb3 := (hb1.trans (hb2.mono hb1.size)).setCell (p := ⟨w.heap.size, 2, none⟩) (Nat.le_refl _) (.int .u64 (IntKind.u64.wrap (IntKind.u64.wrap (IntKind.u64.wrap (h * 1099511628211) + bb) + 11)))
    clear q2 f2 k2 hb2 k1
    go_wp2
    go_roundw
    case rel => exact ⟨j + 1, _, by omega, by go_num, k3, hb3⟩
    case measure => simp [intOf]; omega
  · have d1 : decide ((j : Int) < (nb : Int)) = false := by simp; omega
    go_wp2
    go_ret
    exact ⟨_, rfl, Nat.le_refl _, ⟨B, nb, cb, bs, 0, h, k1, r.below hb1, hbs, by omega, hnb, hbg⟩, hb1⟩
set_option maxHeartbeats 1600000 in
set_option maxRecDepth 8000 in
theorem roll_any (B : Option Addr) (nb cb : Nat) (bs : List Int) (sd : Int) (w : World) (hnb : nb ≤ 4096) (r : Rd w B nb (bs.map (Value.int .u8))) (hbs : ∀ b ∈ bs, 0 ≤ b ∧ b < 256) (hbg : ∀ a, B = some a → a.block < w.heap.size) :
    Calls Tryz.prog 25 #[.slice B nb cb, .int .u64 sd] w fun e w' => ∃ g, e = .returned (.pointer (some ⟨g, 0, none⟩)) ∧ w.heap.size ≤ g ∧ Src w' g 100 ∧ Below w.heap.size w w' := by
 have W0 : wrap64 (nb : Int) = nb := by unfold wrap64; omega
 go_enter Tryz.func25, Tryz.ntmps25
 go_wp2
 go_loopw [6] (fun i wr => ∃ (j : Nat) (h : Int), j ≤ nb ∧ i = .int .i64 j ∧ Blk wr w.heap.size 100 #[.slice B nb cb, .int .i64 0, .int .u64 h] ∧ Below w.heap.size w wr) (fun i _ => nb - (intOf i).toNat)
 case atStart => exact ⟨0, _, by omega, rfl, Blk.new _ _ _, zG.alloc (Nat.le_refl _) _⟩
 case round =>
  obtain ⟨j, h, hj, rfl, k1, hb1⟩ := hrel
  by_cases hlt : j < nb
  · have d1 : decide ((j : Int) < (nb : Int)) = true := by simp; omega
    skip
    obtain ⟨gb, ob, rfl, hc⟩ := (r.below hb1).2 (by omega)
    have hbl : j < bs.length := by have := r.1; rw [List.length_map] at this; omega
    have hcb := hc j (.int .u8 bs[j]) (by simp [hbl])
    obtain ⟨b1, b2⟩ := hbs _ (List.getElem_mem hbl)
    obtain ⟨bb, hbb⟩ : ∃ x, x = bs[j] := ⟨_, rfl⟩
    rw [← hbb] at hcb b1 b2
    have i1 : (0 : Int) ≤ (j : Int) := by omega
    have i2 : (j : Int) < (nb : Int) := by omega
    have W2 : IntKind.u64.wrap bb = bb := IntWalk.u64_in _ ⟨b1, by omega⟩
    clear hc hbb
    go_wp2
    refine wp_obs 15 [[],[],[1],[1,2],[1,2,3],[1,2,3,4],[],[],[6,7],[6,7,8],[6,7,8,9],[1,2,3,4,5,6,7,8,9,10],[1,2,3,4,5,6,7,8,9,10,11],[0],[0,13],[0,1,2,3,4,5,6,7,8,9,10,11,12,13,14]] [VIs (.pointer (some ⟨w.heap.size, 0, none⟩)), VIs (.pointer (some ⟨w.heap.size, 0, none⟩)), VIs (.pointer (some ⟨w.heap.size, 0, none⟩)), VIs (.pointer (some ⟨w.heap.size, 2, none⟩)), VIs (.int .u64 (h)), VIs (.int .u64 (IntKind.u64.wrap (h * 1099511628211))), VIs (.slice (some ⟨gb, ob, none⟩) nb cb), VIs (.int .i64 (j)), VIs (.pointer (some ⟨gb, ob + j, none⟩)), VIs (.int .u8 bb), VIs (.int .u64 (bb)), VIs (.int .u64 (IntKind.u64.wrap (IntKind.u64.wrap (h * 1099511628211) + bb))), VIs (.int .u64 (IntKind.u64.wrap (IntKind.u64.wrap (IntKind.u64.wrap (h * 1099511628211) + bb) + 5))), VIs (.pointer (some ⟨w.heap.size, 0, none⟩)), VIs (.pointer (some ⟨w.heap.size, 2, none⟩))] (fun w' => Blk w' w.heap.size 100 #[.slice (some ⟨gb, ob, none⟩) nb cb, .int .i64 0, .int .u64 h] ∧ w'.cell? ⟨gb, ob + j, none⟩ = some (.int .u8 bb) ∧ Below wr.heap.size wr w') (by kernel_rfl) (by kernel_rfl) (fun _ _ h hb => ⟨h.1.below hb h.1.lt, (hb.cell (World.block_lt_of_cell? _ _ h.2.1)).trans h.2.1, h.2.2.trans (hb.mono h.2.2.size)⟩) (⟨k1.drew, hcb, zG.drew⟩) (fun x => ?_)
    refine zS (fun w' hS hV K hK => ?_) ?_
    · obtain ⟨q0, q1, q2⟩ := hS.1.three; have qb := hS.2.1; go_simp; exact zO hK
    refine zS (fun w' hS hV K hK => ?_) ?_
    · obtain ⟨q0, q1, q2⟩ := hS.1.three; have qb := hS.2.1; go_simp; exact zO hK
    refine zS (fun w' hS hV K hK => ?_) ?_
    · have e1 := zQ hV 1; obtain ⟨q0, q1, q2⟩ := hS.1.three; have qb := hS.2.1; go_simp; exact zO hK
    refine zS (fun w' hS hV K hK => ?_) ?_
    · have e2 := zQ hV 2; obtain ⟨q0, q1, q2⟩ := hS.1.three; have qb := hS.2.1; go_simp; exact zO hK
    refine zS (fun w' hS hV K hK => ?_) ?_
    · have e3 := zQ hV 3; obtain ⟨q0, q1, q2⟩ := hS.1.three; have qb := hS.2.1; go_simp; exact zO hK
    refine zS (fun w' hS hV K hK => ?_) ?_
    · have e4 := zQ hV 4; obtain ⟨q0, q1, q2⟩ := hS.1.three; have qb := hS.2.1; go_simp; exact zO hK
    refine zS (fun w' hS hV K hK => ?_) ?_
    · obtain ⟨q0, q1, q2⟩ := hS.1.three; have qb := hS.2.1; go_simp; exact zO hK
    refine zS (fun w' hS hV K hK => ?_) ?_
    · obtain ⟨q0, q1, q2⟩ := hS.1.three; have qb := hS.2.1; go_simp; exact zO hK
    refine zS (fun w' hS hV K hK => ?_) ?_
    · have e6 := zQ hV 6; have e7 := zQ hV 7; obtain ⟨q0, q1, q2⟩ := hS.1.three; have qb := hS.2.1; go_simp; exact zO hK
    refine zS (fun w' hS hV K hK => ?_) ?_
    · have e8 := zQ hV 8; obtain ⟨q0, q1, q2⟩ := hS.1.three; have qb := hS.2.1; go_simp; exact zO hK
    refine zS (fun w' hS hV K hK => ?_) ?_
    · have e9 := zQ hV 9; obtain ⟨q0, q1, q2⟩ := hS.1.three; have qb := hS.2.1; go_simp; exact zO hK
    refine zS (fun w' hS hV K hK => ?_) ?_
    · have e5 := zQ hV 5; have e10 := zQ hV 10; obtain ⟨q0, q1, q2⟩ := hS.1.three; have qb := hS.2.1; go_simp; exact zO hK
    refine zS (fun w' hS hV K hK => ?_) ?_
    · have e11 := zQ hV 11; obtain ⟨q0, q1, q2⟩ := hS.1.three; have qb := hS.2.1; go_simp; exact zO hK
    refine zS (fun w' hS hV K hK => ?_) ?_
    · have e0 := zQ hV 0; obtain ⟨q0, q1, q2⟩ := hS.1.three; have qb := hS.2.1; go_simp; exact zO hK
    refine zS (fun w' hS hV K hK => ?_) ?_
    · have e13 := zQ hV 13; obtain ⟨q0, q1, q2⟩ := hS.1.three; have qb := hS.2.1; go_simp; exact zO hK
    refine fun w' hS hV => ?_
    have e0 := zT hV 0
    have e1 := zT hV 1
    have e2 := zT hV 2
    have e3 := zT hV 3
    have e4 := zT hV 4
    have e5 := zT hV 5
    have e6 := zT hV 6
    have e7 := zT hV 7
    have e8 := zT hV 8
    have e9 := zT hV 9
    have e10 := zT hV 10
    have e11 := zT hV 11
    have e12 := zT hV 12
    have e13 := zT hV 13
    have e14 := zT hV 14
    simp only [e0, e1, e2, e3, e4, e5, e6, e7, e8, e9, e10, e11, e12, e13, e14]
    clear e0 e1 e2 e3 e4 e5 e6 e7 e8 e9 e10 e11 e12 e13 e14
    obtain ⟨k2, _, hb2⟩ := hS
    have q2 := k2.three.2.2
    have f2 := k2.frozen 2
    refine any_one (j := 15) (by kernel_rfl) (Eq.trans (by simp only [zA, zB, zC]; exact rfl) rfl) (fun K hK => ?_)
    go_simp
    refine hK.out _ _ (wpAny_done (by kernel_rfl) ?_ _)
    have k3 := k2.set_ 2 (.int .u64 (IntKind.u64.wrap (IntKind.u64.wrap (IntKind.u64.wrap (h * 1099511628211) + bb) + 5)))
    simp only [zD, zE, zF] at k3
    have hb3 := (hb1.trans (hb2.mono hb1.size)).setCell (p := ⟨w.heap.size, 2, none⟩) (Nat.le_refl _) (.int .u64 (IntKind.u64.wrap (IntKind.u64.wrap (IntKind.u64.wrap (h * 1099511628211) + bb) + 5)))
    clear q2 f2 k2 hb2 k1
    go_wp2
    go_roundw
    case rel => exact ⟨j + 1, _, by omega, by go_num, k3, hb3⟩
    case measure => simp [intOf]; omega
  · have d1 : decide ((j : Int) < (nb : Int)) = false := by simp; omega
    go_wp2
    go_ret
    exact ⟨_, rfl, Nat.le_refl _, ⟨B, nb, cb, bs, 0, h, k1, r.below hb1, hbs, by omega, hnb, hbg⟩, hb1⟩
set_option maxHeartbeats 1600000 in
set_option maxRecDepth 8000 in
theorem nextList_any (g : Nat) (p : Int) (n : Nat) (w : World) (hs : Src w g 144) (hp : p ≤ 4611686018427387904) (hn : n ≤ 1048576) :
    Calls Tryz.prog 171 #[.pointer (some ⟨g, 0, none⟩), .int .i64 p, .int .i64 n] w fun e w' => ∃ (A : Option Addr) (c : Nat) (xs : List Int), e = .returned (.slice A n c) ∧ xs.length = n ∧ (∀ x ∈ xs, 0 ≤ x ∧ (1 ≤ p → x < p)) ∧ Own w' w.heap.size 2 A n c (ints xs) ∧ Dr g 144 w w' := by
 have hM0 := Mk.lit (E := 2) (Below.refl w.heap.size w) #[] (by simp)
 have hd0 := (Dr.refl hs).alloc (.cells #[] 2)
 go_enter Tryz.func171, Tryz.ntmps171
 go_wp2
 go_loopw [7, 2] (fun out i wr => ∃ (j : Nat) (A : Option Addr) (c : Nat) (xs : List Int), j ≤ n ∧ i = .int .i64 ((n - j : Nat) : Int) ∧ out = .slice A j c ∧ xs.length = j ∧ (∀ x ∈ xs, 0 ≤ x ∧ (1 ≤ p → x < p)) ∧ Own wr w.heap.size 2 A j c (ints xs) ∧ Dr g 144 w wr) (fun _ i _ => (intOf i).toNat)
 case atStart => exact ⟨0, _, _, [], by omega, by simp, rfl, rfl, fun x hx => (by cases hx), by simpa [ints] using hM0.2, hd0⟩
 case round =>
  obtain ⟨j, A, c, xs, hj, rfl, rfl, hl, hx, hO, hd⟩ := hrel
  clear hM0 hd0
  by_cases hlt : j < n
  · have d1 : decide (0 < ((n - j : Nat) : Int)) = true := by simp; omega
    have W5 : wrap64 (((n - j : Nat) : Int) - 1) = ((n - (j + 1) : Nat) : Int) := by unfold wrap64; omega
    have hnx := next_any g p wr hd.s' hp
    have HX := Lib.hid hx
    have HO := Lib.hid hO
    have HD := Lib.hid hd
    clear hx hO hd
    go_wp2_with (first
     | (go_at_call 150; refine hnx.mono ?_; rintro e w' ⟨r, rfl, hr1, hr2, hd2⟩
        have HO2 := Lib.hid (HO.out.dr hd2 (by decide))
        have HD2 := Lib.hid (HD.out.trans hd2)
        clear hnx hd2)
     | (at_builtin; refine wpList_app1 (cutW w' w.heap.size) w' 24 2 _ _ Tryz.underlying24 info_i rfl (by omega) rfl _ _ rfl A j c _ _ (HO2.out.mk_ HD2.out.size) (by omega) rfl rfl rfl ?_; intro A2 c2 w2 hM2 hg2 _))
    have hO3 := hM2.own_ (cutW_size HD2.out.size)
    have hd3 := HD2.out.grown HO2.out hg2
    clear hM2 hg2
    go_roundw
    case rel => exact ⟨j + 1, A2, c2, xs ++ [r], by omega, by go_num, rfl, by simp [hl], fun x hx => by
     rcases List.mem_append.1 hx with hx | hx
     · exact HX.out x hx
     · rw [List.mem_singleton.1 hx]; exact ⟨hr1, hr2⟩, by simpa [ints] using hO3, hd3⟩
    case measure => simp [intOf]; omega
  · obtain rfl : j = n := by omega
    have d1 : decide (0 < ((j - j : Nat) : Int)) = false := by simp
    go_wp2
    go_ret
    exact ⟨A, c, xs, rfl, hl, hx, hO, hd⟩
set_option maxHeartbeats 1600000 in
set_option maxRecDepth 8000 in
theorem belowList_any (g : Nat) (p : Int) (n : Nat) (w : World) (hs : Src w g 100) (hp : p ≤ 4611686018427387904) (hn : n ≤ 1048576) :
    Calls Tryz.prog 27 #[.pointer (some ⟨g, 0, none⟩), .int .i64 n, .int .i64 p] w fun e w' => ∃ (A : Option Addr) (c : Nat) (xs : List Int), e = .returned (.slice A n c) ∧ xs.length = n ∧ (∀ x ∈ xs, 0 ≤ x ∧ (1 ≤ p → x < p)) ∧ Own w' w.heap.size 2 A n c (ints xs) ∧ Dr g 100 w w' := by
 have hM0 := Mk.lit (E := 2) (Below.refl w.heap.size w) #[] (by simp)
 have hd0 := (Dr.refl hs).alloc (.cells #[] 2)
 go_enter Tryz.func27, Tryz.ntmps27
 go_wp2
 go_loopw [7, 1] (fun out i wr => ∃ (j : Nat) (A : Option Addr) (c : Nat) (xs : List Int), j ≤ n ∧ i = .int .i64 ((n - j : Nat) : Int) ∧ out = .slice A j c ∧ xs.length = j ∧ (∀ x ∈ xs, 0 ≤ x ∧ (1 ≤ p → x < p)) ∧ Own wr w.heap.size 2 A j c (ints xs) ∧ Dr g 100 w wr) (fun _ i _ => (intOf i).toNat)
 case atStart => exact ⟨0, _, _, [], by omega, by simp, rfl, rfl, fun x hx => (by cases hx), by simpa [ints] using hM0.2, hd0⟩
 case round =>
  obtain ⟨j, A, c, xs, hj, rfl, rfl, hl, hx, hO, hd⟩ := hrel
  clear hM0 hd0
  by_cases hlt : j < n
  · have d1 : decide (0 < ((n - j : Nat) : Int)) = true := by simp; omega
    have W5 : wrap64 (((n - j : Nat) : Int) - 1) = ((n - (j + 1) : Nat) : Int) := by unfold wrap64; omega
    have hnx := below_any g p wr hd.s' hp
    have HX := Lib.hid hx
    have HO := Lib.hid hO
    have HD := Lib.hid hd
    clear hx hO hd
    go_wp2_with (first
     | (go_at_call 26; refine hnx.mono ?_; rintro e w' ⟨r, rfl, hr1, hr2, hd2⟩
        have HO2 := Lib.hid (HO.out.dr hd2 (by decide))
        have HD2 := Lib.hid (HD.out.trans hd2)
        clear hnx hd2)
     | (at_builtin; refine wpList_app1 (cutW w' w.heap.size) w' 24 2 _ _ Tryz.underlying24 info_i rfl (by omega) rfl _ _ rfl A j c _ _ (HO2.out.mk_ HD2.out.size) (by omega) rfl rfl rfl ?_; intro A2 c2 w2 hM2 hg2 _))
    have hO3 := hM2.own_ (cutW_size HD2.out.size)
    have hd3 := HD2.out.grown HO2.out hg2
    clear hM2 hg2
    go_roundw
    case rel => exact ⟨j + 1, A2, c2, xs ++ [r], by omega, by go_num, rfl, by simp [hl], fun x hx => by
     rcases List.mem_append.1 hx with hx | hx
     · exact HX.out x hx
     · rw [List.mem_singleton.1 hx]; exact ⟨hr1, hr2⟩, by simpa [ints] using hO3, hd3⟩
    case measure => simp [intOf]; omega
  · obtain rfl : j = n := by omega
    have d1 : decide (0 < ((j - j : Nat) : Int)) = false := by simp
    go_wp2
    go_ret
    exact ⟨A, c, xs, rfl, hl, hx, hO, hd⟩
set_option maxHeartbeats 800000 in
set_option maxRecDepth 8000 in
theorem pick_any (g gl : Nat) (xs : List Int) (w : World) (hs : Src w g 144) (kl : Blk w gl 2 (ints xs).toArray) (h0 : 0 < xs.length) (hl : xs.length ≤ 1000) :
    Calls Tryz.prog 184 #[.pointer (some ⟨g, 0, none⟩), .slice (some ⟨gl, 0, none⟩) xs.length xs.length] w fun e w' => ∃ r : Int, r ∈ xs ∧ e = .returned (.int .i64 r) ∧ Dr g 144 w w' := by
 have hnx := next_any g (xs.length : Int) w hs (by omega)
 go_enter Tryz.func184, Tryz.ntmps184
 go_wp2_with fail
 refine hnx.mono ?_
 rintro e w2 ⟨r, rfl, hr1, hr2, hd⟩
 have hr3 := hr2 (by omega)
 obtain ⟨rn, rfl⟩ : ∃ rn : Nat, r = rn := ⟨r.toNat, by omega⟩
 have hlt : rn < xs.length := by omega
 have kl2 := kl.dr hd (by decide)
 have hc : w2.cell? ⟨gl, rn, none⟩ = some (.int .i64 xs[rn]) := by
  rw [kl2.cell]
  simp [ints, hlt]
 have hmem := List.getElem_mem hlt
 obtain ⟨x, hx⟩ : ∃ x, x = xs[rn] := ⟨_, rfl⟩
 rw [← hx] at hc hmem
 clear hnx hx
 go_wp2
 go_ret
 exact ⟨x, hmem, rfl, hd⟩
set_option maxHeartbeats 800000 in
set_option maxRecDepth 8000 in
theorem drawPrime_any (g : Nat) (w : World) (hs : Src w g 144) :
    Calls Tryz.prog 269 #[.pointer (some ⟨g, 0, none⟩)] w fun e w' => ∃ r : Int, 3 ≤ r ∧ r ≤ 13 ∧ e = .returned (.int .i64 r) ∧ Dr g 144 w w' := by
 have hd1 := (Dr.refl hs).alloc (.cells #[.int .i64 3, .int .i64 5, .int .i64 7, .int .i64 11, .int .i64 13, .int .i64 3, .int .i64 5, .int .i64 7] 2)
 have hpk := pick_any g w.heap.size [3, 5, 7, 11, 13, 3, 5, 7] _ hd1.s' (Blk.new w 2 _) (by decide) (by decide)
 go_enter Tryz.func269, Tryz.ntmps269
 go_wp2_with fail
 refine hpk.mono ?_
 rintro e w2 ⟨r, hr, rfl, hd⟩
 go_wp2
 go_ret
 refine ⟨r, ?_, ?_, rfl, hd1.trans hd⟩
 · simp at hr; omega
 · simp at hr; omega
theorem ints4 (a b c d : Int) : (ints [a, b, c, d]).toArray = #[.int .i64 a, .int .i64 b, .int .i64 c, .int .i64 d] := rfl
theorem ints2 (a b : Int) : (ints [a, b]).toArray = #[.int .i64 a, .int .i64 b] := rfl
theorem Dr.setNew {w wr : World} {g b : Nat} {T : TypeId} (d : Dr g T w wr) (hb : w.heap.size ≤ b) (i : Nat) (u : Value) : Dr g T w (wr.setCell ⟨b, i, none⟩ u) := by
 have hlt := d.s.lt
 have hfar : ∀ k, k ≠ b → (wr.setCell ⟨b, i, none⟩ u).heap[k]? = wr.heap[k]? := fun k hk => Below.heap_setCell wr ⟨b, i, none⟩ _ k hk
 have hB : Below g wr (wr.setCell ⟨b, i, none⟩ u) := zG.setCell (p := ⟨b, i, none⟩) (Nat.le_trans (Nat.le_of_lt hlt) hb) _
 exact ⟨d.s, d.s'.keep (hfar g (by omega)) hB, d.b.trans hB, fun k hk hne => (hfar k (by omega)).trans (d.k k hk hne)⟩
set_option maxHeartbeats 3200000 in
set_option maxRecDepth 8000 in
theorem l03Any_any (g : Nat) (most : Nat) (w : World) (hs : Src w g 144) (hm1 : 1 ≤ most) (hm2 : most ≤ 100) :
    Calls Tryz.prog 239 #[.pointer (some ⟨g, 0, none⟩), .int .i64 most] w fun e w' => ∃ (P : Int) (A : Option Addr) (n c : Nat) (xs : List Int), e = .returned (.agg #[.int .i64 P, .slice A n c]) ∧ 3 ≤ P ∧ P ≤ 13 ∧ 1 ≤ n ∧ n ≤ most ∧ Own w' w.heap.size 2 A n c (ints xs) ∧ Dr g 144 w w' := by
 have hd1 := (Dr.refl hs).alloc (.cells #[.int .i64 0, .slice none 0 0] 26)
 have k1 : Blk (w.alloc (.cells #[.int .i64 0, .slice none 0 0] 26)) w.heap.size 26 #[.int .i64 0, .slice none 0 0] := Blk.new _ _ _
 have hdp := drawPrime_any g (w.alloc (.cells #[.int .i64 0, .slice none 0 0] 26)) hd1.s'
 have hsw : (w.alloc (.cells #[.int .i64 0, .slice none 0 0] 26)).heap.size = w.heap.size + 1 := by simp
 go_enter Tryz.func239, Tryz.ntmps239
 go_wp2_with fail
 refine hdp.mono ?_
 rintro e w2 ⟨p, hp1, hp2, rfl, hd2⟩
 have hd2' := hd1.trans hd2
 have k2 := k1.dr hd2 (by decide)
 have hs2 := hd2.size
 have hd3 := hd2'.alloc (.cells #[.int .i64 p, .slice none 0 0] 26)
 have k3 := k2.alloc (.cells #[.int .i64 p, .slice none 0 0] 26)
 have kb3 : Blk (w2.alloc (.cells #[.int .i64 p, .slice none 0 0] 26)) w2.heap.size 26 #[.int .i64 p, .slice none 0 0] := Blk.new _ _ _
 have hnx := fun w' (h : Src w' g 144) => next_any g (most : Int) w' h (by omega)
 have hsw2 : w.heap.size + 1 ≤ w2.heap.size := by omega
 clear hdp hd1 k1 hd2 hd2' k2 hsw hs2
 go_wp2_with fail
 refine (hnx _ hd3.s').mono ?_
 rintro e w3 ⟨r, rfl, hr1, hr2, hd4⟩
 have hr3 := hr2 (by omega)
 obtain ⟨N, hN⟩ : ∃ N : Nat, (N : Int) = 1 + r := ⟨(1 + r).toNat, by omega⟩
 have hd5 := hd3.trans hd4
 have k5 := k3.dr hd4 (by decide)
 have kb5 := kb3.dr hd4 (by decide)
 have WN : wrap64 (1 + r) = (N : Int) := by unfold wrap64; omega
 have WP : wrap64 (p - 1) = p - 1 := by unfold wrap64; omega
 have hnxp := fun w' (h : Src w' g 144) => next_any g (p - 1) w' h (by omega)
 have hnx10 := fun w' (h : Src w' g 144) => next_any g 10 w' h (by omega)
 clear hnx hd3 k3 kb3 hd4
 go_wp2
 go_loopw [7] (fun q wr => ∃ (j m : Nat) (A : Option Addr) (c : Nat) (xs : List Int), j + m = N ∧ q = .int .i64 m ∧ Blk wr w.heap.size 26 #[.int .i64 0, .slice none 0 0] ∧ Blk wr w2.heap.size 26 #[.int .i64 p, .slice A j c] ∧ Own wr w.heap.size 2 A j c (ints xs) ∧ Dr g 144 w wr) (fun q _ => (intOf q).toNat)
 case atStart => exact ⟨0, N, none, 0, [], by omega, by rw [hN], k5, kb5, World.ownsRow_nil _ _ _ _, hd5⟩
 case round =>
  obtain ⟨j, m, A, c, xs, hjm, rfl, k4, k6, hO, hd⟩ := hrel
  clear k5 kb5 hd5
  cases m with
  | zero =>
   have hjN : j = N := by omega
   subst hjN
   obtain ⟨q0, q1⟩ := k6.two
   obtain ⟨p0, p1⟩ := k4.two
   have f0 := k4.frozen 0
   have f1 := k4.frozen 1
   go_wp2
   have kz := k4.set_ 0 (.int .i64 p)
   refine bodyPost_ret (v := .agg #[.int .i64 p, .slice A j c]) (by simp [results, Tryz.results239, go_sem, p0, p1]) rfl ⟨p, A, j, c, xs, rfl, hp1, hp2, by omega, by omega, (hO.far k4 (by decide) 0 _).far kz (by decide) 1 _, (hd.setNew (Nat.le_refl _) 0 _).setNew (Nat.le_refl _) 1 _⟩
  | succ m =>
   have d1 : decide (0 < ((m + 1 : Nat) : Int)) = true := by rw [decide_eq_true_eq]; omega
   have WM : wrap64 (((m + 1 : Nat) : Int) - 1) = (m : Int) := by unfold wrap64; omega
   have HO := Lib.hid hO
   clear hO
   go_wp2_with fail
   refine (hnxp _ hd.s').mono ?_
   rintro e wA ⟨ra, rfl, ra1, ra2, hdA⟩
   have ra3 := ra2 (by omega)
   have WA : wrap64 (1 + ra) = 1 + ra := by unfold wrap64; omega
   have hdA' := (Dr.refl hdA.s').alloc (.cells #[.int .i64 1, .int .i64 (p - 1), .int .i64 (1 + ra), .int .i64 1] 2)
   have hpk := pick_any g wA.heap.size [1, p - 1, 1 + ra, 1] _ hdA'.s' (by rw [ints4]; exact Blk.new wA 2 _) (by simp) (by simp)
   go_wp2_with fail
   refine hpk.mono ?_
   rintro e wB ⟨rb, _, rfl, hdB⟩
   go_wp2_with fail
   refine (hnx10 _ hdB.s').mono ?_
   rintro e wC ⟨rc, rfl, rc1, rc2, hdC⟩
   have hdAC := ((hdA.trans hdA').trans hdB).trans hdC
   have HD2 := Lib.hid (hd.trans hdAC)
   have HO2 := Lib.hid (HO.out.dr hdAC (by decide))
   have k4C := k4.dr hdAC (by decide)
   have k6C := k6.dr hdAC (by decide)
   obtain ⟨q0, q1⟩ := k6C.two
   clear hd hdA hdA' hdB hdC hdAC hpk hnxp hnx10 k4 k6
   by_cases hrc : rc = 0
   · have er : (rc == 0) = true := by simp [hrc]
     go_wp2_with (at_builtin; refine wpList_app1 (cutW wC w.heap.size) wC 24 2 _ _ Tryz.underlying24 info_i rfl (by omega) rfl _ _ rfl A j c _ _ (HO2.out.mk_ HD2.out.size) (by omega) rfl rfl rfl ?_; intro A8 c8 w8 hM8 hg8 _
                  have k4a := k4C.grown hg8 (HO2.out.ne_blk k4C (by decide))
                  have k6a := k6C.grown hg8 (HO2.out.ne_blk k6C (by decide))
                  have hO3 := hM8.own_ (cutW_size HD2.out.size)
                  have hd3 := HD2.out.grown HO2.out hg8
                  have f8 := k6a.frozen 1
                  have f9 := k6a.cell 1
                  simp only [zA, zC, zB] at f9)
     have k4b := k4a.far (p := ⟨w2.heap.size, 1, none⟩) (show w.heap.size ≠ w2.heap.size by omega) (.slice A8 (j + 1) c8)
     have k6b := k6a.set_ 1 (.slice A8 (j + 1) c8)
     have hO4 := hO3.far k6a (by decide) 1 (.slice A8 (j + 1) c8)
     have hd4 := hd3.setNew (b := w2.heap.size) (by omega) 1 (.slice A8 (j + 1) c8)
     simp only [zD, zE, zF] at k6b
     clear k4a k6a hO3 hd3 f8 f9 hM8 hg8 k4C k6C
     go_roundw
     case rel => exact ⟨j + 1, m, A8, c8, xs ++ [0], by omega, by go_num, k4b, k6b, by simpa [ints] using hO4, hd4⟩
     case measure => simp [intOf]
   · have er : (rc == 0) = false := by simp [hrc]
     go_wp2_with (at_builtin; refine wpList_app1 (cutW wC w.heap.size) wC 24 2 _ _ Tryz.underlying24 info_i rfl (by omega) rfl _ _ rfl A j c _ _ (HO2.out.mk_ HD2.out.size) (by omega) rfl rfl rfl ?_; intro A8 c8 w8 hM8 hg8 _
                  have k4a := k4C.grown hg8 (HO2.out.ne_blk k4C (by decide))
                  have k6a := k6C.grown hg8 (HO2.out.ne_blk k6C (by decide))
                  have hO3 := hM8.own_ (cutW_size HD2.out.size)
                  have hd3 := HD2.out.grown HO2.out hg8
                  have f8 := k6a.frozen 1
                  have f9 := k6a.cell 1
                  simp only [zA, zC, zB] at f9)
     have k4b := k4a.far (p := ⟨w2.heap.size, 1, none⟩) (show w.heap.size ≠ w2.heap.size by omega) (.slice A8 (j + 1) c8)
     have k6b := k6a.set_ 1 (.slice A8 (j + 1) c8)
     have hO4 := hO3.far k6a (by decide) 1 (.slice A8 (j + 1) c8)
     have hd4 := hd3.setNew (b := w2.heap.size) (by omega) 1 (.slice A8 (j + 1) c8)
     simp only [zD, zE, zF] at k6b
     clear k4a k6a hO3 hd3 f8 f9 hM8 hg8 k4C k6C
     go_roundw
     case rel => exact ⟨j + 1, m, A8, c8, xs ++ [rb], by omega, by go_num, k4b, k6b, by simpa [ints] using hO4, hd4⟩
     case measure => simp [intOf]
set_option maxHeartbeats 1600000 in
set_option maxRecDepth 8000 in
theorem l03Draw_any (g : Nat) (w : World) (hs : Src w g 144) :
    Calls Tryz.prog 270 #[.pointer (some ⟨g, 0, none⟩)] w fun e w' => ∃ (P : Int) (A : Option Addr) (n c : Nat) (xs : List Int), e = .returned (.agg #[.int .i64 P, .slice A n c]) ∧ 3 ≤ P ∧ P ≤ 13 ∧ 1 ≤ n ∧ n ≤ 6 ∧ Own w' w.heap.size 2 A n c (ints xs) ∧ Dr g 144 w w' := by
 have hd1 := ((Dr.refl hs).alloc (.cells #[.int .i64 0, .slice none 0 0] 26)).alloc (.cells #[.int .i64 2, .int .i64 3, .int .i64 3, .int .i64 4, .int .i64 6] 2)
 have k1 : Blk ((w.alloc (.cells #[.int .i64 0, .slice none 0 0] 26)).alloc (.cells #[.int .i64 2, .int .i64 3, .int .i64 3, .int .i64 4, .int .i64 6] 2)) w.heap.size 26 #[.int .i64 0, .slice none 0 0] := (Blk.new _ _ _).alloc _
 have hpk := pick_any g (w.alloc (.cells #[.int .i64 0, .slice none 0 0] 26)).heap.size [2, 3, 3, 4, 6] _ hd1.s' (Blk.new _ 2 _) (by decide) (by decide)
 have e1 : (w.alloc (.cells #[.int .i64 0, .slice none 0 0] 26)).heap.size = w.heap.size + 1 := by simp
 rw [e1] at hpk
 go_enter Tryz.func270, Tryz.ntmps270
 go_wp2_with fail
 refine hpk.mono ?_
 rintro e w2 ⟨r, hr, rfl, hd2⟩
 have hr1 : 2 ≤ r ∧ r ≤ 6 := by simp at hr; omega
 obtain ⟨mn, rfl⟩ : ∃ mn : Nat, r = mn := ⟨r.toNat, by omega⟩
 have hd3 := hd1.trans hd2
 have k2 := k1.dr hd2 (by decide)
 have han := l03Any_any g mn w2 hd3.s' (by omega) (by omega)
 clear hpk hd1 hd2 k1 hr
 go_wp2_with fail
 refine han.mono ?_
 rintro e w3 ⟨P, A, n, c, xs, rfl, hP1, hP2, hn1, hn2, hO, hd4⟩
 have k3 := k2.dr hd4 (by decide)
 have hd5 := hd3.trans hd4
 have hO5 := hO.base hd3.size
 obtain ⟨p0, p1⟩ := k3.two
 have f0 := k3.frozen 0
 have f1 := k3.frozen 1
 have kz := k3.set_ 0 (.int .i64 P)
 clear han k2 hd3 hd4 hO
 go_wp2
 exact bodyPost_ret (v := .agg #[.int .i64 P, .slice A n c]) (by simp [results, Tryz.results270, go_sem, p0, p1]) rfl ⟨P, A, n, c, xs, rfl, hP1, hP2, hn1, by omega, (hO5.far k3 (by decide) 0 _).far kz (by decide) 1 _, (hd5.setNew (Nat.le_refl _) 0 _).setNew (Nat.le_refl _) 1 _⟩
/-- What a struct's box is left as, when the space in it is returned. -/
theorem space_back {w wr : World} {g b : Nat} {T : TypeId} {P : Int} {A : Option Addr} {n c : Nat} {xs : List Int} {cs : Array Value} (k : Blk wr b 26 cs) (hb : w.heap.size ≤ b) (hO : Own wr w.heap.size 2 A n c (ints xs)) (hd : Dr g T w wr) :
    Own ((wr.setCell ⟨b, 0, none⟩ (.int .i64 P)).setCell ⟨b, 1, none⟩ (.slice A n c)) w.heap.size 2 A n c (ints xs) ∧ Dr g T w ((wr.setCell ⟨b, 0, none⟩ (.int .i64 P)).setCell ⟨b, 1, none⟩ (.slice A n c)) :=
 ⟨(hO.far k (by decide) 0 _).far (k.set_ 0 (.int .i64 P)) (by decide) 1 _, (hd.setNew hb 0 _).setNew hb 1 _⟩
/-- The value is a number. -/
def VNum : VP := ⟨fun v _ => ∃ r : Int, v = .int .i64 r, fun _ _ _ h _ => h⟩
theorem Own.set_ {w : World} {E : TypeId} {B g : Nat} {n c : Nat} {us : List Value} (h : Own w B E (some ⟨g, 0, none⟩) n c us) (k : Nat) (u : Value) : Own (w.setCell ⟨g, k, none⟩ u) B E (some ⟨g, 0, none⟩) n c (us.set k u) ∧ w.grownBy (w.setCell ⟨g, k, none⟩ u) (some g) := World.ownsRow.stored h k u
set_option maxHeartbeats 3200000 in
set_option maxRecDepth 8000 in
theorem l03Spoil_any (g : Nat) (w : World) (hs : Src w g 144) :
    Calls Tryz.prog 240 #[.pointer (some ⟨g, 0, none⟩)] w fun e w' => ∃ (P : Int) (A : Option Addr) (n c : Nat) (xs : List Int), e = .returned (.agg #[.int .i64 P, .slice A n c]) ∧ P ≤ 17 ∧ n ≤ 7 ∧ Own w' w.heap.size 2 A n c (ints xs) ∧ Dr g 144 w w' := by
 have hd1 := (Dr.refl hs).alloc (.cells #[.int .i64 0, .slice none 0 0] 26)
 have k1 : Blk (w.alloc (.cells #[.int .i64 0, .slice none 0 0] 26)) w.heap.size 26 #[.int .i64 0, .slice none 0 0] := Blk.new _ _ _
 have hdr := l03Draw_any g (w.alloc (.cells #[.int .i64 0, .slice none 0 0] 26)) hd1.s'
 have hsw : (w.alloc (.cells #[.int .i64 0, .slice none 0 0] 26)).heap.size = w.heap.size + 1 := by simp
 go_enter Tryz.func240, Tryz.ntmps240
 go_wp2_with fail
 refine hdr.mono ?_
 rintro e w2 ⟨P, A, n, c, xs, rfl, hP1, hP2, hn1, hn2, hO, hd2⟩
 have hs2 := hd2.size
 have hlt2 : w.heap.size < w2.heap.size := by omega
 have hd3 := (hd1.trans hd2).alloc (.cells #[.int .i64 P, .slice A n c] 26)
 have k3 := (k1.dr hd2 (by decide)).alloc (.cells #[.int .i64 P, .slice A n c] 26)
 have kb3 : Blk (w2.alloc (.cells #[.int .i64 P, .slice A n c] 26)) w2.heap.size 26 #[.int .i64 P, .slice A n c] := Blk.new _ _ _
 have hO3 := (hO.base (B' := w.heap.size) (by omega)).below (zG.alloc (Nat.le_refl _) (.cells #[.int .i64 P, .slice A n c] 26))
 have hnx := next_any g 40 _ hd3.s' (by omega)
 clear hdr hd1 k1 hsw hd2 hs2 hO
 go_wp2_with fail
 refine hnx.mono ?_
 rintro e w3 ⟨r, rfl, hr1, hr2, hd4⟩
 have hd5 := hd3.trans hd4
 have k5 := k3.dr hd4 (by decide)
 have kb5 := kb3.dr hd4 (by decide)
 have hO5 := hO3.dr hd4 (by decide)
 clear hnx hd3 k3 kb3 hO3 hd4
 by_cases h0 : r = 0
 · have e0 : (r == 0) = true := by simp [h0]
   obtain ⟨q0, q1⟩ := kb5.two
   have hd6 := (Dr.refl hd5.s').alloc (.cells #[.int .i64 4, .int .i64 1, .int .i64 17, .int .i64 0] 2)
   have hpk := pick_any g w3.heap.size [4, 1, 17, 0] _ hd6.s' (Blk.new w3 2 _) (by decide) (by decide)
   go_wp2_with fail
   refine hpk.mono ?_
   rintro e w4 ⟨P2, hP, rfl, hd7⟩
   have hd67 := hd6.trans hd7
   have k7 := k5.dr hd67 (by decide)
   have kb7 := kb5.dr hd67 (by decide)
   have hO7 := hO5.dr hd67 (by decide)
   have hd8 := hd5.trans hd67
   obtain ⟨p0, p1⟩ := k7.two
   have f0 := k7.frozen 0
   have f1 := k7.frozen 1
   have g0 := kb7.frozen 0
   have g1 := kb7.cell 0
   have g2 := kb7.cell 1
   simp only [zA, zC, zB] at g1 g2
   clear hpk hd6 hd7 hd67 k5 kb5 hO5 hd5 q0 q1
   go_wp2
   have k8 := k7.far (p := ⟨w2.heap.size, 0, none⟩) (show w.heap.size ≠ w2.heap.size by omega) (.int .i64 P2)
   have hO8 := hO7.far kb7 (by decide) 0 (.int .i64 P2)
   have hd9 := hd8.setNew (b := w2.heap.size) (by omega) 0 (.int .i64 P2)
   obtain ⟨w5, hw5⟩ : ∃ W, W = w4.setCell ⟨w2.heap.size, 0, none⟩ (.int .i64 P2) := ⟨_, rfl⟩
   rw [← hw5] at k8 hO8 hd9 ⊢
   obtain ⟨p0, p1⟩ := k8.two
   first | exact bodyPost_ret (v := .agg #[.int .i64 P2, .slice A n c]) (by simp [results, Tryz.results240, go_sem, p0, p1]) rfl ⟨P2, A, n, c, xs, rfl, by simp at hP; omega, by omega, (space_back k8 (Nat.le_refl _) hO8 hd9).1, (space_back k8 (Nat.le_refl _) hO8 hd9).2⟩ | exact bodyPost_ret (v := .agg #[.int .i64 P2, .slice A n c]) (by simp [results, Tryz.results240, go_sem, p0, p1]) rfl ⟨P2, A, n, c, rfl, by simp at hP; omega, by omega, ⟨xs, (space_back k8 (Nat.le_refl _) hO8 hd9).1⟩, (space_back k8 (Nat.le_refl _) hO8 hd9).2⟩
 · have e0 : (r == 0) = false := by simp [h0]
   by_cases h1 : r = 1
   · have e1 : (r == 1) = true := by simp [h1]
     rcases hO5.form with ⟨_, hz⟩ | ⟨gA, rfl, hg1, hg2⟩
     · omega
     obtain ⟨q0, q1⟩ := kb5.two
     have i1 : (0 : Int) < (n : Int) := by omega
     have i2 : 0 < n := by omega
     go_wp2
     refine wp_obsR 8 (Dr g 144) [[], [0], [], [], [3], [3, 4], [2, 3, 4, 5], [0, 1], [0, 1, 2, 3, 4, 5, 6, 7]] [[], [], [], [], [], [], [5], []] (fun x => [VIs (.pointer (some ⟨w2.heap.size, 1, none⟩)), VIs (.slice (some ⟨gA, 0, none⟩) n c), VIs (.pointer (some ⟨g, 0, none⟩)), VIs (.pointer (some ⟨w2.heap.size, 0, none⟩)), VIs (.int .i64 (P)), VBs 2 #[.int .i64 (-1), .int .i64 P], VNum, VIs (.pointer (some ⟨gA, 0, none⟩))]) (fun w' => Blk w' w.heap.size 26 #[.int .i64 0, .slice none 0 0] ∧ Blk w' w2.heap.size 26 #[.int .i64 P, .slice (some ⟨gA, 0, none⟩) n c] ∧ Own w' w.heap.size 2 (some ⟨gA, 0, none⟩) n c (ints xs) ∧ Dr g 144 w w') (by kernel_rfl) (by kernel_rfl) (fun x x' j hx => by
         rcases j with _ | _ | _ | _ | _ | _ | _ | _ | j
         · rfl
         · rfl
         · rfl
         · rfl
         · rfl
         · rfl
         · rfl
         · rfl
         · rfl)
      (weak_ofR [0, 1, 2, 3, 4, 7] (by decide) (fun k hk x v w w' hp hr => by
       simp only [List.mem_cons, zJ, or_false] at hk
       rcases hk with rfl | rfl | rfl | rfl | rfl | rfl
       · exact hp
       · exact hp
       · exact hp
       · exact hp
       · exact hp
       · exact hp)) (fun j _ _ h hb => hb.either (fun hb => ⟨h.1.below hb h.1.lt, h.2.1.below hb h.2.1.lt, h.2.2.1.below hb, h.2.2.2.then hb⟩) (fun hr => ⟨h.1.dr hr (by decide), h.2.1.dr hr (by decide), h.2.2.1.dr hr (by decide), h.2.2.2.trans hr⟩)) (⟨k5.drew, kb5.drew, hO5.below zG.drew, hd5.then zG.drew⟩) (fun x => ?_)
     refine zSR (fun w' hS hV K hK => ?_) ?_
     · obtain ⟨q0, q1⟩ := hS.2.1.two; go_simp; exact hK.out _ _ _ rfl rfl rfl zG
     refine zSR (fun w' hS hV K hK => ?_) ?_
     · have e0 := zQ hV 0; obtain ⟨q0, q1⟩ := hS.2.1.two; go_simp; exact hK.out _ _ _ rfl rfl rfl zG
     refine zSR (fun w' hS hV K hK => ?_) ?_
     · obtain ⟨q0, q1⟩ := hS.2.1.two; go_simp; exact hK.out _ _ _ rfl rfl rfl zG
     refine zSR (fun w' hS hV K hK => ?_) ?_
     · obtain ⟨q0, q1⟩ := hS.2.1.two; go_simp; exact hK.out _ _ _ rfl rfl rfl zG
     refine zSR (fun w' hS hV K hK => ?_) ?_
     · have e3 := zQ hV 3; obtain ⟨q0, q1⟩ := hS.2.1.two; go_simp; exact hK.out _ _ _ rfl rfl rfl zG
     refine zSR (fun w' hS hV K hK => ?_) ?_
     · have e4 := zQ hV 4; obtain ⟨q0, q1⟩ := hS.2.1.two; go_simp; exact hK.out _ _ _ rfl rfl ⟨_, rfl, Blk.new _ _ _⟩ (zG.alloc (Nat.le_refl _) _)
     refine zSR (fun w' hS hV K hK => ?_) ?_
     · have e2 := zQ hV 2; obtain ⟨G5, e5, b5⟩ := hV 5 (by decide); obtain ⟨q0, q1⟩ := hS.2.1.two; go_simp; refine (pick_any g G5 [-1, P] _ hS.2.2.2.s' (by rw [ints2]; exact b5) (by simp) (by simp)).mono ?_; rintro e v1 ⟨r1, _, rfl, hr⟩; exact hK.out _ _ _ rfl rfl ⟨_, rfl⟩ hr
     refine zSR (fun w' hS hV K hK => ?_) ?_
     · have e1 := zQ hV 1; obtain ⟨q0, q1⟩ := hS.2.1.two; go_simp; exact hK.out _ _ _ rfl rfl rfl zG
     refine fun w' hS hV => ?_
     have e0 := zQ hV 0
     have e1 := zQ hV 1
     have e2 := zQ hV 2
     have e3 := zQ hV 3
     have e4 := zQ hV 4
     obtain ⟨rv, e6⟩ := hV 6 (by decide)
     have e7 := zQ hV 7
     simp only [e0, e1, e2, e3, e4, e6, e7]
     clear e0 e1 e2 e3 e4 e6 e7
     obtain ⟨k6, kb6, hO6, hd6⟩ := hS
     obtain ⟨w6, rfl⟩ : ∃ W, W = w' := ⟨_, rfl⟩
     obtain ⟨gB, oB, eB, hxB, hcB⟩ := hO6.rd.int (show 0 < n by omega)
     injection eB with eB
     injection eB with eB1 eB2 _
     subst eB1; subst eB2
     rw [Nat.zero_add] at hcB
     have ff := hO6.frozen_ 0
     refine any_one (j := 8) (by kernel_rfl) (Eq.trans (by simp only [zA, zB, zC]; exact rfl) rfl) (fun K hK => ?_)
     go_simp
     refine hK.out _ _ (wpAny_done (by kernel_rfl) ?_ _)
     obtain ⟨hO7, hg7⟩ := hO6.set_ 0 (.int .i64 rv)
     rw [ints_set] at hO7
     have k7 := k6.grown hg7 (hO6.ne_blk k6 (by decide))
     have kb7 := kb6.grown hg7 (hO6.ne_blk kb6 (by decide))
     have hd7 := hd6.grown hO6 hg7
     obtain ⟨w7, hw7⟩ : ∃ W, W = w6.setCell ⟨gA, 0, none⟩ (.int .i64 rv) := ⟨_, rfl⟩
     rw [← hw7] at hO7 k7 kb7 hd7 ⊢
     obtain ⟨p0, p1⟩ := k7.two
     have f0 := k7.frozen 0
     have f1 := k7.frozen 1
     obtain ⟨g1, g2⟩ := kb7.two
     clear q0 q1 k5 kb5 hO5 hd5 k6 kb6 hO6 hd6 hg7 hw7 hcB ff
     go_wp2
     first | exact bodyPost_ret (v := .agg #[.int .i64 P, .slice (some ⟨gA, 0, none⟩) n c]) (by simp [results, Tryz.results240, go_sem, p0, p1]) rfl ⟨P, (some ⟨gA, 0, none⟩), n, c, (xs.set 0 rv), rfl, by omega, by omega, (space_back k7 (Nat.le_refl _) hO7 hd7).1, (space_back k7 (Nat.le_refl _) hO7 hd7).2⟩ | exact bodyPost_ret (v := .agg #[.int .i64 P, .slice (some ⟨gA, 0, none⟩) n c]) (by simp [results, Tryz.results240, go_sem, p0, p1]) rfl ⟨P, (some ⟨gA, 0, none⟩), n, c, rfl, by omega, by omega, ⟨(xs.set 0 rv), (space_back k7 (Nat.le_refl _) hO7 hd7).1⟩, (space_back k7 (Nat.le_refl _) hO7 hd7).2⟩
   · have e1 : (r == 1) = false := by simp [h1]
     by_cases h2 : r = 2
     · have e2 : (r == 2) = true := by simp [h2]
       have kA := k5.alloc (.cells #[] 2)
       have kbA := kb5.alloc (.cells #[] 2)
       have hdA := hd5.alloc (.cells #[] 2)
       have hOA : Own (w3.alloc (.cells #[] 2)) w.heap.size 2 (some ⟨w3.heap.size, 0, none⟩) 0 0 (ints []) := Own.of_cells (cs := #[]) (Nat.le_trans (Nat.le_of_lt hlt2) (Nat.le_trans (Nat.le_of_lt kb5.lt) (Nat.le_refl _))) (Blk.new w3 2 #[]) (by simp [maxLen])
       obtain ⟨p0, p1⟩ := kA.two
       have f0 := kA.frozen 0
       have f1 := kA.frozen 1
       obtain ⟨g1, g2⟩ := kbA.two
       have g0 := kbA.frozen 1
       go_wp2
       have k8 := kA.far (p := ⟨w2.heap.size, 1, none⟩) (show w.heap.size ≠ w2.heap.size by omega) (.slice (some ⟨w3.heap.size, 0, none⟩) 0 0)
       have hO8 := hOA.far kbA (by decide) 1 (.slice (some ⟨w3.heap.size, 0, none⟩) 0 0)
       have hd9 := hdA.setNew (b := w2.heap.size) (by omega) 1 (.slice (some ⟨w3.heap.size, 0, none⟩) 0 0)
       obtain ⟨w5, hw5⟩ : ∃ W, W = (w3.alloc (.cells #[] 2)).setCell ⟨w2.heap.size, 1, none⟩ (.slice (some ⟨w3.heap.size, 0, none⟩) 0 0) := ⟨_, rfl⟩
       rw [← hw5] at k8 hO8 hd9 ⊢
       obtain ⟨p0, p1⟩ := k8.two
       first | exact bodyPost_ret (v := .agg #[.int .i64 P, .slice (some ⟨w3.heap.size, 0, none⟩) 0 0]) (by simp [results, Tryz.results240, go_sem, p0, p1]) rfl ⟨P, (some ⟨w3.heap.size, 0, none⟩), 0, 0, [], rfl, by omega, by omega, (space_back k8 (Nat.le_refl _) hO8 hd9).1, (space_back k8 (Nat.le_refl _) hO8 hd9).2⟩ | exact bodyPost_ret (v := .agg #[.int .i64 P, .slice (some ⟨w3.heap.size, 0, none⟩) 0 0]) (by simp [results, Tryz.results240, go_sem, p0, p1]) rfl ⟨P, (some ⟨w3.heap.size, 0, none⟩), 0, 0, rfl, by omega, by omega, ⟨[], (space_back k8 (Nat.le_refl _) hO8 hd9).1⟩, (space_back k8 (Nat.le_refl _) hO8 hd9).2⟩
     · have e2 : (r == 2) = false := by simp [h2]
       by_cases h3 : r = 3
       · have e3 : (r == 3) = true := by simp [h3]
         go_wp2
         go_loopw [] (fun wr => ∃ (j : Nat) (A1 : Option Addr) (c1 : Nat) (xs1 : List Int), j ≤ 7 ∧ Blk wr w.heap.size 26 #[.int .i64 0, .slice none 0 0] ∧ Blk wr w2.heap.size 26 #[.int .i64 P, .slice A1 j c1] ∧ Own wr w.heap.size 2 A1 j c1 (ints xs1) ∧ Dr g 144 w wr) (fun wr => 7 - (match wr.cell? ⟨w2.heap.size, 1, none⟩ with | some (.slice _ l _) => l | _ => 0))
         case atStart => exact ⟨n, A, c, xs, by omega, k5, kb5, hO5, hd5⟩
         case round =>
          obtain ⟨j, A1, c1, xs1, hj, k6, kb6, hO6, hd6⟩ := hrel
          clear k5 kb5 hO5 hd5
          obtain ⟨q0, q1⟩ := kb6.two
          by_cases hlt : j < 7
          · have d7 : decide ((j : Int) < 7) = true := by rw [decide_eq_true_eq]; omega
            go_wp2_with (at_builtin; refine wpList_app1 (cutW wr w.heap.size) wr 24 2 _ _ Tryz.underlying24 info_i rfl (by omega) rfl _ _ rfl A1 j c1 _ _ (hO6.mk_ hd6.size) (by omega) rfl rfl rfl ?_; intro A8 c8 w8 hM8 hg8 _
                         have k4a := k6.grown hg8 (hO6.ne_blk k6 (by decide))
                         have k6a := kb6.grown hg8 (hO6.ne_blk kb6 (by decide))
                         have hO7 := hM8.own_ (cutW_size hd6.size)
                         have hd7 := hd6.grown hO6 hg8
                         have f8 := k6a.frozen 1
                         obtain ⟨f9, f10⟩ := k6a.two)
            have k4b := k4a.far (p := ⟨w2.heap.size, 1, none⟩) (show w.heap.size ≠ w2.heap.size by omega) (.slice A8 (j + 1) c8)
            have k6b := k6a.set_ 1 (.slice A8 (j + 1) c8)
            have hO8 := hO7.far k6a (by decide) 1 (.slice A8 (j + 1) c8)
            have hd8 := hd7.setNew (b := w2.heap.size) (by omega) 1 (.slice A8 (j + 1) c8)
            simp only [zD, zE, zF] at k6b
            have hm2 := k6b.two.2
            clear k4a k6a hO7 hd7 f8 f9 f10 hM8 hg8
            go_roundw
            case rel => exact ⟨j + 1, A8, c8, xs1 ++ [1], by omega, k4b, k6b, by simpa [ints] using hO8, hd8⟩
            case measure =>
             simp only [hm2, q1]
             show 7 - (j + 1) < 7 - j
             omega
          · have d7 : decide ((j : Int) < 7) = false := by rw [decide_eq_false_iff_not]; omega
            obtain ⟨p0, p1⟩ := k6.two
            have f0 := k6.frozen 0
            have f1 := k6.frozen 1
            go_wp2
            first | exact bodyPost_ret (v := .agg #[.int .i64 P, .slice A1 j c1]) (by simp [results, Tryz.results240, go_sem, p0, p1]) rfl ⟨P, A1, j, c1, xs1, rfl, by omega, by omega, (space_back k6 (Nat.le_refl _) hO6 hd6).1, (space_back k6 (Nat.le_refl _) hO6 hd6).2⟩ | exact bodyPost_ret (v := .agg #[.int .i64 P, .slice A1 j c1]) (by simp [results, Tryz.results240, go_sem, p0, p1]) rfl ⟨P, A1, j, c1, rfl, by omega, by omega, ⟨xs1, (space_back k6 (Nat.le_refl _) hO6 hd6).1⟩, (space_back k6 (Nat.le_refl _) hO6 hd6).2⟩
       · have e3 : (r == 3) = false := by simp [h3]
         obtain ⟨p0, p1⟩ := k5.two
         have f0 := k5.frozen 0
         have f1 := k5.frozen 1
         obtain ⟨q0, q1⟩ := kb5.two
         go_wp2
         first | exact bodyPost_ret (v := .agg #[.int .i64 P, .slice A n c]) (by simp [results, Tryz.results240, go_sem, p0, p1]) rfl ⟨P, A, n, c, xs, rfl, by omega, by omega, (space_back k5 (Nat.le_refl _) hO5 hd5).1, (space_back k5 (Nat.le_refl _) hO5 hd5).2⟩ | exact bodyPost_ret (v := .agg #[.int .i64 P, .slice A n c]) (by simp [results, Tryz.results240, go_sem, p0, p1]) rfl ⟨P, A, n, c, rfl, by omega, by omega, ⟨xs, (space_back k5 (Nat.le_refl _) hO5 hd5).1⟩, (space_back k5 (Nat.le_refl _) hO5 hd5).2⟩
end Go.Proofs.YtmkjdpnoloofjaaGreat

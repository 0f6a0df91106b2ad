/-
  LawFnMultivectorTexts: part 2 of the texts that the proof needs. No condition.
-/
import Derived.Test.YticofgmmjecleaaGreatDoorM1
namespace Go.Proofs.YticofgmmjecleaaGreatDoor
open Go.ChangeShapes Go.WideShapes Go.ChangeAt Go.RowKit
theorem cells_u8 : Tryz.prog.cellsOf 5 = 1 := by kernel_rfl
section
variable {H : Type} {enc : TypeId × Value → H} {w : World} {base : Nat} {spare : Nat → Bool} {held : Bool}
/-- A list of bytes, out of its one cell. -/
theorem openB {fuel : Nat} {cs : List Value} {x : DataW H × List MemPlace} (h : DataW.trod enc Tryz.prog w base spare held fuel 43 cs = some x) :
    ∃ (A : Option Addr) (n c : Nat) (xs : List Int), cs = [.slice A n c] ∧ n ≤ c ∧ Rd w A n (xs.map (Value.int .u8)) ∧ (∀ b ∈ xs, 0 ≤ b ∧ b < 256) := by
  rcases open_ints Tryz.underlying43 Tryz.underlying5 cells_u8 h with ⟨hcs, hx⟩ | ⟨a, len, cap, zs, hcs, _, hl, hm, hz, hx, hcell, hwz⟩
  · exact ⟨none, 0, 0, [], hcs, Nat.le_refl _, Rd.nil _ _, by simp⟩
  · have hlz : len ≤ zs.length := by rw [hz]; split <;> omega
    refine ⟨some a, len, cap, zs.take len, hcs, hl, ⟨by rw [List.length_map, List.length_take]; omega, fun hp => ?_⟩, fun b hb => ?_⟩
    · obtain ⟨b, off, rfl, hc⟩ := ints_at hcell (by omega)
      refine ⟨b, off, rfl, fun k u hu => ?_⟩
      have hk : k < len := by
        have := (List.getElem?_eq_some_iff.1 hu).1
        rw [List.length_map, List.length_take] at this
        omega
      rw [hc k (by omega)]
      rw [List.getElem?_map, List.getElem?_take, if_pos hk, List.getElem?_eq_getElem (by omega)] at hu
      rw [← hu]
      simp [List.getD, show k < zs.length by omega]
    · have := hwz b (List.mem_of_mem_take hb)
      simp only [Lit.wf, Bool.and_eq_true, decide_eq_true_eq] at this
      have e1 : IntKind.u8.min = 0 := rfl
      have e2 : IntKind.u8.max = 255 := rfl
      rw [e1, e2] at this
      omega
end
/-- A slice's block, if it has one, was there. -/
theorem okWide_block {P : Program} {w : World} {base : Nat} {t e : TypeId} {A : Option Addr} {n c : Nat} (ht : P.underlying t = some (.slice e)) (h : Value.okWide P w .any base t (.slice A n c)) : ∀ a, A = some a → a.block < w.heap.size := by
  rintro a rfl
  simp only [Value.okWide, ht, Cell.okWide, Cell.ok] at h
  obtain ⟨_, _, _, _, row, cells, hs, _⟩ := h
  refine Classical.byContradiction fun hlt => ?_
  rw [World.shape?, Array.getElem?_eq_none (by omega)] at hs
  cases hs
end Go.Proofs.YticofgmmjecleaaGreatDoor
namespace Go.Proofs.YticofgmmjecleaaGreatDoor
open Go.RowKit
section
variable {P : Program} {ops : Array Oper} {Q : Exit → Act → World → Prop}
/-- Those whose values are good still when operation j is done (C: what each uses up). -/
def availR (R C : List (List Nat)) (m j : Nat) : List Nat := (R.getD j []).filter fun i => (List.range m).all fun k => !((C.getD k []).contains i) || k == j || (R.getD k []).contains j
/-- .. and at the end of the first m. -/
def endR (C : List (List Nat)) (m : Nat) : List Nat := (List.range m).filter fun i => (List.range m).all fun k => !((C.getD k []).contains i)
/-- What operation j may do to the world: add to it, or, where C has something at j, what Rel allows. -/
def StepR (C : List (List Nat)) (Rel : World → World → Prop) (j : Nat) (w w' : World) : Prop := if (C.getD j []).isEmpty then Below w.heap.size w w' else Rel w w'
theorem StepR.plain {C : List (List Nat)} {Rel : World → World → Prop} {j : Nat} {w w' : World} (h : (C.getD j []).isEmpty = true) (hb : Below w.heap.size w w') : StepR C Rel j w w' := by unfold StepR; rw [h]; exact hb
theorem StepR.rel {C : List (List Nat)} {Rel : World → World → Prop} {j : Nat} {w w' : World} (h : (C.getD j []).isEmpty = false) (hb : Rel w w') : StepR C Rel j w w' := by unfold StepR; rw [h]; exact hb
theorem StepR.either {C : List (List Nat)} {Rel : World → World → Prop} {j : Nat} {w w' : World} {q : Prop} (h : StepR C Rel j w w') (h1 : Below w.heap.size w w' → q) (h2 : Rel w w' → q) : q := by
  unfold StepR at h
  split at h
  · exact h1 h
  · exact h2 h
theorem not_containsR {L : List Nat} {i : Nat} : (!(L.contains i)) = true ↔ i ∉ L := by
  rw [Bool.not_eq_true', ← Bool.not_eq_true, List.contains_iff_mem]
theorem availR_spec {R C : List (List Nat)} {m j i : Nat} : i ∈ availR R C m j ↔ i ∈ R.getD j [] ∧ ∀ k, k < m → i ∈ C.getD k [] → k = j ∨ j ∈ R.getD k [] := by
  unfold availR
  rw [List.mem_filter, List.all_eq_true]
  refine and_congr_right fun _ => ⟨fun h k hk hi => ?_, fun h k hk => ?_⟩
  · have h1 := h k (List.mem_range.2 hk)
    rw [Bool.or_eq_true, Bool.or_eq_true, not_containsR, beq_iff_eq, List.contains_iff_mem] at h1
    rcases h1 with (h1 | h1) | h1
    · exact absurd hi h1
    · exact .inl h1
    · exact .inr h1
  · rw [Bool.or_eq_true, Bool.or_eq_true, not_containsR, beq_iff_eq, List.contains_iff_mem]
    by_cases hi : i ∈ C.getD k []
    · rcases h k (List.mem_range.1 hk) hi with h1 | h1
      · exact .inl (.inr h1)
      · exact .inr h1
    · exact .inl (.inl hi)
theorem endR_spec {C : List (List Nat)} {m i : Nat} : i ∈ endR C m ↔ i < m ∧ ∀ k, k < m → i ∉ C.getD k [] := by
  unfold endR
  rw [List.mem_filter, List.all_eq_true, List.mem_range]
  exact and_congr_right fun _ => ⟨fun h k hk => not_containsR.1 (h k (List.mem_range.2 hk)), fun h k hk => not_containsR.2 (h k (List.mem_range.1 hk))⟩
/-- What is to be shown of operation j. -/
def ObR (P : Program) (ops : Array Oper) (S : World → Prop) (R C : List (List Nat)) (Rel : World → World → Prop) (m : Nat) (V : (Nat → Value) → List VP) (x : Nat → Value) (a0 : Act) (j : Nat) : Prop :=
  ∀ w, S w → (∀ i ∈ availR R C m j, ((V x).getD i VAny).p (x i) w) →
    wpOp P ops NoWay j (fun a' w' => ∃ v, (∀ d, dstOf ops j = some d → a'.tmps[d]? = some v) ∧ a'.defers = a0.defers ∧ ((V x).getD j VAny).p v w' ∧ StepR C Rel j w w') (putS ops x a0 j) w
theorem tasks_goR {m : Nat} {Rel : World → World → Prop} {R C : List (List Nat)} {V : (Nat → Value) → List VP} {S : World → Prop} {a0 : Act} (hok : tasksOk ops m a0.tmps.size R = true)
    (hdep : ∀ x x' j, (∀ i ∈ R.getD j [], x i = x' i) → (V x).getD j VAny = (V x').getD j VAny) (hweak : ∀ i, i < m → (C.getD i []).isEmpty = false → ∀ k, k < m → k ≠ i → i ∉ R.getD k [] → k ∉ C.getD i [] → ∀ x v w w', ((V x).getD k VAny).p v w → Rel w w' → ((V x).getD k VAny).p v w') (hSt : ∀ j w w', S w → StepR C Rel j w w' → S w') (hob : ∀ x j, j < m → ObR P ops S R C Rel m V x a0 j)
    (hend : ∀ x w', S w' → (∀ i ∈ endR C m, ((V x).getD i VAny).p (x i) w') → wpAny P .any ops Q (ops.size - m) (listedTo ops.size m) (putS ops x a0 m) w') :
    ∀ (c : Nat) (U : List Nat) (listed : Array Bool) (w : World) (x : Nat → Value), U.length = c → U.Nodup → (∀ i, i ∈ U ↔ i < m ∧ listed.getD i false = false) → listed.size = ops.size →
      (∀ i, m ≤ i → i < ops.size → listed.getD i false = false) → (∀ (j : Nat) (o : Oper), ops[j]? = some o → listed.getD j false = true → ∀ e ∈ o.after, Region.binds .any e = true → listed.getD e.on false = true) →
      S w → (∀ i, i < m → listed.getD i false = true → (∀ j, j < m → i ∈ C.getD j [] → listed.getD j false = false) → ((V x).getD i VAny).p (x i) w) → wpAny P .any ops Q (ops.size - m + c) listed (putD ops (fun i => listed.getD i false) x a0 m) w := by
  obtain ⟨hmn, hspec, htail⟩ := tasks_spec hok
  have hsel : Region.noSelect ops = true := by unfold tasksOk at hok; simp only [Bool.and_eq_true] at hok; exact hok.1.1
  intro c
  induction c with
  | zero =>
    intro U listed w x hU hnd hmem hsz hun hcl hS hV
    obtain rfl : U = [] := List.eq_nil_of_length_eq_zero hU
    have hall : ∀ i, i < m → listed.getD i false = true := fun i hi => by
      cases h : listed.getD i false
      · exact absurd ((hmem i).2 ⟨hi, h⟩) (by simp)
      · rfl
    have hl : listed = listedTo ops.size m := by
      apply Array.ext
      · simp [listedTo, hsz]
      · intro i h1 h2
        have e : listed.getD i false = listed[i] := by simp [Array.getD, h1]
        by_cases hi : i < m
        · have := hall i hi
          rw [e] at this
          simp [listedTo, this, hi]
        · have := hun i (by omega) (by omega)
          rw [e] at this
          simp [listedTo, this, hi]
    rw [Nat.add_zero, putD_congr (ops := ops) _ (fun _ => true) x x a0 m (fun i hi => ⟨hall i hi, fun _ => rfl⟩), hl]
    exact hend x w hS (fun i hi => hV i (endR_spec.1 hi).1 (hall i (endR_spec.1 hi).1) (fun j hj hc => absurd hc ((endR_spec.1 hi).2 j hj)))
  | succ c ih =>
    intro U listed w x hU hnd hmem hsz hun hcl hS hV
    have hne : U ≠ [] := fun e => by rw [e] at hU; simp at hU
    show (_ → _) ∧ _
    refine ⟨fun hr => ?_, fun i hi => ?_⟩
    · exfalso
      obtain ⟨i, hiU, hmin⟩ := min_mem U hne
      obtain ⟨him, hil⟩ := (hmem i).1 hiU
      have hlt : i < ops.size := by omega
      have : i ∈ Region.ready .any ops listed := mem_ready.2 ⟨by simpa [Array.getD, hsz, hlt] using hil, _, Array.getElem?_eq_getElem hlt, fun e he hb => by
        have hlti := (hspec i _ (Array.getElem?_eq_getElem hlt) him).1 e he hb
        cases h : listed.getD e.on false
        · have := hmin e.on ((hmem _).2 ⟨by omega, h⟩); omega
        · rfl⟩
      rw [hr] at this
      cases this
    · obtain ⟨hil, o, ho, hdeps⟩ := mem_ready.1 hi
      have hlt : i < ops.size := (Array.getElem?_eq_some_iff.1 ho).1
      have hil' : listed.getD i false = false := by simpa [Array.getD, hsz, hlt] using hil
      have hreach := listed_reach hok (fun i => listed.getD i false) hcl i o ho hdeps
      have him : i < m := by
        rcases Nat.lt_or_ge i m with h | h
        · exact h
        · exfalso
          obtain ⟨k, hk⟩ := List.exists_mem_of_ne_nil U hne
          obtain ⟨hkm, hkl⟩ := (hmem k).1 hk
          have := hreach k (htail i hlt h k hkm)
          rw [hkl] at this; cases this
      obtain ⟨_, ⟨d, hd, hdsz, hduniq⟩, hlook⟩ := hspec i o ho him
      have hdst : dstOf ops i = some d := by simp [dstOf, ho, hd]
      have hso : ∀ cs b, o.op ≠ .select cs b := fun cs b => Region.noSelect_spec hsel i o cs b ho
      -- the two frames agree on what o looks at
      have hagree : ∀ t ∈ o.looksAt ops, (putD ops (fun i => listed.getD i false) x a0 m).tmps[t]? = (putS ops x a0 i).tmps[t]? := fun t ht => by
        by_cases hex : ∃ k, k < m ∧ dstOf ops k = some t
        · obtain ⟨k, hkm, hkd⟩ := hex
          have hkR := hlook t ht k hkm hkd
          have hki := reach_lt hok i hlt k hkR
          have hkl := hreach k hkR
          have hks : k < ops.size := by omega
          obtain ⟨_, ⟨d', hd', hdsz', hu'⟩, _⟩ := hspec k _ (Array.getElem?_eq_getElem hks) hkm
          have htd : d' = t := by
            have : dstOf ops k = some d' := by simp [dstOf, Array.getElem?_eq_getElem hks, hd']
            rw [hkd] at this; injection this with this; exact this.symm
          rw [putD_at _ _ _ _ k hkd hkl (htd ▸ hdsz') m hkm (fun l hl hlk => htd ▸ hu' l hl hlk)]
          unfold putS
          rw [putD_at _ _ _ _ k hkd rfl (htd ▸ hdsz') i hki (fun l hl hlk => htd ▸ hu' l (by omega) hlk)]
        · rw [putD_other _ _ _ _ m (fun k hk hkd => absurd ⟨k, hk, hkd⟩ hex)]
          unfold putS
          rw [putD_other _ _ _ _ i (fun k hk hkd => absurd ⟨k, by omega, hkd⟩ hex)]
      have hob' := hob x i him w hS (fun k hk => by
        obtain ⟨hkR, hkC⟩ := availR_spec.1 hk
        refine hV k (by have := reach_lt hok i hlt k hkR; omega) (hreach k hkR) (fun j hj hc => ?_)
        rcases hkC j hj hc with rfl | hij
        · exact hil'
        · cases hjl : listed.getD j false
          · rfl
          · have hjs : j < ops.size := by omega
            have := listed_reach hok (fun i => listed.getD i false) hcl j _ (Array.getElem?_eq_getElem hjs) (hcl j _ (Array.getElem?_eq_getElem hjs) hjl) i hij
            rw [hil'] at this; cases this)
      have hsz1 := putD_size (ops := ops) (fun _ => true) x a0 i
      -- what comes behind
      have next : ∀ v w', ((V x).getD i VAny).p v w' → StepR C Rel i w w' → wpAny P .any ops Q (ops.size - m + c) (listed.setIfInBounds i true) ((putD ops (fun i => listed.getD i false) x a0 m).put (some d) v) w' := fun v w' hv hb => by
        have hput := putD_put (ops := ops) (fun k => listed.getD k false) (fun k => (listed.setIfInBounds i true).getD k false) x (fun k => if k = i then v else x k) a0 i hil'
          (by simp [hsz, hlt]) (fun k hk => ⟨by rw [getD_set_ne _ (Ne.symm hk)], by simp [hk]⟩) m him
          (fun d' k hk hki hd' => by rw [hdst] at hd'; injection hd' with hd'; exact hd' ▸ hduniq k hk hki)
        simp only [if_true] at hput
        rw [← hdst, hput]
        refine ih (U.erase i) _ _ _ ?_ (hnd.erase _) (fun k => ?_) (by simpa using hsz) (fun k h1 h2 => ?_) (fun j oj hoj hj e he hb' => ?_) (hSt i _ _ hS hb) (fun k hk hkl hcons => ?_)
        · rw [List.length_erase_of_mem ((hmem i).2 ⟨him, hil'⟩), hU]; rfl
        · rw [hnd.mem_erase_iff, hmem]
          by_cases hk : k = i
          · subst hk; simp [hsz, hlt]
          · rw [getD_set_ne _ (Ne.symm hk)]; simp [hk]
        · rw [getD_set_ne _ (by omega)]; exact hun k h1 h2
        · by_cases hji : j = i
          · subst hji
            rw [ho] at hoj; injection hoj with hoj; subst hoj
            exact getD_set_true (hdeps e he hb')
          · rw [getD_set_ne _ (Ne.symm hji)] at hj
            exact getD_set_true (hcl j oj hoj hj e he hb')
        · by_cases hki : k = i
          · subst hki
            rw [hdep _ x k (fun l hl => by have := reach_lt hok k hlt l hl; simp only [show l ≠ k by omega, if_false])]
            simpa using hv
          · rw [getD_set_ne _ (Ne.symm hki)] at hkl
            have hks : k < ops.size := by omega
            have hdk : (V fun l => if l = i then v else x l).getD k VAny = (V x).getD k VAny := hdep _ x k (fun l hl => by
              have hll := listed_reach hok (fun i => listed.getD i false) hcl k _ (Array.getElem?_eq_getElem hks) (hcl k _ (Array.getElem?_eq_getElem hks) hkl) l hl
              have hne : l ≠ i := fun e => by rw [e] at hll; rw [hil'] at hll; cases hll
              simp only [hne, if_false])
            simp only [hki, if_false]
            rw [hdk]
            have hb0 : ∀ j, j < m → k ∈ C.getD j [] → listed.getD j false = false := fun j hj hc => by
              have h1 := hcons j hj hc
              by_cases hji : j = i
              · rw [hji]; exact hil'
              · rwa [getD_set_ne _ (Ne.symm hji)] at h1
            have hkC : k ∉ C.getD i [] := fun hc => by
              have h1 := hcons i him hc
              simp [hsz, hlt] at h1
            have hiR : i ∉ R.getD k [] := fun hik => by
              have := listed_reach hok (fun i => listed.getD i false) hcl k _ (Array.getElem?_eq_getElem hks) (hcl k _ (Array.getElem?_eq_getElem hks) hkl) i hik
              rw [hil'] at this; cases this
            cases he : (C.getD i []).isEmpty
            · replace hb : Rel w w' := by unfold StepR at hb; rw [he] at hb; exact hb
              exact hweak i him he k hk hki hiR hkC x _ _ _ (hV k hk hkl hb0) hb
            · replace hb : Below w.heap.size w w' := by unfold StepR at hb; rw [he] at hb; exact hb
              exact ((V x).getD k VAny).st _ _ _ (hV k hk hkl hb0) hb
      unfold wpOp at hob' ⊢
      simp only [ho] at hob' ⊢
      rw [wanted_same hagree]
      split
      · rename_i hw
        rw [if_pos hw] at hob'
        rcases hob' with h | ⟨_, h⟩
        case inr => exact absurd h NoWay.lets
        refine .inl (Oper.wp_mono ?_ (wp_move (Q := Q) (d := d) (R := fun v w' => ((V x).getD i VAny).p v w' ∧ StepR C Rel i w w') (exec_same hso hagree) hd (by unfold putS; rw [hsz1.1]; exact hdsz)
          (Oper.wp_mono (fun a' w' ⟨v, h1, h2, h3, h4⟩ => ⟨v, h1 d hdst, by unfold putS; rw [hsz1.2]; exact h2, h3, h4⟩) h)))
        rintro a' w' ⟨v, rfl, hv, hb⟩
        exact next v w' hv hb
      · rename_i hw
        rw [if_neg hw] at hob'
        obtain ⟨v, h1, _, h3, h4⟩ := hob'
        have hvu : v = undef := by
          have := h1 d hdst
          rw [hd] at this
          simp [Act.put, putS, hsz1.1, hdsz] at this
          exact this.symm
        rw [hd]
        exact next undef w (hvu ▸ h3) h4
/-- **A region that draws its order**: each of its first m operations is shown once; what is left behind them goes on. -/
theorem wp_tasksR {id m : Nat} {Rel : World → World → Prop} (R C : List (List Nat)) (V : (Nat → Value) → List VP) (S : World → Prop) {a0 : Act} {w : World} (hm : P.follows .mixedOrders = true) (hok : tasksOk ops m a0.tmps.size R = true)
    (hdep : ∀ x x' j, (∀ i ∈ R.getD j [], x i = x' i) → (V x).getD j VAny = (V x').getD j VAny) (hweak : ∀ i, i < m → (C.getD i []).isEmpty = false → ∀ k, k < m → k ≠ i → i ∉ R.getD k [] → k ∉ C.getD i [] → ∀ x v w w', ((V x).getD k VAny).p v w → Rel w w' → ((V x).getD k VAny).p v w') (hS0 : S w.drew) (hSt : ∀ j w w', S w → StepR C Rel j w w' → S w') (hob : ∀ x j, j < m → ObR P ops S R C Rel m V x a0 j)
    (hend : ∀ x w', S w' → (∀ i ∈ endR C m, ((V x).getD i VAny).p (x i) w') → wpAny P .any ops Q (ops.size - m) (listedTo ops.size m) (putS ops x a0 m) w') : (Code.region id ops true).wp P Q a0 w := by
  have hmn := (tasks_spec hok).1
  have hf : ∀ i, (Array.replicate ops.size false).getD i false = false := fun i => by simp [Array.getD]
  have h := tasks_goR (Q := Q) hok hdep hweak hSt hob hend m (List.range m) (Array.replicate ops.size false) w.drew (fun _ => undef) (by simp) List.nodup_range (fun i => by rw [hf]; simp) (by simp) (fun i _ _ => hf i) (fun j o _ hj => by rw [hf] at hj; cases hj) hS0
    (fun i _ hi => by rw [hf] at hi; cases hi)
  refine wp_region_any hm ?_
  rw [show ops.size - m + m = ops.size by omega, putD_congr (ops := ops) _ (fun _ => false) _ (fun _ => undef) a0 m (fun i _ => ⟨hf i, fun _ => rfl⟩)] at h
  have e : ∀ n, putD ops (fun _ => false) (fun _ => undef) a0 n = a0 := fun n => by
    induction n with
    | zero => rfl
    | succ n ih => unfold putD; simpa using ih
  rw [e] at h
  exact h
/-- What is to be shown, operation by operation, in the text's order; the frame goes along. -/
def ObsR (P : Program) (ops : Array Oper) (Q : Exit → Act → World → Prop) (S : World → Prop) (R C : List (List Nat)) (Rel : World → World → Prop) (m : Nat) (V : (Nat → Value) → List VP) (x : Nat → Value) : Nat → Nat → Act → Prop
  | 0, j, a => ∀ w, S w → (∀ i ∈ endR C m, ((V x).getD i VAny).p (x i) w) → wpAny P .any ops Q (ops.size - j) (listedTo ops.size j) a w
  | r + 1, j, a => (∀ w, S w → (∀ i ∈ availR R C m j, ((V x).getD i VAny).p (x i) w) →
      wpOp P ops NoWay j (fun a' w' => ∃ v, (∀ d, dstOf ops j = some d → a'.tmps[d]? = some v) ∧ a'.defers = a.defers ∧ ((V x).getD j VAny).p v w' ∧ StepR C Rel j w w') a w) ∧
    ObsR P ops Q S R C Rel m V x r (j + 1) (a.put (dstOf ops j) (x j))
theorem obs_allR {S : World → Prop} {R C : List (List Nat)} {Rel : World → World → Prop} {m : Nat} {V : (Nat → Value) → List VP} {x : Nat → Value} {a0 : Act} : ∀ (r j : Nat), ObsR P ops Q S R C Rel m V x r j (putS ops x a0 j) →
    (∀ k, j ≤ k → k < j + r → ObR P ops S R C Rel m V x a0 k) ∧ ∀ w, S w → (∀ i ∈ endR C m, ((V x).getD i VAny).p (x i) w) → wpAny P .any ops Q (ops.size - (j + r)) (listedTo ops.size (j + r)) (putS ops x a0 (j + r)) w := by
  intro r
  induction r with
  | zero => intro j h; exact ⟨fun k h1 h2 => by omega, h⟩
  | succ r ih =>
    intro j h
    obtain ⟨h1, h2⟩ := h
    have h2' : ObsR P ops Q S R C Rel m V x r (j + 1) (putS ops x a0 (j + 1)) := h2
    obtain ⟨h3, h4⟩ := ih (j + 1) h2'
    refine ⟨fun k hk1 hk2 => ?_, by rw [show j + (r + 1) = j + 1 + r by omega]; exact h4⟩
    by_cases hk : k = j
    · subst hk
      intro w hS hV
      have h := h1 w hS hV
      rw [show (putS ops x a0 k).defers = a0.defers from (putD_size _ _ _ _).2] at h
      exact h
    · exact h3 k (by omega) (by omega)
theorem wp_obsR {id : Nat} (m : Nat) (Rel : World → World → Prop) (R C : List (List Nat)) (V : (Nat → Value) → List VP) (S : World → Prop) {a0 : Act} {w : World} (hm : P.follows .mixedOrders = true) (hok : tasksOk ops m a0.tmps.size R = true)
    (hdep : ∀ x x' j, (∀ i ∈ R.getD j [], x i = x' i) → (V x).getD j VAny = (V x').getD j VAny) (hweak : ∀ i, i < m → (C.getD i []).isEmpty = false → ∀ k, k < m → k ≠ i → i ∉ R.getD k [] → k ∉ C.getD i [] → ∀ x v w w', ((V x).getD k VAny).p v w → Rel w w' → ((V x).getD k VAny).p v w') (hSt : ∀ j w w', S w → StepR C Rel j w w' → S w') (hS0 : S w.drew) (h : ∀ x, ObsR P ops Q S R C Rel m V x m 0 a0) : (Code.region id ops true).wp P Q a0 w :=
  wp_tasksR (m := m) (Rel := Rel) R C V S hm hok hdep hweak hS0 hSt (fun x j hj => (obs_allR m 0 (h x)).1 j (by omega) (by omega)) (fun x w' hS hV => by
    have := (obs_allR m 0 (h x)).2 w' hS (hV)
    rwa [Nat.zero_add] at this)
theorem obs_stepR {S : World → Prop} {R C : List (List Nat)} {Rel : World → World → Prop} {m : Nat} {V : (Nat → Value) → List VP} {x : Nat → Value} {r j : Nat} {a : Act} {o : Oper} {d : Tmp} (ho : ops[j]? = some o) (hd : o.dst = some d)
    (h : ∀ w, S w → (∀ i ∈ availR R C m j, ((V x).getD i VAny).p (x i) w) → ∀ K : Act → World → Prop, Shut (∀ a' w' v, a'.tmps[d]? = some v → a'.defers = a.defers → ((V x).getD j VAny).p v w' → StepR C Rel j w w' → K a' w') →
      if Region.wanted o (yielded ops a.tmps) = true then Oper.wp P o a w K NoWay else K (a.put o.dst undef) w)
    (hr : ObsR P ops Q S R C Rel m V x r (j + 1) { a with tmps := a.tmps.setIfInBounds d (x j) }) : ObsR P ops Q S R C Rel m V x (r + 1) j a := by
  have hdst : dstOf ops j = some d := by simp [dstOf, ho, hd]
  refine ⟨fun w hS hV => wpOp_step ho (fun K hK => ?_), by rw [hdst]; exact hr⟩
  exact h w hS hV K (fun a' w' v h1 h2 h3 h4 => hK a' w' ⟨v, fun d' hd' => by rw [hdst] at hd'; injection hd' with hd'; exact hd' ▸ h1, h2, h3, h4⟩)
/-- Those that bear an append in place: their values are plain. -/
theorem weak_ofR {m : Nat} {Rel : World → World → Prop} {R C : List (List Nat)} {V : (Nat → Value) → List VP} (Wk : List Nat)
    (hchk : ((List.range m).all fun i => (C.getD i []).isEmpty || (List.range m).all fun k => k == i || (R.getD k []).contains i || (C.getD i []).contains k || Wk.contains k) = true)
    (hW : ∀ k ∈ Wk, ∀ x v w w', ((V x).getD k VAny).p v w → Rel w w' → ((V x).getD k VAny).p v w') :
    ∀ i, i < m → (C.getD i []).isEmpty = false → ∀ k, k < m → k ≠ i → i ∉ R.getD k [] → k ∉ C.getD i [] → ∀ x v w w', ((V x).getD k VAny).p v w → Rel w w' → ((V x).getD k VAny).p v w' := by
  intro i hi he k hk hne hR hC x v w w' hp hrel
  have h1 := List.all_eq_true.1 hchk i (List.mem_range.2 hi)
  rw [he, Bool.false_or] at h1
  have h2 := List.all_eq_true.1 h1 k (List.mem_range.2 hk)
  rw [Bool.or_eq_true, Bool.or_eq_true, Bool.or_eq_true, beq_iff_eq, List.contains_iff_mem, List.contains_iff_mem, List.contains_iff_mem] at h2
  rcases h2 with ((h2 | h2) | h2) | h2
  · exact absurd h2 hne
  · exact absurd h2 hR
  · exact absurd h2 hC
  · exact hW k h2 x v w w' hp hrel
end
end Go.Proofs.YticofgmmjecleaaGreatDoor
namespace Go.Proofs.YticofgmmjecleaaGreatDoor
open Go.RowKit
theorem and_small (x : Int) : 0 ≤ bits BinOp.and IntKind.u64 x 16777215 ∧ bits BinOp.and IntKind.u64 x 16777215 ≤ 16777215 := by
  unfold bits
  simp only
  have h : (BitVec.ofInt IntKind.u64.bits x &&& BitVec.ofInt IntKind.u64.bits 16777215).toNat ≤ 16777215 := by
    rw [BitVec.toNat_and]
    exact Nat.le_trans Nat.and_le_right (by decide)
  obtain ⟨r, hr⟩ : ∃ r, r = (BitVec.ofInt IntKind.u64.bits x &&& BitVec.ofInt IntKind.u64.bits 16777215).toNat := ⟨_, rfl⟩
  rw [← hr] at h ⊢
  have e : IntKind.u64.wrap ((r : Nat) : Int) = (r : Int) := by
    have e1 : IntKind.u64.wrap ((r : Nat) : Int) = ((r : Nat) : Int) % 18446744073709551616 := rfl
    rw [e1]; omega
  rw [e]
  omega
/-- A source: a code, a place in it, a number. -/
def Src (w : World) (g : Nat) (T : TypeId) : Prop := ∃ (B : Option Addr) (nb cb : Nat) (bs : List Int) (pl : Nat) (h : Int), Blk w g T #[.slice B nb cb, .int .i64 pl, .int .u64 h] ∧ Rd w B nb (bs.map (Value.int .u8)) ∧ (∀ b ∈ bs, 0 ≤ b ∧ b < 256) ∧ pl ≤ nb ∧ nb ≤ 4096 ∧ ∀ a, B = some a → a.block < g
/-- What drawing leaves as it was: all but the source's own block. -/
structure Dr (g : Nat) (T : TypeId) (w w' : World) : Prop where
  s : Src w g T
  s' : Src w' g T
  b : Below g w w'
  k : ∀ k, k < w.heap.size → k ≠ g → w'.heap[k]? = w.heap[k]?
theorem Blk.three {w : World} {g : Nat} {t : TypeId} {a b c : Value} (h : Blk w g t #[a, b, c]) : w.cell? ⟨g, 0, none⟩ = some a ∧ w.cell? ⟨g, 1, none⟩ = some b ∧ w.cell? ⟨g, 2, none⟩ = some c := ⟨h.cell 0, h.cell 1, h.cell 2⟩
theorem Src.lt {w : World} {g : Nat} {T : TypeId} (h : Src w g T) : g < w.heap.size := by obtain ⟨B, nb, cb, bs, pl, x, k, _⟩ := h; exact k.lt
theorem Src.keep {w w' : World} {g : Nat} {T : TypeId} (h : Src w g T) (hk : w'.heap[g]? = w.heap[g]?) (hb : Below g w w') : Src w' g T := by
  obtain ⟨B, nb, cb, bs, pl, x, k, r, h1, h2, h3, h4⟩ := h
  refine ⟨B, nb, cb, bs, pl, x, hk.trans k, ⟨r.1, fun hn0 => ?_⟩, h1, h2, h3, h4⟩
  obtain ⟨gb, ob, e, hc⟩ := r.2 hn0
  exact ⟨gb, ob, e, fun j u hu => (hb.cell (show gb < g from h4 _ e)).trans (hc j u hu)⟩
theorem Src.below {w w' : World} {g : Nat} {T : TypeId} (h : Src w g T) (hb : Below w.heap.size w w') : Src w' g T := by
  obtain ⟨B, nb, cb, bs, pl, x, k, r, rest⟩ := h
  exact ⟨B, nb, cb, bs, pl, x, k.below hb k.lt, r.below hb, rest⟩
theorem Dr.refl {w : World} {g : Nat} {T : TypeId} (h : Src w g T) : Dr g T w w := ⟨h, h, Below.refl _ _, fun _ _ _ => rfl⟩
theorem Dr.of_below {w w' : World} {g : Nat} {T : TypeId} (h : Src w g T) (hb : Below w.heap.size w w') : Dr g T w w' := ⟨h, h.below hb, hb.mono (Nat.le_of_lt h.lt), fun k hk _ => hb.block k hk⟩
theorem Dr.trans {w w1 w2 : World} {g : Nat} {T : TypeId} (h : Dr g T w w1) (h' : Dr g T w1 w2) : Dr g T w w2 :=
  ⟨h.s, h'.s', h.b.trans h'.b, fun k hk hne => (h'.k k (Nat.lt_of_lt_of_le hk h.b.size) hne).trans (h.k k hk hne)⟩
theorem Dr.size {w w' : World} {g : Nat} {T : TypeId} (h : Dr g T w w') : w.heap.size ≤ w'.heap.size := h.b.size
theorem Dr.down {w0 w w' : World} {g : Nat} {T : TypeId} (h : Dr g T w w') (hb : Below w0.heap.size w0 w) (hg : w0.heap.size ≤ g) : Below w0.heap.size w0 w' := hb.trans (h.b.mono hg)
theorem Blk.dr {w w' : World} {g g' : Nat} {T t : TypeId} {cs : Array Value} (h : Blk w g' t cs) (d : Dr g T w w') (hne : t ≠ T) : Blk w' g' t cs := by
  refine (d.k g' h.lt fun e => ?_).trans h
  subst e
  obtain ⟨B, nb, cb, bs, pl, x, k, _⟩ := d.s
  unfold Blk at h k
  rw [h] at k
  injection k with k
  injection k with _ e
  exact hne e
theorem Own.dr {w w' : World} {g : Nat} {T E : TypeId} {B : Nat} {A : Option Addr} {n c : Nat} {us : List Value} (h : Own w B E A n c us) (d : Dr g T w w') (hne : E ≠ T) : Own w' B E A n c us := by
  obtain ⟨B', nb, cb, bs, pl, x, k, _⟩ := d.s
  have hn := h.ne_blk k hne
  refine ⟨h.1, ?_⟩
  rcases h.2 with hz | ⟨g', cap, cur, he, hB, hg, r⟩
  · exact .inl hz
  · refine .inr ⟨g', cap, cur, he, hB, (d.k g' (Array.getElem?_eq_some_iff.1 hg).1 fun e => hn ?_).trans hg, r⟩
    rw [he, ← e]; rfl
theorem Dr.set {w : World} {g : Nat} {T : TypeId} {B : Option Addr} {nb cb : Nat} {bs : List Int} {pl pl' : Nat} {h h' : Int} (k : Blk w g T #[.slice B nb cb, .int .i64 pl, .int .u64 h]) (r : Rd w B nb (bs.map (Value.int .u8))) (hbs : ∀ b ∈ bs, 0 ≤ b ∧ b < 256) (hpl : pl ≤ nb) (hnb : nb ≤ 4096) (hbg : ∀ a, B = some a → a.block < g)
    (i : Nat) (u : Value) (e : (#[.slice B nb cb, .int .i64 pl, .int .u64 h] : Array Value).setIfInBounds i u = #[.slice B nb cb, .int .i64 pl', .int .u64 h']) (hpl' : pl' ≤ nb) :
    Dr g T w (w.setCell ⟨g, i, none⟩ u) ∧ Blk (w.setCell ⟨g, i, none⟩ u) g T #[.slice B nb cb, .int .i64 pl', .int .u64 h'] ∧ Rd (w.setCell ⟨g, i, none⟩ u) B nb (bs.map (Value.int .u8)) := by
  have k1 := k.set_ i u
  rw [e] at k1
  have hfar : ∀ b, b ≠ g → (w.setCell ⟨g, i, none⟩ u).heap[b]? = w.heap[b]? := fun b hb => Below.heap_setCell w ⟨g, i, none⟩ _ b hb
  have hr : Rd (w.setCell ⟨g, i, none⟩ u) B nb (bs.map (Value.int .u8)) := ⟨r.1, fun hn0 => by
    obtain ⟨gb, ob, e, hc⟩ := r.2 hn0
    refine ⟨gb, ob, e, fun j u hu => ?_⟩
    have hcj := hc j u hu
    have hlt := hbg _ e
    exact (World.cell?_of_block (hfar gb (fun e => by simp at hlt; omega))).trans hcj⟩
  exact ⟨⟨⟨B, nb, cb, bs, pl, h, k, r, hbs, hpl, hnb, hbg⟩, ⟨B, nb, cb, bs, pl', h', k1, hr, hbs, hpl', hnb, hbg⟩, (Below.refl _ _).setCell (p := ⟨g, i, none⟩) (Nat.le_refl _) _, fun b _ hb => hfar b hb⟩, k1, hr⟩
theorem Dr.alloc {w w' : World} {g : Nat} {T : TypeId} (h : Dr g T w w') (o : Obj) : Dr g T w (w'.alloc o) := h.trans (Dr.of_below h.s' ((Below.refl _ _).alloc (Nat.le_refl _) o))
theorem Dr.then {w w1 w2 : World} {g : Nat} {T : TypeId} (h : Dr g T w w1) (hb : Below w1.heap.size w1 w2) : Dr g T w w2 := h.trans (Dr.of_below h.s' hb)
/-- A row made since then grows. -/
theorem Dr.grown {w wr w' : World} {g : Nat} {T E : TypeId} {A : Option Addr} {n c : Nat} {us : List Value} (d : Dr g T w wr) (o : Own wr w.heap.size E A n c us) (hg : wr.grownBy w' (Value.slice A n c).ownBlock) : Dr g T w w' := by
  have hlt := d.s.lt
  have hrow : ∀ k, (Value.slice A n c).ownBlock = some k → w.heap.size ≤ k := fun k hk => (World.ownsRow.lt o k hk).1
  have hb : Below g wr w' := (Below.refl g wr).grown hg (Nat.le_of_lt (Nat.lt_of_lt_of_le hlt d.size)) fun k hk => Nat.le_trans (Nat.le_of_lt hlt) (hrow k hk)
  exact ⟨d.s, d.s'.keep (hg.block g (Nat.lt_of_lt_of_le hlt d.size) fun e => by have := hrow g e.symm; omega) hb, d.b.trans hb,
    fun k hk hne => (hg.block k (Nat.lt_of_lt_of_le hk d.size) fun e => by have := hrow k e.symm; omega).trans (d.k k hk hne)⟩
set_option maxHeartbeats 1600000 in
set_option maxRecDepth 8000 in
theorem next_any (g : Nat) (n : Int) (w : World) (hs : Src w g 121) (hn : n ≤ 4611686018427387904) :
    Calls Tryz.prog 72 #[.pointer (some ⟨g, 0, none⟩), .int .i64 n] w fun e w' => ∃ r : Int, e = .returned (.int .i64 r) ∧ 0 ≤ r ∧ (1 ≤ n → r < n) ∧ Dr g 121 w w' := by
  by_cases h1 : n < 1
  · have d1 : decide (n < 1) = true := by simpa using h1
    go_enter Tryz.func72, Tryz.ntmps72
    go_wp2
    go_ret
    exact ⟨0, rfl, by omega, fun h => by omega, Dr.refl hs⟩
  · have d1 : decide (n < 1) = false := by simpa using h1
    obtain ⟨B, nb, cb, bs, pl, h, k, r, hbs, hpl, hnb, hbg⟩ := id hs
    have q0 : w.cell? ⟨g, 0, none⟩ = some (.slice B nb cb) := k.cell 0
    have q1 : w.cell? ⟨g, 1, none⟩ = some (.int .i64 pl) := k.cell 1
    have q2 : w.cell? ⟨g, 2, none⟩ = some (.int .u64 h) := k.cell 2
    have f2 := k.frozen 2
    go_enter Tryz.func72, Tryz.ntmps72
    go_wp2
    obtain ⟨H, hH⟩ : ∃ H, H = IntKind.u64.wrap (IntKind.u64.wrap (h * 6364136223846793005) + 1442695040888963407) := ⟨_, rfl⟩
    rw [← hH]
    have hsm := and_small (H / 8589934592)
    obtain ⟨X, hX⟩ : ∃ X, X = bits BinOp.and IntKind.u64 (H / 8589934592) 16777215 := ⟨_, rfl⟩
    rw [← hX] at hsm ⊢
    have W1 : wrap64 X = X := by unfold wrap64; omega
    rw [W1]
    obtain ⟨x1, x2⟩ := hsm
    obtain ⟨hd1, k1, r1⟩ := Dr.set k r hbs hpl hnb hbg 2 (.int .u64 H) (pl' := pl) (h' := H) (by simp) hpl
    clear q0 q1 q2 f2 hX
    obtain ⟨w1, hw1⟩ : ∃ W, W = w.setCell ⟨g, 2, none⟩ (.int .u64 H) := ⟨_, rfl⟩
    rw [← hw1] at k1 r1 hd1 ⊢
    have hN0 : (n == 0) = false := by simp; omega
    have hN1 : (n == -1) = false := by simp; omega
    have hN2 : ¬ n = 0 := by omega
    have HD := Lib.hid hd1
    have HBS := Lib.hid hbs
    have HBG := Lib.hid hbg
    have HR1 := Lib.hid r1
    clear hw1 hH hd1 r k hbg
    by_cases hpn : pl < nb
    · have dl : decide ((pl : Int) < (nb : Int)) = true := by simp; omega
      obtain ⟨gb, ob, rfl, hc⟩ := r1.2 (by omega)
      have hbl : pl < bs.length := by have := r1.1; rw [List.length_map] at this; omega
      have hcb := hc pl (.int .u8 bs[pl]) (by simp [hbl])
      obtain ⟨b1, b2⟩ := hbs _ (List.getElem_mem hbl)
      obtain ⟨bb, hbb⟩ : ∃ x, x = bs[pl] := ⟨_, rfl⟩
      rw [← hbb] at hcb b1 b2
      have i1 : (0 : Int) ≤ (pl : Int) := by omega
      have i2 : (pl : Int) < (nb : Int) := by omega
      have W2 : IntKind.i64.wrap bb = bb := by rw [IntWalk.i64_left]; unfold wrap64; omega
      have W4 : IntKind.i64.wrap (X + bb) = X + bb := by rw [IntWalk.i64_left]; unfold wrap64; omega
      have W5 : wrap64 ((pl : Int) + 1) = ((pl + 1 : Nat) : Int) := by unfold wrap64; omega
      have T1 := Int.tmod_eq_emod_of_nonneg (b := n) (show 0 ≤ X + bb by omega)
      clear hc hbs hbb r1
      go_wp2
      refine wp_obs 10 [[], [0], [0, 1], [0, 1, 2], [], [4], [4, 5], [4, 5, 6], [4, 5, 6, 7], [0, 1, 2, 3, 4, 5, 6, 7, 8]] [VIs (.pointer (some ⟨g, 0, none⟩)), VIs (.pointer (some ⟨g, 0, none⟩)), VIs (.pointer (some ⟨g, 1, none⟩)), VIs (.int .i64 (pl)), VIs (.pointer (some ⟨g, 0, none⟩)), VIs (.pointer (some ⟨g, 0, none⟩)), VIs (.pointer (some ⟨g, 0, none⟩)), VIs (.slice (some ⟨gb, ob, none⟩) nb cb), VIs (.int .i64 (nb)), VIs (.bool true)] (fun w' => Blk w' g 121 #[.slice (some ⟨gb, ob, none⟩) nb cb, .int .i64 pl, .int .u64 H] ∧ w'.cell? ⟨gb, ob + pl, none⟩ = some (.int .u8 bb) ∧ Below w1.heap.size w1 w') (by kernel_rfl) (by kernel_rfl) (fun _ _ h hb => ⟨h.1.below hb h.1.lt, (hb.cell (World.block_lt_of_cell? _ _ h.2.1)).trans h.2.1, h.2.2.trans (hb.mono h.2.2.size)⟩) (⟨k1.drew, hcb, (Below.refl _ _).drew⟩) (fun x => ?_)
      refine obs_step (Eq.trans (by simp only [List.getElem?_toArray, List.getElem?_cons_zero]; exact rfl) rfl) rfl (fun w' hS hV K hK => ?_) ?_
      · obtain ⟨q0, q1, q2⟩ := hS.1.three; have qb := hS.2.1
        go_simp
        exact hK.out _ _ _ rfl rfl rfl (Below.refl _ _)
      simp only [List.setIfInBounds_toArray, List.set_cons_zero, List.set_cons_succ]
      refine obs_step (Eq.trans (by simp only [List.getElem?_toArray, List.getElem?_cons_succ, List.getElem?_cons_zero]; exact rfl) rfl) rfl (fun w' hS hV K hK => ?_) ?_
      · have e0 : x 0 = (.pointer (some ⟨g, 0, none⟩)) := hV 0 (by decide)
        obtain ⟨q0, q1, q2⟩ := hS.1.three; have qb := hS.2.1
        go_simp
        exact hK.out _ _ _ rfl rfl rfl (Below.refl _ _)
      simp only [List.setIfInBounds_toArray, List.set_cons_zero, List.set_cons_succ]
      refine obs_step (Eq.trans (by simp only [List.getElem?_toArray, List.getElem?_cons_succ, List.getElem?_cons_zero]; exact rfl) rfl) rfl (fun w' hS hV K hK => ?_) ?_
      · have e0 : x 0 = (.pointer (some ⟨g, 0, none⟩)) := hV 0 (by decide)
        have e1 : x 1 = (.pointer (some ⟨g, 0, none⟩)) := hV 1 (by decide)
        obtain ⟨q0, q1, q2⟩ := hS.1.three; have qb := hS.2.1
        go_simp
        exact hK.out _ _ _ rfl rfl rfl (Below.refl _ _)
      simp only [List.setIfInBounds_toArray, List.set_cons_zero, List.set_cons_succ]
      refine obs_step (Eq.trans (by simp only [List.getElem?_toArray, List.getElem?_cons_succ, List.getElem?_cons_zero]; exact rfl) rfl) rfl (fun w' hS hV K hK => ?_) ?_
      · have e0 : x 0 = (.pointer (some ⟨g, 0, none⟩)) := hV 0 (by decide)
        have e1 : x 1 = (.pointer (some ⟨g, 0, none⟩)) := hV 1 (by decide)
        have e2 : x 2 = (.pointer (some ⟨g, 1, none⟩)) := hV 2 (by decide)
        obtain ⟨q0, q1, q2⟩ := hS.1.three; have qb := hS.2.1
        go_simp
        exact hK.out _ _ _ rfl rfl rfl (Below.refl _ _)
      simp only [List.setIfInBounds_toArray, List.set_cons_zero, List.set_cons_succ]
      refine obs_step (Eq.trans (by simp only [List.getElem?_toArray, List.getElem?_cons_succ, List.getElem?_cons_zero]; exact rfl) rfl) rfl (fun w' hS hV K hK => ?_) ?_
      · obtain ⟨q0, q1, q2⟩ := hS.1.three; have qb := hS.2.1
        go_simp
        exact hK.out _ _ _ rfl rfl rfl (Below.refl _ _)
      simp only [List.setIfInBounds_toArray, List.set_cons_zero, List.set_cons_succ]
      refine obs_step (Eq.trans (by simp only [List.getElem?_toArray, List.getElem?_cons_succ, List.getElem?_cons_zero]; exact rfl) rfl) rfl (fun w' hS hV K hK => ?_) ?_
      · have e4 : x 4 = (.pointer (some ⟨g, 0, none⟩)) := hV 4 (by decide)
        obtain ⟨q0, q1, q2⟩ := hS.1.three; have qb := hS.2.1
        go_simp
        exact hK.out _ _ _ rfl rfl rfl (Below.refl _ _)
      simp only [List.setIfInBounds_toArray, List.set_cons_zero, List.set_cons_succ]
      refine obs_step (Eq.trans (by simp only [List.getElem?_toArray, List.getElem?_cons_succ, List.getElem?_cons_zero]; exact rfl) rfl) rfl (fun w' hS hV K hK => ?_) ?_
      · have e4 : x 4 = (.pointer (some ⟨g, 0, none⟩)) := hV 4 (by decide)
        have e5 : x 5 = (.pointer (some ⟨g, 0, none⟩)) := hV 5 (by decide)
        obtain ⟨q0, q1, q2⟩ := hS.1.three; have qb := hS.2.1
        go_simp
        exact hK.out _ _ _ rfl rfl rfl (Below.refl _ _)
      simp only [List.setIfInBounds_toArray, List.set_cons_zero, List.set_cons_succ]
      refine obs_step (Eq.trans (by simp only [List.getElem?_toArray, List.getElem?_cons_succ, List.getElem?_cons_zero]; exact rfl) rfl) rfl (fun w' hS hV K hK => ?_) ?_
      · have e4 : x 4 = (.pointer (some ⟨g, 0, none⟩)) := hV 4 (by decide)
        have e5 : x 5 = (.pointer (some ⟨g, 0, none⟩)) := hV 5 (by decide)
        have e6 : x 6 = (.pointer (some ⟨g, 0, none⟩)) := hV 6 (by decide)
        obtain ⟨q0, q1, q2⟩ := hS.1.three; have qb := hS.2.1
        go_simp
        exact hK.out _ _ _ rfl rfl rfl (Below.refl _ _)
      simp only [List.setIfInBounds_toArray, List.set_cons_zero, List.set_cons_succ]
      refine obs_step (Eq.trans (by simp only [List.getElem?_toArray, List.getElem?_cons_succ, List.getElem?_cons_zero]; exact rfl) rfl) rfl (fun w' hS hV K hK => ?_) ?_
      · have e4 : x 4 = (.pointer (some ⟨g, 0, none⟩)) := hV 4 (by decide)
        have e5 : x 5 = (.pointer (some ⟨g, 0, none⟩)) := hV 5 (by decide)
        have e6 : x 6 = (.pointer (some ⟨g, 0, none⟩)) := hV 6 (by decide)
        have e7 : x 7 = (.slice (some ⟨gb, ob, none⟩) nb cb) := hV 7 (by decide)
        obtain ⟨q0, q1, q2⟩ := hS.1.three; have qb := hS.2.1
        go_simp
        exact hK.out _ _ _ rfl rfl rfl (Below.refl _ _)
      simp only [List.setIfInBounds_toArray, List.set_cons_zero, List.set_cons_succ]
      refine obs_step (Eq.trans (by simp only [List.getElem?_toArray, List.getElem?_cons_succ, List.getElem?_cons_zero]; exact rfl) rfl) rfl (fun w' hS hV K hK => ?_) ?_
      · have e0 : x 0 = (.pointer (some ⟨g, 0, none⟩)) := hV 0 (by decide)
        have e1 : x 1 = (.pointer (some ⟨g, 0, none⟩)) := hV 1 (by decide)
        have e2 : x 2 = (.pointer (some ⟨g, 1, none⟩)) := hV 2 (by decide)
        have e3 : x 3 = (.int .i64 (pl)) := hV 3 (by decide)
        have e4 : x 4 = (.pointer (some ⟨g, 0, none⟩)) := hV 4 (by decide)
        have e5 : x 5 = (.pointer (some ⟨g, 0, none⟩)) := hV 5 (by decide)
        have e6 : x 6 = (.pointer (some ⟨g, 0, none⟩)) := hV 6 (by decide)
        have e7 : x 7 = (.slice (some ⟨gb, ob, none⟩) nb cb) := hV 7 (by decide)
        have e8 : x 8 = (.int .i64 (nb)) := hV 8 (by decide)
        obtain ⟨q0, q1, q2⟩ := hS.1.three; have qb := hS.2.1
        go_simp
        exact hK.out _ _ _ rfl rfl rfl (Below.refl _ _)
      simp only [List.setIfInBounds_toArray, List.set_cons_zero, List.set_cons_succ]
      refine fun w' hS hV => ?_
      have e0 : x 0 = (.pointer (some ⟨g, 0, none⟩)) := hV 0 (by decide)
      have e1 : x 1 = (.pointer (some ⟨g, 0, none⟩)) := hV 1 (by decide)
      have e2 : x 2 = (.pointer (some ⟨g, 1, none⟩)) := hV 2 (by decide)
      have e3 : x 3 = (.int .i64 (pl)) := hV 3 (by decide)
      have e4 : x 4 = (.pointer (some ⟨g, 0, none⟩)) := hV 4 (by decide)
      have e5 : x 5 = (.pointer (some ⟨g, 0, none⟩)) := hV 5 (by decide)
      have e6 : x 6 = (.pointer (some ⟨g, 0, none⟩)) := hV 6 (by decide)
      have e7 : x 7 = (.slice (some ⟨gb, ob, none⟩) nb cb) := hV 7 (by decide)
      have e8 : x 8 = (.int .i64 (nb)) := hV 8 (by decide)
      have e9 : x 9 = (.bool true) := hV 9 (by decide)
      simp only [e0, e1, e2, e3, e4, e5, e6, e7, e8, e9]
      clear e0 e1 e2 e3 e4 e5 e6 e7 e8 e9
      refine wpAny_done (by kernel_rfl) ?_ _
      obtain ⟨w2, rfl⟩ : ∃ W, W = w' := ⟨_, rfl⟩
      obtain ⟨k2, hcb2, hb2⟩ := hS
      have HR2 := Lib.hid (HR1.out.below hb2)
      have HD2 := Lib.hid (HD.out.trans (Dr.of_below HD.out.s' hb2))
      clear k1 hcb hb2
      go_wp2
      refine wp_obs 13 [[], [], [1], [1, 2], [1, 2, 3], [], [5], [5, 6], [5, 6, 7], [1, 2, 3, 4, 5, 6, 7, 8], [1, 2, 3, 4, 5, 6, 7, 8, 9], [1, 2, 3, 4, 5, 6, 7, 8, 9, 10], [0, 1, 2, 3, 4, 5, 6, 7, 8, 9, 10, 11], [0, 1, 2, 3, 4, 5, 6, 7, 8, 9, 10, 11, 12]] [VIs (.int .i64 (X)), VIs (.pointer (some ⟨g, 0, none⟩)), VIs (.pointer (some ⟨g, 0, none⟩)), VIs (.pointer (some ⟨g, 0, none⟩)), VIs (.slice (some ⟨gb, ob, none⟩) nb cb), VIs (.pointer (some ⟨g, 0, none⟩)), VIs (.pointer (some ⟨g, 0, none⟩)), VIs (.pointer (some ⟨g, 1, none⟩)), VIs (.int .i64 (pl)), VIs (.pointer (some ⟨gb, ob + pl, none⟩)), VIs (.int .u8 bb), VIs (.int .i64 (bb)), VIs (.int .i64 (X + bb))] (fun w' => Blk w' g 121 #[.slice (some ⟨gb, ob, none⟩) nb cb, .int .i64 pl, .int .u64 H] ∧ w'.cell? ⟨gb, ob + pl, none⟩ = some (.int .u8 bb) ∧ Below w2.heap.size w2 w') (by kernel_rfl) (by kernel_rfl) (fun _ _ h hb => ⟨h.1.below hb h.1.lt, (hb.cell (World.block_lt_of_cell? _ _ h.2.1)).trans h.2.1, h.2.2.trans (hb.mono h.2.2.size)⟩) (⟨k2.drew, hcb2, (Below.refl _ _).drew⟩) (fun x => ?_)
      refine obs_step (Eq.trans (by simp only [List.getElem?_toArray, List.getElem?_cons_zero]; exact rfl) rfl) rfl (fun w' hS hV K hK => ?_) ?_
      · obtain ⟨q0, q1, q2⟩ := hS.1.three; have qb := hS.2.1
        go_simp
        exact hK.out _ _ _ rfl rfl rfl (Below.refl _ _)
      simp only [List.setIfInBounds_toArray, List.set_cons_zero, List.set_cons_succ]
      refine obs_step (Eq.trans (by simp only [List.getElem?_toArray, List.getElem?_cons_succ, List.getElem?_cons_zero]; exact rfl) rfl) rfl (fun w' hS hV K hK => ?_) ?_
      · obtain ⟨q0, q1, q2⟩ := hS.1.three; have qb := hS.2.1
        go_simp
        exact hK.out _ _ _ rfl rfl rfl (Below.refl _ _)
      simp only [List.setIfInBounds_toArray, List.set_cons_zero, List.set_cons_succ]
      refine obs_step (Eq.trans (by simp only [List.getElem?_toArray, List.getElem?_cons_succ, List.getElem?_cons_zero]; exact rfl) rfl) rfl (fun w' hS hV K hK => ?_) ?_
      · have e1 : x 1 = (.pointer (some ⟨g, 0, none⟩)) := hV 1 (by decide)
        obtain ⟨q0, q1, q2⟩ := hS.1.three; have qb := hS.2.1
        go_simp
        exact hK.out _ _ _ rfl rfl rfl (Below.refl _ _)
      simp only [List.setIfInBounds_toArray, List.set_cons_zero, List.set_cons_succ]
      refine obs_step (Eq.trans (by simp only [List.getElem?_toArray, List.getElem?_cons_succ, List.getElem?_cons_zero]; exact rfl) rfl) rfl (fun w' hS hV K hK => ?_) ?_
      · have e1 : x 1 = (.pointer (some ⟨g, 0, none⟩)) := hV 1 (by decide)
        have e2 : x 2 = (.pointer (some ⟨g, 0, none⟩)) := hV 2 (by decide)
        obtain ⟨q0, q1, q2⟩ := hS.1.three; have qb := hS.2.1
        go_simp
        exact hK.out _ _ _ rfl rfl rfl (Below.refl _ _)
      simp only [List.setIfInBounds_toArray, List.set_cons_zero, List.set_cons_succ]
      refine obs_step (Eq.trans (by simp only [List.getElem?_toArray, List.getElem?_cons_succ, List.getElem?_cons_zero]; exact rfl) rfl) rfl (fun w' hS hV K hK => ?_) ?_
      · have e1 : x 1 = (.pointer (some ⟨g, 0, none⟩)) := hV 1 (by decide)
        have e2 : x 2 = (.pointer (some ⟨g, 0, none⟩)) := hV 2 (by decide)
        have e3 : x 3 = (.pointer (some ⟨g, 0, none⟩)) := hV 3 (by decide)
        obtain ⟨q0, q1, q2⟩ := hS.1.three; have qb := hS.2.1
        go_simp
        exact hK.out _ _ _ rfl rfl rfl (Below.refl _ _)
      simp only [List.setIfInBounds_toArray, List.set_cons_zero, List.set_cons_succ]
      refine obs_step (Eq.trans (by simp only [List.getElem?_toArray, List.getElem?_cons_succ, List.getElem?_cons_zero]; exact rfl) rfl) rfl (fun w' hS hV K hK => ?_) ?_
      · obtain ⟨q0, q1, q2⟩ := hS.1.three; have qb := hS.2.1
        go_simp
        exact hK.out _ _ _ rfl rfl rfl (Below.refl _ _)
      simp only [List.setIfInBounds_toArray, List.set_cons_zero, List.set_cons_succ]
      refine obs_step (Eq.trans (by simp only [List.getElem?_toArray, List.getElem?_cons_succ, List.getElem?_cons_zero]; exact rfl) rfl) rfl (fun w' hS hV K hK => ?_) ?_
      · have e5 : x 5 = (.pointer (some ⟨g, 0, none⟩)) := hV 5 (by decide)
        obtain ⟨q0, q1, q2⟩ := hS.1.three; have qb := hS.2.1
        go_simp
        exact hK.out _ _ _ rfl rfl rfl (Below.refl _ _)
      simp only [List.setIfInBounds_toArray, List.set_cons_zero, List.set_cons_succ]
      refine obs_step (Eq.trans (by simp only [List.getElem?_toArray, List.getElem?_cons_succ, List.getElem?_cons_zero]; exact rfl) rfl) rfl (fun w' hS hV K hK => ?_) ?_
      · have e5 : x 5 = (.pointer (some ⟨g, 0, none⟩)) := hV 5 (by decide)
        have e6 : x 6 = (.pointer (some ⟨g, 0, none⟩)) := hV 6 (by decide)
        obtain ⟨q0, q1, q2⟩ := hS.1.three; have qb := hS.2.1
        go_simp
        exact hK.out _ _ _ rfl rfl rfl (Below.refl _ _)
      simp only [List.setIfInBounds_toArray, List.set_cons_zero, List.set_cons_succ]
      refine obs_step (Eq.trans (by simp only [List.getElem?_toArray, List.getElem?_cons_succ, List.getElem?_cons_zero]; exact rfl) rfl) rfl (fun w' hS hV K hK => ?_) ?_
      · have e5 : x 5 = (.pointer (some ⟨g, 0, none⟩)) := hV 5 (by decide)
        have e6 : x 6 = (.pointer (some ⟨g, 0, none⟩)) := hV 6 (by decide)
        have e7 : x 7 = (.pointer (some ⟨g, 1, none⟩)) := hV 7 (by decide)
        obtain ⟨q0, q1, q2⟩ := hS.1.three; have qb := hS.2.1
        go_simp
        exact hK.out _ _ _ rfl rfl rfl (Below.refl _ _)
      simp only [List.setIfInBounds_toArray, List.set_cons_zero, List.set_cons_succ]
      refine obs_step (Eq.trans (by simp only [List.getElem?_toArray, List.getElem?_cons_succ, List.getElem?_cons_zero]; exact rfl) rfl) rfl (fun w' hS hV K hK => ?_) ?_
      · have e1 : x 1 = (.pointer (some ⟨g, 0, none⟩)) := hV 1 (by decide)
        have e2 : x 2 = (.pointer (some ⟨g, 0, none⟩)) := hV 2 (by decide)
        have e3 : x 3 = (.pointer (some ⟨g, 0, none⟩)) := hV 3 (by decide)
        have e4 : x 4 = (.slice (some ⟨gb, ob, none⟩) nb cb) := hV 4 (by decide)
        have e5 : x 5 = (.pointer (some ⟨g, 0, none⟩)) := hV 5 (by decide)
        have e6 : x 6 = (.pointer (some ⟨g, 0, none⟩)) := hV 6 (by decide)
        have e7 : x 7 = (.pointer (some ⟨g, 1, none⟩)) := hV 7 (by decide)
        have e8 : x 8 = (.int .i64 (pl)) := hV 8 (by decide)
        obtain ⟨q0, q1, q2⟩ := hS.1.three; have qb := hS.2.1
        go_simp
        exact hK.out _ _ _ rfl rfl rfl (Below.refl _ _)
      simp only [List.setIfInBounds_toArray, List.set_cons_zero, List.set_cons_succ]
      refine obs_step (Eq.trans (by simp only [List.getElem?_toArray, List.getElem?_cons_succ, List.getElem?_cons_zero]; exact rfl) rfl) rfl (fun w' hS hV K hK => ?_) ?_
      · have e1 : x 1 = (.pointer (some ⟨g, 0, none⟩)) := hV 1 (by decide)
        have e2 : x 2 = (.pointer (some ⟨g, 0, none⟩)) := hV 2 (by decide)
        have e3 : x 3 = (.pointer (some ⟨g, 0, none⟩)) := hV 3 (by decide)
        have e4 : x 4 = (.slice (some ⟨gb, ob, none⟩) nb cb) := hV 4 (by decide)
        have e5 : x 5 = (.pointer (some ⟨g, 0, none⟩)) := hV 5 (by decide)
        have e6 : x 6 = (.pointer (some ⟨g, 0, none⟩)) := hV 6 (by decide)
        have e7 : x 7 = (.pointer (some ⟨g, 1, none⟩)) := hV 7 (by decide)
        have e8 : x 8 = (.int .i64 (pl)) := hV 8 (by decide)
        have e9 : x 9 = (.pointer (some ⟨gb, ob + pl, none⟩)) := hV 9 (by decide)
        obtain ⟨q0, q1, q2⟩ := hS.1.three; have qb := hS.2.1
        go_simp
        exact hK.out _ _ _ rfl rfl rfl (Below.refl _ _)
      simp only [List.setIfInBounds_toArray, List.set_cons_zero, List.set_cons_succ]
      refine obs_step (Eq.trans (by simp only [List.getElem?_toArray, List.getElem?_cons_succ, List.getElem?_cons_zero]; exact rfl) rfl) rfl (fun w' hS hV K hK => ?_) ?_
      · have e1 : x 1 = (.pointer (some ⟨g, 0, none⟩)) := hV 1 (by decide)
        have e2 : x 2 = (.pointer (some ⟨g, 0, none⟩)) := hV 2 (by decide)
        have e3 : x 3 = (.pointer (some ⟨g, 0, none⟩)) := hV 3 (by decide)
        have e4 : x 4 = (.slice (some ⟨gb, ob, none⟩) nb cb) := hV 4 (by decide)
        have e5 : x 5 = (.pointer (some ⟨g, 0, none⟩)) := hV 5 (by decide)
        have e6 : x 6 = (.pointer (some ⟨g, 0, none⟩)) := hV 6 (by decide)
        have e7 : x 7 = (.pointer (some ⟨g, 1, none⟩)) := hV 7 (by decide)
        have e8 : x 8 = (.int .i64 (pl)) := hV 8 (by decide)
        have e9 : x 9 = (.pointer (some ⟨gb, ob + pl, none⟩)) := hV 9 (by decide)
        have e10 : x 10 = (.int .u8 bb) := hV 10 (by decide)
        obtain ⟨q0, q1, q2⟩ := hS.1.three; have qb := hS.2.1
        go_simp
        exact hK.out _ _ _ rfl rfl rfl (Below.refl _ _)
      simp only [List.setIfInBounds_toArray, List.set_cons_zero, List.set_cons_succ]
      refine obs_step (Eq.trans (by simp only [List.getElem?_toArray, List.getElem?_cons_succ, List.getElem?_cons_zero]; exact rfl) rfl) rfl (fun w' hS hV K hK => ?_) ?_
      · have e0 : x 0 = (.int .i64 (X)) := hV 0 (by decide)
        have e1 : x 1 = (.pointer (some ⟨g, 0, none⟩)) := hV 1 (by decide)
        have e2 : x 2 = (.pointer (some ⟨g, 0, none⟩)) := hV 2 (by decide)
        have e3 : x 3 = (.pointer (some ⟨g, 0, none⟩)) := hV 3 (by decide)
        have e4 : x 4 = (.slice (some ⟨gb, ob, none⟩) nb cb) := hV 4 (by decide)
        have e5 : x 5 = (.pointer (some ⟨g, 0, none⟩)) := hV 5 (by decide)
        have e6 : x 6 = (.pointer (some ⟨g, 0, none⟩)) := hV 6 (by decide)
        have e7 : x 7 = (.pointer (some ⟨g, 1, none⟩)) := hV 7 (by decide)
        have e8 : x 8 = (.int .i64 (pl)) := hV 8 (by decide)
        have e9 : x 9 = (.pointer (some ⟨gb, ob + pl, none⟩)) := hV 9 (by decide)
        have e10 : x 10 = (.int .u8 bb) := hV 10 (by decide)
        have e11 : x 11 = (.int .i64 (bb)) := hV 11 (by decide)
        obtain ⟨q0, q1, q2⟩ := hS.1.three; have qb := hS.2.1
        go_simp
        exact hK.out _ _ _ rfl rfl rfl (Below.refl _ _)
      simp only [List.setIfInBounds_toArray, List.set_cons_zero, List.set_cons_succ]
      refine fun w' hS hV => ?_
      have e0 : x 0 = (.int .i64 (X)) := hV 0 (by decide)
      have e1 : x 1 = (.pointer (some ⟨g, 0, none⟩)) := hV 1 (by decide)
      have e2 : x 2 = (.pointer (some ⟨g, 0, none⟩)) := hV 2 (by decide)
      have e3 : x 3 = (.pointer (some ⟨g, 0, none⟩)) := hV 3 (by decide)
      have e4 : x 4 = (.slice (some ⟨gb, ob, none⟩) nb cb) := hV 4 (by decide)
      have e5 : x 5 = (.pointer (some ⟨g, 0, none⟩)) := hV 5 (by decide)
      have e6 : x 6 = (.pointer (some ⟨g, 0, none⟩)) := hV 6 (by decide)
      have e7 : x 7 = (.pointer (some ⟨g, 1, none⟩)) := hV 7 (by decide)
      have e8 : x 8 = (.int .i64 (pl)) := hV 8 (by decide)
      have e9 : x 9 = (.pointer (some ⟨gb, ob + pl, none⟩)) := hV 9 (by decide)
      have e10 : x 10 = (.int .u8 bb) := hV 10 (by decide)
      have e11 : x 11 = (.int .i64 (bb)) := hV 11 (by decide)
      have e12 : x 12 = (.int .i64 (X + bb)) := hV 12 (by decide)
      simp only [e0, e1, e2, e3, e4, e5, e6, e7, e8, e9, e10, e11, e12]
      clear e0 e1 e2 e3 e4 e5 e6 e7 e8 e9 e10 e11 e12
      refine any_one (j := 13) (by kernel_rfl) (Eq.trans (by simp only [List.getElem?_toArray, List.getElem?_cons_succ, List.getElem?_cons_zero]; exact rfl) rfl) (fun K hK => ?_)
      go_simp
      refine hK.out _ _ (wpAny_done (by kernel_rfl) ?_ _)
      obtain ⟨w3, rfl⟩ : ∃ W, W = w' := ⟨_, rfl⟩
      obtain ⟨k3, hcb3, hb3⟩ := hS
      have HR3 := Lib.hid (HR2.out.below hb3)
      have HD3 := Lib.hid (HD2.out.trans (Dr.of_below HD2.out.s' hb3))
      obtain ⟨hd4, k4, r4⟩ := Dr.set k3 HR3.out HBS.out hpl hnb HBG.out 1 (.int .i64 ((pl + 1 : Nat) : Int)) (pl' := pl + 1) (h' := H) (by simp) hpn
      have HD4 := Lib.hid (HD3.out.trans hd4)
      have q1 : w3.cell? ⟨g, 1, none⟩ = some (.int .i64 pl) := k3.cell 1
      have f1 := k3.frozen 1
      clear k2 hcb2 hb3 hd4 k4 r4
      go_wp2
      go_ret
      refine ⟨(X + bb) % n, rfl, Int.emod_nonneg _ hN2, fun hn => Int.emod_lt_of_pos _ (by omega), ?_⟩
      first
        | exact HD4.out
        | (rw [W5]; exact HD4.out)
    · have dl : decide ((pl : Int) < (nb : Int)) = false := by simp; omega
      have T1 := Int.tmod_eq_emod_of_nonneg (b := n) (show 0 ≤ X by omega)
      clear hbs r1
      go_wp2
      refine wp_obs 10 [[], [0], [0, 1], [0, 1, 2], [], [4], [4, 5], [4, 5, 6], [4, 5, 6, 7], [0, 1, 2, 3, 4, 5, 6, 7, 8]] [VIs (.pointer (some ⟨g, 0, none⟩)), VIs (.pointer (some ⟨g, 0, none⟩)), VIs (.pointer (some ⟨g, 1, none⟩)), VIs (.int .i64 (pl)), VIs (.pointer (some ⟨g, 0, none⟩)), VIs (.pointer (some ⟨g, 0, none⟩)), VIs (.pointer (some ⟨g, 0, none⟩)), VIs (.slice B nb cb), VIs (.int .i64 (nb)), VIs (.bool false)] (fun w' => Blk w' g 121 #[.slice B nb cb, .int .i64 pl, .int .u64 H] ∧ Below w1.heap.size w1 w') (by kernel_rfl) (by kernel_rfl) (fun _ _ h hb => ⟨h.1.below hb h.1.lt, h.2.trans (hb.mono h.2.size)⟩) (⟨k1.drew, (Below.refl _ _).drew⟩) (fun x => ?_)
      refine obs_step (Eq.trans (by simp only [List.getElem?_toArray, List.getElem?_cons_zero]; exact rfl) rfl) rfl (fun w' hS hV K hK => ?_) ?_
      · obtain ⟨q0, q1, q2⟩ := hS.1.three
        go_simp
        exact hK.out _ _ _ rfl rfl rfl (Below.refl _ _)
      simp only [List.setIfInBounds_toArray, List.set_cons_zero, List.set_cons_succ]
      refine obs_step (Eq.trans (by simp only [List.getElem?_toArray, List.getElem?_cons_succ, List.getElem?_cons_zero]; exact rfl) rfl) rfl (fun w' hS hV K hK => ?_) ?_
      · have e0 : x 0 = (.pointer (some ⟨g, 0, none⟩)) := hV 0 (by decide)
        obtain ⟨q0, q1, q2⟩ := hS.1.three
        go_simp
        exact hK.out _ _ _ rfl rfl rfl (Below.refl _ _)
      simp only [List.setIfInBounds_toArray, List.set_cons_zero, List.set_cons_succ]
      refine obs_step (Eq.trans (by simp only [List.getElem?_toArray, List.getElem?_cons_succ, List.getElem?_cons_zero]; exact rfl) rfl) rfl (fun w' hS hV K hK => ?_) ?_
      · have e0 : x 0 = (.pointer (some ⟨g, 0, none⟩)) := hV 0 (by decide)
        have e1 : x 1 = (.pointer (some ⟨g, 0, none⟩)) := hV 1 (by decide)
        obtain ⟨q0, q1, q2⟩ := hS.1.three
        go_simp
        exact hK.out _ _ _ rfl rfl rfl (Below.refl _ _)
      simp only [List.setIfInBounds_toArray, List.set_cons_zero, List.set_cons_succ]
      refine obs_step (Eq.trans (by simp only [List.getElem?_toArray, List.getElem?_cons_succ, List.getElem?_cons_zero]; exact rfl) rfl) rfl (fun w' hS hV K hK => ?_) ?_
      · have e0 : x 0 = (.pointer (some ⟨g, 0, none⟩)) := hV 0 (by decide)
        have e1 : x 1 = (.pointer (some ⟨g, 0, none⟩)) := hV 1 (by decide)
        have e2 : x 2 = (.pointer (some ⟨g, 1, none⟩)) := hV 2 (by decide)
        obtain ⟨q0, q1, q2⟩ := hS.1.three
        go_simp
        exact hK.out _ _ _ rfl rfl rfl (Below.refl _ _)
      simp only [List.setIfInBounds_toArray, List.set_cons_zero, List.set_cons_succ]
      refine obs_step (Eq.trans (by simp only [List.getElem?_toArray, List.getElem?_cons_succ, List.getElem?_cons_zero]; exact rfl) rfl) rfl (fun w' hS hV K hK => ?_) ?_
      · obtain ⟨q0, q1, q2⟩ := hS.1.three
        go_simp
        exact hK.out _ _ _ rfl rfl rfl (Below.refl _ _)
      simp only [List.setIfInBounds_toArray, List.set_cons_zero, List.set_cons_succ]
      refine obs_step (Eq.trans (by simp only [List.getElem?_toArray, List.getElem?_cons_succ, List.getElem?_cons_zero]; exact rfl) rfl) rfl (fun w' hS hV K hK => ?_) ?_
      · have e4 : x 4 = (.pointer (some ⟨g, 0, none⟩)) := hV 4 (by decide)
        obtain ⟨q0, q1, q2⟩ := hS.1.three
        go_simp
        exact hK.out _ _ _ rfl rfl rfl (Below.refl _ _)
      simp only [List.setIfInBounds_toArray, List.set_cons_zero, List.set_cons_succ]
      refine obs_step (Eq.trans (by simp only [List.getElem?_toArray, List.getElem?_cons_succ, List.getElem?_cons_zero]; exact rfl) rfl) rfl (fun w' hS hV K hK => ?_) ?_
      · have e4 : x 4 = (.pointer (some ⟨g, 0, none⟩)) := hV 4 (by decide)
        have e5 : x 5 = (.pointer (some ⟨g, 0, none⟩)) := hV 5 (by decide)
        obtain ⟨q0, q1, q2⟩ := hS.1.three
        go_simp
        exact hK.out _ _ _ rfl rfl rfl (Below.refl _ _)
      simp only [List.setIfInBounds_toArray, List.set_cons_zero, List.set_cons_succ]
      refine obs_step (Eq.trans (by simp only [List.getElem?_toArray, List.getElem?_cons_succ, List.getElem?_cons_zero]; exact rfl) rfl) rfl (fun w' hS hV K hK => ?_) ?_
      · have e4 : x 4 = (.pointer (some ⟨g, 0, none⟩)) := hV 4 (by decide)
        have e5 : x 5 = (.pointer (some ⟨g, 0, none⟩)) := hV 5 (by decide)
        have e6 : x 6 = (.pointer (some ⟨g, 0, none⟩)) := hV 6 (by decide)
        obtain ⟨q0, q1, q2⟩ := hS.1.three
        go_simp
        exact hK.out _ _ _ rfl rfl rfl (Below.refl _ _)
      simp only [List.setIfInBounds_toArray, List.set_cons_zero, List.set_cons_succ]
      refine obs_step (Eq.trans (by simp only [List.getElem?_toArray, List.getElem?_cons_succ, List.getElem?_cons_zero]; exact rfl) rfl) rfl (fun w' hS hV K hK => ?_) ?_
      · have e4 : x 4 = (.pointer (some ⟨g, 0, none⟩)) := hV 4 (by decide)
        have e5 : x 5 = (.pointer (some ⟨g, 0, none⟩)) := hV 5 (by decide)
        have e6 : x 6 = (.pointer (some ⟨g, 0, none⟩)) := hV 6 (by decide)
        have e7 : x 7 = (.slice B nb cb) := hV 7 (by decide)
        obtain ⟨q0, q1, q2⟩ := hS.1.three
        go_simp
        exact hK.out _ _ _ rfl rfl rfl (Below.refl _ _)
      simp only [List.setIfInBounds_toArray, List.set_cons_zero, List.set_cons_succ]
      refine obs_step (Eq.trans (by simp only [List.getElem?_toArray, List.getElem?_cons_succ, List.getElem?_cons_zero]; exact rfl) rfl) rfl (fun w' hS hV K hK => ?_) ?_
      · have e0 : x 0 = (.pointer (some ⟨g, 0, none⟩)) := hV 0 (by decide)
        have e1 : x 1 = (.pointer (some ⟨g, 0, none⟩)) := hV 1 (by decide)
        have e2 : x 2 = (.pointer (some ⟨g, 1, none⟩)) := hV 2 (by decide)
        have e3 : x 3 = (.int .i64 (pl)) := hV 3 (by decide)
        have e4 : x 4 = (.pointer (some ⟨g, 0, none⟩)) := hV 4 (by decide)
        have e5 : x 5 = (.pointer (some ⟨g, 0, none⟩)) := hV 5 (by decide)
        have e6 : x 6 = (.pointer (some ⟨g, 0, none⟩)) := hV 6 (by decide)
        have e7 : x 7 = (.slice B nb cb) := hV 7 (by decide)
        have e8 : x 8 = (.int .i64 (nb)) := hV 8 (by decide)
        obtain ⟨q0, q1, q2⟩ := hS.1.three
        go_simp
        exact hK.out _ _ _ rfl rfl rfl (Below.refl _ _)
      simp only [List.setIfInBounds_toArray, List.set_cons_zero, List.set_cons_succ]
      refine fun w' hS hV => ?_
      have e0 : x 0 = (.pointer (some ⟨g, 0, none⟩)) := hV 0 (by decide)
      have e1 : x 1 = (.pointer (some ⟨g, 0, none⟩)) := hV 1 (by decide)
      have e2 : x 2 = (.pointer (some ⟨g, 1, none⟩)) := hV 2 (by decide)
      have e3 : x 3 = (.int .i64 (pl)) := hV 3 (by decide)
      have e4 : x 4 = (.pointer (some ⟨g, 0, none⟩)) := hV 4 (by decide)
      have e5 : x 5 = (.pointer (some ⟨g, 0, none⟩)) := hV 5 (by decide)
      have e6 : x 6 = (.pointer (some ⟨g, 0, none⟩)) := hV 6 (by decide)
      have e7 : x 7 = (.slice B nb cb) := hV 7 (by decide)
      have e8 : x 8 = (.int .i64 (nb)) := hV 8 (by decide)
      have e9 : x 9 = (.bool false) := hV 9 (by decide)
      simp only [e0, e1, e2, e3, e4, e5, e6, e7, e8, e9]
      clear e0 e1 e2 e3 e4 e5 e6 e7 e8 e9
      refine wpAny_done (by kernel_rfl) ?_ _
      obtain ⟨w2, rfl⟩ : ∃ W, W = w' := ⟨_, rfl⟩
      obtain ⟨k2, hb2⟩ := hS
      have HD2 := Lib.hid (HD.out.trans (Dr.of_below HD.out.s' hb2))
      clear k1 hb2 k2
      go_wp2
      go_ret
      exact ⟨X % n, rfl, Int.emod_nonneg _ hN2, fun hn => Int.emod_lt_of_pos _ (by omega), HD2.out⟩
end Go.Proofs.YticofgmmjecleaaGreatDoor
namespace Go.Proofs.YticofgmmjecleaaGreatDoor
def gI (h : Int) : Int := h * 6364136223846793005 + 1442695040888963407
def itI : Nat → Int → Int
  | 0, h => h
  | n + 1, h => itI n (gI h)
def xI (h : Int) : Int := h / 8589934592 % 16777216
theorem it_add : ∀ (m n : Nat) (h : Int), itI (m + n) h = itI n (itI m h)
  | 0, n, h => by rw [Nat.zero_add]; rfl
  | m + 1, n, h => by rw [Nat.add_right_comm]; exact it_add m n (gI h)
theorem it_succ (n : Nat) (h : Int) : itI (n + 1) h = gI (itI n h) := it_add n 1 h
/-- A power of two many steps. -/
theorem jump : ∀ k : Nat, ∃ b j : Int, ∀ h, itI (2 ^ k) h = h + 4 * 2 ^ k * (b * h) + 2 ^ k * (2 * j + 1)
  | 0 => ⟨1591034055961698251, 721347520444481703, fun h => by show gI h = _; unfold gI; omega⟩
  | k + 1 => by
    obtain ⟨b, j, e⟩ := jump k
    refine ⟨b + 2 * 2 ^ k * (b * b), j + 2 ^ k * b * (2 * j + 1), fun h => ?_⟩
    rw [Nat.pow_succ, Nat.mul_two, it_add, e, e, Int.pow_succ]
    generalize (2 : Int) ^ k = D
    grind
theorem it_mod {M : Int} : ∀ (n : Nat) {h k : Int}, h % M = k % M → itI n h % M = itI n k % M
  | 0, _, _, e => e
  | n + 1, h, k, e => it_mod n (by unfold gI; rw [Int.add_emod, Int.mul_emod, e, ← Int.mul_emod, ← Int.add_emod])
/-- Steps of 2^s lead to every remainder by 2^(s+m) that agrees below. -/
theorem reach (s : Nat) : ∀ (m : Nat) (h t : Int), (h - t) % 2 ^ s = 0 → ∃ n : Nat, n < 2 ^ m ∧ (itI (2 ^ s * n) h - t) % 2 ^ (s + m) = 0
  | 0, h, t, e => ⟨0, by decide, by rw [Nat.mul_zero]; exact e⟩
  | m + 1, h, t, e => by
    obtain ⟨n, hn, hd⟩ := reach s m h t e
    obtain ⟨b, j, ej⟩ := jump (s + m)
    obtain ⟨q, hq⟩ := Int.dvd_of_emod_eq_zero hd
    by_cases hp : q % 2 = 0
    · refine ⟨n, by rw [Nat.pow_succ]; omega, ?_⟩
      rw [hq, ← Nat.add_assoc, Int.pow_succ]
      obtain ⟨r, rfl⟩ := Int.dvd_of_emod_eq_zero hp
      rw [show (2 : Int) ^ (s + m) * (2 * r) = 2 ^ (s + m) * 2 * r by rw [Int.mul_assoc]]
      exact Int.mul_emod_right _ _
    · refine ⟨n + 2 ^ m, by rw [Nat.pow_succ]; omega, ?_⟩
      rw [Nat.mul_add, ← Nat.pow_add, it_add, ej, ← Nat.add_assoc, Int.pow_succ]
      generalize itI (2 ^ s * n) h = y at hq ⊢
      obtain ⟨r, hr⟩ : ∃ r, q = 2 * r + 1 := ⟨q / 2, by omega⟩
      rw [show y + 4 * 2 ^ (s + m) * (b * y) + 2 ^ (s + m) * (2 * j + 1) - t = 2 ^ (s + m) * 2 * (2 * (b * y) + j + r + 1) by
        generalize (2 : Int) ^ (s + m) = D at hq ⊢
        grind]
      exact Int.mul_emod_right _ _
theorem least {p : Nat → Prop} : ∀ n, p n → ∃ k, k ≤ n ∧ p k ∧ ∀ j, j < k → ¬ p j := fun n => by
  induction n using Nat.strongRecOn with
  | ind n ih =>
    intro hn
    by_cases h : ∃ k, k < n ∧ p k
    · obtain ⟨k, hk, hp⟩ := h
      obtain ⟨i, h1, h2, h3⟩ := ih k hk hp
      exact ⟨i, by omega, h2, h3⟩
    · exact ⟨n, Nat.le_refl _, hn, fun j hj hp => h ⟨j, hj, hp⟩⟩
theorem x_mod (h : Int) : xI (h % 144115188075855872) = xI h := by unfold xI; omega
theorem x_same {h k : Int} (e : h % 144115188075855872 = k % 144115188075855872) : xI h = xI k := by rw [← x_mod h, e, x_mod]
def eqM (h k : Int) : Prop := h % 144115188075855872 = k % 144115188075855872
/-- A count that falls at each round of two or four steps at which the first number has the remainder 0. -/
theorem clock (q : Int) (z : Int) (h1 : xI (itI 1 z) % q ≠ 0) (h2 : xI (itI 2 z) % q ≠ 0) (h3 : xI (itI 3 z) % q ≠ 0) (h4 : xI (itI 4 z) % q ≠ 0) :
    ∃ M : Int → Nat, (∀ h, M h ≤ 144115188075855872) ∧ ∀ h h', (eqM h' (itI 2 h) ∨ eqM h' (itI 4 h)) → xI (gI h) % q = 0 → M h' < M h := by
  have hN : ∀ h, ∃ n, n ≤ 144115188075855871 ∧ eqM (itI n h) z ∧ ∀ j, j < n → ¬ eqM (itI j h) z := fun h => by
    obtain ⟨n, hn, hd⟩ := reach 0 57 h z (by omega)
    rw [Nat.pow_zero, Nat.one_mul] at hd
    obtain ⟨k, a, b, c⟩ := least (p := fun n => eqM (itI n h) z) n (by unfold eqM; rw [show (2 : Int) ^ (0 + 57) = 144115188075855872 from rfl] at hd; omega)
    exact ⟨k, by have : (2 : Nat) ^ 57 = 144115188075855872 := rfl; omega, b, c⟩
  have sp : ∀ h : Int, Decidable (∃ i, (i = 1 ∨ i = 2 ∨ i = 3) ∧ eqM h (itI i z)) := fun h => Classical.propDecidable _
  refine ⟨fun h => if ∃ i, (i = 1 ∨ i = 2 ∨ i = 3) ∧ eqM h (itI i z) then 0 else Classical.choose (hN h) + 1, fun h => ?_, fun h h' hg hx => ?_⟩
  · dsimp only
    split
    · omega
    · have := (Classical.choose_spec (hN h)).1; omega
  · dsimp only
    have gz : ∀ (i : Nat) (k : Int), eqM k (itI i z) → eqM (gI k) (itI (i + 1) z) := fun i k e => by
      unfold eqM; rw [it_succ]; exact it_mod 1 e
    have hns : ¬ ∃ i, (i = 1 ∨ i = 2 ∨ i = 3) ∧ eqM h (itI i z) := by
      rintro ⟨i, hi, e⟩
      have e2 := gz i h e
      rw [x_same e2] at hx
      rcases hi with rfl | rfl | rfl
      · exact h2 hx
      · exact h3 hx
      · exact h4 hx
    rw [if_neg hns]
    split
    · omega
    · rename_i hns'
      obtain ⟨a1, a2, a3⟩ := Classical.choose_spec (hN h)
      obtain ⟨b1, b2, b3⟩ := Classical.choose_spec (hN h')
      generalize Classical.choose (hN h) = n at a1 a2 a3 ⊢
      generalize Classical.choose (hN h') = m at b1 b2 b3 ⊢
      have key : ∀ g : Nat, (g = 2 ∨ g = 4) → eqM h' (itI g h) → m + 1 < n + 1 := fun g hg2 e => by
        by_cases hng : g ≤ n
        · have : eqM (itI (n - g) h') z := by
            unfold eqM at *
            rw [it_mod (n - g) e, ← it_add, show g + (n - g) = n by omega]; exact a2
          have : ¬ n - g < m := fun hl => b3 _ hl this
          omega
        · have hn0 : n ≠ 0 := fun e0 => by
            subst e0
            have e2 := gz 0 h a2
            rw [x_same e2] at hx
            exact h1 hx
          exfalso
          refine hns' ⟨g - n, by omega, ?_⟩
          unfold eqM at *
          rw [e, show g = n + (g - n) by omega, it_add, show n + (g - n) - n = g - n by omega]
          exact it_mod _ a2
      rcases hg with e | e
      · exact key 2 (.inl rfl) e
      · exact key 4 (.inr rfl) e
theorem clock3 : ∃ M : Int → Nat, (∀ h, M h ≤ 144115188075855872) ∧ ∀ h h', (eqM h' (itI 2 h) ∨ eqM h' (itI 4 h)) → xI (gI h) % 3 = 0 → M h' < M h := clock 3 0 (by decide +kernel) (by decide +kernel) (by decide +kernel) (by decide +kernel)
theorem clock4 : ∃ M : Int → Nat, (∀ h, M h ≤ 144115188075855872) ∧ ∀ h h', (eqM h' (itI 2 h) ∨ eqM h' (itI 4 h)) → xI (gI h) % 4 = 0 → M h' < M h := clock 4 3 (by decide +kernel) (by decide +kernel) (by decide +kernel) (by decide +kernel)
theorem two28 : ∀ h : Int, itI (2 ^ 28) h % 144115188075855872 = (h + 268435456 * (4 * 18732249 * h + 207051525)) % 144115188075855872 := by
  -- 28 doublings of the pair (B, C) by remainder
  have dbl : ∀ (k : Nat) (B C B' C' : Int), (∀ h, itI (2 ^ k) h % 144115188075855872 = (B * h + C) % 144115188075855872) → (B * B) % 144115188075855872 = B' → (C * (B + 1)) % 144115188075855872 = C' →
      ∀ h, itI (2 ^ (k + 1)) h % 144115188075855872 = (B' * h + C') % 144115188075855872 := fun k B C B' C' e e1 e2 h => by
    rw [Nat.pow_succ, Nat.mul_two, it_add, e]
    have : (B * itI (2 ^ k) h + C) % 144115188075855872 = (B * (B * h + C) + C) % 144115188075855872 := by
      rw [Int.add_emod, Int.mul_emod, e, ← Int.mul_emod, ← Int.add_emod]
    rw [this, ← e1, ← e2, show B * (B * h + C) + C = B * B * h + C * (B + 1) by grind, Int.add_emod, Int.mul_emod]
    conv => rhs; rw [Int.add_emod, Int.mul_emod, Int.emod_emod, Int.emod_emod]
  have s0 : ∀ h, itI (2 ^ 0) h % 144115188075855872 = (6364136223846793005 * h + 1442695040888963407) % 144115188075855872 := fun h => by
    show gI h % _ = _; unfold gI; rw [Int.mul_comm]
  have s1 := dbl 0 _ _ 26907944365829609 2513558822350130 s0 (by decide) (by decide)
  have s2 := dbl 1 _ _ 93795916333628945 51258035923884468 s1 (by decide) (by decide)
  have s3 := dbl 2 _ _ 116489267882048801 81477721053882024 s2 (by decide) (by decide)
  have s4 := dbl 3 _ _ 98566667069210177 44106070908971600 s3 (by decide) (by decide)
  have s5 := dbl 4 _ _ 20294252598168705 117428531195103392 s4 (by decide) (by decide)
  have s6 := dbl 5 _ _ 10673781576915201 87064468879466816 s5 (by decide) (by decide)
  have s7 := dbl 6 _ _ 108315138994188801 141109832899625600 s6 (by decide) (by decide)
  have s8 := dbl 7 _ _ 2126514927395841 77485359592965376 s7 (by decide) (by decide)
  have s9 := dbl 8 _ _ 115628284586674177 32836076315740672 s8 (by decide) (by decide)
  have s10 := dbl 9 _ _ 5666581573898241 72267226107614208 s9 (by decide) (by decide)
  have s11 := dbl 10 _ _ 68145684617568257 47208048633587712 s10 (by decide) (by decide)
  have s12 := dbl 11 _ _ 44017053890658305 120404064930385920 s11 (by decide) (by decide)
  have s13 := dbl 12 _ _ 132865590865723393 61414204768296960 s12 (by decide) (by decide)
  have s14 := dbl 13 _ _ 117578570852270081 119869296523427840 s13 (by decide) (by decide)
  have s15 := dbl 14 _ _ 49137302046375937 36112128737968128 s14 (by decide) (by decide)
  have s16 := dbl 15 _ _ 12846690963030017 29241311404294144 s15 (by decide) (by decide)
  have s17 := dbl 16 _ _ 53276898851553281 5896228647337984 s16 (by decide) (by decide)
  have s18 := dbl 17 _ _ 715083291295745 35634061272940544 s17 (by decide) (by decide)
  have s19 := dbl 18 _ _ 10420873162915841 22519350383083520 s18 (by decide) (by decide)
  have s20 := dbl 19 _ _ 56804572647129089 138273988266688512 s19 (by decide) (by decide)
  have s21 := dbl 20 _ _ 113345262503591937 73028374232039424 s20 (by decide) (by decide)
  have s22 := dbl 21 _ _ 81519805768663041 52554279638007808 s21 (by decide) (by decide)
  have s23 := dbl 22 _ _ 14702298810810369 19329060123443200 s22 (by decide) (by decide)
  have s24 := dbl 23 _ _ 12516099018981377 127885687864164352 s23 (by decide) (by decide)
  have s25 := dbl 24 _ _ 101593391703261185 36220893894017024 s24 (by decide) (by decide)
  have s26 := dbl 25 _ _ 77085993840148481 58930988905922560 s25 (by decide) (by decide)
  have s27 := dbl 26 _ _ 82114393642369025 63818782283399168 s26 (by decide) (by decide)
  have s28 := dbl 27 _ _ 20113599208882177 55579970528870400 s27 (by decide) (by decide)
  intro h
  rw [s28 h]
  congr 1
  grind
/-- Among 2^28 numbers at every fourth step one has not the remainder 0 by 3. -/
theorem bound3 (h : Int) : ∃ j : Nat, j ≤ 268435456 ∧ xI (itI (4 * j) h) % 3 ≠ 0 := by
  have cls : ∃ t w : Int, (h - t) % 2 ^ 2 = 0 ∧ (4 * 18732249 * t + 207051525) % 536870912 = w ∧ (w = 37 ∨ w = 41 ∨ w = 45 ∨ w = 33) ∧ 0 ≤ t ∧ t < 134217728 := by
    have : h % 4 = 0 ∨ h % 4 = 1 ∨ h % 4 = 2 ∨ h % 4 = 3 := by omega
    rcases this with e | e | e | e
    · exact ⟨104072840, 37, by omega, by decide, by omega, by omega, by omega⟩
    · exact ⟨55144945, 41, by omega, by decide, by omega, by omega, by omega⟩
    · exact ⟨6217050, 45, by omega, by decide, by omega, by omega, by omega⟩
    · exact ⟨18783007, 33, by omega, by decide, by omega, by omega, by omega⟩
  obtain ⟨t, w, c1, c2, c3, c4, c5⟩ := cls
  obtain ⟨n, hn, hd⟩ := reach 2 25 h t c1
  rw [show (2 : Nat) ^ 25 = 33554432 from rfl] at hn
  rw [show (2 : Nat) ^ 2 = 4 from rfl, show (2 : Int) ^ (2 + 25) = 134217728 from rfl] at hd
  obtain ⟨y, hy⟩ : ∃ y, y = itI (4 * n) h := ⟨_, rfl⟩
  rw [← hy] at hd
  have st : ∀ u : Int, u % 134217728 = t → itI (2 ^ 28) u % 144115188075855872 = (u + 268435456 * w) % 144115188075855872 := fun u hu => by
    rw [two28]
    obtain ⟨k, hk⟩ : ∃ k, u = t + 134217728 * k := ⟨u / 134217728, by omega⟩
    have : (4 * 18732249 * u + 207051525) % 536870912 = w := by rw [← c2, hk]; omega
    omega
  have hyt : y % 134217728 = t := by omega
  have a1 := st y hyt
  obtain ⟨y1, hy1⟩ : ∃ y1, y1 = itI (2 ^ 28) y := ⟨_, rfl⟩
  rw [← hy1] at a1
  have hy1t : y1 % 134217728 = t := by omega
  have a2 := st y1 hy1t
  obtain ⟨y2, hy2⟩ : ∃ y2, y2 = itI (2 ^ 28) y1 := ⟨_, rfl⟩
  rw [← hy2] at a2
  have p28 : (2 : Nat) ^ 28 = 4 * 67108864 := rfl
  by_cases h0 : xI y % 3 ≠ 0
  · exact ⟨n, by omega, by rw [← hy]; exact h0⟩
  by_cases h1 : xI y1 % 3 ≠ 0
  · refine ⟨n + 67108864, by omega, ?_⟩
    rw [Nat.mul_add, it_add, ← hy, ← p28, ← hy1]; exact h1
  by_cases h2 : xI y2 % 3 ≠ 0
  · refine ⟨n + 67108864 + 67108864, by omega, ?_⟩
    rw [Nat.mul_add, Nat.mul_add, it_add, it_add, ← hy, ← p28, ← hy1, ← hy2]; exact h2
  exfalso
  have h0 : xI y % 3 = 0 := by omega
  have h1 : xI y1 % 3 = 0 := by omega
  have h2 : xI y2 % 3 = 0 := by omega
  clear hy hy1 hy2 hd hn st c1 c2 c4 c5 hyt hy1t
  have far : ∀ u v : Int, v % 144115188075855872 = u % 144115188075855872 + 268435456 * w → xI u % 3 = 0 → xI v % 3 = 0 → False := fun u v e hu hv => by
    rw [← x_mod] at hu hv
    rw [e] at hv
    have hlt : v % 144115188075855872 < 144115188075855872 := by omega
    rw [e] at hlt
    have h0 : 0 ≤ u % 144115188075855872 := by omega
    generalize u % 144115188075855872 = U at *
    unfold xI at hu hv
    have e1 : U / 8589934592 % 16777216 = U / 8589934592 := by omega
    have e2 : (U + 268435456 * w) / 8589934592 % 16777216 = (U + 268435456 * w) / 8589934592 := by omega
    rw [e1] at hu
    rw [e2] at hv
    clear e e1 e2 a1 a2
    rcases c3 with rfl | rfl | rfl | rfl <;> omega
  by_cases hw : y % 144115188075855872 + 268435456 * w < 144115188075855872
  · exact far y y1 (by omega) h0 h1
  · exact far y1 y2 (by omega) h1 h2
theorem len3 : ∃ M : Int → Nat, (∀ h, M h ≤ 268435456) ∧ ∀ h h', eqM h' (itI 4 h) → xI (gI h) % 3 = 0 → M h' + 1 = M h := by
  have hN : ∀ h, ∃ j, j ≤ 268435456 ∧ xI (itI (4 * j) (gI h)) % 3 ≠ 0 ∧ ∀ i, i < j → ¬ xI (itI (4 * i) (gI h)) % 3 ≠ 0 := fun h => by
    obtain ⟨j, hj, hd⟩ := bound3 (gI h)
    obtain ⟨k, a, b, c⟩ := least (p := fun j => xI (itI (4 * j) (gI h)) % 3 ≠ 0) j hd
    exact ⟨k, by omega, b, c⟩
  refine ⟨fun h => Classical.choose (hN h), fun h => (Classical.choose_spec (hN h)).1, fun h h' e hx => ?_⟩
  dsimp only
  obtain ⟨a1, a2, a3⟩ := Classical.choose_spec (hN h)
  obtain ⟨b1, b2, b3⟩ := Classical.choose_spec (hN h')
  generalize Classical.choose (hN h) = n at a1 a2 a3 ⊢
  generalize Classical.choose (hN h') = m at b1 b2 b3 ⊢
  have key : ∀ j, xI (itI (4 * j) (gI h')) = xI (itI (4 * (j + 1)) (gI h)) := fun j => by
    refine x_same ?_
    have e1 : gI h' % 144115188075855872 = gI (itI 4 h) % 144115188075855872 := it_mod 1 e
    rw [it_mod (4 * j) e1, Nat.mul_add, Nat.add_comm, it_add]
    congr 2
  have n0 : n ≠ 0 := fun e0 => by subst e0; exact a2 hx
  have k1 : ¬ m + 1 < n := fun hl => by have := a3 _ hl; rw [← key] at this; exact this b2
  have k2 : ¬ n - 1 < m := fun hl => by have := b3 _ hl; rw [key, show n - 1 + 1 = n by omega] at this; exact this a2
  omega
end Go.Proofs.YticofgmmjecleaaGreatDoor
namespace Go.Proofs.YticofgmmjecleaaGreatDoor
open Go.RowKit
/-- A source whose code has nb bytes, at place pl, with the number h. -/
def SrcA (w : World) (g : Nat) (T : TypeId) (nb pl : Nat) (h : Int) : Prop := ∃ (B : Option Addr) (cb : Nat) (bs : List Int), Blk w g T #[.slice B nb cb, .int .i64 pl, .int .u64 h] ∧ Rd w B nb (bs.map (Value.int .u8)) ∧ (∀ b ∈ bs, 0 ≤ b ∧ b < 256) ∧ pl ≤ nb ∧ nb ≤ 4096 ∧ ∀ a, B = some a → a.block < g
theorem SrcA.src {w : World} {g : Nat} {T : TypeId} {nb pl : Nat} {h : Int} (s : SrcA w g T nb pl h) : Src w g T := by obtain ⟨B, cb, bs, r⟩ := s; exact ⟨B, nb, cb, bs, pl, h, r⟩
theorem Src.at_ {w : World} {g : Nat} {T : TypeId} (s : Src w g T) : ∃ nb pl h, SrcA w g T nb pl h := by obtain ⟨B, nb, cb, bs, pl, h, r⟩ := s; exact ⟨nb, pl, h, B, cb, bs, r⟩
theorem SrcA.below {w w' : World} {g : Nat} {T : TypeId} {nb pl : Nat} {h : Int} (s : SrcA w g T nb pl h) (hb : Below w.heap.size w w') : SrcA w' g T nb pl h := by
  obtain ⟨B, cb, bs, k, r, rest⟩ := s
  exact ⟨B, cb, bs, k.below hb k.lt, r.below hb, rest⟩
theorem SrcA.le {w : World} {g : Nat} {T : TypeId} {nb pl : Nat} {h : Int} (s : SrcA w g T nb pl h) : pl ≤ nb ∧ nb ≤ 4096 := by obtain ⟨B, cb, bs, k, r, h1, h2, h3, _⟩ := s; exact ⟨h2, h3⟩
theorem SrcA.cells {w : World} {g : Nat} {T : TypeId} {nb pl : Nat} {h : Int} (s : SrcA w g T nb pl h) : w.cell? ⟨g, 1, none⟩ = some (.int .i64 pl) ∧ w.cell? ⟨g, 2, none⟩ = some (.int .u64 h) := by obtain ⟨B, cb, bs, k, _⟩ := s; exact ⟨k.cell 1, k.cell 2⟩
theorem and_low (x : Int) (hx : 0 ≤ x ∧ x < 18446744073709551616) : bits BinOp.and IntKind.u64 x 16777215 = x % 16777216 := by
  unfold bits
  simp only
  obtain ⟨m, rfl⟩ : ∃ m : Nat, x = m := ⟨x.toNat, by omega⟩
  have e1 : (BitVec.ofInt IntKind.u64.bits (m : Int) &&& BitVec.ofInt IntKind.u64.bits 16777215).toNat = m % 16777216 := by
    rw [BitVec.toNat_and]
    have h1 : (BitVec.ofInt IntKind.u64.bits (m : Int)).toNat = m := by
      rw [BitVec.toNat_ofInt]
      show ((m : Int) % ((2 ^ 64 : Nat) : Int)).toNat = m
      omega
    rw [h1]
    show m &&& 16777215 = m % 16777216
    exact Nat.and_two_pow_sub_one_eq_mod m 24
  rw [e1]
  have e : IntKind.u64.wrap ((m % 16777216 : Nat) : Int) = ((m % 16777216 : Nat) : Int) % 18446744073709551616 := rfl
  rw [e]
  omega
set_option maxHeartbeats 1600000 in
set_option maxRecDepth 8000 in
theorem next_at (g : Nat) (n : Int) (nb pl : Nat) (h : Int) (w : World) (hs : SrcA w g 121 nb pl h) (hn1 : 1 ≤ n) (hn : n ≤ 4611686018427387904) :
    Calls Tryz.prog 72 #[.pointer (some ⟨g, 0, none⟩), .int .i64 n] w fun e w' => ∃ r : Int, e = .returned (.int .i64 r) ∧ 0 ≤ r ∧ r < n ∧ Dr g 121 w w' ∧ ∃ (pl' : Nat) (h' : Int), SrcA w' g 121 nb pl' h' ∧ pl' = (if pl < nb then pl + 1 else pl) ∧ eqM h' (gI h) ∧ (pl = nb → r = xI (gI h) % n) := by
  have h1 : ¬ n < 1 := by omega
  have d1 : decide (n < 1) = false := by simpa using h1
  obtain ⟨B, cb, bs, k, r, hbs, hpl, hnb, hbg⟩ := id hs
  have q0 : w.cell? ⟨g, 0, none⟩ = some (.slice B nb cb) := k.cell 0
  have q1 : w.cell? ⟨g, 1, none⟩ = some (.int .i64 pl) := k.cell 1
  have q2 : w.cell? ⟨g, 2, none⟩ = some (.int .u64 h) := k.cell 2
  have f2 := k.frozen 2
  go_enter Tryz.func72, Tryz.ntmps72
  go_wp2
  obtain ⟨H, hH⟩ : ∃ H, H = IntKind.u64.wrap (IntKind.u64.wrap (h * 6364136223846793005) + 1442695040888963407) := ⟨_, rfl⟩
  rw [← hH]
  have hH0 : 0 ≤ H ∧ H < 18446744073709551616 := by
    have e : ∀ z : Int, IntKind.u64.wrap z = z % 18446744073709551616 := fun _ => rfl
    rw [hH, e]; omega
  have hHG : eqM H (gI h) := by
    have e : ∀ z : Int, IntKind.u64.wrap z = z % 18446744073709551616 := fun _ => rfl
    rw [hH, e, e]; unfold eqM gI; omega
  have hXG : bits BinOp.and IntKind.u64 (H / 8589934592) 16777215 = xI (gI h) := by
    rw [and_low _ (by omega), ← x_same hHG]; rfl
  have hsm := and_small (H / 8589934592)
  obtain ⟨X, hX⟩ : ∃ X, X = bits BinOp.and IntKind.u64 (H / 8589934592) 16777215 := ⟨_, rfl⟩
  rw [← hX] at hsm hXG ⊢
  have HHG := Lib.hid hHG
  have HXG := Lib.hid hXG
  clear hHG hXG hH0
  have W1 : wrap64 X = X := by unfold wrap64; omega
  rw [W1]
  obtain ⟨x1, x2⟩ := hsm
  obtain ⟨hd1, k1, r1⟩ := Dr.set k r hbs hpl hnb hbg 2 (.int .u64 H) (pl' := pl) (h' := H) (by simp) hpl
  clear q0 q1 q2 f2 hX
  obtain ⟨w1, hw1⟩ : ∃ W, W = w.setCell ⟨g, 2, none⟩ (.int .u64 H) := ⟨_, rfl⟩
  rw [← hw1] at k1 r1 hd1 ⊢
  have hN0 : (n == 0) = false := by simp; omega
  have hN1 : (n == -1) = false := by simp; omega
  have hN2 : ¬ n = 0 := by omega
  have HD := Lib.hid hd1
  have HBS := Lib.hid hbs
  have HBG := Lib.hid hbg
  have HR1 := Lib.hid r1
  have HK1 := Lib.hid k1
  clear hw1 hH hd1 r k hbg
  by_cases hpn : pl < nb
  · have dl : decide ((pl : Int) < (nb : Int)) = true := by simp; omega
    obtain ⟨gb, ob, rfl, hc⟩ := r1.2 (by omega)
    have hbl : pl < bs.length := by have := r1.1; rw [List.length_map] at this; omega
    have hcb := hc pl (.int .u8 bs[pl]) (by simp [hbl])
    obtain ⟨b1, b2⟩ := hbs _ (List.getElem_mem hbl)
    obtain ⟨bb, hbb⟩ : ∃ x, x = bs[pl] := ⟨_, rfl⟩
    rw [← hbb] at hcb b1 b2
    have i1 : (0 : Int) ≤ (pl : Int) := by omega
    have i2 : (pl : Int) < (nb : Int) := by omega
    have W2 : IntKind.i64.wrap bb = bb := by rw [IntWalk.i64_left]; unfold wrap64; omega
    have W4 : IntKind.i64.wrap (X + bb) = X + bb := by rw [IntWalk.i64_left]; unfold wrap64; omega
    have W5 : wrap64 ((pl : Int) + 1) = ((pl + 1 : Nat) : Int) := by unfold wrap64; omega
    have T1 := Int.tmod_eq_emod_of_nonneg (b := n) (show 0 ≤ X + bb by omega)
    clear hc hbs hbb r1
    go_wp2
    refine wp_obs 10 [[], [0], [0, 1], [0, 1, 2], [], [4], [4, 5], [4, 5, 6], [4, 5, 6, 7], [0, 1, 2, 3, 4, 5, 6, 7, 8]] [VIs (.pointer (some ⟨g, 0, none⟩)), VIs (.pointer (some ⟨g, 0, none⟩)), VIs (.pointer (some ⟨g, 1, none⟩)), VIs (.int .i64 (pl)), VIs (.pointer (some ⟨g, 0, none⟩)), VIs (.pointer (some ⟨g, 0, none⟩)), VIs (.pointer (some ⟨g, 0, none⟩)), VIs (.slice (some ⟨gb, ob, none⟩) nb cb), VIs (.int .i64 (nb)), VIs (.bool true)] (fun w' => Blk w' g 121 #[.slice (some ⟨gb, ob, none⟩) nb cb, .int .i64 pl, .int .u64 H] ∧ w'.cell? ⟨gb, ob + pl, none⟩ = some (.int .u8 bb) ∧ Below w1.heap.size w1 w') (by kernel_rfl) (by kernel_rfl) (fun _ _ h hb => ⟨h.1.below hb h.1.lt, (hb.cell (World.block_lt_of_cell? _ _ h.2.1)).trans h.2.1, h.2.2.trans (hb.mono h.2.2.size)⟩) (⟨k1.drew, hcb, (Below.refl _ _).drew⟩) (fun x => ?_)
    refine obs_step (Eq.trans (by simp only [List.getElem?_toArray, List.getElem?_cons_zero]; exact rfl) rfl) rfl (fun w' hS hV K hK => ?_) ?_
    · obtain ⟨q0, q1, q2⟩ := hS.1.three; have qb := hS.2.1
      go_simp
      exact hK.out _ _ _ rfl rfl rfl (Below.refl _ _)
    simp only [List.setIfInBounds_toArray, List.set_cons_zero, List.set_cons_succ]
    refine obs_step (Eq.trans (by simp only [List.getElem?_toArray, List.getElem?_cons_succ, List.getElem?_cons_zero]; exact rfl) rfl) rfl (fun w' hS hV K hK => ?_) ?_
    · have e0 : x 0 = (.pointer (some ⟨g, 0, none⟩)) := hV 0 (by decide)
      obtain ⟨q0, q1, q2⟩ := hS.1.three; have qb := hS.2.1
      go_simp
      exact hK.out _ _ _ rfl rfl rfl (Below.refl _ _)
    simp only [List.setIfInBounds_toArray, List.set_cons_zero, List.set_cons_succ]
    refine obs_step (Eq.trans (by simp only [List.getElem?_toArray, List.getElem?_cons_succ, List.getElem?_cons_zero]; exact rfl) rfl) rfl (fun w' hS hV K hK => ?_) ?_
    · have e0 : x 0 = (.pointer (some ⟨g, 0, none⟩)) := hV 0 (by decide)
      have e1 : x 1 = (.pointer (some ⟨g, 0, none⟩)) := hV 1 (by decide)
      obtain ⟨q0, q1, q2⟩ := hS.1.three; have qb := hS.2.1
      go_simp
      exact hK.out _ _ _ rfl rfl rfl (Below.refl _ _)
    simp only [List.setIfInBounds_toArray, List.set_cons_zero, List.set_cons_succ]
    refine obs_step (Eq.trans (by simp only [List.getElem?_toArray, List.getElem?_cons_succ, List.getElem?_cons_zero]; exact rfl) rfl) rfl (fun w' hS hV K hK => ?_) ?_
    · have e0 : x 0 = (.pointer (some ⟨g, 0, none⟩)) := hV 0 (by decide)
      have e1 : x 1 = (.pointer (some ⟨g, 0, none⟩)) := hV 1 (by decide)
      have e2 : x 2 = (.pointer (some ⟨g, 1, none⟩)) := hV 2 (by decide)
      obtain ⟨q0, q1, q2⟩ := hS.1.three; have qb := hS.2.1
      go_simp
      exact hK.out _ _ _ rfl rfl rfl (Below.refl _ _)
    simp only [List.setIfInBounds_toArray, List.set_cons_zero, List.set_cons_succ]
    refine obs_step (Eq.trans (by simp only [List.getElem?_toArray, List.getElem?_cons_succ, List.getElem?_cons_zero]; exact rfl) rfl) rfl (fun w' hS hV K hK => ?_) ?_
    · obtain ⟨q0, q1, q2⟩ := hS.1.three; have qb := hS.2.1
      go_simp
      exact hK.out _ _ _ rfl rfl rfl (Below.refl _ _)
    simp only [List.setIfInBounds_toArray, List.set_cons_zero, List.set_cons_succ]
    refine obs_step (Eq.trans (by simp only [List.getElem?_toArray, List.getElem?_cons_succ, List.getElem?_cons_zero]; exact rfl) rfl) rfl (fun w' hS hV K hK => ?_) ?_
    · have e4 : x 4 = (.pointer (some ⟨g, 0, none⟩)) := hV 4 (by decide)
      obtain ⟨q0, q1, q2⟩ := hS.1.three; have qb := hS.2.1
      go_simp
      exact hK.out _ _ _ rfl rfl rfl (Below.refl _ _)
    simp only [List.setIfInBounds_toArray, List.set_cons_zero, List.set_cons_succ]
    refine obs_step (Eq.trans (by simp only [List.getElem?_toArray, List.getElem?_cons_succ, List.getElem?_cons_zero]; exact rfl) rfl) rfl (fun w' hS hV K hK => ?_) ?_
    · have e4 : x 4 = (.pointer (some ⟨g, 0, none⟩)) := hV 4 (by decide)
      have e5 : x 5 = (.pointer (some ⟨g, 0, none⟩)) := hV 5 (by decide)
      obtain ⟨q0, q1, q2⟩ := hS.1.three; have qb := hS.2.1
      go_simp
      exact hK.out _ _ _ rfl rfl rfl (Below.refl _ _)
    simp only [List.setIfInBounds_toArray, List.set_cons_zero, List.set_cons_succ]
    refine obs_step (Eq.trans (by simp only [List.getElem?_toArray, List.getElem?_cons_succ, List.getElem?_cons_zero]; exact rfl) rfl) rfl (fun w' hS hV K hK => ?_) ?_
    · have e4 : x 4 = (.pointer (some ⟨g, 0, none⟩)) := hV 4 (by decide)
      have e5 : x 5 = (.pointer (some ⟨g, 0, none⟩)) := hV 5 (by decide)
      have e6 : x 6 = (.pointer (some ⟨g, 0, none⟩)) := hV 6 (by decide)
      obtain ⟨q0, q1, q2⟩ := hS.1.three; have qb := hS.2.1
      go_simp
      exact hK.out _ _ _ rfl rfl rfl (Below.refl _ _)
    simp only [List.setIfInBounds_toArray, List.set_cons_zero, List.set_cons_succ]
    refine obs_step (Eq.trans (by simp only [List.getElem?_toArray, List.getElem?_cons_succ, List.getElem?_cons_zero]; exact rfl) rfl) rfl (fun w' hS hV K hK => ?_) ?_
    · have e4 : x 4 = (.pointer (some ⟨g, 0, none⟩)) := hV 4 (by decide)
      have e5 : x 5 = (.pointer (some ⟨g, 0, none⟩)) := hV 5 (by decide)
      have e6 : x 6 = (.pointer (some ⟨g, 0, none⟩)) := hV 6 (by decide)
      have e7 : x 7 = (.slice (some ⟨gb, ob, none⟩) nb cb) := hV 7 (by decide)
      obtain ⟨q0, q1, q2⟩ := hS.1.three; have qb := hS.2.1
      go_simp
      exact hK.out _ _ _ rfl rfl rfl (Below.refl _ _)
    simp only [List.setIfInBounds_toArray, List.set_cons_zero, List.set_cons_succ]
    refine obs_step (Eq.trans (by simp only [List.getElem?_toArray, List.getElem?_cons_succ, List.getElem?_cons_zero]; exact rfl) rfl) rfl (fun w' hS hV K hK => ?_) ?_
    · have e0 : x 0 = (.pointer (some ⟨g, 0, none⟩)) := hV 0 (by decide)
      have e1 : x 1 = (.pointer (some ⟨g, 0, none⟩)) := hV 1 (by decide)
      have e2 : x 2 = (.pointer (some ⟨g, 1, none⟩)) := hV 2 (by decide)
      have e3 : x 3 = (.int .i64 (pl)) := hV 3 (by decide)
      have e4 : x 4 = (.pointer (some ⟨g, 0, none⟩)) := hV 4 (by decide)
      have e5 : x 5 = (.pointer (some ⟨g, 0, none⟩)) := hV 5 (by decide)
      have e6 : x 6 = (.pointer (some ⟨g, 0, none⟩)) := hV 6 (by decide)
      have e7 : x 7 = (.slice (some ⟨gb, ob, none⟩) nb cb) := hV 7 (by decide)
      have e8 : x 8 = (.int .i64 (nb)) := hV 8 (by decide)
      obtain ⟨q0, q1, q2⟩ := hS.1.three; have qb := hS.2.1
      go_simp
      exact hK.out _ _ _ rfl rfl rfl (Below.refl _ _)
    simp only [List.setIfInBounds_toArray, List.set_cons_zero, List.set_cons_succ]
    refine fun w' hS hV => ?_
    have e0 : x 0 = (.pointer (some ⟨g, 0, none⟩)) := hV 0 (by decide)
    have e1 : x 1 = (.pointer (some ⟨g, 0, none⟩)) := hV 1 (by decide)
    have e2 : x 2 = (.pointer (some ⟨g, 1, none⟩)) := hV 2 (by decide)
    have e3 : x 3 = (.int .i64 (pl)) := hV 3 (by decide)
    have e4 : x 4 = (.pointer (some ⟨g, 0, none⟩)) := hV 4 (by decide)
    have e5 : x 5 = (.pointer (some ⟨g, 0, none⟩)) := hV 5 (by decide)
    have e6 : x 6 = (.pointer (some ⟨g, 0, none⟩)) := hV 6 (by decide)
    have e7 : x 7 = (.slice (some ⟨gb, ob, none⟩) nb cb) := hV 7 (by decide)
    have e8 : x 8 = (.int .i64 (nb)) := hV 8 (by decide)
    have e9 : x 9 = (.bool true) := hV 9 (by decide)
    simp only [e0, e1, e2, e3, e4, e5, e6, e7, e8, e9]
    clear e0 e1 e2 e3 e4 e5 e6 e7 e8 e9
    refine wpAny_done (by kernel_rfl) ?_ _
    obtain ⟨w2, rfl⟩ : ∃ W, W = w' := ⟨_, rfl⟩
    obtain ⟨k2, hcb2, hb2⟩ := hS
    have HR2 := Lib.hid (HR1.out.below hb2)
    have HD2 := Lib.hid (HD.out.trans (Dr.of_below HD.out.s' hb2))
    clear k1 hcb hb2
    go_wp2
    refine wp_obs 13 [[], [], [1], [1, 2], [1, 2, 3], [], [5], [5, 6], [5, 6, 7], [1, 2, 3, 4, 5, 6, 7, 8], [1, 2, 3, 4, 5, 6, 7, 8, 9], [1, 2, 3, 4, 5, 6, 7, 8, 9, 10], [0, 1, 2, 3, 4, 5, 6, 7, 8, 9, 10, 11], [0, 1, 2, 3, 4, 5, 6, 7, 8, 9, 10, 11, 12]] [VIs (.int .i64 (X)), VIs (.pointer (some ⟨g, 0, none⟩)), VIs (.pointer (some ⟨g, 0, none⟩)), VIs (.pointer (some ⟨g, 0, none⟩)), VIs (.slice (some ⟨gb, ob, none⟩) nb cb), VIs (.pointer (some ⟨g, 0, none⟩)), VIs (.pointer (some ⟨g, 0, none⟩)), VIs (.pointer (some ⟨g, 1, none⟩)), VIs (.int .i64 (pl)), VIs (.pointer (some ⟨gb, ob + pl, none⟩)), VIs (.int .u8 bb), VIs (.int .i64 (bb)), VIs (.int .i64 (X + bb))] (fun w' => Blk w' g 121 #[.slice (some ⟨gb, ob, none⟩) nb cb, .int .i64 pl, .int .u64 H] ∧ w'.cell? ⟨gb, ob + pl, none⟩ = some (.int .u8 bb) ∧ Below w2.heap.size w2 w') (by kernel_rfl) (by kernel_rfl) (fun _ _ h hb => ⟨h.1.below hb h.1.lt, (hb.cell (World.block_lt_of_cell? _ _ h.2.1)).trans h.2.1, h.2.2.trans (hb.mono h.2.2.size)⟩) (⟨k2.drew, hcb2, (Below.refl _ _).drew⟩) (fun x => ?_)
    refine obs_step (Eq.trans (by simp only [List.getElem?_toArray, List.getElem?_cons_zero]; exact rfl) rfl) rfl (fun w' hS hV K hK => ?_) ?_
    · obtain ⟨q0, q1, q2⟩ := hS.1.three; have qb := hS.2.1
      go_simp
      exact hK.out _ _ _ rfl rfl rfl (Below.refl _ _)
    simp only [List.setIfInBounds_toArray, List.set_cons_zero, List.set_cons_succ]
    refine obs_step (Eq.trans (by simp only [List.getElem?_toArray, List.getElem?_cons_succ, List.getElem?_cons_zero]; exact rfl) rfl) rfl (fun w' hS hV K hK => ?_) ?_
    · obtain ⟨q0, q1, q2⟩ := hS.1.three; have qb := hS.2.1
      go_simp
      exact hK.out _ _ _ rfl rfl rfl (Below.refl _ _)
    simp only [List.setIfInBounds_toArray, List.set_cons_zero, List.set_cons_succ]
    refine obs_step (Eq.trans (by simp only [List.getElem?_toArray, List.getElem?_cons_succ, List.getElem?_cons_zero]; exact rfl) rfl) rfl (fun w' hS hV K hK => ?_) ?_
    · have e1 : x 1 = (.pointer (some ⟨g, 0, none⟩)) := hV 1 (by decide)
      obtain ⟨q0, q1, q2⟩ := hS.1.three; have qb := hS.2.1
      go_simp
      exact hK.out _ _ _ rfl rfl rfl (Below.refl _ _)
    simp only [List.setIfInBounds_toArray, List.set_cons_zero, List.set_cons_succ]
    refine obs_step (Eq.trans (by simp only [List.getElem?_toArray, List.getElem?_cons_succ, List.getElem?_cons_zero]; exact rfl) rfl) rfl (fun w' hS hV K hK => ?_) ?_
    · have e1 : x 1 = (.pointer (some ⟨g, 0, none⟩)) := hV 1 (by decide)
      have e2 : x 2 = (.pointer (some ⟨g, 0, none⟩)) := hV 2 (by decide)
      obtain ⟨q0, q1, q2⟩ := hS.1.three; have qb := hS.2.1
      go_simp
      exact hK.out _ _ _ rfl rfl rfl (Below.refl _ _)
    simp only [List.setIfInBounds_toArray, List.set_cons_zero, List.set_cons_succ]
    refine obs_step (Eq.trans (by simp only [List.getElem?_toArray, List.getElem?_cons_succ, List.getElem?_cons_zero]; exact rfl) rfl) rfl (fun w' hS hV K hK => ?_) ?_
    · have e1 : x 1 = (.pointer (some ⟨g, 0, none⟩)) := hV 1 (by decide)
      have e2 : x 2 = (.pointer (some ⟨g, 0, none⟩)) := hV 2 (by decide)
      have e3 : x 3 = (.pointer (some ⟨g, 0, none⟩)) := hV 3 (by decide)
      obtain ⟨q0, q1, q2⟩ := hS.1.three; have qb := hS.2.1
      go_simp
      exact hK.out _ _ _ rfl rfl rfl (Below.refl _ _)
    simp only [List.setIfInBounds_toArray, List.set_cons_zero, List.set_cons_succ]
    refine obs_step (Eq.trans (by simp only [List.getElem?_toArray, List.getElem?_cons_succ, List.getElem?_cons_zero]; exact rfl) rfl) rfl (fun w' hS hV K hK => ?_) ?_
    · obtain ⟨q0, q1, q2⟩ := hS.1.three; have qb := hS.2.1
      go_simp
      exact hK.out _ _ _ rfl rfl rfl (Below.refl _ _)
    simp only [List.setIfInBounds_toArray, List.set_cons_zero, List.set_cons_succ]
    refine obs_step (Eq.trans (by simp only [List.getElem?_toArray, List.getElem?_cons_succ, List.getElem?_cons_zero]; exact rfl) rfl) rfl (fun w' hS hV K hK => ?_) ?_
    · have e5 : x 5 = (.pointer (some ⟨g, 0, none⟩)) := hV 5 (by decide)
      obtain ⟨q0, q1, q2⟩ := hS.1.three; have qb := hS.2.1
      go_simp
      exact hK.out _ _ _ rfl rfl rfl (Below.refl _ _)
    simp only [List.setIfInBounds_toArray, List.set_cons_zero, List.set_cons_succ]
    refine obs_step (Eq.trans (by simp only [List.getElem?_toArray, List.getElem?_cons_succ, List.getElem?_cons_zero]; exact rfl) rfl) rfl (fun w' hS hV K hK => ?_) ?_
    · have e5 : x 5 = (.pointer (some ⟨g, 0, none⟩)) := hV 5 (by decide)
      have e6 : x 6 = (.pointer (some ⟨g, 0, none⟩)) := hV 6 (by decide)
      obtain ⟨q0, q1, q2⟩ := hS.1.three; have qb := hS.2.1
      go_simp
      exact hK.out _ _ _ rfl rfl rfl (Below.refl _ _)
    simp only [List.setIfInBounds_toArray, List.set_cons_zero, List.set_cons_succ]
    refine obs_step (Eq.trans (by simp only [List.getElem?_toArray, List.getElem?_cons_succ, List.getElem?_cons_zero]; exact rfl) rfl) rfl (fun w' hS hV K hK => ?_) ?_
    · have e5 : x 5 = (.pointer (some ⟨g, 0, none⟩)) := hV 5 (by decide)
      have e6 : x 6 = (.pointer (some ⟨g, 0, none⟩)) := hV 6 (by decide)
      have e7 : x 7 = (.pointer (some ⟨g, 1, none⟩)) := hV 7 (by decide)
      obtain ⟨q0, q1, q2⟩ := hS.1.three; have qb := hS.2.1
      go_simp
      exact hK.out _ _ _ rfl rfl rfl (Below.refl _ _)
    simp only [List.setIfInBounds_toArray, List.set_cons_zero, List.set_cons_succ]
    refine obs_step (Eq.trans (by simp only [List.getElem?_toArray, List.getElem?_cons_succ, List.getElem?_cons_zero]; exact rfl) rfl) rfl (fun w' hS hV K hK => ?_) ?_
    · have e1 : x 1 = (.pointer (some ⟨g, 0, none⟩)) := hV 1 (by decide)
      have e2 : x 2 = (.pointer (some ⟨g, 0, none⟩)) := hV 2 (by decide)
      have e3 : x 3 = (.pointer (some ⟨g, 0, none⟩)) := hV 3 (by decide)
      have e4 : x 4 = (.slice (some ⟨gb, ob, none⟩) nb cb) := hV 4 (by decide)
      have e5 : x 5 = (.pointer (some ⟨g, 0, none⟩)) := hV 5 (by decide)
      have e6 : x 6 = (.pointer (some ⟨g, 0, none⟩)) := hV 6 (by decide)
      have e7 : x 7 = (.pointer (some ⟨g, 1, none⟩)) := hV 7 (by decide)
      have e8 : x 8 = (.int .i64 (pl)) := hV 8 (by decide)
      obtain ⟨q0, q1, q2⟩ := hS.1.three; have qb := hS.2.1
      go_simp
      exact hK.out _ _ _ rfl rfl rfl (Below.refl _ _)
    simp only [List.setIfInBounds_toArray, List.set_cons_zero, List.set_cons_succ]
    refine obs_step (Eq.trans (by simp only [List.getElem?_toArray, List.getElem?_cons_succ, List.getElem?_cons_zero]; exact rfl) rfl) rfl (fun w' hS hV K hK => ?_) ?_
    · have e1 : x 1 = (.pointer (some ⟨g, 0, none⟩)) := hV 1 (by decide)
      have e2 : x 2 = (.pointer (some ⟨g, 0, none⟩)) := hV 2 (by decide)
      have e3 : x 3 = (.pointer (some ⟨g, 0, none⟩)) := hV 3 (by decide)
      have e4 : x 4 = (.slice (some ⟨gb, ob, none⟩) nb cb) := hV 4 (by decide)
      have e5 : x 5 = (.pointer (some ⟨g, 0, none⟩)) := hV 5 (by decide)
      have e6 : x 6 = (.pointer (some ⟨g, 0, none⟩)) := hV 6 (by decide)
      have e7 : x 7 = (.pointer (some ⟨g, 1, none⟩)) := hV 7 (by decide)
      have e8 : x 8 = (.int .i64 (pl)) := hV 8 (by decide)
      have e9 : x 9 = (.pointer (some ⟨gb, ob + pl, none⟩)) := hV 9 (by decide)
      obtain ⟨q0, q1, q2⟩ := hS.1.three; have qb := hS.2.1
      go_simp
      exact hK.out _ _ _ rfl rfl rfl (Below.refl _ _)
    simp only [List.setIfInBounds_toArray, List.set_cons_zero, List.set_cons_succ]
    refine obs_step (Eq.trans (by simp only [List.getElem?_toArray, List.getElem?_cons_succ, List.getElem?_cons_zero]; exact rfl) rfl) rfl (fun w' hS hV K hK => ?_) ?_
    · have e1 : x 1 = (.pointer (some ⟨g, 0, none⟩)) := hV 1 (by decide)
      have e2 : x 2 = (.pointer (some ⟨g, 0, none⟩)) := hV 2 (by decide)
      have e3 : x 3 = (.pointer (some ⟨g, 0, none⟩)) := hV 3 (by decide)
      have e4 : x 4 = (.slice (some ⟨gb, ob, none⟩) nb cb) := hV 4 (by decide)
      have e5 : x 5 = (.pointer (some ⟨g, 0, none⟩)) := hV 5 (by decide)
      have e6 : x 6 = (.pointer (some ⟨g, 0, none⟩)) := hV 6 (by decide)
      have e7 : x 7 = (.pointer (some ⟨g, 1, none⟩)) := hV 7 (by decide)
      have e8 : x 8 = (.int .i64 (pl)) := hV 8 (by decide)
      have e9 : x 9 = (.pointer (some ⟨gb, ob + pl, none⟩)) := hV 9 (by decide)
      have e10 : x 10 = (.int .u8 bb) := hV 10 (by decide)
      obtain ⟨q0, q1, q2⟩ := hS.1.three; have qb := hS.2.1
      go_simp
      exact hK.out _ _ _ rfl rfl rfl (Below.refl _ _)
    simp only [List.setIfInBounds_toArray, List.set_cons_zero, List.set_cons_succ]
    refine obs_step (Eq.trans (by simp only [List.getElem?_toArray, List.getElem?_cons_succ, List.getElem?_cons_zero]; exact rfl) rfl) rfl (fun w' hS hV K hK => ?_) ?_
    · have e0 : x 0 = (.int .i64 (X)) := hV 0 (by decide)
      have e1 : x 1 = (.pointer (some ⟨g, 0, none⟩)) := hV 1 (by decide)
      have e2 : x 2 = (.pointer (some ⟨g, 0, none⟩)) := hV 2 (by decide)
      have e3 : x 3 = (.pointer (some ⟨g, 0, none⟩)) := hV 3 (by decide)
      have e4 : x 4 = (.slice (some ⟨gb, ob, none⟩) nb cb) := hV 4 (by decide)
      have e5 : x 5 = (.pointer (some ⟨g, 0, none⟩)) := hV 5 (by decide)
      have e6 : x 6 = (.pointer (some ⟨g, 0, none⟩)) := hV 6 (by decide)
      have e7 : x 7 = (.pointer (some ⟨g, 1, none⟩)) := hV 7 (by decide)
      have e8 : x 8 = (.int .i64 (pl)) := hV 8 (by decide)
      have e9 : x 9 = (.pointer (some ⟨gb, ob + pl, none⟩)) := hV 9 (by decide)
      have e10 : x 10 = (.int .u8 bb) := hV 10 (by decide)
      have e11 : x 11 = (.int .i64 (bb)) := hV 11 (by decide)
      obtain ⟨q0, q1, q2⟩ := hS.1.three; have qb := hS.2.1
      go_simp
      exact hK.out _ _ _ rfl rfl rfl (Below.refl _ _)
    simp only [List.setIfInBounds_toArray, List.set_cons_zero, List.set_cons_succ]
    refine fun w' hS hV => ?_
    have e0 : x 0 = (.int .i64 (X)) := hV 0 (by decide)
    have e1 : x 1 = (.pointer (some ⟨g, 0, none⟩)) := hV 1 (by decide)
    have e2 : x 2 = (.pointer (some ⟨g, 0, none⟩)) := hV 2 (by decide)
    have e3 : x 3 = (.pointer (some ⟨g, 0, none⟩)) := hV 3 (by decide)
    have e4 : x 4 = (.slice (some ⟨gb, ob, none⟩) nb cb) := hV 4 (by decide)
    have e5 : x 5 = (.pointer (some ⟨g, 0, none⟩)) := hV 5 (by decide)
    have e6 : x 6 = (.pointer (some ⟨g, 0, none⟩)) := hV 6 (by decide)
    have e7 : x 7 = (.pointer (some ⟨g, 1, none⟩)) := hV 7 (by decide)
    have e8 : x 8 = (.int .i64 (pl)) := hV 8 (by decide)
    have e9 : x 9 = (.pointer (some ⟨gb, ob + pl, none⟩)) := hV 9 (by decide)
    have e10 : x 10 = (.int .u8 bb) := hV 10 (by decide)
    have e11 : x 11 = (.int .i64 (bb)) := hV 11 (by decide)
    have e12 : x 12 = (.int .i64 (X + bb)) := hV 12 (by decide)
    simp only [e0, e1, e2, e3, e4, e5, e6, e7, e8, e9, e10, e11, e12]
    clear e0 e1 e2 e3 e4 e5 e6 e7 e8 e9 e10 e11 e12
    refine any_one (j := 13) (by kernel_rfl) (Eq.trans (by simp only [List.getElem?_toArray, List.getElem?_cons_succ, List.getElem?_cons_zero]; exact rfl) rfl) (fun K hK => ?_)
    go_simp
    refine hK.out _ _ (wpAny_done (by kernel_rfl) ?_ _)
    obtain ⟨w3, rfl⟩ : ∃ W, W = w' := ⟨_, rfl⟩
    obtain ⟨k3, hcb3, hb3⟩ := hS
    have HR3 := Lib.hid (HR2.out.below hb3)
    have HD3 := Lib.hid (HD2.out.trans (Dr.of_below HD2.out.s' hb3))
    obtain ⟨hd4, k4, r4⟩ := Dr.set k3 HR3.out HBS.out hpl hnb HBG.out 1 (.int .i64 ((pl + 1 : Nat) : Int)) (pl' := pl + 1) (h' := H) (by simp) hpn
    have HD4 := Lib.hid (HD3.out.trans hd4)
    have q1 : w3.cell? ⟨g, 1, none⟩ = some (.int .i64 pl) := k3.cell 1
    have f1 := k3.frozen 1
    have HK4 := Lib.hid k4
    have HR4 := Lib.hid r4
    clear k2 hcb2 hb3 hd4 k4 r4
    go_wp2
    go_ret
    first
      | exact ⟨(X + bb) % n, rfl, Int.emod_nonneg _ hN2, Int.emod_lt_of_pos _ (by omega), HD4.out, pl + 1, H, ⟨_, _, _, HK4.out, HR4.out, HBS.out, hpn, hnb, HBG.out⟩, by first | rfl | rw [if_pos hpn], HHG.out, fun e => by omega⟩
      | (rw [W5]; exact ⟨(X + bb) % n, rfl, Int.emod_nonneg _ hN2, Int.emod_lt_of_pos _ (by omega), HD4.out, pl + 1, H, ⟨_, _, _, HK4.out, HR4.out, HBS.out, hpn, hnb, HBG.out⟩, by first | rfl | rw [if_pos hpn], HHG.out, fun e => by omega⟩)
  · have dl : decide ((pl : Int) < (nb : Int)) = false := by simp; omega
    have T1 := Int.tmod_eq_emod_of_nonneg (b := n) (show 0 ≤ X by omega)
    clear hbs r1
    go_wp2
    refine wp_obs 10 [[], [0], [0, 1], [0, 1, 2], [], [4], [4, 5], [4, 5, 6], [4, 5, 6, 7], [0, 1, 2, 3, 4, 5, 6, 7, 8]] [VIs (.pointer (some ⟨g, 0, none⟩)), VIs (.pointer (some ⟨g, 0, none⟩)), VIs (.pointer (some ⟨g, 1, none⟩)), VIs (.int .i64 (pl)), VIs (.pointer (some ⟨g, 0, none⟩)), VIs (.pointer (some ⟨g, 0, none⟩)), VIs (.pointer (some ⟨g, 0, none⟩)), VIs (.slice B nb cb), VIs (.int .i64 (nb)), VIs (.bool false)] (fun w' => Blk w' g 121 #[.slice B nb cb, .int .i64 pl, .int .u64 H] ∧ Below w1.heap.size w1 w') (by kernel_rfl) (by kernel_rfl) (fun _ _ h hb => ⟨h.1.below hb h.1.lt, h.2.trans (hb.mono h.2.size)⟩) (⟨k1.drew, (Below.refl _ _).drew⟩) (fun x => ?_)
    refine obs_step (Eq.trans (by simp only [List.getElem?_toArray, List.getElem?_cons_zero]; exact rfl) rfl) rfl (fun w' hS hV K hK => ?_) ?_
    · obtain ⟨q0, q1, q2⟩ := hS.1.three
      go_simp
      exact hK.out _ _ _ rfl rfl rfl (Below.refl _ _)
    simp only [List.setIfInBounds_toArray, List.set_cons_zero, List.set_cons_succ]
    refine obs_step (Eq.trans (by simp only [List.getElem?_toArray, List.getElem?_cons_succ, List.getElem?_cons_zero]; exact rfl) rfl) rfl (fun w' hS hV K hK => ?_) ?_
    · have e0 : x 0 = (.pointer (some ⟨g, 0, none⟩)) := hV 0 (by decide)
      obtain ⟨q0, q1, q2⟩ := hS.1.three
      go_simp
      exact hK.out _ _ _ rfl rfl rfl (Below.refl _ _)
    simp only [List.setIfInBounds_toArray, List.set_cons_zero, List.set_cons_succ]
    refine obs_step (Eq.trans (by simp only [List.getElem?_toArray, List.getElem?_cons_succ, List.getElem?_cons_zero]; exact rfl) rfl) rfl (fun w' hS hV K hK => ?_) ?_
    · have e0 : x 0 = (.pointer (some ⟨g, 0, none⟩)) := hV 0 (by decide)
      have e1 : x 1 = (.pointer (some ⟨g, 0, none⟩)) := hV 1 (by decide)
      obtain ⟨q0, q1, q2⟩ := hS.1.three
      go_simp
      exact hK.out _ _ _ rfl rfl rfl (Below.refl _ _)
    simp only [List.setIfInBounds_toArray, List.set_cons_zero, List.set_cons_succ]
    refine obs_step (Eq.trans (by simp only [List.getElem?_toArray, List.getElem?_cons_succ, List.getElem?_cons_zero]; exact rfl) rfl) rfl (fun w' hS hV K hK => ?_) ?_
    · have e0 : x 0 = (.pointer (some ⟨g, 0, none⟩)) := hV 0 (by decide)
      have e1 : x 1 = (.pointer (some ⟨g, 0, none⟩)) := hV 1 (by decide)
      have e2 : x 2 = (.pointer (some ⟨g, 1, none⟩)) := hV 2 (by decide)
      obtain ⟨q0, q1, q2⟩ := hS.1.three
      go_simp
      exact hK.out _ _ _ rfl rfl rfl (Below.refl _ _)
    simp only [List.setIfInBounds_toArray, List.set_cons_zero, List.set_cons_succ]
    refine obs_step (Eq.trans (by simp only [List.getElem?_toArray, List.getElem?_cons_succ, List.getElem?_cons_zero]; exact rfl) rfl) rfl (fun w' hS hV K hK => ?_) ?_
    · obtain ⟨q0, q1, q2⟩ := hS.1.three
      go_simp
      exact hK.out _ _ _ rfl rfl rfl (Below.refl _ _)
    simp only [List.setIfInBounds_toArray, List.set_cons_zero, List.set_cons_succ]
    refine obs_step (Eq.trans (by simp only [List.getElem?_toArray, List.getElem?_cons_succ, List.getElem?_cons_zero]; exact rfl) rfl) rfl (fun w' hS hV K hK => ?_) ?_
    · have e4 : x 4 = (.pointer (some ⟨g, 0, none⟩)) := hV 4 (by decide)
      obtain ⟨q0, q1, q2⟩ := hS.1.three
      go_simp
      exact hK.out _ _ _ rfl rfl rfl (Below.refl _ _)
    simp only [List.setIfInBounds_toArray, List.set_cons_zero, List.set_cons_succ]
    refine obs_step (Eq.trans (by simp only [List.getElem?_toArray, List.getElem?_cons_succ, List.getElem?_cons_zero]; exact rfl) rfl) rfl (fun w' hS hV K hK => ?_) ?_
    · have e4 : x 4 = (.pointer (some ⟨g, 0, none⟩)) := hV 4 (by decide)
      have e5 : x 5 = (.pointer (some ⟨g, 0, none⟩)) := hV 5 (by decide)
      obtain ⟨q0, q1, q2⟩ := hS.1.three
      go_simp
      exact hK.out _ _ _ rfl rfl rfl (Below.refl _ _)
    simp only [List.setIfInBounds_toArray, List.set_cons_zero, List.set_cons_succ]
    refine obs_step (Eq.trans (by simp only [List.getElem?_toArray, List.getElem?_cons_succ, List.getElem?_cons_zero]; exact rfl) rfl) rfl (fun w' hS hV K hK => ?_) ?_
    · have e4 : x 4 = (.pointer (some ⟨g, 0, none⟩)) := hV 4 (by decide)
      have e5 : x 5 = (.pointer (some ⟨g, 0, none⟩)) := hV 5 (by decide)
      have e6 : x 6 = (.pointer (some ⟨g, 0, none⟩)) := hV 6 (by decide)
      obtain ⟨q0, q1, q2⟩ := hS.1.three
      go_simp
      exact hK.out _ _ _ rfl rfl rfl (Below.refl _ _)
    simp only [List.setIfInBounds_toArray, List.set_cons_zero, List.set_cons_succ]
    refine obs_step (Eq.trans (by simp only [List.getElem?_toArray, List.getElem?_cons_succ, List.getElem?_cons_zero]; exact rfl) rfl) rfl (fun w' hS hV K hK => ?_) ?_
    · have e4 : x 4 = (.pointer (some ⟨g, 0, none⟩)) := hV 4 (by decide)
      have e5 : x 5 = (.pointer (some ⟨g, 0, none⟩)) := hV 5 (by decide)
      have e6 : x 6 = (.pointer (some ⟨g, 0, none⟩)) := hV 6 (by decide)
      have e7 : x 7 = (.slice B nb cb) := hV 7 (by decide)
      obtain ⟨q0, q1, q2⟩ := hS.1.three
      go_simp
      exact hK.out _ _ _ rfl rfl rfl (Below.refl _ _)
    simp only [List.setIfInBounds_toArray, List.set_cons_zero, List.set_cons_succ]
    refine obs_step (Eq.trans (by simp only [List.getElem?_toArray, List.getElem?_cons_succ, List.getElem?_cons_zero]; exact rfl) rfl) rfl (fun w' hS hV K hK => ?_) ?_
    · have e0 : x 0 = (.pointer (some ⟨g, 0, none⟩)) := hV 0 (by decide)
      have e1 : x 1 = (.pointer (some ⟨g, 0, none⟩)) := hV 1 (by decide)
      have e2 : x 2 = (.pointer (some ⟨g, 1, none⟩)) := hV 2 (by decide)
      have e3 : x 3 = (.int .i64 (pl)) := hV 3 (by decide)
      have e4 : x 4 = (.pointer (some ⟨g, 0, none⟩)) := hV 4 (by decide)
      have e5 : x 5 = (.pointer (some ⟨g, 0, none⟩)) := hV 5 (by decide)
      have e6 : x 6 = (.pointer (some ⟨g, 0, none⟩)) := hV 6 (by decide)
      have e7 : x 7 = (.slice B nb cb) := hV 7 (by decide)
      have e8 : x 8 = (.int .i64 (nb)) := hV 8 (by decide)
      obtain ⟨q0, q1, q2⟩ := hS.1.three
      go_simp
      exact hK.out _ _ _ rfl rfl rfl (Below.refl _ _)
    simp only [List.setIfInBounds_toArray, List.set_cons_zero, List.set_cons_succ]
    refine fun w' hS hV => ?_
    have e0 : x 0 = (.pointer (some ⟨g, 0, none⟩)) := hV 0 (by decide)
    have e1 : x 1 = (.pointer (some ⟨g, 0, none⟩)) := hV 1 (by decide)
    have e2 : x 2 = (.pointer (some ⟨g, 1, none⟩)) := hV 2 (by decide)
    have e3 : x 3 = (.int .i64 (pl)) := hV 3 (by decide)
    have e4 : x 4 = (.pointer (some ⟨g, 0, none⟩)) := hV 4 (by decide)
    have e5 : x 5 = (.pointer (some ⟨g, 0, none⟩)) := hV 5 (by decide)
    have e6 : x 6 = (.pointer (some ⟨g, 0, none⟩)) := hV 6 (by decide)
    have e7 : x 7 = (.slice B nb cb) := hV 7 (by decide)
    have e8 : x 8 = (.int .i64 (nb)) := hV 8 (by decide)
    have e9 : x 9 = (.bool false) := hV 9 (by decide)
    simp only [e0, e1, e2, e3, e4, e5, e6, e7, e8, e9]
    clear e0 e1 e2 e3 e4 e5 e6 e7 e8 e9
    refine wpAny_done (by kernel_rfl) ?_ _
    obtain ⟨w2, rfl⟩ : ∃ W, W = w' := ⟨_, rfl⟩
    obtain ⟨k2, hb2⟩ := hS
    have HD2 := Lib.hid (HD.out.trans (Dr.of_below HD.out.s' hb2))
    have HK2 := Lib.hid k2
    have HR2 := Lib.hid (HR1.out.below hb2)
    clear k1 hb2 k2
    go_wp2
    go_ret
    exact ⟨X % n, rfl, Int.emod_nonneg _ hN2, Int.emod_lt_of_pos _ (by omega), HD2.out, pl, H, ⟨_, _, _, HK2.out, HR2.out, HBS.out, hpl, hnb, HBG.out⟩, by first | rfl | rw [if_neg hpn], HHG.out, fun _ => by rw [HXG.out]⟩
end Go.Proofs.YticofgmmjecleaaGreatDoor
namespace Go.Proofs.YticofgmmjecleaaGreatDoor
open Go.Shelf
def lays171_ren : Go.Shelf.Ren := ⟨fun | 171 => 114 | 243 => 137 | 246 => 151 | 283 => 173 | 284 => 174 | 285 => 175 | 286 => 176 | 129 => 190 | 317 => 189 | 318 => 191 | 319 => 192 | 320 => 193 | 337 => 197 | 338 => 198 | n => n, fun | 3 => 3 | 9 => 9 | 2 => 2 | 4 => 4 | 171 => 164 | 0 => 0 | 53 => 58 | 37 => 43 | 5 => 5 | 173 => 167 | 212 => 186 | 51 => 176 | 20 => 20 | 213 => 187 | 46 => 126 | 232 => 204 | 233 => 205 | n => n, fun | 17 => 3 | 18 => 4 | 19 => 5 | n => n⟩
theorem lays171 : Go.Proofs.Lays.n171 Tryz.prog lays171_ren := {
  mixed := by kernel_rfl
  f129 := Tryz.func190.trans (congrArg some (by kernel_rfl))
  f171 := Tryz.func114.trans (congrArg some (by kernel_rfl))
  f243 := Tryz.func137.trans (congrArg some (by kernel_rfl))
  f246 := Tryz.func151.trans (congrArg some (by kernel_rfl))
  f283 := Tryz.func173.trans (congrArg some (by kernel_rfl))
  f284 := Tryz.func174.trans (congrArg some (by kernel_rfl))
  f285 := Tryz.func175.trans (congrArg some (by kernel_rfl))
  f286 := Tryz.func176.trans (congrArg some (by kernel_rfl))
  f317 := Tryz.func189.trans (congrArg some (by kernel_rfl))
  f318 := Tryz.func191.trans (congrArg some (by kernel_rfl))
  f319 := Tryz.func192.trans (congrArg some (by kernel_rfl))
  f320 := Tryz.func193.trans (congrArg some (by kernel_rfl))
  f337 := Tryz.func197.trans (congrArg some (by kernel_rfl))
  f338 := Tryz.func198.trans (congrArg some (by kernel_rfl))
  t0 := Tryz.underlying0
  a0 := Tryz.isAgg0
  z0 := Tryz.sizeOf0
  v0 := Tryz.zeroValue0
  t2 := Tryz.underlying2
  a2 := Tryz.isAgg2
  z2 := Tryz.sizeOf2
  v2 := Tryz.zeroValue2
  t3 := Tryz.underlying3
  a3 := Tryz.isAgg3
  z3 := Tryz.sizeOf3
  v3 := Tryz.zeroValue3
  t4 := Tryz.underlying4
  a4 := Tryz.isAgg4
  z4 := Tryz.sizeOf4
  v4 := Tryz.zeroValue4
  t5 := Tryz.underlying5
  a5 := Tryz.isAgg5
  z5 := Tryz.sizeOf5
  v5 := Tryz.zeroValue5
  t9 := Tryz.underlying9
  a9 := Tryz.isAgg9
  z9 := Tryz.sizeOf9
  v9 := Tryz.zeroValue9
  t20 := Tryz.underlying20
  a20 := Tryz.isAgg20
  z20 := Tryz.sizeOf20
  v20 := Tryz.zeroValue20
  t37 := Tryz.underlying43
  a37 := Tryz.isAgg43
  z37 := Tryz.sizeOf43
  v37 := Tryz.zeroValue43
  t46 := Tryz.underlying126
  a46 := Tryz.isAgg126
  z46 := Tryz.sizeOf126
  v46 := Tryz.zeroValue126
  t51 := Tryz.underlying176
  a51 := Tryz.isAgg176
  z51 := Tryz.sizeOf176
  v51 := Tryz.zeroValue176
  t53 := Tryz.underlying58
  a53 := Tryz.isAgg58
  z53 := Tryz.sizeOf58
  v53 := Tryz.zeroValue58
  t171 := Tryz.underlying164
  a171 := Tryz.isAgg164
  z171 := Tryz.sizeOf164
  v171 := Tryz.zeroValue164
  t173 := Tryz.underlying167
  a173 := Tryz.isAgg167
  z173 := Tryz.sizeOf167
  v173 := Tryz.zeroValue167
  t212 := Tryz.underlying186
  a212 := Tryz.isAgg186
  z212 := Tryz.sizeOf186
  v212 := Tryz.zeroValue186
  t213 := Tryz.underlying187
  a213 := Tryz.isAgg187
  z213 := Tryz.sizeOf187
  t232 := Tryz.underlying204
  a232 := Tryz.isAgg204
  z232 := Tryz.sizeOf204
  v232 := Tryz.zeroValue204
  t233 := Tryz.underlying205
  a233 := Tryz.isAgg205
  z233 := Tryz.sizeOf205
  v233 := Tryz.zeroValue205
  g17 := by kernel_rfl
  g18 := by kernel_rfl
  g19 := by kernel_rfl }
def laysM173_ren : Go.Shelf.Ren := ⟨fun | 173 => 124 | 246 => 151 | 283 => 173 | 284 => 174 | 285 => 175 | 286 => 176 | 129 => 190 | 317 => 189 | 318 => 191 | 319 => 192 | 320 => 193 | 337 => 197 | 338 => 198 | n => n, fun | 2 => 2 | 3 => 3 | 9 => 9 | 4 => 4 | 171 => 164 | 0 => 0 | 53 => 58 | 37 => 43 | 5 => 5 | 173 => 167 | 212 => 186 | 51 => 176 | 20 => 20 | 213 => 187 | 46 => 126 | 232 => 204 | 233 => 205 | n => n, fun | 17 => 3 | 18 => 4 | 19 => 5 | n => n⟩
theorem laysM173 : Go.Proofs.LaysM.n173 Tryz.prog laysM173_ren := {
  mixed := by kernel_rfl
  f129 := Tryz.func190.trans (congrArg some (by kernel_rfl))
  f173 := Tryz.func124.trans (congrArg some (by kernel_rfl))
  f246 := Tryz.func151.trans (congrArg some (by kernel_rfl))
  f283 := Tryz.func173.trans (congrArg some (by kernel_rfl))
  f284 := Tryz.func174.trans (congrArg some (by kernel_rfl))
  f285 := Tryz.func175.trans (congrArg some (by kernel_rfl))
  f286 := Tryz.func176.trans (congrArg some (by kernel_rfl))
  f317 := Tryz.func189.trans (congrArg some (by kernel_rfl))
  f318 := Tryz.func191.trans (congrArg some (by kernel_rfl))
  f319 := Tryz.func192.trans (congrArg some (by kernel_rfl))
  f320 := Tryz.func193.trans (congrArg some (by kernel_rfl))
  f337 := Tryz.func197.trans (congrArg some (by kernel_rfl))
  f338 := Tryz.func198.trans (congrArg some (by kernel_rfl))
  t0 := Tryz.underlying0
  a0 := Tryz.isAgg0
  z0 := Tryz.sizeOf0
  v0 := Tryz.zeroValue0
  t2 := Tryz.underlying2
  a2 := Tryz.isAgg2
  z2 := Tryz.sizeOf2
  v2 := Tryz.zeroValue2
  t3 := Tryz.underlying3
  a3 := Tryz.isAgg3
  z3 := Tryz.sizeOf3
  v3 := Tryz.zeroValue3
  t4 := Tryz.underlying4
  a4 := Tryz.isAgg4
  z4 := Tryz.sizeOf4
  v4 := Tryz.zeroValue4
  t5 := Tryz.underlying5
  a5 := Tryz.isAgg5
  z5 := Tryz.sizeOf5
  v5 := Tryz.zeroValue5
  t9 := Tryz.underlying9
  a9 := Tryz.isAgg9
  z9 := Tryz.sizeOf9
  v9 := Tryz.zeroValue9
  t20 := Tryz.underlying20
  a20 := Tryz.isAgg20
  z20 := Tryz.sizeOf20
  v20 := Tryz.zeroValue20
  t37 := Tryz.underlying43
  a37 := Tryz.isAgg43
  z37 := Tryz.sizeOf43
  v37 := Tryz.zeroValue43
  t46 := Tryz.underlying126
  a46 := Tryz.isAgg126
  z46 := Tryz.sizeOf126
  v46 := Tryz.zeroValue126
  t51 := Tryz.underlying176
  a51 := Tryz.isAgg176
  z51 := Tryz.sizeOf176
  v51 := Tryz.zeroValue176
  t53 := Tryz.underlying58
  a53 := Tryz.isAgg58
  z53 := Tryz.sizeOf58
  v53 := Tryz.zeroValue58
  t171 := Tryz.underlying164
  a171 := Tryz.isAgg164
  z171 := Tryz.sizeOf164
  v171 := Tryz.zeroValue164
  t173 := Tryz.underlying167
  a173 := Tryz.isAgg167
  z173 := Tryz.sizeOf167
  v173 := Tryz.zeroValue167
  t212 := Tryz.underlying186
  a212 := Tryz.isAgg186
  z212 := Tryz.sizeOf186
  v212 := Tryz.zeroValue186
  t213 := Tryz.underlying187
  a213 := Tryz.isAgg187
  z213 := Tryz.sizeOf187
  t232 := Tryz.underlying204
  a232 := Tryz.isAgg204
  z232 := Tryz.sizeOf204
  v232 := Tryz.zeroValue204
  t233 := Tryz.underlying205
  a233 := Tryz.isAgg205
  z233 := Tryz.sizeOf205
  v233 := Tryz.zeroValue205
  g17 := by kernel_rfl
  g18 := by kernel_rfl
  g19 := by kernel_rfl
  i0 := by kernel_rfl
  i2 := by kernel_rfl
  i3 := by kernel_rfl
  i4 := by kernel_rfl
  i5 := by kernel_rfl
  i9 := by kernel_rfl
  i20 := by kernel_rfl
  i37 := by kernel_rfl
  i46 := by kernel_rfl
  i51 := by kernel_rfl
  i53 := by kernel_rfl
  i171 := by kernel_rfl
  i173 := by kernel_rfl
  i212 := by kernel_rfl
  i232 := by kernel_rfl
  i233 := by kernel_rfl
  m17 := by kernel_rfl
  m18 := by kernel_rfl
  m19 := by kernel_rfl }
def lays145_ren : Go.Shelf.Ren := ⟨fun | 145 => 66 | 220 => 104 | 219 => 133 | 217 => 157 | 225 => 158 | 224 => 159 | 267 => 160 | 266 => 179 | 314 => 180 | n => n, fun | 9 => 9 | 4 => 4 | 59 => 79 | 3 => 3 | 5 => 5 | 46 => 126 | 146 => 177 | 51 => 176 | n => n, fun | 1 => 0 | n => n⟩
theorem lays145 : Go.Proofs.Lays.n145 Tryz.prog lays145_ren := {
  mixed := by kernel_rfl
  f145 := Tryz.func66.trans (congrArg some (by kernel_rfl))
  f217 := Tryz.func157.trans (congrArg some (by kernel_rfl))
  f219 := Tryz.func133.trans (congrArg some (by kernel_rfl))
  f220 := Tryz.func104.trans (congrArg some (by kernel_rfl))
  f224 := Tryz.func159.trans (congrArg some (by kernel_rfl))
  f225 := Tryz.func158.trans (congrArg some (by kernel_rfl))
  f266 := Tryz.func179.trans (congrArg some (by kernel_rfl))
  f267 := Tryz.func160.trans (congrArg some (by kernel_rfl))
  f314 := Tryz.func180.trans (congrArg some (by kernel_rfl))
  t3 := Tryz.underlying3
  a3 := Tryz.isAgg3
  z3 := Tryz.sizeOf3
  v3 := Tryz.zeroValue3
  t4 := Tryz.underlying4
  a4 := Tryz.isAgg4
  z4 := Tryz.sizeOf4
  v4 := Tryz.zeroValue4
  t5 := Tryz.underlying5
  a5 := Tryz.isAgg5
  z5 := Tryz.sizeOf5
  v5 := Tryz.zeroValue5
  t9 := Tryz.underlying9
  a9 := Tryz.isAgg9
  z9 := Tryz.sizeOf9
  v9 := Tryz.zeroValue9
  t46 := Tryz.underlying126
  a46 := Tryz.isAgg126
  z46 := Tryz.sizeOf126
  v46 := Tryz.zeroValue126
  t51 := Tryz.underlying176
  a51 := Tryz.isAgg176
  z51 := Tryz.sizeOf176
  v51 := Tryz.zeroValue176
  t59 := Tryz.underlying79
  a59 := Tryz.isAgg79
  z59 := Tryz.sizeOf79
  v59 := Tryz.zeroValue79
  t146 := Tryz.underlying177
  a146 := Tryz.isAgg177
  z146 := Tryz.sizeOf177
  v146 := Tryz.zeroValue177
  g1 := by kernel_rfl }
def laysM146_ren : Go.Shelf.Ren := ⟨fun | 146 => 64 | 221 => 102 | 268 => 126 | 138 => 127 | 143 => 128 | 195 => 152 | 197 => 131 | 218 => 153 | 219 => 133 | 260 => 156 | 217 => 157 | 225 => 158 | 224 => 159 | 267 => 160 | 266 => 179 | 314 => 180 | n => n, fun | 9 => 9 | 31 => 37 | 3 => 3 | 4 => 4 | 0 => 0 | 105 => 145 | 21 => 21 | 5 => 5 | 46 => 126 | 119 => 172 | 139 => 175 | 138 => 174 | 146 => 177 | 51 => 176 | n => n, fun | 1 => 0 | 3 => 1 | 4 => 2 | n => n⟩
theorem laysM146 : Go.Proofs.LaysM.n146 Tryz.prog laysM146_ren := {
  mixed := by kernel_rfl
  f138 := Tryz.func127.trans (congrArg some (by kernel_rfl))
  f143 := Tryz.func128.trans (congrArg some (by kernel_rfl))
  f146 := Tryz.func64.trans (congrArg some (by kernel_rfl))
  f195 := Tryz.func152.trans (congrArg some (by kernel_rfl))
  f197 := Tryz.func131.trans (congrArg some (by kernel_rfl))
  f217 := Tryz.func157.trans (congrArg some (by kernel_rfl))
  f218 := Tryz.func153.trans (congrArg some (by kernel_rfl))
  f219 := Tryz.func133.trans (congrArg some (by kernel_rfl))
  f221 := Tryz.func102.trans (congrArg some (by kernel_rfl))
  f224 := Tryz.func159.trans (congrArg some (by kernel_rfl))
  f225 := Tryz.func158.trans (congrArg some (by kernel_rfl))
  f260 := Tryz.func156.trans (congrArg some (by kernel_rfl))
  f266 := Tryz.func179.trans (congrArg some (by kernel_rfl))
  f267 := Tryz.func160.trans (congrArg some (by kernel_rfl))
  f268 := Tryz.func126.trans (congrArg some (by kernel_rfl))
  f314 := Tryz.func180.trans (congrArg some (by kernel_rfl))
  t0 := Tryz.underlying0
  a0 := Tryz.isAgg0
  z0 := Tryz.sizeOf0
  v0 := Tryz.zeroValue0
  t3 := Tryz.underlying3
  a3 := Tryz.isAgg3
  z3 := Tryz.sizeOf3
  v3 := Tryz.zeroValue3
  t4 := Tryz.underlying4
  a4 := Tryz.isAgg4
  z4 := Tryz.sizeOf4
  v4 := Tryz.zeroValue4
  t5 := Tryz.underlying5
  a5 := Tryz.isAgg5
  z5 := Tryz.sizeOf5
  v5 := Tryz.zeroValue5
  t9 := Tryz.underlying9
  a9 := Tryz.isAgg9
  z9 := Tryz.sizeOf9
  v9 := Tryz.zeroValue9
  t21 := Tryz.underlying21
  a21 := Tryz.isAgg21
  z21 := Tryz.sizeOf21
  v21 := Tryz.zeroValue21
  t31 := Tryz.underlying37
  a31 := Tryz.isAgg37
  z31 := Tryz.sizeOf37
  v31 := Tryz.zeroValue37
  t46 := Tryz.underlying126
  a46 := Tryz.isAgg126
  z46 := Tryz.sizeOf126
  v46 := Tryz.zeroValue126
  t51 := Tryz.underlying176
  a51 := Tryz.isAgg176
  z51 := Tryz.sizeOf176
  v51 := Tryz.zeroValue176
  t105 := Tryz.underlying145
  a105 := Tryz.isAgg145
  z105 := Tryz.sizeOf145
  v105 := Tryz.zeroValue145
  t119 := Tryz.underlying172
  a119 := Tryz.isAgg172
  z119 := Tryz.sizeOf172
  t138 := Tryz.underlying174
  a138 := Tryz.isAgg174
  z138 := Tryz.sizeOf174
  v138 := Tryz.zeroValue174
  t139 := Tryz.underlying175
  a139 := Tryz.isAgg175
  z139 := Tryz.sizeOf175
  v139 := Tryz.zeroValue175
  t146 := Tryz.underlying177
  a146 := Tryz.isAgg177
  z146 := Tryz.sizeOf177
  v146 := Tryz.zeroValue177
  g1 := by kernel_rfl
  g3 := by kernel_rfl
  g4 := by kernel_rfl
  i0 := by kernel_rfl
  i3 := by kernel_rfl
  i4 := by kernel_rfl
  i5 := by kernel_rfl
  i9 := by kernel_rfl
  i21 := by kernel_rfl
  i31 := by kernel_rfl
  i46 := by kernel_rfl
  i51 := by kernel_rfl
  i105 := by kernel_rfl
  i138 := by kernel_rfl
  i139 := by kernel_rfl
  i146 := by kernel_rfl
  m1 := by kernel_rfl
  s1_3 := fun w h => Go.Proofs.cell_of_shapedOpen_int (zero := #[.int .i64 0]) (t := 3) h (of_decide_eq_true (by kernel_rfl)) (by kernel_rfl) rfl (by kernel_rfl) (by kernel_rfl) Tryz.underlying3
  m3 := by kernel_rfl
  m4 := by kernel_rfl }
def laysM155_ren : Go.Shelf.Ren := ⟨fun | 155 => 65 | 154 => 103 | 138 => 127 | 165 => 129 | 143 => 128 | 166 => 130 | 197 => 131 | 169 => 132 | 195 => 152 | 218 => 153 | 240 => 154 | 241 => 155 | 219 => 133 | 260 => 156 | 276 => 177 | 277 => 178 | 217 => 157 | 225 => 158 | 224 => 159 | 267 => 160 | 266 => 179 | 314 => 180 | n => n, fun | 9 => 9 | 3 => 3 | 4 => 4 | 72 => 139 | 0 => 0 | 76 => 143 | 105 => 145 | 21 => 21 | 5 => 5 | 70 => 137 | 20 => 20 | 37 => 43 | 75 => 142 | 127 => 156 | 164 => 169 | 46 => 126 | 119 => 172 | 139 => 175 | 138 => 174 | 146 => 177 | 51 => 176 | 80 => 147 | n => n, fun | 1 => 0 | 3 => 1 | 4 => 2 | n => n⟩
theorem laysM155 : Go.Proofs.LaysM.n155 Tryz.prog laysM155_ren := {
  mixed := by kernel_rfl
  f138 := Tryz.func127.trans (congrArg some (by kernel_rfl))
  f143 := Tryz.func128.trans (congrArg some (by kernel_rfl))
  f154 := Tryz.func103.trans (congrArg some (by kernel_rfl))
  f155 := Tryz.func65.trans (congrArg some (by kernel_rfl))
  f165 := Tryz.func129.trans (congrArg some (by kernel_rfl))
  f166 := Tryz.func130.trans (congrArg some (by kernel_rfl))
  f169 := Tryz.func132.trans (congrArg some (by kernel_rfl))
  f195 := Tryz.func152.trans (congrArg some (by kernel_rfl))
  f197 := Tryz.func131.trans (congrArg some (by kernel_rfl))
  f217 := Tryz.func157.trans (congrArg some (by kernel_rfl))
  f218 := Tryz.func153.trans (congrArg some (by kernel_rfl))
  f219 := Tryz.func133.trans (congrArg some (by kernel_rfl))
  f224 := Tryz.func159.trans (congrArg some (by kernel_rfl))
  f225 := Tryz.func158.trans (congrArg some (by kernel_rfl))
  f240 := Tryz.func154.trans (congrArg some (by kernel_rfl))
  f241 := Tryz.func155.trans (congrArg some (by kernel_rfl))
  f260 := Tryz.func156.trans (congrArg some (by kernel_rfl))
  f266 := Tryz.func179.trans (congrArg some (by kernel_rfl))
  f267 := Tryz.func160.trans (congrArg some (by kernel_rfl))
  f276 := Tryz.func177.trans (congrArg some (by kernel_rfl))
  f277 := Tryz.func178.trans (congrArg some (by kernel_rfl))
  f314 := Tryz.func180.trans (congrArg some (by kernel_rfl))
  t0 := Tryz.underlying0
  a0 := Tryz.isAgg0
  z0 := Tryz.sizeOf0
  v0 := Tryz.zeroValue0
  t3 := Tryz.underlying3
  a3 := Tryz.isAgg3
  z3 := Tryz.sizeOf3
  v3 := Tryz.zeroValue3
  t4 := Tryz.underlying4
  a4 := Tryz.isAgg4
  z4 := Tryz.sizeOf4
  v4 := Tryz.zeroValue4
  t5 := Tryz.underlying5
  a5 := Tryz.isAgg5
  z5 := Tryz.sizeOf5
  v5 := Tryz.zeroValue5
  t9 := Tryz.underlying9
  a9 := Tryz.isAgg9
  z9 := Tryz.sizeOf9
  v9 := Tryz.zeroValue9
  t20 := Tryz.underlying20
  a20 := Tryz.isAgg20
  z20 := Tryz.sizeOf20
  v20 := Tryz.zeroValue20
  t21 := Tryz.underlying21
  a21 := Tryz.isAgg21
  z21 := Tryz.sizeOf21
  v21 := Tryz.zeroValue21
  t37 := Tryz.underlying43
  a37 := Tryz.isAgg43
  z37 := Tryz.sizeOf43
  v37 := Tryz.zeroValue43
  t46 := Tryz.underlying126
  a46 := Tryz.isAgg126
  z46 := Tryz.sizeOf126
  v46 := Tryz.zeroValue126
  t51 := Tryz.underlying176
  a51 := Tryz.isAgg176
  z51 := Tryz.sizeOf176
  v51 := Tryz.zeroValue176
  t70 := Tryz.underlying137
  a70 := Tryz.isAgg137
  z70 := Tryz.sizeOf137
  v70 := Tryz.zeroValue137
  t72 := Tryz.underlying139
  a72 := Tryz.isAgg139
  z72 := Tryz.sizeOf139
  v72 := Tryz.zeroValue139
  t75 := Tryz.underlying142
  a75 := Tryz.isAgg142
  z75 := Tryz.sizeOf142
  v75 := Tryz.zeroValue142
  t76 := Tryz.underlying143
  a76 := Tryz.isAgg143
  z76 := Tryz.sizeOf143
  v76 := Tryz.zeroValue143
  t105 := Tryz.underlying145
  a105 := Tryz.isAgg145
  z105 := Tryz.sizeOf145
  v105 := Tryz.zeroValue145
  t119 := Tryz.underlying172
  a119 := Tryz.isAgg172
  z119 := Tryz.sizeOf172
  t127 := Tryz.underlying156
  a127 := Tryz.isAgg156
  z127 := Tryz.sizeOf156
  v127 := Tryz.zeroValue156
  t138 := Tryz.underlying174
  a138 := Tryz.isAgg174
  z138 := Tryz.sizeOf174
  v138 := Tryz.zeroValue174
  t139 := Tryz.underlying175
  a139 := Tryz.isAgg175
  z139 := Tryz.sizeOf175
  v139 := Tryz.zeroValue175
  t146 := Tryz.underlying177
  a146 := Tryz.isAgg177
  z146 := Tryz.sizeOf177
  v146 := Tryz.zeroValue177
  t164 := Tryz.underlying169
  a164 := Tryz.isAgg169
  z164 := Tryz.sizeOf169
  v164 := Tryz.zeroValue169
  g1 := by kernel_rfl
  g3 := by kernel_rfl
  g4 := by kernel_rfl
  t80 := Tryz.underlying147
  a80 := Tryz.isAgg147
  z80 := Tryz.sizeOf147
  v80 := Tryz.zeroValue147
  i0 := by kernel_rfl
  i3 := by kernel_rfl
  i4 := by kernel_rfl
  i5 := by kernel_rfl
  i9 := by kernel_rfl
  i20 := by kernel_rfl
  i21 := by kernel_rfl
  i37 := by kernel_rfl
  i46 := by kernel_rfl
  i51 := by kernel_rfl
  i70 := by kernel_rfl
  i72 := by kernel_rfl
  i75 := by kernel_rfl
  i76 := by kernel_rfl
  i80 := by kernel_rfl
  i105 := by kernel_rfl
  i127 := by kernel_rfl
  i138 := by kernel_rfl
  i139 := by kernel_rfl
  i146 := by kernel_rfl
  i164 := by kernel_rfl
  m1 := by kernel_rfl
  s1_3 := fun w h => Go.Proofs.cell_of_shapedOpen_int (zero := #[.int .i64 0]) (t := 3) h (of_decide_eq_true (by kernel_rfl)) (by kernel_rfl) rfl (by kernel_rfl) (by kernel_rfl) Tryz.underlying3
  m3 := by kernel_rfl
  m4 := by kernel_rfl }
theorem extraBuild : Builder.Extra Tryz.prog laysM155_ren := {
  sizeBuilder := by kernel_rfl
  liesBuilder := by kernel_rfl
  t5 := Tryz.underlying5
  a5 := Tryz.isAgg5
  z5 := Tryz.sizeOf5
  v5 := Tryz.zeroValue5
  infoByte := by kernel_rfl
  cellsByte := by kernel_rfl
  sizeByte := by kernel_rfl
  neB5 := by decide }
def lays99_ren : Go.Shelf.Ren := ⟨fun | 99 => 100 | 206 => 125 | n => n, fun | 9 => 9 | 4 => 4 | 3 => 3 | n => n, fun | n => n⟩
theorem lays99 : Go.Proofs.Lays.n99 Tryz.prog lays99_ren := {
  mixed := by kernel_rfl
  f99 := Tryz.func100.trans (congrArg some (by kernel_rfl))
  f206 := Tryz.func125.trans (congrArg some (by kernel_rfl))
  t3 := Tryz.underlying3
  a3 := Tryz.isAgg3
  z3 := Tryz.sizeOf3
  v3 := Tryz.zeroValue3
  t4 := Tryz.underlying4
  a4 := Tryz.isAgg4
  z4 := Tryz.sizeOf4
  v4 := Tryz.zeroValue4
  t9 := Tryz.underlying9
  a9 := Tryz.isAgg9
  z9 := Tryz.sizeOf9
  v9 := Tryz.zeroValue9 }
end Go.Proofs.YticofgmmjecleaaGreatDoor
namespace Go.Proofs.YticofgmmjecleaaGreatDoor
open Go
/-- The text of a number; of a term. -/
def txtN (p a : Int) : By := Lib.itoa (if (p - 1) / 2 < a then a - p else a)
def numP (p a : Int) : By := if txtN p a = [49] then [] else if txtN p a = [45, 49] then [45] else txtN p a
def termL (p : Int) (n m : Nat) (a : Int) : By := if m = 0 then txtN p a else numP p a ++ nameL n m
/-- The text of the first places. -/
def textTo (p : Int) (n : Nat) (x : List Int) : Nat → By
  | 0 => []
  | k + 1 => if x.getD k 0 = 0 then textTo p n x k else textTo p n x k ++ ((if textTo p n x k ≠ [] ∧ (termL p n k (x.getD k 0)).head? ≠ some 45 then [43] else []) ++ termL p n k (x.getD k 0))
def textL (p : Int) (n : Nat) (x : List Int) : By := if textTo p n x x.length = [] then [48] else textTo p n x x.length
/-- The number with a text. -/
def parF (p : Int) (t : By) : Nat → Nat → Option Int
  | 0, _ => none
  | k + 1, i => if txtN p i = t then some i else parF p t k (i + 1)
def parN (p : Int) (t : By) : Option Int := parF p t p.toNat 0
theorem parF_lt {p : Int} {t : By} : ∀ {k i : Nat} {a : Int}, parF p t k i = some a → (i : Int) ≤ a ∧ a < i + k
  | 0, i, a, h => by cases h
  | k + 1, i, a, h => by
    unfold parF at h
    by_cases h1 : txtN p i = t
    · rw [if_pos h1] at h; injection h with h; subst h; omega
    · rw [if_neg h1] at h
      have := parF_lt h
      omega
theorem parN_lt {p : Int} {t : By} {a : Int} (hp : 0 < p) (h : parN p t = some a) : 0 ≤ a ∧ a < p := by have := parF_lt h; omega
theorem index_one_eq (c : UInt8) (l : By) : Lib.index (c :: l) [c] = 0 := by
  unfold Lib.index
  simp [List.isPrefixOf]
theorem index_one_ne {b c : UInt8} (h : b ≠ c) (l : By) : Lib.index (b :: l) [c] = if Lib.index l [c] = -1 then -1 else Lib.index l [c] + 1 := by
  conv => lhs; unfold Lib.index
  have : (c == b) = false := by simpa using fun e => h e.symm
  simp [List.isPrefixOf, this]
/-- A text cut at each byte c. -/
def splitP (c : UInt8) : By → List By
  | [] => [[]]
  | b :: l => if b = c then [] :: splitP c l else match splitP c l with
    | [] => [[b]]
    | h :: t => (b :: h) :: t
theorem splitP_ne (c : UInt8) (s : By) : splitP c s ≠ [] := by
  cases s with
  | nil => simp [splitP]
  | cons b l =>
    unfold splitP
    split
    · simp
    · split <;> simp
theorem count_zero_of {c : UInt8} {l : By} (h : Lib.index l [c] = -1) : Lib.count l [c] = 0 := Lib.count_miss h
theorem count_pos_of {c : UInt8} {l : By} (h : Lib.index l [c] ≠ -1) : ∃ i : Nat, Lib.index l [c] = i ∧ Lib.count l [c] = 1 + Lib.count (l.drop (i + 1)) [c] := by
  have hge := Lib.index_ge l [c]
  obtain ⟨i, hi⟩ : ∃ i : Nat, Lib.index l [c] = i := ⟨(Lib.index l [c]).toNat, by omega⟩
  exact ⟨i, hi, Lib.count_hit (by simp) hi⟩
theorem split_eq (c : UInt8) : ∀ s : By, Lib.splitK [c] 0 (Lib.count s [c]) s = splitP c s
  | [] => rfl
  | b :: l => by
    by_cases hb : b = c
    · subst hb
      rw [Lib.count_cons_eq, Nat.add_comm]
      unfold Lib.splitK
      rw [index_one_eq]
      unfold splitP
      rw [if_pos rfl, ← split_eq b l]
      rfl
    · rw [Lib.count_cons_ne b c l hb]
      by_cases h1 : Lib.index l [c] = -1
      · have ih := split_eq c l
        rw [count_zero_of h1] at ih ⊢
        unfold splitP
        rw [if_neg hb, ← ih]; rfl
      · obtain ⟨i, hi, hc⟩ := count_pos_of h1
        have ih := split_eq c l
        rw [hc, Nat.add_comm] at ih ⊢
        unfold Lib.splitK at ih ⊢
        rw [index_one_ne hb, if_neg h1]
        rw [hi] at ih ⊢
        have e1 : ((i : Int) == -1) = false := by rw [beq_eq_false_iff_ne]; omega
        have e2 : ((i : Int) + 1 == -1) = false := by rw [beq_eq_false_iff_ne]; omega
        rw [if_neg (by rw [e1]; simp)] at ih
        rw [if_neg (by rw [e2]; simp)]
        unfold splitP
        rw [if_neg hb, ← ih]
        have e3 : ((i : Int) + 1).toNat = i + 1 := by omega
        have e4 : (i : Int).toNat = i := by omega
        rw [e3, e4]; rfl
/-- Each '-' with a '+' ahead. -/
def repP (s : By) : By := s.flatMap fun b => if b = 45 then [43, 45] else [b]
theorem rep_eqK (c : UInt8) (new : By) : ∀ s : By, Lib.replaceK [c] new (Lib.count s [c]) s = s.flatMap fun b => if b = c then new else [b]
  | [] => rfl
  | b :: l => by
    rw [List.flatMap_cons]
    by_cases hb : b = c
    · subst hb
      rw [Lib.count_cons_eq, Nat.add_comm, if_pos rfl, ← rep_eqK b new l]
      have e := Lib.replaceK_hit [b] new (Lib.count l [b]) (b :: l) 0 (index_one_eq b l)
      rw [e]; rfl
    · rw [Lib.count_cons_ne b c l hb, if_neg hb, ← rep_eqK c new l]
      by_cases h1 : Lib.index l [c] = -1
      · rw [count_zero_of h1]; rfl
      · obtain ⟨i, hi, hc⟩ := count_pos_of h1
        rw [hc, Nat.add_comm]
        unfold Lib.replaceK
        rw [index_one_ne hb, if_neg h1, hi]
        have e1 : ((i : Int) == -1) = false := by rw [beq_eq_false_iff_ne]; omega
        have e2 : ((i : Int) + 1 == -1) = false := by rw [beq_eq_false_iff_ne]; omega
        rw [if_neg (by rw [e2]; simp), if_neg (by rw [e1]; simp)]
        have e3 : ((i : Int) + 1).toNat = i + 1 := by omega
        have e4 : (i : Int).toNat = i := by omega
        rw [e3, e4]; rfl
theorem rep_eq (s : By) : Lib.replaceAll s [45] [43, 45] = repP s := by
  unfold Lib.replaceAll Lib.replace
  rw [if_neg (by decide)]
  have : Lib.replaceNum s [45] (-1) = Lib.count s [45] := by unfold Lib.replaceNum; rw [if_pos (Or.inl (by decide))]
  rw [this]
  exact rep_eqK 45 [43, 45] s
theorem index_none_of {c : UInt8} : ∀ {s : By}, (∀ b ∈ s, b ≠ c) → Lib.index s [c] = -1
  | [], _ => rfl
  | b :: l, h => by rw [index_one_ne (h b (by simp)), if_pos (index_none_of fun x hx => h x (by simp [hx]))]
theorem index_at_of {c : UInt8} : ∀ {s t : By}, (∀ b ∈ s, b ≠ c) → Lib.index (s ++ c :: t) [c] = s.length
  | [], t, _ => index_one_eq c t
  | b :: l, t, h => by
    have ih := index_at_of (t := t) fun x hx => h x (List.mem_cons_of_mem b hx)
    rw [List.cons_append, index_one_ne (h b (by simp)), ih, if_neg (by omega), List.length_cons]; omega
theorem cut_none {c : UInt8} {s : By} (h : ∀ b ∈ s, b ≠ c) : Lib.cut s [c] = (s, [], false) := by
  unfold Lib.cut
  rw [index_none_of h, if_neg (by decide)]
theorem cut_some {c : UInt8} {s t : By} (h : ∀ b ∈ s, b ≠ c) : Lib.cut (s ++ c :: t) [c] = (s, t, true) := by
  unfold Lib.cut
  rw [index_at_of h, if_pos (by omega)]
  have e : ((s.length : Nat) : Int).toNat = s.length := by omega
  rw [e]
  simp
def okN (t : By) : Bool := !t.isEmpty && t != [45] && t.all (fun b => b != 43 && b != 101) && t.tail.all (fun b => b != 45)
theorem num_all : ([3, 5, 7, 11, 13].all fun p : Nat => (List.range p).all fun a => okN (txtN p a) && (parN p (txtN p a) == some (a : Int))) = true := by decide +kernel
theorem num_none : ([3, 5, 7, 11, 13].all fun p : Nat => parN p [] == none && txtN p 0 == [48]) = true := by decide +kernel
theorem name_all : ((List.range 7).all fun n => (List.range (pw n)).all fun m => maskOf n (nameL n m) == some m) = true := by decide +kernel
theorem isP_list {p : Int} (h : isP p = true) : ∃ q : Nat, p = q ∧ q ∈ [3, 5, 7, 11, 13] := by
  unfold isP at h
  simp only [Bool.or_eq_true, beq_iff_eq] at h
  rcases h with (((h | h) | h) | h) | h
  · exact ⟨3, h, by simp⟩
  · exact ⟨5, h, by simp⟩
  · exact ⟨7, h, by simp⟩
  · exact ⟨11, h, by simp⟩
  · exact ⟨13, h, by simp⟩
theorem num_facts {p : Int} (hP : isP p = true) {a : Int} (h0 : 0 ≤ a) (h1 : a < p) : okN (txtN p a) = true ∧ parN p (txtN p a) = some a := by
  obtain ⟨q, rfl, hq⟩ := isP_list hP
  have h := List.all_eq_true.1 (List.all_eq_true.1 num_all q hq) a.toNat (List.mem_range.2 (by omega))
  rw [Bool.and_eq_true, beq_iff_eq] at h
  rw [show ((a.toNat : Nat) : Int) = a by omega] at h
  exact h
theorem num_facts0 {p : Int} (hP : isP p = true) : parN p [] = none ∧ txtN p 0 = [48] := by
  obtain ⟨q, rfl, hq⟩ := isP_list hP
  have h := List.all_eq_true.1 num_none q hq
  rw [Bool.and_eq_true, beq_iff_eq, beq_iff_eq] at h
  exact h
theorem mask_name {n m : Nat} (hn : n ≤ 6) (hm : m < pw n) : maskOf n (nameL n m) = some m := by
  have h := List.all_eq_true.1 (List.all_eq_true.1 name_all n (List.mem_range.2 (by omega))) m (List.mem_range.2 hm)
  exact beq_iff_eq.1 h
/-- A name is 'e' and digits. -/
theorem nameTo_form (m : Nat) : ∀ n, n ≤ 6 → ∃ ds : By, nameTo m n = 101 :: ds ∧ ∀ b ∈ ds, 48 ≤ b.toNat ∧ b.toNat ≤ 57
  | 0, _ => ⟨[], rfl, fun b h => by cases h⟩
  | n + 1, hn => by
    obtain ⟨ds, e, h⟩ := nameTo_form m n (by omega)
    unfold nameTo
    by_cases hb : bit m n = 1
    · rw [if_pos hb, e]
      refine ⟨ds ++ [UInt8.ofNat (48 + n)], rfl, fun b hb => ?_⟩
      rcases List.mem_append.1 hb with h1 | h1
      · exact h b h1
      · rw [List.mem_singleton.1 h1]
        have : (UInt8.ofNat (48 + n)).toNat = 48 + n := by rw [UInt8.toNat_ofNat']; omega
        omega
    · rw [if_neg hb]; exact ⟨ds, e, h⟩
/-- What is known of a term: no '+', a '-' at the head alone, not empty. -/
def okT (t : By) : Prop := t ≠ [] ∧ (∀ b ∈ t, b ≠ 43) ∧ ∀ b ∈ t.tail, b ≠ 45
theorem okN_parts {t : By} (h : okN t = true) : t ≠ [] ∧ t ≠ [45] ∧ (∀ b ∈ t, b ≠ 43 ∧ b ≠ 101) ∧ ∀ b ∈ t.tail, b ≠ 45 := by
  unfold okN at h
  simp only [Bool.and_eq_true, List.all_eq_true, bne_iff_ne, ne_eq] at h
  refine ⟨fun e => by rw [e] at h; simp at h, h.1.1.2, h.1.2, h.2⟩
theorem numP_cases {p a : Int} (h : okN (txtN p a) = true) : (∀ b ∈ numP p a, b ≠ 43 ∧ b ≠ 101) ∧ (∀ b ∈ (numP p a).tail, b ≠ 45) ∧
    (if numP p a = [] ∨ numP p a = [45] then numP p a ++ [49] else numP p a) = txtN p a := by
  obtain ⟨h1, h1', h2, h3⟩ := okN_parts h
  unfold numP
  by_cases e1 : txtN p a = [49]
  · rw [if_pos e1, if_pos (Or.inl rfl)]
    exact ⟨fun b hb => absurd hb (by simp), fun b hb => absurd hb (by simp), e1.symm⟩
  · rw [if_neg e1]
    by_cases e2 : txtN p a = [45, 49]
    · rw [if_pos e2, if_pos (Or.inr rfl)]
      exact ⟨fun b hb => by rw [List.mem_singleton.1 hb]; decide, fun b hb => absurd hb (by simp), e2.symm⟩
    · rw [if_neg e2]
      refine ⟨h2, h3, ?_⟩
      rw [if_neg]
      rintro (e | e)
      · exact h1 e
      · exact h1' e
end Go.Proofs.YticofgmmjecleaaGreatDoor

/-
  The last step of a row where the walk says 'Below' alone of memory. No condition.
-/
import Derived.Test.YtommppijnccomaaGreatMem
import Derived.ProofKit
import Derived.OpenShut
namespace Go.Proofs.YtommppijnccomaaGreat
open Go.ChangeShapes Go.WideShapes Go.ChangeAt Go.RowKit

section
variable {H : Type} {enc : TypeId × Value → H} {P : Program}
/-- A law's row: the result is the bool true, the arguments read as they did, nothing that was there has turned. -/
theorem post_below {f : Func} {s : ChangeSpec} {apart fresh handsOn again : Bool} {W W' : World} {args : Array Value} {v : Value} {ds gs : List (DataW H)} {before pa pv : List MemPlace}
    (whole : DataW.Whole enc P f.params.toList s.vars apart W args.toList ds gs before)
    (res : ∀ (b : Nat) (sp : Nat → Bool) (hd : Bool), DataW.TrodAll enc P W' b sp hd f.resultTypes.toList (v.resultList f.resultTypes.size) (s.fn H (ds ++ gs)).results [])
    (arg : ∀ sp : Nat → Bool, (∀ p ∈ before, sp p.block = true) → DataW.TrodAll enc P W' 0 sp true f.params.toList args.toList (s.fn H (ds ++ gs)).args pa)
    (var : ∀ sp : Nat → Bool, (∀ p ∈ before, sp p.block = true) → DataW.TrodVars enc P W' sp s.vars (s.fn H (ds ++ gs)).vars pv)
    (places : before = pa ++ pv) (below : Below W.heap.size W W')
    (ok : ∀ (j : Nat) (t : TypeId) (r : Value), f.resultTypes[j]? = some t → (v.resultList f.resultTypes.size)[j]? = some r → Value.okWide P W' .any 0 t r) :
    s.post enc P f apart fresh handsOn again W args v W' := by
  have old : ∀ p ∈ before, p.block < W.heap.size := fun p hp => whole.lt p hp
  have seen : ∀ p ∈ before, (fun b => decide (b < W.heap.size)) p.block = true := fun p hp => decide_eq_true (old p hp)
  have frame : W.keptBut W' (fun p => p ∈ before ∧ (p ∈ ([] : List MemPlace) ∨ p ∈ pa ++ pv)) :=
    World.keptBut_mono (fun p hp => ⟨hp, .inr (places ▸ hp)⟩) (below.frame (fun p => p ∈ before))
  refine ⟨ds, gs, before, [], pa, pv, whole, res _ _ _, arg _ seen, var _ seen, ?_, fun _ => ?_⟩
  · refine World.keptBut_mono (fun p hp => ?_) frame
    obtain ⟨h1, h2⟩ := hp
    refine ⟨h1, ?_⟩
    rcases h2 with h2 | h2
    · cases h2
    · exact Or.inr (by simpa [List.mem_append] using h2)
  · obtain ⟨_, _, _, _, _, hz, hn⟩ := whole
    refine ⟨ok, _, _, ([] ++ pa) ++ pv, ⟨[] ++ pa, pv, trodAll_append (arg _ (fun _ _ => rfl)) (res _ _ _), var _ (fun _ _ => rfl), rfl, fun b off hp => ?_, fun ha => ?_⟩, fun p hp _ => ?_⟩
    · have hin : MemPlace.cell b off ∈ before := by rw [places]; simpa using hp
      rw [below.frozen (old _ hin)]
      exact hz b off hin
    · have := hn ha
      rw [places] at this
      simpa using this
    · rw [places]
      simpa using hp
end
end Go.Proofs.YtommppijnccomaaGreat

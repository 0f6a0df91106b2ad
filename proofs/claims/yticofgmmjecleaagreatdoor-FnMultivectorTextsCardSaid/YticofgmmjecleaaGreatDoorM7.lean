/-
  FnMultivectorTexts: for every list of bytes the law returns true. No condition.
-/
import Derived.Test.YticofgmmjecleaaGreatDoorM6
namespace Go.Proofs.YticofgmmjecleaaGreatDoor
open Go.ChangeShapes Go.WideShapes Go.ChangeAt Go.RowKit
namespace fnMultivectorTexts
theorem own : ownKnob Tryz.prog.godebug = none := by kernel_rfl
set_option maxRecDepth 100000 in
theorem lifted (os : Os) (started : os.Started) (H : Type) (enc : TypeId × Value → H) :
    ReturnsInHanded {} Tryz.checked os 6 .any ((OpenSpec.ofChange Rows.fnMultivectorTextsSpec).preRow enc Tryz.prog Tryz.f6 [] false Rows.fnMultivectorTextsRow.laid) (((OpenSpec.ofChange Rows.fnMultivectorTextsSpec).at (fun _ _ _ => 0)).post enc Tryz.prog Tryz.f6 false true false false) := by
  have hwit := ChangeSpec.witness_shaped (enc := enc) (C := Tryz.checked) (os := os) (f := 6) (fn := Tryz.f6) (s := Rows.fnMultivectorTextsSpec) (conds := []) (apart := false) (X := fun w _ => laidMetH Tryz.prog Rows.fnMultivectorTextsRow.laid w) false (World.laidAll Tryz.prog os Rows.fnMultivectorTextsRow.laid) #[.slice none 0 0] 8 (World.laidAll_os _ _ _)
    (World.shaped_of_ZipB (by kernel_rfl) (by kernel_rfl)) (by kernel_rfl) (by kernel_rfl) (by kernel_rfl)
    (by rw [MakeChecks.laidMetH_plain _ _ _ (by kernel_rfl)]; exact laidMet_laidAll _ (by kernel_rfl) (by kernel_rfl))
  refine returnsInHanded_of_row (C := Tryz.checked) (s := OpenSpec.ofChange Rows.fnMultivectorTextsSpec) own started (by kernel_rfl) Tryz.func6 hwit ?_
  intro W base args ds gs before hval0 hW _ _ _ hL hsh _
  have hval : ∀ (j : Nat) t v, Tryz.f6.params[j]? = some t → args[j]? = some v → Value.okWide Tryz.prog W .any base t v := hval0
  have hW' := hW
  obtain ⟨p, q, hA0, hV, rfl, hfz, hnd⟩ := hW
  have hA : DataW.TrodAll enc Tryz.prog W 0 (fun _ => true) true Tryz.f6.params.toList args.toList ds p := hA0
  rw [Tryz.params6] at hA hval
  obtain ⟨v0, d0, rfl, rfl, h0⟩ := trodAll_one hA
  obtain ⟨rfl, rfl⟩ := trodVars_none hV
  have hv0 := hval 0 43 v0 rfl rfl
  obtain ⟨B, nb, cb, rfl⟩ := okWide_slice Tryz.underlying43 hv0
  have hbg := okWide_block Tryz.underlying43 hv0
  clear hA0 hval0
  simp only [List.append_nil] at hW'
  obtain ⟨fuel0, hf0⟩ := id h0
  obtain ⟨B', nb', cb', bs, e1, hnc, hr, hbs⟩ := openB hf0
  obtain ⟨rfl, rfl, rfl⟩ : B = B' ∧ nb = nb' ∧ cb = cb' := by simpa [Value.cells] using e1
  rw [MakeChecks.laidMetH_plain _ _ _ (by kernel_rfl)] at hL
  have he : Env W := env_of hsh hL (by kernel_rfl)
  refine (FnMultivectorTexts_any B nb cb bs W hr hbs hbg he).mono fun e' W' ⟨he, hg⟩ => ?_
  subst he
  exact ⟨_, rfl, post_below (pa := p) (pv := []) hW' (fun _ _ _ => (trodAll_cons_mk (shut_bool Tryz.underlying4 _) trodAll_mk0))
    (fun sp hs => trodAll_mk1 (WideElems.Trod_stays (by kernel_rfl) (by kernel_rfl) (of_decide_eq_true (by kernel_rfl)) h0 (fun x hx => hg.same (hW'.lt x (by simp [hx]))) (fun x hx => hs x (by simp [hx])))) (fun _ _ => rfl) (by simp) hg
    (ok_one (by kernel_rfl) rfl (okWide_bool_mk Tryz.underlying4 _))⟩
theorem over : Rows.FnMultivectorTextsSaid :=
  OpenClaim.holds_of_wide 6 Tryz.f6 rfl rfl rfl rfl rfl rfl rfl ⟨rfl, rfl, rfl, rfl, rfl⟩ rfl rfl rfl rfl rfl (by kernel_rfl) Tryz.func6 (by kernel_rfl)
    (of_decide_eq_true (by kernel_rfl)) (by unfold Func.isWrapper; first | (rw [if_pos (by decide +kernel)]; kernel_rfl) | (rw [if_neg (by decide +kernel)]; exact ⟨rfl, rfl⟩))
    (fun os started H enc _ => by rw [OpenClaim.pre_eq_preRow]; exact lifted os started H enc)
theorem params_plain : ∀ (j : Nat) t, Tryz.f6.params[j]? = some t → Tryz.prog.wantsStandIn t = false := fun j t ht => by
  rw [Tryz.params6] at ht
  have hm : t ∈ [43] := by simpa using Array.mem_of_getElem? ht
  have hall : ([43].all fun u => !Tryz.prog.wantsStandIn u) = true := by kernel_rfl
  exact (show Tryz.prog.wantsStandIn t = false by simpa using List.all_eq_true.1 hall t hm)
theorem proved : Rows.FnMultivectorTextsCardSaid :=
  Claim7.holds_tied_plain_at .later [] [.data, .data, .data, .data, .pinned] true (true, "5cd77a9a08a84708cddebefb7e660631a992c31ac6ed7f200179c9a4402d0cbe") true
    over (fun _ h => by cases h) (by kernel_rfl) (fun _ h => by cases h) fnMultivectorTexts_row_tie rfl ⟨rfl, rfl⟩ (by kernel_rfl) rfl
    (fun f fn hf hfn => by
      obtain rfl : f = 6 := Option.some.inj (hf.symm.trans (show Tryz.prog.funcNamed Rows.fnMultivectorTextsRow.func = some 6 by kernel_rfl))
      obtain rfl : fn = Tryz.f6 := (Option.some.inj (Tryz.func6.symm.trans hfn)).symm
      exact ⟨by kernel_rfl, params_plain⟩)
    (by kernel_rfl)
#print axioms proved
end fnMultivectorTexts
end Go.Proofs.YticofgmmjecleaaGreatDoor

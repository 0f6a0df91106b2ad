/-
  The reduced basis of the kernel of rows: the program's function.
-/
import Derived.Test.YtommppijnccomaaGreatBasis
import Derived.Maps.RangeWalk
import Derived.Maps.OwnSet
namespace Go.Proofs.YtommppijnccomaaGreat
open Go.RowKit Go.Maps

/-- The map from the places of the firsts to the rows, of the first j rows. -/
structure Places {H : Type} (B : List (List Int)) (j : Nat) (D : DataW H) : Prop where
  map : IsMap D
  has : ∀ k : Nat, Maps.has D (.int .i64 k) = true ↔ ∃ i, i < j ∧ ld B i = k
  only : ∀ z : Lit, Maps.has D z = true → ∃ k : Nat, z = .int .i64 k
  val : ∀ i, i < j → ∀ zd, D.atKey (.int .i64 (ld B i)) zd = .lit (.int .i64 i)
theorem Places.start {H : Type} (B : List (List Int)) : Places B 0 (.map [] : DataW H) :=
  ⟨isMap_empty, fun k => ⟨fun h => by simp [has_eq] at h, fun ⟨i, hi, _⟩ => absurd hi (by omega)⟩, fun z h => by simp [has_eq] at h, fun i hi => absurd hi (by omega)⟩
theorem lit_ne {a b : Int} (h : a ≠ b) : Lit.int .i64 a ≠ Lit.int .i64 b := fun e => h (by injection e)
theorem Places.step {H : Type} {n : Nat} {B : List (List Int)} (hR : Red n B) {j : Nat} {D : DataW H} (h : Places B j D) (hj : j < B.length) : Places B (j + 1) (D.put (.int .i64 (ld B j)) (.lit (.int .i64 j))) := by
  refine ⟨h.map.put _ _, fun k => ?_, fun z hz => ?_, fun i hi zd => ?_⟩
  · by_cases hk : k = ld B j
    · subst hk
      exact ⟨fun _ => ⟨j, by omega, rfl⟩, fun _ => has_put_same h.map (show WideAt.IsKeyLit (.int .i64 (ld B j)) from trivial) _⟩
    · rw [has_put_other (lit_ne (by omega)), h.has k]
      constructor
      · rintro ⟨i, hi, e⟩; exact ⟨i, by omega, e⟩
      · rintro ⟨i, hi, e⟩
        refine ⟨i, ?_, e⟩
        by_cases hij : i = j
        · subst hij; exact absurd e.symm hk
        · omega
  · by_cases hk : z = .int .i64 (ld B j)
    · exact ⟨_, hk⟩
    · rw [has_put_other hk] at hz
      exact h.only z hz
  · by_cases hij : i = j
    · subst hij
      exact atKey_put_same h.map (show WideAt.IsKeyLit (.int .i64 (ld B i)) from trivial) _ _
    · rw [atKey_put_other (lit_ne (fun e => hij (hR.inj (by omega) hj (by omega))))]
      exact h.val i (by omega) zd
theorem Places.isLd {H : Type} {B : List (List Int)} {D : DataW H} (h : Places B B.length D) (k : Nat) : Maps.has D (.int .i64 k) = isLd B k := by
  cases hh : Maps.has D (.int .i64 k) with
  | true => exact (isLd_iff.2 ((h.has k).1 hh)).symm
  | false =>
    cases hi : Proofs.YtommppijnccomaaGreat.isLd B k with
    | false => rfl
    | true => rw [(h.has k).2 (isLd_iff.1 hi)] at hh; cases hh
theorem ownsMap_below {H : Type} {P : Program} {k : TypeId} {R : Value → Option (DataW H × List MemPlace)} {w w' : World} {b n X : Nat} {D : DataW H} (h : w.ownsMap P k R b n D) (hb : Below X w w') (hX : b < X) : w'.ownsMap P k R b n D := by
  obtain ⟨es, clock, e, r⟩ := h
  exact ⟨es, clock, (hb.block b hX).trans e, r⟩
theorem below_grown_of {w w' : World} {row : Option Nat} {X : Nat} {a : World} (h : Below X a w) (hg : w.grownBy w' row) (hX : X ≤ w.heap.size) (hr : ∀ k, row = some k → X ≤ k) : Below X a w' := h.grown hg hX (fun k hk => hr k hk)
theorem keyedInt : Keyed Tryz.prog 3 := int_keyed Tryz.underlying3
theorem sameKey_int (a b : Int) : (Lit.int .i64 a).sameKey (.int .i64 b) = (a == b) := by
  rw [Bool.eq_iff_iff]
  simp [Lit.sameKey]
theorem sameKey_self {z : Lit} {x : Int} (h : z.sameKey (.int .i64 x) = true) : z = .int .i64 x := WideAt.sameKey_eq h

theorem zero_int (w : World) : (zeroValue 3).run Tryz.prog w = .ok (.int .i64 0) w := by kernel_rfl
set_option maxHeartbeats 6400000 in
set_option maxRecDepth 8000 in
theorem kernel_any (p : Int) (A : Option Addr) (r0 c : Nat) (M : List (List Int)) (n : Nat) (w : World) (HP : isP p = true) (hr0 : r0 ≤ 65536) (hn : n ≤ 65536) (ha : RdII w A r0 M) (hT : Tab p n M) :
    Calls Tryz.prog 78 #[.int .i64 p, .slice A r0 c, .int .i64 n] w fun e w' => ∃ A' c', e = .returned (.slice A' (kernL p M n).length c') ∧ MkII w w' A' (kernL p M n).length c' (kernL p M n) := by
  obtain ⟨hp3, hp2⟩ := isP_ge HP
  have hp : 2 ≤ p := by omega
  have hbas := basis_any p A r0 c M n w HP hr0 hn ha hT
  have hred := basisL_red HP M hT
  have htab := basisL_tab (p := p) (by omega) M hT
  have HKL : Hid (kernL p M n = basisL p (freeTo p (basisL p M) n n)) := Lib.hid rfl
  have hdl := hred.len
  obtain ⟨B, hB⟩ : ∃ B, B = basisL p M := ⟨_, rfl⟩
  rw [← hB] at hbas hred htab hdl HKL
  have HRED := Lib.hid hred
  have HTAB := Lib.hid htab
  have HP' := Lib.hid HP
  obtain ⟨d, hd⟩ : ∃ d, d = B.length := ⟨_, rfl⟩
  rw [← hd] at hbas hdl
  have HD := Lib.hid hd
  clear hB hT ha hred htab HP hd
  have hmm := @run_makeMap Tryz.prog
  go_enter Tryz.func78, Tryz.ntmps78
  go_wp2_with fail
  refine hbas.mono ?_
  rintro e w1 ⟨A1, c1, rfl, hM1⟩
  clear hbas
  go_wp2
  obtain ⟨b, hb⟩ : ∃ b, b = w1.heap.size := ⟨_, rfl⟩
  obtain ⟨w2, hw2⟩ : ∃ W, W = w1.alloc (.map #[] 0) := ⟨_, rfl⟩
  have hown0 : w2.ownsMap (H := Unit) Tryz.prog 3 (plainElem Tryz.prog 3) b 0 (.map []) := by rw [hw2, hb]; exact World.ownsMap_made _ _ _ _
  have hB0 : Below b w1 w2 := by rw [hw2, hb]; exact (Below.refl _ _).alloc (Nat.le_refl _) _
  have hsz2 : w2.heap.size = b + 1 := by rw [hw2, hb]; simp
  have hbsz : b ≤ w2.heap.size := by omega
  rw [← hw2]
  try rw [← hb]
  clear hw2 hmm
  have HM1 := Lib.hid hM1
  have HBB := Lib.hid hb
  clear hM1 hb
  go_loopw [9, 10, 24] (fun _ _ i wr => ∃ (j : Nat) (D : DataW Unit), j ≤ d ∧ i = .int .i64 j ∧ wr.ownsMap Tryz.prog 3 (plainElem Tryz.prog 3) b j D ∧ Hid (Places B j D) ∧ Below b w1 wr ∧ b < wr.heap.size) (fun _ _ i _ => d - (intOf i).toNat)
  case atStart => exact ⟨0, _, by omega, rfl, hown0, Lib.hid (Places.start B), hB0, by omega⟩
  case round =>
    obtain ⟨j, D, hj, rfl, hown, hpl, hBl, hbl⟩ := hrel
    clear hown0 hB0 hsz2 hbsz
    by_cases hlj : j < d
    · obtain ⟨g, o, rfl, hxj, Aj, cj, hcj, hrj, -⟩ := (HM1.out.rd.below (by rw [← HBB.out]; exact hBl)).at_ hlj
      have HRJ := Lib.hid (HTAB.out B[j] (List.getElem_mem hxj))
      have hl := HRJ.out.1
      rw [hl] at hcj hrj
      have HLD : Hid (leadL B[j] = ld B j) := Lib.hid (by unfold ld; rw [getD_of_lt [] hxj])
      have hld := HRED.out.lt j hxj
      have hlead := fun w' (h : Rd w' Aj n (ints B[j])) => lead_any Aj n cj B[j] w' (by omega) h
      rw [HLD.out] at hlead
      have HPL : Hid (Places B (j + 1) (D.put (.int .i64 (ld B j)) (.lit (.int .i64 j)))) := Lib.hid (hpl.out.step HRED.out hxj)
      obtain ⟨l, hl'⟩ : ∃ l, l = ld B j := ⟨_, rfl⟩
      rw [← hl'] at hlead HPL hld
      clear hl hl' HLD
      go_wp2_with (first
        | (go_at_call 67; refine (hlead _ hrj).mono ?_; rintro e w' ⟨rfl, rfl⟩)
        | (at_mapUpdate; refine wpList_mapUpdate_own _ rfl _ _ _ 90 rfl 3 3 keyedInt Tryz.underlying90 _ b j _ rfl hown (by unfold maxLen; omega) _ _ _ rfl rfl (keyOf_int_mk Tryz.underlying3 (WalkArith.wf_i64 (by omega))) _ [] (plainElem_int Tryz.underlying3 (WalkArith.wf_i64 (by omega))) ?_; intro w3 hown3 hgrow3))
      go_roundw
      case rel => exact ⟨j + 1, _, by omega, by go_num, hown3, HPL, below_grown_of hBl hgrow3 (by omega) (fun k hk => by injection hk with hk; omega), by have := hgrow3.size; omega⟩
      case measure => simp [intOf]; omega
    · obtain rfl : j = d := by omega
      have HPL : Hid (Places B B.length D) := Lib.hid (by rw [← HD.out]; exact hpl.out)
      have hM0 : MkII wr (wr.alloc (.cells #[] 22)) (some ⟨wr.heap.size, 0, none⟩) 0 0 (freeTo p B n 0) := MkII.empty (Below.refl _ _)
      obtain ⟨wb, hwb⟩ : ∃ W, W = wr := ⟨_, rfl⟩
      rw [← hwb] at hM0 hown hBl hbl ⊢
      clear hwb hpl
      have hmk := make_i (P := Tryz.prog) 22 2 Tryz.underlying22 info_i n (by omega)
      go_wp2
      obtain ⟨w4, hw4⟩ : ∃ W, W = wb.alloc (.cells #[] 22) := ⟨_, rfl⟩
      rw [← hw4] at hM0 ⊢
      clear hw4
      go_loopw [11, 36] (fun out i wr => ∃ (f q : Nat) (A' : Option Addr) (c' : Nat), f ≤ n ∧ q ≤ f ∧ i = .int .i64 f ∧ out = .slice A' q c' ∧ MkII wb wr A' q c' (freeTo p B n f)) (fun _ i _ => n - (intOf i).toNat)
      case atStart => exact ⟨0, 0, _, _, by omega, by omega, rfl, rfl, hM0⟩
      case round =>
        obtain ⟨f, q, A', c', hf, hq, rfl, rfl, hM⟩ := hrel
        clear hM0
        obtain ⟨wo, rfl⟩ : ∃ W, W = wr := ⟨_, rfl⟩
        have hsz := hM.b.size
        have hownO := ownsMap_below hown hM.b hbl
        have hisl := HPL.out.isLd f
        have HM := Lib.hid hM
        clear hM
        by_cases hlf : f < n
        · cases hlb : isLd B f
          · rw [hlb] at hisl
            have HIS := Lib.hid hisl
            have hm1 := Mk.made (E := 2) (n := n) (z := .int .i64 0) (Below.refl wo.heap.size wo) (by simp only [maxLen]; omega)
            rw [ints_replicate] at hm1
            obtain ⟨u1, hc1⟩ := hm1.2.cellI hlf
            have hf1 := hm1.2.frozen_ f
            have hm2 := (hm1.set f (.int .i64 1)).1
            rw [ints_set, World.setCell_alloc_at _ _ _ _ _ rfl] at hm2
            have HM2 := Lib.hid hm2
            have HOWN := Lib.hid (ownsMap_below hown (HM.out.b.trans (hm2.b.mono HM.out.b.size)) hbl)
            clear hm1 hm2 hisl
            go_wp2_with (first
              | (at_lookup; refine wpList_lookup_own_ok_int _ rfl _ _ 90 rfl 3 3 .i64 keyedInt Tryz.underlying90 Tryz.underlying3 (zero_int _) b j D rfl hownO _ _ rfl (keyOf_int_mk Tryz.underlying3 (WalkArith.wf_i64 (by omega))) ?_; intro cv hat hwc; rw [HIS.out]; clear hat hwc)
              | (at_range; refine wpList_range_own _ rfl _ 90 rfl 3 3 keyedInt Tryz.underlying90 _ b j D rfl HOWN.out ?_; intro w0 hrg0 hg0 hs0))
            go_frame
            have e1 : w0.heap.size = wo.heap.size + 1 + 1 := by rw [hs0]; simp
            rw [show ∀ o : Obj, (wo.alloc o).heap.size = wo.heap.size + 1 from fun o => by simp] at hrg0 ⊢
            have hm3 : MkI wo w0 (some ⟨wo.heap.size, 0, none⟩) n n (unitRow n f) := ⟨HM2.out.1.grown hg0 HM2.out.1.size (fun k hk => by cases hk), HM2.out.2.grown hg0 (.inr (by simp [Value.ownBlock]))⟩
            clear hg0 hs0 HM2 HOWN hc1 hf1 hownO
            go_loopw [16] (fun _ wr => ∃ (left : Lit → Bool) (cnt : Nat), wr.ranges Tryz.prog 3 (plainElem Tryz.prog 3) b (wo.heap.size + 1) j D left cnt ∧ MkI wo wr (some ⟨wo.heap.size, 0, none⟩) n n (freePart p B n f (fun k => left (.int .i64 k))) ∧ Hid (∀ z, left z = true → Maps.has D z = true)) (fun _ wr => wr.rangeLeft b (wo.heap.size + 1))
            case atStart => exact ⟨_, _, hrg0, by rw [freePart_start p B n f hlf _ (fun k _ hk => by rw [HPL.out.isLd]; exact hk)]; exact hm3, Lib.hid (fun _ h => h)⟩
            case round =>
              obtain ⟨left, cnt, hrg, hmv, hsub⟩ := hrel
              clear hrg0 hm3 e1
              go_wp2_with (at_next; refine wpList_next_ranges_ii _ rfl _ rfl 3 3 .i64 .i64 keyedInt Tryz.underlying3 Tryz.underlying3 b (wo.heap.size + 1) j _ _ _ rfl hrg ?_ ?_)
              · intro hc0 hl0
                have hfin : freePart p B n f (fun k => left (.int .i64 k)) = freeRow p B n f := freePart_congr p B n f (fun k _ => hl0 _)
                rw [hfin] at hmv
                have HMV := Lib.hid hmv
                clear hmv hfin hl0
                go_wp2_with (at_builtin; refine wpList_appRow wb wo _ rfl _ _ rfl A' q c' _ _ n n _ HM.out HMV.out (by omega) rfl ?_ ?_; (go_simp); intro A6 c6 w6 hM6)
                go_roundw
                case rel => exact ⟨f + 1, q + 1, A6, c6, by omega, by omega, by go_num, rfl, by rw [freeTo_take hlb]; exact hM6⟩
                case measure => simp [intOf]; omega
              · intro x cv w7 cnt1 hwx hwc hlx hat hrg1 hlt hg1 hs1 hen
                obtain ⟨kx, hkx⟩ := HPL.out.only _ (hsub.out _ hlx)
                obtain ⟨i, hi, hik⟩ := (HPL.out.has kx).1 (by rw [← hkx]; exact hsub.out _ hlx)
                have hxi : x = ((ld B i : Nat) : Int) := by injection hkx with _ hkx; rw [hkx, hik]
                have hcv : cv = (i : Int) := by
                  have h1 := HPL.out.val i hi (.lit (.int .i64 0))
                  have h2 := hat (.lit (.int .i64 0))
                  rw [hxi, h1] at h2
                  injection h2 with h2
                  injection h2 with _ h2
                  exact h2.symm
                have hb7 : Below w1.heap.size w1 w7 := by
                  have h1 : Below b wb wo := HM.out.b.mono (by omega)
                  have h2 : Below b wo wr := hmv.b.mono (by omega)
                  have h3 := ((hBl.trans h1).trans h2).grown hg1 (by have := hmv.b.size; omega) (fun k hk => by injection hk with hk; omega)
                  rw [← HBB.out]; exact h3
                have hmv7 : MkI wo w7 (some ⟨wo.heap.size, 0, none⟩) n n (freePart p B n f (fun k => left (.int .i64 k))) := ⟨hmv.1.grown hg1 hmv.1.size (fun k hk => by injection hk with hk; omega), hmv.2.grown hg1 (.inr (by simp [Value.ownBlock]))⟩
                obtain ⟨g, o, rfl, hxl, Ai, ci, hci, hri, -⟩ := (HM1.out.rd.below hb7).at_ (show i < j by rw [HD.out]; exact hi)
                have HRI := Lib.hid (HTAB.out B[i] (List.getElem_mem hxl))
                have hl := HRI.out.1
                rw [hl] at hci hri
                obtain ⟨gi, oi, rfl, hxe, hce⟩ := hri.int hlf
                have HE : Hid (ent B i f = B[i][f]) := Lib.hid (ent_at' hxl hxe)
                obtain ⟨y, hy⟩ : ∃ y, y = B[i][f] := ⟨_, rfl⟩
                have hyb : 0 ≤ y ∧ y < p := hy ▸ HRI.out.2 _ (List.getElem_mem hxe)
                rw [← hy] at hce HE
                have hld := HRED.out.lt i hi
                have hij : i < j := by rw [HD.out]; exact hi
                obtain ⟨hoc, hof⟩ := mkI_at hmv7 hld
                have HSET := Lib.hid (hmv7.set (ld B i) (.int .i64 ((-y) % p)))
                have HST : Hid ((freePart p B n f (fun k => left (.int .i64 k))).set (ld B i) ((-y) % p) = freePart p B n f (fun k => left (.int .i64 k) && !(k == ld B i))) := Lib.hid (by rw [← HE.out]; exact freePart_step HRED.out hi hlb _)
                have hmb := emod_small (-y) p (by omega)
                have HRG := Lib.hid hrg
                have HRG1 := Lib.hid hrg1
                have HSUB := Lib.hid hsub
                subst hxi
                subst hcv
                have hwy := i64_small (x := -y) (by omega) (by omega)
                obtain ⟨l, hl'⟩ : ∃ l, l = ld B i := ⟨_, rfl⟩
                rw [← hl'] at hoc hof HSET HST HRG1 hen hld ⊢
                clear hl hl' hy hri HRI hxl hxe hat hkx hik hlx hwx hwc hmv7 hb7 hmv hsub hrg hrg1 hg1 hs1
                go_wp2_with (go_at_call 69; refine (num_any p (-y) _ (by omega) hp2 (by omega) (by omega)).mono ?_; rintro e w' ⟨rfl, rfl⟩)
                go_roundw
                case rel =>
                  have hs := HSET.out.1
                  rw [ints_set, HST.out] at hs
                  refine ⟨_, cnt1, HRG1.out.kept HSET.out.2 (fun e => by have := Option.some.inj e; omega) (fun e => by have := Option.some.inj e; omega), ?_, Lib.hid (fun z hz => HSUB.out.out z (by simp only [Bool.and_eq_true] at hz; exact hz.1))⟩
                  refine (freePart_congr p B n f (fun k _ => ?_)) ▸ hs
                  show (left (.int .i64 k) && !(k == l)) = (left (.int .i64 k) && !(Lit.int .i64 (k : Int)).sameKey (.int .i64 (l : Int)))
                  have e : (k == l) = ((k : Int) == (l : Int)) := by
                    rw [Bool.eq_iff_iff, beq_iff_eq, beq_iff_eq]
                    constructor <;> intro h <;> omega
                  rw [sameKey_int, e]
                case measure => rw [(HRG1.out.kept HSET.out.2 (fun e => by have := Option.some.inj e; omega) (fun e => by have := Option.some.inj e; omega)).left_eq, HRG.out.left_eq]; exact hlt
          · rw [hlb] at hisl
            have HIS := Lib.hid hisl
            clear hisl
            go_wp2_with (at_lookup; refine wpList_lookup_own_ok_int _ rfl _ _ 90 rfl 3 3 .i64 keyedInt Tryz.underlying90 Tryz.underlying3 (zero_int _) b j D rfl hownO _ _ rfl (keyOf_int_mk Tryz.underlying3 (WalkArith.wf_i64 (by omega))) ?_; intro cv hat hwc; rw [HIS.out]; clear hat hwc)
            go_roundw
            case rel => exact ⟨f + 1, q, A', c', by omega, by omega, by go_num, rfl, by rw [freeTo_skip hlb]; exact HM.out⟩
            case measure => simp [intOf]; omega
        · obtain rfl : f = n := by omega
          have hlast := basis_any p A' q c' (freeTo p B f f) f wo HP'.out (by omega) hn HM.out.rd (freeTo_tab hp B f f)
          have hbw : Below w.heap.size w wo := by
            have h1 : Below w1.heap.size w1 wb := HBB.out ▸ hBl
            exact (HM1.out.b.trans (h1.mono HM1.out.b.size)).trans (HM.out.b.mono (by have := HM1.out.b.size; have := h1.size; omega))
          go_wp2_with fail
          refine hlast.mono ?_
          rintro e w5 ⟨A5, c5, rfl, hM5⟩
          go_wp2
          go_ret
          rw [HKL.out]
          exact ⟨_, _, rfl, hM5.after hbw⟩
end Go.Proofs.YtommppijnccomaaGreat

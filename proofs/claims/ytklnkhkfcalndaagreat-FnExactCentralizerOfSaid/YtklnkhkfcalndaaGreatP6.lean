/-
  LawCentralizerOf: part 6 of the texts that the proof needs. No condition.
-/
import Derived.Test.YtklnkhkfcalndaaGreatP5
namespace Go.Proofs.YtklnkhkfcalndaaGreat
open Go.RowKit
theorem ldIdx_spec {B : List (List Int)} {k i : Nat} (h : ldIdx B k = some i) : i < B.length ∧ ld B i = k := by
  unfold ldIdx at h
  exact ⟨by simpa using List.mem_of_find?_eq_some h, by simpa using List.find?_some h⟩
/-- Is the row with the first at place k not among the first j? -/
def leftFrom (B : List (List Int)) (j k : Nat) : Bool := match ldIdx B k with | some i => decide (j ≤ i) | none => false
theorem leftFrom_zero {n : Nat} {B : List (List Int)} (hR : Red n B) {k : Nat} (h : isLd B k = true) : leftFrom B 0 k = true := by
  obtain ⟨i, hi, rfl⟩ := isLd_iff.1 h
  unfold leftFrom
  rw [ldIdx_some hR hi]
  simp
theorem leftFrom_succ {n : Nat} {B : List (List Int)} (hR : Red n B) {j : Nat} (hj : j < B.length) (k : Nat) : (leftFrom B j k && !(k == ld B j)) = leftFrom B (j + 1) k := by
  unfold leftFrom
  cases h : ldIdx B k with
  | none => rfl
  | some i =>
    obtain ⟨hi, hk⟩ := ldIdx_spec h
    by_cases hij : i = j
    · subst hij
      simp [hk]
    · have hne : ¬ k = ld B j := fun e => hij (hR.inj hi hj (hk.trans e))
      have : (k == ld B j) = false := by simpa using hne
      simp only [this, Bool.not_false, Bool.and_true]
      rw [Bool.eq_iff_iff, decide_eq_true_eq, decide_eq_true_eq]
      omega
theorem leftFrom_end {B : List (List Int)} (k : Nat) : leftFrom B B.length k = false := by
  unfold leftFrom
  cases h : ldIdx B k with
  | none => rfl
  | some i =>
    have := (ldIdx_spec h).1
    simp only [decide_eq_false_iff_not]
    omega
theorem lds_contains (B : List (List Int)) (k : Nat) : (tab B.length fun i => ((ld B i : Nat) : Int)).contains (k : Int) = isLd B k := by
  rw [Bool.eq_iff_iff, List.contains_iff_mem, isLd_iff]
  constructor
  · intro h
    obtain ⟨i, hi, e⟩ := tab_mem h
    exact ⟨i, hi, by omega⟩
  · rintro ⟨i, hi, rfl⟩
    unfold tab
    exact List.mem_map.2 ⟨i, by simpa using hi, rfl⟩
theorem firstL_ld {n : Nat} {B : List (List Int)} (hR : Red n B) {j : Nat} (hj : j < B.length) (hl : B[j].length = n) : firstL B[j] = ((ld B j : Nat) : Int) := by
  have h1 := hR.lt j hj
  unfold ld at h1 ⊢
  rw [getD_of_lt [] hj] at h1 ⊢
  unfold firstL
  rw [if_pos (by omega)]
set_option maxHeartbeats 400000 in
theorem l01Index_any (A : Option Addr) (n c : Nat) (xs : List Int) (v : Int) (w : World) (hn : n ≤ 1099511627776) (ha : Rd w A n (ints xs)) :
    Calls Tryz.prog 107 #[.slice A n c, .int .i64 v] w fun e w' => ∃ r : Int, e = .returned (.int .i64 r) ∧ decide (0 ≤ r) = xs.contains v ∧ w = w' := by
  have hxl : xs.length = n := by have := ha.1; rwa [ints_length] at this
  have Hx := Lib.hid hxl; clear hxl
  go_enter Tryz.func107, Tryz.ntmps107
  go_wp2
  go_loop [5] (fun i => ∃ k : Nat, k ≤ n ∧ i = .int .i64 k ∧ (xs.take k).contains v = false) (fun i => n - (intOf i).toNat)
  case atStart => exact ⟨0, by omega, rfl, by simp⟩
  case round =>
    obtain ⟨k, hk, rfl, ht⟩ := hrel
    have H := Lib.hid ht; clear ht
    by_cases hlt : k < n
    · obtain ⟨g, o, rfl, hx, hcx⟩ := ha.int hlt
      clear ha
      cases hi : (xs[k] == v)
      all_goals
        have HI := Lib.hid hi
        go_wp2
      · go_round
        case rel =>
          refine ⟨k + 1, by omega, by go_num, ?_⟩
          rw [List.take_succ_eq_append_getElem hx, List.contains_eq_any_beq, List.any_append, ← List.contains_eq_any_beq, H.out]
          have := HI.out
          simp only [beq_eq_false_iff_ne, ne_eq] at this
          simp only [List.any_cons, List.any_nil, Bool.or_false, Bool.false_or, beq_eq_false_iff_ne, ne_eq]
          exact fun e => this e.symm
        case measure => simp [intOf]; omega
      · go_ret
        refine ⟨_, rfl, ?_, rfl⟩
        have hv : xs[k] = v := by simpa using HI.out
        have : xs.contains v = true := by rw [List.contains_iff_mem, ← hv]; exact List.getElem_mem hx
        simpa using this
    · go_wp2
      go_ret
      refine ⟨_, rfl, ?_, rfl⟩
      have := H.out
      rw [List.take_of_length_le (by rw [Hx.out]; omega)] at this
      simpa using this
set_option maxHeartbeats 400000 in
theorem l01Has_any (A : Option Addr) (n c : Nat) (xs : List Int) (v : Int) (w : World) (hn : n ≤ 1099511627776) (ha : Rd w A n (ints xs)) :
    Calls Tryz.prog 67 #[.slice A n c, .int .i64 v] w fun e w' => e = .returned (.bool (xs.contains v)) ∧ w = w' := by
  go_enter Tryz.func67, Tryz.ntmps67
  go_wp2_with fail
  refine (l01Index_any _ _ _ _ _ _ hn ha).mono ?_
  rintro e w1 ⟨r, rfl, hr, rfl⟩
  have HR := Lib.hid hr; clear hr
  go_wp2
  go_ret
  exact ⟨ret_bool HR.out, rfl⟩
theorem l01Has_b {b : Bool} (A : Option Addr) (n c : Nat) (xs : List Int) (v : Int) (w : World) (hn : n ≤ 1099511627776) (ha : Rd w A n (ints xs)) (h : xs.contains v = b) :
    Calls Tryz.prog 67 #[.slice A n c, .int .i64 v] w fun e w' => e = .returned (.bool b) ∧ w = w' := h ▸ l01Has_any A n c xs v w hn ha
set_option maxHeartbeats 6400000 in
set_option maxRecDepth 8000 in
theorem l02Kernel_any (p : Int) (A : Option Addr) (r0 c : Nat) (M : List (List Int)) (n : Nat) (w : World) (HP : isP p = true) (h0 : 0 < r0) (hr0 : r0 ≤ 65536) (hn : n ≤ 65536) (ha : RdII w A r0 M) (hT : Tab p n M) :
    Calls Tryz.prog 33 #[.int .i64 p, .slice A r0 c] w fun e w' => ∃ A' c', e = .returned (.slice A' (kernL p M n).length c') ∧ MkII w w' A' (kernL p M n).length c' (kernL p M n) := by
  obtain ⟨hp3, hp2⟩ := isP_ge HP
  have hp : 2 ≤ p := by omega
  have hbas := fun w' (hb : Below w.heap.size w w') => l02Basis_any p A r0 c M n w' HP hr0 hn (ha.below hb) hT
  have hred := basisL_red HP M hT
  have htab := basisL_tab (p := p) (by omega) M hT
  have HKL : Hid (kernL p M n = basisL p (freeTo p (basisL p M) n n)) := Lib.hid rfl
  have HKT := Lib.hid (kernL_tab hp M n)
  have HKN := Lib.hid (kernL_len HP M n)
  have hdl := hred.len
  obtain ⟨g, o, rfl, -⟩ := ha.at_ h0
  obtain ⟨A0, c0, hc0⟩ := ha.row0 h0 hT
  obtain ⟨B, hB⟩ : ∃ B, B = basisL p M := ⟨_, rfl⟩
  rw [← hB] at hbas hred htab hdl HKL
  have HRED := Lib.hid hred
  have HTAB := Lib.hid htab
  have HP' := Lib.hid HP
  obtain ⟨d, hd⟩ : ∃ d, d = B.length := ⟨_, rfl⟩
  rw [← hd] at hbas hdl
  have HD := Lib.hid hd
  have HBAS := Lib.hid hbas
  clear hB hT ha hred htab HP hd hbas
  have hP0 : (p == 0) = false := by simp; omega
  have hP1 : (p == -1) = false := by simp; omega
  have hP2 : ¬ p = 0 := by omega
  go_enter Tryz.func33, Tryz.ntmps33
  go_wp2
  refine wp_obs 9 [[], [], [0, 1], [], [3], [3, 4], [3, 4, 5], [0, 1, 2], [3, 4, 5, 6]] [VIs (.int .i64 (p)), VIs (.slice (some ⟨g, o, none⟩) r0 c), VMat w d B, VIs (.slice (some ⟨g, o, none⟩) r0 c), VIs (.pointer (some ⟨g, o, none⟩)), VIs (.slice A0 n c0), VIs (.int .i64 (n)), VMat w d B, VIs (.int .i64 (n))] (fun w' => w'.cell? ⟨g, o, none⟩ = some (.slice A0 n c0) ∧ Below w.heap.size w w') (by kernel_rfl) (by kernel_rfl) (fun _ _ h hb => keepB1 h hb (Nat.le_refl _)) (⟨hc0, (Below.refl _ _).drew⟩) (fun x => ?_)
  refine obs_step (Eq.trans (by simp only [List.getElem?_toArray, List.getElem?_cons_zero]; exact rfl) rfl) rfl (fun w' hS hV K hK => ?_) ?_
  · have q0 := hS.1; have q1 := hS.2
    go_simp
    exact hK.out _ _ _ rfl rfl rfl (Below.refl _ _)
  simp only [List.setIfInBounds_toArray, List.set_cons_zero, List.set_cons_succ]
  refine obs_step (Eq.trans (by simp only [List.getElem?_toArray, List.getElem?_cons_succ, List.getElem?_cons_zero]; exact rfl) rfl) rfl (fun w' hS hV K hK => ?_) ?_
  · have q0 := hS.1; have q1 := hS.2
    go_simp
    exact hK.out _ _ _ rfl rfl rfl (Below.refl _ _)
  simp only [List.setIfInBounds_toArray, List.set_cons_zero, List.set_cons_succ]
  refine obs_step (Eq.trans (by simp only [List.getElem?_toArray, List.getElem?_cons_succ, List.getElem?_cons_zero]; exact rfl) rfl) rfl (fun w' hS hV K hK => ?_) ?_
  · have e0 : x 0 = (.int .i64 (p)) := hV 0 (by decide)
    have e1 : x 1 = (.slice (some ⟨g, o, none⟩) r0 c) := hV 1 (by decide)
    have q0 := hS.1; have q1 := hS.2
    go_simp
    refine (HBAS.out _ hS.2).mono ?_
    rintro e v1 ⟨A2, c2, rfl, hM⟩
    exact hK.out _ _ _ rfl rfl ⟨_, _, rfl, hM.after hS.2⟩ hM.b
  simp only [List.setIfInBounds_toArray, List.set_cons_zero, List.set_cons_succ]
  refine obs_step (Eq.trans (by simp only [List.getElem?_toArray, List.getElem?_cons_succ, List.getElem?_cons_zero]; exact rfl) rfl) rfl (fun w' hS hV K hK => ?_) ?_
  · have q0 := hS.1; have q1 := hS.2
    go_simp
    exact hK.out _ _ _ rfl rfl rfl (Below.refl _ _)
  simp only [List.setIfInBounds_toArray, List.set_cons_zero, List.set_cons_succ]
  refine obs_step (Eq.trans (by simp only [List.getElem?_toArray, List.getElem?_cons_succ, List.getElem?_cons_zero]; exact rfl) rfl) rfl (fun w' hS hV K hK => ?_) ?_
  · have e3 : x 3 = (.slice (some ⟨g, o, none⟩) r0 c) := hV 3 (by decide)
    have q0 := hS.1; have q1 := hS.2
    go_simp
    exact hK.out _ _ _ rfl rfl rfl (Below.refl _ _)
  simp only [List.setIfInBounds_toArray, List.set_cons_zero, List.set_cons_succ]
  refine obs_step (Eq.trans (by simp only [List.getElem?_toArray, List.getElem?_cons_succ, List.getElem?_cons_zero]; exact rfl) rfl) rfl (fun w' hS hV K hK => ?_) ?_
  · have e3 : x 3 = (.slice (some ⟨g, o, none⟩) r0 c) := hV 3 (by decide)
    have e4 : x 4 = (.pointer (some ⟨g, o, none⟩)) := hV 4 (by decide)
    have q0 := hS.1; have q1 := hS.2
    go_simp
    exact hK.out _ _ _ rfl rfl rfl (Below.refl _ _)
  simp only [List.setIfInBounds_toArray, List.set_cons_zero, List.set_cons_succ]
  refine obs_step (Eq.trans (by simp only [List.getElem?_toArray, List.getElem?_cons_succ, List.getElem?_cons_zero]; exact rfl) rfl) rfl (fun w' hS hV K hK => ?_) ?_
  · have e3 : x 3 = (.slice (some ⟨g, o, none⟩) r0 c) := hV 3 (by decide)
    have e4 : x 4 = (.pointer (some ⟨g, o, none⟩)) := hV 4 (by decide)
    have e5 : x 5 = (.slice A0 n c0) := hV 5 (by decide)
    have q0 := hS.1; have q1 := hS.2
    go_simp
    exact hK.out _ _ _ rfl rfl rfl (Below.refl _ _)
  simp only [List.setIfInBounds_toArray, List.set_cons_zero, List.set_cons_succ]
  refine obs_step (Eq.trans (by simp only [List.getElem?_toArray, List.getElem?_cons_succ, List.getElem?_cons_zero]; exact rfl) rfl) rfl (fun w' hS hV K hK => ?_) ?_
  · have e0 : x 0 = (.int .i64 (p)) := hV 0 (by decide)
    have e1 : x 1 = (.slice (some ⟨g, o, none⟩) r0 c) := hV 1 (by decide)
    obtain ⟨A2, c2, e2, h2⟩ := hV 2 (by decide)
    have q0 := hS.1; have q1 := hS.2
    go_simp
    exact hK.out _ _ _ rfl rfl ⟨_, _, rfl, h2⟩ (Below.refl _ _)
  simp only [List.setIfInBounds_toArray, List.set_cons_zero, List.set_cons_succ]
  refine obs_step (Eq.trans (by simp only [List.getElem?_toArray, List.getElem?_cons_succ, List.getElem?_cons_zero]; exact rfl) rfl) rfl (fun w' hS hV K hK => ?_) ?_
  · have e3 : x 3 = (.slice (some ⟨g, o, none⟩) r0 c) := hV 3 (by decide)
    have e4 : x 4 = (.pointer (some ⟨g, o, none⟩)) := hV 4 (by decide)
    have e5 : x 5 = (.slice A0 n c0) := hV 5 (by decide)
    have e6 : x 6 = (.int .i64 (n)) := hV 6 (by decide)
    have q0 := hS.1; have q1 := hS.2
    go_simp
    exact hK.out _ _ _ rfl rfl rfl (Below.refl _ _)
  simp only [List.setIfInBounds_toArray, List.set_cons_zero, List.set_cons_succ]
  refine fun w' hS hV => ?_
  have e0 : x 0 = (.int .i64 (p)) := hV 0 (by decide)
  have e1 : x 1 = (.slice (some ⟨g, o, none⟩) r0 c) := hV 1 (by decide)
  obtain ⟨A2, c2, e2, h2⟩ := hV 2 (by decide)
  have e3 : x 3 = (.slice (some ⟨g, o, none⟩) r0 c) := hV 3 (by decide)
  have e4 : x 4 = (.pointer (some ⟨g, o, none⟩)) := hV 4 (by decide)
  have e5 : x 5 = (.slice A0 n c0) := hV 5 (by decide)
  have e6 : x 6 = (.int .i64 (n)) := hV 6 (by decide)
  obtain ⟨A7, c7, e7, h7⟩ := hV 7 (by decide)
  have e8 : x 8 = (.int .i64 (n)) := hV 8 (by decide)
  simp only [e0, e1, e2, e3, e4, e5, e6, e7, e8]
  clear e0 e1 e2 e3 e4 e5 e6 e7 e8
  refine wpAny_done (by kernel_rfl) ?_ _
  obtain ⟨q0, q1⟩ := hS
  have HB7 := Lib.hid h7
  obtain ⟨wb, hwb⟩ : ∃ W, W = w' := ⟨_, rfl⟩
  rw [← hwb] at HB7 q1 ⊢
  clear h7 h2 hV q0 hwb hc0 HBAS
  have HQ := Lib.hid q1
  clear q1
  have hp0 := Mk.lit (E := 2) (Below.refl wb.heap.size wb) #[] (by simp)
  have hP0' : MkI wb ((wb.alloc (.cells #[] 2)).alloc (.cells #[] 22)) (some ⟨wb.heap.size, 0, none⟩) 0 0 (tab 0 fun i => ((ld B i : Nat) : Int)) := by
    have := hp0.alloc (.cells #[] 22)
    simpa [MkI, ints, tab] using this
  have hl0 : Mk wb ((wb.alloc (.cells #[] 2)).alloc (.cells #[] 22)) 22 (some ⟨wb.heap.size + 1, 0, none⟩) 0 0 [] := by
    have := Mk.lit (E := 22) (w0 := wb) (w := wb.alloc (.cells #[] 2)) ((Below.refl _ _).alloc (Nat.le_refl _) _) #[] (by simp)
    simpa using this
  clear hp0
  go_wp2
  obtain ⟨w2, hw2⟩ : ∃ W, W = (wb.alloc (.cells #[] 2)).alloc (.cells #[] 22) := ⟨_, rfl⟩
  rw [← hw2] at hP0' hl0 ⊢
  clear hw2
  have hlo : Own w2 wb.heap.size 22 (some ⟨wb.heap.size + 1, 0, none⟩) 0 0 [] := hl0.2
  clear hl0
  go_loopw [7, 9] (fun pv i wr => ∃ (j : Nat) (A' : Option Addr) (c' : Nat), j ≤ d ∧ i = .int .i64 j ∧ pv = .slice A' j c' ∧ MkI wb wr A' j c' (tab j fun i => ((ld B i : Nat) : Int)) ∧ Own wr wb.heap.size 22 (some ⟨wb.heap.size + 1, 0, none⟩) 0 0 []) (fun _ i _ => d - (intOf i).toNat)
  case atStart => exact ⟨0, _, _, by omega, rfl, rfl, hP0', hlo⟩
  case round =>
    obtain ⟨j, A', c', hj, rfl, rfl, hM, hlo2⟩ := hrel
    clear hP0' hlo
    have HLO := Lib.hid hlo2
    clear hlo2
    by_cases hlj : j < d
    · obtain ⟨g7, o7, rfl, hxj, Aj, cj, hcj, hrj, -⟩ := (HB7.out.rd.below hM.b).at_ hlj
      have HRJ := Lib.hid (HTAB.out B[j] (List.getElem_mem hxj))
      have hl := HRJ.out.1
      have hfl := firstL_ld HRED.out hxj hl
      rw [hl] at hcj hrj
      have hlead := l02First_any Aj n cj B[j] wr (by omega) hrj
      rw [hfl] at hlead
      have HV : Hid ((tab (j + 1) fun i => ((ld B i : Nat) : Int)) = (tab j fun i => ((ld B i : Nat) : Int)) ++ [((ld B j : Nat) : Int)]) := Lib.hid (tab_succ _ _)
      obtain ⟨l, hl'⟩ : ∃ l, l = ld B j := ⟨_, rfl⟩
      rw [← hl'] at hlead HV
      have HM := Lib.hid hM
      clear hl hl' hfl hrj hM HRJ
      go_wp2_with (first
        | (go_at_call 66; refine hlead.mono ?_; rintro e w' ⟨rfl, rfl⟩)
        | (at_builtin; refine wpList_app1 wb _ 22 2 _ _ Tryz.underlying22 info_i rfl (by omega) rfl _ _ rfl A' j c' _ _ HM.out (by omega) rfl rfl rfl ?_; intro A4 c4 w4 hM4 hg4 _))
      go_roundw
      case rel => exact ⟨j + 1, A4, c4, by omega, by go_num, rfl, by rw [HV.out]; simpa [MkI, ints] using hM4, HLO.out.grown hg4 (HLO.out.ne HM.out.2 (by decide))⟩
      case measure => simp [intOf]; omega
    · obtain rfl : j = d := by omega
      have HPV := Lib.hid hM
      have HCON : Hid (∀ f : Nat, (tab j fun i => ((ld B i : Nat) : Int)).contains (f : Int) = isLd B f) := Lib.hid (fun f => by rw [HD.out]; exact lds_contains B f)
      have hM0 : MkII wb wr (some ⟨wb.heap.size + 1, 0, none⟩) 0 0 (freeTo p B n 0) := ⟨[], ⟨hM.b, HLO.out⟩, Nest.nil _ _⟩
      have hpo : Own wr wb.heap.size 2 A' j c' (ints (tab j fun i => ((ld B i : Nat) : Int))) := hM.2
      have hmk := make_i (P := Tryz.prog) 22 2 Tryz.underlying22 info_i n (by omega)
      clear hM
      go_wp2
      go_loopw [8, 10] (fun out i wr => ∃ (f q : Nat) (A2 : Option Addr) (c2 : Nat), f ≤ n ∧ q ≤ f ∧ i = .int .i64 f ∧ out = .slice A2 q c2 ∧ MkII wb wr A2 q c2 (freeTo p B n f) ∧ Own wr wb.heap.size 2 A' j c' (ints (tab j fun i => ((ld B i : Nat) : Int)))) (fun _ i _ => n - (intOf i).toNat)
      case atStart => exact ⟨0, 0, _, _, by omega, by omega, rfl, rfl, hM0, hpo⟩
      case round =>
        obtain ⟨f, q, A2, c2, hf, hq, rfl, rfl, hM, hpo2⟩ := hrel
        clear hM0 hpo
        obtain ⟨wo, rfl⟩ : ∃ W, W = wr := ⟨_, rfl⟩
        have HM := Lib.hid hM
        have HPO := Lib.hid hpo2
        clear hM hpo2
        by_cases hlf : f < n
        · cases hlb : isLd B f
          · have hhas := l01Has_b A' j c' (tab j fun i => ((ld B i : Nat) : Int)) (f : Int) wo (by omega) (Own.rd HPO.out) ((HCON.out f).trans hlb)
            have hm1 := Mk.made (E := 2) (n := n) (z := .int .i64 0) (Below.refl wo.heap.size wo) (by simp only [maxLen]; omega)
            rw [ints_replicate] at hm1
            obtain ⟨u1, hc1⟩ := hm1.2.cellI hlf
            have hf1 := hm1.2.frozen_ f
            have hm2 := (hm1.set f (.int .i64 1)).1
            rw [ints_set, World.setCell_alloc_at _ _ _ _ _ rfl] at hm2
            have hm3 := hm2
            rw [show (List.replicate n (0 : Int)).set f 1 = freePart p B n f (leftFrom B 0) from (freePart_start p B n f hlf (leftFrom B 0) (fun k _ hk => leftFrom_zero HRED.out hk)).symm] at hm3
            clear hm1 hm2
            go_wp2_with (go_at_call 67; refine hhas.mono ?_; rintro e w' ⟨rfl, rfl⟩)
            go_loopw [12] (fun i wr => ∃ k : Nat, k ≤ j ∧ i = .int .i64 k ∧ MkI wo wr (some ⟨wo.heap.size, 0, none⟩) n n (freePart p B n f (leftFrom B k))) (fun i _ => j - (intOf i).toNat)
            case atStart => exact ⟨0, by omega, rfl, hm3⟩
            case round =>
              obtain ⟨k, hk, rfl, hmv⟩ := hrel
              clear hm3 hc1 hf1 hhas
              have HMV := Lib.hid hmv
              clear hmv
              by_cases hlk : k < j
              · have hbo := HM.out.b.trans (HMV.out.b.mono HM.out.b.size)
                obtain ⟨g7, o7, rfl, hxl, Ai, ci, hci, hri, -⟩ := (HB7.out.rd.below hbo).at_ hlk
                have HRI := Lib.hid (HTAB.out B[k] (List.getElem_mem hxl))
                have hl := HRI.out.1
                rw [hl] at hci hri
                obtain ⟨gi, oi, rfl, hxe, hce⟩ := hri.int hlf
                have HE : Hid (ent B k f = B[k][f]) := Lib.hid (ent_at hxl hxe)
                obtain ⟨y, hy⟩ : ∃ y, y = B[k][f] := ⟨_, rfl⟩
                have hyb : 0 ≤ y ∧ y < p := hy ▸ HRI.out.2 _ (List.getElem_mem hxe)
                rw [← hy] at hce HE
                have hld := HRED.out.lt k (by rw [← HD.out]; exact hlk)
                obtain ⟨gp, op, rfl, hxp, hcp⟩ := ((Own.rd HPO.out).below HMV.out.b).int hlk
                have hep : (tab j fun i => ((ld B i : Nat) : Int))[k] = ((ld B k : Nat) : Int) := tab_get j _ k hxp
                rw [hep] at hcp
                have HST : Hid ((freePart p B n f (leftFrom B k)).set (ld B k) ((-y) % p) = freePart p B n f (leftFrom B (k + 1))) := Lib.hid (by
                  rw [← HE.out, freePart_step HRED.out (by rw [← HD.out]; exact hlk) hlb]
                  exact freePart_congr p B n f (fun k' _ => leftFrom_succ HRED.out (by rw [← HD.out]; exact hlk) k'))
                have hmb := emod_small (-y) p (by omega)
                have hwy := i64_small (x := p - y) (by omega) (by omega)
                have hty : (p - y).tmod p = (-y) % p := by rw [Int.tmod_eq_emod_of_nonneg (by omega)]; simp
                obtain ⟨l, hl'⟩ : ∃ l, l = ld B k := ⟨_, rfl⟩
                rw [← hl'] at hcp HST hld
                clear hl hl' hy hri HRI hxl hxe hxp hep hbo
                go_wp2
                refine wp_obs 17 [[], [], [], [1, 2], [1, 2, 3], [], [], [], [6, 7], [6, 7, 8], [], [6, 7, 8, 9, 10], [6, 7, 8, 9, 10, 11], [5, 6, 7, 8, 9, 10, 11, 12], [], [5, 6, 7, 8, 9, 10, 11, 12, 13, 14], [0, 1, 2, 3, 4], [0, 1, 2, 3, 4, 5, 6, 7, 8, 9, 10, 11, 12, 13, 14, 15, 16]] [VIs (.slice (some ⟨wo.heap.size, 0, none⟩) n n), VIs (.slice (some ⟨gp, op, none⟩) j c'), VIs (.int .i64 (k)), VIs (.pointer (some ⟨gp, op + k, none⟩)), VIs (.int .i64 (l)), VIs (.int .i64 (p)), VIs (.slice (some ⟨g7, o7, none⟩) j c7), VIs (.int .i64 (k)), VIs (.pointer (some ⟨g7, o7 + k, none⟩)), VIs (.slice (some ⟨gi, oi, none⟩) n ci), VIs (.int .i64 (f)), VIs (.pointer (some ⟨gi, oi + f, none⟩)), VIs (.int .i64 (y)), VIs (.int .i64 (p - y)), VIs (.int .i64 (p)), VIs (.int .i64 ((-y) % p)), VIs (.pointer (some ⟨wo.heap.size, l, none⟩))] (fun w' => w'.cell? ⟨gp, op + k, none⟩ = some (.int .i64 l) ∧ w'.cell? ⟨g7, o7 + k, none⟩ = some (.slice (some ⟨gi, oi, none⟩) n ci) ∧ w'.cell? ⟨gi, oi + f, none⟩ = some (.int .i64 y) ∧ Below wr.heap.size wr w') (by kernel_rfl) (by kernel_rfl) (fun _ _ h hb => keepR3 h hb (Nat.le_refl _)) (⟨hcp, hci, hce, (Below.refl _ _).drew⟩) (fun x => ?_)
                refine obs_step (Eq.trans (by simp only [List.getElem?_toArray, List.getElem?_cons_zero]; exact rfl) rfl) rfl (fun w' hS hV K hK => ?_) ?_
                · have q0 := hS.1; have q1 := hS.2.1; have q2 := hS.2.2.1; have q3 := hS.2.2.2
                  go_simp
                  exact hK.out _ _ _ rfl rfl rfl (Below.refl _ _)
                simp only [List.setIfInBounds_toArray, List.set_cons_zero, List.set_cons_succ]
                refine obs_step (Eq.trans (by simp only [List.getElem?_toArray, List.getElem?_cons_succ, List.getElem?_cons_zero]; exact rfl) rfl) rfl (fun w' hS hV K hK => ?_) ?_
                · have q0 := hS.1; have q1 := hS.2.1; have q2 := hS.2.2.1; have q3 := hS.2.2.2
                  go_simp
                  exact hK.out _ _ _ rfl rfl rfl (Below.refl _ _)
                simp only [List.setIfInBounds_toArray, List.set_cons_zero, List.set_cons_succ]
                refine obs_step (Eq.trans (by simp only [List.getElem?_toArray, List.getElem?_cons_succ, List.getElem?_cons_zero]; exact rfl) rfl) rfl (fun w' hS hV K hK => ?_) ?_
                · have q0 := hS.1; have q1 := hS.2.1; have q2 := hS.2.2.1; have q3 := hS.2.2.2
                  go_simp
                  exact hK.out _ _ _ rfl rfl rfl (Below.refl _ _)
                simp only [List.setIfInBounds_toArray, List.set_cons_zero, List.set_cons_succ]
                refine obs_step (Eq.trans (by simp only [List.getElem?_toArray, List.getElem?_cons_succ, List.getElem?_cons_zero]; exact rfl) rfl) rfl (fun w' hS hV K hK => ?_) ?_
                · have e1 : x 1 = (.slice (some ⟨gp, op, none⟩) j c') := hV 1 (by decide)
                  have e2 : x 2 = (.int .i64 (k)) := hV 2 (by decide)
                  have q0 := hS.1; have q1 := hS.2.1; have q2 := hS.2.2.1; have q3 := hS.2.2.2
                  go_simp
                  exact hK.out _ _ _ rfl rfl rfl (Below.refl _ _)
                simp only [List.setIfInBounds_toArray, List.set_cons_zero, List.set_cons_succ]
                refine obs_step (Eq.trans (by simp only [List.getElem?_toArray, List.getElem?_cons_succ, List.getElem?_cons_zero]; exact rfl) rfl) rfl (fun w' hS hV K hK => ?_) ?_
                · have e1 : x 1 = (.slice (some ⟨gp, op, none⟩) j c') := hV 1 (by decide)
                  have e2 : x 2 = (.int .i64 (k)) := hV 2 (by decide)
                  have e3 : x 3 = (.pointer (some ⟨gp, op + k, none⟩)) := hV 3 (by decide)
                  have q0 := hS.1; have q1 := hS.2.1; have q2 := hS.2.2.1; have q3 := hS.2.2.2
                  go_simp
                  exact hK.out _ _ _ rfl rfl rfl (Below.refl _ _)
                simp only [List.setIfInBounds_toArray, List.set_cons_zero, List.set_cons_succ]
                refine obs_step (Eq.trans (by simp only [List.getElem?_toArray, List.getElem?_cons_succ, List.getElem?_cons_zero]; exact rfl) rfl) rfl (fun w' hS hV K hK => ?_) ?_
                · have q0 := hS.1; have q1 := hS.2.1; have q2 := hS.2.2.1; have q3 := hS.2.2.2
                  go_simp
                  exact hK.out _ _ _ rfl rfl rfl (Below.refl _ _)
                simp only [List.setIfInBounds_toArray, List.set_cons_zero, List.set_cons_succ]
                refine obs_step (Eq.trans (by simp only [List.getElem?_toArray, List.getElem?_cons_succ, List.getElem?_cons_zero]; exact rfl) rfl) rfl (fun w' hS hV K hK => ?_) ?_
                · have q0 := hS.1; have q1 := hS.2.1; have q2 := hS.2.2.1; have q3 := hS.2.2.2
                  go_simp
                  exact hK.out _ _ _ rfl rfl rfl (Below.refl _ _)
                simp only [List.setIfInBounds_toArray, List.set_cons_zero, List.set_cons_succ]
                refine obs_step (Eq.trans (by simp only [List.getElem?_toArray, List.getElem?_cons_succ, List.getElem?_cons_zero]; exact rfl) rfl) rfl (fun w' hS hV K hK => ?_) ?_
                · have q0 := hS.1; have q1 := hS.2.1; have q2 := hS.2.2.1; have q3 := hS.2.2.2
                  go_simp
                  exact hK.out _ _ _ rfl rfl rfl (Below.refl _ _)
                simp only [List.setIfInBounds_toArray, List.set_cons_zero, List.set_cons_succ]
                refine obs_step (Eq.trans (by simp only [List.getElem?_toArray, List.getElem?_cons_succ, List.getElem?_cons_zero]; exact rfl) rfl) rfl (fun w' hS hV K hK => ?_) ?_
                · have e6 : x 6 = (.slice (some ⟨g7, o7, none⟩) j c7) := hV 6 (by decide)
                  have e7 : x 7 = (.int .i64 (k)) := hV 7 (by decide)
                  have q0 := hS.1; have q1 := hS.2.1; have q2 := hS.2.2.1; have q3 := hS.2.2.2
                  go_simp
                  exact hK.out _ _ _ rfl rfl rfl (Below.refl _ _)
                simp only [List.setIfInBounds_toArray, List.set_cons_zero, List.set_cons_succ]
                refine obs_step (Eq.trans (by simp only [List.getElem?_toArray, List.getElem?_cons_succ, List.getElem?_cons_zero]; exact rfl) rfl) rfl (fun w' hS hV K hK => ?_) ?_
                · have e6 : x 6 = (.slice (some ⟨g7, o7, none⟩) j c7) := hV 6 (by decide)
                  have e7 : x 7 = (.int .i64 (k)) := hV 7 (by decide)
                  have e8 : x 8 = (.pointer (some ⟨g7, o7 + k, none⟩)) := hV 8 (by decide)
                  have q0 := hS.1; have q1 := hS.2.1; have q2 := hS.2.2.1; have q3 := hS.2.2.2
                  go_simp
                  exact hK.out _ _ _ rfl rfl rfl (Below.refl _ _)
                simp only [List.setIfInBounds_toArray, List.set_cons_zero, List.set_cons_succ]
                refine obs_step (Eq.trans (by simp only [List.getElem?_toArray, List.getElem?_cons_succ, List.getElem?_cons_zero]; exact rfl) rfl) rfl (fun w' hS hV K hK => ?_) ?_
                · have q0 := hS.1; have q1 := hS.2.1; have q2 := hS.2.2.1; have q3 := hS.2.2.2
                  go_simp
                  exact hK.out _ _ _ rfl rfl rfl (Below.refl _ _)
                simp only [List.setIfInBounds_toArray, List.set_cons_zero, List.set_cons_succ]
                refine obs_step (Eq.trans (by simp only [List.getElem?_toArray, List.getElem?_cons_succ, List.getElem?_cons_zero]; exact rfl) rfl) rfl (fun w' hS hV K hK => ?_) ?_
                · have e6 : x 6 = (.slice (some ⟨g7, o7, none⟩) j c7) := hV 6 (by decide)
                  have e7 : x 7 = (.int .i64 (k)) := hV 7 (by decide)
                  have e8 : x 8 = (.pointer (some ⟨g7, o7 + k, none⟩)) := hV 8 (by decide)
                  have e9 : x 9 = (.slice (some ⟨gi, oi, none⟩) n ci) := hV 9 (by decide)
                  have e10 : x 10 = (.int .i64 (f)) := hV 10 (by decide)
                  have q0 := hS.1; have q1 := hS.2.1; have q2 := hS.2.2.1; have q3 := hS.2.2.2
                  go_simp
                  exact hK.out _ _ _ rfl rfl rfl (Below.refl _ _)
                simp only [List.setIfInBounds_toArray, List.set_cons_zero, List.set_cons_succ]
                refine obs_step (Eq.trans (by simp only [List.getElem?_toArray, List.getElem?_cons_succ, List.getElem?_cons_zero]; exact rfl) rfl) rfl (fun w' hS hV K hK => ?_) ?_
                · have e6 : x 6 = (.slice (some ⟨g7, o7, none⟩) j c7) := hV 6 (by decide)
                  have e7 : x 7 = (.int .i64 (k)) := hV 7 (by decide)
                  have e8 : x 8 = (.pointer (some ⟨g7, o7 + k, none⟩)) := hV 8 (by decide)
                  have e9 : x 9 = (.slice (some ⟨gi, oi, none⟩) n ci) := hV 9 (by decide)
                  have e10 : x 10 = (.int .i64 (f)) := hV 10 (by decide)
                  have e11 : x 11 = (.pointer (some ⟨gi, oi + f, none⟩)) := hV 11 (by decide)
                  have q0 := hS.1; have q1 := hS.2.1; have q2 := hS.2.2.1; have q3 := hS.2.2.2
                  go_simp
                  exact hK.out _ _ _ rfl rfl rfl (Below.refl _ _)
                simp only [List.setIfInBounds_toArray, List.set_cons_zero, List.set_cons_succ]
                refine obs_step (Eq.trans (by simp only [List.getElem?_toArray, List.getElem?_cons_succ, List.getElem?_cons_zero]; exact rfl) rfl) rfl (fun w' hS hV K hK => ?_) ?_
                · have e5 : x 5 = (.int .i64 (p)) := hV 5 (by decide)
                  have e6 : x 6 = (.slice (some ⟨g7, o7, none⟩) j c7) := hV 6 (by decide)
                  have e7 : x 7 = (.int .i64 (k)) := hV 7 (by decide)
                  have e8 : x 8 = (.pointer (some ⟨g7, o7 + k, none⟩)) := hV 8 (by decide)
                  have e9 : x 9 = (.slice (some ⟨gi, oi, none⟩) n ci) := hV 9 (by decide)
                  have e10 : x 10 = (.int .i64 (f)) := hV 10 (by decide)
                  have e11 : x 11 = (.pointer (some ⟨gi, oi + f, none⟩)) := hV 11 (by decide)
                  have e12 : x 12 = (.int .i64 (y)) := hV 12 (by decide)
                  have q0 := hS.1; have q1 := hS.2.1; have q2 := hS.2.2.1; have q3 := hS.2.2.2
                  go_simp
                  exact hK.out _ _ _ rfl rfl rfl (Below.refl _ _)
                simp only [List.setIfInBounds_toArray, List.set_cons_zero, List.set_cons_succ]
                refine obs_step (Eq.trans (by simp only [List.getElem?_toArray, List.getElem?_cons_succ, List.getElem?_cons_zero]; exact rfl) rfl) rfl (fun w' hS hV K hK => ?_) ?_
                · have q0 := hS.1; have q1 := hS.2.1; have q2 := hS.2.2.1; have q3 := hS.2.2.2
                  go_simp
                  exact hK.out _ _ _ rfl rfl rfl (Below.refl _ _)
                simp only [List.setIfInBounds_toArray, List.set_cons_zero, List.set_cons_succ]
                refine obs_step (Eq.trans (by simp only [List.getElem?_toArray, List.getElem?_cons_succ, List.getElem?_cons_zero]; exact rfl) rfl) rfl (fun w' hS hV K hK => ?_) ?_
                · have e5 : x 5 = (.int .i64 (p)) := hV 5 (by decide)
                  have e6 : x 6 = (.slice (some ⟨g7, o7, none⟩) j c7) := hV 6 (by decide)
                  have e7 : x 7 = (.int .i64 (k)) := hV 7 (by decide)
                  have e8 : x 8 = (.pointer (some ⟨g7, o7 + k, none⟩)) := hV 8 (by decide)
                  have e9 : x 9 = (.slice (some ⟨gi, oi, none⟩) n ci) := hV 9 (by decide)
                  have e10 : x 10 = (.int .i64 (f)) := hV 10 (by decide)
                  have e11 : x 11 = (.pointer (some ⟨gi, oi + f, none⟩)) := hV 11 (by decide)
                  have e12 : x 12 = (.int .i64 (y)) := hV 12 (by decide)
                  have e13 : x 13 = (.int .i64 (p - y)) := hV 13 (by decide)
                  have e14 : x 14 = (.int .i64 (p)) := hV 14 (by decide)
                  have q0 := hS.1; have q1 := hS.2.1; have q2 := hS.2.2.1; have q3 := hS.2.2.2
                  go_simp
                  exact hK.out _ _ _ rfl rfl rfl (Below.refl _ _)
                simp only [List.setIfInBounds_toArray, List.set_cons_zero, List.set_cons_succ]
                refine obs_step (Eq.trans (by simp only [List.getElem?_toArray, List.getElem?_cons_succ, List.getElem?_cons_zero]; exact rfl) rfl) rfl (fun w' hS hV K hK => ?_) ?_
                · have e0 : x 0 = (.slice (some ⟨wo.heap.size, 0, none⟩) n n) := hV 0 (by decide)
                  have e1 : x 1 = (.slice (some ⟨gp, op, none⟩) j c') := hV 1 (by decide)
                  have e2 : x 2 = (.int .i64 (k)) := hV 2 (by decide)
                  have e3 : x 3 = (.pointer (some ⟨gp, op + k, none⟩)) := hV 3 (by decide)
                  have e4 : x 4 = (.int .i64 (l)) := hV 4 (by decide)
                  have q0 := hS.1; have q1 := hS.2.1; have q2 := hS.2.2.1; have q3 := hS.2.2.2
                  go_simp
                  exact hK.out _ _ _ rfl rfl rfl (Below.refl _ _)
                simp only [List.setIfInBounds_toArray, List.set_cons_zero, List.set_cons_succ]
                refine fun w' hS hV => ?_
                have e0 : x 0 = (.slice (some ⟨wo.heap.size, 0, none⟩) n n) := hV 0 (by decide)
                have e1 : x 1 = (.slice (some ⟨gp, op, none⟩) j c') := hV 1 (by decide)
                have e2 : x 2 = (.int .i64 (k)) := hV 2 (by decide)
                have e3 : x 3 = (.pointer (some ⟨gp, op + k, none⟩)) := hV 3 (by decide)
                have e4 : x 4 = (.int .i64 (l)) := hV 4 (by decide)
                have e5 : x 5 = (.int .i64 (p)) := hV 5 (by decide)
                have e6 : x 6 = (.slice (some ⟨g7, o7, none⟩) j c7) := hV 6 (by decide)
                have e7 : x 7 = (.int .i64 (k)) := hV 7 (by decide)
                have e8 : x 8 = (.pointer (some ⟨g7, o7 + k, none⟩)) := hV 8 (by decide)
                have e9 : x 9 = (.slice (some ⟨gi, oi, none⟩) n ci) := hV 9 (by decide)
                have e10 : x 10 = (.int .i64 (f)) := hV 10 (by decide)
                have e11 : x 11 = (.pointer (some ⟨gi, oi + f, none⟩)) := hV 11 (by decide)
                have e12 : x 12 = (.int .i64 (y)) := hV 12 (by decide)
                have e13 : x 13 = (.int .i64 (p - y)) := hV 13 (by decide)
                have e14 : x 14 = (.int .i64 (p)) := hV 14 (by decide)
                have e15 : x 15 = (.int .i64 ((-y) % p)) := hV 15 (by decide)
                have e16 : x 16 = (.pointer (some ⟨wo.heap.size, l, none⟩)) := hV 16 (by decide)
                simp only [e0, e1, e2, e3, e4, e5, e6, e7, e8, e9, e10, e11, e12, e13, e14, e15, e16]
                clear e0 e1 e2 e3 e4 e5 e6 e7 e8 e9 e10 e11 e12 e13 e14 e15 e16
                obtain ⟨q0, q1, q2, q3⟩ := hS
                have hm5 := HMV.out.below q3
                obtain ⟨hoc, hof⟩ := mkI_at hm5 hld
                refine any_one (j := 17) (by kernel_rfl) (Eq.trans (by simp only [List.getElem?_toArray, List.getElem?_cons_succ, List.getElem?_cons_zero]; exact rfl) rfl) (fun K hK => ?_)
                go_simp
                refine hK.out _ _ (wpAny_done (by kernel_rfl) ?_ _)
                have hset := (hm5.set l (.int .i64 ((-y) % p))).1
                rw [ints_set, HST.out] at hset
                clear q0 q1 q2 q3 hm5 hoc hof
                go_wp2
                go_roundw
                case rel => exact ⟨k + 1, by omega, by go_num, hset⟩
                case measure => simp [intOf]; omega
              · obtain rfl : k = j := by omega
                have HFR : Hid (MkI wo wr (some ⟨wo.heap.size, 0, none⟩) n n (freeRow p B n f)) := Lib.hid (by
                  have e : freePart p B n f (leftFrom B k) = freeRow p B n f := freePart_congr p B n f (fun k' _ => by rw [HD.out]; exact leftFrom_end k')
                  rw [← e]; exact HMV.out)
                go_wp2_with (at_builtin; refine wpList_appRowG wb wo _ rfl _ _ rfl A2 q c2 _ _ n n _ HM.out HFR.out (by omega) rfl ?_ ?_; (go_simp); intro A6 c6 w6 hM6 hg6 _)
                have hpn := (HPO.out.below HFR.out.b).grown hg6 ((HPO.out.below HFR.out.b).ne (HM.out.outer.choose_spec.below HFR.out.b).2 (by decide))
                go_roundw
                case rel => exact ⟨f + 1, q + 1, A6, c6, by omega, by omega, by go_num, rfl, by rw [freeTo_take hlb]; exact hM6, hpn⟩
                case measure => simp [intOf]; omega
          · have hhas := l01Has_b A' j c' (tab j fun i => ((ld B i : Nat) : Int)) (f : Int) wo (by omega) (Own.rd HPO.out) ((HCON.out f).trans hlb)
            go_wp2_with (go_at_call 67; refine hhas.mono ?_; rintro e w' ⟨rfl, rfl⟩)
            go_roundw
            case rel => exact ⟨f + 1, q, A2, c2, by omega, by omega, by go_num, rfl, by rw [freeTo_skip hlb]; exact HM.out, HPO.out⟩
            case measure => simp [intOf]; omega
        · obtain rfl : f = n := by omega
          have hlast := l02Basis_any p A2 q c2 (freeTo p B f f) f wo HP'.out (by omega) hn HM.out.rd (freeTo_tab hp B f f)
          rw [← HKL.out] at hlast
          have hbw : Below w.heap.size w wo := HQ.out.trans (HM.out.b.mono HQ.out.size)
          go_wp2_with fail
          refine hlast.mono ?_
          rintro e w5 ⟨A5, c5, rfl, hM5⟩
          have hcopy := l01Own2_any p A5 _ c5 (kernL p M f) f w5 (by have := HKN.out; omega) hn hM5.rd HKT.out
          go_wp2_with fail
          refine hcopy.mono ?_
          rintro e w6 ⟨A6, c6, rfl, hM6⟩
          go_wp2
          go_ret
          exact ⟨_, _, rfl, (hM6.after hM5.b).after hbw⟩
end Go.Proofs.YtklnkhkfcalndaaGreat
namespace Go.Proofs.YtklnkhkfcalndaaGreat
open Go.RowKit
set_option maxHeartbeats 1600000 in
set_option maxRecDepth 8000 in
theorem transpose_any (p : Int) (A : Option Addr) (n c : Nat) (M : List (List Int)) (m : Nat) (w : World) (h0 : 0 < n) (hn : n ≤ 65536) (hm : m ≤ 65536) (ha : RdII w A n M) (hT : Tab p m M) :
    Calls Tryz.prog 43 #[.slice A n c] w fun e w' => ∃ A' c', e = .returned (.slice A' m c') ∧ MkII w w' A' m c' (transL M) := by
  have hML := ha.len
  have HTL : Hid (transL M = tab m fun k => tab n fun i => ent M i k) := Lib.hid (by unfold transL; rw [(hT.row (show 0 < M.length by omega)).1, hML])
  have HT := Lib.hid hT
  have HML := Lib.hid hML
  have hM0 : MkII w (w.alloc (.cells #[] 22)) (some ⟨w.heap.size, 0, none⟩) 0 0 [] := MkII.empty (Below.refl _ _)
  obtain ⟨g, o, rfl, hx0, A0, c0, hcx0, _, _⟩ := (ha.below hM0.b).at_ h0
  have hl0 : M[0].length = m := (HT.out M[0] (List.getElem_mem hx0)).1
  rw [hl0, Nat.add_zero] at hcx0
  clear hT hML hl0
  go_enter Tryz.func43, Tryz.ntmps43
  go_wp2
  clear hcx0
  obtain ⟨w1, hw1⟩ : ∃ W, W = w.alloc (.cells #[] 22) := ⟨_, rfl⟩
  rw [← hw1] at hM0 ⊢
  clear hw1
  go_loopw [3, 12] (fun out i wr => ∃ (k : Nat) (A' : Option Addr) (c' : Nat), k ≤ m ∧ i = .int .i64 k ∧ out = .slice A' k c' ∧ MkII w wr A' k c' (tab k fun k => tab n fun i => ent M i k)) (fun _ i _ => m - (intOf i).toNat)
  case atStart => exact ⟨0, _, _, by omega, rfl, rfl, by simpa [tab] using hM0⟩
  case round =>
    obtain ⟨k, A', c', hk, rfl, rfl, hM⟩ := hrel
    clear hM0
    obtain ⟨wo, rfl⟩ : ∃ W, W = wr := ⟨_, rfl⟩
    by_cases hlt : k < m
    · have hr0 := Mk.lit (E := 2) (Below.refl wo.heap.size wo) #[] (by simp)
      have hR0 : MkI wo (wo.alloc (.cells #[] 2)) (some ⟨wo.heap.size, 0, none⟩) 0 0 [] := by simpa [MkI, ints] using hr0
      have HM := Lib.hid hM
      clear hr0 hM
      go_wp2
      go_loopw [5, 18] (fun row i w2 => ∃ (j : Nat) (A2 : Option Addr) (c2 : Nat), j ≤ n ∧ i = .int .i64 j ∧ row = .slice A2 j c2 ∧ MkI wo w2 A2 j c2 (tab j fun i => ent M i k)) (fun _ i _ => n - (intOf i).toNat)
      case atStart => exact ⟨0, _, _, by omega, rfl, rfl, by simpa [tab] using hR0⟩
      case round =>
        obtain ⟨j, A2, c2, hj, rfl, rfl, hR⟩ := hrel
        clear hR0
        have HR := Lib.hid hR
        by_cases hlj : j < n
        · have hbb := HM.out.b.trans (hR.b.mono HM.out.b.size)
          obtain ⟨g', o', e', hxj, A3, c3, hcx, hr3, _⟩ := (ha.below hbb).at_ hlj
          injection e' with e'; injection e' with e1 e2 _
          subst e1; subst e2
          have hl3 : M[j].length = m := (HT.out M[j] (List.getElem_mem hxj)).1
          rw [hl3] at hcx hr3
          obtain ⟨g3, o3, rfl, hx3, hc3⟩ := hr3.int hlt
          have HV : Hid ((tab (j + 1) fun i => ent M i k) = (tab j fun i => ent M i k) ++ [M[j][k]]) := Lib.hid (by rw [tab_succ, ent_at hxj hx3])
          clear hR hr3 hl3 hbb ha
          go_wp2_with (at_builtin; refine wpList_app1 wo _ 22 2 _ _ Tryz.underlying22 info_i rfl (by omega) rfl _ _ rfl A2 j c2 _ _ HR.out (by omega) rfl rfl rfl ?_; intro A4 c4 w4 hM4 _ _)
          go_roundw
          case rel => exact ⟨j + 1, A4, c4, by omega, by go_num, rfl, by rw [HV.out]; simpa [MkI, ints] using hM4⟩
          case measure => simp [intOf]; omega
        · obtain rfl : j = n := by omega
          clear hR ha
          go_wp2_with (at_builtin; refine wpList_appRow w wo _ rfl _ _ rfl A' k c' _ A2 j c2 _ HM.out HR.out (by omega) rfl ?_ ?_; (go_simp); intro A4 c4 w4 hM4)
          go_roundw
          case rel => exact ⟨k + 1, A4, c4, by omega, by go_num, rfl, by rw [tab_succ]; exact hM4⟩
          case measure => simp [intOf]; omega
    · go_wp2
      go_ret
      obtain rfl : k = m := by omega
      exact ⟨_, _, rfl, by rw [HTL.out]; exact hM⟩
set_option maxHeartbeats 1600000 in
set_option maxRecDepth 8000 in
theorem l02Turn_any (p : Int) (A : Option Addr) (n c : Nat) (M : List (List Int)) (m : Nat) (w : World) (h0 : 0 < n) (hn : n ≤ 65536) (hm : m ≤ 65536) (ha : RdII w A n M) (hT : Tab p m M) :
    Calls Tryz.prog 34 #[.slice A n c] w fun e w' => ∃ A' c', e = .returned (.slice A' m c') ∧ MkII w w' A' m c' (transL M) := by
  have hML := ha.len
  have HTL : Hid (transL M = tab m fun k => tab n fun i => ent M i k) := Lib.hid (by unfold transL; rw [(hT.row (show 0 < M.length by omega)).1, hML])
  have HT := Lib.hid hT
  have HML := Lib.hid hML
  have hM0 : MkII w (w.alloc (.cells #[] 22)) (some ⟨w.heap.size, 0, none⟩) 0 0 [] := MkII.empty (Below.refl _ _)
  obtain ⟨g, o, rfl, _⟩ := ha.at_ h0
  clear hT hML
  go_enter Tryz.func34, Tryz.ntmps34
  go_wp2
  obtain ⟨w1, hw1⟩ : ∃ W, W = w.alloc (.cells #[] 22) := ⟨_, rfl⟩
  rw [← hw1] at hM0 ⊢
  clear hw1
  go_loopw [3, 4] (fun out i wr => ∃ (k : Nat) (A' : Option Addr) (c' : Nat), k ≤ m ∧ i = .int .i64 k ∧ out = .slice A' k c' ∧ MkII w wr A' k c' (tab k fun k => tab n fun i => ent M i k)) (fun _ i _ => m - (intOf i).toNat)
  case atStart => exact ⟨0, _, _, by omega, rfl, rfl, by simpa [tab] using hM0⟩
  case round =>
    obtain ⟨k, A', c', hk, rfl, rfl, hM⟩ := hrel
    clear hM0
    obtain ⟨wo, rfl⟩ : ∃ W, W = wr := ⟨_, rfl⟩
    obtain ⟨A0, c0, hcx0⟩ := (ha.below hM.b).row0 h0 HT.out
    by_cases hlt : k < m
    · have hr0 := Mk.lit (E := 2) (Below.refl wo.heap.size wo) #[] (by simp)
      have hR0 : MkI wo (wo.alloc (.cells #[] 2)) (some ⟨wo.heap.size, 0, none⟩) 0 0 [] := by simpa [MkI, ints] using hr0
      have HM := Lib.hid hM
      clear hr0 hM
      go_wp2
      go_loopw [5, 6] (fun row i w2 => ∃ (j : Nat) (A2 : Option Addr) (c2 : Nat), j ≤ n ∧ i = .int .i64 j ∧ row = .slice A2 j c2 ∧ MkI wo w2 A2 j c2 (tab j fun i => ent M i k)) (fun _ i _ => n - (intOf i).toNat)
      case atStart => exact ⟨0, _, _, by omega, rfl, rfl, by simpa [tab] using hR0⟩
      case round =>
        obtain ⟨j, A2, c2, hj, rfl, rfl, hR⟩ := hrel
        clear hR0 hcx0
        have HR := Lib.hid hR
        by_cases hlj : j < n
        · have hbb := HM.out.b.trans (hR.b.mono HM.out.b.size)
          obtain ⟨g', o', e', hxj, A3, c3, hcx, hr3, _⟩ := (ha.below hbb).at_ hlj
          injection e' with e'; injection e' with e1 e2 _
          subst e1; subst e2
          have hl3 : M[j].length = m := (HT.out M[j] (List.getElem_mem hxj)).1
          rw [hl3] at hcx hr3
          obtain ⟨g3, o3, rfl, hx3, hc3⟩ := hr3.int hlt
          have HV : Hid ((tab (j + 1) fun i => ent M i k) = (tab j fun i => ent M i k) ++ [M[j][k]]) := Lib.hid (by rw [tab_succ, ent_at hxj hx3])
          clear hR hr3 hl3 hbb ha
          go_wp2_with (at_builtin; refine wpList_app1 wo _ 22 2 _ _ Tryz.underlying22 info_i rfl (by omega) rfl _ _ rfl A2 j c2 _ _ HR.out (by omega) rfl rfl rfl ?_; intro A4 c4 w4 hM4 _ _)
          go_roundw
          case rel => exact ⟨j + 1, A4, c4, by omega, by go_num, rfl, by rw [HV.out]; simpa [MkI, ints] using hM4⟩
          case measure => simp [intOf]; omega
        · obtain rfl : j = n := by omega
          clear hR ha
          go_wp2_with (at_builtin; refine wpList_appRow w wo _ rfl _ _ rfl A' k c' _ A2 j c2 _ HM.out HR.out (by omega) rfl ?_ ?_; (go_simp); intro A4 c4 w4 hM4)
          go_roundw
          case rel => exact ⟨k + 1, A4, c4, by omega, by go_num, rfl, by rw [tab_succ]; exact hM4⟩
          case measure => simp [intOf]; omega
    · go_wp2
      go_ret
      obtain rfl : k = m := by omega
      exact ⟨_, _, rfl, by rw [HTL.out]; exact hM⟩
end Go.Proofs.YtklnkhkfcalndaaGreat
namespace Go.Proofs.YtklnkhkfcalndaaGreat
open Go.RowKit
theorem isMu_spec3 {P : Int} {sq ys : List Int} (h : isMu P sq ys = true) : ys.length = pw sq.length ∧ NumsL P ys := by
  unfold isMu at h
  simp only [Bool.and_eq_true, beq_iff_eq] at h
  exact ⟨by have := h.1; omega, nums_numsL h.2⟩
theorem codeM_spec3 {P : Int} {sq : List Int} {ms : List (List Int)} (h : codeM P sq ms = 0) : isP P = true ∧ 2 ≤ P ∧ P ≤ 13 ∧ 1 ≤ sq.length ∧ sq.length ≤ 6 ∧ NumsL P sq ∧ ∀ ys ∈ ms, ys.length = pw sq.length ∧ NumsL P ys := by
  obtain ⟨h1, h2⟩ := codeM_sp h
  obtain ⟨hp, hd1, hd2, hnum⟩ := isSp_dim h1
  have := isP_ge hp
  exact ⟨hp, by omega, by omega, hd1, hd2, nums_numsL hnum, fun ys hy => isMu_spec3 (h2 ys hy)⟩
end Go.Proofs.YtklnkhkfcalndaaGreat
namespace Go.Proofs.YtklnkhkfcalndaaGreat
open Go.RowKit
theorem Blk.newAt3 {w : World} {t : TypeId} {cs : Array Value} {g : Nat} (hg : g = w.heap.size) : Blk (w.alloc (.cells cs t)) g t cs := hg ▸ Blk.new w t cs
theorem noMat3 {w w' : World} {R : List (List Int) × Int} {x : Int} (hR : R = ([], x)) (hB : Below w.heap.size w w') :
    ∃ (A' : Option Addr) (k c' : Nat), Ending.returned (.tuple #[.slice none 0 0, .int .i64 x]) = .returned (.tuple #[.slice A' k c', .int .i64 R.2]) ∧ MkII w w' A' k c' R.1 := by
  subst hR
  exact ⟨none, 0, 0, rfl, MkII.nil hB⟩
theorem aMat3 {w w' : World} {R : List (List Int) × Int} {A : Option Addr} {k c : Nat} {L : List (List Int)} {x : Int} (hR : R = (L, x)) (hM : MkII w w' A k c L) :
    ∃ (A' : Option Addr) (k' c' : Nat), Ending.returned (.tuple #[.slice A k c, .int .i64 x]) = .returned (.tuple #[.slice A' k' c', .int .i64 R.2]) ∧ MkII w w' A' k' c' R.1 := by
  subst hR
  exact ⟨_, _, _, rfl, hM⟩
theorem totL_eq3 {L : List (List Int)} {n : Nat} (h : ∀ x ∈ L, x.length = n) : totL L = L.length * n := by
  induction L with
  | nil => simp [totL]
  | cons x r ih =>
    simp only [totL, List.length_cons]
    rw [h x (by simp), ih (fun y hy => h y (by simp [hy])), Nat.add_mul]
    omega
end Go.Proofs.YtklnkhkfcalndaaGreat
namespace Go.Proofs.YtklnkhkfcalndaaGreat
open Go.RowKit
def MkO (w0 w : World) (A : Option Addr) (n c : Nat) (xss : List (List Int)) : Prop := ∃ rows, Mk w0 w 22 A n c rows ∧ rows.length = xss.length ∧
  ∀ (k : Nat) (h : k < xss.length), ∃ A' c', rows[k]? = some (.slice A' xss[k].length c') ∧ Own w 0 2 A' xss[k].length c' (ints xss[k])
theorem MkII.o {w0 w : World} {A : Option Addr} {n c : Nat} {xss : List (List Int)} (h : MkII w0 w A n c xss) : MkO w0 w A n c xss := by
  obtain ⟨rows, hm, hn⟩ := h
  exact ⟨rows, hm, hn.len, fun k hk => by obtain ⟨A', c', e, ho⟩ := hn.row k hk; exact ⟨A', c', e, ho.base (Nat.zero_le _)⟩⟩
theorem MkO.rd {w0 w : World} {A : Option Addr} {n c : Nat} {xss : List (List Int)} (h : MkO w0 w A n c xss) : RdII w A n xss := by
  obtain ⟨rows, hm, hl, hk⟩ := h
  exact ⟨rows, hm.rd, hl, fun k hlt => by obtain ⟨A', c', e, ho⟩ := hk k hlt; exact ⟨A', c', e, ho.rd, ho.cap⟩⟩
theorem MkO.b {w0 w : World} {A : Option Addr} {n c : Nat} {xss : List (List Int)} (h : MkO w0 w A n c xss) : Below w0.heap.size w0 w := by
  obtain ⟨_, hm, _⟩ := h; exact hm.1
theorem MkO.below {w0 w w' : World} {A : Option Addr} {n c : Nat} {xss : List (List Int)} (h : MkO w0 w A n c xss) (hb : Below w.heap.size w w') : MkO w0 w' A n c xss := by
  obtain ⟨rows, hm, hl, hk⟩ := h
  exact ⟨rows, hm.below hb, hl, fun k hlt => by obtain ⟨A', c', e, ho⟩ := hk k hlt; exact ⟨A', c', e, ho.below hb⟩⟩
theorem MkO.after {w0 w1 w : World} {A : Option Addr} {n c : Nat} {xss : List (List Int)} (h : MkO w1 w A n c xss) (hb : Below w0.heap.size w0 w1) : MkO w0 w A n c xss := by
  obtain ⟨rows, hm, hl, hk⟩ := h
  exact ⟨rows, hm.after hb, hl, hk⟩
theorem MkO.ne_blk {w0 w : World} {A : Option Addr} {n c g : Nat} {xss : List (List Int)} {t : TypeId} {cs : Array Value} (h : MkO w0 w A n c xss) (hb : Blk w g t cs) (hE : 22 ≠ t) : some g ≠ (Value.slice A n c).ownBlock := by
  obtain ⟨rows, hm, _⟩ := h
  exact hm.2.ne_blk hb hE
/-- A row that lies there is appended. -/
theorem wpList_appRowO {ops : Array Oper} {rest : List Oper} {o : Oper} {a : Act} {Q : Exit → Act → World → Prop} (w0 w1 : World)
    (hgd : o.guard = none) (s x : Operand) (ho : o.op = .call { callee := .builtin .append, args := #[s, x], argTypes := #[26, 26] })
    (A : Option Addr) (n c : Nat) (xss : List (List Int)) (A1 : Option Addr) (m c1 : Nat) (xs : List Int) (hM : MkO w0 w1 A n c xss) (hr : Own w1 0 2 A1 m c1 (ints xs)) (hn : n ≤ 1099511627776)
    (hs : a.eval s = .slice A n c) (hx : a.eval x = .slice (some ⟨w1.heap.size, 0, none⟩) 1 1)
    (h : ∀ A' c' w', MkO w0 w' A' (n + 1) c' (xss ++ [xs]) → w1.grownBy w' (Value.slice A n c).ownBlock → (∃ g, A' = some ⟨g, 0, none⟩ ∧ ((Value.slice A n c).ownBlock = some g ∨ w1.heap.size ≤ g)) → wpList Tryz.prog ops Q rest (a.put o.dst (.slice A' (n + 1) c')) w') :
    wpList Tryz.prog ops Q (o :: rest) a (w1.alloc (.cells #[.slice A1 m c1] 22)) := by
  obtain ⟨rows, hm, hl, hrow⟩ := hM
  have hml : xs.length = m := by have := hr.len; rwa [ints_length] at this
  subst hml
  refine wpList_app1 w0 w1 26 22 (.slice none 0 0) 24 Tryz.underlying26 info_s rfl (by omega) hgd s x ho A n c rows (.slice A1 xs.length c1) hm hn rfl hs hx ?_
  intro A' c' w' hM' hg hat
  refine h A' c' w' ⟨_, hM', by simp [hl], fun k hk => ?_⟩ hg hat
  by_cases hlt : k < xss.length
  · obtain ⟨A2, c2, e, ho2⟩ := hrow k hlt
    simp only [List.getElem_append_left hlt]
    exact ⟨A2, c2, by rw [List.getElem?_append_left (by omega)]; exact e, ho2.grown hg (ho2.ne hm.2 (by decide))⟩
  · have hk' : k = xss.length := by simp at hk; omega
    subst hk'
    simp only [List.getElem_append_right (Nat.le_refl _), Nat.sub_self, List.getElem_cons_zero]
    exact ⟨A1, c1, by rw [List.getElem?_append_right (by omega), hl, Nat.sub_self]; rfl, hr.grown hg (hr.ne hm.2 (by decide))⟩
/-- A row of a list of lists that lies between two sizes, while these blocks are kept. -/
theorem MkII.rowO {w2 w3 wr : World} {A : Option Addr} {n c : Nat} {xss : List (List Int)} (h : MkII w2 w3 A n c xss) (hk : ∀ b, w2.heap.size ≤ b → b < w3.heap.size → wr.heap[b]? = w3.heap[b]?) {k : Nat} (hlt : k < n) :
    ∃ g, A = some ⟨g, 0, none⟩ ∧ ∃ (hx : k < xss.length) (A' : Option Addr) (c' : Nat), wr.cell? ⟨g, k, none⟩ = some (.slice A' xss[k].length c') ∧ Own wr 0 2 A' xss[k].length c' (ints xss[k]) := by
  obtain ⟨g, rfl, hx, A', c', hc, _, ho⟩ := h.at_ hlt
  have hg : w2.heap.size ≤ g ∧ g < w3.heap.size := by
    obtain ⟨rows, hm, _⟩ := h
    exact World.ownsRow.lt hm.2 g rfl
  refine ⟨g, rfl, hx, A', c', (World.cell?_of_block (hk g hg.1 hg.2)).trans hc, ho.1, ?_⟩
  rcases ho.2 with hn | ⟨g', cap, cur, he, hB, hg', r⟩
  · exact .inl hn
  · exact .inr ⟨g', cap, cur, he, Nat.zero_le _, (hk g' hB (Array.getElem?_eq_some_iff.1 hg').1).trans hg', r⟩
/-- CentralizerOf. -/
def cenR (P : Int) (sq : List Int) (xs : List Int) : List (List Int) × Int := if codeB P sq [xs] = 0 then (if sq.length ≤ 4 then (cenL P sq sq.length xs, 0) else ([], 3)) else ([], codeB P sq [xs])
theorem cenR_ok {P : Int} {sq xs : List Int} (h : codeB P sq [xs] = 0) (hn : sq.length ≤ 4) : cenR P sq xs = (cenL P sq sq.length xs, 0) := by unfold cenR; rw [if_pos h, if_pos hn]
theorem cenR_big {P : Int} {sq xs : List Int} (h : codeB P sq [xs] = 0) (hn : ¬ sq.length ≤ 4) : cenR P sq xs = ([], 3) := by unfold cenR; rw [if_pos h, if_neg hn]
theorem cenR_bad {P : Int} {sq xs : List Int} (h : ¬ codeB P sq [xs] = 0) : cenR P sq xs = ([], codeB P sq [xs]) := by unfold cenR; rw [if_neg h]
theorem cenR_len (P : Int) (sq xs : List Int) : (∀ x ∈ (cenR P sq xs).1, x.length ≤ 1099511627776) ∧ totL (cenR P sq xs).1 ≤ 1048576 ∧ (cenR P sq xs).1.length ≤ 1048576 := by
  by_cases h : codeB P sq [xs] = 0
  · by_cases hn : sq.length ≤ 4
    · obtain ⟨HP, hp, _, h1, h6, _, _⟩ := codeM_spec3 (codeR_zero2 (codeB_zero h))
      have hT := cenL_tab hp sq sq.length xs
      have hl := cenL_len HP sq sq.length xs
      have hw : pw sq.length ≤ 64 := pw_le h6
      rw [cenR_ok h hn]
      refine ⟨fun x hx => ?_, ?_, ?_⟩
      · have := (hT x hx).1; omega
      · show totL (cenL P sq sq.length xs) ≤ _
        rw [totL_eq3 fun x hx => (hT x hx).1]
        exact Nat.le_trans (Nat.mul_le_mul (Nat.le_trans hl hw) hw) (by decide)
      · show (cenL P sq sq.length xs).length ≤ _
        omega
    · rw [cenR_big h hn]; simp [totL]
  · rw [cenR_bad h]; simp [totL]
set_option maxHeartbeats 800000 in
theorem blades_any (P : Int) (A : Option Addr) (n c : Nat) (w : World) (hn : n ≤ 10) :
    Calls Tryz.prog 39 #[.agg #[.int .i64 P, .slice A n c]] w fun e w' => ∃ A' c', e = .returned (.slice A' (pw n) c') ∧ MkII w w' A' (pw n) c' (unitM (pw n)) := by
  have hB0 : Below w.heap.size w (w.alloc (.cells #[.int .i64 P, .slice A n c] 29)) := (Below.refl _ _).alloc (Nat.le_refl _) _
  have k0 : Blk (w.alloc (.cells #[.int .i64 P, .slice A n c] 29)) w.heap.size 29 #[.int .i64 P, .slice A n c] := Blk.new _ _ _
  obtain ⟨q0, q1⟩ := k0.two
  have hp : pw n ≤ 1024 := pw_le hn
  have hun := fun w' => unit_any (pw n) w' (by omega)
  go_enter Tryz.func39, Tryz.ntmps39
  go_wp2_with fail
  refine (dim_any _ _ _ _ _).mono ?_
  rintro e w1 ⟨rfl, hb1⟩
  go_wp2_with fail
  rw [wrap_pw n (by omega)]
  refine (hun _).mono ?_
  rintro e w2 ⟨A2, c2, rfl, hM⟩
  go_wp2
  go_ret
  exact ⟨_, _, rfl, hM.after (hB0.trans (hb1.mono hB0.size))⟩
set_option maxHeartbeats 6400000 in
set_option maxRecDepth 8000 in
theorem CentralizerOf_any (P : Int) (A : Option Addr) (n c : Nat) (sq : List Int) (X : Option Addr) (m cx : Nat) (xs : List Int) (w : World) (hn : n ≤ 1048576) (hm : m ≤ 1048576) (ha : Rd w A n (ints sq)) (hx : Rd w X m (ints xs)) (hcx : m ≤ cx) :
    Calls Tryz.prog 18 #[.agg #[.int .i64 P, .slice A n c], .slice X m cx] w fun e w' => ∃ (A' : Option Addr) (k c' : Nat), e = .returned (.tuple #[.slice A' k c', .int .i64 (cenR P sq xs).2]) ∧ MkII w w' A' k c' (cenR P sq xs).1 := by
  have hB0 : Below w.heap.size w (w.alloc (.cells #[.int .i64 P, .slice A n c] 29)) := (Below.refl _ _).alloc (Nat.le_refl _) _
  have k0 : Blk (w.alloc (.cells #[.int .i64 P, .slice A n c] 29)) w.heap.size 29 #[.int .i64 P, .slice A n c] := Blk.new _ _ _
  have hB1 : Below w.heap.size w ((w.alloc (.cells #[.int .i64 P, .slice A n c] 29)).alloc (.cells #[.slice X m cx] 22)) := hB0.alloc (by simp) _
  have k1 : Blk ((w.alloc (.cells #[.int .i64 P, .slice A n c] 29)).alloc (.cells #[.slice X m cx] 22)) w.heap.size 29 #[.int .i64 P, .slice A n c] := k0.alloc _
  have hreg := checkBivectors_any P A (some ⟨w.heap.size + 1, 0, none⟩) n c 1 1 sq [xs] ((w.alloc (.cells #[.int .i64 P, .slice A n c] 29)).alloc (.cells #[.slice X m cx] 22)) hn (by omega) (ha.below hB1) (rdII_one' (Blk.newAt3 (by simp)) (hx.below hB1) hcx) (all_one (by rw [hx.lenI]; exact hm))
  by_cases hr0 : codeB P sq [xs] = 0
  · rw [hr0] at hreg
    obtain ⟨HP, hp, hp2, hd1, hd2, hs, hms⟩ := codeM_spec3 (codeR_zero2 (codeB_zero hr0))
    have hxl := hx.lenI
    have hsl := ha.lenI
    obtain ⟨hl1, hxs⟩ := hms xs (by simp)
    have hn6 : n ≤ 6 := by omega
    have hn0 : 0 < n := by omega
    have hmn : m = pw n := by rw [← hxl, hl1, hsl]
    subst hmn
    have HSL := Lib.hid hsl
    have HS := Lib.hid hs
    have HXS := Lib.hid hxs
    have HXL := Lib.hid hxl
    clear hxl hsl hms hl1 hd1 hd2 hs hxs
    have HR0 := Lib.hid hr0
    clear hr0
    by_cases h4 : n ≤ 4
    · have HOK : Hid (cenR P sq xs = (cenL P sq n xs, 0)) := Lib.hid (by rw [cenR_ok HR0.out (by rw [HSL.out]; exact h4), HSL.out])
      have d4 : decide (4 < (n : Int)) = false := by simp; omega
      have hpw : pw n ≤ 64 := pw_le hn6
      have hpn := pw_pos n
      have hct := cct_tab (P := P) (sq := sq) (n := n) (xs := xs) hp
      have HCT := Lib.hid hct
      have HCR := Lib.hid (crows_tab (P := P) (sq := sq) (n := n) (xs := xs) hp)
      clear hct
      go_enter Tryz.func18, Tryz.ntmps18
      go_wp2_with fail
      refine hreg.mono ?_
      rintro e w2 ⟨rfl, hb2⟩
      have hB2 := hB1.trans (hb2.mono hB1.size)
      have k2 := k1.below hb2 k1.lt
      obtain ⟨q0, q1⟩ := k2.two
      clear k0 hB0 k1 hB1 hb2
      go_wp2_with fail
      refine (dim_any _ _ _ _ _).mono ?_
      rintro e w3 ⟨rfl, hb3⟩
      have hB3 := hB2.trans (hb3.mono hB2.size)
      have k3 := k2.below hb3 k2.lt
      have hB4 := hB3.alloc hB3.size (.cells #[] 22)
      have k4 := k3.alloc (.cells #[] 22)
      have hM4 : MkII w (w3.alloc (.cells #[] 22)) (some ⟨w3.heap.size, 0, none⟩) 0 0 [] := MkII.empty hB3
      have hz3 : w3.heap.size < (w3.alloc (.cells #[] 22)).heap.size := by simp
      clear q0 q1
      obtain ⟨q0, q1⟩ := k4.two
      have hbl := blades_any P A n c (w3.alloc (.cells #[] 22)) (by omega)
      clear k2 hB2 hb3 k3
      go_wp2_with fail
      obtain ⟨w4, hw4⟩ : ∃ W, W = w3.alloc (.cells #[] 22) := ⟨_, rfl⟩
      rw [← hw4] at hbl hM4 hB4 k4 hz3 q0 q1 ⊢
      refine hbl.mono ?_
      rintro e w5 ⟨U, cU, rfl, hU⟩
      have hM5 := hM4.below hU.b
      have k5 := k4.below hU.b k4.lt
      have hKp : Keeps w4 w5 w5 (.slice (some ⟨w3.heap.size, 0, none⟩) 0 0) := ⟨Nat.le_refl _, fun _ _ _ => rfl, fun gb e => .inl (lt_of_own e hz3)⟩
      clear hbl hM4 hB4 k4 hz3 hw4 q0 q1
      go_wp2
      go_loopw [7, 28] (fun out i wr => ∃ (k : Nat) (A' : Option Addr) (c' : Nat), k ≤ pw n ∧ i = .int .i64 k ∧ out = .slice A' k c' ∧ MkII w wr A' k c' (tab k (ccol P sq n xs)) ∧ Keeps w4 w5 wr (.slice A' k c') ∧ Blk wr w.heap.size 29 #[.int .i64 P, .slice A n c]) (fun _ i _ => pw n - (intOf i).toNat)
      case atStart => exact ⟨0, _, _, by omega, rfl, rfl, by simpa [tab] using hM5, hKp, k5⟩
      case round =>
        obtain ⟨k, A', c', hk, rfl, rfl, hM, hKp', k6⟩ := hrel
        clear hM5 hKp k5
        obtain ⟨q0, q1⟩ := k6.two
        by_cases hlt : k < pw n
        · obtain ⟨gu, ou, rfl, hxk, A1, c1, hcu, hru, hcc⟩ := (hU.keep hKp'.2.1).at_ hlt
          have hrow := unitM_get (pw n) k hxk
          rw [hrow, unitRow_len] at hru hcu hcc
          have hcall := bracket_any P A n c sq A1 c1 (unitRow (pw n) k) X cx xs wr hp hp2 hn6 (ha.below hM.b) HS.out hru (unitRow_nums hp _ k) hcc (hx.below hM.b) HXS.out hcx
          have HM := Lib.hid hM
          have HK := Lib.hid hKp'
          have i1 : (0 : Int) ≤ (k : Int) := by omega
          have i2 : (k : Int) < (pw n : Int) := by omega
          have hk64 : k < 64 := by omega
          clear hM hru hrow hKp'
          go_wp2_with fail
          refine hcall.mono ?_
          rintro e w7 ⟨A7, c7, rfl, hM7⟩
          have k7 := k6.below hM7.b k6.lt
          clear hcall q0 q1
          obtain ⟨q0, q1⟩ := k7.two
          by_cases hpc : pc k = 2
          · have hcc' : Hid (tab (k + 1) (ccol P sq n xs) = tab k (ccol P sq n xs) ++ [brkL P sq n (unitRow (pw n) k) xs]) := Lib.hid (by rw [tab_succ]; unfold ccol; rw [if_pos hpc])
            have hne : (((pc k : Nat) : Int) != 2) = false := by simp; omega
            clear hpc
            go_wp2_with (first
              | (go_at_call 41; refine (gradeOf_any k _ hk64).mono ?_; rintro e w' ⟨rfl, rfl⟩)
              | (at_builtin; refine wpList_appRowG w wr _ rfl _ _ rfl A' k c' _ A7 (pw n) c7 _ HM.out hM7 (by omega) rfl ?_ ?_; (go_simp); intro A8 c8 w8 hM8 hg8 hat8))
            have k8 := k7.grown hg8 ((HM.out.below hM7.b).ne_blk k7 (by decide))
            have hK8 := HK.out.step (n' := k + 1) (c' := c8) hM7.b hg8 hat8
            clear hg8 hat8 k7 k6
            go_roundw
            case rel => exact ⟨k + 1, A8, c8, by omega, by go_num, rfl, by rw [hcc'.out]; exact hM8, hK8, k8⟩
            case measure => simp [intOf]; omega
          · have hcc' : Hid (tab (k + 1) (ccol P sq n xs) = tab k (ccol P sq n xs) ++ [List.replicate (pw n) 0]) := Lib.hid (by rw [tab_succ]; unfold ccol; rw [if_neg hpc])
            have hne : (((pc k : Nat) : Int) != 2) = true := by simp; omega
            clear hpc
            go_wp2_with (first
              | (go_at_call 41; refine (gradeOf_any k _ hk64).mono ?_; rintro e w' ⟨rfl, rfl⟩)
              | fail)
            refine (nothing_any P A n c _ (by omega)).mono ?_
            rintro e w9 ⟨A9, c9, rfl, hM9⟩
            have hM9' := hM9.after hM7.b
            have k9 := k7.below hM9.b k7.lt
            clear k7 q0 q1
            go_wp2_with (at_builtin; refine wpList_appRowG w wr _ rfl _ _ rfl A' k c' _ A9 (pw n) c9 _ HM.out hM9' (by omega) rfl ?_ ?_; (go_simp); intro A8 c8 w8 hM8 hg8 hat8)
            have k8 := k9.grown hg8 ((HM.out.below hM9'.b).ne_blk k9 (by decide))
            have hK8 := HK.out.step (n' := k + 1) (c' := c8) hM9'.b hg8 hat8
            clear hg8 hat8 k9 k6
            go_roundw
            case rel => exact ⟨k + 1, A8, c8, by omega, by go_num, rfl, by rw [hcc'.out]; exact hM8, hK8, k8⟩
            case measure => simp [intOf]; omega
        · obtain rfl : k = pw n := by omega
          have htr := transpose_any P A' (pw n) c' (tab (pw n) (ccol P sq n xs)) (pw n) wr (by omega) (by omega) (by omega) hM.rd HCT.out
          go_wp2_with fail
          refine htr.mono ?_
          rintro e w7 ⟨A7, c7, rfl, hM7⟩
          have hM7' := (hM7.after hM.b).o
          have hB7 := hM7'.b
          have k7 := k6.below hM7.b k6.lt
          have hlt7 : ∀ gb, (Value.slice A7 (pw n) c7).ownBlock = some gb → gb < w7.heap.size := fun gb e => by
            obtain ⟨_, hm, _⟩ := hM7'
            exact (World.ownsRow.lt hm.2 gb e).2
          clear htr hM k6 q0 q1 hKp' hM7
          obtain ⟨q0, q1⟩ := k7.two
          go_wp2_with fail
          refine (blades_any P A n c w7 (by omega)).mono ?_
          rintro e w8 ⟨U2, cU2, rfl, hU2⟩
          have hM8 := hM7'.below hU2.b
          have k8 := k7.below hU2.b k7.lt
          have hKp : Keeps w7 w8 w8 (.slice A7 (pw n) c7) := ⟨Nat.le_refl _, fun _ _ _ => rfl, fun gb e => .inl (hlt7 gb e)⟩
          clear hM7' k7 hlt7 q0 q1 hB7
          go_wp2
          go_loopw [11, 52] (fun out i wr => ∃ (k : Nat) (A' : Option Addr) (c' : Nat), k ≤ pw n ∧ i = .int .i64 k ∧ out = .slice A' (pw n + (nsT k).length) c' ∧ MkO w wr A' (pw n + (nsT k).length) c' (transL (tab (pw n) (ccol P sq n xs)) ++ (nsT k).map (unitRow (pw n))) ∧ Keeps w7 w8 wr (.slice A' (pw n + (nsT k).length) c') ∧ Blk wr w.heap.size 29 #[.int .i64 P, .slice A n c]) (fun _ i _ => pw n - (intOf i).toNat)
          case atStart => exact ⟨0, _, _, by omega, rfl, rfl, by simpa [nsT] using hM8, hKp, k8⟩
          case round =>
            obtain ⟨k, A', c', hk, rfl, rfl, hM, hKp', k9⟩ := hrel
            clear hM8 hKp k8
            obtain ⟨q0, q1⟩ := k9.two
            have hnl := nsT_le k
            by_cases hlt : k < pw n
            · obtain ⟨gu, rfl, hxk, A1, c1, hcu, hru⟩ := hU2.rowO hKp'.2.1 hlt
              have hrow := unitM_get (pw n) k hxk
              rw [hrow, unitRow_len] at hru hcu
              have HM := Lib.hid hM
              have HK := Lib.hid hKp'
              have HRU := Lib.hid hru
              have i1 : (0 : Int) ≤ (k : Int) := by omega
              have i2 : (k : Int) < (pw n : Int) := by omega
              have hk64 : k < 64 := by omega
              have hz0 : (0 : Nat) + k = k := by omega
              clear hM hru hrow hKp' hxk
              by_cases hpc : pc k = 2
              · have hns : Hid (nsT (k + 1) = nsT k) := Lib.hid (by rw [nsT_succ, if_pos hpc])
                have hne : (((pc k : Nat) : Int) != 2) = false := by simp; omega
                clear hpc
                go_wp2_with (go_at_call 41; refine (gradeOf_any k _ hk64).mono ?_; rintro e w' ⟨rfl, rfl⟩)
                go_roundw
                case rel => exact ⟨k + 1, A', c', by omega, by go_num, by rw [hns.out], by rw [hns.out]; exact HM.out, by rw [hns.out]; exact HK.out, k9⟩
                case measure => simp [intOf]; omega
              · have hns : Hid (nsT (k + 1) = nsT k ++ [k]) := Lib.hid (by rw [nsT_succ, if_neg hpc])
                have hne : (((pc k : Nat) : Int) != 2) = true := by simp; omega
                clear hpc
                go_wp2_with (first
                  | (go_at_call 41; refine (gradeOf_any k _ hk64).mono ?_; rintro e w' ⟨rfl, rfl⟩)
                  | (at_builtin; refine wpList_appRowO w _ rfl _ _ rfl A' _ c' _ A1 (pw n) c1 _ HM.out HRU.out (by omega) rfl ?_ ?_; (go_simp); intro A8 c8 w10 hM8 hg8 hat8))
                have k10 := k9.grown hg8 (HM.out.ne_blk k9 (by decide))
                have hK8 := HK.out.step (n' := pw n + (nsT (k + 1)).length) (c' := c8) (Below.refl _ _) hg8 hat8
                clear hg8 hat8 k9
                go_roundw
                case rel =>
                  have hl : pw n + (nsT (k + 1)).length = pw n + (nsT k).length + 1 := by rw [hns.out]; simp; omega
                  refine ⟨k + 1, A8, c8, by omega, by go_num, by rw [hl], ?_, hK8, k10⟩
                  rw [hl, hns.out, List.map_append, ← List.append_assoc]
                  exact hM8
                case measure => simp [intOf]; omega
            · obtain rfl : k = pw n := by omega
              have hrd := hM.rd
              have hbm := hM.b
              have hker := fun w' (hb : Below wr.heap.size wr w') => kernel_any P A' (pw n + (nsT (pw n)).length) c' (crows P sq n xs) (pw n) w' HP (by omega) (by omega) (hrd.below hb) HCR.out
              obtain ⟨R, hR⟩ : ∃ R, R = cenL P sq n xs := ⟨_, rfl⟩
              have hR' : kernL P (crows P sq n xs) (pw n) = R := hR.symm
              rw [← hR] at HOK
              rw [hR'] at hker
              have HKER := Lib.hid hker
              have hshl : IntKind.i64.wrap (2 ^ n) = (pw n : Int) := by rw [IntWalk.i64_left]; exact wrap_pw n (by omega)
              clear hM hrd hKp' hR hR' hker
              go_wp2
              refine wp_obs 9 [[], [0], [], [], [3], [3, 4], [0, 1, 2, 3, 4, 5], [0, 1, 2, 3, 4, 5, 6], []] [VIs (.agg #[.int .i64 P, .slice A n c]), VIs (.int .i64 (P)), VIs (.slice A' (pw n + (nsT (pw n)).length) c'), VIs (.agg #[.int .i64 P, .slice A n c]), VIs (.int .i64 (n)), VIs (.int .i64 (pw n)), VMat wr R.length R, VMat wr R.length R, VIs (.int .i64 0)] (fun w' => Blk w' w.heap.size 29 #[.int .i64 P, .slice A n c] ∧ Below wr.heap.size wr w') (by kernel_rfl) (by kernel_rfl) (fun _ _ h hb => ⟨h.1.below hb h.1.lt, h.2.trans (hb.mono h.2.size)⟩) (⟨k9.drew, (Below.refl _ _).drew⟩) (fun x => ?_)
              refine obs_step (Eq.trans (by simp only [List.getElem?_toArray, List.getElem?_cons_zero]; exact rfl) rfl) rfl (fun w' hS hV K hK => ?_) ?_
              · obtain ⟨q0, q1⟩ := hS.1.two
                go_simp
                exact hK.out _ _ _ rfl rfl rfl (Below.refl _ _)
              simp only [List.setIfInBounds_toArray, List.set_cons_zero, List.set_cons_succ]
              refine obs_step (Eq.trans (by simp only [List.getElem?_toArray, List.getElem?_cons_succ, List.getElem?_cons_zero]; exact rfl) rfl) rfl (fun w' hS hV K hK => ?_) ?_
              · have e0 : x 0 = (.agg #[.int .i64 P, .slice A n c]) := hV 0 (by decide)
                obtain ⟨q0, q1⟩ := hS.1.two
                go_simp
                refine (field_any _ _ _ _ _).mono ?_
                rintro e v1 ⟨rfl, hb⟩
                exact hK.out _ _ _ rfl rfl rfl hb
              simp only [List.setIfInBounds_toArray, List.set_cons_zero, List.set_cons_succ]
              refine obs_step (Eq.trans (by simp only [List.getElem?_toArray, List.getElem?_cons_succ, List.getElem?_cons_zero]; exact rfl) rfl) rfl (fun w' hS hV K hK => ?_) ?_
              · obtain ⟨q0, q1⟩ := hS.1.two
                go_simp
                exact hK.out _ _ _ rfl rfl rfl (Below.refl _ _)
              simp only [List.setIfInBounds_toArray, List.set_cons_zero, List.set_cons_succ]
              refine obs_step (Eq.trans (by simp only [List.getElem?_toArray, List.getElem?_cons_succ, List.getElem?_cons_zero]; exact rfl) rfl) rfl (fun w' hS hV K hK => ?_) ?_
              · obtain ⟨q0, q1⟩ := hS.1.two
                go_simp
                exact hK.out _ _ _ rfl rfl rfl (Below.refl _ _)
              simp only [List.setIfInBounds_toArray, List.set_cons_zero, List.set_cons_succ]
              refine obs_step (Eq.trans (by simp only [List.getElem?_toArray, List.getElem?_cons_succ, List.getElem?_cons_zero]; exact rfl) rfl) rfl (fun w' hS hV K hK => ?_) ?_
              · have e3 : x 3 = (.agg #[.int .i64 P, .slice A n c]) := hV 3 (by decide)
                obtain ⟨q0, q1⟩ := hS.1.two
                go_simp
                refine (dim_any _ _ _ _ _).mono ?_
                rintro e v1 ⟨rfl, hb⟩
                exact hK.out _ _ _ rfl rfl rfl hb
              simp only [List.setIfInBounds_toArray, List.set_cons_zero, List.set_cons_succ]
              refine obs_step (Eq.trans (by simp only [List.getElem?_toArray, List.getElem?_cons_succ, List.getElem?_cons_zero]; exact rfl) rfl) rfl (fun w' hS hV K hK => ?_) ?_
              · have e3 : x 3 = (.agg #[.int .i64 P, .slice A n c]) := hV 3 (by decide)
                have e4 : x 4 = (.int .i64 (n)) := hV 4 (by decide)
                obtain ⟨q0, q1⟩ := hS.1.two
                go_simp
                exact hK.out _ _ _ rfl rfl rfl (Below.refl _ _)
              simp only [List.setIfInBounds_toArray, List.set_cons_zero, List.set_cons_succ]
              refine obs_step (Eq.trans (by simp only [List.getElem?_toArray, List.getElem?_cons_succ, List.getElem?_cons_zero]; exact rfl) rfl) rfl (fun w' hS hV K hK => ?_) ?_
              · have e0 : x 0 = (.agg #[.int .i64 P, .slice A n c]) := hV 0 (by decide)
                have e1 : x 1 = (.int .i64 (P)) := hV 1 (by decide)
                have e2 : x 2 = (.slice A' (pw n + (nsT (pw n)).length) c') := hV 2 (by decide)
                have e3 : x 3 = (.agg #[.int .i64 P, .slice A n c]) := hV 3 (by decide)
                have e4 : x 4 = (.int .i64 (n)) := hV 4 (by decide)
                have e5 : x 5 = (.int .i64 (pw n)) := hV 5 (by decide)
                obtain ⟨q0, q1⟩ := hS.1.two
                go_simp
                refine (HKER.out _ hS.2).mono ?_
                rintro e v1 ⟨A9, c9, rfl, hM⟩
                exact hK.out _ _ _ rfl rfl ⟨_, _, rfl, hM.after hS.2⟩ hM.b
              simp only [List.setIfInBounds_toArray, List.set_cons_zero, List.set_cons_succ]
              refine obs_step (Eq.trans (by simp only [List.getElem?_toArray, List.getElem?_cons_succ, List.getElem?_cons_zero]; exact rfl) rfl) rfl (fun w' hS hV K hK => ?_) ?_
              · have e0 : x 0 = (.agg #[.int .i64 P, .slice A n c]) := hV 0 (by decide)
                have e1 : x 1 = (.int .i64 (P)) := hV 1 (by decide)
                have e2 : x 2 = (.slice A' (pw n + (nsT (pw n)).length) c') := hV 2 (by decide)
                have e3 : x 3 = (.agg #[.int .i64 P, .slice A n c]) := hV 3 (by decide)
                have e4 : x 4 = (.int .i64 (n)) := hV 4 (by decide)
                have e5 : x 5 = (.int .i64 (pw n)) := hV 5 (by decide)
                obtain ⟨A6, c6, e6, h6⟩ := hV 6 (by decide)
                obtain ⟨q0, q1⟩ := hS.1.two
                go_simp
                exact hK.out _ _ _ rfl rfl ⟨_, _, rfl, h6⟩ (Below.refl _ _)
              simp only [List.setIfInBounds_toArray, List.set_cons_zero, List.set_cons_succ]
              refine obs_step (Eq.trans (by simp only [List.getElem?_toArray, List.getElem?_cons_succ, List.getElem?_cons_zero]; exact rfl) rfl) rfl (fun w' hS hV K hK => ?_) ?_
              · obtain ⟨q0, q1⟩ := hS.1.two
                go_simp
                exact hK.out _ _ _ rfl rfl rfl (Below.refl _ _)
              simp only [List.setIfInBounds_toArray, List.set_cons_zero, List.set_cons_succ]
              refine fun w' hS hV => ?_
              have e0 : x 0 = (.agg #[.int .i64 P, .slice A n c]) := hV 0 (by decide)
              have e1 : x 1 = (.int .i64 (P)) := hV 1 (by decide)
              have e2 : x 2 = (.slice A' (pw n + (nsT (pw n)).length) c') := hV 2 (by decide)
              have e3 : x 3 = (.agg #[.int .i64 P, .slice A n c]) := hV 3 (by decide)
              have e4 : x 4 = (.int .i64 (n)) := hV 4 (by decide)
              have e5 : x 5 = (.int .i64 (pw n)) := hV 5 (by decide)
              obtain ⟨A6, c6, e6, h6⟩ := hV 6 (by decide)
              obtain ⟨A7, c7, e7, h7⟩ := hV 7 (by decide)
              have e8 : x 8 = (.int .i64 0) := hV 8 (by decide)
              simp only [e0, e1, e2, e3, e4, e5, e6, e7, e8]
              clear e0 e1 e2 e3 e4 e5 e6 e7 e8
              refine wpAny_done (by kernel_rfl) ?_ _
              go_wp2
              go_ret2
              exact aMat3 HOK.out (h7.after hbm)
    · have HOK : Hid (cenR P sq xs = ([], 3)) := Lib.hid (by rw [cenR_big HR0.out (by rw [HSL.out]; exact h4)])
      have d4 : decide (4 < (n : Int)) = true := by simp; omega
      go_enter Tryz.func18, Tryz.ntmps18
      go_wp2_with fail
      refine hreg.mono ?_
      rintro e w2 ⟨rfl, hb2⟩
      have hB2 := hB1.trans (hb2.mono hB1.size)
      have k2 := k1.below hb2 k1.lt
      obtain ⟨q0, q1⟩ := k2.two
      clear k0 hB0 k1 hB1 hb2
      go_wp2_with fail
      refine (dim_any _ _ _ _ _).mono ?_
      rintro e w3 ⟨rfl, hb3⟩
      go_wp2
      go_ret2
      exact noMat3 HOK.out (hB2.trans (hb3.mono hB2.size))
  · obtain ⟨r, hr⟩ : ∃ r, r = codeB P sq [xs] := ⟨_, rfl⟩
    have HR := Lib.hid hr
    have HR0 := Lib.hid hr0
    have b0 : (r != 0) = true := code_ne (by rw [hr]; exact hr0)
    rw [← hr] at hreg
    clear hr hr0
    go_enter Tryz.func18, Tryz.ntmps18
    go_wp2_with fail
    refine hreg.mono ?_
    rintro e w2 ⟨rfl, hb2⟩
    have hB2 := hB1.trans (hb2.mono hB1.size)
    have k2 := k1.below hb2 k1.lt
    obtain ⟨q0, q1⟩ := k2.two
    clear k0 hB0 k1 hB1 hb2
    go_wp2
    go_ret2
    exact noMat3 (by rw [cenR_bad HR0.out, HR.out]) hB2
end Go.Proofs.YtklnkhkfcalndaaGreat
namespace Go.Proofs.YtklnkhkfcalndaaGreat
open Go.RowKit
/-- Two lists of lists, no rows of which lie in one block; the first one is the call's own. -/
def MkII2 (w0 w : World) (A : Option Addr) (n c : Nat) (xss : List (List Int)) (B : Option Addr) (m : Nat) (yss : List (List Int)) : Prop :=
  ∃ rows rows', Mk w0 w 22 A n c rows ∧ Rd w B m rows' ∧ rows.length = xss.length ∧ Nest w w0.heap.size (rows ++ rows') (xss ++ yss)
theorem MkII2.below {w0 w w' : World} {A B : Option Addr} {n c m : Nat} {xss yss : List (List Int)} (h : MkII2 w0 w A n c xss B m yss) (hb : Below w.heap.size w w') : MkII2 w0 w' A n c xss B m yss := by
  obtain ⟨rows, rows', h1, h2, h3, h4⟩ := h
  exact ⟨rows, rows', h1.below hb, h2.below hb, h3, h4.below hb⟩
theorem MkII2.ne_blk {w0 w : World} {A B : Option Addr} {n c m g : Nat} {xss yss : List (List Int)} {t : TypeId} {cs : Array Value} (h : MkII2 w0 w A n c xss B m yss) (hb : Blk w g t cs) (hE : 22 ≠ t) : some g ≠ (Value.slice A n c).ownBlock := by
  obtain ⟨rows, _, hm, _⟩ := h
  exact hm.2.ne_blk hb hE
theorem MkII2.grown_below {w0 w w' : World} {A B : Option Addr} {n c m : Nat} {xss yss : List (List Int)} {X : Nat} {a : World} (h : MkII2 w0 w A n c xss B m yss) (hg : w.grownBy w' (Value.slice A n c).ownBlock) (hb : Below X a w) (hX : X ≤ w0.heap.size) : Below X a w' := by
  obtain ⟨rows, _, hm, _⟩ := h
  exact (hm.2.base hX).grown_below hg hb (Nat.le_trans hX hm.1.size)
end Go.Proofs.YtklnkhkfcalndaaGreat
namespace Go.Proofs.YtklnkhkfcalndaaGreat
open Go.RowKit
def CK (w w' : World) : Prop := ∀ b i u, w.cell? ⟨b, i, none⟩ = some u → w'.cell? ⟨b, i, none⟩ = some u
theorem CK.refl (w : World) : CK w w := fun _ _ _ h => h
theorem CK.below {w w1 w2 : World} (h : CK w w1) (hb : Below w1.heap.size w1 w2) : CK w w2 := fun b i u hu =>
  (hb.cell (World.block_lt_of_cell? _ _ (h b i u hu))).trans (h b i u hu)
theorem Rd.ck {w w' : World} {A : Option Addr} {n : Nat} {us : List Value} (h : Rd w A n us) (k : CK w w') : Rd w' A n us := ⟨h.1, fun hn => by
  obtain ⟨g, o, e, hc⟩ := h.2 hn
  exact ⟨g, o, e, fun j u hu => k _ _ _ (hc j u hu)⟩⟩
theorem RdII.ck {w w' : World} {A : Option Addr} {n : Nat} {xss : List (List Int)} (h : RdII w A n xss) (k : CK w w') : RdII w' A n xss := by
  obtain ⟨rows, hr, hl, hk⟩ := h
  exact ⟨rows, hr.ck k, hl, fun j hj => by obtain ⟨A', c', e, h1, h2⟩ := hk j hj; exact ⟨A', c', e, h1.ck k, h2⟩⟩
theorem Rd.cut {w : World} {A : Option Addr} {n k : Nat} {us : List Value} (h : Rd w A n us) (hk : k ≤ n) : Rd w A k (us.take k) := ⟨by rw [List.length_take, h.1]; omega, fun hn => by
  obtain ⟨g, o, e, hc⟩ := h.2 (by omega)
  exact ⟨g, o, e, fun j u hu => hc j u (by
    rw [List.getElem?_take] at hu
    split at hu
    · exact hu
    · cases hu)⟩⟩
/-- A row that grows; it began as the empty block g; what lay in w is as it was. -/
def Grows (w wr : World) (g : Nat) (v : Value) : Prop := CK w wr ∧ w.heap.size ≤ wr.heap.size ∧ ∀ gb, v.ownBlock = some gb → gb = g ∨ w.heap.size ≤ gb
theorem Grows.step {w wr v1 w' : World} {g : Nat} {T : TypeId} {A A' : Option Addr} {n c n' c' : Nat} (h : Grows w wr g (.slice A n c)) (he : Blk w g T #[]) (hb : Below wr.heap.size wr v1) (hg : v1.grownBy w' (Value.slice A n c).ownBlock)
    (hat : ∃ g', A' = some ⟨g', 0, none⟩ ∧ ((Value.slice A n c).ownBlock = some g' ∨ v1.heap.size ≤ g')) : Grows w w' g (.slice A' n' c') := by
  obtain ⟨h1, h2, h3⟩ := h
  refine ⟨fun b i u hu => ?_, by have := hb.size; have := hg.size; omega, fun gb hgb => ?_⟩
  · refine hg.cell ((hb.cell (World.block_lt_of_cell? _ _ (h1 b i u hu))).trans (h1 b i u hu)) fun e => ?_
    rcases h3 b e.symm with rfl | hge
    · rw [he.cell] at hu; simp at hu
    · have hlt : b < w.heap.size := World.block_lt_of_cell? _ _ hu
      omega
  · obtain ⟨g', rfl, hor⟩ := hat
    simp only [Value.ownBlock, Option.some.injEq] at hgb
    subst hgb
    rcases hor with hor | hor
    · exact h3 _ hor
    · right; have := hb.size; omega
end Go.Proofs.YtklnkhkfcalndaaGreat
namespace Go.Proofs.YtklnkhkfcalndaaGreat
open Go.RowKit
/-- The masks as numbers. -/
def msI (k : Nat) : List Int := (msT k).map fun m : Nat => (m : Int)
theorem msI_len (k : Nat) : (msI k).length = (msT k).length := by unfold msI; rw [List.length_map]
theorem msI_at {k j : Nat} (h : j < (msI k).length) : (msI k)[j] = (((msT k).getD j 0 : Nat) : Int) := by
  have h' : j < (msT k).length := by rw [msI_len] at h; exact h
  rw [getD_of_lt 0 h']
  show ((msT k).map fun m : Nat => (m : Int))[j]'(by rw [List.length_map]; exact h') = _
  rw [List.getElem_map]
theorem semb_take {P : Int} {sq : List Int} {n : Nat} {xs : List Int} {k : Nat} (hk : k < (kernL P (transL (scols P sq n xs)) (msT (pw n)).length).length) :
    (semb P sq n xs).take (k + 1) = (semb P sq n xs).take k ++ [embT (pw n) (kernL P (transL (scols P sq n xs)) (msT (pw n)).length)[k] (msT (pw n)).length] := by
  rw [List.take_succ_eq_append_getElem (by unfold semb; rw [List.length_map]; exact hk)]
  unfold semb
  rw [List.getElem_map]
theorem semb_len {P : Int} {sq : List Int} {n : Nat} {xs : List Int} : (semb P sq n xs).length = (kernL P (transL (scols P sq n xs)) (msT (pw n)).length).length := by unfold semb; rw [List.length_map]
/-- A list of numbers and a list of rows that grow side by side, no two in one block. -/
def Two (w0 w : World) (Am : Option Addr) (nm cm : Nat) (ms : List Int) (A : Option Addr) (n c : Nat) (xss : List (List Int)) : Prop := ∃ rows, Mk w0 w 22 A n c rows ∧ Nest w w0.heap.size rows xss ∧ Own w w0.heap.size 2 Am nm cm (ints ms) ∧
  ∀ (k g : Nat), (rows[k]?).bind Value.ownBlock = some g → (Value.slice Am nm cm).ownBlock ≠ some g
section
variable {w0 w w' : World} {Am : Option Addr} {nm cm : Nat} {ms : List Int} {A : Option Addr} {n c : Nat} {xss : List (List Int)}
theorem Two.b (h : Two w0 w Am nm cm ms A n c xss) : Below w0.heap.size w0 w := by obtain ⟨_, h, _⟩ := h; exact h.1
theorem Two.ii (h : Two w0 w Am nm cm ms A n c xss) : MkII w0 w A n c xss := by obtain ⟨rows, h1, h2, _⟩ := h; exact ⟨rows, h1, h2⟩
theorem Two.i (h : Two w0 w Am nm cm ms A n c xss) : MkI w0 w Am nm cm ms := by obtain ⟨rows, h1, _, h3, _⟩ := h; exact ⟨h1.1, h3⟩
theorem Two.below (h : Two w0 w Am nm cm ms A n c xss) (hb : Below w.heap.size w w') : Two w0 w' Am nm cm ms A n c xss := by
  obtain ⟨rows, h1, h2, h3, h4⟩ := h
  exact ⟨rows, h1.below hb, h2.below hb, h3.below hb, h4⟩
theorem Two.start {g1 g2 : Nat} (hb : Below w0.heap.size w0 w) (k1 : Blk w g1 2 #[]) (k2 : Blk w g2 22 #[]) (h1 : w0.heap.size ≤ g1) (h2 : w0.heap.size ≤ g2) : Two w0 w (some ⟨g1, 0, none⟩) 0 0 [] (some ⟨g2, 0, none⟩) 0 0 [] :=
  ⟨[], ⟨hb, Own.of_cells (cs := #[]) h2 k2 (by simp [maxLen])⟩, Nest.nil _ _, Own.of_cells (cs := #[]) h1 k1 (by simp [maxLen]), fun k g hg => by simp at hg⟩
/-- A number is appended. -/
theorem Two.number {A' : Option Addr} {c' : Nat} {x : Int} (h : Two w0 w Am nm cm ms A n c xss) (hM : Mk w0 w' 2 A' (nm + 1) c' (ints ms ++ [.int .i64 x])) (hg : w.grownBy w' (Value.slice Am nm cm).ownBlock)
    (hat : ∃ g, A' = some ⟨g, 0, none⟩ ∧ ((Value.slice Am nm cm).ownBlock = some g ∨ w.heap.size ≤ g)) : Two w0 w' A' (nm + 1) c' (ms ++ [x]) A n c xss := by
  obtain ⟨rows, h1, h2, h3, h4⟩ := h
  refine ⟨rows, ⟨hM.1, h1.2.grown hg (h1.2.ne h3 (by decide))⟩, ⟨h2.len, fun k hk => ?_, h2.apart⟩, by simpa [ints] using hM.2, fun k g hkg e => ?_⟩
  · obtain ⟨A1, c1, e, ho⟩ := h2.row k hk
    refine ⟨A1, c1, e, ho.grown hg ?_⟩
    cases hb : (Value.slice A1 xss[k].length c1).ownBlock with
    | none => exact .inl rfl
    | some g => exact .inr fun e' => h4 k g (by rw [e]; exact hb) e'.symm
  · obtain ⟨g', rfl, hor⟩ := hat
    have : g' = g := by simpa [Value.ownBlock] using e
    subst this
    rcases hor with hor | hor
    · exact h4 k g' hkg hor
    · have := (h2.block k g' hkg).2; omega
/-- A new row is appended. -/
theorem Two.row {w1 : World} {A1 A' : Option Addr} {m c1 c' : Nat} {xs : List Int} (h : Two w0 w Am nm cm ms A n c xss) (hr : Mk w w1 2 A1 m c1 (ints xs))
    (hM : Mk w0 w' 22 A' (n + 1) c' ((Classical.choose h) ++ [.slice A1 m c1])) (hg : w1.grownBy w' (Value.slice A n c).ownBlock) : Two w0 w' Am nm cm ms A' (n + 1) c' (xss ++ [xs]) := by
  obtain ⟨h1, h2, h3, h4⟩ := Classical.choose_spec h
  refine ⟨_, hM, (h2.snoc hr h1.1.size).grown (h1.2.below hr.1) (by decide) hg, (h3.below hr.1).grown hg ((h3.below hr.1).ne (h1.2.below hr.1) (by decide)), fun k g hkg e => ?_⟩
  by_cases hlt : k < (Classical.choose h).length
  · rw [List.getElem?_append_left hlt] at hkg
    exact h4 k g hkg e
  · rw [List.getElem?_append_right (by omega)] at hkg
    by_cases h0 : k - (Classical.choose h).length = 0
    · rw [h0] at hkg
      have l1 := (World.ownsRow.lt hr.2 g (by simpa using hkg)).1
      have l2 := (World.ownsRow.lt h3 g e).2
      omega
    · rw [List.getElem?_eq_none (by simp; omega)] at hkg; cases hkg
end
theorem wpList_twoRow {ops : Array Oper} {rest : List Oper} {o : Oper} {a : Act} {Q : Exit → Act → World → Prop} (w0 wr w1 : World)
    (hgd : o.guard = none) (s x : Operand) (ho : o.op = .call { callee := .builtin .append, args := #[s, x], argTypes := #[26, 26] })
    (Am : Option Addr) (nm cm : Nat) (ms : List Int) (A : Option Addr) (n c : Nat) (xss : List (List Int)) (A1 : Option Addr) (m c1 : Nat) (xs : List Int) (hM : Two w0 wr Am nm cm ms A n c xss) (hr : Mk wr w1 2 A1 m c1 (ints xs)) (hn : n ≤ 1099511627776)
    (hs : a.eval s = .slice A n c) (hx : a.eval x = .slice (some ⟨w1.heap.size, 0, none⟩) 1 1)
    (h : ∀ A' c' w', Two w0 w' Am nm cm ms A' (n + 1) c' (xss ++ [xs]) → w1.grownBy w' (Value.slice A n c).ownBlock → wpList Tryz.prog ops Q rest (a.put o.dst (.slice A' (n + 1) c')) w') :
    wpList Tryz.prog ops Q (o :: rest) a (w1.alloc (.cells #[.slice A1 m c1] 22)) := by
  have h1 := (Classical.choose_spec hM).1
  refine wpList_app1 w0 w1 26 22 (.slice none 0 0) 24 Tryz.underlying26 info_s rfl (by omega) hgd s x ho A n c _ (.slice A1 m c1) (h1.below hr.1) hn rfl hs hx ?_
  intro A' c' w' hM' hg hat
  exact h A' c' w' (hM.row hr hM' hg) hg
set_option maxHeartbeats 6400000 in
set_option maxRecDepth 8000 in
theorem specCentralizerOf_any (P : Int) (A : Option Addr) (n c : Nat) (sq : List Int) (X : Option Addr) (m cx : Nat) (xs : List Int) (w : World) (hn : n ≤ 1048576) (hm : m ≤ 1048576) (ha : Rd w A n (ints sq)) (hx : Rd w X m (ints xs)) (hcx : m ≤ cx) :
    Calls Tryz.prog 17 #[.agg #[.int .i64 P, .slice A n c], .slice X m cx] w fun e w' => ∃ (A' : Option Addr) (k c' : Nat), e = .returned (.tuple #[.slice A' k c', .int .i64 (cenR P sq xs).2]) ∧ MkII w w' A' k c' (cenR P sq xs).1 := by
  have hB0 : Below w.heap.size w (w.alloc (.cells #[.int .i64 P, .slice A n c] 29)) := (Below.refl _ _).alloc (Nat.le_refl _) _
  have k0 : Blk (w.alloc (.cells #[.int .i64 P, .slice A n c] 29)) w.heap.size 29 #[.int .i64 P, .slice A n c] := Blk.new _ _ _
  have hB1 : Below w.heap.size w ((w.alloc (.cells #[.int .i64 P, .slice A n c] 29)).alloc (.cells #[.slice X m cx] 22)) := hB0.alloc (by simp) _
  have k1 : Blk ((w.alloc (.cells #[.int .i64 P, .slice A n c] 29)).alloc (.cells #[.slice X m cx] 22)) w.heap.size 29 #[.int .i64 P, .slice A n c] := k0.alloc _
  have hreg := l10Code_any P A (some ⟨w.heap.size + 1, 0, none⟩) n c 1 1 sq [xs] ((w.alloc (.cells #[.int .i64 P, .slice A n c] 29)).alloc (.cells #[.slice X m cx] 22)) hn (by omega) (ha.below hB1) (rdII_one' (Blk.newAt3 (by simp)) (hx.below hB1) hcx) (all_one (by rw [hx.lenI]; exact hm))
  by_cases hr0 : codeB P sq [xs] = 0
  · rw [hr0] at hreg
    obtain ⟨HP, hp, hp2, hd1, hd2, hs, hms⟩ := codeM_spec3 (codeR_zero2 (codeB_zero hr0))
    have hxl := hx.lenI
    have hsl := ha.lenI
    obtain ⟨hl1, hxs⟩ := hms xs (by simp)
    have hn6 : n ≤ 6 := by omega
    have hn0 : 0 < n := by omega
    have hmn : m = pw n := by rw [← hxl, hl1, hsl]
    subst hmn
    have HSL := Lib.hid hsl
    have HS := Lib.hid hs
    have HXS := Lib.hid hxs
    have HXL := Lib.hid hxl
    clear hxl hsl hms hl1 hd1 hd2 hs hxs
    have HR0 := Lib.hid hr0
    clear hr0
    by_cases h4 : n ≤ 4
    · have HOK : Hid (cenR P sq xs = (cenL P sq n xs, 0)) := Lib.hid (by rw [cenR_ok HR0.out (by rw [HSL.out]; exact h4), HSL.out])
      have HSAME := Lib.hid (cen_same (sq := sq) (n := n) HP HXL.out HXS.out)
      have d4 : decide (4 < (n : Int)) = false := by simp; omega
      have hpw : pw n ≤ 64 := pw_le hn6
      have hpn := pw_pos n
      go_enter Tryz.func17, Tryz.ntmps17
      go_wp2_with fail
      refine hreg.mono ?_
      rintro e w2 ⟨rfl, hb2⟩
      have hB2 := hB1.trans (hb2.mono hB1.size)
      have k2 := k1.below hb2 k1.lt
      obtain ⟨q0, q1⟩ := k2.two
      clear k0 hB0 k1 hB1 hb2
      have hB3 := (hB2.alloc hB2.size (.cells #[] 2)).alloc (Nat.le_trans hB2.size (by simp)) (.cells #[] 22)
      have k3 := (k2.alloc (.cells #[] 2)).alloc (.cells #[] 22)
      have hT3 : Two w ((w2.alloc (.cells #[] 2)).alloc (.cells #[] 22)) (some ⟨w2.heap.size, 0, none⟩) 0 0 [] (some ⟨w2.heap.size + 1, 0, none⟩) 0 0 [] :=
        Two.start hB3 ((Blk.new _ _ _).alloc _) (Blk.newAt3 (by simp)) hB2.size (Nat.le_trans hB2.size (Nat.le_succ _))
      go_wp2
      obtain ⟨w3, hw3⟩ : ∃ W, W = (w2.alloc (.cells #[] 2)).alloc (.cells #[] 22) := ⟨_, rfl⟩
      rw [← hw3] at hT3 k3 hB3 ⊢
      clear hw3 hB3 q0 q1 k2 hB2
      go_loopw [7, 8, 9] (fun msl col i wr => ∃ (k : Nat) (Am : Option Addr) (cm : Nat) (A' : Option Addr) (c' : Nat), k ≤ pw n ∧ i = .int .i64 k ∧ msl = .slice Am (msT k).length cm ∧ col = .slice A' (msT k).length c' ∧ Two w wr Am (msT k).length cm (msI k) A' (msT k).length c' ((msT k).map fun m => brkL P sq n xs (unitRow (pw n) m)) ∧ Blk wr w.heap.size 29 #[.int .i64 P, .slice A n c]) (fun _ _ i _ => pw n - (intOf i).toNat)
      case atStart => exact ⟨0, _, _, _, _, by omega, rfl, rfl, rfl, by simpa [msT, msI] using hT3, k3⟩
      case round =>
        obtain ⟨k, Am, cm, A', c', hk, rfl, rfl, rfl, hM, k4⟩ := hrel
        clear hT3 k3
        obtain ⟨q0, q1⟩ := k4.two
        have hml := msT_le k
        go_wp2_with fail
        refine (l04Size_any P A n c _ (by omega)).mono ?_
        rintro e w5 ⟨rfl, hb5⟩
        have hM5 := hM.below hb5
        have k5 := k4.below hb5 k4.lt
        clear hM k4 q0 q1 hb5
        obtain ⟨q0, q1⟩ := k5.two
        by_cases hlt : k < pw n
        · have i1 : (0 : Int) ≤ (k : Int) := by omega
          have i2 : (k : Int) < (pw n : Int) := by omega
          have dl : decide ((k : Int) < (pw n : Int)) = true := by simp; omega
          have hk64 : k < 64 := by omega
          by_cases hpc : pc k = 2
          · have HMS : Hid (msT (k + 1) = msT k ++ [k]) := Lib.hid (by rw [msT_succ, if_pos hpc])
            have he2 : (((pc k : Nat) : Int) == 2) = true := by simp; omega
            clear hpc
            go_wp2_with (go_at_call 30; refine (l04Grade_any k _ hk64).mono ?_; rintro e w' ⟨rfl, rfl⟩)
            refine (l04Zero_any P A n c _ (by omega)).mono ?_
            rintro e w6 ⟨A6, c6, rfl, hM6⟩
            rcases hM6.2.form with ⟨rfl, hzz⟩ | ⟨g6, rfl, hg6a, hg6b⟩
            · exact absurd hzz (by omega)
            obtain ⟨hc1, hf1⟩ := mkI_at hM6 hlt
            obtain ⟨hm2, _⟩ := Mk.set hM6 k (.int .i64 1)
            rw [ints_set] at hm2
            have HRU := Lib.hid (show MkI w5 _ (some ⟨g6, 0, none⟩) (pw n) c6 (unitRow (pw n) k) from hm2)
            have k6 := k5.below hm2.b k5.lt
            have hM7 := hM5.below hm2.b
            have hap := Own.apart_of hM5.i.2 HRU.out.2 (Nat.le_refl _)
            have HM7 := Lib.hid hM7
            have i3 : (0 : Int) ≤ (pw n : Int) := by omega
            clear hm2 hM7 hM5 q0 q1
            go_wp2_with (first
              | (at_builtin; refine wpList_app1 w _ 22 2 _ _ Tryz.underlying22 info_i rfl (by omega) rfl _ _ rfl Am _ cm _ _ HM7.out.i (by omega) rfl rfl ?_ ?_; (go_simp); intro A8 c8 w8 hM8 hg8 hat8
                 have hM9 := HM7.out.number hM8 hg8 hat8
                 have k8 := k6.grown hg8 (HM7.out.i.2.ne_blk k6 (by decide))
                 have hru := HRU.out.2.grown hg8 (hap.row)
                 have hcall := l04Bracket_any P A n c sq X cx xs (some ⟨g6, 0, none⟩) c6 (unitRow (pw n) k) w8 hp hp2 hn6 (ha.below hM9.b) HS.out (hx.below hM9.b) HXS.out hru.rd (unitRow_nums hp _ k)
                 obtain ⟨q0, q1⟩ := k8.two
                 have HM9 := Lib.hid hM9
                 clear hM8 hat8 hg8 hru hM9 k6 hc1 hf1 hap)
              | (go_at_call 32; refine hcall.mono ?_; rintro e w10 ⟨A10, c10, rfl, hM10⟩)
              | (at_builtin; refine wpList_twoRow w w8 _ rfl _ _ rfl A8 _ c8 _ A' _ c' _ A10 (pw n) c10 _ HM9.out hM10 (by omega) rfl ?_ ?_; (go_simp); intro A11 c11 w11 hM11 hg11))
            have k10 := k8.below hM10.b k8.lt
            clear hcall k8 q0 q1
            have k11 := k10.grown hg11 ((HM9.out.ii.below hM10.b).ne_blk k10 (by decide))
            clear hg11 k10 hM10
            have hl : (msT (k + 1)).length = (msT k).length + 1 := by rw [HMS.out]; simp
            go_roundw
            case rel =>
              refine ⟨k + 1, A8, c8, A11, c11, by omega, by go_num, by rw [hl], by rw [hl], ?_, k11⟩
              rw [hl]
              have e1 : msI (k + 1) = msI k ++ [(k : Int)] := by unfold msI; rw [HMS.out, List.map_append]; rfl
              rw [e1, HMS.out, List.map_append]
              exact hM11
            case measure => simp [intOf]; omega
          · have HMS : Hid (msT (k + 1) = msT k) := Lib.hid (by rw [msT_succ, if_neg hpc])
            have he2 : (((pc k : Nat) : Int) == 2) = false := by simp; omega
            clear hpc
            go_wp2_with (go_at_call 30; refine (l04Grade_any k _ hk64).mono ?_; rintro e w' ⟨rfl, rfl⟩)
            go_roundw
            case rel => exact ⟨k + 1, Am, cm, A', c', by omega, by go_num, by rw [HMS.out], by rw [HMS.out], by unfold msI at *; rw [HMS.out]; exact hM5, k5⟩
            case measure => simp [intOf]; omega
        · obtain rfl : k = pw n := by omega

          have hMi := hM5.i
          have hMii := hM5.ii
          have hB5 := hM5.b
          have dl : decide (((pw n : Nat) : Int) < ((pw n : Nat) : Int)) = false := by simp
          have hKl : (msI (pw n)).length = (msT (pw n)).length := msI_len _
          by_cases hK0 : (msT (pw n)).length = 0
          · have hnil : cenL P sq n xs = [] := by
              rw [← HSAME.out]; unfold scenL; rw [if_pos hK0]
            rw [hnil] at HOK
            have e0 : (((msT (pw n)).length : Int) == 0) = true := by simp; exact List.eq_nil_of_length_eq_zero hK0
            clear hM5 hnil hMi hMii
            go_wp2
            go_ret2
            exact aMat3 HOK.out (MkII.empty hB5)
          · have e0 : (((msT (pw n)).length : Int) == 0) = false := by simp; intro e; exact hK0 (by rw [e]; rfl)
            obtain ⟨nk, hKe⟩ : ∃ nk, nk = (msT (pw n)).length := ⟨_, rfl⟩
            have HKE := Lib.hid hKe
            have hKle : nk ≤ 64 := by omega
            have hK1 : 0 < nk := by omega
            rw [← hKe] at hMi hMii hKl e0 hK0 ⊢
            obtain ⟨KN, hKN⟩ : ∃ R, R = kernL P (transL (scols P sq n xs)) nk := ⟨_, rfl⟩
            have HKN := Lib.hid hKN
            have HKT : Hid (Tab P nk KN) := Lib.hid (by rw [hKN]; exact kernL_tab hp _ _)
            have hKNl : KN.length ≤ nk := by rw [hKN]; exact kernL_len HP _ _
            have HST := Lib.hid (scols_tab (P := P) (sq := sq) (n := n) (xs := xs) hp)
            have HTT : Hid (Tab P nk (transL (scols P sq n xs))) := Lib.hid (by
              have := transL_tab (p := P) (by omega) (scols_tab (P := P) (sq := sq) (n := n) (xs := xs) hp)
              rwa [scols_len, ← hKe] at this)
            have HTAKE : Hid (∀ k (hk : k < KN.length), (semb P sq n xs).take (k + 1) = (semb P sq n xs).take k ++ [embT (pw n) KN[k] nk]) := Lib.hid (fun k hk => by
              subst hKN; subst hKe; exact semb_take hk)
            have HSL2 : Hid ((semb P sq n xs).length = KN.length) := Lib.hid (by subst hKN; subst hKe; exact semb_len)
            have HSR : Hid (cenL P sq n xs = basisL P (semb P sq n xs)) := Lib.hid (by rw [← HSAME.out]; unfold scenL; rw [if_neg (by rw [← hKe]; exact hK0)])
            have HSO := Lib.hid (semb_tab (P := P) (sq := sq) (n := n) (xs := xs) hp)
            have HPP := Lib.hid HP
            have HCW : Hid (scols P sq n xs = (msT (pw n)).map fun m => brkL P sq n xs (unitRow (pw n) m)) := Lib.hid rfl
            rw [← HCW.out] at hMii
            have HMII := Lib.hid hMii
            have HMI := Lib.hid hMi
            have k6 := k5.alloc (.cells #[] 22)
            have hB6 := hB5.alloc hB5.size (.cells #[] 22)
            have hE6 : Blk (w5.alloc (.cells #[] 22)) w5.heap.size 22 #[] := Blk.new _ _ _
            have hab : Below w5.heap.size w5 (w5.alloc (.cells #[] 22)) := (Below.refl _ _).alloc (Nat.le_refl _) _
            have hl65 : w5.heap.size < (w5.alloc (.cells #[] 22)).heap.size := by simp
            clear hM5 hKN hKe hMii hMi q0 q1
            obtain ⟨q0, q1⟩ := k6.two
            go_wp2
            obtain ⟨w6, hw6⟩ : ∃ W, W = w5.alloc (.cells #[] 22) := ⟨_, rfl⟩
            rw [← hw6] at k6 hB6 hE6 hab q0 q1 hl65 ⊢
            clear hw6

            refine wp_obs 6 [[], [0], [], [2], [0, 1, 2, 3], [0, 1, 2, 3, 4]] [VIs (.pointer (some ⟨w.heap.size, 0, none⟩)), VIs (.int .i64 (P)), VIs (.slice A' nk c'), VMat w6 (pw n) (transL (scols P sq n xs)), VMat w6 KN.length KN, VMat w6 KN.length KN] (fun w' => Blk w' w.heap.size 29 #[.int .i64 P, .slice A n c] ∧ Below w6.heap.size w6 w') (by kernel_rfl) (by kernel_rfl) (fun _ _ h hb => ⟨h.1.below hb h.1.lt, h.2.trans (hb.mono h.2.size)⟩) (⟨k6.drew, (Below.refl _ _).drew⟩) (fun x => ?_)
            refine obs_step (Eq.trans (by simp only [List.getElem?_toArray, List.getElem?_cons_zero]; exact rfl) rfl) rfl (fun w' hS hV K hK => ?_) ?_
            · obtain ⟨q0, q1⟩ := hS.1.two
              go_simp
              exact hK.out _ _ _ rfl rfl rfl (Below.refl _ _)
            simp only [List.setIfInBounds_toArray, List.set_cons_zero, List.set_cons_succ]
            refine obs_step (Eq.trans (by simp only [List.getElem?_toArray, List.getElem?_cons_succ, List.getElem?_cons_zero]; exact rfl) rfl) rfl (fun w' hS hV K hK => ?_) ?_
            · have e0 : x 0 = (.pointer (some ⟨w.heap.size, 0, none⟩)) := hV 0 (by decide)
              obtain ⟨q0, q1⟩ := hS.1.two
              go_simp
              exact hK.out _ _ _ rfl rfl rfl (Below.refl _ _)
            simp only [List.setIfInBounds_toArray, List.set_cons_zero, List.set_cons_succ]
            refine obs_step (Eq.trans (by simp only [List.getElem?_toArray, List.getElem?_cons_succ, List.getElem?_cons_zero]; exact rfl) rfl) rfl (fun w' hS hV K hK => ?_) ?_
            · obtain ⟨q0, q1⟩ := hS.1.two
              go_simp
              exact hK.out _ _ _ rfl rfl rfl (Below.refl _ _)
            simp only [List.setIfInBounds_toArray, List.set_cons_zero, List.set_cons_succ]
            refine obs_step (Eq.trans (by simp only [List.getElem?_toArray, List.getElem?_cons_succ, List.getElem?_cons_zero]; exact rfl) rfl) rfl (fun w' hS hV K hK => ?_) ?_
            · have e2 : x 2 = (.slice A' nk c') := hV 2 (by decide)
              obtain ⟨q0, q1⟩ := hS.1.two
              go_simp
              refine (l02Turn_any P _ _ _ (scols P sq n xs) (pw n) _ hK1 (by omega) (by omega) ((HMII.out.below hab).rd.below hS.2) HST.out).mono ?_
              rintro e v1 ⟨A9, c9, rfl, hM⟩
              exact hK.out _ _ _ rfl rfl ⟨_, _, rfl, hM.after hS.2⟩ hM.b
            simp only [List.setIfInBounds_toArray, List.set_cons_zero, List.set_cons_succ]
            refine obs_step (Eq.trans (by simp only [List.getElem?_toArray, List.getElem?_cons_succ, List.getElem?_cons_zero]; exact rfl) rfl) rfl (fun w' hS hV K hK => ?_) ?_
            · have e0 : x 0 = (.pointer (some ⟨w.heap.size, 0, none⟩)) := hV 0 (by decide)
              have e1 : x 1 = (.int .i64 (P)) := hV 1 (by decide)
              have e2 : x 2 = (.slice A' nk c') := hV 2 (by decide)
              obtain ⟨A3, c3, e3, h3⟩ := hV 3 (by decide)
              obtain ⟨q0, q1⟩ := hS.1.two
              go_simp
              refine (l02Kernel_any P _ _ _ (transL (scols P sq n xs)) nk _ HPP.out (by omega) (by omega) (by omega) h3.rd HTT.out).mono ?_
              rw [← HKN.out]
              rintro e v1 ⟨A9, c9, rfl, hM⟩
              exact hK.out _ _ _ rfl rfl ⟨_, _, rfl, hM.after hS.2⟩ hM.b
            simp only [List.setIfInBounds_toArray, List.set_cons_zero, List.set_cons_succ]
            refine obs_step (Eq.trans (by simp only [List.getElem?_toArray, List.getElem?_cons_succ, List.getElem?_cons_zero]; exact rfl) rfl) rfl (fun w' hS hV K hK => ?_) ?_
            · have e0 : x 0 = (.pointer (some ⟨w.heap.size, 0, none⟩)) := hV 0 (by decide)
              have e1 : x 1 = (.int .i64 (P)) := hV 1 (by decide)
              have e2 : x 2 = (.slice A' nk c') := hV 2 (by decide)
              obtain ⟨A3, c3, e3, h3⟩ := hV 3 (by decide)
              obtain ⟨A4, c4, e4, h4⟩ := hV 4 (by decide)
              obtain ⟨q0, q1⟩ := hS.1.two
              go_simp
              exact hK.out _ _ _ rfl rfl ⟨_, _, rfl, h4⟩ (Below.refl _ _)
            simp only [List.setIfInBounds_toArray, List.set_cons_zero, List.set_cons_succ]
            refine fun w' hS hV => ?_
            have e0 : x 0 = (.pointer (some ⟨w.heap.size, 0, none⟩)) := hV 0 (by decide)
            have e1 : x 1 = (.int .i64 (P)) := hV 1 (by decide)
            have e2 : x 2 = (.slice A' nk c') := hV 2 (by decide)
            obtain ⟨A3, c3, e3, h3⟩ := hV 3 (by decide)
            obtain ⟨A4, c4, e4, h4⟩ := hV 4 (by decide)
            obtain ⟨A5, c5, e5, h5⟩ := hV 5 (by decide)
            simp only [e0, e1, e2, e3, e4, e5]
            clear e0 e1 e2 e3 e4 e5
            refine wpAny_done (by kernel_rfl) ?_ _
            obtain ⟨w7, rfl⟩ : ∃ W, W = w' := ⟨_, rfl⟩
            have k7 := hS.1
            have hB7 := hB6.trans (hS.2.mono hB6.size)
            have hE7 := hE6.below hS.2 hl65
            have hKN7 := h5.rd
            have hMS7 : Rd w7 Am nk (ints (msI (pw n))) := (HMI.out.rd.below hab).below hS.2
            have hO7 : MkII w w7 (some ⟨w5.heap.size, 0, none⟩) 0 0 [] := ⟨[], ⟨hB7, Own.of_cells (cs := #[]) hB5.size hE7 (by simp [maxLen])⟩, Nest.nil _ _⟩
            have hgr0 : Grows w7 w7 w5.heap.size (.slice (some ⟨w5.heap.size, 0, none⟩) 0 0) := ⟨CK.refl _, Nat.le_refl _, fun gb h => .inl (by simpa [Value.ownBlock] using h.symm)⟩
            obtain ⟨g9, hg9⟩ : ∃ g, g = w5.heap.size := ⟨_, rfl⟩
            obtain ⟨A8, hA8⟩ : ∃ g, g = A5 := ⟨_, rfl⟩
            obtain ⟨c8, hc8⟩ : ∃ g, g = c5 := ⟨_, rfl⟩
            rw [← hA8] at hKN7 ⊢
            rw [← hg9] at hE7 hO7 hgr0 ⊢
            rw [← hc8]
            clear hS h5 h3 h4 hA8 hc8 hg9 k6 hB6 hE6 hab q0 q1 HMII HMI hl65 hB5 k5
            go_wp2
            go_loopw [11, 13] (fun out i wr => ∃ (k : Nat) (A1 : Option Addr) (c1 : Nat), k ≤ KN.length ∧ i = .int .i64 k ∧ out = .slice A1 k c1 ∧ MkII w wr A1 k c1 ((semb P sq n xs).take k) ∧ Grows w7 wr g9 (.slice A1 k c1) ∧ Blk wr w.heap.size 29 #[.int .i64 P, .slice A n c]) (fun _ i _ => KN.length - (intOf i).toNat)
            case atStart => exact ⟨0, _, _, by omega, rfl, rfl, by simpa using hO7, hgr0, k7⟩
            case round =>
              obtain ⟨k, A1, c1, hk, rfl, rfl, hM, hgr, k8⟩ := hrel
              clear hO7 hgr0 k7
              obtain ⟨wo, rfl⟩ : ∃ W, W = wr := ⟨_, rfl⟩
              obtain ⟨q0, q1⟩ := k8.two
              by_cases hlt : k < KN.length
              · obtain ⟨gl, ol, rfl, hxk, Ar, cr, hcl, hrr, hcc⟩ := (hKN7.ck hgr.1).at_ hlt
                have hlk : KN[k].length = nk := (HKT.out _ (List.getElem_mem hxk)).1
                have HZN := Lib.hid (HKT.out _ (List.getElem_mem hxk)).2
                rw [hlk] at hcl hrr hcc
                have HAP := Lib.hid (HTAKE.out k hxk)
                obtain ⟨z, hz⟩ : ∃ z, z = KN[k] := ⟨_, rfl⟩
                rw [← hz] at hrr HAP HZN hlk
                have hms8 := hMS7.ck hgr.1
                have HM := Lib.hid hM
                have HGR := Lib.hid hgr
                have i1 : (0 : Int) ≤ (k : Int) := by omega
                have i2 : (k : Int) < (KN.length : Int) := by omega
                clear hM hgr hcc hz hxk
                go_wp2_with fail
                refine (l04Zero_any P A n c _ (by omega)).mono ?_
                rintro e w9 ⟨A9, c9, rfl, hM9⟩
                rcases hM9.2.form with ⟨rfl, hzz⟩ | ⟨g14, rfl, hga, hgb⟩
                · exact absurd hzz (by omega)
                have k9 := k8.below hM9.b k8.lt
                clear q0 q1
                go_wp2
                go_loopw [15] (fun i vi => ∃ (j : Nat), j ≤ nk ∧ i = .int .i64 j ∧ MkI wo vi (some ⟨g14, 0, none⟩) (pw n) c9 (embT (pw n) z j)) (fun i _ => nk - (intOf i).toNat)
                case atStart => exact ⟨0, by omega, rfl, by simpa [embT] using hM9⟩
                case round =>
                  obtain ⟨j, hj, rfl, hY⟩ := hrel
                  clear hM9
                  by_cases hlj : j < nk
                  · obtain ⟨gm, om, rfl, hxm, hcm0⟩ := (hms8.below hY.b).int hlj
                    rw [msI_at hxm] at hcm0
                    obtain ⟨gr, orr, rfl, hzj, hcz⟩ := (hrr.below hY.b).int hlj
                    have hcl2 := (hY.b.cell (World.block_lt_of_cell? _ _ hcl)).trans hcl
                    have hml := (msT_at (show j < (msT (pw n)).length by rw [← HKE.out]; exact hlj)).1
                    have HV : Hid (embT (pw n) z (j + 1) = (embT (pw n) z j).set ((msT (pw n)).getD j 0) z[j]) := Lib.hid (by rw [embT_succ, getD_of_lt 0 hzj])
                    obtain ⟨mj, hmj⟩ : ∃ x, x = (msT (pw n)).getD j 0 := ⟨_, rfl⟩
                    obtain ⟨zj, hzz⟩ : ∃ x, x = z[j] := ⟨_, rfl⟩
                    rw [← hmj] at hcm0 hml HV
                    rw [← hzz] at hcz HV
                    have i3 : (0 : Int) ≤ (j : Int) := by omega
                    have i4 : (j : Int) < (nk : Int) := by omega
                    have i5 : (0 : Int) ≤ (mj : Int) := by omega
                    have i6 : (mj : Int) < ((pw n : Nat) : Int) := by omega
                    have HY := Lib.hid hY
                    clear hmj hzz hzj hxm hrr hcl hms8 hY
                    go_wp2

                    refine wp_obs 13 [[], [], [], [1, 2], [1, 2, 3], [], [], [5, 6], [5, 6, 7], [], [5, 6, 7, 8, 9], [5, 6, 7, 8, 9, 10], [0, 1, 2, 3, 4], [0, 1, 2, 3, 4, 5, 6, 7, 8, 9, 10, 11, 12]] [VIs (.slice (some ⟨g14, 0, none⟩) (pw n) c9), VIs (.slice (some ⟨gm, om, none⟩) nk cm), VIs (.int .i64 (j)), VIs (.pointer (some ⟨gm, om + j, none⟩)), VIs (.int .i64 (mj)), VIs (.slice (some ⟨gl, ol, none⟩) KN.length c8), VIs (.int .i64 (k)), VIs (.pointer (some ⟨gl, ol + k, none⟩)), VIs (.slice (some ⟨gr, orr, none⟩) nk cr), VIs (.int .i64 (j)), VIs (.pointer (some ⟨gr, orr + j, none⟩)), VIs (.int .i64 (zj)), VIs (.pointer (some ⟨g14, mj, none⟩))] (fun w' => w'.cell? ⟨gm, om + j, none⟩ = some (.int .i64 mj) ∧ w'.cell? ⟨gl, ol + k, none⟩ = some (.slice (some ⟨gr, orr, none⟩) nk cr) ∧ w'.cell? ⟨gr, orr + j, none⟩ = some (.int .i64 zj) ∧ MkI wo w' (some ⟨g14, 0, none⟩) (pw n) c9 (embT (pw n) z j)) (by kernel_rfl) (by kernel_rfl) (fun _ _ h hb => ⟨(hb.cell (World.block_lt_of_cell? _ _ h.1)).trans h.1, (hb.cell (World.block_lt_of_cell? _ _ h.2.1)).trans h.2.1, (hb.cell (World.block_lt_of_cell? _ _ h.2.2.1)).trans h.2.2.1, h.2.2.2.below hb⟩) (⟨hcm0, hcl2, hcz, HY.out.below ((Below.refl _ _).drew)⟩) (fun x => ?_)
                    refine obs_step (Eq.trans (by simp only [List.getElem?_toArray, List.getElem?_cons_zero]; exact rfl) rfl) rfl (fun w' hS hV K hK => ?_) ?_
                    · have q2 := hS.1; have q3 := hS.2.1; have q4 := hS.2.2.1
                      go_simp
                      exact hK.out _ _ _ rfl rfl rfl (Below.refl _ _)
                    simp only [List.setIfInBounds_toArray, List.set_cons_zero, List.set_cons_succ]
                    refine obs_step (Eq.trans (by simp only [List.getElem?_toArray, List.getElem?_cons_succ, List.getElem?_cons_zero]; exact rfl) rfl) rfl (fun w' hS hV K hK => ?_) ?_
                    · have q2 := hS.1; have q3 := hS.2.1; have q4 := hS.2.2.1
                      go_simp
                      exact hK.out _ _ _ rfl rfl rfl (Below.refl _ _)
                    simp only [List.setIfInBounds_toArray, List.set_cons_zero, List.set_cons_succ]
                    refine obs_step (Eq.trans (by simp only [List.getElem?_toArray, List.getElem?_cons_succ, List.getElem?_cons_zero]; exact rfl) rfl) rfl (fun w' hS hV K hK => ?_) ?_
                    · have q2 := hS.1; have q3 := hS.2.1; have q4 := hS.2.2.1
                      go_simp
                      exact hK.out _ _ _ rfl rfl rfl (Below.refl _ _)
                    simp only [List.setIfInBounds_toArray, List.set_cons_zero, List.set_cons_succ]
                    refine obs_step (Eq.trans (by simp only [List.getElem?_toArray, List.getElem?_cons_succ, List.getElem?_cons_zero]; exact rfl) rfl) rfl (fun w' hS hV K hK => ?_) ?_
                    · have e1 : x 1 = (.slice (some ⟨gm, om, none⟩) nk cm) := hV 1 (by decide)
                      have e2 : x 2 = (.int .i64 (j)) := hV 2 (by decide)
                      have q2 := hS.1; have q3 := hS.2.1; have q4 := hS.2.2.1
                      go_simp
                      exact hK.out _ _ _ rfl rfl rfl (Below.refl _ _)
                    simp only [List.setIfInBounds_toArray, List.set_cons_zero, List.set_cons_succ]
                    refine obs_step (Eq.trans (by simp only [List.getElem?_toArray, List.getElem?_cons_succ, List.getElem?_cons_zero]; exact rfl) rfl) rfl (fun w' hS hV K hK => ?_) ?_
                    · have e1 : x 1 = (.slice (some ⟨gm, om, none⟩) nk cm) := hV 1 (by decide)
                      have e2 : x 2 = (.int .i64 (j)) := hV 2 (by decide)
                      have e3 : x 3 = (.pointer (some ⟨gm, om + j, none⟩)) := hV 3 (by decide)
                      have q2 := hS.1; have q3 := hS.2.1; have q4 := hS.2.2.1
                      go_simp
                      exact hK.out _ _ _ rfl rfl rfl (Below.refl _ _)
                    simp only [List.setIfInBounds_toArray, List.set_cons_zero, List.set_cons_succ]
                    refine obs_step (Eq.trans (by simp only [List.getElem?_toArray, List.getElem?_cons_succ, List.getElem?_cons_zero]; exact rfl) rfl) rfl (fun w' hS hV K hK => ?_) ?_
                    · have q2 := hS.1; have q3 := hS.2.1; have q4 := hS.2.2.1
                      go_simp
                      exact hK.out _ _ _ rfl rfl rfl (Below.refl _ _)
                    simp only [List.setIfInBounds_toArray, List.set_cons_zero, List.set_cons_succ]
                    refine obs_step (Eq.trans (by simp only [List.getElem?_toArray, List.getElem?_cons_succ, List.getElem?_cons_zero]; exact rfl) rfl) rfl (fun w' hS hV K hK => ?_) ?_
                    · have q2 := hS.1; have q3 := hS.2.1; have q4 := hS.2.2.1
                      go_simp
                      exact hK.out _ _ _ rfl rfl rfl (Below.refl _ _)
                    simp only [List.setIfInBounds_toArray, List.set_cons_zero, List.set_cons_succ]
                    refine obs_step (Eq.trans (by simp only [List.getElem?_toArray, List.getElem?_cons_succ, List.getElem?_cons_zero]; exact rfl) rfl) rfl (fun w' hS hV K hK => ?_) ?_
                    · have e5 : x 5 = (.slice (some ⟨gl, ol, none⟩) KN.length c8) := hV 5 (by decide)
                      have e6 : x 6 = (.int .i64 (k)) := hV 6 (by decide)
                      have q2 := hS.1; have q3 := hS.2.1; have q4 := hS.2.2.1
                      go_simp
                      exact hK.out _ _ _ rfl rfl rfl (Below.refl _ _)
                    simp only [List.setIfInBounds_toArray, List.set_cons_zero, List.set_cons_succ]
                    refine obs_step (Eq.trans (by simp only [List.getElem?_toArray, List.getElem?_cons_succ, List.getElem?_cons_zero]; exact rfl) rfl) rfl (fun w' hS hV K hK => ?_) ?_
                    · have e5 : x 5 = (.slice (some ⟨gl, ol, none⟩) KN.length c8) := hV 5 (by decide)
                      have e6 : x 6 = (.int .i64 (k)) := hV 6 (by decide)
                      have e7 : x 7 = (.pointer (some ⟨gl, ol + k, none⟩)) := hV 7 (by decide)
                      have q2 := hS.1; have q3 := hS.2.1; have q4 := hS.2.2.1
                      go_simp
                      exact hK.out _ _ _ rfl rfl rfl (Below.refl _ _)
                    simp only [List.setIfInBounds_toArray, List.set_cons_zero, List.set_cons_succ]
                    refine obs_step (Eq.trans (by simp only [List.getElem?_toArray, List.getElem?_cons_succ, List.getElem?_cons_zero]; exact rfl) rfl) rfl (fun w' hS hV K hK => ?_) ?_
                    · have q2 := hS.1; have q3 := hS.2.1; have q4 := hS.2.2.1
                      go_simp
                      exact hK.out _ _ _ rfl rfl rfl (Below.refl _ _)
                    simp only [List.setIfInBounds_toArray, List.set_cons_zero, List.set_cons_succ]
                    refine obs_step (Eq.trans (by simp only [List.getElem?_toArray, List.getElem?_cons_succ, List.getElem?_cons_zero]; exact rfl) rfl) rfl (fun w' hS hV K hK => ?_) ?_
                    · have e5 : x 5 = (.slice (some ⟨gl, ol, none⟩) KN.length c8) := hV 5 (by decide)
                      have e6 : x 6 = (.int .i64 (k)) := hV 6 (by decide)
                      have e7 : x 7 = (.pointer (some ⟨gl, ol + k, none⟩)) := hV 7 (by decide)
                      have e8 : x 8 = (.slice (some ⟨gr, orr, none⟩) nk cr) := hV 8 (by decide)
                      have e9 : x 9 = (.int .i64 (j)) := hV 9 (by decide)
                      have q2 := hS.1; have q3 := hS.2.1; have q4 := hS.2.2.1
                      go_simp
                      exact hK.out _ _ _ rfl rfl rfl (Below.refl _ _)
                    simp only [List.setIfInBounds_toArray, List.set_cons_zero, List.set_cons_succ]
                    refine obs_step (Eq.trans (by simp only [List.getElem?_toArray, List.getElem?_cons_succ, List.getElem?_cons_zero]; exact rfl) rfl) rfl (fun w' hS hV K hK => ?_) ?_
                    · have e5 : x 5 = (.slice (some ⟨gl, ol, none⟩) KN.length c8) := hV 5 (by decide)
                      have e6 : x 6 = (.int .i64 (k)) := hV 6 (by decide)
                      have e7 : x 7 = (.pointer (some ⟨gl, ol + k, none⟩)) := hV 7 (by decide)
                      have e8 : x 8 = (.slice (some ⟨gr, orr, none⟩) nk cr) := hV 8 (by decide)
                      have e9 : x 9 = (.int .i64 (j)) := hV 9 (by decide)
                      have e10 : x 10 = (.pointer (some ⟨gr, orr + j, none⟩)) := hV 10 (by decide)
                      have q2 := hS.1; have q3 := hS.2.1; have q4 := hS.2.2.1
                      go_simp
                      exact hK.out _ _ _ rfl rfl rfl (Below.refl _ _)
                    simp only [List.setIfInBounds_toArray, List.set_cons_zero, List.set_cons_succ]
                    refine obs_step (Eq.trans (by simp only [List.getElem?_toArray, List.getElem?_cons_succ, List.getElem?_cons_zero]; exact rfl) rfl) rfl (fun w' hS hV K hK => ?_) ?_
                    · have e0 : x 0 = (.slice (some ⟨g14, 0, none⟩) (pw n) c9) := hV 0 (by decide)
                      have e1 : x 1 = (.slice (some ⟨gm, om, none⟩) nk cm) := hV 1 (by decide)
                      have e2 : x 2 = (.int .i64 (j)) := hV 2 (by decide)
                      have e3 : x 3 = (.pointer (some ⟨gm, om + j, none⟩)) := hV 3 (by decide)
                      have e4 : x 4 = (.int .i64 (mj)) := hV 4 (by decide)
                      have q2 := hS.1; have q3 := hS.2.1; have q4 := hS.2.2.1
                      go_simp
                      exact hK.out _ _ _ rfl rfl rfl (Below.refl _ _)
                    simp only [List.setIfInBounds_toArray, List.set_cons_zero, List.set_cons_succ]
                    refine fun w' hS hV => ?_
                    have e0 : x 0 = (.slice (some ⟨g14, 0, none⟩) (pw n) c9) := hV 0 (by decide)
                    have e1 : x 1 = (.slice (some ⟨gm, om, none⟩) nk cm) := hV 1 (by decide)
                    have e2 : x 2 = (.int .i64 (j)) := hV 2 (by decide)
                    have e3 : x 3 = (.pointer (some ⟨gm, om + j, none⟩)) := hV 3 (by decide)
                    have e4 : x 4 = (.int .i64 (mj)) := hV 4 (by decide)
                    have e5 : x 5 = (.slice (some ⟨gl, ol, none⟩) KN.length c8) := hV 5 (by decide)
                    have e6 : x 6 = (.int .i64 (k)) := hV 6 (by decide)
                    have e7 : x 7 = (.pointer (some ⟨gl, ol + k, none⟩)) := hV 7 (by decide)
                    have e8 : x 8 = (.slice (some ⟨gr, orr, none⟩) nk cr) := hV 8 (by decide)
                    have e9 : x 9 = (.int .i64 (j)) := hV 9 (by decide)
                    have e10 : x 10 = (.pointer (some ⟨gr, orr + j, none⟩)) := hV 10 (by decide)
                    have e11 : x 11 = (.int .i64 (zj)) := hV 11 (by decide)
                    have e12 : x 12 = (.pointer (some ⟨g14, mj, none⟩)) := hV 12 (by decide)
                    simp only [e0, e1, e2, e3, e4, e5, e6, e7, e8, e9, e10, e11, e12]
                    clear e0 e1 e2 e3 e4 e5 e6 e7 e8 e9 e10 e11 e12
                    obtain ⟨q2, q3, q4, hY2⟩ := hS
                    obtain ⟨hoc, hof⟩ := mkI_at hY2 hml
                    refine any_one (j := 13) (by kernel_rfl) (Eq.trans (by simp only [List.getElem?_toArray, List.getElem?_cons_succ, List.getElem?_cons_zero]; exact rfl) rfl) (fun K hK => ?_)
                    go_simp
                    refine hK.out _ _ (wpAny_done (by kernel_rfl) ?_ _)
                    have hY3 := (Mk.set hY2 mj (.int .i64 zj)).1
                    rw [ints_set, ← HV.out] at hY3
                    clear q2 q3 q4 hoc hof
                    go_wp2
                    go_roundw
                    case rel => exact ⟨j + 1, by omega, by go_num, hY3⟩
                    case measure => simp [intOf]; omega
                  · obtain rfl : j = nk := by omega
                    have HY := Lib.hid hY
                    have k10 := k8.below hY.b k8.lt
                    clear hY
                    go_wp2_with (at_builtin; refine wpList_appRowG w wo _ rfl _ _ rfl A1 k c1 _ (some ⟨g14, 0, none⟩) (pw n) c9 _ HM.out HY.out (by omega) rfl ?_ ?_; (go_simp); intro A20 c20 w20 hM20 hg20 hat20)
                    have k11 := k10.grown hg20 ((HM.out.below HY.out.b).ne_blk k10 (by decide))
                    have hgr7 := HGR.out.step (n' := k + 1) (c' := c20) hE7 HY.out.b hg20 hat20
                    clear k10 hg20 hat20
                    go_roundw
                    case rel => exact ⟨k + 1, A20, c20, by omega, by go_num, rfl, by rw [HAP.out]; exact hM20, hgr7, k11⟩
                    case measure => simp [intOf]; omega
              · obtain rfl : k = KN.length := by omega
                rw [List.take_of_length_le (by rw [HSL2.out]; exact Nat.le_refl _)] at hM
                have hcall := l02Basis_any P A1 KN.length c1 (semb P sq n xs) (pw n) wo HPP.out (by omega) (by omega) hM.rd HSO.out
                have hRl : (basisL P (semb P sq n xs)).length ≤ pw n := (basisL_red HPP.out _ HSO.out).len
                have hRT := basisL_tab (p := P) (by omega) _ HSO.out
                rw [HSR.out] at HOK
                obtain ⟨R, hR⟩ : ∃ R, R = basisL P (semb P sq n xs) := ⟨_, rfl⟩
                rw [← hR] at hcall hRl hRT HOK
                have HRT := Lib.hid hRT
                clear hR hRT
                go_wp2_with fail
                refine hcall.mono ?_
                rintro e w10 ⟨A10, c10, rfl, hM10⟩
                have hown := l01Own2_any P A10 R.length c10 R (pw n) w10 (by omega) (by omega) hM10.rd HRT.out
                go_wp2_with fail
                refine hown.mono ?_
                rintro e w11 ⟨A11, c11, rfl, hM11⟩
                go_wp2
                go_ret2
                exact aMat3 HOK.out (hM11.after (hM.b.trans (hM10.b.mono hM.b.size)))
    · have HOK : Hid (cenR P sq xs = ([], 3)) := Lib.hid (by rw [cenR_big HR0.out (by rw [HSL.out]; exact h4)])
      have d4 : decide (4 < (n : Int)) = true := by simp; omega
      go_enter Tryz.func17, Tryz.ntmps17
      go_wp2_with fail
      refine hreg.mono ?_
      rintro e w2 ⟨rfl, hb2⟩
      have hB2 := hB1.trans (hb2.mono hB1.size)
      have k2 := k1.below hb2 k1.lt
      obtain ⟨q0, q1⟩ := k2.two
      clear k0 hB0 k1 hB1 hb2
      go_wp2
      go_ret2
      exact noMat3 HOK.out hB2
  · obtain ⟨r, hr⟩ : ∃ r, r = codeB P sq [xs] := ⟨_, rfl⟩
    have HR := Lib.hid hr
    have HR0 := Lib.hid hr0
    have b0 : (r != 0) = true := code_ne (by rw [hr]; exact hr0)
    have b1 : (r == 0) = false := by simpa [hr] using hr0
    rw [← hr] at hreg
    clear hr hr0
    go_enter Tryz.func17, Tryz.ntmps17
    go_wp2_with fail
    refine hreg.mono ?_
    rintro e w2 ⟨rfl, hb2⟩
    have hB2 := hB1.trans (hb2.mono hB1.size)
    have k2 := k1.below hb2 k1.lt
    obtain ⟨q0, q1⟩ := k2.two
    clear k0 hB0 k1 hB1 hb2
    go_wp2
    go_ret2
    exact noMat3 (by rw [cenR_bad HR0.out, HR.out]) hB2
end Go.Proofs.YtklnkhkfcalndaaGreat

/-
  LawFnCentralizers: part 5 of the texts that the proof needs. No condition.
-/
import Derived.Test.YtggigolkncckoaaGreatP4
namespace Go.Proofs.YtggigolkncckoaaGreat
open Go.RowKit
theorem ldIdx_spec {B : List (List Int)} {k i : Nat} (h : ldIdx B k = some i) : i < B.length ∧ ld B i = k := by
  unfold ldIdx at h
  exact ⟨by simpa using List.mem_of_find?_eq_some h, by simpa using List.find?_some h⟩
/-- Is the row with the first at place k not among the first j? -/
def leftFrom (B : List (List Int)) (j k : Nat) : Bool := match ldIdx B k with | some i => decide (j ≤ i) | none => false
theorem leftFrom_zero {n : Nat} {B : List (List Int)} (hR : Red n B) {k : Nat} (h : isLd B k = true) : leftFrom B 0 k = true := by
  obtain ⟨i, hi, rfl⟩ := isLd_iff.1 h
  unfold leftFrom
  rw [ldIdx_some hR hi]
  simp
theorem leftFrom_succ {n : Nat} {B : List (List Int)} (hR : Red n B) {j : Nat} (hj : j < B.length) (k : Nat) : (leftFrom B j k && !(k == ld B j)) = leftFrom B (j + 1) k := by
  unfold leftFrom
  cases h : ldIdx B k with
  | none => rfl
  | some i =>
    obtain ⟨hi, hk⟩ := ldIdx_spec h
    by_cases hij : i = j
    · subst hij
      simp [hk]
    · have hne : ¬ k = ld B j := fun e => hij (hR.inj hi hj (hk.trans e))
      have : (k == ld B j) = false := by simpa using hne
      simp only [this, Bool.not_false, Bool.and_true]
      rw [Bool.eq_iff_iff, decide_eq_true_eq, decide_eq_true_eq]
      omega
theorem leftFrom_end {B : List (List Int)} (k : Nat) : leftFrom B B.length k = false := by
  unfold leftFrom
  cases h : ldIdx B k with
  | none => rfl
  | some i =>
    have := (ldIdx_spec h).1
    simp only [decide_eq_false_iff_not]
    omega
theorem lds_contains (B : List (List Int)) (k : Nat) : (tab B.length fun i => ((ld B i : Nat) : Int)).contains (k : Int) = isLd B k := by
  rw [Bool.eq_iff_iff, List.contains_iff_mem, isLd_iff]
  constructor
  · intro h
    obtain ⟨i, hi, e⟩ := tab_mem h
    exact ⟨i, hi, by omega⟩
  · rintro ⟨i, hi, rfl⟩
    unfold tab
    exact List.mem_map.2 ⟨i, by simpa using hi, rfl⟩
theorem firstL_ld {n : Nat} {B : List (List Int)} (hR : Red n B) {j : Nat} (hj : j < B.length) (hl : B[j].length = n) : firstL B[j] = ((ld B j : Nat) : Int) := by
  have h1 := hR.lt j hj
  unfold ld at h1 ⊢
  rw [getD_of_lt [] hj] at h1 ⊢
  unfold firstL
  rw [if_pos (by omega)]
set_option maxHeartbeats 400000 in
theorem l01Index_any (A : Option Addr) (n c : Nat) (xs : List Int) (v : Int) (w : World) (hn : n ≤ 1099511627776) (ha : Rd w A n (ints xs)) :
    Calls Tryz.prog 359 #[.slice A n c, .int .i64 v] w fun e w' => ∃ r : Int, e = .returned (.int .i64 r) ∧ decide (0 ≤ r) = xs.contains v ∧ w = w' := by
  have hxl : xs.length = n := by have := ha.1; rwa [ints_length] at this
  have Hx := Lib.hid hxl; clear hxl
  go_enter Tryz.func359, Tryz.ntmps359
  go_wp2
  go_loop [5] (fun i => ∃ k : Nat, k ≤ n ∧ i = .int .i64 k ∧ (xs.take k).contains v = false) (fun i => n - (intOf i).toNat)
  case atStart => exact ⟨0, by omega, rfl, by simp⟩
  case round =>
    obtain ⟨k, hk, rfl, ht⟩ := hrel
    have H := Lib.hid ht; clear ht
    by_cases hlt : k < n
    · obtain ⟨g, o, rfl, hx, hcx⟩ := ha.int hlt
      clear ha
      cases hi : (xs[k] == v)
      all_goals
        have HI := Lib.hid hi
        go_wp2
      · go_round
        case rel =>
          refine ⟨k + 1, by omega, by go_num, ?_⟩
          rw [List.take_succ_eq_append_getElem hx, List.contains_eq_any_beq, List.any_append, ← List.contains_eq_any_beq, H.out]
          have := HI.out
          simp only [beq_eq_false_iff_ne, ne_eq] at this
          simp only [List.any_cons, List.any_nil, Bool.or_false, Bool.false_or, beq_eq_false_iff_ne, ne_eq]
          exact fun e => this e.symm
        case measure => simp [intOf]; omega
      · go_ret
        refine ⟨_, rfl, ?_, rfl⟩
        have hv : xs[k] = v := by simpa using HI.out
        have : xs.contains v = true := by rw [List.contains_iff_mem, ← hv]; exact List.getElem_mem hx
        simpa using this
    · go_wp2
      go_ret
      refine ⟨_, rfl, ?_, rfl⟩
      have := H.out
      rw [List.take_of_length_le (by rw [Hx.out]; omega)] at this
      simpa using this
set_option maxHeartbeats 400000 in
theorem l01Has_any (A : Option Addr) (n c : Nat) (xs : List Int) (v : Int) (w : World) (hn : n ≤ 1099511627776) (ha : Rd w A n (ints xs)) :
    Calls Tryz.prog 325 #[.slice A n c, .int .i64 v] w fun e w' => e = .returned (.bool (xs.contains v)) ∧ w = w' := by
  go_enter Tryz.func325, Tryz.ntmps325
  go_wp2_with fail
  refine (l01Index_any _ _ _ _ _ _ hn ha).mono ?_
  rintro e w1 ⟨r, rfl, hr, rfl⟩
  have HR := Lib.hid hr; clear hr
  go_wp2
  go_ret
  exact ⟨ret_bool HR.out, rfl⟩
theorem l01Has_b {b : Bool} (A : Option Addr) (n c : Nat) (xs : List Int) (v : Int) (w : World) (hn : n ≤ 1099511627776) (ha : Rd w A n (ints xs)) (h : xs.contains v = b) :
    Calls Tryz.prog 325 #[.slice A n c, .int .i64 v] w fun e w' => e = .returned (.bool b) ∧ w = w' := h ▸ l01Has_any A n c xs v w hn ha
set_option maxHeartbeats 6400000 in
set_option maxRecDepth 8000 in
theorem l02Kernel_any (p : Int) (A : Option Addr) (r0 c : Nat) (M : List (List Int)) (n : Nat) (w : World) (HP : isP p = true) (h0 : 0 < r0) (hr0 : r0 ≤ 65536) (hn : n ≤ 65536) (ha : RdII w A r0 M) (hT : Tab p n M) :
    Calls Tryz.prog 217 #[.int .i64 p, .slice A r0 c] w fun e w' => ∃ A' c', e = .returned (.slice A' (kernL p M n).length c') ∧ MkII w w' A' (kernL p M n).length c' (kernL p M n) := by
  obtain ⟨hp3, hp2⟩ := isP_ge HP
  have hp : 2 ≤ p := by omega
  have hbas := fun w' (hb : Below w.heap.size w w') => l02Basis_any p A r0 c M n w' HP hr0 hn (ha.below hb) hT
  have hred := basisL_red HP M hT
  have htab := basisL_tab (p := p) (by omega) M hT
  have HKL : Hid (kernL p M n = basisL p (freeTo p (basisL p M) n n)) := Lib.hid rfl
  have HKT := Lib.hid (kernL_tab hp M n)
  have HKN := Lib.hid (kernL_len HP M n)
  have hdl := hred.len
  obtain ⟨g, o, rfl, -⟩ := ha.at_ h0
  obtain ⟨A0, c0, hc0⟩ := ha.row0 h0 hT
  obtain ⟨B, hB⟩ : ∃ B, B = basisL p M := ⟨_, rfl⟩
  rw [← hB] at hbas hred htab hdl HKL
  have HRED := Lib.hid hred
  have HTAB := Lib.hid htab
  have HP' := Lib.hid HP
  obtain ⟨d, hd⟩ : ∃ d, d = B.length := ⟨_, rfl⟩
  rw [← hd] at hbas hdl
  have HD := Lib.hid hd
  have HBAS := Lib.hid hbas
  clear hB hT ha hred htab HP hd hbas
  have hP0 : (p == 0) = false := by simp; omega
  have hP1 : (p == -1) = false := by simp; omega
  have hP2 : ¬ p = 0 := by omega
  go_enter Tryz.func217, Tryz.ntmps217
  go_wp2
  refine wp_obs 9 [[], [], [0, 1], [], [3], [3, 4], [3, 4, 5], [0, 1, 2], [3, 4, 5, 6]] [VIs (.int .i64 (p)), VIs (.slice (some ⟨g, o, none⟩) r0 c), VMat w d B, VIs (.slice (some ⟨g, o, none⟩) r0 c), VIs (.pointer (some ⟨g, o, none⟩)), VIs (.slice A0 n c0), VIs (.int .i64 (n)), VMat w d B, VIs (.int .i64 (n))] (fun w' => w'.cell? ⟨g, o, none⟩ = some (.slice A0 n c0) ∧ Below w.heap.size w w') (by kernel_rfl) (by kernel_rfl) (fun _ _ h hb => keepB1 h hb (Nat.le_refl _)) (⟨hc0, (Below.refl _ _).drew⟩) (fun x => ?_)
  refine obs_step (Eq.trans (by simp only [List.getElem?_toArray, List.getElem?_cons_zero]; exact rfl) rfl) rfl (fun w' hS hV K hK => ?_) ?_
  · have q0 := hS.1; have q1 := hS.2
    go_simp
    exact hK.out _ _ _ rfl rfl rfl (Below.refl _ _)
  simp only [List.setIfInBounds_toArray, List.set_cons_zero, List.set_cons_succ]
  refine obs_step (Eq.trans (by simp only [List.getElem?_toArray, List.getElem?_cons_succ, List.getElem?_cons_zero]; exact rfl) rfl) rfl (fun w' hS hV K hK => ?_) ?_
  · have q0 := hS.1; have q1 := hS.2
    go_simp
    exact hK.out _ _ _ rfl rfl rfl (Below.refl _ _)
  simp only [List.setIfInBounds_toArray, List.set_cons_zero, List.set_cons_succ]
  refine obs_step (Eq.trans (by simp only [List.getElem?_toArray, List.getElem?_cons_succ, List.getElem?_cons_zero]; exact rfl) rfl) rfl (fun w' hS hV K hK => ?_) ?_
  · have e0 : x 0 = (.int .i64 (p)) := hV 0 (by decide)
    have e1 : x 1 = (.slice (some ⟨g, o, none⟩) r0 c) := hV 1 (by decide)
    have q0 := hS.1; have q1 := hS.2
    go_simp
    refine (HBAS.out _ hS.2).mono ?_
    rintro e v1 ⟨A2, c2, rfl, hM⟩
    exact hK.out _ _ _ rfl rfl ⟨_, _, rfl, hM.after hS.2⟩ hM.b
  simp only [List.setIfInBounds_toArray, List.set_cons_zero, List.set_cons_succ]
  refine obs_step (Eq.trans (by simp only [List.getElem?_toArray, List.getElem?_cons_succ, List.getElem?_cons_zero]; exact rfl) rfl) rfl (fun w' hS hV K hK => ?_) ?_
  · have q0 := hS.1; have q1 := hS.2
    go_simp
    exact hK.out _ _ _ rfl rfl rfl (Below.refl _ _)
  simp only [List.setIfInBounds_toArray, List.set_cons_zero, List.set_cons_succ]
  refine obs_step (Eq.trans (by simp only [List.getElem?_toArray, List.getElem?_cons_succ, List.getElem?_cons_zero]; exact rfl) rfl) rfl (fun w' hS hV K hK => ?_) ?_
  · have e3 : x 3 = (.slice (some ⟨g, o, none⟩) r0 c) := hV 3 (by decide)
    have q0 := hS.1; have q1 := hS.2
    go_simp
    exact hK.out _ _ _ rfl rfl rfl (Below.refl _ _)
  simp only [List.setIfInBounds_toArray, List.set_cons_zero, List.set_cons_succ]
  refine obs_step (Eq.trans (by simp only [List.getElem?_toArray, List.getElem?_cons_succ, List.getElem?_cons_zero]; exact rfl) rfl) rfl (fun w' hS hV K hK => ?_) ?_
  · have e3 : x 3 = (.slice (some ⟨g, o, none⟩) r0 c) := hV 3 (by decide)
    have e4 : x 4 = (.pointer (some ⟨g, o, none⟩)) := hV 4 (by decide)
    have q0 := hS.1; have q1 := hS.2
    go_simp
    exact hK.out _ _ _ rfl rfl rfl (Below.refl _ _)
  simp only [List.setIfInBounds_toArray, List.set_cons_zero, List.set_cons_succ]
  refine obs_step (Eq.trans (by simp only [List.getElem?_toArray, List.getElem?_cons_succ, List.getElem?_cons_zero]; exact rfl) rfl) rfl (fun w' hS hV K hK => ?_) ?_
  · have e3 : x 3 = (.slice (some ⟨g, o, none⟩) r0 c) := hV 3 (by decide)
    have e4 : x 4 = (.pointer (some ⟨g, o, none⟩)) := hV 4 (by decide)
    have e5 : x 5 = (.slice A0 n c0) := hV 5 (by decide)
    have q0 := hS.1; have q1 := hS.2
    go_simp
    exact hK.out _ _ _ rfl rfl rfl (Below.refl _ _)
  simp only [List.setIfInBounds_toArray, List.set_cons_zero, List.set_cons_succ]
  refine obs_step (Eq.trans (by simp only [List.getElem?_toArray, List.getElem?_cons_succ, List.getElem?_cons_zero]; exact rfl) rfl) rfl (fun w' hS hV K hK => ?_) ?_
  · have e0 : x 0 = (.int .i64 (p)) := hV 0 (by decide)
    have e1 : x 1 = (.slice (some ⟨g, o, none⟩) r0 c) := hV 1 (by decide)
    obtain ⟨A2, c2, e2, h2⟩ := hV 2 (by decide)
    have q0 := hS.1; have q1 := hS.2
    go_simp
    exact hK.out _ _ _ rfl rfl ⟨_, _, rfl, h2⟩ (Below.refl _ _)
  simp only [List.setIfInBounds_toArray, List.set_cons_zero, List.set_cons_succ]
  refine obs_step (Eq.trans (by simp only [List.getElem?_toArray, List.getElem?_cons_succ, List.getElem?_cons_zero]; exact rfl) rfl) rfl (fun w' hS hV K hK => ?_) ?_
  · have e3 : x 3 = (.slice (some ⟨g, o, none⟩) r0 c) := hV 3 (by decide)
    have e4 : x 4 = (.pointer (some ⟨g, o, none⟩)) := hV 4 (by decide)
    have e5 : x 5 = (.slice A0 n c0) := hV 5 (by decide)
    have e6 : x 6 = (.int .i64 (n)) := hV 6 (by decide)
    have q0 := hS.1; have q1 := hS.2
    go_simp
    exact hK.out _ _ _ rfl rfl rfl (Below.refl _ _)
  simp only [List.setIfInBounds_toArray, List.set_cons_zero, List.set_cons_succ]
  refine fun w' hS hV => ?_
  have e0 : x 0 = (.int .i64 (p)) := hV 0 (by decide)
  have e1 : x 1 = (.slice (some ⟨g, o, none⟩) r0 c) := hV 1 (by decide)
  obtain ⟨A2, c2, e2, h2⟩ := hV 2 (by decide)
  have e3 : x 3 = (.slice (some ⟨g, o, none⟩) r0 c) := hV 3 (by decide)
  have e4 : x 4 = (.pointer (some ⟨g, o, none⟩)) := hV 4 (by decide)
  have e5 : x 5 = (.slice A0 n c0) := hV 5 (by decide)
  have e6 : x 6 = (.int .i64 (n)) := hV 6 (by decide)
  obtain ⟨A7, c7, e7, h7⟩ := hV 7 (by decide)
  have e8 : x 8 = (.int .i64 (n)) := hV 8 (by decide)
  simp only [e0, e1, e2, e3, e4, e5, e6, e7, e8]
  clear e0 e1 e2 e3 e4 e5 e6 e7 e8
  refine wpAny_done (by kernel_rfl) ?_ _
  obtain ⟨q0, q1⟩ := hS
  have HB7 := Lib.hid h7
  obtain ⟨wb, hwb⟩ : ∃ W, W = w' := ⟨_, rfl⟩
  rw [← hwb] at HB7 q1 ⊢
  clear h7 h2 hV q0 hwb hc0 HBAS
  have HQ := Lib.hid q1
  clear q1
  have hp0 := Mk.lit (E := 2) (Below.refl wb.heap.size wb) #[] (by simp)
  have hP0' : MkI wb ((wb.alloc (.cells #[] 2)).alloc (.cells #[] 24)) (some ⟨wb.heap.size, 0, none⟩) 0 0 (tab 0 fun i => ((ld B i : Nat) : Int)) := by
    have := hp0.alloc (.cells #[] 24)
    simpa [MkI, ints, tab] using this
  have hl0 : Mk wb ((wb.alloc (.cells #[] 2)).alloc (.cells #[] 24)) 24 (some ⟨wb.heap.size + 1, 0, none⟩) 0 0 [] := by
    have := Mk.lit (E := 24) (w0 := wb) (w := wb.alloc (.cells #[] 2)) ((Below.refl _ _).alloc (Nat.le_refl _) _) #[] (by simp)
    simpa using this
  clear hp0
  go_wp2
  obtain ⟨w2, hw2⟩ : ∃ W, W = (wb.alloc (.cells #[] 2)).alloc (.cells #[] 24) := ⟨_, rfl⟩
  rw [← hw2] at hP0' hl0 ⊢
  clear hw2
  have hlo : Own w2 wb.heap.size 24 (some ⟨wb.heap.size + 1, 0, none⟩) 0 0 [] := hl0.2
  clear hl0
  go_loopw [7, 9] (fun pv i wr => ∃ (j : Nat) (A' : Option Addr) (c' : Nat), j ≤ d ∧ i = .int .i64 j ∧ pv = .slice A' j c' ∧ MkI wb wr A' j c' (tab j fun i => ((ld B i : Nat) : Int)) ∧ Own wr wb.heap.size 24 (some ⟨wb.heap.size + 1, 0, none⟩) 0 0 []) (fun _ i _ => d - (intOf i).toNat)
  case atStart => exact ⟨0, _, _, by omega, rfl, rfl, hP0', hlo⟩
  case round =>
    obtain ⟨j, A', c', hj, rfl, rfl, hM, hlo2⟩ := hrel
    clear hP0' hlo
    have HLO := Lib.hid hlo2
    clear hlo2
    by_cases hlj : j < d
    · obtain ⟨g7, o7, rfl, hxj, Aj, cj, hcj, hrj, -⟩ := (HB7.out.rd.below hM.b).at_ hlj
      have HRJ := Lib.hid (HTAB.out B[j] (List.getElem_mem hxj))
      have hl := HRJ.out.1
      have hfl := firstL_ld HRED.out hxj hl
      rw [hl] at hcj hrj
      have hlead := l02First_any Aj n cj B[j] wr (by omega) hrj
      rw [hfl] at hlead
      have HV : Hid ((tab (j + 1) fun i => ((ld B i : Nat) : Int)) = (tab j fun i => ((ld B i : Nat) : Int)) ++ [((ld B j : Nat) : Int)]) := Lib.hid (tab_succ _ _)
      obtain ⟨l, hl'⟩ : ∃ l, l = ld B j := ⟨_, rfl⟩
      rw [← hl'] at hlead HV
      have HM := Lib.hid hM
      clear hl hl' hfl hrj hM HRJ
      go_wp2_with (first
        | (go_at_call 241; refine hlead.mono ?_; rintro e w' ⟨rfl, rfl⟩)
        | (at_builtin; refine wpList_app1 wb _ 24 2 _ _ Tryz.underlying24 info_i rfl (by omega) rfl _ _ rfl A' j c' _ _ HM.out (by omega) rfl rfl rfl ?_; intro A4 c4 w4 hM4 hg4 _))
      go_roundw
      case rel => exact ⟨j + 1, A4, c4, by omega, by go_num, rfl, by rw [HV.out]; simpa [MkI, ints] using hM4, HLO.out.grown hg4 (HLO.out.ne HM.out.2 (by decide))⟩
      case measure => simp [intOf]; omega
    · obtain rfl : j = d := by omega
      have HPV := Lib.hid hM
      have HCON : Hid (∀ f : Nat, (tab j fun i => ((ld B i : Nat) : Int)).contains (f : Int) = isLd B f) := Lib.hid (fun f => by rw [HD.out]; exact lds_contains B f)
      have hM0 : MkII wb wr (some ⟨wb.heap.size + 1, 0, none⟩) 0 0 (freeTo p B n 0) := ⟨[], ⟨hM.b, HLO.out⟩, Nest.nil _ _⟩
      have hpo : Own wr wb.heap.size 2 A' j c' (ints (tab j fun i => ((ld B i : Nat) : Int))) := hM.2
      have hmk := make_i (P := Tryz.prog) 24 2 Tryz.underlying24 info_i n (by omega)
      clear hM
      go_wp2
      go_loopw [8, 10] (fun out i wr => ∃ (f q : Nat) (A2 : Option Addr) (c2 : Nat), f ≤ n ∧ q ≤ f ∧ i = .int .i64 f ∧ out = .slice A2 q c2 ∧ MkII wb wr A2 q c2 (freeTo p B n f) ∧ Own wr wb.heap.size 2 A' j c' (ints (tab j fun i => ((ld B i : Nat) : Int)))) (fun _ i _ => n - (intOf i).toNat)
      case atStart => exact ⟨0, 0, _, _, by omega, by omega, rfl, rfl, hM0, hpo⟩
      case round =>
        obtain ⟨f, q, A2, c2, hf, hq, rfl, rfl, hM, hpo2⟩ := hrel
        clear hM0 hpo
        obtain ⟨wo, rfl⟩ : ∃ W, W = wr := ⟨_, rfl⟩
        have HM := Lib.hid hM
        have HPO := Lib.hid hpo2
        clear hM hpo2
        by_cases hlf : f < n
        · cases hlb : isLd B f
          · have hhas := l01Has_b A' j c' (tab j fun i => ((ld B i : Nat) : Int)) (f : Int) wo (by omega) (Own.rd HPO.out) ((HCON.out f).trans hlb)
            have hm1 := Mk.made (E := 2) (n := n) (z := .int .i64 0) (Below.refl wo.heap.size wo) (by simp only [maxLen]; omega)
            rw [ints_replicate] at hm1
            obtain ⟨u1, hc1⟩ := hm1.2.cellI hlf
            have hf1 := hm1.2.frozen_ f
            have hm2 := (hm1.set f (.int .i64 1)).1
            rw [ints_set, World.setCell_alloc_at _ _ _ _ _ rfl] at hm2
            have hm3 := hm2
            rw [show (List.replicate n (0 : Int)).set f 1 = freePart p B n f (leftFrom B 0) from (freePart_start p B n f hlf (leftFrom B 0) (fun k _ hk => leftFrom_zero HRED.out hk)).symm] at hm3
            clear hm1 hm2
            go_wp2_with (go_at_call 325; refine hhas.mono ?_; rintro e w' ⟨rfl, rfl⟩)
            go_loopw [12] (fun i wr => ∃ k : Nat, k ≤ j ∧ i = .int .i64 k ∧ MkI wo wr (some ⟨wo.heap.size, 0, none⟩) n n (freePart p B n f (leftFrom B k))) (fun i _ => j - (intOf i).toNat)
            case atStart => exact ⟨0, by omega, rfl, hm3⟩
            case round =>
              obtain ⟨k, hk, rfl, hmv⟩ := hrel
              clear hm3 hc1 hf1 hhas
              have HMV := Lib.hid hmv
              clear hmv
              by_cases hlk : k < j
              · have hbo := HM.out.b.trans (HMV.out.b.mono HM.out.b.size)
                obtain ⟨g7, o7, rfl, hxl, Ai, ci, hci, hri, -⟩ := (HB7.out.rd.below hbo).at_ hlk
                have HRI := Lib.hid (HTAB.out B[k] (List.getElem_mem hxl))
                have hl := HRI.out.1
                rw [hl] at hci hri
                obtain ⟨gi, oi, rfl, hxe, hce⟩ := hri.int hlf
                have HE : Hid (ent B k f = B[k][f]) := Lib.hid (ent_at hxl hxe)
                obtain ⟨y, hy⟩ : ∃ y, y = B[k][f] := ⟨_, rfl⟩
                have hyb : 0 ≤ y ∧ y < p := hy ▸ HRI.out.2 _ (List.getElem_mem hxe)
                rw [← hy] at hce HE
                have hld := HRED.out.lt k (by rw [← HD.out]; exact hlk)
                obtain ⟨gp, op, rfl, hxp, hcp⟩ := ((Own.rd HPO.out).below HMV.out.b).int hlk
                have hep : (tab j fun i => ((ld B i : Nat) : Int))[k] = ((ld B k : Nat) : Int) := tab_get j _ k hxp
                rw [hep] at hcp
                have HST : Hid ((freePart p B n f (leftFrom B k)).set (ld B k) ((-y) % p) = freePart p B n f (leftFrom B (k + 1))) := Lib.hid (by
                  rw [← HE.out, freePart_step HRED.out (by rw [← HD.out]; exact hlk) hlb]
                  exact freePart_congr p B n f (fun k' _ => leftFrom_succ HRED.out (by rw [← HD.out]; exact hlk) k'))
                have hmb := emod_small (-y) p (by omega)
                have hwy := i64_small (x := p - y) (by omega) (by omega)
                have hty : (p - y).tmod p = (-y) % p := by rw [Int.tmod_eq_emod_of_nonneg (by omega)]; simp
                obtain ⟨l, hl'⟩ : ∃ l, l = ld B k := ⟨_, rfl⟩
                rw [← hl'] at hcp HST hld
                clear hl hl' hy hri HRI hxl hxe hxp hep hbo
                go_wp2
                refine wp_obs 17 [[], [], [], [1, 2], [1, 2, 3], [], [], [], [6, 7], [6, 7, 8], [], [6, 7, 8, 9, 10], [6, 7, 8, 9, 10, 11], [5, 6, 7, 8, 9, 10, 11, 12], [], [5, 6, 7, 8, 9, 10, 11, 12, 13, 14], [0, 1, 2, 3, 4], [0, 1, 2, 3, 4, 5, 6, 7, 8, 9, 10, 11, 12, 13, 14, 15, 16]] [VIs (.slice (some ⟨wo.heap.size, 0, none⟩) n n), VIs (.slice (some ⟨gp, op, none⟩) j c'), VIs (.int .i64 (k)), VIs (.pointer (some ⟨gp, op + k, none⟩)), VIs (.int .i64 (l)), VIs (.int .i64 (p)), VIs (.slice (some ⟨g7, o7, none⟩) j c7), VIs (.int .i64 (k)), VIs (.pointer (some ⟨g7, o7 + k, none⟩)), VIs (.slice (some ⟨gi, oi, none⟩) n ci), VIs (.int .i64 (f)), VIs (.pointer (some ⟨gi, oi + f, none⟩)), VIs (.int .i64 (y)), VIs (.int .i64 (p - y)), VIs (.int .i64 (p)), VIs (.int .i64 ((-y) % p)), VIs (.pointer (some ⟨wo.heap.size, l, none⟩))] (fun w' => w'.cell? ⟨gp, op + k, none⟩ = some (.int .i64 l) ∧ w'.cell? ⟨g7, o7 + k, none⟩ = some (.slice (some ⟨gi, oi, none⟩) n ci) ∧ w'.cell? ⟨gi, oi + f, none⟩ = some (.int .i64 y) ∧ Below wr.heap.size wr w') (by kernel_rfl) (by kernel_rfl) (fun _ _ h hb => keepR3 h hb (Nat.le_refl _)) (⟨hcp, hci, hce, (Below.refl _ _).drew⟩) (fun x => ?_)
                refine obs_step (Eq.trans (by simp only [List.getElem?_toArray, List.getElem?_cons_zero]; exact rfl) rfl) rfl (fun w' hS hV K hK => ?_) ?_
                · have q0 := hS.1; have q1 := hS.2.1; have q2 := hS.2.2.1; have q3 := hS.2.2.2
                  go_simp
                  exact hK.out _ _ _ rfl rfl rfl (Below.refl _ _)
                simp only [List.setIfInBounds_toArray, List.set_cons_zero, List.set_cons_succ]
                refine obs_step (Eq.trans (by simp only [List.getElem?_toArray, List.getElem?_cons_succ, List.getElem?_cons_zero]; exact rfl) rfl) rfl (fun w' hS hV K hK => ?_) ?_
                · have q0 := hS.1; have q1 := hS.2.1; have q2 := hS.2.2.1; have q3 := hS.2.2.2
                  go_simp
                  exact hK.out _ _ _ rfl rfl rfl (Below.refl _ _)
                simp only [List.setIfInBounds_toArray, List.set_cons_zero, List.set_cons_succ]
                refine obs_step (Eq.trans (by simp only [List.getElem?_toArray, List.getElem?_cons_succ, List.getElem?_cons_zero]; exact rfl) rfl) rfl (fun w' hS hV K hK => ?_) ?_
                · have q0 := hS.1; have q1 := hS.2.1; have q2 := hS.2.2.1; have q3 := hS.2.2.2
                  go_simp
                  exact hK.out _ _ _ rfl rfl rfl (Below.refl _ _)
                simp only [List.setIfInBounds_toArray, List.set_cons_zero, List.set_cons_succ]
                refine obs_step (Eq.trans (by simp only [List.getElem?_toArray, List.getElem?_cons_succ, List.getElem?_cons_zero]; exact rfl) rfl) rfl (fun w' hS hV K hK => ?_) ?_
                · have e1 : x 1 = (.slice (some ⟨gp, op, none⟩) j c') := hV 1 (by decide)
                  have e2 : x 2 = (.int .i64 (k)) := hV 2 (by decide)
                  have q0 := hS.1; have q1 := hS.2.1; have q2 := hS.2.2.1; have q3 := hS.2.2.2
                  go_simp
                  exact hK.out _ _ _ rfl rfl rfl (Below.refl _ _)
                simp only [List.setIfInBounds_toArray, List.set_cons_zero, List.set_cons_succ]
                refine obs_step (Eq.trans (by simp only [List.getElem?_toArray, List.getElem?_cons_succ, List.getElem?_cons_zero]; exact rfl) rfl) rfl (fun w' hS hV K hK => ?_) ?_
                · have e1 : x 1 = (.slice (some ⟨gp, op, none⟩) j c') := hV 1 (by decide)
                  have e2 : x 2 = (.int .i64 (k)) := hV 2 (by decide)
                  have e3 : x 3 = (.pointer (some ⟨gp, op + k, none⟩)) := hV 3 (by decide)
                  have q0 := hS.1; have q1 := hS.2.1; have q2 := hS.2.2.1; have q3 := hS.2.2.2
                  go_simp
                  exact hK.out _ _ _ rfl rfl rfl (Below.refl _ _)
                simp only [List.setIfInBounds_toArray, List.set_cons_zero, List.set_cons_succ]
                refine obs_step (Eq.trans (by simp only [List.getElem?_toArray, List.getElem?_cons_succ, List.getElem?_cons_zero]; exact rfl) rfl) rfl (fun w' hS hV K hK => ?_) ?_
                · have q0 := hS.1; have q1 := hS.2.1; have q2 := hS.2.2.1; have q3 := hS.2.2.2
                  go_simp
                  exact hK.out _ _ _ rfl rfl rfl (Below.refl _ _)
                simp only [List.setIfInBounds_toArray, List.set_cons_zero, List.set_cons_succ]
                refine obs_step (Eq.trans (by simp only [List.getElem?_toArray, List.getElem?_cons_succ, List.getElem?_cons_zero]; exact rfl) rfl) rfl (fun w' hS hV K hK => ?_) ?_
                · have q0 := hS.1; have q1 := hS.2.1; have q2 := hS.2.2.1; have q3 := hS.2.2.2
                  go_simp
                  exact hK.out _ _ _ rfl rfl rfl (Below.refl _ _)
                simp only [List.setIfInBounds_toArray, List.set_cons_zero, List.set_cons_succ]
                refine obs_step (Eq.trans (by simp only [List.getElem?_toArray, List.getElem?_cons_succ, List.getElem?_cons_zero]; exact rfl) rfl) rfl (fun w' hS hV K hK => ?_) ?_
                · have q0 := hS.1; have q1 := hS.2.1; have q2 := hS.2.2.1; have q3 := hS.2.2.2
                  go_simp
                  exact hK.out _ _ _ rfl rfl rfl (Below.refl _ _)
                simp only [List.setIfInBounds_toArray, List.set_cons_zero, List.set_cons_succ]
                refine obs_step (Eq.trans (by simp only [List.getElem?_toArray, List.getElem?_cons_succ, List.getElem?_cons_zero]; exact rfl) rfl) rfl (fun w' hS hV K hK => ?_) ?_
                · have e6 : x 6 = (.slice (some ⟨g7, o7, none⟩) j c7) := hV 6 (by decide)
                  have e7 : x 7 = (.int .i64 (k)) := hV 7 (by decide)
                  have q0 := hS.1; have q1 := hS.2.1; have q2 := hS.2.2.1; have q3 := hS.2.2.2
                  go_simp
                  exact hK.out _ _ _ rfl rfl rfl (Below.refl _ _)
                simp only [List.setIfInBounds_toArray, List.set_cons_zero, List.set_cons_succ]
                refine obs_step (Eq.trans (by simp only [List.getElem?_toArray, List.getElem?_cons_succ, List.getElem?_cons_zero]; exact rfl) rfl) rfl (fun w' hS hV K hK => ?_) ?_
                · have e6 : x 6 = (.slice (some ⟨g7, o7, none⟩) j c7) := hV 6 (by decide)
                  have e7 : x 7 = (.int .i64 (k)) := hV 7 (by decide)
                  have e8 : x 8 = (.pointer (some ⟨g7, o7 + k, none⟩)) := hV 8 (by decide)
                  have q0 := hS.1; have q1 := hS.2.1; have q2 := hS.2.2.1; have q3 := hS.2.2.2
                  go_simp
                  exact hK.out _ _ _ rfl rfl rfl (Below.refl _ _)
                simp only [List.setIfInBounds_toArray, List.set_cons_zero, List.set_cons_succ]
                refine obs_step (Eq.trans (by simp only [List.getElem?_toArray, List.getElem?_cons_succ, List.getElem?_cons_zero]; exact rfl) rfl) rfl (fun w' hS hV K hK => ?_) ?_
                · have q0 := hS.1; have q1 := hS.2.1; have q2 := hS.2.2.1; have q3 := hS.2.2.2
                  go_simp
                  exact hK.out _ _ _ rfl rfl rfl (Below.refl _ _)
                simp only [List.setIfInBounds_toArray, List.set_cons_zero, List.set_cons_succ]
                refine obs_step (Eq.trans (by simp only [List.getElem?_toArray, List.getElem?_cons_succ, List.getElem?_cons_zero]; exact rfl) rfl) rfl (fun w' hS hV K hK => ?_) ?_
                · have e6 : x 6 = (.slice (some ⟨g7, o7, none⟩) j c7) := hV 6 (by decide)
                  have e7 : x 7 = (.int .i64 (k)) := hV 7 (by decide)
                  have e8 : x 8 = (.pointer (some ⟨g7, o7 + k, none⟩)) := hV 8 (by decide)
                  have e9 : x 9 = (.slice (some ⟨gi, oi, none⟩) n ci) := hV 9 (by decide)
                  have e10 : x 10 = (.int .i64 (f)) := hV 10 (by decide)
                  have q0 := hS.1; have q1 := hS.2.1; have q2 := hS.2.2.1; have q3 := hS.2.2.2
                  go_simp
                  exact hK.out _ _ _ rfl rfl rfl (Below.refl _ _)
                simp only [List.setIfInBounds_toArray, List.set_cons_zero, List.set_cons_succ]
                refine obs_step (Eq.trans (by simp only [List.getElem?_toArray, List.getElem?_cons_succ, List.getElem?_cons_zero]; exact rfl) rfl) rfl (fun w' hS hV K hK => ?_) ?_
                · have e6 : x 6 = (.slice (some ⟨g7, o7, none⟩) j c7) := hV 6 (by decide)
                  have e7 : x 7 = (.int .i64 (k)) := hV 7 (by decide)
                  have e8 : x 8 = (.pointer (some ⟨g7, o7 + k, none⟩)) := hV 8 (by decide)
                  have e9 : x 9 = (.slice (some ⟨gi, oi, none⟩) n ci) := hV 9 (by decide)
                  have e10 : x 10 = (.int .i64 (f)) := hV 10 (by decide)
                  have e11 : x 11 = (.pointer (some ⟨gi, oi + f, none⟩)) := hV 11 (by decide)
                  have q0 := hS.1; have q1 := hS.2.1; have q2 := hS.2.2.1; have q3 := hS.2.2.2
                  go_simp
                  exact hK.out _ _ _ rfl rfl rfl (Below.refl _ _)
                simp only [List.setIfInBounds_toArray, List.set_cons_zero, List.set_cons_succ]
                refine obs_step (Eq.trans (by simp only [List.getElem?_toArray, List.getElem?_cons_succ, List.getElem?_cons_zero]; exact rfl) rfl) rfl (fun w' hS hV K hK => ?_) ?_
                · have e5 : x 5 = (.int .i64 (p)) := hV 5 (by decide)
                  have e6 : x 6 = (.slice (some ⟨g7, o7, none⟩) j c7) := hV 6 (by decide)
                  have e7 : x 7 = (.int .i64 (k)) := hV 7 (by decide)
                  have e8 : x 8 = (.pointer (some ⟨g7, o7 + k, none⟩)) := hV 8 (by decide)
                  have e9 : x 9 = (.slice (some ⟨gi, oi, none⟩) n ci) := hV 9 (by decide)
                  have e10 : x 10 = (.int .i64 (f)) := hV 10 (by decide)
                  have e11 : x 11 = (.pointer (some ⟨gi, oi + f, none⟩)) := hV 11 (by decide)
                  have e12 : x 12 = (.int .i64 (y)) := hV 12 (by decide)
                  have q0 := hS.1; have q1 := hS.2.1; have q2 := hS.2.2.1; have q3 := hS.2.2.2
                  go_simp
                  exact hK.out _ _ _ rfl rfl rfl (Below.refl _ _)
                simp only [List.setIfInBounds_toArray, List.set_cons_zero, List.set_cons_succ]
                refine obs_step (Eq.trans (by simp only [List.getElem?_toArray, List.getElem?_cons_succ, List.getElem?_cons_zero]; exact rfl) rfl) rfl (fun w' hS hV K hK => ?_) ?_
                · have q0 := hS.1; have q1 := hS.2.1; have q2 := hS.2.2.1; have q3 := hS.2.2.2
                  go_simp
                  exact hK.out _ _ _ rfl rfl rfl (Below.refl _ _)
                simp only [List.setIfInBounds_toArray, List.set_cons_zero, List.set_cons_succ]
                refine obs_step (Eq.trans (by simp only [List.getElem?_toArray, List.getElem?_cons_succ, List.getElem?_cons_zero]; exact rfl) rfl) rfl (fun w' hS hV K hK => ?_) ?_
                · have e5 : x 5 = (.int .i64 (p)) := hV 5 (by decide)
                  have e6 : x 6 = (.slice (some ⟨g7, o7, none⟩) j c7) := hV 6 (by decide)
                  have e7 : x 7 = (.int .i64 (k)) := hV 7 (by decide)
                  have e8 : x 8 = (.pointer (some ⟨g7, o7 + k, none⟩)) := hV 8 (by decide)
                  have e9 : x 9 = (.slice (some ⟨gi, oi, none⟩) n ci) := hV 9 (by decide)
                  have e10 : x 10 = (.int .i64 (f)) := hV 10 (by decide)
                  have e11 : x 11 = (.pointer (some ⟨gi, oi + f, none⟩)) := hV 11 (by decide)
                  have e12 : x 12 = (.int .i64 (y)) := hV 12 (by decide)
                  have e13 : x 13 = (.int .i64 (p - y)) := hV 13 (by decide)
                  have e14 : x 14 = (.int .i64 (p)) := hV 14 (by decide)
                  have q0 := hS.1; have q1 := hS.2.1; have q2 := hS.2.2.1; have q3 := hS.2.2.2
                  go_simp
                  exact hK.out _ _ _ rfl rfl rfl (Below.refl _ _)
                simp only [List.setIfInBounds_toArray, List.set_cons_zero, List.set_cons_succ]
                refine obs_step (Eq.trans (by simp only [List.getElem?_toArray, List.getElem?_cons_succ, List.getElem?_cons_zero]; exact rfl) rfl) rfl (fun w' hS hV K hK => ?_) ?_
                · have e0 : x 0 = (.slice (some ⟨wo.heap.size, 0, none⟩) n n) := hV 0 (by decide)
                  have e1 : x 1 = (.slice (some ⟨gp, op, none⟩) j c') := hV 1 (by decide)
                  have e2 : x 2 = (.int .i64 (k)) := hV 2 (by decide)
                  have e3 : x 3 = (.pointer (some ⟨gp, op + k, none⟩)) := hV 3 (by decide)
                  have e4 : x 4 = (.int .i64 (l)) := hV 4 (by decide)
                  have q0 := hS.1; have q1 := hS.2.1; have q2 := hS.2.2.1; have q3 := hS.2.2.2
                  go_simp
                  exact hK.out _ _ _ rfl rfl rfl (Below.refl _ _)
                simp only [List.setIfInBounds_toArray, List.set_cons_zero, List.set_cons_succ]
                refine fun w' hS hV => ?_
                have e0 : x 0 = (.slice (some ⟨wo.heap.size, 0, none⟩) n n) := hV 0 (by decide)
                have e1 : x 1 = (.slice (some ⟨gp, op, none⟩) j c') := hV 1 (by decide)
                have e2 : x 2 = (.int .i64 (k)) := hV 2 (by decide)
                have e3 : x 3 = (.pointer (some ⟨gp, op + k, none⟩)) := hV 3 (by decide)
                have e4 : x 4 = (.int .i64 (l)) := hV 4 (by decide)
                have e5 : x 5 = (.int .i64 (p)) := hV 5 (by decide)
                have e6 : x 6 = (.slice (some ⟨g7, o7, none⟩) j c7) := hV 6 (by decide)
                have e7 : x 7 = (.int .i64 (k)) := hV 7 (by decide)
                have e8 : x 8 = (.pointer (some ⟨g7, o7 + k, none⟩)) := hV 8 (by decide)
                have e9 : x 9 = (.slice (some ⟨gi, oi, none⟩) n ci) := hV 9 (by decide)
                have e10 : x 10 = (.int .i64 (f)) := hV 10 (by decide)
                have e11 : x 11 = (.pointer (some ⟨gi, oi + f, none⟩)) := hV 11 (by decide)
                have e12 : x 12 = (.int .i64 (y)) := hV 12 (by decide)
                have e13 : x 13 = (.int .i64 (p - y)) := hV 13 (by decide)
                have e14 : x 14 = (.int .i64 (p)) := hV 14 (by decide)
                have e15 : x 15 = (.int .i64 ((-y) % p)) := hV 15 (by decide)
                have e16 : x 16 = (.pointer (some ⟨wo.heap.size, l, none⟩)) := hV 16 (by decide)
                simp only [e0, e1, e2, e3, e4, e5, e6, e7, e8, e9, e10, e11, e12, e13, e14, e15, e16]
                clear e0 e1 e2 e3 e4 e5 e6 e7 e8 e9 e10 e11 e12 e13 e14 e15 e16
                obtain ⟨q0, q1, q2, q3⟩ := hS
                have hm5 := HMV.out.below q3
                obtain ⟨hoc, hof⟩ := mkI_at hm5 hld
                refine any_one (j := 17) (by kernel_rfl) (Eq.trans (by simp only [List.getElem?_toArray, List.getElem?_cons_succ, List.getElem?_cons_zero]; exact rfl) rfl) (fun K hK => ?_)
                go_simp
                refine hK.out _ _ (wpAny_done (by kernel_rfl) ?_ _)
                have hset := (hm5.set l (.int .i64 ((-y) % p))).1
                rw [ints_set, HST.out] at hset
                clear q0 q1 q2 q3 hm5 hoc hof
                go_wp2
                go_roundw
                case rel => exact ⟨k + 1, by omega, by go_num, hset⟩
                case measure => simp [intOf]; omega
              · obtain rfl : k = j := by omega
                have HFR : Hid (MkI wo wr (some ⟨wo.heap.size, 0, none⟩) n n (freeRow p B n f)) := Lib.hid (by
                  have e : freePart p B n f (leftFrom B k) = freeRow p B n f := freePart_congr p B n f (fun k' _ => by rw [HD.out]; exact leftFrom_end k')
                  rw [← e]; exact HMV.out)
                go_wp2_with (at_builtin; refine wpList_appRowG wb wo _ rfl _ _ rfl A2 q c2 _ _ n n _ HM.out HFR.out (by omega) rfl ?_ ?_; (go_simp); intro A6 c6 w6 hM6 hg6 _)
                have hpn := (HPO.out.below HFR.out.b).grown hg6 ((HPO.out.below HFR.out.b).ne (HM.out.outer.choose_spec.below HFR.out.b).2 (by decide))
                go_roundw
                case rel => exact ⟨f + 1, q + 1, A6, c6, by omega, by omega, by go_num, rfl, by rw [freeTo_take hlb]; exact hM6, hpn⟩
                case measure => simp [intOf]; omega
          · have hhas := l01Has_b A' j c' (tab j fun i => ((ld B i : Nat) : Int)) (f : Int) wo (by omega) (Own.rd HPO.out) ((HCON.out f).trans hlb)
            go_wp2_with (go_at_call 325; refine hhas.mono ?_; rintro e w' ⟨rfl, rfl⟩)
            go_roundw
            case rel => exact ⟨f + 1, q, A2, c2, by omega, by omega, by go_num, rfl, by rw [freeTo_skip hlb]; exact HM.out, HPO.out⟩
            case measure => simp [intOf]; omega
        · obtain rfl : f = n := by omega
          have hlast := l02Basis_any p A2 q c2 (freeTo p B f f) f wo HP'.out (by omega) hn HM.out.rd (freeTo_tab hp B f f)
          rw [← HKL.out] at hlast
          have hbw : Below w.heap.size w wo := HQ.out.trans (HM.out.b.mono HQ.out.size)
          go_wp2_with fail
          refine hlast.mono ?_
          rintro e w5 ⟨A5, c5, rfl, hM5⟩
          have hcopy := l01Own2_any p A5 _ c5 (kernL p M f) f w5 (by have := HKN.out; omega) hn hM5.rd HKT.out
          go_wp2_with fail
          refine hcopy.mono ?_
          rintro e w6 ⟨A6, c6, rfl, hM6⟩
          go_wp2
          go_ret
          exact ⟨_, _, rfl, (hM6.after hM5.b).after hbw⟩
end Go.Proofs.YtggigolkncckoaaGreat
namespace Go.Proofs.YtggigolkncckoaaGreat
open Go.RowKit
set_option maxHeartbeats 1600000 in
set_option maxRecDepth 8000 in
theorem transpose_any (p : Int) (A : Option Addr) (n c : Nat) (M : List (List Int)) (m : Nat) (w : World) (h0 : 0 < n) (hn : n ≤ 65536) (hm : m ≤ 65536) (ha : RdII w A n M) (hT : Tab p m M) :
    Calls Tryz.prog 212 #[.slice A n c] w fun e w' => ∃ A' c', e = .returned (.slice A' m c') ∧ MkII w w' A' m c' (transL M) := by
  have hML := ha.len
  have HTL : Hid (transL M = tab m fun k => tab n fun i => ent M i k) := Lib.hid (by unfold transL; rw [(hT.row (show 0 < M.length by omega)).1, hML])
  have HT := Lib.hid hT
  have HML := Lib.hid hML
  have hM0 : MkII w (w.alloc (.cells #[] 24)) (some ⟨w.heap.size, 0, none⟩) 0 0 [] := MkII.empty (Below.refl _ _)
  obtain ⟨g, o, rfl, hx0, A0, c0, hcx0, _, _⟩ := (ha.below hM0.b).at_ h0
  have hl0 : M[0].length = m := (HT.out M[0] (List.getElem_mem hx0)).1
  rw [hl0, Nat.add_zero] at hcx0
  clear hT hML hl0
  go_enter Tryz.func212, Tryz.ntmps212
  go_wp2
  clear hcx0
  obtain ⟨w1, hw1⟩ : ∃ W, W = w.alloc (.cells #[] 24) := ⟨_, rfl⟩
  rw [← hw1] at hM0 ⊢
  clear hw1
  go_loopw [3, 12] (fun out i wr => ∃ (k : Nat) (A' : Option Addr) (c' : Nat), k ≤ m ∧ i = .int .i64 k ∧ out = .slice A' k c' ∧ MkII w wr A' k c' (tab k fun k => tab n fun i => ent M i k)) (fun _ i _ => m - (intOf i).toNat)
  case atStart => exact ⟨0, _, _, by omega, rfl, rfl, by simpa [tab] using hM0⟩
  case round =>
    obtain ⟨k, A', c', hk, rfl, rfl, hM⟩ := hrel
    clear hM0
    obtain ⟨wo, rfl⟩ : ∃ W, W = wr := ⟨_, rfl⟩
    by_cases hlt : k < m
    · have hr0 := Mk.lit (E := 2) (Below.refl wo.heap.size wo) #[] (by simp)
      have hR0 : MkI wo (wo.alloc (.cells #[] 2)) (some ⟨wo.heap.size, 0, none⟩) 0 0 [] := by simpa [MkI, ints] using hr0
      have HM := Lib.hid hM
      clear hr0 hM
      go_wp2
      go_loopw [5, 18] (fun row i w2 => ∃ (j : Nat) (A2 : Option Addr) (c2 : Nat), j ≤ n ∧ i = .int .i64 j ∧ row = .slice A2 j c2 ∧ MkI wo w2 A2 j c2 (tab j fun i => ent M i k)) (fun _ i _ => n - (intOf i).toNat)
      case atStart => exact ⟨0, _, _, by omega, rfl, rfl, by simpa [tab] using hR0⟩
      case round =>
        obtain ⟨j, A2, c2, hj, rfl, rfl, hR⟩ := hrel
        clear hR0
        have HR := Lib.hid hR
        by_cases hlj : j < n
        · have hbb := HM.out.b.trans (hR.b.mono HM.out.b.size)
          obtain ⟨g', o', e', hxj, A3, c3, hcx, hr3, _⟩ := (ha.below hbb).at_ hlj
          injection e' with e'; injection e' with e1 e2 _
          subst e1; subst e2
          have hl3 : M[j].length = m := (HT.out M[j] (List.getElem_mem hxj)).1
          rw [hl3] at hcx hr3
          obtain ⟨g3, o3, rfl, hx3, hc3⟩ := hr3.int hlt
          have HV : Hid ((tab (j + 1) fun i => ent M i k) = (tab j fun i => ent M i k) ++ [M[j][k]]) := Lib.hid (by rw [tab_succ, ent_at hxj hx3])
          clear hR hr3 hl3 hbb ha
          go_wp2_with (at_builtin; refine wpList_app1 wo _ 24 2 _ _ Tryz.underlying24 info_i rfl (by omega) rfl _ _ rfl A2 j c2 _ _ HR.out (by omega) rfl rfl rfl ?_; intro A4 c4 w4 hM4 _ _)
          go_roundw
          case rel => exact ⟨j + 1, A4, c4, by omega, by go_num, rfl, by rw [HV.out]; simpa [MkI, ints] using hM4⟩
          case measure => simp [intOf]; omega
        · obtain rfl : j = n := by omega
          clear hR ha
          go_wp2_with (at_builtin; refine wpList_appRow w wo _ rfl _ _ rfl A' k c' _ A2 j c2 _ HM.out HR.out (by omega) rfl ?_ ?_; (go_simp); intro A4 c4 w4 hM4)
          go_roundw
          case rel => exact ⟨k + 1, A4, c4, by omega, by go_num, rfl, by rw [tab_succ]; exact hM4⟩
          case measure => simp [intOf]; omega
    · go_wp2
      go_ret
      obtain rfl : k = m := by omega
      exact ⟨_, _, rfl, by rw [HTL.out]; exact hM⟩
set_option maxHeartbeats 1600000 in
set_option maxRecDepth 8000 in
theorem l02Turn_any (p : Int) (A : Option Addr) (n c : Nat) (M : List (List Int)) (m : Nat) (w : World) (h0 : 0 < n) (hn : n ≤ 65536) (hm : m ≤ 65536) (ha : RdII w A n M) (hT : Tab p m M) :
    Calls Tryz.prog 218 #[.slice A n c] w fun e w' => ∃ A' c', e = .returned (.slice A' m c') ∧ MkII w w' A' m c' (transL M) := by
  have hML := ha.len
  have HTL : Hid (transL M = tab m fun k => tab n fun i => ent M i k) := Lib.hid (by unfold transL; rw [(hT.row (show 0 < M.length by omega)).1, hML])
  have HT := Lib.hid hT
  have HML := Lib.hid hML
  have hM0 : MkII w (w.alloc (.cells #[] 24)) (some ⟨w.heap.size, 0, none⟩) 0 0 [] := MkII.empty (Below.refl _ _)
  obtain ⟨g, o, rfl, _⟩ := ha.at_ h0
  clear hT hML
  go_enter Tryz.func218, Tryz.ntmps218
  go_wp2
  obtain ⟨w1, hw1⟩ : ∃ W, W = w.alloc (.cells #[] 24) := ⟨_, rfl⟩
  rw [← hw1] at hM0 ⊢
  clear hw1
  go_loopw [3, 4] (fun out i wr => ∃ (k : Nat) (A' : Option Addr) (c' : Nat), k ≤ m ∧ i = .int .i64 k ∧ out = .slice A' k c' ∧ MkII w wr A' k c' (tab k fun k => tab n fun i => ent M i k)) (fun _ i _ => m - (intOf i).toNat)
  case atStart => exact ⟨0, _, _, by omega, rfl, rfl, by simpa [tab] using hM0⟩
  case round =>
    obtain ⟨k, A', c', hk, rfl, rfl, hM⟩ := hrel
    clear hM0
    obtain ⟨wo, rfl⟩ : ∃ W, W = wr := ⟨_, rfl⟩
    obtain ⟨A0, c0, hcx0⟩ := (ha.below hM.b).row0 h0 HT.out
    by_cases hlt : k < m
    · have hr0 := Mk.lit (E := 2) (Below.refl wo.heap.size wo) #[] (by simp)
      have hR0 : MkI wo (wo.alloc (.cells #[] 2)) (some ⟨wo.heap.size, 0, none⟩) 0 0 [] := by simpa [MkI, ints] using hr0
      have HM := Lib.hid hM
      clear hr0 hM
      go_wp2
      go_loopw [5, 6] (fun row i w2 => ∃ (j : Nat) (A2 : Option Addr) (c2 : Nat), j ≤ n ∧ i = .int .i64 j ∧ row = .slice A2 j c2 ∧ MkI wo w2 A2 j c2 (tab j fun i => ent M i k)) (fun _ i _ => n - (intOf i).toNat)
      case atStart => exact ⟨0, _, _, by omega, rfl, rfl, by simpa [tab] using hR0⟩
      case round =>
        obtain ⟨j, A2, c2, hj, rfl, rfl, hR⟩ := hrel
        clear hR0 hcx0
        have HR := Lib.hid hR
        by_cases hlj : j < n
        · have hbb := HM.out.b.trans (hR.b.mono HM.out.b.size)
          obtain ⟨g', o', e', hxj, A3, c3, hcx, hr3, _⟩ := (ha.below hbb).at_ hlj
          injection e' with e'; injection e' with e1 e2 _
          subst e1; subst e2
          have hl3 : M[j].length = m := (HT.out M[j] (List.getElem_mem hxj)).1
          rw [hl3] at hcx hr3
          obtain ⟨g3, o3, rfl, hx3, hc3⟩ := hr3.int hlt
          have HV : Hid ((tab (j + 1) fun i => ent M i k) = (tab j fun i => ent M i k) ++ [M[j][k]]) := Lib.hid (by rw [tab_succ, ent_at hxj hx3])
          clear hR hr3 hl3 hbb ha
          go_wp2_with (at_builtin; refine wpList_app1 wo _ 24 2 _ _ Tryz.underlying24 info_i rfl (by omega) rfl _ _ rfl A2 j c2 _ _ HR.out (by omega) rfl rfl rfl ?_; intro A4 c4 w4 hM4 _ _)
          go_roundw
          case rel => exact ⟨j + 1, A4, c4, by omega, by go_num, rfl, by rw [HV.out]; simpa [MkI, ints] using hM4⟩
          case measure => simp [intOf]; omega
        · obtain rfl : j = n := by omega
          clear hR ha
          go_wp2_with (at_builtin; refine wpList_appRow w wo _ rfl _ _ rfl A' k c' _ A2 j c2 _ HM.out HR.out (by omega) rfl ?_ ?_; (go_simp); intro A4 c4 w4 hM4)
          go_roundw
          case rel => exact ⟨k + 1, A4, c4, by omega, by go_num, rfl, by rw [tab_succ]; exact hM4⟩
          case measure => simp [intOf]; omega
    · go_wp2
      go_ret
      obtain rfl : k = m := by omega
      exact ⟨_, _, rfl, by rw [HTL.out]; exact hM⟩
end Go.Proofs.YtggigolkncckoaaGreat
namespace Go.Proofs.YtggigolkncckoaaGreat
theorem cg_add {p a b c d : Int} (h : a % p = b % p) (h' : c % p = d % p) : (a + c) % p = (b + d) % p := by rw [Int.add_emod, h, h', ← Int.add_emod]
theorem cg_mul {p a b c d : Int} (h : a % p = b % p) (h' : c % p = d % p) : a * c % p = b * d % p := by rw [Int.mul_emod, h, h', ← Int.mul_emod]
theorem cg_self (p a : Int) : a % p % p = a % p := Int.emod_emod_of_dvd _ (Int.dvd_refl p)
theorem sumTo_two {n : Nat} {f : Nat → Int} (a b : Nat) (ha : a < n) (hb : b < n) (hab : a ≠ b) (h : ∀ i, i < n → i ≠ a → i ≠ b → f i = 0) : sumTo n f = f a + f b := by
  have e : sumTo n f = sumTo n (fun i => (if i = a then f i else 0) + (if i = a then 0 else f i)) := sumTo_congr fun i _ => by split <;> omega
  rw [e, sumTo_add, sumTo_one (f := fun i => if i = a then f i else 0) a ha (fun i _ hi => if_neg hi), sumTo_one (f := fun i => if i = a then 0 else f i) b hb (fun i hi hib => by
    by_cases hia : i = a
    · exact if_pos hia
    · simp only [if_neg hia]; exact h i hi hia hib)]
  rw [if_pos rfl, if_neg (Ne.symm hab)]
theorem getD_app_left {α : Type} (d : α) {xs : List α} (ys : List α) {i : Nat} (h : i < xs.length) : (xs ++ ys).getD i d = xs.getD i d := by
  rw [getD_of_lt d h, getD_of_lt d (by rw [List.length_append]; omega), List.getElem_append_left h]
theorem getD_app_right {α : Type} (d : α) (xs ys : List α) (i : Nat) : (xs ++ ys).getD (xs.length + i) d = ys.getD i d := by
  by_cases h : i < ys.length
  · rw [getD_of_lt d h, getD_of_lt d (by rw [List.length_append]; omega), List.getElem_append_right (by omega)]
    congr 1; omega
  · rw [getD_of_ge d (show ys.length ≤ i by omega), getD_of_ge d (show (xs ++ ys).length ≤ xs.length + i by rw [List.length_append]; omega)]
/-- A sum of multiples of the rows. -/
def Sp (p : Int) (n : Nat) (m : List (List Int)) (v : Nat → Int) : Prop := ∃ c : Nat → Int, ∀ q, q < n → v q % p = (sumTo m.length fun i => c i * ent m i q) % p
theorem Sp.congr {p : Int} {n : Nat} {m : List (List Int)} {v u : Nat → Int} (h : Sp p n m v) (e : ∀ q, q < n → v q % p = u q % p) : Sp p n m u := by
  obtain ⟨c, hc⟩ := h
  exact ⟨c, fun q hq => (e q hq).symm.trans (hc q hq)⟩
theorem Sp.zero (p : Int) (n : Nat) (m : List (List Int)) : Sp p n m fun _ => 0 := ⟨fun _ => 0, fun q _ => by rw [sumTo_zero fun i _ => Int.zero_mul _]⟩
theorem Sp.add {p : Int} {n : Nat} {m : List (List Int)} {v u : Nat → Int} (h : Sp p n m v) (h' : Sp p n m u) : Sp p n m fun q => v q + u q := by
  obtain ⟨c, hc⟩ := h
  obtain ⟨d, hd⟩ := h'
  refine ⟨fun i => c i + d i, fun q hq => ?_⟩
  rw [sumTo_congr (g := fun i => c i * ent m i q + d i * ent m i q) fun i _ => Int.add_mul _ _ _, sumTo_add]
  exact cg_add (hc q hq) (hd q hq)
theorem Sp.mul {p : Int} {n : Nat} {m : List (List Int)} {v : Nat → Int} (h : Sp p n m v) (k : Int) : Sp p n m fun q => k * v q := by
  obtain ⟨c, hc⟩ := h
  refine ⟨fun i => k * c i, fun q hq => ?_⟩
  rw [sumTo_congr (g := fun i => k * (c i * ent m i q)) fun i _ => Int.mul_assoc _ _ _, sumTo_mul]
  exact cg_mul rfl (hc q hq)
theorem Sp.row {p : Int} {n : Nat} {m : List (List Int)} {i : Nat} (hi : i < m.length) : Sp p n m fun q => ent m i q := by
  refine ⟨fun j => if j = i then 1 else 0, fun q _ => ?_⟩
  rw [sumTo_one (f := fun j => (if j = i then 1 else 0) * ent m j q) i hi (fun j _ hj => by simp only [if_neg hj, Int.zero_mul])]
  simp
theorem Sp.mem {p : Int} {n : Nat} {m : List (List Int)} {x : List Int} (hx : x ∈ m) : Sp p n m fun q => x.getD q 0 := by
  obtain ⟨i, hi, rfl⟩ := List.getElem_of_mem hx
  refine (Sp.row hi).congr fun q _ => ?_
  unfold ent; rw [getD_of_lt [] hi]
theorem Sp.sum {p : Int} {n : Nat} {m : List (List Int)} (k : Nat) {f : Nat → Nat → Int} (h : ∀ i, i < k → Sp p n m (f i)) : Sp p n m fun q => sumTo k fun i => f i q := by
  induction k with
  | zero => exact Sp.zero p n m
  | succ k ih => exact (ih fun i hi => h i (by omega)).add (h k (by omega))
theorem Sp.nil {p : Int} {n : Nat} {v : Nat → Int} (h : Sp p n [] v) : ∀ q, q < n → v q % p = 0 := fun q hq => by
  obtain ⟨c, hc⟩ := h
  rw [hc q hq]; simp [sumTo]
/-- All rows of the first are made of those of the second. -/
def InSp (p : Int) (n : Nat) (m m' : List (List Int)) : Prop := ∀ i, i < m.length → Sp p n m' fun q => ent m i q
theorem InSp.sp {p : Int} {n : Nat} {m m' : List (List Int)} (h : InSp p n m m') {v : Nat → Int} (hv : Sp p n m v) : Sp p n m' v := by
  obtain ⟨c, hc⟩ := hv
  exact (Sp.sum m.length fun i hi => (h i hi).mul (c i)).congr fun q hq => (hc q hq).symm
theorem InSp.refl (p : Int) (n : Nat) (m : List (List Int)) : InSp p n m m := fun _ hi => Sp.row hi
theorem InSp.trans {p : Int} {n : Nat} {m m' m2 : List (List Int)} (h : InSp p n m m') (h' : InSp p n m' m2) : InSp p n m m2 := fun i hi => h'.sp (h i hi)
theorem InSp.of_mem {p : Int} {n : Nat} {m m' : List (List Int)} (h : ∀ x ∈ m, Sp p n m' fun q => x.getD q 0) : InSp p n m m' := fun i hi =>
  (h _ (List.getElem_mem hi)).congr fun q _ => by unfold ent; rw [getD_of_lt [] hi]
theorem InSp.of_sub {p : Int} {n : Nat} {m m' : List (List Int)} (h : ∀ x ∈ m, x ∈ m') : InSp p n m m' := InSp.of_mem fun x hx => Sp.mem (h x hx)
theorem InSp.append {p : Int} {n : Nat} {m1 m2 m' : List (List Int)} (h1 : InSp p n m1 m') (h2 : InSp p n m2 m') : InSp p n (m1 ++ m2) m' := InSp.of_mem fun x hx => by
  rcases List.mem_append.1 hx with h | h
  · exact h1.sp (Sp.mem h)
  · exact h2.sp (Sp.mem h)
theorem Sp.append {p : Int} {n : Nat} {m m' : List (List Int)} {v : Nat → Int} (h : Sp p n (m ++ m') v) : ∃ u u', Sp p n m u ∧ Sp p n m' u' ∧ ∀ q, q < n → v q % p = (u q + u' q) % p := by
  obtain ⟨c, hc⟩ := h
  refine ⟨fun q => sumTo m.length fun i => c i * ent m i q, fun q => sumTo m'.length fun i => c (m.length + i) * ent m' i q, ⟨c, fun _ _ => rfl⟩, ⟨fun i => c (m.length + i), fun _ _ => rfl⟩, fun q hq => ?_⟩
  rw [hc q hq, List.length_append]
  congr 1
  have e1 : ∀ i, i < m.length → ent (m ++ m') i q = ent m i q := fun i hi => by unfold ent; rw [getD_app_left [] _ hi]
  have e2 : ∀ k, sumTo (m.length + k) (fun i => c i * ent (m ++ m') i q) = sumTo m.length (fun i => c i * ent m i q) + sumTo k (fun i => c (m.length + i) * ent m' i q) := by
    intro k
    induction k with
    | zero => exact (sumTo_congr fun i hi => by rw [e1 i hi]).trans (by simp [sumTo])
    | succ k ih =>
      rw [← Nat.add_assoc, sumTo_succ, ih, sumTo_succ]
      have : ent (m ++ m') (m.length + k) q = ent m' k q := by unfold ent; rw [getD_app_right]
      rw [this]; omega
  exact e2 _
/-- Two numbers that have the same remainder and are remainders. -/
theorem cg_eq {p a b : Int} (ha : 0 ≤ a ∧ a < p) (hb : 0 ≤ b ∧ b < p) (h : a % p = b % p) : a = b := by
  rwa [Int.emod_eq_of_lt ha.1 ha.2, Int.emod_eq_of_lt hb.1 hb.2] at h
theorem scaledAt_in {p : Int} (hP : isP p = true) {n : Nat} {m : List (List Int)} (hT : Tab p n m) {k d : Nat} (hd : d < m.length) (hv : pivOf m k d < m.length) :
    InSp p n (scaledAt p m k d) m ∧ InSp p n m (scaledAt p m k d) := by
  have hp : 2 ≤ p := by have := isP_ge hP; omega
  have hlen := scaledAt_len p m k d
  have hE := fun r q hq => ent_scaled (p := p) (k := k) rfl hd hv hT r q hq
  obtain ⟨hb1, hb2⟩ := pivOf_bound m k d (by omega)
  have hx : ent m (pivOf m k d) k ≠ 0 := piv_at m k _ _ (by unfold pivOf at hv; omega)
  obtain ⟨x1, x2⟩ := hT.ent (by omega) (pivOf m k d) k
  obtain ⟨i1, i2, i3⟩ := inv_spec hP (show 0 < ent m (pivOf m k d) k by omega) x2
  have hinv : ent m (pivOf m k d) k * invF p (ent m (pivOf m k d) k) % p = 1 := (i3 _ (by omega) i2).2 rfl
  obtain ⟨v, hv'⟩ : ∃ v, v = pivOf m k d := ⟨_, rfl⟩
  rw [← hv'] at hE hx x1 x2 hinv hv hb1 hb2
  obtain ⟨y, hy⟩ : ∃ y, y = invF p (ent m v k) := ⟨_, rfl⟩
  rw [← hy] at hE hinv
  constructor
  · intro r hr
    rw [hlen] at hr
    by_cases h1 : r = d
    · refine ((Sp.row hv).mul y).congr fun q hq => ?_
      rw [hE r q hq, if_pos h1, cg_self, Int.mul_comm]
    · by_cases h2 : r = v
      · refine (Sp.row hd).congr fun q hq => ?_
        rw [hE r q hq, if_neg h1, if_pos h2]
      · refine (Sp.row hr).congr fun q hq => ?_
        rw [hE r q hq, if_neg h1, if_neg h2]
  · intro r hr
    by_cases h2 : r = v
    · refine ((Sp.row (show d < (scaledAt p m k d).length by omega)).mul (ent m v k)).congr fun q hq => ?_
      rw [hE d q hq, if_pos rfl, h2]
      have e1 : ent m v k * (ent m v q * y % p) % p = ent m v k * (ent m v q * y) % p := cg_mul rfl (cg_self _ _)
      have e2 : ent m v k * (ent m v q * y) = ent m v q * (ent m v k * y) := by rw [Int.mul_comm (ent m v q) y, ← Int.mul_assoc, Int.mul_comm]
      rw [e1, e2]
      have e3 : ent m v q * (ent m v k * y) % p = ent m v q * 1 % p := cg_mul rfl (by rw [hinv, Int.emod_eq_of_lt (by omega) (by omega)])
      rw [e3, Int.mul_one]
    · by_cases h1 : r = d
      · refine (Sp.row (show v < (scaledAt p m k d).length by omega)).congr fun q hq => ?_
        rw [hE v q hq, if_neg (fun e => h2 (h1.trans e.symm)), if_pos rfl, h1]
      · refine (Sp.row (show r < (scaledAt p m k d).length by omega)).congr fun q hq => ?_
        rw [hE r q hq, if_neg h1, if_neg h2]
theorem clearTo_in {p : Int} {n : Nat} {m : List (List Int)} (hT : Tab p n m) {k d : Nat} (hd : d < m.length) :
    InSp p n (clearTo p m d k m.length) m ∧ InSp p n m (clearTo p m d k m.length) := by
  have hlen := clearTo_len p m d k m.length
  have hE := fun r q hr hq => ent_cleared (p := p) hT d k r q hr hq
  constructor
  · intro r hr
    rw [hlen] at hr
    by_cases h1 : r = d
    · refine (Sp.row hd).congr fun q hq => ?_
      rw [hE r q hr hq, if_pos h1]
    · refine ((Sp.row hr).add ((Sp.row hd).mul (-(ent m r k)))).congr fun q hq => ?_
      rw [hE r q hr hq, if_neg h1, cg_self]
  · intro r hr
    by_cases h1 : r = d
    · refine (Sp.row (show d < (clearTo p m d k m.length).length by omega)).congr fun q hq => ?_
      rw [hE d q hd hq, if_pos rfl, h1]
    · refine ((Sp.row (show r < (clearTo p m d k m.length).length by omega)).add ((Sp.row (show d < (clearTo p m d k m.length).length by omega)).mul (ent m r k))).congr fun q hq => ?_
      rw [hE r q hr hq, if_neg h1, hE d q hd hq, if_pos rfl]
      refine (cg_add (cg_self _ _) rfl).trans ?_
      congr 1
      rw [Int.neg_mul]; omega
theorem stepB_in {p : Int} (hP : isP p = true) {n : Nat} {s : List (List Int) × Nat} {k : Nat} (hT : Tab p n s.1) (hd : s.2 ≤ s.1.length) : InSp p n (stepB p k s).1 s.1 ∧ InSp p n s.1 (stepB p k s).1 := by
  unfold stepB
  split
  · exact ⟨InSp.refl _ _ _, InSp.refl _ _ _⟩
  · rename_i hne
    have hb := pivOf_bound s.1 k s.2 hd
    have hp : 2 ≤ p := by have := isP_ge hP; omega
    obtain ⟨a1, a2⟩ := scaledAt_in (k := k) hP hT (show s.2 < s.1.length by omega) (by omega)
    obtain ⟨b1, b2⟩ := clearTo_in (k := k) (d := s.2) (scaledAt_tab (p := p) (k := k) (by omega) hT (show s.2 < s.1.length by omega) (by omega)) (by rw [scaledAt_len]; omega)
    rw [scaledAt_len] at b1 b2
    exact ⟨b1.trans a1, a2.trans b2⟩
theorem basisTo_in {p : Int} (hP : isP p = true) {n : Nat} (m : List (List Int)) (hT : Tab p n m) (k : Nat) (hk : k ≤ n) : InSp p n (basisTo p m k).1 m ∧ InSp p n m (basisTo p m k).1 := by
  have hp : 2 ≤ p := by have := isP_ge hP; omega
  induction k with
  | zero => exact ⟨InSp.refl _ _ _, InSp.refl _ _ _⟩
  | succ k ih =>
    obtain ⟨h1, h2⟩ := ih (by omega)
    obtain ⟨t1, t2, t3⟩ := basisTo_inv (p := p) (by omega) m hT k
    obtain ⟨g1, g2⟩ := stepB_in (k := k) hP (s := basisTo p m k) t1 (by omega)
    exact ⟨g1.trans h1, h2.trans g2⟩
/-- The reduced basis makes what the rows make. -/
theorem basisL_in {p : Int} (hP : isP p = true) {n : Nat} (m : List (List Int)) (hT : Tab p n m) : InSp p n (basisL p m) m ∧ InSp p n m (basisL p m) := by
  have hp : 2 ≤ p := by have := isP_ge hP; omega
  by_cases h0 : 0 < m.length
  · have hl := row0_len hT h0
    obtain ⟨a1, a2⟩ := basisTo_in hP m hT n (Nat.le_refl _)
    obtain ⟨c, hc⟩ := basisTo_ech hP m hT n (Nat.le_refl _)
    obtain ⟨h1, h2, h3⟩ := basisTo_inv (p := p) (by omega) m hT n
    have e : basisL p m = (basisTo p m n).1.take (basisTo p m n).2 := by unfold basisL; rw [hl]
    constructor
    · refine InSp.trans (InSp.of_sub fun x hx => ?_) a1
      rw [e] at hx
      exact List.mem_of_mem_take hx
    · refine a2.trans fun i hi => ?_
      by_cases hid : i < (basisTo p m n).2
      · refine (Sp.mem (x := (basisTo p m n).1[i]) ?_).congr fun q _ => by unfold ent; rw [getD_of_lt [] hi]
        rw [e]
        exact List.mem_take_iff_getElem.2 ⟨i, by omega, rfl⟩
      · exact (Sp.zero _ _ _).congr fun q hq => by rw [hc.rest i (by omega) hi q hq]
  · obtain rfl : m = [] := List.eq_nil_of_length_eq_zero (by omega)
    rw [basisL_nil]
    exact ⟨InSp.refl _ _ _, InSp.refl _ _ _⟩
/-- What a reduced basis makes is told by its numbers at the places of the firsts. -/
theorem Red.coef {p : Int} {n : Nat} {B : List (List Int)} (hR : Red n B) {v : Nat → Int} (hv : Sp p n B v) : ∀ q, q < n → v q % p = (sumTo B.length fun i => v (ld B i) * ent B i q) % p := by
  obtain ⟨c, hc⟩ := hv
  intro q hq
  rw [hc q hq]
  refine sumTo_mod p fun i hi => cg_mul ?_ rfl
  rw [hc _ (hR.lt i hi), sumTo_one (f := fun j => c j * ent B j (ld B i)) i hi (fun j hj hji => by rw [hR.zero i j hi hj hji, Int.mul_zero]), hR.one i hi, Int.mul_one]
theorem Red.lead_of {p : Int} {n : Nat} {B : List (List Int)} (hR : Red n B) {v : Nat → Int} (hv : Sp p n B v) {q0 : Nat} (hq : q0 < n) (h0 : v q0 % p ≠ 0) (hb : ∀ q, q < q0 → v q % p = 0) : ∃ i, i < B.length ∧ ld B i = q0 := by
  refine Classical.byContradiction fun hno => h0 ?_
  rw [hR.coef hv q0 hq]
  refine (sumTo_mod p (g := fun _ => 0) fun i hi => ?_).trans (by rw [sumTo_zero fun _ _ => rfl]; rfl)
  rcases Nat.lt_trichotomy (ld B i) q0 with h | h | h
  · rw [Int.mul_emod, hb _ h]; simp
  · exact absurd ⟨i, hi, h⟩ hno
  · rw [hR.before i q0 h, Int.mul_zero]
theorem Red.leads_le {p : Int} (hp : 2 ≤ p) {n : Nat} {B C : List (List Int)} (hB : Red n B) (hC : Red n C) (h1 : InSp p n B C) (h2 : InSp p n C B) : ∀ i, i < B.length → i < C.length ∧ ld C i = ld B i := by
  have one : ∀ (B C : List (List Int)), Red n B → Red n C → InSp p n B C → ∀ i, i < B.length → ∃ j, j < C.length ∧ ld C j = ld B i := fun B C hB hC h i hi =>
    hC.lead_of (h i hi) (hB.lt i hi) (by rw [hB.one i hi, Int.emod_eq_of_lt (by omega) (by omega)]; omega) (fun q hq => by rw [hB.before i q hq]; simp)
  intro i
  induction i using Nat.strongRecOn with
  | _ i ih =>
    intro hi
    obtain ⟨j, hj, e⟩ := one B C hB hC h1 i hi
    have hij : i ≤ j := by
      refine Nat.le_of_not_lt fun hlt => ?_
      have := (ih j hlt (by omega)).2
      have := hB.inj (i := j) (j := i) (by omega) hi (by omega)
      omega
    have hic : i < C.length := by omega
    refine ⟨hic, ?_⟩
    rcases Nat.lt_or_ge i j with hlt | hge
    · obtain ⟨k, hk, e2⟩ := one C B hC hB h2 i hic
      have m1 := hC.mono i j hlt hj
      rcases Nat.lt_trichotomy k i with h | h | h
      · have := (ih k h (by omega)).2
        have := hC.inj (i := k) (j := i) (by omega) hic (by omega)
        omega
      · subst h; omega
      · have := hB.mono i k h hk; omega
    · obtain rfl : i = j := by omega
      exact e
/-- There is only one reduced basis. -/
theorem Red.unique {p : Int} (hp : 2 ≤ p) {n : Nat} {B C : List (List Int)} (hB : Red n B) (hC : Red n C) (TB : Tab p n B) (TC : Tab p n C) (h1 : InSp p n B C) (h2 : InSp p n C B) : B = C := by
  have a := hB.leads_le hp hC h1 h2
  have b := hC.leads_le hp hB h2 h1
  have hl : B.length = C.length := by
    rcases Nat.lt_trichotomy B.length C.length with h | h | h
    · have := (b B.length h).1; omega
    · exact h
    · have := (a C.length h).1; omega
  refine list_ext_getD [] hl fun i hi => ?_
  have hic : i < C.length := by omega
  obtain ⟨r1, r2⟩ := TB.row hi
  obtain ⟨s1, s2⟩ := TC.row hic
  refine list_ext_getD 0 (by omega) fun q hq => ?_
  rw [r1] at hq
  refine cg_eq (p := p) (TB.ent (by omega) i q) (TC.ent (by omega) i q) ?_
  show ent B i q % p = ent C i q % p
  rw [hC.coef (h1 i hi) q hq]
  congr 1
  rw [sumTo_one (f := fun j => ent B i (ld C j) * ent C j q) i hic (fun j hj hji => by
    rw [← (b j hj).2, hB.zero j i (by omega) hi (Ne.symm hji), Int.zero_mul]), (a i hi).2, hB.one i hi, Int.one_mul]
theorem basisL_same {p : Int} (hP : isP p = true) {n : Nat} {m m' : List (List Int)} (hT : Tab p n m) (hT' : Tab p n m') (h : InSp p n m m') (h' : InSp p n m' m) : basisL p m = basisL p m' := by
  have hp : 2 ≤ p := by have := isP_ge hP; omega
  obtain ⟨a1, a2⟩ := basisL_in hP m hT
  obtain ⟨b1, b2⟩ := basisL_in hP m' hT'
  exact (basisL_red hP m hT).unique hp (basisL_red hP m' hT') (basisL_tab (by omega) m hT) (basisL_tab (by omega) m' hT') ((a1.trans h).trans b2) ((b1.trans h').trans a2)
/-- Orthogonal to all rows. -/
def Orth (p : Int) (n : Nat) (m : List (List Int)) (v : Nat → Int) : Prop := ∀ i, i < m.length → (sumTo n fun q => ent m i q * v q) % p = 0
theorem Orth.sp {p : Int} {n : Nat} {m : List (List Int)} {v : Nat → Int} (h : Orth p n m v) {u : Nat → Int} (hu : Sp p n m u) : (sumTo n fun q => u q * v q) % p = 0 := by
  obtain ⟨c, hc⟩ := hu
  have e1 : (sumTo n fun q => u q * v q) % p = (sumTo n fun q => sumTo m.length fun i => c i * (ent m i q * v q)) % p := by
    refine sumTo_mod p fun q hq => ?_
    rw [sumTo_congr (f := fun i => c i * (ent m i q * v q)) (g := fun i => v q * (c i * ent m i q)) (fun i _ => by rw [Int.mul_comm (v q), Int.mul_assoc]), sumTo_mul, Int.mul_comm (v q)]
    exact cg_mul (hc q hq) rfl
  rw [e1, sumTo_comm]
  refine (sumTo_mod p (g := fun _ => 0) fun i hi => ?_).trans (by rw [sumTo_zero fun _ _ => rfl]; rfl)
  rw [sumTo_mul, Int.mul_emod, h i hi]; simp
theorem Orth.of_in {p : Int} {n : Nat} {m m' : List (List Int)} {v : Nat → Int} (h : Orth p n m v) (hi : InSp p n m' m) : Orth p n m' v := fun i hl => h.sp (hi i hl)
theorem Orth.congr {p : Int} {n : Nat} {m : List (List Int)} {v u : Nat → Int} (h : Orth p n m v) (e : ∀ q, q < n → v q % p = u q % p) : Orth p n m u := fun i hi => by
  rw [← h i hi]; exact (sumTo_mod p fun q hq => cg_mul rfl (e q hq)).symm
theorem Orth.append {p : Int} {n : Nat} {m m' : List (List Int)} {v : Nat → Int} : Orth p n (m ++ m') v ↔ Orth p n m v ∧ Orth p n m' v := by
  have hall : ∀ M : List (List Int), Orth p n M v ↔ ∀ x ∈ M, (sumTo n fun q => x.getD q 0 * v q) % p = 0 := fun M => by
    constructor
    · intro h x hx
      obtain ⟨i, hi, rfl⟩ := List.getElem_of_mem hx
      have := h i hi
      unfold ent at this; rwa [getD_of_lt [] hi] at this
    · intro h i hi
      have := h _ (List.getElem_mem hi)
      unfold ent; rwa [getD_of_lt [] hi]
  rw [hall, hall, hall]
  constructor
  · exact fun h => ⟨fun x hx => h x (by simp [hx]), fun x hx => h x (by simp [hx])⟩
  · rintro ⟨h1, h2⟩ x hx
    rcases List.mem_append.1 hx with h | h
    · exact h1 x h
    · exact h2 x h
theorem freeRow_at {p : Int} {B : List (List Int)} {n f k : Nat} (hk : k < n) : (freeRow p B n f).getD k 0 = if k = f then 1 else match ldIdx B k with | some i => (-(ent B i f)) % p | none => 0 := by
  unfold freeRow freePart
  rw [tab_getD hk]; simp
  rfl
theorem freeRow_ld {p : Int} {B : List (List Int)} {n f i : Nat} (hR : Red n B) (hi : i < B.length) (hf : isLd B f = false) : (freeRow p B n f).getD (ld B i) 0 = (-(ent B i f)) % p := by
  rw [freeRow_at (hR.lt i hi), if_neg (fun e => by rw [isLd_iff.2 ⟨i, hi, e⟩] at hf; cases hf), ldIdx_some hR hi]
theorem freeRow_own {p : Int} {B : List (List Int)} {n f : Nat} (hf : f < n) : (freeRow p B n f).getD f 0 = 1 := by rw [freeRow_at hf, if_pos rfl]
theorem freeRow_no {p : Int} {B : List (List Int)} {n f k : Nat} (hk : k < n) (hkf : k ≠ f) (hl : isLd B k = false) : (freeRow p B n f).getD k 0 = 0 := by rw [freeRow_at hk, if_neg hkf, ldIdx_none hl]
theorem freeRow_orth {p : Int} {B : List (List Int)} {n f : Nat} (hR : Red n B) (hf : f < n) (hl : isLd B f = false) : Orth p n B fun q => (freeRow p B n f).getD q 0 := fun i hi => by
  have hne : ld B i ≠ f := fun e => by rw [isLd_iff.2 ⟨i, hi, e⟩] at hl; cases hl
  rw [sumTo_two (f := fun q => ent B i q * (freeRow p B n f).getD q 0) (ld B i) f (hR.lt i hi) hf hne (fun q hq h1 h2 => by
    cases hq' : isLd B q with
    | false => simp only [freeRow_no hq h2 hq', Int.mul_zero]
    | true =>
      obtain ⟨j, hj, rfl⟩ := isLd_iff.1 hq'
      simp only [hR.zero j i hj hi (fun e => h1 (by rw [e])), Int.zero_mul]), freeRow_ld hR hi hl, freeRow_own hf, hR.one i hi, Int.one_mul, Int.mul_one]
  refine (cg_add (cg_self _ _) rfl).trans ?_
  rw [Int.add_comm, ← Int.sub_eq_add_neg, Int.sub_self]; rfl
theorem freeTo_mem {p : Int} {B : List (List Int)} {n k : Nat} {x : List Int} : x ∈ freeTo p B n k ↔ ∃ f, f < k ∧ isLd B f = false ∧ x = freeRow p B n f := by
  unfold freeTo
  rw [List.mem_map]
  constructor
  · rintro ⟨f, hf, rfl⟩
    rw [List.mem_filter] at hf
    exact ⟨f, by simpa using hf.1, by simpa using hf.2, rfl⟩
  · rintro ⟨f, h1, h2, rfl⟩
    exact ⟨f, List.mem_filter.2 ⟨by simpa using h1, by simp [h2]⟩, rfl⟩
/-- What the free rows make is what is orthogonal to the reduced basis. -/
theorem freeTo_sp {p : Int} {B : List (List Int)} {n : Nat} (hR : Red n B) {v : Nat → Int} : Sp p n (freeTo p B n n) v ↔ Orth p n B v := by
  constructor
  · rintro ⟨c, hc⟩ i hi
    have h2 : Orth p n (freeTo p B n n) fun q => ent B i q := fun r hr => by
      have hx := List.getElem_mem hr
      obtain ⟨f, hf, hl, e⟩ := freeTo_mem.1 hx
      have := freeRow_orth (p := p) hR hf hl i hi
      rw [sumTo_congr (g := fun q => ent B i q * (freeRow p B n f).getD q 0) fun q _ => by unfold ent; rw [getD_of_lt [] hr, e, Int.mul_comm]]
      exact this
    have := h2.sp ⟨c, hc⟩
    rw [sumTo_congr (g := fun q => v q * ent B i q) fun q _ => Int.mul_comm _ _]
    exact this
  · intro h
    have hmem : Sp p n (freeTo p B n n) fun q => sumTo n fun f => if isLd B f then 0 else v f * (freeRow p B n f).getD q 0 := Sp.sum n fun f hf => by
      cases hl : isLd B f with
      | true => simp only [if_true]; exact Sp.zero _ _ _
      | false => simp only [Bool.false_eq_true, if_false]; exact (Sp.mem (freeTo_mem.2 ⟨f, hf, hl, rfl⟩)).mul (v f)
    refine hmem.congr fun q hq => ?_
    cases hl : isLd B q with
    | false =>
      rw [sumTo_one (f := fun f => if isLd B f then 0 else v f * (freeRow p B n f).getD q 0) q hq (fun f hf hfq => by
        cases hlf : isLd B f with
        | true => simp
        | false => simp only [Bool.false_eq_true, if_false, freeRow_no hq (Ne.symm hfq) hl, Int.mul_zero])]
      simp only [hl, Bool.false_eq_true, if_false, freeRow_own hq, Int.mul_one]
    | true =>
      obtain ⟨i, hi, rfl⟩ := isLd_iff.1 hl
      have ho := h i hi
      have e1 : (sumTo n fun f => ent B i f * v f) % p = (sumTo n fun f => (if f = ld B i then v f else 0) + (-1) * (if isLd B f then 0 else v f * (freeRow p B n f).getD (ld B i) 0)) % p := by
        refine sumTo_mod p fun f hf => ?_
        cases hlf : isLd B f with
        | true =>
          obtain ⟨j, hj, rfl⟩ := isLd_iff.1 hlf
          simp only [if_true, Int.mul_zero, Int.add_zero]
          by_cases hji : j = i
          · subst hji; rw [if_pos rfl, hR.one j hj, Int.one_mul]
          · rw [if_neg (fun e => hji (hR.inj hj hi e)), hR.zero j i hj hi (Ne.symm hji), Int.zero_mul]
        | false =>
          have hne : f ≠ ld B i := fun e => by rw [e, hl] at hlf; cases hlf
          simp only [Bool.false_eq_true, if_false, if_neg hne, Int.zero_add, freeRow_ld hR hi hlf]
          have : -1 * (v f * (-(ent B i f) % p)) % p = -1 * (v f * (-(ent B i f))) % p := cg_mul rfl (cg_mul rfl (cg_self _ _))
          rw [this]; congr 1
          rw [Int.mul_neg, Int.neg_mul, Int.one_mul, Int.neg_neg, Int.mul_comm]
      rw [e1, sumTo_add, sumTo_mul, sumTo_one (f := fun f => if f = ld B i then v f else 0) (ld B i) hq (fun f _ hf => if_neg hf), if_pos rfl] at ho
      obtain ⟨S, hS⟩ : ∃ S, S = sumTo n fun f => if isLd B f then 0 else v f * (freeRow p B n f).getD (ld B i) 0 := ⟨_, rfl⟩
      rw [← hS] at ho ⊢
      have := cg_add (ho.trans (Int.zero_emod p).symm) (show S % p = S % p from rfl)
      rw [Int.zero_add] at this
      rw [← this]; congr 1; omega
theorem kernL_sp {p : Int} (hP : isP p = true) {n : Nat} {m : List (List Int)} (hT : Tab p n m) {v : Nat → Int} : Sp p n (kernL p m n) v ↔ Orth p n m v := by
  have hp : 2 ≤ p := by have := isP_ge hP; omega
  obtain ⟨a1, a2⟩ := basisL_in hP m hT
  obtain ⟨b1, b2⟩ := basisL_in hP _ (freeTo_tab (p := p) hp (basisL p m) n n)
  constructor
  · exact fun h => ((freeTo_sp (basisL_red hP m hT)).1 (b1.sp h)).of_in a2
  · exact fun h => b2.sp ((freeTo_sp (basisL_red hP m hT)).2 (h.of_in a1))
end Go.Proofs.YtggigolkncckoaaGreat
namespace Go.Proofs.YtggigolkncckoaaGreat
section
variable {p : Int} {sq : List Int}
theorem Cl.two (x : Cl p sq) : x + x = (2 : Int) * x := by
  have := Cl.add_sm 1 1 x
  rw [Cl.one_sm] at this
  exact this.symm
theorem Cl.neg_mul (x y : Cl p sq) : (-x) * y = (-1 : Int) * (x * y) := by rw [Cl.neg_sm, Cl.sm_mul]
theorem Cl.vec_plus (hp : 0 < p) {a b : List Int} (ha : a.length = sq.length) (k : Int) : (Cl.vec hp (plusL p a b k) : Cl p sq) = Cl.vec hp a + k * Cl.vec hp b := Cl.same fun m hm => by
  rw [Cl.vec_co hp _ hm, Cl.add_co _ _ hm, Int.add_emod, Cl.vec_co hp _ hm, Cl.sm_co _ _ hm, Int.mul_emod, Cl.vec_co hp _ hm, ← Int.mul_emod, ← Int.add_emod, ← sumTo_mul, ← sumTo_add]
  refine sumTo_mod p fun i hi => ?_
  by_cases h : m = 2 ^ i
  · rw [if_pos h, if_pos h, if_pos h, plusL_getD _ _ (by omega), Int.emod_emod_of_dvd _ (Int.dvd_refl p)]
  · rw [if_neg h, if_neg h, if_neg h, Int.mul_zero]; rfl
theorem Cl.vec_scale (hp : 0 < p) {a : List Int} (ha : a.length = sq.length) (k : Int) : (Cl.vec hp (scaleL p a k) : Cl p sq) = k * Cl.vec hp a := Cl.same fun m hm => by
  rw [Cl.vec_co hp _ hm, Cl.sm_co _ _ hm, Int.mul_emod, Cl.vec_co hp _ hm, ← Int.mul_emod, ← sumTo_mul]
  refine sumTo_mod p fun i hi => ?_
  by_cases h : m = 2 ^ i
  · rw [if_pos h, if_pos h, scaleL_getD _ (by omega), Int.emod_emod_of_dvd _ (Int.dvd_refl p), Int.mul_comm]
  · rw [if_neg h, if_neg h, Int.mul_zero]
end
end Go.Proofs.YtggigolkncckoaaGreat
namespace Go.Proofs.YtggigolkncckoaaGreat
section
variable {p : Int} {sq : List Int}
theorem only_iff {ys : List Int} (hl : ys.length ≤ 64) (k : Nat) : onlyL ys k = true ↔ ∀ i, i < ys.length → pc i ≠ k → ys.getD i 0 = 0 := by
  unfold onlyL
  rw [Bool.not_eq_true', List.any_eq_false]
  constructor
  · intro h i hi hne
    by_cases h0 : ys.getD i 0 = 0
    · exact h0
    · have := h _ ((gradesL_mem ys hl _).2 ⟨i, hi, h0, rfl⟩)
      simp at this
      omega
  · intro h g hg
    obtain ⟨i, hi, h0, rfl⟩ := (gradesL_mem ys hl _).1 hg
    by_cases hp : pc i = k
    · simp [hp]
    · exact absurd (h i hi hp) h0
theorem Cl.only_co (h6 : sq.length ≤ 6) (x : Cl p sq) (k : Nat) : onlyL x.l k = true ↔ ∀ m, m < pw sq.length → pc m ≠ k → x.co m = 0 := by
  rw [only_iff (by rw [x.len]; exact pw_le (k := 6) h6), x.len]; rfl
/-- A vector is a sum of multiples of unit vectors. -/
def Cl.sum (hp : 0 < p) : Nat → (Nat → Cl p sq) → Cl p sq
  | 0, _ => Cl.zero hp
  | n + 1, f => Cl.sum hp n f + f n
theorem Cl.zero_co (hp : 0 < p) {m : Nat} (hm : m < pw sq.length) : (Cl.zero hp : Cl p sq).co m % p = 0 := by
  unfold Cl.zero; rw [Cl.of_cg _ _ hm, Int.zero_emod]
theorem Cl.sum_co (hp : 0 < p) (f : Nat → Cl p sq) {m : Nat} (hm : m < pw sq.length) : ∀ n, (Cl.sum hp n f).co m % p = (sumTo n fun i => (f i).co m) % p := by
  intro n
  induction n with
  | zero => rw [show Cl.sum hp 0 f = Cl.zero hp from rfl, Cl.zero_co hp hm]; rfl
  | succ n ih =>
    rw [show Cl.sum hp (n + 1) f = Cl.sum hp n f + f n from rfl, Cl.add_co _ _ hm, Int.add_emod, ih, ← Int.add_emod, sumTo_succ]
theorem Cl.zero_mul (hp : 0 < p) (x : Cl p sq) : Cl.zero hp * x = Cl.zero hp := by
  have := Cl.zero_sm (x := (Cl.one hp : Cl p sq))
  rw [← this, Cl.sm_mul, Cl.one_mul, Cl.zero_sm, Cl.zero_sm]
theorem Cl.mul_zero (hp : 0 < p) (x : Cl p sq) : x * Cl.zero hp = Cl.zero hp := by
  have := Cl.zero_sm (x := (Cl.one hp : Cl p sq))
  rw [← this, Cl.mul_sm, Cl.mul_one, Cl.zero_sm, Cl.zero_sm]
end
end Go.Proofs.YtggigolkncckoaaGreat
namespace Go.Proofs.YtggigolkncckoaaGreat
open Go.RowKit
theorem isMu_spec3 {P : Int} {sq ys : List Int} (h : isMu P sq ys = true) : ys.length = pw sq.length ∧ NumsL P ys := by
  unfold isMu at h
  simp only [Bool.and_eq_true, beq_iff_eq] at h
  exact ⟨by have := h.1; omega, nums_numsL h.2⟩
theorem codeM_spec3 {P : Int} {sq : List Int} {ms : List (List Int)} (h : codeM P sq ms = 0) : isP P = true ∧ 2 ≤ P ∧ P ≤ 13 ∧ 1 ≤ sq.length ∧ sq.length ≤ 6 ∧ NumsL P sq ∧ ∀ ys ∈ ms, ys.length = pw sq.length ∧ NumsL P ys := by
  obtain ⟨h1, h2⟩ := codeM_sp h
  obtain ⟨hp, hd1, hd2, hnum⟩ := isSp_dim h1
  have := isP_ge hp
  exact ⟨hp, by omega, by omega, hd1, hd2, nums_numsL hnum, fun ys hy => isMu_spec3 (h2 ys hy)⟩
end Go.Proofs.YtggigolkncckoaaGreat
namespace Go.Proofs.YtggigolkncckoaaGreat
open Go.RowKit
theorem bind_own {rows : List Value} {i : Nat} {v : Value} (h : rows[i]? = some v) : (rows[i]?).bind Value.ownBlock = v.ownBlock := by rw [h]; rfl
theorem Nest.set {w w' : World} {B : Nat} {rows : List Value} {xss : List (List Int)} (h : Nest w B rows xss) {j : Nat} (hj : j < xss.length) {A : Option Addr} {c : Nat} (hr : rows[j]? = some (.slice A xss[j].length c)) {ys : List Int} (hl : ys.length = xss[j].length)
    (ho : Own w' B 2 A xss[j].length c (ints ys)) (hg : w.grownBy w' (Value.slice A xss[j].length c).ownBlock) : Nest w' B rows (xss.set j ys) := by
  refine ⟨by rw [List.length_set]; exact h.len, fun k hk => ?_, h.apart⟩
  have hk' : k < xss.length := by rw [List.length_set] at hk; exact hk
  rw [List.getElem_set]
  by_cases e : j = k
  · subst e
    rw [if_pos rfl, hl]
    exact ⟨A, c, hr, ho⟩
  · rw [if_neg e]
    obtain ⟨A', c', e', ho'⟩ := h.row k hk'
    refine ⟨A', c', e', ho'.grown hg ?_⟩
    cases hb : (Value.slice A' xss[k].length c').ownBlock with
    | none => exact .inl rfl
    | some g =>
      right
      intro hh
      rcases Nat.lt_or_ge j k with hlt | hge
      · exact h.apart j k g hlt ((bind_own hr).trans hh.symm) ((bind_own e').trans hb)
      · exact h.apart k j g (by omega) ((bind_own e').trans hb) ((bind_own hr).trans hh.symm)
/-- A slice of rows of numbers of the call's own, from block B on. -/
def OwnII (w : World) (B : Nat) (A : Option Addr) (n c : Nat) (xss : List (List Int)) : Prop := ∃ rows, Own w B 24 A n c rows ∧ Nest w B rows xss
theorem MkII.own {w0 w : World} {A : Option Addr} {n c : Nat} {xss : List (List Int)} (h : MkII w0 w A n c xss) : OwnII w w0.heap.size A n c xss := by
  obtain ⟨rows, h1, h2⟩ := h
  exact ⟨rows, h1.2, h2⟩
section
variable {w w' : World} {B B' : Nat} {A : Option Addr} {n c : Nat} {xss : List (List Int)}
theorem OwnII.len (h : OwnII w B A n c xss) : xss.length = n := by
  obtain ⟨rows, h1, h2⟩ := h
  rw [← h2.len]
  exact h1.len
theorem OwnII.rd (h : OwnII w B A n c xss) : RdII w A n xss := by
  obtain ⟨rows, hm, hn⟩ := h
  exact ⟨rows, hm.rd, hn.len, fun k hk => by obtain ⟨A', c', e, ho⟩ := hn.row k hk; exact ⟨A', c', e, ho.rd, ho.cap⟩⟩
theorem OwnII.below (h : OwnII w B A n c xss) (hb : Below w.heap.size w w') : OwnII w' B A n c xss := by
  obtain ⟨rows, hm, hn⟩ := h
  exact ⟨rows, hm.below hb, hn.below hb⟩
/-- A block below the base grows. -/
theorem OwnII.grown (h : OwnII w B A n c xss) {row : Option Nat} (hg : w.grownBy w' row) (hlow : ∀ g, row = some g → g < B) : OwnII w' B A n c xss := by
  obtain ⟨rows, hm, hn⟩ := h
  have key : ∀ {E : TypeId} {A' : Option Addr} {n' c' : Nat} {us : List Value}, Own w B E A' n' c' us → ((Value.slice A' n' c').ownBlock = none ∨ (Value.slice A' n' c').ownBlock ≠ row) := by
    intro E A' n' c' us ho
    cases hb : (Value.slice A' n' c').ownBlock with
    | none => exact .inl rfl
    | some g =>
      right
      intro e
      have h1 := hlow g e.symm
      have h2 := (World.ownsRow.lt ho g hb).1
      omega
  exact ⟨rows, hm.grown hg (key hm), hn.len, fun k hk => by obtain ⟨A', c', e, ho⟩ := hn.row k hk; exact ⟨A', c', e, ho.grown hg (key ho)⟩, hn.apart⟩
end
end Go.Proofs.YtggigolkncckoaaGreat
namespace Go.Proofs.YtggigolkncckoaaGreat
open Go.RowKit
theorem Blk.newAt3 {w : World} {t : TypeId} {cs : Array Value} {g : Nat} (hg : g = w.heap.size) : Blk (w.alloc (.cells cs t)) g t cs := hg ▸ Blk.new w t cs
theorem noMat3 {w w' : World} {R : List (List Int) × Int} {x : Int} (hR : R = ([], x)) (hB : Below w.heap.size w w') :
    ∃ (A' : Option Addr) (k c' : Nat), Ending.returned (.tuple #[.slice none 0 0, .int .i64 x]) = .returned (.tuple #[.slice A' k c', .int .i64 R.2]) ∧ MkII w w' A' k c' R.1 := by
  subst hR
  exact ⟨none, 0, 0, rfl, MkII.nil hB⟩
theorem aMat3 {w w' : World} {R : List (List Int) × Int} {A : Option Addr} {k c : Nat} {L : List (List Int)} {x : Int} (hR : R = (L, x)) (hM : MkII w w' A k c L) :
    ∃ (A' : Option Addr) (k' c' : Nat), Ending.returned (.tuple #[.slice A k c, .int .i64 x]) = .returned (.tuple #[.slice A' k' c', .int .i64 R.2]) ∧ MkII w w' A' k' c' R.1 := by
  subst hR
  exact ⟨_, _, _, rfl, hM⟩
end Go.Proofs.YtggigolkncckoaaGreat
namespace Go.Proofs.YtggigolkncckoaaGreat
open Go.RowKit
theorem RdII.nil (w : World) (A : Option Addr) : RdII w A 0 [] := ⟨[], Rd.nil w A, rfl, fun k h => absurd h (by simp)⟩
end Go.Proofs.YtggigolkncckoaaGreat
namespace Go.Proofs.YtggigolkncckoaaGreat
section
variable {P : Int} {sq xs ys : List Int}
end
theorem codeM_mk {P : Int} {sq : List Int} {ms : List (List Int)} (h1 : isSp P sq = true) (h : ∀ ys ∈ ms, ys.length = pw sq.length ∧ NumsL P ys) : codeM P sq ms = 0 := by
  unfold codeM
  rw [if_pos h1, if_neg]
  intro hh
  obtain ⟨ys, hy, e⟩ := List.any_eq_true.1 hh
  obtain ⟨h2, h3⟩ := h ys hy
  have h4 : isMu P sq ys = true := by
    unfold isMu nums
    rw [h2, Bool.and_eq_true]
    refine ⟨by simp, List.all_eq_true.2 fun x hx => ?_⟩
    have := h3 x hx
    simp [inR]
    omega
  rw [h4] at e
  simp at e
end Go.Proofs.YtggigolkncckoaaGreat
namespace Go.Proofs.YtggigolkncckoaaGreat
section
variable {p : Int} {sq : List Int}
theorem cg_wit {p a b : Int} : a % p = b % p ↔ ∃ k, a = b + p * k := by
  constructor
  · intro h
    have h1 := Int.emod_add_mul_ediv a p
    have h2 := Int.emod_add_mul_ediv b p
    exact ⟨a / p - b / p, by grind⟩
  · rintro ⟨k, rfl⟩
    rw [Int.add_mul_emod_self_left]
end
end Go.Proofs.YtggigolkncckoaaGreat
namespace Go.Proofs.YtggigolkncckoaaGreat
section
variable {p : Int} {sq : List Int}
instance : Std.Associative (α := Cl p sq) (· + ·) := ⟨Cl.add_assoc⟩
instance : Std.Commutative (α := Cl p sq) (· + ·) := ⟨Cl.add_comm⟩
def Cl.brk (x y : Cl p sq) : Cl p sq := x * y + (-1 : Int) * (y * x)
theorem Cl.gone (X : Cl p sq) : (-1 : Int) * X + X = Cl.zero X.pos := by
  have h : X = (1 : Int) * X := (Cl.one_sm X).symm
  calc (-1 : Int) * X + X = (-1 : Int) * X + (1 : Int) * X := by rw [← h]
    _ = ((-1 + 1 : Int)) * X := (Cl.add_sm _ _ _).symm
    _ = (0 : Int) * X := rfl
    _ = _ := Cl.zero_sm X
theorem Cl.brk_add_l (a b y : Cl p sq) : Cl.brk (a + b) y = Cl.brk a y + Cl.brk b y := by
  unfold Cl.brk
  rw [Cl.add_mul, Cl.mul_add, Cl.sm_add]
  ac_rfl
theorem Cl.brk_add_r (x a b : Cl p sq) : Cl.brk x (a + b) = Cl.brk x a + Cl.brk x b := by
  unfold Cl.brk
  rw [Cl.add_mul, Cl.mul_add, Cl.sm_add]
  ac_rfl
theorem Cl.brk_sm_l (k : Int) (a y : Cl p sq) : Cl.brk (k * a) y = k * Cl.brk a y := by
  unfold Cl.brk
  rw [Cl.sm_mul, Cl.mul_sm, Cl.sm_add, Cl.sm_sm, Cl.sm_sm, Int.mul_comm]
theorem Cl.brk_sm_r (k : Int) (x y : Cl p sq) : Cl.brk x (k * y) = k * Cl.brk x y := by
  unfold Cl.brk
  rw [Cl.sm_mul, Cl.mul_sm, Cl.sm_add, Cl.sm_sm, Cl.sm_sm, Int.mul_comm]
theorem Cl.brk_anti (x y : Cl p sq) : Cl.brk x y = (-1 : Int) * Cl.brk y x := by
  unfold Cl.brk
  rw [Cl.sm_add, Cl.sm_sm, show (-1 : Int) * -1 = 1 from rfl, Cl.one_sm, Cl.add_comm]
theorem Cl.brk_one (hp : 0 < p) (k : Int) (y : Cl p sq) : Cl.brk (k * Cl.one hp) y = Cl.zero hp := by
  rw [Cl.brk_sm_l]
  unfold Cl.brk
  rw [Cl.one_mul, Cl.mul_one, Cl.add_comm, Cl.gone, ← Cl.zero_sm (Cl.one hp), Cl.sm_sm, Int.mul_zero]
/-- The identity of Jacobi. -/
theorem Cl.brk_jac (x y v : Cl p sq) : Cl.brk (Cl.brk x y) v = Cl.brk x (Cl.brk y v) + (-1 : Int) * Cl.brk y (Cl.brk x v) := by
  unfold Cl.brk
  simp only [Cl.add_mul, Cl.mul_add, Cl.sm_mul, Cl.mul_sm, Cl.sm_add, Cl.sm_sm, Cl.mul_assoc, Int.reduceNeg, Int.reduceMul, Cl.one_sm]
  have e1 := Cl.gone (x * (v * y))
  have e2 := Cl.gone (y * (v * x))
  have e3 : ∀ X : Cl p sq, X = X + (((-1 : Int) * (x * (v * y)) + x * (v * y)) + ((-1 : Int) * (y * (v * x)) + y * (v * x))) := fun X => by
    rw [e1, e2, Cl.add_zero, Cl.add_zero]
  rw [e3 (x * (y * v) + (-1 : Int) * (y * (x * v)) + _)]
  ac_rfl
theorem Cl.brk_l (x y : Cl p sq) : (Cl.brk x y).l = brkL p sq sq.length x.l y.l := by
  unfold Cl.brk
  rw [Cl.add_l, Cl.mul_l, Cl.mul_l, ← brkL_eq x.len x.nums y.len y.nums]
  exact plusL_mod p _ _ (by rw [show p - 1 = -1 + p by omega, Int.add_emod_right])
/-- The bracket of two vectors' product with a vector. -/
theorem Cl.brk_two (hp : 0 < p) (u v w : List Int) : Cl.brk (Cl.vec hp u * Cl.vec hp v : Cl p sq) (Cl.vec hp w) = (2 * bil sq v w) * Cl.vec hp u + (-(2 * bil sq u w)) * Cl.vec hp v := by
  have h1 := congrArg (fun y : Cl p sq => Cl.vec hp u * y) (Cl.vec_anti hp v w (sq := sq))
  have h2 := congrArg (fun y : Cl p sq => y * Cl.vec hp v) (Cl.vec_anti hp u w (sq := sq))
  simp only [Cl.mul_add, Cl.add_mul, Cl.mul_sm, Cl.sm_mul, Cl.mul_one, Cl.one_mul, Cl.mul_assoc] at h1 h2
  rw [← h1]
  have h3 : (-(2 * bil sq u w)) * Cl.vec hp v = (-1 : Int) * ((2 * bil sq u w) * Cl.vec hp v : Cl p sq) := by
    rw [Cl.sm_sm]; congr 1; omega
  rw [h3, ← h2]
  unfold Cl.brk
  rw [Cl.sm_add, Cl.mul_assoc]
  have e1 := Cl.gone (Cl.vec hp u * (Cl.vec hp w * Cl.vec hp v) : Cl p sq)
  have e3 : ∀ X : Cl p sq, X = X + ((-1 : Int) * (Cl.vec hp u * (Cl.vec hp w * Cl.vec hp v)) + Cl.vec hp u * (Cl.vec hp w * Cl.vec hp v)) := fun X => by rw [e1, Cl.add_zero]
  rw [e3 (Cl.vec hp u * (Cl.vec hp v * Cl.vec hp w) + _)]
  ac_rfl
theorem pc2_all : ∀ m : Nat, m < 64 → pc m = 2 → ∃ i, i < 6 ∧ ∃ j, j < 6 ∧ i < j ∧ m = 2 ^ i ^^^ 2 ^ j := by decide +kernel
theorem pc2_one : ∀ i : Nat, i < 6 → ∀ j : Nat, j < 6 → i ≠ j → pc (2 ^ i ^^^ 2 ^ j) = 2 := by decide +kernel
theorem pc2_low : ∀ i : Nat, i < 6 → ∀ j : Nat, j < 6 → i < j → 2 ^ j ≤ 2 ^ i ^^^ 2 ^ j := by decide +kernel
theorem pc2_same' : ((List.range 6).all fun i => (List.range 6).all fun j => (List.range 6).all fun a => (List.range 6).all fun b => !(decide (i < j) && decide (a < b) && (2 ^ i ^^^ 2 ^ j == 2 ^ a ^^^ 2 ^ b)) || (i == a && j == b)) = true := by decide +kernel
theorem pc2_same (i : Nat) (hi : i < 6) (j : Nat) (hj : j < 6) (a : Nat) (ha : a < 6) (b : Nat) (hb : b < 6) (h : i < j) (h' : a < b) (e : 2 ^ i ^^^ 2 ^ j = 2 ^ a ^^^ 2 ^ b) : i = a ∧ j = b := by
  have h0 := pc2_same'
  simp only [List.all_eq_true, List.mem_range] at h0
  have h1 := h0 i hi j hj a ha b hb
  rw [decide_eq_true h, decide_eq_true h', e] at h1
  simpa using h1
theorem pc2_dim {n m : Nat} (h6 : n ≤ 6) (hm : m < pw n) (h : pc m = 2) : ∃ i j, i < j ∧ j < n ∧ m = 2 ^ i ^^^ 2 ^ j := by
  have hpw := pw_le (k := 6) h6
  obtain ⟨i, hi, j, hj, hij, e⟩ := pc2_all m (Nat.lt_of_lt_of_le hm hpw) h
  refine ⟨i, j, hij, ?_, e⟩
  have h1 := pc2_low i hi j hj hij
  have h2 : 2 ^ j < 2 ^ n := by rw [← e] at h1; exact Nat.lt_of_le_of_lt h1 hm
  exact (Nat.pow_lt_pow_iff_right (by decide)).1 h2
/-- The product of two unit vectors. -/
def Cl.uu (hp : 0 < p) (i j : Nat) : Cl p sq := Cl.vec hp (unitRow sq.length i) * Cl.vec hp (unitRow sq.length j)
theorem Cl.vv_co (hp : 0 < p) (u v : List Int) {m : Nat} (hm : m < pw sq.length) : (Cl.vec hp u * Cl.vec hp v : Cl p sq).co m % p = (sumTo sq.length fun i => sumTo sq.length fun j => if 2 ^ i ^^^ 2 ^ j = m then u.getD i 0 * v.getD j 0 * facZ sq (2 ^ i) (2 ^ j) else 0) % p := by
  rw [Cl.mul_co _ _ hm, mulZ_cg p sq (fun a ha => Cl.vec_co hp u ha) (fun a ha => Cl.vec_co hp v ha) hm, mulZ_vec sq u v hm]
theorem Cl.uu_co (hp : 0 < p) {i j : Nat} (hij : i < j) (hj : j < sq.length) {m : Nat} (hm : m < pw sq.length) : (Cl.uu hp i j : Cl p sq).co m % p = (if m = 2 ^ i ^^^ 2 ^ j then 1 else 0) % p := by
  unfold Cl.uu
  rw [Cl.vv_co hp _ _ hm]
  congr 1
  rw [sumTo_one i (by omega) fun a ha hne => sumTo_zero fun b hb => by
    split
    · rw [unitRow_getD ha, if_neg (fun e => hne e.symm), Int.zero_mul, Int.zero_mul]
    · rfl]
  rw [sumTo_one j hj fun b hb hne => by
    split
    · rw [unitRow_getD hb, if_neg (fun e => hne e.symm), Int.mul_zero, Int.zero_mul]
    · rfl]
  rw [unitRow_getD (by omega), unitRow_getD hj, if_pos rfl, if_pos rfl, (facZ_less sq hij hj).1]
  by_cases h : m = 2 ^ i ^^^ 2 ^ j
  · rw [if_pos h, if_pos h.symm]; rfl
  · rw [if_neg h, if_neg fun e => h e.symm]
theorem Cl.biv_dec (hp : 0 < p) (h6 : sq.length ≤ 6) {x : Cl p sq} (hx : onlyL x.l 2 = true) :
    x = Cl.sum hp sq.length fun j => Cl.sum hp sq.length fun i => (if i < j then x.co (2 ^ i ^^^ 2 ^ j) else 0) * Cl.uu hp i j := Cl.same fun m hm => by
  have ho := (Cl.only_co h6 x 2).1 hx
  rw [Cl.sum_co hp _ hm]
  have e : ∀ j, j < sq.length → (Cl.sum hp sq.length fun i => (if i < j then x.co (2 ^ i ^^^ 2 ^ j) else 0) * Cl.uu hp i j : Cl p sq).co m % p = (sumTo sq.length fun i => if i < j ∧ m = 2 ^ i ^^^ 2 ^ j then x.co m else 0) % p := fun j hj => by
    rw [Cl.sum_co hp _ hm]
    refine sumTo_mod p fun i hi => ?_
    rw [Cl.sm_co _ _ hm]
    by_cases h : i < j
    · rw [if_pos h, Int.mul_emod, Cl.uu_co hp h hj hm, ← Int.mul_emod]
      by_cases h2 : m = 2 ^ i ^^^ 2 ^ j
      · rw [if_pos h2, if_pos ⟨h, h2⟩, Int.mul_one, ← h2]
      · rw [if_neg h2, if_neg (fun h3 => h2 h3.2), Int.mul_zero]
    · rw [if_neg h, if_neg (fun h3 => h h3.1), Int.zero_mul]
  rw [sumTo_mod p e]
  by_cases h2 : pc m = 2
  · obtain ⟨a, b, hab, hb, hm2⟩ := pc2_dim h6 hm h2
    rw [sumTo_one b hb fun j hj hne => sumTo_zero fun i hi => if_neg fun h3 => hne (pc2_same a (by omega) b (by omega) i (by omega) j (by omega) hab h3.1 (by rw [← hm2]; exact h3.2)).2.symm]
    rw [sumTo_one a (by omega) fun i hi hne => if_neg fun h3 => hne (pc2_same a (by omega) b (by omega) i (by omega) b (by omega) hab h3.1 (by rw [← hm2]; exact h3.2)).1.symm]
    rw [if_pos ⟨hab, hm2⟩]
  · rw [ho m hm h2, sumTo_zero fun j hj => sumTo_zero fun i hi => by split <;> rfl]
theorem Cl.sum_ind (hp : 0 < p) (Pr : Cl p sq → Prop) (h0 : Pr (Cl.zero hp)) (ha : ∀ a b, Pr a → Pr b → Pr (a + b)) (f : Nat → Cl p sq) : ∀ n, (∀ i, i < n → Pr (f i)) → Pr (Cl.sum hp n f)
  | 0, _ => h0
  | n + 1, h => ha _ _ (Cl.sum_ind hp Pr h0 ha f n fun i hi => h i (by omega)) (h n (by omega))
/-- What holds of products of two unit vectors, of sums and of multiples, holds of bivectors. -/
theorem Cl.biv_ind (hp : 0 < p) (h6 : sq.length ≤ 6) {x : Cl p sq} (hx : onlyL x.l 2 = true) (Pr : Cl p sq → Prop) (h0 : Pr (Cl.zero hp)) (ha : ∀ a b, Pr a → Pr b → Pr (a + b)) (hs : ∀ (k : Int) a, Pr a → Pr (k * a)) (hb : ∀ i j, i < j → j < sq.length → Pr (Cl.uu hp i j)) : Pr x := by
  rw [Cl.biv_dec hp h6 hx]
  refine Cl.sum_ind hp Pr h0 ha _ _ fun j hj => Cl.sum_ind hp Pr h0 ha _ _ fun i hi => ?_
  by_cases h : i < j
  · exact hs _ _ (hb i j h hj)
  · rw [if_neg h, Cl.zero_sm]; exact h0
theorem Cl.vec_zero (hp : 0 < p) : (Cl.vec hp (scaleL p (unitRow sq.length 0) 0) : Cl p sq) = Cl.zero hp := by
  rw [Cl.vec_scale hp (unitRow_len _ _), Cl.zero_sm]
theorem Cl.brk_zero (hp : 0 < p) (y : Cl p sq) : Cl.brk (Cl.zero hp) y = Cl.zero hp := by
  rw [← Cl.zero_sm (Cl.one hp), Cl.brk_one, Cl.zero_sm]
theorem Cl.turns (hp : 0 < p) (h6 : sq.length ≤ 6) {x : Cl p sq} (hx : onlyL x.l 2 = true) : ∀ v : List Int, ∃ u : List Int, u.length = sq.length ∧ NumsL p u ∧ Cl.brk x (Cl.vec hp v) = Cl.vec hp u := by
  refine Cl.biv_ind hp h6 hx (fun x => ∀ v : List Int, ∃ u : List Int, u.length = sq.length ∧ NumsL p u ∧ Cl.brk x (Cl.vec hp v) = Cl.vec hp u) ?_ ?_ ?_ ?_
  · intro v
    exact ⟨scaleL p (unitRow sq.length 0) 0, by rw [scaleL_len, unitRow_len], scaleL_nums hp _ _, by rw [Cl.brk_zero, Cl.vec_zero]⟩
  · intro a b h1 h2 v
    obtain ⟨u1, l1, n1, e1⟩ := h1 v
    obtain ⟨u2, l2, n2, e2⟩ := h2 v
    exact ⟨plusL p u1 u2 1, by rw [plusL_len, l1], plusL_nums hp _ _ _, by rw [Cl.brk_add_l, e1, e2, Cl.vec_plus hp l1, Cl.one_sm]⟩
  · intro k a h1 v
    obtain ⟨u1, l1, n1, e1⟩ := h1 v
    exact ⟨scaleL p u1 k, by rw [scaleL_len, l1], scaleL_nums hp _ _, by rw [Cl.brk_sm_l, e1, Cl.vec_scale hp l1]⟩
  · intro i j hij hj v
    refine ⟨plusL p (scaleL p (unitRow sq.length i) (2 * bil sq (unitRow sq.length j) v)) (unitRow sq.length j) (-(2 * bil sq (unitRow sq.length i) v)), by rw [plusL_len, scaleL_len, unitRow_len], plusL_nums hp _ _ _, ?_⟩
    unfold Cl.uu
    rw [Cl.brk_two, Cl.vec_plus hp (by rw [scaleL_len, unitRow_len]), Cl.vec_scale hp (unitRow_len _ _)]
theorem Cl.vv_grade (hp : 0 < p) (h6 : sq.length ≤ 6) (u v : List Int) {m : Nat} (hm : m < pw sq.length) (h0 : m ≠ 0) (h2 : pc m ≠ 2) : (Cl.vec hp u * Cl.vec hp v : Cl p sq).co m = 0 := by
  rw [← Cl.co_mod, Cl.vv_co hp _ _ hm, sumTo_zero fun i hi => sumTo_zero fun j hj => if_neg fun e => ?_, Int.zero_emod]
  by_cases hij : i = j
  · exact h0 (by rw [← e, hij, Nat.xor_self])
  · exact h2 (by rw [← e]; exact pc2_one i (by omega) j (by omega) hij)
theorem Cl.brk_co0 (x y : Cl p sq) : (Cl.brk x y).co 0 = 0 := by
  have hm := pw_pos sq.length
  have e : (x * y).co 0 % p = (y * x).co 0 % p := by
    rw [Cl.mul_co _ _ hm, Cl.mul_co _ _ hm]
    unfold mulZ
    congr 1
    refine sumTo_congr fun a _ => ?_
    rw [Nat.xor_zero, Int.mul_comm (x.co a)]
  unfold Cl.brk
  rw [← Cl.co_mod, Cl.add_co _ _ hm, Int.add_emod, Cl.sm_co _ _ hm, ← Int.add_emod]
  obtain ⟨k, hk⟩ := cg_wit.1 e
  rw [hk]
  refine (cg_wit (b := 0)).2 ⟨k, by omega⟩ |>.trans (Int.zero_emod _)
theorem Cl.brk_uu (hp : 0 < p) (x : Cl p sq) (u v : Cl p sq) : Cl.brk x (u * v) = Cl.brk x u * v + u * Cl.brk x v := by
  unfold Cl.brk
  simp only [Cl.add_mul, Cl.mul_add, Cl.sm_mul, Cl.mul_sm, Cl.sm_add, Cl.sm_sm, Cl.mul_assoc]
  have e1 := Cl.gone (u * (x * v))
  have e3 : ∀ X : Cl p sq, X = X + ((-1 : Int) * (u * (x * v)) + u * (x * v)) := fun X => by rw [e1, Cl.add_zero]
  rw [e3 (x * (u * v) + _)]
  ac_rfl
theorem Cl.brk_biv (hp : 0 < p) (h6 : sq.length ≤ 6) {x y : Cl p sq} (hx : onlyL x.l 2 = true) (hy : onlyL y.l 2 = true) (k : Int) : onlyL (k * Cl.brk x y : Cl p sq).l 2 = true := by
  refine (Cl.only_co h6 _ 2).2 fun m hm hne => ?_
  have h : (Cl.brk x y).co m = 0 := by
    by_cases h0 : m = 0
    · rw [h0, Cl.brk_co0]
    · refine Cl.biv_ind hp h6 hy (fun y => (Cl.brk x y).co m = 0) ?_ ?_ ?_ ?_
      · rw [Cl.brk_anti, Cl.brk_zero, ← Cl.co_mod, Cl.sm_co _ _ hm, Int.mul_emod, Cl.zero_co hp hm, Int.mul_zero, Int.zero_emod]
      · intro a b h1 h2
        rw [Cl.brk_add_r, ← Cl.co_mod, Cl.add_co _ _ hm, h1, h2]; rfl
      · intro k a h1
        rw [Cl.brk_sm_r, ← Cl.co_mod, Cl.sm_co _ _ hm, h1, Int.mul_zero, Int.zero_emod]
      · intro i j hij hj
        unfold Cl.uu
        obtain ⟨u1, _, _, e1⟩ := Cl.turns hp h6 hx (unitRow sq.length i)
        obtain ⟨u2, _, _, e2⟩ := Cl.turns hp h6 hx (unitRow sq.length j)
        rw [Cl.brk_uu hp, e1, e2, ← Cl.co_mod, Cl.add_co _ _ hm, Cl.vv_grade hp h6 _ _ hm h0 hne, Cl.vv_grade hp h6 _ _ hm h0 hne]; rfl
  rw [← Cl.co_mod, Cl.sm_co _ _ hm, h, Int.mul_zero, Int.zero_emod]
end
end Go.Proofs.YtggigolkncckoaaGreat
namespace Go.Proofs.YtggigolkncckoaaGreat
section
variable {p : Int} {sq : List Int}
/-- A good list of vectors: of the right length, numbers, norms other than 0. -/
def Good (p : Int) (sq : List Int) (L : List (List Int)) : Prop := ∀ v ∈ L, v.length = sq.length ∧ NumsL p v ∧ bil sq v v % p ≠ 0
theorem Good.ne {L : List (List Int)} (h : Good p sq L) : ∀ v ∈ L, bil sq v v % p ≠ 0 := fun v hv => (h v hv).2.2
theorem Good.nums {L : List (List Int)} (h : Good p sq L) : ∀ v ∈ L, NumsL p v := fun v hv => (h v hv).2.1
end
end Go.Proofs.YtggigolkncckoaaGreat
namespace Go.Proofs.YtggigolkncckoaaGreat
section
variable {p : Int} {sq : List Int}
theorem half_cl (x y : Cl p sq) : halfL p (brkL p sq sq.length x.l y.l) = (invF p 2 * Cl.brk x y : Cl p sq).l := by
  unfold halfL
  rw [← Cl.brk_l, ← Cl.sm_l]
end
end Go.Proofs.YtggigolkncckoaaGreat
namespace Go.Proofs.YtggigolkncckoaaGreat
/-- The masks below N of grade 2, and the others. -/
def msT (N : Nat) : List Nat := (List.range N).filter fun m => pc m == 2
def nsT (N : Nat) : List Nat := (List.range N).filter fun m => !(pc m == 2)
theorem msT_succ (N : Nat) : msT (N + 1) = if pc N = 2 then msT N ++ [N] else msT N := by
  unfold msT
  rw [List.range_succ, List.filter_append]
  by_cases h : pc N = 2 <;> simp [h]
theorem nsT_succ (N : Nat) : nsT (N + 1) = if pc N = 2 then nsT N else nsT N ++ [N] := by
  unfold nsT
  rw [List.range_succ, List.filter_append]
  by_cases h : pc N = 2 <;> simp [h]
theorem msT_le (N : Nat) : (msT N).length ≤ N := Nat.le_trans (List.length_filter_le _ _) (by simp)
theorem nsT_le (N : Nat) : (nsT N).length ≤ N := Nat.le_trans (List.length_filter_le _ _) (by simp)
theorem msT_mem {N m : Nat} : m ∈ msT N ↔ m < N ∧ pc m = 2 := by simp [msT]
theorem nsT_mem {N m : Nat} : m ∈ nsT N ↔ m < N ∧ pc m ≠ 2 := by simp [nsT]
theorem msT_at {N j : Nat} (h : j < (msT N).length) : (msT N).getD j 0 < N ∧ pc ((msT N).getD j 0) = 2 := msT_mem.1 (getD_mem 0 h)
theorem sumTo_app {α : Type} (d : α) (xs : List α) (x : α) (F : α → Int) : sumTo (xs ++ [x]).length (fun j => F ((xs ++ [x]).getD j d)) = sumTo xs.length (fun j => F (xs.getD j d)) + F x := by
  rw [List.length_append]
  show sumTo (xs.length + 1) _ = _
  rw [sumTo_succ]
  congr 1
  · exact sumTo_congr fun j hj => by rw [getD_app_left d _ hj]
  · have := getD_app_right d xs [x] 0
    rw [Nat.add_zero] at this
    rw [this]; rfl
theorem sumTo_msT (F : Nat → Int) : ∀ N, (sumTo N fun m => if pc m = 2 then F m else 0) = sumTo (msT N).length fun j => F ((msT N).getD j 0) := by
  intro N
  induction N with
  | zero => rfl
  | succ N ih =>
    rw [sumTo_succ, ih, msT_succ]
    by_cases h : pc N = 2
    · rw [if_pos h, if_pos h, sumTo_app]
    · rw [if_neg h, if_neg h, Int.add_zero]
theorem msT_nodup (N : Nat) : (msT N).Nodup := List.nodup_range.filter _
theorem msT_inj {N i j : Nat} (hi : i < (msT N).length) (hj : j < (msT N).length) (h : (msT N).getD i 0 = (msT N).getD j 0) : i = j := by
  rw [getD_of_lt 0 hi, getD_of_lt 0 hj] at h
  exact (List.getElem_inj (msT_nodup N)).1 h
section
variable {P : Int} {sq : List Int} {n : Nat} {xs : List Int}
theorem brk_anti {a b : List Int} (ha : a.length = pw n) (hna : NumsL P a) (hb : b.length = pw n) (hnb : NumsL P b) {i : Nat} (hi : i < pw n) : (brkL P sq n a b).getD i 0 % P = (-((brkL P sq n b a).getD i 0)) % P := by
  unfold brkL
  rw [timesL_two P sq n a b ha hna, timesL_two P sq n b a hb hnb]
  rw [plusL_getD _ _ (by rw [mulL_len, ha]; exact hi), plusL_getD _ _ (by rw [mulL_len, hb]; exact hi)]
  generalize (mulL P sq a b).getD i 0 = X
  generalize (mulL P sq b a).getD i 0 = Y
  rw [cg_self, ← Int.zero_sub ((Y + -1 * X) % P), Int.sub_emod, cg_self, ← Int.sub_emod]
  congr 1
  omega
/-- The columns and rows of the program's. -/
def ccol (P : Int) (sq : List Int) (n : Nat) (xs : List Int) (m : Nat) : List Int := if pc m = 2 then brkL P sq n (unitRow (pw n) m) xs else List.replicate (pw n) 0
def crows (P : Int) (sq : List Int) (n : Nat) (xs : List Int) : List (List Int) := transL (tab (pw n) (ccol P sq n xs)) ++ (nsT (pw n)).map (unitRow (pw n))
def cenL (P : Int) (sq : List Int) (n : Nat) (xs : List Int) : List (List Int) := kernL P (crows P sq n xs) (pw n)
/-- .. of the reference's. -/
def scols (P : Int) (sq : List Int) (n : Nat) (xs : List Int) : List (List Int) := (msT (pw n)).map fun m => brkL P sq n xs (unitRow (pw n) m)
def embT (N : Nat) (z : List Int) (k : Nat) : List Int := (List.range k).foldl (fun o j => o.set ((msT N).getD j 0) (z.getD j 0)) (List.replicate N 0)
theorem embT_succ (N : Nat) (z : List Int) (k : Nat) : embT N z (k + 1) = (embT N z k).set ((msT N).getD k 0) (z.getD k 0) := by simp [embT, List.range_succ]
theorem embT_len (N : Nat) (z : List Int) (k : Nat) : (embT N z k).length = N := by
  induction k with
  | zero => simp [embT]
  | succ k ih => rw [embT_succ, List.length_set, ih]
theorem embT_nums {N : Nat} (hp : 0 < P) {z : List Int} (hz : NumsL P z) (k : Nat) : NumsL P (embT N z k) := by
  induction k with
  | zero => exact NumsL.replicate hp _
  | succ k ih => rw [embT_succ]; exact ih.set _ (hz.getD hp k)
theorem embT_at {N : Nat} (z : List Int) {j : Nat} : ∀ k, k ≤ (msT N).length → j < k → (embT N z k).getD ((msT N).getD j 0) 0 = z.getD j 0 := by
  intro k
  induction k with
  | zero => intro _ h; omega
  | succ k ih =>
    intro hk hj
    rw [embT_succ, getD_set]
    by_cases h : (msT N).getD k 0 = (msT N).getD j 0
    · have := msT_inj (show k < _ by omega) (show j < _ by omega) h
      subst this
      rw [if_pos ⟨rfl, by rw [embT_len]; exact (msT_at (by omega)).1⟩]
    · rw [if_neg fun hh => h hh.1]
      have : j ≠ k := fun e => h (by rw [e])
      exact ih (by omega) (by omega)
theorem embT_no {N : Nat} (z : List Int) {m : Nat} (hm : pc m ≠ 2) : ∀ k, k ≤ (msT N).length → (embT N z k).getD m 0 = 0 := by
  intro k
  induction k with
  | zero =>
    intro _
    by_cases h : m < N
    · rw [getD_of_lt 0 (by simpa [embT] using h)]; simp [embT]
    · exact getD_of_ge 0 (by simp [embT]; omega)
  | succ k ih =>
    intro hk
    rw [embT_succ, getD_set, if_neg fun hh => hm (by rw [← hh.1]; exact (msT_at (by omega)).2)]
    exact ih (by omega)
def semb (P : Int) (sq : List Int) (n : Nat) (xs : List Int) : List (List Int) := (kernL P (transL (scols P sq n xs)) (msT (pw n)).length).map fun z => embT (pw n) z (msT (pw n)).length
def scenL (P : Int) (sq : List Int) (n : Nat) (xs : List Int) : List (List Int) := if (msT (pw n)).length = 0 then [] else basisL P (semb P sq n xs)
theorem scols_tab (hp : 2 ≤ P) : Tab P (pw n) (scols P sq n xs) := fun x hx => by
  obtain ⟨m, _, rfl⟩ := List.mem_map.1 hx
  exact ⟨brkL_len _ _ _ _ _, brkL_nums hp _ _ _ _⟩
theorem scols_len : (scols P sq n xs).length = (msT (pw n)).length := by unfold scols; rw [List.length_map]
theorem semb_tab (hp : 2 ≤ P) : Tab P (pw n) (semb P sq n xs) := fun x hx => by
  obtain ⟨z, hz, rfl⟩ := List.mem_map.1 hx
  exact ⟨embT_len _ _ _, embT_nums (by omega) (kernL_tab hp _ _ z hz).2 _⟩
theorem ccol_ok (hp : 2 ≤ P) (m : Nat) : (ccol P sq n xs m).length = pw n ∧ NumsL P (ccol P sq n xs m) := by
  unfold ccol
  split
  · exact ⟨brkL_len _ _ _ _ _, brkL_nums hp _ _ _ _⟩
  · exact ⟨List.length_replicate, NumsL.replicate (by omega) _⟩
theorem cct_tab (hp : 2 ≤ P) : Tab P (pw n) (tab (pw n) (ccol P sq n xs)) := Tab.tab fun m _ => ccol_ok hp m
theorem crows_tab (hp : 2 ≤ P) : Tab P (pw n) (crows P sq n xs) := by
  unfold crows
  refine Tab.append ?_ fun x hx => ?_
  · have := transL_tab (p := P) (by omega) (cct_tab (sq := sq) (n := n) (xs := xs) hp)
    rwa [tab_len] at this
  · obtain ⟨m, _, rfl⟩ := List.mem_map.1 hx
    exact ⟨unitRow_len _ _, unitRow_nums hp _ _⟩
theorem orth_trans {p : Int} {N K : Nat} {M : List (List Int)} (hT : Tab p N M) (hl : M.length = K) (h0 : 0 < K) (v : Nat → Int) : Orth p K (transL M) v ↔ ∀ i, i < N → (sumTo K fun q => ent M q i * v q) % p = 0 := by
  unfold Orth
  rw [transL_len hT (by omega)]
  refine forall_congr' fun i => forall_congr' fun hi => ?_
  have : (sumTo K fun q => ent (transL M) i q * v q) = sumTo K fun q => ent M q i * v q := sumTo_congr fun q hq => by
    have e : ent (transL M) i q = ent M q i := by
      show ((transL M).getD i []).getD q 0 = _
      unfold transL
      rw [row0_len hT (by omega), tab_getD hi, tab_getD (by omega)]
    rw [e]
  rw [this]
/-- What the rows of the program's ask for. -/
theorem orth_crows (hp : 2 ≤ P) (hx : xs.length = pw n) (hxs : NumsL P xs) (v : Nat → Int) : Orth P (pw n) (crows P sq n xs) v ↔ (∀ i, i < pw n → (sumTo (msT (pw n)).length fun j => ent (scols P sq n xs) j i * v ((msT (pw n)).getD j 0)) % P = 0) ∧ ∀ q, q < pw n → pc q ≠ 2 → v q % P = 0 := by
  unfold crows
  rw [Orth.append, orth_trans (cct_tab hp) (tab_len _ _) (pw_pos n)]
  refine and_congr (forall_congr' fun i => forall_congr' fun hi => ?_) ?_
  · have e : (sumTo (pw n) fun q => ent (tab (pw n) (ccol P sq n xs)) q i * v q) % P = ((-1) * sumTo (msT (pw n)).length fun j => ent (scols P sq n xs) j i * v ((msT (pw n)).getD j 0)) % P := by
      rw [sumTo_congr (g := fun q => if pc q = 2 then (brkL P sq n (unitRow (pw n) q) xs).getD i 0 * v q else 0) fun q hq => by
        unfold ent ccol
        rw [tab_getD hq]
        by_cases h : pc q = 2
        · rw [if_pos h, if_pos h]
        · rw [if_neg h, if_neg h, getD_of_lt 0 (by rw [List.length_replicate]; exact hi)]; simp, sumTo_msT fun q => (brkL P sq n (unitRow (pw n) q) xs).getD i 0 * v q, ← sumTo_mul]
      refine sumTo_mod P fun j hj => ?_
      have hk : ent (scols P sq n xs) j i = (brkL P sq n xs (unitRow (pw n) ((msT (pw n)).getD j 0))).getD i 0 := by
        unfold ent scols
        rw [getD_of_lt [] (by rw [List.length_map]; exact hj), List.getElem_map, getD_of_lt 0 hj]
      rw [hk, ← Int.mul_assoc, Int.mul_emod, brk_anti (unitRow_len _ _) (unitRow_nums hp _ _) hx hxs hi, ← Int.mul_emod, Int.neg_mul, Int.neg_mul, Int.neg_mul, Int.one_mul]
    rw [e]
    constructor
    · intro h
      have := cg_mul (show (-1 : Int) % P = (-1) % P from rfl) (h.trans (Int.zero_emod P).symm)
      rw [← Int.mul_assoc] at this
      simpa using this
    · intro h
      have := cg_mul (show (-1 : Int) % P = (-1) % P from rfl) (h.trans (Int.zero_emod P).symm)
      rw [this]; simp
  · constructor
    · intro h q hq hne
      obtain ⟨i, hi, hiq⟩ := List.getElem_of_mem (nsT_mem.2 ⟨hq, hne⟩)
      have := h i (by rw [List.length_map]; exact hi)
      rw [sumTo_one q hq fun r hr hrq => by
        unfold ent
        rw [getD_of_lt [] (by rw [List.length_map]; exact hi), List.getElem_map, hiq, unitRow_getD hr, if_neg (fun e => hrq e.symm), Int.zero_mul]] at this
      unfold ent at this
      rw [getD_of_lt [] (by rw [List.length_map]; exact hi), List.getElem_map, hiq, unitRow_getD hq, if_pos rfl, Int.one_mul] at this
      exact this
    · intro h i hi
      rw [List.length_map] at hi
      obtain ⟨hq, hne⟩ := nsT_mem.1 (List.getElem_mem hi)
      rw [sumTo_one ((nsT (pw n))[i]) hq fun r hr hrq => by
        unfold ent
        rw [getD_of_lt [] (by rw [List.length_map]; exact hi), List.getElem_map, unitRow_getD hr, if_neg (fun e => hrq e.symm), Int.zero_mul]]
      unfold ent
      rw [getD_of_lt [] (by rw [List.length_map]; exact hi), List.getElem_map, unitRow_getD hq, if_pos rfl, Int.one_mul]
      exact h _ hq hne
theorem ent_semb {i m : Nat} (hi : i < (semb P sq n xs).length) : ent (semb P sq n xs) i m = (embT (pw n) ((kernL P (transL (scols P sq n xs)) (msT (pw n)).length).getD i []) (msT (pw n)).length).getD m 0 := by
  have hi' : i < (kernL P (transL (scols P sq n xs)) (msT (pw n)).length).length := by unfold semb at hi; rwa [List.length_map] at hi
  unfold ent semb
  rw [getD_of_lt [] (by rw [List.length_map]; exact hi'), getD_of_lt [] hi', List.getElem_map]
/-- Both ways tell the same. -/
theorem cen_same (hP : isP P = true) (hx : xs.length = pw n) (hxs : NumsL P xs) : scenL P sq n xs = cenL P sq n xs := by
  have hp : 2 ≤ P := by have := isP_ge hP; omega
  have hst := scols_tab (P := P) (sq := sq) (n := n) (xs := xs) hp
  have hct := crows_tab (P := P) (sq := sq) (n := n) (xs := xs) hp
  unfold scenL cenL
  by_cases hK : (msT (pw n)).length = 0
  · rw [if_pos hK]
    refine Red.unique hp (Red.nil _) (kernL_red hP _ _) (Tab.nil _ _) (kernL_tab hp _ _) (fun i hi => absurd hi (by simp)) fun i hi => ?_
    have ho := (orth_crows hp hx hxs _).1 ((kernL_sp hP hct).1 (Sp.row (p := P) (n := pw n) hi))
    refine (Sp.zero P (pw n) []).congr fun q hq => ?_
    rw [ho.2 q hq fun h2 => by
      have := msT_mem.2 ⟨hq, h2⟩
      rw [List.eq_nil_of_length_eq_zero hK] at this
      cases this]
    exact Int.zero_emod P
  · rw [if_neg hK]
    have hK0 : 0 < (msT (pw n)).length := by omega
    have hsl : (scols P sq n xs).length = (msT (pw n)).length := scols_len
    have hTT := transL_tab (p := P) (by omega) hst
    rw [hsl] at hTT
    have hor := orth_trans hst hsl hK0
    have hso := semb_tab (P := P) (sq := sq) (n := n) (xs := xs) hp
    have hbi := basisL_in hP (semb P sq n xs) hso
    refine Red.unique hp (basisL_red hP _ hso) (kernL_red hP _ _) (basisL_tab (by omega) _ hso) (kernL_tab hp _ _) (hbi.1.trans fun i hi => (kernL_sp hP hct).2 ((orth_crows hp hx hxs _).2 ⟨fun q hq => ?_, fun q hq h2 => ?_⟩)) fun i hi => hbi.2.sp ?_
    · have hi' : i < (kernL P (transL (scols P sq n xs)) (msT (pw n)).length).length := by unfold semb at hi; rwa [List.length_map] at hi
      have ho := (hor _).1 ((kernL_sp hP hTT).1 (Sp.row (p := P) (n := (msT (pw n)).length) hi')) q hq
      refine Eq.trans (congrArg (· % P) (sumTo_congr fun j hj => ?_)) ho
      rw [ent_semb hi, embT_at _ _ (Nat.le_refl _) hj]; rfl
    · rw [ent_semb hi, embT_no _ h2 _ (Nat.le_refl _), Int.zero_emod]
    · have ho := (orth_crows hp hx hxs _).1 ((kernL_sp hP hct).1 (Sp.row (p := P) (n := pw n) hi))
      obtain ⟨c, hc⟩ := (kernL_sp hP hTT).2 ((hor fun j => ent (kernL P (crows P sq n xs) (pw n)) i ((msT (pw n)).getD j 0)).2 ho.1)
      have hll : (semb P sq n xs).length = (kernL P (transL (scols P sq n xs)) (msT (pw n)).length).length := by unfold semb; rw [List.length_map]
      refine ⟨c, fun q hq => ?_⟩
      by_cases h2 : pc q = 2
      · obtain ⟨j, hj, hjq⟩ := List.getElem_of_mem (msT_mem.2 ⟨hq, h2⟩)
        have hjq' : (msT (pw n)).getD j 0 = q := by rw [getD_of_lt 0 hj, hjq]
        have := hc j hj
        simp only [hjq'] at this
        rw [this, hll]
        congr 1
        refine sumTo_congr fun r hr => ?_
        rw [ent_semb (by omega), ← hjq', embT_at _ _ (Nat.le_refl _) hj]; rfl
      · rw [ho.2 q hq h2, sumTo_zero fun r hr => by rw [ent_semb hr, embT_no _ h2 _ (Nat.le_refl _), Int.mul_zero], Int.zero_emod]
end
theorem cenL_tab {P : Int} (hp : 2 ≤ P) (sq : List Int) (n : Nat) (xs : List Int) : Tab P (pw n) (cenL P sq n xs) := kernL_tab hp _ _
theorem cenL_len {P : Int} (hP : isP P = true) (sq : List Int) (n : Nat) (xs : List Int) : (cenL P sq n xs).length ≤ pw n := kernL_len hP _ _
end Go.Proofs.YtggigolkncckoaaGreat
namespace Go.Proofs.YtggigolkncckoaaGreat
section
variable {p : Int} {sq : List Int}
/-- The multivector with 1 at one place. -/
def Cl.at_ (hp : 0 < p) (m : Nat) : Cl p sq := Cl.of hp fun q => if q = m then 1 else 0
theorem Cl.at_l (hp : 0 < p) (h2 : 2 ≤ p) {m : Nat} (_hm : m < pw sq.length) : (Cl.at_ hp m : Cl p sq).l = unitRow (pw sq.length) m := by
  refine list_ext_getD 0 (by rw [Cl.len, unitRow_len]) fun q hq => ?_
  rw [Cl.len] at hq
  show (Cl.at_ hp m : Cl p sq).co q = _
  unfold Cl.at_
  rw [Cl.of_co hp _ hq, unitRow_getD hq]
  by_cases h : q = m
  · rw [if_pos h, if_pos h.symm, Int.emod_eq_of_lt (by omega) (by omega)]
  · rw [if_neg h, if_neg fun e => h e.symm, Int.zero_emod]
theorem Cl.at_sum (hp : 0 < p) (z : Cl p sq) : z = Cl.sum hp (pw sq.length) fun m => z.co m * Cl.at_ hp m := Cl.same fun q hq => by
  rw [Cl.sum_co hp _ hq]
  rw [sumTo_mod (g := fun m => if q = m then z.co m else 0) p fun m hm => ?_]
  · rw [sumTo_one q hq fun m _ hne => if_neg fun e => hne e.symm, if_pos rfl]
  · rw [Cl.sm_co _ _ hq, Int.mul_emod]
    unfold Cl.at_
    rw [Cl.of_cg _ _ hq, ← Int.mul_emod]
    by_cases h : q = m
    · rw [if_pos h, if_pos h, Int.mul_one]
    · rw [if_neg h, if_neg h, Int.mul_zero]
theorem Cl.brk_zero_r (hp : 0 < p) (x : Cl p sq) : Cl.brk x (Cl.zero hp) = Cl.zero hp := by
  rw [← Cl.zero_sm (Cl.one hp), Cl.brk_sm_r, Cl.zero_sm, Cl.zero_sm]
theorem Cl.brk_sum (hp : 0 < p) (x : Cl p sq) (f : Nat → Cl p sq) : ∀ n, Cl.brk x (Cl.sum hp n f) = Cl.sum hp n fun i => Cl.brk x (f i) := by
  intro n
  induction n with
  | zero => exact Cl.brk_zero_r hp x
  | succ n ih => show Cl.brk x (Cl.sum hp n f + f n) = _; rw [Cl.brk_add_r, ih]; rfl
theorem Cl.brk_at (hp : 0 < p) (x z : Cl p sq) {i : Nat} (hi : i < pw sq.length) : (Cl.brk x z).co i = (sumTo (pw sq.length) fun m => z.co m * (Cl.brk x (Cl.at_ hp m)).co i) % p := by
  have e : (Cl.brk x z).co i = (Cl.brk x (Cl.sum hp (pw sq.length) fun m => z.co m * Cl.at_ hp m)).co i := congrArg (fun z : Cl p sq => (Cl.brk x z).co i) (Cl.at_sum hp z)
  rw [e, ← Cl.co_mod, Cl.brk_sum, Cl.sum_co hp _ hi]
  exact sumTo_mod p fun m _ => by rw [Cl.brk_sm_r, Cl.sm_co _ _ hi]
/-- What lies in the span of the centralizer's basis: the bivectors whose brackets are 0. -/
theorem cen_sp (hP : isP p = true) {x z : Cl p sq} : Sp p (pw sq.length) (cenL p sq sq.length x.l) (fun q => z.co q) ↔ (∀ i, i < pw sq.length → (Cl.brk x z).co i = 0) ∧ ∀ q, q < pw sq.length → pc q ≠ 2 → z.co q = 0 := by
  have h3 := (isP_ge hP).1
  have hp : 0 < p := by omega
  unfold cenL
  rw [kernL_sp hP (crows_tab (by omega)), orth_crows (by omega) x.len x.nums]
  have hz : (∀ q, q < pw sq.length → pc q ≠ 2 → z.co q % p = 0) ↔ ∀ q, q < pw sq.length → pc q ≠ 2 → z.co q = 0 := forall_congr' fun q => by rw [z.co_mod]
  rw [hz]
  refine and_congr_left fun h0 => forall_congr' fun i => forall_congr' fun hi => ?_
  rw [Cl.brk_at hp x z hi]
  have e : (sumTo (pw sq.length) fun m => z.co m * (Cl.brk x (Cl.at_ hp m)).co i) = sumTo (msT (pw sq.length)).length fun j => ent (scols p sq sq.length x.l) j i * z.co ((msT (pw sq.length)).getD j 0) := by
    rw [sumTo_congr (g := fun m => if pc m = 2 then (fun m => z.co m * (Cl.brk x (Cl.at_ hp m)).co i) m else 0) fun m hm => ?_, sumTo_msT]
    · refine sumTo_congr fun j hj => ?_
      have hm := (msT_at hj).1
      unfold ent scols
      rw [getD_of_lt [] (by rw [List.length_map]; exact hj), List.getElem_map, ← getD_of_lt 0 hj, ← Cl.at_l hp (by omega) hm, ← Cl.brk_l, Int.mul_comm]
      rfl
    · by_cases h : pc m = 2
      · rw [if_pos h]
      · rw [if_neg h, h0 m hm h, Int.zero_mul]
  rw [e]
theorem Cl.brk_self (hp : 0 < p) (x : Cl p sq) : Cl.brk x x = Cl.zero hp := by
  unfold Cl.brk
  rw [Cl.add_comm, Cl.gone]
theorem Cl.zero_all (hp : 0 < p) : ∀ y ∈ (Cl.zero hp : Cl p sq).l, y = 0 := fun y hy => by
  obtain ⟨i, hi, rfl⟩ := List.getElem_of_mem hy
  rw [Cl.len] at hi
  have h := Cl.zero_co (sq := sq) hp hi
  rw [Cl.co_mod] at h
  unfold Cl.co at h
  rw [getD_of_lt 0 (by rw [Cl.len]; exact hi)] at h
  exact h
/-- The rows of the centralizer's basis. -/
theorem cen_row (hP : isP p = true) (h6 : sq.length ≤ 6) {xs : List Int} (hx : xs.length = pw sq.length) (hxs : NumsL p xs) {i : Nat} (hi : i < (cenL p sq sq.length xs).length) :
    ((cenL p sq sq.length xs).getD i []).length = pw sq.length ∧ NumsL p ((cenL p sq sq.length xs).getD i []) ∧ onlyL ((cenL p sq sq.length xs).getD i []) 2 = true ∧ ∀ y ∈ halfL p (brkL p sq sq.length xs ((cenL p sq sq.length xs).getD i [])), y = 0 := by
  have h3 := (isP_ge hP).1
  have hp : 0 < p := by omega
  obtain ⟨h1, h2⟩ := (cenL_tab (by omega) sq sq.length xs).row hi
  obtain ⟨x, rfl⟩ : ∃ x : Cl p sq, x.l = xs := ⟨⟨xs, hx, hxs, hp⟩, rfl⟩
  obtain ⟨z, hz⟩ : ∃ z : Cl p sq, z.l = (cenL p sq sq.length x.l).getD i [] := ⟨⟨_, h1, h2, hp⟩, rfl⟩
  have hs : Sp p (pw sq.length) (cenL p sq sq.length x.l) (fun q => z.co q) := (Sp.row hi).congr fun q _ => by unfold Cl.co; rw [hz]; rfl
  obtain ⟨g1, g2⟩ := (cen_sp hP).1 hs
  refine ⟨h1, h2, ?_, ?_⟩
  · rw [← hz]; exact (Cl.only_co h6 z 2).2 g2
  · rw [← hz, half_cl]
    have e : (invF p 2 * Cl.brk x z : Cl p sq) = Cl.zero hp := Cl.same fun m hm => by rw [Cl.sm_co _ _ hm, g1 m hm, Cl.zero_co hp hm, Int.mul_zero, Int.zero_emod]
    rw [e]; exact Cl.zero_all hp
/-- A bivector lies in the span of its centralizer's basis. -/
theorem cen_own (hP : isP p = true) (h6 : sq.length ≤ 6) {xs : List Int} (hx : xs.length = pw sq.length) (hxs : NumsL p xs) (h2 : onlyL xs 2 = true) : Sp p (pw sq.length) (cenL p sq sq.length xs) (fun q => xs.getD q 0) := by
  have h3 := (isP_ge hP).1
  have hp : 0 < p := by omega
  obtain ⟨x, rfl⟩ : ∃ x : Cl p sq, x.l = xs := ⟨⟨xs, hx, hxs, hp⟩, rfl⟩
  refine (cen_sp hP (z := x)).2 ⟨fun i hi => ?_, (Cl.only_co h6 x 2).1 h2⟩
  rw [Cl.brk_self hp, ← Cl.co_mod, Cl.zero_co hp hi]
theorem cen_empty (hP : isP p = true) (h6 : sq.length ≤ 6) {xs : List Int} (hx : xs.length = pw sq.length) (hxs : NumsL p xs) (h2 : onlyL xs 2 = true) (h0 : cenL p sq sq.length xs = []) : ∀ y ∈ xs, y = 0 := fun y hy => by
  have h := cen_own hP h6 hx hxs h2
  rw [h0] at h
  obtain ⟨i, hi, rfl⟩ := List.getElem_of_mem hy
  have h1 := h.nil i (by rw [← hx]; exact hi)
  obtain ⟨a, b⟩ := hxs _ hy
  rw [getD_of_lt 0 hi, Int.emod_eq_of_lt a b] at h1
  exact h1
/-- With bivectors in the basis there are at least two dimensions. -/
theorem cen_dim (hP : isP p = true) (h1 : 1 ≤ sq.length) (h6 : sq.length ≤ 6) {xs : List Int} (hx : xs.length = pw sq.length) (hxs : NumsL p xs) (h0 : 0 < (cenL p sq sq.length xs).length) : 2 ≤ sq.length := by
  rcases Nat.lt_or_ge sq.length 2 with h | h
  · exfalso
    have hn : sq.length = 1 := by omega
    obtain ⟨g1, g2, g3, -⟩ := cen_row hP h6 hx hxs h0
    have hr : Red (pw sq.length) (cenL p sq sq.length xs) := kernL_red hP _ _
    have hl := hr.lt 0 h0
    have hone := hr.one 0 h0
    have hz := (only_iff (by rw [g1, hn]; decide) 2).1 g3 (ld (cenL p sq sq.length xs) 0) (by rw [g1]; exact hl) (by
      have hl2 : pw sq.length = 2 := by rw [hn]; rfl
      have : ld (cenL p sq sq.length xs) 0 = 0 ∨ ld (cenL p sq sq.length xs) 0 = 1 := by omega
      rcases this with e | e <;> rw [e] <;> decide +kernel)
    rw [ent_getD, hz] at hone
    exact absurd hone (by decide)
  · exact h
/-- A list and a vector of its span have as many in their basis as the list. -/
theorem span_len (hP : isP p = true) {n : Nat} {L : List (List Int)} {v : List Int} (hL : Tab p n L) (hv : v.length = n ∧ NumsL p v) (h : Sp p n L (fun q => v.getD q 0)) : (basisL p (L ++ [v])).length = (basisL p L).length := by
  rw [basisL_same hP (hL.snoc hv) hL (InSp.append (InSp.refl _ _ _) (InSp.of_mem fun x hx => by rw [List.mem_singleton.1 hx]; exact h)) (InSp.of_sub fun x hx => List.mem_append_left _ hx)]
/-- The identity of Jacobi, for brackets divided by 2. -/
theorem Cl.jac_sum (hp : 0 < p) (x y w : Cl p sq) : Cl.brk (Cl.brk x y) w + Cl.brk (Cl.brk y w) x + Cl.brk (Cl.brk w x) y = Cl.zero hp := by
  rw [Cl.brk_jac x y w, Cl.brk_anti (Cl.brk y w) x, Cl.brk_anti (Cl.brk w x) y, Cl.brk_anti w x, Cl.brk_sm_r, Cl.sm_sm, show (-1 : Int) * -1 = 1 from rfl, Cl.one_sm]
  have e1 := Cl.gone (Cl.brk x (Cl.brk y w))
  have e2 := Cl.gone (Cl.brk y (Cl.brk x w))
  have e3 : Cl.brk x (Cl.brk y w) + (-1 : Int) * Cl.brk y (Cl.brk x w) + (-1 : Int) * Cl.brk x (Cl.brk y w) + Cl.brk y (Cl.brk x w) = ((-1 : Int) * Cl.brk x (Cl.brk y w) + Cl.brk x (Cl.brk y w)) + ((-1 : Int) * Cl.brk y (Cl.brk x w) + Cl.brk y (Cl.brk x w)) := by ac_rfl
  rw [e3, e1, e2, Cl.add_zero]
/-- The bracket divided by 2. -/
def hbL (p : Int) (sq xs ys : List Int) : List Int := halfL p (brkL p sq sq.length xs ys)
theorem hb_facts (hP : isP p = true) (h6 : sq.length ≤ 6) {xs ys : List Int} (hx : xs.length = pw sq.length) (hxs : NumsL p xs) (hy : ys.length = pw sq.length) (hys : NumsL p ys) (hx2 : onlyL xs 2 = true) (hy2 : onlyL ys 2 = true) : (hbL p sq xs ys).length = pw sq.length ∧ NumsL p (hbL p sq xs ys) ∧ onlyL (hbL p sq xs ys) 2 = true := by
  have h3 := (isP_ge hP).1
  have hp : 0 < p := by omega
  obtain ⟨x, rfl⟩ : ∃ x : Cl p sq, x.l = xs := ⟨⟨xs, hx, hxs, hp⟩, rfl⟩
  obtain ⟨y, rfl⟩ : ∃ y : Cl p sq, y.l = ys := ⟨⟨ys, hy, hys, hp⟩, rfl⟩
  unfold hbL
  rw [half_cl]
  exact ⟨Cl.len _, Cl.nums _, Cl.brk_biv hp h6 hx2 hy2 _⟩
theorem hb_jac (hP : isP p = true) {xs ys ws : List Int} (hx : xs.length = pw sq.length) (hxs : NumsL p xs) (hy : ys.length = pw sq.length) (hys : NumsL p ys) (hw : ws.length = pw sq.length) (hws : NumsL p ws) :
    ∀ u ∈ plusL p (plusL p (hbL p sq (hbL p sq xs ys) ws) (hbL p sq (hbL p sq ys ws) xs) 1) (hbL p sq (hbL p sq ws xs) ys) 1, u = 0 := by
  have h3 := (isP_ge hP).1
  have hp : 0 < p := by omega
  obtain ⟨x, rfl⟩ : ∃ x : Cl p sq, x.l = xs := ⟨⟨xs, hx, hxs, hp⟩, rfl⟩
  obtain ⟨y, rfl⟩ : ∃ y : Cl p sq, y.l = ys := ⟨⟨ys, hy, hys, hp⟩, rfl⟩
  obtain ⟨w, rfl⟩ : ∃ w : Cl p sq, w.l = ws := ⟨⟨ws, hw, hws, hp⟩, rfl⟩
  unfold hbL
  simp only [half_cl, ← Cl.add_l, Cl.one_sm, Cl.brk_sm_l, ← Cl.sm_add]
  rw [Cl.jac_sum hp, ← Cl.zero_sm (Cl.one hp), Cl.sm_sm, Cl.sm_sm, Int.mul_zero, Cl.zero_sm]
  exact Cl.zero_all hp
theorem partG_two {xs : List Int} (hl : xs.length ≤ 64) : onlyL (partG xs 2) 2 = true := by
  refine (only_iff (by rw [partG_len]; exact hl) 2).2 fun i hi hne => ?_
  rw [partG_len] at hi
  rw [partG_getD hi, if_neg hne]
end
end Go.Proofs.YtggigolkncckoaaGreat

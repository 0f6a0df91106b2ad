/-
  The reduced basis of the kernel of rows: the reference's function.
-/
import Derived.Test.YtommppijnccomaaGreatBasis2
namespace Go.Proofs.YtommppijnccomaaGreat
open Go.RowKit

theorem ldIdx_spec {B : List (List Int)} {k i : Nat} (h : ldIdx B k = some i) : i < B.length ∧ ld B i = k := by
  unfold ldIdx at h
  exact ⟨by simpa using List.mem_of_find?_eq_some h, by simpa using List.find?_some h⟩
/-- Is the row with the first at place k not among the first j? -/
def leftFrom (B : List (List Int)) (j k : Nat) : Bool := match ldIdx B k with | some i => decide (j ≤ i) | none => false
theorem leftFrom_zero {n : Nat} {B : List (List Int)} (hR : Red n B) {k : Nat} (h : isLd B k = true) : leftFrom B 0 k = true := by
  obtain ⟨i, hi, rfl⟩ := isLd_iff.1 h
  unfold leftFrom
  rw [ldIdx_some hR hi]
  simp
theorem leftFrom_succ {n : Nat} {B : List (List Int)} (hR : Red n B) {j : Nat} (hj : j < B.length) (k : Nat) : (leftFrom B j k && !(k == ld B j)) = leftFrom B (j + 1) k := by
  unfold leftFrom
  cases h : ldIdx B k with
  | none => rfl
  | some i =>
    obtain ⟨hi, hk⟩ := ldIdx_spec h
    by_cases hij : i = j
    · subst hij
      simp [hk]
    · have hne : ¬ k = ld B j := fun e => hij (hR.inj hi hj (hk.trans e))
      have : (k == ld B j) = false := by simpa using hne
      simp only [this, Bool.not_false, Bool.and_true]
      rw [Bool.eq_iff_iff, decide_eq_true_eq, decide_eq_true_eq]
      omega
theorem leftFrom_end {B : List (List Int)} (k : Nat) : leftFrom B B.length k = false := by
  unfold leftFrom
  cases h : ldIdx B k with
  | none => rfl
  | some i =>
    have := (ldIdx_spec h).1
    simp only [decide_eq_false_iff_not]
    omega
theorem lds_contains (B : List (List Int)) (k : Nat) : (tab B.length fun i => ((ld B i : Nat) : Int)).contains (k : Int) = isLd B k := by
  rw [Bool.eq_iff_iff, List.contains_iff_mem, isLd_iff]
  constructor
  · intro h
    obtain ⟨i, hi, e⟩ := tab_mem h
    exact ⟨i, hi, by omega⟩
  · rintro ⟨i, hi, rfl⟩
    unfold tab
    exact List.mem_map.2 ⟨i, by simpa using hi, rfl⟩
theorem firstL_ld {n : Nat} {B : List (List Int)} (hR : Red n B) {j : Nat} (hj : j < B.length) (hl : B[j].length = n) : firstL B[j] = ((ld B j : Nat) : Int) := by
  have h1 := hR.lt j hj
  unfold ld at h1 ⊢
  rw [getD_of_lt [] hj] at h1 ⊢
  unfold firstL
  rw [if_pos (by omega)]

set_option maxHeartbeats 400000 in
theorem l01Index_any (A : Option Addr) (n c : Nat) (xs : List Int) (v : Int) (w : World) (hn : n ≤ 1099511627776) (ha : Rd w A n (ints xs)) :
    Calls Tryz.prog 149 #[.slice A n c, .int .i64 v] w fun e w' => ∃ r : Int, e = .returned (.int .i64 r) ∧ decide (0 ≤ r) = xs.contains v ∧ w = w' := by
  have hxl : xs.length = n := by have := ha.1; rwa [ints_length] at this
  have Hx := Lib.hid hxl; clear hxl
  go_enter Tryz.func149, Tryz.ntmps149
  go_wp2
  go_loop [5] (fun i => ∃ k : Nat, k ≤ n ∧ i = .int .i64 k ∧ (xs.take k).contains v = false) (fun i => n - (intOf i).toNat)
  case atStart => exact ⟨0, by omega, rfl, by simp⟩
  case round =>
    obtain ⟨k, hk, rfl, ht⟩ := hrel
    have H := Lib.hid ht; clear ht
    by_cases hlt : k < n
    · obtain ⟨g, o, rfl, hx, hcx⟩ := ha.int hlt
      clear ha
      cases hi : (xs[k] == v)
      all_goals
        have HI := Lib.hid hi
        go_wp2
      · go_round
        case rel =>
          refine ⟨k + 1, by omega, by go_num, ?_⟩
          rw [List.take_succ_eq_append_getElem hx, List.contains_eq_any_beq, List.any_append, ← List.contains_eq_any_beq, H.out]
          have := HI.out
          simp only [beq_eq_false_iff_ne, ne_eq] at this
          simp only [List.any_cons, List.any_nil, Bool.or_false, Bool.false_or, beq_eq_false_iff_ne, ne_eq]
          exact fun e => this e.symm
        case measure => simp [intOf]; omega
      · go_ret
        refine ⟨_, rfl, ?_, rfl⟩
        have hv : xs[k] = v := by simpa using HI.out
        have : xs.contains v = true := by rw [List.contains_iff_mem, ← hv]; exact List.getElem_mem hx
        simpa using this
    · go_wp2
      go_ret
      refine ⟨_, rfl, ?_, rfl⟩
      have := H.out
      rw [List.take_of_length_le (by rw [Hx.out]; omega)] at this
      simpa using this

set_option maxHeartbeats 400000 in
theorem l01Has_any (A : Option Addr) (n c : Nat) (xs : List Int) (v : Int) (w : World) (hn : n ≤ 1099511627776) (ha : Rd w A n (ints xs)) :
    Calls Tryz.prog 137 #[.slice A n c, .int .i64 v] w fun e w' => e = .returned (.bool (xs.contains v)) ∧ w = w' := by
  go_enter Tryz.func137, Tryz.ntmps137
  go_wp2_with fail
  refine (l01Index_any _ _ _ _ _ _ hn ha).mono ?_
  rintro e w1 ⟨r, rfl, hr, rfl⟩
  have HR := Lib.hid hr; clear hr
  go_wp2
  go_ret
  exact ⟨ret_bool HR.out, rfl⟩
theorem l01Has_b {b : Bool} (A : Option Addr) (n c : Nat) (xs : List Int) (v : Int) (w : World) (hn : n ≤ 1099511627776) (ha : Rd w A n (ints xs)) (h : xs.contains v = b) :
    Calls Tryz.prog 137 #[.slice A n c, .int .i64 v] w fun e w' => e = .returned (.bool b) ∧ w = w' := h ▸ l01Has_any A n c xs v w hn ha

set_option maxHeartbeats 6400000 in
set_option maxRecDepth 8000 in
theorem l02Kernel_any (p : Int) (A : Option Addr) (r0 c : Nat) (M : List (List Int)) (n : Nat) (w : World) (HP : isP p = true) (h0 : 0 < r0) (hr0 : r0 ≤ 65536) (hn : n ≤ 65536) (ha : RdII w A r0 M) (hT : Tab p n M) :
    Calls Tryz.prog 104 #[.int .i64 p, .slice A r0 c] w fun e w' => ∃ A' c', e = .returned (.slice A' (kernL p M n).length c') ∧ MkII w w' A' (kernL p M n).length c' (kernL p M n) := by
  obtain ⟨hp3, hp2⟩ := isP_ge HP
  have hp : 2 ≤ p := by omega
  have hbas := fun w' (hb : Below w.heap.size w w') => l02Basis_any p A r0 c M n w' HP hr0 hn (ha.below hb) hT
  have hred := basisL_red HP M hT
  have htab := basisL_tab (p := p) (by omega) M hT
  have HKL : Hid (kernL p M n = basisL p (freeTo p (basisL p M) n n)) := Lib.hid rfl
  have HKT := Lib.hid (kernL_tab hp M n)
  have HKN := Lib.hid (kernL_len HP M n)
  have hdl := hred.len
  obtain ⟨g, o, rfl, -⟩ := ha.at_ h0
  obtain ⟨A0, c0, hc0⟩ := ha.row0 h0 hT
  obtain ⟨B, hB⟩ : ∃ B, B = basisL p M := ⟨_, rfl⟩
  rw [← hB] at hbas hred htab hdl HKL
  have HRED := Lib.hid hred
  have HTAB := Lib.hid htab
  have HP' := Lib.hid HP
  obtain ⟨d, hd⟩ : ∃ d, d = B.length := ⟨_, rfl⟩
  rw [← hd] at hbas hdl
  have HD := Lib.hid hd
  have HBAS := Lib.hid hbas
  clear hB hT ha hred htab HP hd hbas
  have hP0 : (p == 0) = false := by simp; omega
  have hP1 : (p == -1) = false := by simp; omega
  have hP2 : ¬ p = 0 := by omega
  go_enter Tryz.func104, Tryz.ntmps104
  go_wp2
  refine wp_obs 9 [[], [], [0, 1], [], [3], [3, 4], [3, 4, 5], [0, 1, 2], [3, 4, 5, 6]] [VIs (.int .i64 (p)), VIs (.slice (some ⟨g, o, none⟩) r0 c), VMat w d B, VIs (.slice (some ⟨g, o, none⟩) r0 c), VIs (.pointer (some ⟨g, o, none⟩)), VIs (.slice A0 n c0), VIs (.int .i64 (n)), VMat w d B, VIs (.int .i64 (n))] (fun w' => w'.cell? ⟨g, o, none⟩ = some (.slice A0 n c0) ∧ Below w.heap.size w w') (by kernel_rfl) (by kernel_rfl) (fun _ _ h hb => keepB1 h hb (Nat.le_refl _)) (⟨hc0, (Below.refl _ _).drew⟩) (fun x => ?_)
  refine obs_step (Eq.trans (by simp only [List.getElem?_toArray, List.getElem?_cons_zero]; exact rfl) rfl) rfl (fun w' hS hV K hK => ?_) ?_
  · have q0 := hS.1; have q1 := hS.2
    go_simp
    exact hK.out _ _ _ rfl rfl rfl (Below.refl _ _)
  simp only [List.setIfInBounds_toArray, List.set_cons_zero, List.set_cons_succ]
  refine obs_step (Eq.trans (by simp only [List.getElem?_toArray, List.getElem?_cons_succ, List.getElem?_cons_zero]; exact rfl) rfl) rfl (fun w' hS hV K hK => ?_) ?_
  · have q0 := hS.1; have q1 := hS.2
    go_simp
    exact hK.out _ _ _ rfl rfl rfl (Below.refl _ _)
  simp only [List.setIfInBounds_toArray, List.set_cons_zero, List.set_cons_succ]
  refine obs_step (Eq.trans (by simp only [List.getElem?_toArray, List.getElem?_cons_succ, List.getElem?_cons_zero]; exact rfl) rfl) rfl (fun w' hS hV K hK => ?_) ?_
  · have e0 : x 0 = (.int .i64 (p)) := hV 0 (by decide)
    have e1 : x 1 = (.slice (some ⟨g, o, none⟩) r0 c) := hV 1 (by decide)
    have q0 := hS.1; have q1 := hS.2
    go_simp
    refine (HBAS.out _ hS.2).mono ?_
    rintro e v1 ⟨A2, c2, rfl, hM⟩
    exact hK.out _ _ _ rfl rfl ⟨_, _, rfl, hM.after hS.2⟩ hM.b
  simp only [List.setIfInBounds_toArray, List.set_cons_zero, List.set_cons_succ]
  refine obs_step (Eq.trans (by simp only [List.getElem?_toArray, List.getElem?_cons_succ, List.getElem?_cons_zero]; exact rfl) rfl) rfl (fun w' hS hV K hK => ?_) ?_
  · have q0 := hS.1; have q1 := hS.2
    go_simp
    exact hK.out _ _ _ rfl rfl rfl (Below.refl _ _)
  simp only [List.setIfInBounds_toArray, List.set_cons_zero, List.set_cons_succ]
  refine obs_step (Eq.trans (by simp only [List.getElem?_toArray, List.getElem?_cons_succ, List.getElem?_cons_zero]; exact rfl) rfl) rfl (fun w' hS hV K hK => ?_) ?_
  · have e3 : x 3 = (.slice (some ⟨g, o, none⟩) r0 c) := hV 3 (by decide)
    have q0 := hS.1; have q1 := hS.2
    go_simp
    exact hK.out _ _ _ rfl rfl rfl (Below.refl _ _)
  simp only [List.setIfInBounds_toArray, List.set_cons_zero, List.set_cons_succ]
  refine obs_step (Eq.trans (by simp only [List.getElem?_toArray, List.getElem?_cons_succ, List.getElem?_cons_zero]; exact rfl) rfl) rfl (fun w' hS hV K hK => ?_) ?_
  · have e3 : x 3 = (.slice (some ⟨g, o, none⟩) r0 c) := hV 3 (by decide)
    have e4 : x 4 = (.pointer (some ⟨g, o, none⟩)) := hV 4 (by decide)
    have q0 := hS.1; have q1 := hS.2
    go_simp
    exact hK.out _ _ _ rfl rfl rfl (Below.refl _ _)
  simp only [List.setIfInBounds_toArray, List.set_cons_zero, List.set_cons_succ]
  refine obs_step (Eq.trans (by simp only [List.getElem?_toArray, List.getElem?_cons_succ, List.getElem?_cons_zero]; exact rfl) rfl) rfl (fun w' hS hV K hK => ?_) ?_
  · have e3 : x 3 = (.slice (some ⟨g, o, none⟩) r0 c) := hV 3 (by decide)
    have e4 : x 4 = (.pointer (some ⟨g, o, none⟩)) := hV 4 (by decide)
    have e5 : x 5 = (.slice A0 n c0) := hV 5 (by decide)
    have q0 := hS.1; have q1 := hS.2
    go_simp
    exact hK.out _ _ _ rfl rfl rfl (Below.refl _ _)
  simp only [List.setIfInBounds_toArray, List.set_cons_zero, List.set_cons_succ]
  refine obs_step (Eq.trans (by simp only [List.getElem?_toArray, List.getElem?_cons_succ, List.getElem?_cons_zero]; exact rfl) rfl) rfl (fun w' hS hV K hK => ?_) ?_
  · have e0 : x 0 = (.int .i64 (p)) := hV 0 (by decide)
    have e1 : x 1 = (.slice (some ⟨g, o, none⟩) r0 c) := hV 1 (by decide)
    obtain ⟨A2, c2, e2, h2⟩ := hV 2 (by decide)
    have q0 := hS.1; have q1 := hS.2
    go_simp
    exact hK.out _ _ _ rfl rfl ⟨_, _, rfl, h2⟩ (Below.refl _ _)
  simp only [List.setIfInBounds_toArray, List.set_cons_zero, List.set_cons_succ]
  refine obs_step (Eq.trans (by simp only [List.getElem?_toArray, List.getElem?_cons_succ, List.getElem?_cons_zero]; exact rfl) rfl) rfl (fun w' hS hV K hK => ?_) ?_
  · have e3 : x 3 = (.slice (some ⟨g, o, none⟩) r0 c) := hV 3 (by decide)
    have e4 : x 4 = (.pointer (some ⟨g, o, none⟩)) := hV 4 (by decide)
    have e5 : x 5 = (.slice A0 n c0) := hV 5 (by decide)
    have e6 : x 6 = (.int .i64 (n)) := hV 6 (by decide)
    have q0 := hS.1; have q1 := hS.2
    go_simp
    exact hK.out _ _ _ rfl rfl rfl (Below.refl _ _)
  simp only [List.setIfInBounds_toArray, List.set_cons_zero, List.set_cons_succ]
  refine fun w' hS hV => ?_
  have e0 : x 0 = (.int .i64 (p)) := hV 0 (by decide)
  have e1 : x 1 = (.slice (some ⟨g, o, none⟩) r0 c) := hV 1 (by decide)
  obtain ⟨A2, c2, e2, h2⟩ := hV 2 (by decide)
  have e3 : x 3 = (.slice (some ⟨g, o, none⟩) r0 c) := hV 3 (by decide)
  have e4 : x 4 = (.pointer (some ⟨g, o, none⟩)) := hV 4 (by decide)
  have e5 : x 5 = (.slice A0 n c0) := hV 5 (by decide)
  have e6 : x 6 = (.int .i64 (n)) := hV 6 (by decide)
  obtain ⟨A7, c7, e7, h7⟩ := hV 7 (by decide)
  have e8 : x 8 = (.int .i64 (n)) := hV 8 (by decide)
  simp only [e0, e1, e2, e3, e4, e5, e6, e7, e8]
  clear e0 e1 e2 e3 e4 e5 e6 e7 e8
  refine wpAny_done (by kernel_rfl) ?_ _
  obtain ⟨q0, q1⟩ := hS
  have HB7 := Lib.hid h7
  obtain ⟨wb, hwb⟩ : ∃ W, W = w' := ⟨_, rfl⟩
  rw [← hwb] at HB7 q1 ⊢
  clear h7 h2 hV q0 hwb hc0 HBAS
  have HQ := Lib.hid q1
  clear q1
  have hp0 := Mk.lit (E := 2) (Below.refl wb.heap.size wb) #[] (by simp)
  have hP0' : MkI wb ((wb.alloc (.cells #[] 2)).alloc (.cells #[] 22)) (some ⟨wb.heap.size, 0, none⟩) 0 0 (tab 0 fun i => ((ld B i : Nat) : Int)) := by
    have := hp0.alloc (.cells #[] 22)
    simpa [MkI, ints, tab] using this
  have hl0 : Mk wb ((wb.alloc (.cells #[] 2)).alloc (.cells #[] 22)) 22 (some ⟨wb.heap.size + 1, 0, none⟩) 0 0 [] := by
    have := Mk.lit (E := 22) (w0 := wb) (w := wb.alloc (.cells #[] 2)) ((Below.refl _ _).alloc (Nat.le_refl _) _) #[] (by simp)
    simpa using this
  clear hp0
  go_wp2
  obtain ⟨w2, hw2⟩ : ∃ W, W = (wb.alloc (.cells #[] 2)).alloc (.cells #[] 22) := ⟨_, rfl⟩
  rw [← hw2] at hP0' hl0 ⊢
  clear hw2
  have hlo : Own w2 wb.heap.size 22 (some ⟨wb.heap.size + 1, 0, none⟩) 0 0 [] := hl0.2
  clear hl0
  go_loopw [7, 9] (fun pv i wr => ∃ (j : Nat) (A' : Option Addr) (c' : Nat), j ≤ d ∧ i = .int .i64 j ∧ pv = .slice A' j c' ∧ MkI wb wr A' j c' (tab j fun i => ((ld B i : Nat) : Int)) ∧ Own wr wb.heap.size 22 (some ⟨wb.heap.size + 1, 0, none⟩) 0 0 []) (fun _ i _ => d - (intOf i).toNat)
  case atStart => exact ⟨0, _, _, by omega, rfl, rfl, hP0', hlo⟩
  case round =>
    obtain ⟨j, A', c', hj, rfl, rfl, hM, hlo2⟩ := hrel
    clear hP0' hlo
    have HLO := Lib.hid hlo2
    clear hlo2
    by_cases hlj : j < d
    · obtain ⟨g7, o7, rfl, hxj, Aj, cj, hcj, hrj, -⟩ := (HB7.out.rd.below hM.b).at_ hlj
      have HRJ := Lib.hid (HTAB.out B[j] (List.getElem_mem hxj))
      have hl := HRJ.out.1
      have hfl := firstL_ld HRED.out hxj hl
      rw [hl] at hcj hrj
      have hlead := l02First_any Aj n cj B[j] wr (by omega) hrj
      rw [hfl] at hlead
      have HV : Hid ((tab (j + 1) fun i => ((ld B i : Nat) : Int)) = (tab j fun i => ((ld B i : Nat) : Int)) ++ [((ld B j : Nat) : Int)]) := Lib.hid (tab_succ _ _)
      obtain ⟨l, hl'⟩ : ∃ l, l = ld B j := ⟨_, rfl⟩
      rw [← hl'] at hlead HV
      have HM := Lib.hid hM
      clear hl hl' hfl hrj hM HRJ
      go_wp2_with (first
        | (go_at_call 49; refine hlead.mono ?_; rintro e w' ⟨rfl, rfl⟩)
        | (at_builtin; refine wpList_app1 wb _ 22 2 _ _ Tryz.underlying22 info_i rfl (by omega) rfl _ _ rfl A' j c' _ _ HM.out (by omega) rfl rfl rfl ?_; intro A4 c4 w4 hM4 hg4 _))
      go_roundw
      case rel => exact ⟨j + 1, A4, c4, by omega, by go_num, rfl, by rw [HV.out]; simpa [MkI, ints] using hM4, HLO.out.grown hg4 (HLO.out.ne HM.out.2 (by decide))⟩
      case measure => simp [intOf]; omega
    · obtain rfl : j = d := by omega
      have HPV := Lib.hid hM
      have HCON : Hid (∀ f : Nat, (tab j fun i => ((ld B i : Nat) : Int)).contains (f : Int) = isLd B f) := Lib.hid (fun f => by rw [HD.out]; exact lds_contains B f)
      have hM0 : MkII wb wr (some ⟨wb.heap.size + 1, 0, none⟩) 0 0 (freeTo p B n 0) := ⟨[], ⟨hM.b, HLO.out⟩, Nest.nil _ _⟩
      have hpo : Own wr wb.heap.size 2 A' j c' (ints (tab j fun i => ((ld B i : Nat) : Int))) := hM.2
      have hmk := make_i (P := Tryz.prog) 22 2 Tryz.underlying22 info_i n (by omega)
      clear hM
      go_wp2
      go_loopw [8, 10] (fun out i wr => ∃ (f q : Nat) (A2 : Option Addr) (c2 : Nat), f ≤ n ∧ q ≤ f ∧ i = .int .i64 f ∧ out = .slice A2 q c2 ∧ MkII wb wr A2 q c2 (freeTo p B n f) ∧ Own wr wb.heap.size 2 A' j c' (ints (tab j fun i => ((ld B i : Nat) : Int)))) (fun _ i _ => n - (intOf i).toNat)
      case atStart => exact ⟨0, 0, _, _, by omega, by omega, rfl, rfl, hM0, hpo⟩
      case round =>
        obtain ⟨f, q, A2, c2, hf, hq, rfl, rfl, hM, hpo2⟩ := hrel
        clear hM0 hpo
        obtain ⟨wo, rfl⟩ : ∃ W, W = wr := ⟨_, rfl⟩
        have HM := Lib.hid hM
        have HPO := Lib.hid hpo2
        clear hM hpo2
        by_cases hlf : f < n
        · cases hlb : isLd B f
          · have hhas := l01Has_b A' j c' (tab j fun i => ((ld B i : Nat) : Int)) (f : Int) wo (by omega) (Own.rd HPO.out) ((HCON.out f).trans hlb)
            have hm1 := Mk.made (E := 2) (n := n) (z := .int .i64 0) (Below.refl wo.heap.size wo) (by simp only [maxLen]; omega)
            rw [ints_replicate] at hm1
            obtain ⟨u1, hc1⟩ := hm1.2.cellI hlf
            have hf1 := hm1.2.frozen_ f
            have hm2 := (hm1.set f (.int .i64 1)).1
            rw [ints_set, World.setCell_alloc_at _ _ _ _ _ rfl] at hm2
            have hm3 := hm2
            rw [show (List.replicate n (0 : Int)).set f 1 = freePart p B n f (leftFrom B 0) from (freePart_start p B n f hlf (leftFrom B 0) (fun k _ hk => leftFrom_zero HRED.out hk)).symm] at hm3
            clear hm1 hm2
            go_wp2_with (go_at_call 137; refine hhas.mono ?_; rintro e w' ⟨rfl, rfl⟩)
            go_loopw [12] (fun i wr => ∃ k : Nat, k ≤ j ∧ i = .int .i64 k ∧ MkI wo wr (some ⟨wo.heap.size, 0, none⟩) n n (freePart p B n f (leftFrom B k))) (fun i _ => j - (intOf i).toNat)
            case atStart => exact ⟨0, by omega, rfl, hm3⟩
            case round =>
              obtain ⟨k, hk, rfl, hmv⟩ := hrel
              clear hm3 hc1 hf1 hhas
              have HMV := Lib.hid hmv
              clear hmv
              by_cases hlk : k < j
              · have hbo := HM.out.b.trans (HMV.out.b.mono HM.out.b.size)
                obtain ⟨g7, o7, rfl, hxl, Ai, ci, hci, hri, -⟩ := (HB7.out.rd.below hbo).at_ hlk
                have HRI := Lib.hid (HTAB.out B[k] (List.getElem_mem hxl))
                have hl := HRI.out.1
                rw [hl] at hci hri
                obtain ⟨gi, oi, rfl, hxe, hce⟩ := hri.int hlf
                have HE : Hid (ent B k f = B[k][f]) := Lib.hid (ent_at hxl hxe)
                obtain ⟨y, hy⟩ : ∃ y, y = B[k][f] := ⟨_, rfl⟩
                have hyb : 0 ≤ y ∧ y < p := hy ▸ HRI.out.2 _ (List.getElem_mem hxe)
                rw [← hy] at hce HE
                have hld := HRED.out.lt k (by rw [← HD.out]; exact hlk)
                obtain ⟨gp, op, rfl, hxp, hcp⟩ := ((Own.rd HPO.out).below HMV.out.b).int hlk
                have hep : (tab j fun i => ((ld B i : Nat) : Int))[k] = ((ld B k : Nat) : Int) := tab_get j _ k hxp
                rw [hep] at hcp
                have HST : Hid ((freePart p B n f (leftFrom B k)).set (ld B k) ((-y) % p) = freePart p B n f (leftFrom B (k + 1))) := Lib.hid (by
                  rw [← HE.out, freePart_step HRED.out (by rw [← HD.out]; exact hlk) hlb]
                  exact freePart_congr p B n f (fun k' _ => leftFrom_succ HRED.out (by rw [← HD.out]; exact hlk) k'))
                have hmb := emod_small (-y) p (by omega)
                have hwy := i64_small (x := p - y) (by omega) (by omega)
                have hty : (p - y).tmod p = (-y) % p := by rw [Int.tmod_eq_emod_of_nonneg (by omega)]; simp
                obtain ⟨l, hl'⟩ : ∃ l, l = ld B k := ⟨_, rfl⟩
                rw [← hl'] at hcp HST hld
                clear hl hl' hy hri HRI hxl hxe hxp hep hbo
                go_wp2
                refine wp_obs 17 [[], [], [], [1, 2], [1, 2, 3], [], [], [], [6, 7], [6, 7, 8], [], [6, 7, 8, 9, 10], [6, 7, 8, 9, 10, 11], [5, 6, 7, 8, 9, 10, 11, 12], [], [5, 6, 7, 8, 9, 10, 11, 12, 13, 14], [0, 1, 2, 3, 4], [0, 1, 2, 3, 4, 5, 6, 7, 8, 9, 10, 11, 12, 13, 14, 15, 16]] [VIs (.slice (some ⟨wo.heap.size, 0, none⟩) n n), VIs (.slice (some ⟨gp, op, none⟩) j c'), VIs (.int .i64 (k)), VIs (.pointer (some ⟨gp, op + k, none⟩)), VIs (.int .i64 (l)), VIs (.int .i64 (p)), VIs (.slice (some ⟨g7, o7, none⟩) j c7), VIs (.int .i64 (k)), VIs (.pointer (some ⟨g7, o7 + k, none⟩)), VIs (.slice (some ⟨gi, oi, none⟩) n ci), VIs (.int .i64 (f)), VIs (.pointer (some ⟨gi, oi + f, none⟩)), VIs (.int .i64 (y)), VIs (.int .i64 (p - y)), VIs (.int .i64 (p)), VIs (.int .i64 ((-y) % p)), VIs (.pointer (some ⟨wo.heap.size, l, none⟩))] (fun w' => w'.cell? ⟨gp, op + k, none⟩ = some (.int .i64 l) ∧ w'.cell? ⟨g7, o7 + k, none⟩ = some (.slice (some ⟨gi, oi, none⟩) n ci) ∧ w'.cell? ⟨gi, oi + f, none⟩ = some (.int .i64 y) ∧ Below wr.heap.size wr w') (by kernel_rfl) (by kernel_rfl) (fun _ _ h hb => keepR3 h hb (Nat.le_refl _)) (⟨hcp, hci, hce, (Below.refl _ _).drew⟩) (fun x => ?_)
                refine obs_step (Eq.trans (by simp only [List.getElem?_toArray, List.getElem?_cons_zero]; exact rfl) rfl) rfl (fun w' hS hV K hK => ?_) ?_
                · have q0 := hS.1; have q1 := hS.2.1; have q2 := hS.2.2.1; have q3 := hS.2.2.2
                  go_simp
                  exact hK.out _ _ _ rfl rfl rfl (Below.refl _ _)
                simp only [List.setIfInBounds_toArray, List.set_cons_zero, List.set_cons_succ]
                refine obs_step (Eq.trans (by simp only [List.getElem?_toArray, List.getElem?_cons_succ, List.getElem?_cons_zero]; exact rfl) rfl) rfl (fun w' hS hV K hK => ?_) ?_
                · have q0 := hS.1; have q1 := hS.2.1; have q2 := hS.2.2.1; have q3 := hS.2.2.2
                  go_simp
                  exact hK.out _ _ _ rfl rfl rfl (Below.refl _ _)
                simp only [List.setIfInBounds_toArray, List.set_cons_zero, List.set_cons_succ]
                refine obs_step (Eq.trans (by simp only [List.getElem?_toArray, List.getElem?_cons_succ, List.getElem?_cons_zero]; exact rfl) rfl) rfl (fun w' hS hV K hK => ?_) ?_
                · have q0 := hS.1; have q1 := hS.2.1; have q2 := hS.2.2.1; have q3 := hS.2.2.2
                  go_simp
                  exact hK.out _ _ _ rfl rfl rfl (Below.refl _ _)
                simp only [List.setIfInBounds_toArray, List.set_cons_zero, List.set_cons_succ]
                refine obs_step (Eq.trans (by simp only [List.getElem?_toArray, List.getElem?_cons_succ, List.getElem?_cons_zero]; exact rfl) rfl) rfl (fun w' hS hV K hK => ?_) ?_
                · have e1 : x 1 = (.slice (some ⟨gp, op, none⟩) j c') := hV 1 (by decide)
                  have e2 : x 2 = (.int .i64 (k)) := hV 2 (by decide)
                  have q0 := hS.1; have q1 := hS.2.1; have q2 := hS.2.2.1; have q3 := hS.2.2.2
                  go_simp
                  exact hK.out _ _ _ rfl rfl rfl (Below.refl _ _)
                simp only [List.setIfInBounds_toArray, List.set_cons_zero, List.set_cons_succ]
                refine obs_step (Eq.trans (by simp only [List.getElem?_toArray, List.getElem?_cons_succ, List.getElem?_cons_zero]; exact rfl) rfl) rfl (fun w' hS hV K hK => ?_) ?_
                · have e1 : x 1 = (.slice (some ⟨gp, op, none⟩) j c') := hV 1 (by decide)
                  have e2 : x 2 = (.int .i64 (k)) := hV 2 (by decide)
                  have e3 : x 3 = (.pointer (some ⟨gp, op + k, none⟩)) := hV 3 (by decide)
                  have q0 := hS.1; have q1 := hS.2.1; have q2 := hS.2.2.1; have q3 := hS.2.2.2
                  go_simp
                  exact hK.out _ _ _ rfl rfl rfl (Below.refl _ _)
                simp only [List.setIfInBounds_toArray, List.set_cons_zero, List.set_cons_succ]
                refine obs_step (Eq.trans (by simp only [List.getElem?_toArray, List.getElem?_cons_succ, List.getElem?_cons_zero]; exact rfl) rfl) rfl (fun w' hS hV K hK => ?_) ?_
                · have q0 := hS.1; have q1 := hS.2.1; have q2 := hS.2.2.1; have q3 := hS.2.2.2
                  go_simp
                  exact hK.out _ _ _ rfl rfl rfl (Below.refl _ _)
                simp only [List.setIfInBounds_toArray, List.set_cons_zero, List.set_cons_succ]
                refine obs_step (Eq.trans (by simp only [List.getElem?_toArray, List.getElem?_cons_succ, List.getElem?_cons_zero]; exact rfl) rfl) rfl (fun w' hS hV K hK => ?_) ?_
                · have q0 := hS.1; have q1 := hS.2.1; have q2 := hS.2.2.1; have q3 := hS.2.2.2
                  go_simp
                  exact hK.out _ _ _ rfl rfl rfl (Below.refl _ _)
                simp only [List.setIfInBounds_toArray, List.set_cons_zero, List.set_cons_succ]
                refine obs_step (Eq.trans (by simp only [List.getElem?_toArray, List.getElem?_cons_succ, List.getElem?_cons_zero]; exact rfl) rfl) rfl (fun w' hS hV K hK => ?_) ?_
                · have q0 := hS.1; have q1 := hS.2.1; have q2 := hS.2.2.1; have q3 := hS.2.2.2
                  go_simp
                  exact hK.out _ _ _ rfl rfl rfl (Below.refl _ _)
                simp only [List.setIfInBounds_toArray, List.set_cons_zero, List.set_cons_succ]
                refine obs_step (Eq.trans (by simp only [List.getElem?_toArray, List.getElem?_cons_succ, List.getElem?_cons_zero]; exact rfl) rfl) rfl (fun w' hS hV K hK => ?_) ?_
                · have e6 : x 6 = (.slice (some ⟨g7, o7, none⟩) j c7) := hV 6 (by decide)
                  have e7 : x 7 = (.int .i64 (k)) := hV 7 (by decide)
                  have q0 := hS.1; have q1 := hS.2.1; have q2 := hS.2.2.1; have q3 := hS.2.2.2
                  go_simp
                  exact hK.out _ _ _ rfl rfl rfl (Below.refl _ _)
                simp only [List.setIfInBounds_toArray, List.set_cons_zero, List.set_cons_succ]
                refine obs_step (Eq.trans (by simp only [List.getElem?_toArray, List.getElem?_cons_succ, List.getElem?_cons_zero]; exact rfl) rfl) rfl (fun w' hS hV K hK => ?_) ?_
                · have e6 : x 6 = (.slice (some ⟨g7, o7, none⟩) j c7) := hV 6 (by decide)
                  have e7 : x 7 = (.int .i64 (k)) := hV 7 (by decide)
                  have e8 : x 8 = (.pointer (some ⟨g7, o7 + k, none⟩)) := hV 8 (by decide)
                  have q0 := hS.1; have q1 := hS.2.1; have q2 := hS.2.2.1; have q3 := hS.2.2.2
                  go_simp
                  exact hK.out _ _ _ rfl rfl rfl (Below.refl _ _)
                simp only [List.setIfInBounds_toArray, List.set_cons_zero, List.set_cons_succ]
                refine obs_step (Eq.trans (by simp only [List.getElem?_toArray, List.getElem?_cons_succ, List.getElem?_cons_zero]; exact rfl) rfl) rfl (fun w' hS hV K hK => ?_) ?_
                · have q0 := hS.1; have q1 := hS.2.1; have q2 := hS.2.2.1; have q3 := hS.2.2.2
                  go_simp
                  exact hK.out _ _ _ rfl rfl rfl (Below.refl _ _)
                simp only [List.setIfInBounds_toArray, List.set_cons_zero, List.set_cons_succ]
                refine obs_step (Eq.trans (by simp only [List.getElem?_toArray, List.getElem?_cons_succ, List.getElem?_cons_zero]; exact rfl) rfl) rfl (fun w' hS hV K hK => ?_) ?_
                · have e6 : x 6 = (.slice (some ⟨g7, o7, none⟩) j c7) := hV 6 (by decide)
                  have e7 : x 7 = (.int .i64 (k)) := hV 7 (by decide)
                  have e8 : x 8 = (.pointer (some ⟨g7, o7 + k, none⟩)) := hV 8 (by decide)
                  have e9 : x 9 = (.slice (some ⟨gi, oi, none⟩) n ci) := hV 9 (by decide)
                  have e10 : x 10 = (.int .i64 (f)) := hV 10 (by decide)
                  have q0 := hS.1; have q1 := hS.2.1; have q2 := hS.2.2.1; have q3 := hS.2.2.2
                  go_simp
                  exact hK.out _ _ _ rfl rfl rfl (Below.refl _ _)
                simp only [List.setIfInBounds_toArray, List.set_cons_zero, List.set_cons_succ]
                refine obs_step (Eq.trans (by simp only [List.getElem?_toArray, List.getElem?_cons_succ, List.getElem?_cons_zero]; exact rfl) rfl) rfl (fun w' hS hV K hK => ?_) ?_
                · have e6 : x 6 = (.slice (some ⟨g7, o7, none⟩) j c7) := hV 6 (by decide)
                  have e7 : x 7 = (.int .i64 (k)) := hV 7 (by decide)
                  have e8 : x 8 = (.pointer (some ⟨g7, o7 + k, none⟩)) := hV 8 (by decide)
                  have e9 : x 9 = (.slice (some ⟨gi, oi, none⟩) n ci) := hV 9 (by decide)
                  have e10 : x 10 = (.int .i64 (f)) := hV 10 (by decide)
                  have e11 : x 11 = (.pointer (some ⟨gi, oi + f, none⟩)) := hV 11 (by decide)
                  have q0 := hS.1; have q1 := hS.2.1; have q2 := hS.2.2.1; have q3 := hS.2.2.2
                  go_simp
                  exact hK.out _ _ _ rfl rfl rfl (Below.refl _ _)
                simp only [List.setIfInBounds_toArray, List.set_cons_zero, List.set_cons_succ]
                refine obs_step (Eq.trans (by simp only [List.getElem?_toArray, List.getElem?_cons_succ, List.getElem?_cons_zero]; exact rfl) rfl) rfl (fun w' hS hV K hK => ?_) ?_
                · have e5 : x 5 = (.int .i64 (p)) := hV 5 (by decide)
                  have e6 : x 6 = (.slice (some ⟨g7, o7, none⟩) j c7) := hV 6 (by decide)
                  have e7 : x 7 = (.int .i64 (k)) := hV 7 (by decide)
                  have e8 : x 8 = (.pointer (some ⟨g7, o7 + k, none⟩)) := hV 8 (by decide)
                  have e9 : x 9 = (.slice (some ⟨gi, oi, none⟩) n ci) := hV 9 (by decide)
                  have e10 : x 10 = (.int .i64 (f)) := hV 10 (by decide)
                  have e11 : x 11 = (.pointer (some ⟨gi, oi + f, none⟩)) := hV 11 (by decide)
                  have e12 : x 12 = (.int .i64 (y)) := hV 12 (by decide)
                  have q0 := hS.1; have q1 := hS.2.1; have q2 := hS.2.2.1; have q3 := hS.2.2.2
                  go_simp
                  exact hK.out _ _ _ rfl rfl rfl (Below.refl _ _)
                simp only [List.setIfInBounds_toArray, List.set_cons_zero, List.set_cons_succ]
                refine obs_step (Eq.trans (by simp only [List.getElem?_toArray, List.getElem?_cons_succ, List.getElem?_cons_zero]; exact rfl) rfl) rfl (fun w' hS hV K hK => ?_) ?_
                · have q0 := hS.1; have q1 := hS.2.1; have q2 := hS.2.2.1; have q3 := hS.2.2.2
                  go_simp
                  exact hK.out _ _ _ rfl rfl rfl (Below.refl _ _)
                simp only [List.setIfInBounds_toArray, List.set_cons_zero, List.set_cons_succ]
                refine obs_step (Eq.trans (by simp only [List.getElem?_toArray, List.getElem?_cons_succ, List.getElem?_cons_zero]; exact rfl) rfl) rfl (fun w' hS hV K hK => ?_) ?_
                · have e5 : x 5 = (.int .i64 (p)) := hV 5 (by decide)
                  have e6 : x 6 = (.slice (some ⟨g7, o7, none⟩) j c7) := hV 6 (by decide)
                  have e7 : x 7 = (.int .i64 (k)) := hV 7 (by decide)
                  have e8 : x 8 = (.pointer (some ⟨g7, o7 + k, none⟩)) := hV 8 (by decide)
                  have e9 : x 9 = (.slice (some ⟨gi, oi, none⟩) n ci) := hV 9 (by decide)
                  have e10 : x 10 = (.int .i64 (f)) := hV 10 (by decide)
                  have e11 : x 11 = (.pointer (some ⟨gi, oi + f, none⟩)) := hV 11 (by decide)
                  have e12 : x 12 = (.int .i64 (y)) := hV 12 (by decide)
                  have e13 : x 13 = (.int .i64 (p - y)) := hV 13 (by decide)
                  have e14 : x 14 = (.int .i64 (p)) := hV 14 (by decide)
                  have q0 := hS.1; have q1 := hS.2.1; have q2 := hS.2.2.1; have q3 := hS.2.2.2
                  go_simp
                  exact hK.out _ _ _ rfl rfl rfl (Below.refl _ _)
                simp only [List.setIfInBounds_toArray, List.set_cons_zero, List.set_cons_succ]
                refine obs_step (Eq.trans (by simp only [List.getElem?_toArray, List.getElem?_cons_succ, List.getElem?_cons_zero]; exact rfl) rfl) rfl (fun w' hS hV K hK => ?_) ?_
                · have e0 : x 0 = (.slice (some ⟨wo.heap.size, 0, none⟩) n n) := hV 0 (by decide)
                  have e1 : x 1 = (.slice (some ⟨gp, op, none⟩) j c') := hV 1 (by decide)
                  have e2 : x 2 = (.int .i64 (k)) := hV 2 (by decide)
                  have e3 : x 3 = (.pointer (some ⟨gp, op + k, none⟩)) := hV 3 (by decide)
                  have e4 : x 4 = (.int .i64 (l)) := hV 4 (by decide)
                  have q0 := hS.1; have q1 := hS.2.1; have q2 := hS.2.2.1; have q3 := hS.2.2.2
                  go_simp
                  exact hK.out _ _ _ rfl rfl rfl (Below.refl _ _)
                simp only [List.setIfInBounds_toArray, List.set_cons_zero, List.set_cons_succ]
                refine fun w' hS hV => ?_
                have e0 : x 0 = (.slice (some ⟨wo.heap.size, 0, none⟩) n n) := hV 0 (by decide)
                have e1 : x 1 = (.slice (some ⟨gp, op, none⟩) j c') := hV 1 (by decide)
                have e2 : x 2 = (.int .i64 (k)) := hV 2 (by decide)
                have e3 : x 3 = (.pointer (some ⟨gp, op + k, none⟩)) := hV 3 (by decide)
                have e4 : x 4 = (.int .i64 (l)) := hV 4 (by decide)
                have e5 : x 5 = (.int .i64 (p)) := hV 5 (by decide)
                have e6 : x 6 = (.slice (some ⟨g7, o7, none⟩) j c7) := hV 6 (by decide)
                have e7 : x 7 = (.int .i64 (k)) := hV 7 (by decide)
                have e8 : x 8 = (.pointer (some ⟨g7, o7 + k, none⟩)) := hV 8 (by decide)
                have e9 : x 9 = (.slice (some ⟨gi, oi, none⟩) n ci) := hV 9 (by decide)
                have e10 : x 10 = (.int .i64 (f)) := hV 10 (by decide)
                have e11 : x 11 = (.pointer (some ⟨gi, oi + f, none⟩)) := hV 11 (by decide)
                have e12 : x 12 = (.int .i64 (y)) := hV 12 (by decide)
                have e13 : x 13 = (.int .i64 (p - y)) := hV 13 (by decide)
                have e14 : x 14 = (.int .i64 (p)) := hV 14 (by decide)
                have e15 : x 15 = (.int .i64 ((-y) % p)) := hV 15 (by decide)
                have e16 : x 16 = (.pointer (some ⟨wo.heap.size, l, none⟩)) := hV 16 (by decide)
                simp only [e0, e1, e2, e3, e4, e5, e6, e7, e8, e9, e10, e11, e12, e13, e14, e15, e16]
                clear e0 e1 e2 e3 e4 e5 e6 e7 e8 e9 e10 e11 e12 e13 e14 e15 e16
                obtain ⟨q0, q1, q2, q3⟩ := hS
                have hm5 := HMV.out.below q3
                obtain ⟨hoc, hof⟩ := mkI_at hm5 hld
                refine any_one (j := 17) (by kernel_rfl) (Eq.trans (by simp only [List.getElem?_toArray, List.getElem?_cons_succ, List.getElem?_cons_zero]; exact rfl) rfl) (fun K hK => ?_)
                go_simp
                refine hK.out _ _ (wpAny_done (by kernel_rfl) ?_ _)
                have hset := (hm5.set l (.int .i64 ((-y) % p))).1
                rw [ints_set, HST.out] at hset
                clear q0 q1 q2 q3 hm5 hoc hof
                go_wp2
                go_roundw
                case rel => exact ⟨k + 1, by omega, by go_num, hset⟩
                case measure => simp [intOf]; omega
              · obtain rfl : k = j := by omega
                have HFR : Hid (MkI wo wr (some ⟨wo.heap.size, 0, none⟩) n n (freeRow p B n f)) := Lib.hid (by
                  have e : freePart p B n f (leftFrom B k) = freeRow p B n f := freePart_congr p B n f (fun k' _ => by rw [HD.out]; exact leftFrom_end k')
                  rw [← e]; exact HMV.out)
                go_wp2_with (at_builtin; refine wpList_appRowG wb wo _ rfl _ _ rfl A2 q c2 _ _ n n _ HM.out HFR.out (by omega) rfl ?_ ?_; (go_simp); intro A6 c6 w6 hM6 hg6 _)
                have hpn := (HPO.out.below HFR.out.b).grown hg6 ((HPO.out.below HFR.out.b).ne (HM.out.outer.choose_spec.below HFR.out.b).2 (by decide))
                go_roundw
                case rel => exact ⟨f + 1, q + 1, A6, c6, by omega, by omega, by go_num, rfl, by rw [freeTo_take hlb]; exact hM6, hpn⟩
                case measure => simp [intOf]; omega
          · have hhas := l01Has_b A' j c' (tab j fun i => ((ld B i : Nat) : Int)) (f : Int) wo (by omega) (Own.rd HPO.out) ((HCON.out f).trans hlb)
            go_wp2_with (go_at_call 137; refine hhas.mono ?_; rintro e w' ⟨rfl, rfl⟩)
            go_roundw
            case rel => exact ⟨f + 1, q, A2, c2, by omega, by omega, by go_num, rfl, by rw [freeTo_skip hlb]; exact HM.out, HPO.out⟩
            case measure => simp [intOf]; omega
        · obtain rfl : f = n := by omega
          have hlast := l02Basis_any p A2 q c2 (freeTo p B f f) f wo HP'.out (by omega) hn HM.out.rd (freeTo_tab hp B f f)
          rw [← HKL.out] at hlast
          have hbw : Below w.heap.size w wo := HQ.out.trans (HM.out.b.mono HQ.out.size)
          go_wp2_with fail
          refine hlast.mono ?_
          rintro e w5 ⟨A5, c5, rfl, hM5⟩
          have hcopy := l01Own2_any p A5 _ c5 (kernL p M f) f w5 (by have := HKN.out; omega) hn hM5.rd HKT.out
          go_wp2_with fail
          refine hcopy.mono ?_
          rintro e w6 ⟨A6, c6, rfl, hM6⟩
          go_wp2
          go_ret
          exact ⟨_, _, rfl, (hM6.after hM5.b).after hbw⟩
end Go.Proofs.YtommppijnccomaaGreat

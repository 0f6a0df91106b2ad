/-
  LawFnCayleys: part 2 of the texts that the proof needs. No condition.
-/
import Derived.Test.YtdbibmilicjllaaGreatP1
namespace Go.Proofs.YtdbibmilicjllaaGreat
open Go.RowKit
theorem leadL_step {v : List Int} {k : Nat} (h : k ≤ leadL v) (hk : k < v.length) (h0 : v[k] = 0) : k + 1 ≤ leadL v := by
  rcases Nat.lt_or_ge k (leadL v) with h1 | h1
  · exact h1
  · have e : leadL v = k := by omega
    have := leadL_at v (by omega)
    rw [e, getD_of_lt 0 hk] at this
    exact absurd h0 this
theorem leadL_stop {v : List Int} {k : Nat} (h : k ≤ leadL v) (hk : k < v.length) (h0 : v[k] ≠ 0) : leadL v = k := by
  rcases Nat.lt_or_ge k (leadL v) with h1 | h1
  · have := leadL_before v k h1
    rw [getD_of_lt 0 hk] at this
    exact absurd this h0
  · omega
theorem leadL_end {v : List Int} {k : Nat} (h : k ≤ leadL v) (hk : k = v.length) : leadL v = v.length := by
  have := leadL_le v; omega
set_option maxHeartbeats 400000 in
set_option maxRecDepth 8000 in
theorem lead_any (A : Option Addr) (n c : Nat) (xs : List Int) (w : World) (hn : n ≤ 1099511627776) (ha : Rd w A n (ints xs)) :
    Calls Tryz.prog 341 #[.slice A n c] w fun e w' => e = .returned (.int .i64 (leadL xs)) ∧ w = w' := by
  have hxl : xs.length = n := by have := ha.1; rwa [ints_length] at this
  have Hx := Lib.hid hxl; clear hxl
  go_enter Tryz.func341, Tryz.ntmps341
  go_wp2
  go_loop [3] (fun i => ∃ k : Nat, k ≤ n ∧ i = .int .i64 k ∧ k ≤ leadL xs) (fun i => n - (intOf i).toNat)
  case atStart => exact ⟨0, by omega, rfl, by omega⟩
  case round =>
    obtain ⟨k, hk, rfl, ht⟩ := hrel
    have H := Lib.hid ht; clear ht
    by_cases hlt : k < n
    · obtain ⟨g, o, rfl, hx, hcx⟩ := ha.int hlt
      clear ha
      cases hi : (xs[k] == 0)
      all_goals
        have HI := Lib.hid hi
        go_wp2
      · go_ret
        exact ⟨ret_int (by rw [leadL_stop H.out hx (by simpa using HI.out)]), rfl⟩
      · go_round
        case rel => exact ⟨k + 1, by omega, by go_num, leadL_step H.out hx (by simpa using HI.out)⟩
        case measure => simp [intOf]; omega
    · go_wp2
      go_ret
      have := H.out
      exact ⟨ret_int (by rw [leadL_end this (by rw [Hx.out]; omega), Hx.out]; congr 1; omega), rfl⟩
/-- The part of grade k. -/
def partG (xs : List Int) (k : Nat) : List Int := tab xs.length fun i => if pc i = k then xs.getD i 0 else 0
theorem partG_len (xs : List Int) (k : Nat) : (partG xs k).length = xs.length := tab_len _ _
theorem partG_nums {p : Int} (hp : 0 < p) {xs : List Int} (h : NumsL p xs) (k : Nat) : NumsL p (partG xs k) := NumsL.tab fun i _ => by
  split
  · exact h.getD hp i
  · omega
theorem tab_pad_set {n k : Nat} {f : Nat → Int} (hk : k < n) : (tab k f ++ List.replicate (n - k) 0).set k (f k) = tab (k + 1) f ++ List.replicate (n - (k + 1)) 0 := by
  rw [List.set_append, if_neg (by rw [tab_len]; omega), tab_len, Nat.sub_self, tab_succ, List.append_assoc]
  congr 1
  obtain ⟨m, hm⟩ : ∃ m, n - k = m + 1 := ⟨n - k - 1, by omega⟩
  rw [hm, show n - (k + 1) = m by omega]
  simp [List.replicate_succ]
theorem tab_pad_zero {n k : Nat} {f : Nat → Int} (hk : k < n) (h0 : f k = 0) : tab k f ++ List.replicate (n - k) 0 = tab (k + 1) f ++ List.replicate (n - (k + 1)) 0 := by
  rw [tab_succ, List.append_assoc, h0]
  congr 1
  obtain ⟨m, hm⟩ : ∃ m, n - k = m + 1 := ⟨n - k - 1, by omega⟩
  rw [hm, show n - (k + 1) = m by omega]
  simp [List.replicate_succ]
set_option maxHeartbeats 800000 in
set_option maxRecDepth 8000 in
theorem l04Part_any (X : Option Addr) (m cx : Nat) (xs : List Int) (q : Nat) (w : World) (hm : m ≤ 64) (_hq : q ≤ 1000) (hx : Rd w X m (ints xs)) :
    Calls Tryz.prog 233 #[.slice X m cx, .int .i64 q] w fun e w' => ∃ A' c', e = .returned (.slice A' m c') ∧ MkI w w' A' m c' (partG xs q) := by
  have hxl : xs.length = m := by have := hx.1; rwa [ints_length] at this
  have hmk := make_i (P := Tryz.prog) 24 2 Tryz.underlying24 info_i m (by omega)
  have hM0 := Mk.made (E := 2) (n := m) (z := .int .i64 0) (Below.refl w.heap.size w) (by simp only [maxLen]; omega)
  rw [ints_replicate] at hM0
  have HP : Hid (partG xs q = tab m fun i => if pc i = q then xs.getD i 0 else 0) := Lib.hid (by unfold partG; rw [hxl])
  clear hxl
  go_enter Tryz.func233, Tryz.ntmps233
  go_wp2
  clear hmk
  go_loopw [6] (fun i wr => ∃ k : Nat, k ≤ m ∧ i = .int .i64 k ∧ MkI w wr (some ⟨w.heap.size, 0, none⟩) m m ((tab k fun i => if pc i = q then xs.getD i 0 else 0) ++ List.replicate (m - k) 0)) (fun i _ => m - (intOf i).toNat)
  case atStart => exact ⟨0, by omega, rfl, by simpa [tab] using hM0⟩
  case round =>
    obtain ⟨k, hk, rfl, hM⟩ := hrel
    clear hM0
    by_cases hlt : k < m
    · obtain ⟨gx, ox, rfl, hxk, hcx⟩ := (hx.below hM.b).int hlt
      by_cases hpc : pc k = q
      · have hb : (((pc k : Nat) : Int) == (q : Int)) = true := by simp [hpc]
        have hset := (hM.set k (.int .i64 xs[k])).1
        have hf : ((tab k fun i => if pc i = q then xs.getD i 0 else 0) ++ List.replicate (m - k) 0).set k xs[k] = (tab (k + 1) fun i => if pc i = q then xs.getD i 0 else 0) ++ List.replicate (m - (k + 1)) 0 := by
          rw [← tab_pad_set hlt]; simp only [hpc, if_true]; rw [getD_of_lt 0 hxk]
        obtain ⟨hoc, hof⟩ := mkI_at hM hlt
        rw [ints_set, hf] at hset
        have HS := Lib.hid hset
        clear hset hM hpc hf
        go_wp2_with (go_at_call 377; refine (l04Grade_any k _ (by omega)).mono ?_; rintro e w' ⟨rfl, rfl⟩)
        go_roundw
        case rel => exact ⟨k + 1, by omega, by go_num, HS.out⟩
        case measure => simp [intOf]; omega
      · have hb : (((pc k : Nat) : Int) == (q : Int)) = false := by simp; omega
        have HS := Lib.hid (tab_pad_zero (f := fun i => if pc i = q then xs.getD i 0 else 0) hlt (if_neg hpc) ▸ hM)
        clear hM hpc
        go_wp2_with (go_at_call 377; refine (l04Grade_any k _ (by omega)).mono ?_; rintro e w' ⟨rfl, rfl⟩)
        go_roundw
        case rel => exact ⟨k + 1, by omega, by go_num, HS.out⟩
        case measure => simp [intOf]; omega
    · obtain rfl : k = m := by omega
      go_wp2
      go_ret
      exact ⟨_, _, rfl, by rw [HP.out]; simpa using hM⟩
end Go.Proofs.YtdbibmilicjllaaGreat
namespace Go.Proofs.YtdbibmilicjllaaGreat
open Go.RowKit
set_option maxRecDepth 8000 in
set_option maxHeartbeats 400000 in
set_option maxRecDepth 8000 in
theorem clone_any (A : Option Addr) (n c : Nat) (xs : List Int) (w : World) (hn : n ≤ 65536) (ha : Rd w A n (ints xs)) :
    Calls Tryz.prog 346 #[.slice A n c] w fun e w' => ∃ A' c', e = .returned (.slice A' n c') ∧ MkI w w' A' n c' xs := by
  have hxl : xs.length = n := by have := ha.1; rwa [ints_length] at this
  cases A with
  | none =>
    have h0 : n = 0 := by
      rcases Nat.eq_zero_or_pos n with h | h
      · exact h
      · obtain ⟨g, o, e, _⟩ := ha.2 h; cases e
    subst h0
    have hxs : xs = [] := List.eq_nil_of_length_eq_zero hxl
    subst hxs
    clear ha hxl hn
    have hq := fun w : World => Lib.run_eql_slice_nil (P := Tryz.prog) w 24 2 none 0 c 0 0 Tryz.underlying24
    simp only [Option.isNone_none] at hq
    go_enter Tryz.func346, Tryz.ntmps346
    go_wp2
    go_ret
    exact ⟨none, 0, rfl, Mk.nil (Below.refl _ _)⟩
  | some p =>
    have hM0 := Mk.lit (E := 2) (Below.refl w.heap.size w) #[] (by simp)
    obtain ⟨i, hi, h1, h2, h3⟩ := info_parts info_i
    obtain ⟨b1, b2⟩ := bound_of (Nat.le_trans hn (by decide))
    clear b1
    have HB := Lib.hid b2
    clear b2
    have hnews : ∀ (j : Nat) (u : Value), (ints xs)[j]? = some u → (w.alloc (.cells #[] 2)).cell? (p.add j) = some u := fun j u hu => by
      have hj : j < n := by have := (List.getElem?_eq_some_iff.1 hu).1; rw [ints_length] at this; omega
      obtain ⟨g, o, e, hc⟩ := (ha.below ((Below.refl _ w).alloc (Nat.le_refl _) (.cells #[] 2))).2 (by omega)
      injection e with e; subst e
      rw [Addr.add_lit]
      exact hc j u hu
    have Hx := Lib.hid hxl
    have HN := Lib.hid hnews
    have HI := Lib.hid hi
    have H1 := Lib.hid h1
    have H2 := Lib.hid h2
    have H3 := Lib.hid h3
    clear hnews hi h1 h2 h3 hxl
    have hq := fun w : World => Lib.run_eql_slice_nil (P := Tryz.prog) w 24 2 (some p) n c 0 0 Tryz.underlying24
    simp only [Option.isNone_some] at hq
    go_enter Tryz.func346, Tryz.ntmps346
    go_wp2_with (at_builtin; refine wpList_append_own_at (w.alloc (.cells #[] 2)) rfl _ _ 24 rfl w.heap.size 2 i _ 1 8 Tryz.underlying24 HI.out H1.out H2.out H3.out rfl (by omega) (.slice (some ⟨w.heap.size, 0, none⟩) 0 0) 0 [] rfl hM0.2 p n c (ints xs) rfl (by rw [ints_length, Hx.out, Nat.mul_one]) HN.out (by intro u hu; obtain ⟨y, _, rfl⟩ := List.mem_map.1 hu; rfl) (by simp only [maxLen]; omega) (by have := HB.out 8 (by omega); omega) (by simp) ?_; intro v' w' hown hg _ _)
    have hb' : Below w.heap.size w w' := hM0.1.grown hg (by simp) (fun k hk => (hM0.2.lt k hk).1)
    rw [Nat.zero_add, List.nil_append] at hown
    rcases hown.2 with ⟨rfl, h0⟩ | ⟨g, cap, cur, rfl, hr⟩
    · subst h0
      go_ret
      exact ⟨none, 0, rfl, hb', hown⟩
    · go_ret
      exact ⟨_, _, rfl, hb', hown⟩
end Go.Proofs.YtdbibmilicjllaaGreat
namespace Go.Proofs.YtdbibmilicjllaaGreat
open Go.RowKit
theorem mul_range {x k : Int} (x1 : 0 ≤ x) (x2 : x ≤ 13) (k1 : -1000 ≤ k) (k2 : k ≤ 1000) : -13000 ≤ k * x ∧ k * x ≤ 13000 := by
  have h1 := Int.mul_le_mul_of_nonneg_right k2 x1
  have h2 := Int.mul_le_mul_of_nonneg_right k1 x1
  omega
set_option maxHeartbeats 800000 in
set_option maxRecDepth 8000 in
theorem plus_any (p : Int) (A : Option Addr) (n c : Nat) (B : Option Addr) (m d : Nat) (k : Int) (xs ys : List Int) (w : World) (hp : 2 ≤ p) (hp2 : p ≤ 13) (hn : n ≤ 65536) (hnm : n ≤ m) (ha : Rd w A n (ints xs)) (hx : NumsL p xs) (hb : Rd w B m (ints ys)) (hy : NumsL p ys) (hk1 : -1000 ≤ k) (hk2 : k ≤ 1000) :
    Calls Tryz.prog 228 #[.int .i64 p, .slice A n c, .slice B m d, .int .i64 k] w fun e w' => ∃ A' c', e = .returned (.slice A' n c') ∧ MkI w w' A' n c' (plusL p xs ys k) := by
  have hxl : xs.length = n := by have := ha.1; rwa [ints_length] at this
  have Hx := Lib.hid hxl; clear hxl
  have hM0 := Mk.lit (E := 2) (Below.refl w.heap.size w) #[] (by simp)
  go_enter Tryz.func228, Tryz.ntmps228
  go_wp2
  go_loopw [9, 10, 11, 15] (fun out _ _ i wr => ∃ (j : Nat) (A' : Option Addr) (c' : Nat), j ≤ n ∧ i = .int .i64 j ∧ out = .slice A' j c' ∧ MkI w wr A' j c' (tab j fun i => (xs.getD i 0 + k * ys.getD i 0) % p)) (fun _ _ _ i _ => n - (intOf i).toNat)
  case atStart => exact ⟨0, _, _, by omega, rfl, rfl, by simpa [MkI, ints, tab] using hM0⟩
  case round =>
    obtain ⟨j, A', c', hj, rfl, rfl, hM⟩ := hrel
    clear hM0
    by_cases hlt : j < n
    · obtain ⟨g, o, rfl, hxj, hcx⟩ := (ha.below hM.b).int hlt
      obtain ⟨g2, o2, rfl, hyj, hcy⟩ := (hb.below hM.b).int (show j < m by omega)
      obtain ⟨x1, x2⟩ := hx _ (List.getElem_mem hxj)
      obtain ⟨y1, y2⟩ := hy _ (List.getElem_mem hyj)
      obtain ⟨m1, m2⟩ := mul_range y1 (show ys[j] ≤ 13 by omega) hk1 hk2
      have HV : Hid ((tab (j + 1) fun i => (xs.getD i 0 + k * ys.getD i 0) % p) = (tab j fun i => (xs.getD i 0 + k * ys.getD i 0) % p) ++ [(xs[j] + k * ys[j]) % p]) := Lib.hid (by rw [tab_succ, getD_of_lt 0 hxj, getD_of_lt 0 hyj])
      have HM := Lib.hid hM
      clear ha hb hM
      go_wp2_with (first
        | (go_at_call 164; refine (num_any _ (xs[j] + k * ys[j]) _ (by omega) hp2 (by omega) (by omega)).mono ?_; rintro e w' ⟨rfl, rfl⟩)
        | (at_builtin; refine wpList_app1 w _ 24 2 _ _ Tryz.underlying24 info_i rfl (by omega) rfl _ _ rfl A' j c' _ _ HM.out (by omega) rfl rfl rfl ?_; intro A2 c2 w2 hM2 _ _))
      go_roundw
      case rel => exact ⟨j + 1, A2, c2, by omega, by go_num, rfl, by rw [HV.out]; simpa [MkI, ints] using hM2⟩
      case measure => simp [intOf]; omega
    · go_wp2
      go_ret
      obtain rfl : j = n := by omega
      exact ⟨_, _, rfl, by unfold plusL; rw [Hx.out]; exact hM⟩
set_option maxHeartbeats 1600000 in
set_option maxRecDepth 8000 in
theorem l02Plus_any (p : Int) (A : Option Addr) (n c : Nat) (B : Option Addr) (m d : Nat) (k : Int) (xs ys : List Int) (w : World) (hp : 2 ≤ p) (hp2 : p ≤ 13) (hn : n ≤ 65536) (hnm : n ≤ m) (ha : Rd w A n (ints xs)) (hx : NumsL p xs) (hb : Rd w B m (ints ys)) (hy : NumsL p ys) (hk1 : 0 ≤ k) (hk2 : k ≤ 1000) :
    Calls Tryz.prog 235 #[.int .i64 p, .slice A n c, .slice B m d, .int .i64 k] w fun e w' => ∃ A' c', e = .returned (.slice A' n c') ∧ MkI w w' A' n c' (plusL p xs ys k) := by
  have hxl : xs.length = n := by have := ha.1; rwa [ints_length] at this
  have Hx := Lib.hid hxl; clear hxl
  have hM0 := Mk.lit (E := 2) (Below.refl w.heap.size w) #[] (by simp)
  go_enter Tryz.func235, Tryz.ntmps235
  go_wp2
  go_loopw [9, 10] (fun out i wr => ∃ (j : Nat) (A' : Option Addr) (c' : Nat), j ≤ n ∧ i = .int .i64 j ∧ out = .slice A' j c' ∧ MkI w wr A' j c' (tab j fun i => (xs.getD i 0 + k * ys.getD i 0) % p)) (fun _ i _ => n - (intOf i).toNat)
  case atStart => exact ⟨0, _, _, by omega, rfl, rfl, by simpa [MkI, ints, tab] using hM0⟩
  case round =>
    obtain ⟨j, A', c', hj, rfl, rfl, hM⟩ := hrel
    clear hM0
    by_cases hlt : j < n
    · obtain ⟨g, o, rfl, hxj, hcx⟩ := (ha.below hM.b).int hlt
      obtain ⟨g2, o2, rfl, hyj, hcy⟩ := (hb.below hM.b).int (show j < m by omega)
      obtain ⟨x1, x2⟩ := hx _ (List.getElem_mem hxj)
      obtain ⟨y1, y2⟩ := hy _ (List.getElem_mem hyj)
      obtain ⟨m1, m2⟩ := mul_small hk1 hk2 y1 (show ys[j] ≤ 13 by omega)
      have HV : Hid ((tab (j + 1) fun i => (xs.getD i 0 + k * ys.getD i 0) % p) = (tab j fun i => (xs.getD i 0 + k * ys.getD i 0) % p) ++ [(xs[j] + k * ys[j]) % p]) := Lib.hid (by rw [tab_succ, getD_of_lt 0 hxj, getD_of_lt 0 hyj])
      have W1 := i64_fit (k * ys[j]) (by omega) (by omega)
      have W2 := i64_fit (xs[j] + k * ys[j]) (by omega) (by omega)
      have W3 : (xs[j] + k * ys[j]).tmod p = (xs[j] + k * ys[j]) % p := Int.tmod_eq_emod_of_nonneg (by omega)
      have i1 : (0 : Int) ≤ (j : Int) := by omega
      have hP0 : ¬ p = 0 := by omega
      have i2 : (j : Int) < (n : Int) := by omega
      have i3 : (j : Int) < (m : Int) := by omega
      go_wp2
      refine wp_obs 15 [[], [], [], [1, 2], [1, 2, 3], [], [], [], [6, 7], [6, 7, 8], [5, 6, 7, 8, 9], [1, 2, 3, 4, 5, 6, 7, 8, 9, 10], [], [1, 2, 3, 4, 5, 6, 7, 8, 9, 10, 11, 12], [1, 2, 3, 4, 5, 6, 7, 8, 9, 10, 11, 12, 13], [0, 1, 2, 3, 4, 5, 6, 7, 8, 9, 10, 11, 12, 13, 14], [0, 1, 2, 3, 4, 5, 6, 7, 8, 9, 10, 11, 12, 13, 14, 15]] [VIs (.slice A' j c'), VIs (.slice (some ⟨g, o, none⟩) n c), VIs (.int .i64 (j)), VIs (.pointer (some ⟨g, o + j, none⟩)), VIs (.int .i64 (xs[j])), VIs (.int .i64 (k)), VIs (.slice (some ⟨g2, o2, none⟩) m d), VIs (.int .i64 (j)), VIs (.pointer (some ⟨g2, o2 + j, none⟩)), VIs (.int .i64 (ys[j])), VIs (.int .i64 (k * ys[j])), VIs (.int .i64 (xs[j] + k * ys[j])), VIs (.int .i64 (p)), VIs (.int .i64 ((xs[j] + k * ys[j]) % p)), VBs 2 #[.int .i64 ((xs[j] + k * ys[j]) % p)]] (fun w' => MkI w w' A' j c' (tab j fun i => (xs.getD i 0 + k * ys.getD i 0) % p) ∧ w'.cell? ⟨g, o + j, none⟩ = some (.int .i64 xs[j]) ∧ w'.cell? ⟨g2, o2 + j, none⟩ = some (.int .i64 ys[j])) (by kernel_rfl) (by kernel_rfl) (fun _ _ h hb => ⟨h.1.below hb, (hb.cell (World.block_lt_of_cell? _ _ h.2.1)).trans h.2.1, (hb.cell (World.block_lt_of_cell? _ _ h.2.2)).trans h.2.2⟩) (⟨hM.drew, hcx, hcy⟩) (fun x => ?_)
      refine obs_step (Eq.trans (by simp only [zA, zC]; exact rfl) rfl) rfl (fun w' hS hV K hK => ?_) ?_
      · obtain ⟨_, q1, q2⟩ := hS
        go_simp
        exact hK.out _ _ _ rfl rfl rfl (Below.refl _ _)
      simp only [zD, zE, zF]
      refine obs_step (Eq.trans (by simp only [zA, zB, zC]; exact rfl) rfl) rfl (fun w' hS hV K hK => ?_) ?_
      · obtain ⟨_, q1, q2⟩ := hS
        go_simp
        exact hK.out _ _ _ rfl rfl rfl (Below.refl _ _)
      simp only [zD, zE, zF]
      refine obs_step (Eq.trans (by simp only [zA, zB, zC]; exact rfl) rfl) rfl (fun w' hS hV K hK => ?_) ?_
      · obtain ⟨_, q1, q2⟩ := hS
        go_simp
        exact hK.out _ _ _ rfl rfl rfl (Below.refl _ _)
      simp only [zD, zE, zF]
      refine obs_step (Eq.trans (by simp only [zA, zB, zC]; exact rfl) rfl) rfl (fun w' hS hV K hK => ?_) ?_
      · have e1 : x 1 = (.slice (some ⟨g, o, none⟩) n c) := hV 1 (by decide)
        have e2 : x 2 = (.int .i64 (j)) := hV 2 (by decide)
        obtain ⟨_, q1, q2⟩ := hS
        go_simp
        exact hK.out _ _ _ rfl rfl rfl (Below.refl _ _)
      simp only [zD, zE, zF]
      refine obs_step (Eq.trans (by simp only [zA, zB, zC]; exact rfl) rfl) rfl (fun w' hS hV K hK => ?_) ?_
      · have e3 : x 3 = (.pointer (some ⟨g, o + j, none⟩)) := hV 3 (by decide)
        obtain ⟨_, q1, q2⟩ := hS
        go_simp
        exact hK.out _ _ _ rfl rfl rfl (Below.refl _ _)
      simp only [zD, zE, zF]
      refine obs_step (Eq.trans (by simp only [zA, zB, zC]; exact rfl) rfl) rfl (fun w' hS hV K hK => ?_) ?_
      · obtain ⟨_, q1, q2⟩ := hS
        go_simp
        exact hK.out _ _ _ rfl rfl rfl (Below.refl _ _)
      simp only [zD, zE, zF]
      refine obs_step (Eq.trans (by simp only [zA, zB, zC]; exact rfl) rfl) rfl (fun w' hS hV K hK => ?_) ?_
      · obtain ⟨_, q1, q2⟩ := hS
        go_simp
        exact hK.out _ _ _ rfl rfl rfl (Below.refl _ _)
      simp only [zD, zE, zF]
      refine obs_step (Eq.trans (by simp only [zA, zB, zC]; exact rfl) rfl) rfl (fun w' hS hV K hK => ?_) ?_
      · obtain ⟨_, q1, q2⟩ := hS
        go_simp
        exact hK.out _ _ _ rfl rfl rfl (Below.refl _ _)
      simp only [zD, zE, zF]
      refine obs_step (Eq.trans (by simp only [zA, zB, zC]; exact rfl) rfl) rfl (fun w' hS hV K hK => ?_) ?_
      · have e6 : x 6 = (.slice (some ⟨g2, o2, none⟩) m d) := hV 6 (by decide)
        have e7 : x 7 = (.int .i64 (j)) := hV 7 (by decide)
        obtain ⟨_, q1, q2⟩ := hS
        go_simp
        exact hK.out _ _ _ rfl rfl rfl (Below.refl _ _)
      simp only [zD, zE, zF]
      refine obs_step (Eq.trans (by simp only [zA, zB, zC]; exact rfl) rfl) rfl (fun w' hS hV K hK => ?_) ?_
      · have e8 : x 8 = (.pointer (some ⟨g2, o2 + j, none⟩)) := hV 8 (by decide)
        obtain ⟨_, q1, q2⟩ := hS
        go_simp
        exact hK.out _ _ _ rfl rfl rfl (Below.refl _ _)
      simp only [zD, zE, zF]
      refine obs_step (Eq.trans (by simp only [zA, zB, zC]; exact rfl) rfl) rfl (fun w' hS hV K hK => ?_) ?_
      · have e5 : x 5 = (.int .i64 (k)) := hV 5 (by decide)
        have e9 : x 9 = (.int .i64 (ys[j])) := hV 9 (by decide)
        obtain ⟨_, q1, q2⟩ := hS
        go_simp
        exact hK.out _ _ _ rfl rfl rfl (Below.refl _ _)
      simp only [zD, zE, zF]
      refine obs_step (Eq.trans (by simp only [zA, zB, zC]; exact rfl) rfl) rfl (fun w' hS hV K hK => ?_) ?_
      · have e4 : x 4 = (.int .i64 (xs[j])) := hV 4 (by decide)
        have e10 : x 10 = (.int .i64 (k * ys[j])) := hV 10 (by decide)
        obtain ⟨_, q1, q2⟩ := hS
        go_simp
        exact hK.out _ _ _ rfl rfl rfl (Below.refl _ _)
      simp only [zD, zE, zF]
      refine obs_step (Eq.trans (by simp only [zA, zB, zC]; exact rfl) rfl) rfl (fun w' hS hV K hK => ?_) ?_
      · obtain ⟨_, q1, q2⟩ := hS
        go_simp
        exact hK.out _ _ _ rfl rfl rfl (Below.refl _ _)
      simp only [zD, zE, zF]
      refine obs_step (Eq.trans (by simp only [zA, zB, zC]; exact rfl) rfl) rfl (fun w' hS hV K hK => ?_) ?_
      · have e11 : x 11 = (.int .i64 (xs[j] + k * ys[j])) := hV 11 (by decide)
        have e12 : x 12 = (.int .i64 (p)) := hV 12 (by decide)
        obtain ⟨_, q1, q2⟩ := hS
        go_simp
        exact hK.out _ _ _ rfl rfl rfl (Below.refl _ _)
      simp only [zD, zE, zF]
      refine obs_step (Eq.trans (by simp only [zA, zB, zC]; exact rfl) rfl) rfl (fun w' hS hV K hK => ?_) ?_
      · have e13 : x 13 = (.int .i64 ((xs[j] + k * ys[j]) % p)) := hV 13 (by decide)
        obtain ⟨_, q1, q2⟩ := hS
        go_simp
        exact hK.out _ _ _ rfl rfl ⟨_, rfl, Blk.new _ _ _⟩ ((Below.refl _ _).alloc (Nat.le_refl _) _)
      simp only [zD, zE, zF]
      refine fun w' hS hV => ?_
      have e0 : x 0 = (.slice A' j c') := hV 0 (by decide)
      have e1 : x 1 = (.slice (some ⟨g, o, none⟩) n c) := hV 1 (by decide)
      have e2 : x 2 = (.int .i64 (j)) := hV 2 (by decide)
      have e3 : x 3 = (.pointer (some ⟨g, o + j, none⟩)) := hV 3 (by decide)
      have e4 : x 4 = (.int .i64 (xs[j])) := hV 4 (by decide)
      have e5 : x 5 = (.int .i64 (k)) := hV 5 (by decide)
      have e6 : x 6 = (.slice (some ⟨g2, o2, none⟩) m d) := hV 6 (by decide)
      have e7 : x 7 = (.int .i64 (j)) := hV 7 (by decide)
      have e8 : x 8 = (.pointer (some ⟨g2, o2 + j, none⟩)) := hV 8 (by decide)
      have e9 : x 9 = (.int .i64 (ys[j])) := hV 9 (by decide)
      have e10 : x 10 = (.int .i64 (k * ys[j])) := hV 10 (by decide)
      have e11 : x 11 = (.int .i64 (xs[j] + k * ys[j])) := hV 11 (by decide)
      have e12 : x 12 = (.int .i64 (p)) := hV 12 (by decide)
      have e13 : x 13 = (.int .i64 ((xs[j] + k * ys[j]) % p)) := hV 13 (by decide)
      obtain ⟨b14, e14, h14⟩ := hV 14 (by decide)
      simp only [e0, e1, e2, e3, e4, e5, e6, e7, e8, e9, e10, e11, e12, e13, e14]
      clear e0 e1 e2 e3 e4 e5 e6 e7 e8 e9 e10 e11 e12 e13 e14
      obtain ⟨s1, s2, s3⟩ := hS
      refine any_plain (j := 15) (by kernel_rfl) (Eq.trans (by simp only [zA, zB, zC]; exact rfl) rfl) rfl (fun K hK => ?_)
      refine wp_app1 w w' 24 2 _ _ Tryz.underlying24 info_i rfl (by omega) _ _ rfl A' j c' _ _ s1 (by omega) rfl _ h14 (by rfl) (by rfl) ?_
      intro A2 c2 w2 hM2 hgr
      refine hK.out _ _ ?_
      simp only [Act.put, zD, zE, zF]
      refine any_one (j := 16) (by kernel_rfl) (Eq.trans (by simp only [zA, zB, zC]; exact rfl) rfl) (fun K hK => ?_)
      go_simp
      refine hK.out _ _ (wpAny_done (by kernel_rfl) ?_ _)
      clear W1 W2 W3 s2 s3 hM
      go_wp2
      go_roundw
      case rel => exact ⟨j + 1, A2, c2, by omega, by go_num, rfl, by rw [HV.out]; simpa [MkI, ints] using hM2⟩
      case measure => simp [intOf]; omega
    · go_wp2
      go_ret
      obtain rfl : j = n := by omega
      exact ⟨_, _, rfl, by unfold plusL; rw [Hx.out]; exact hM⟩
end Go.Proofs.YtdbibmilicjllaaGreat
namespace Go.Proofs.YtdbibmilicjllaaGreat
/-- Row r less the multiple of row i that makes its place i 0. -/
def dRow (p : Int) (m : List (List Int)) (i r : Nat) : List Int := plusL p (m.getD r []) (m.getD i []) (-(ent m r i) * invF p (ent m i i))
/-- The rows behind row i and ahead of row j, cleared at place i. -/
def dClr (p : Int) (m : List (List Int)) (i j : Nat) : List (List Int) := tab m.length fun r => if i < r ∧ r < j then dRow p m i r else m.getD r []
/-- The determinant, step by step. -/
def detF (p : Int) : Nat → List (List Int) → Nat → Int → Int
  | 0, _, _, out => out
  | f + 1, m, i, out => if pivOf m i i = m.length then 0 else
      detF p f (dClr p (swapL m i (pivOf m i i)) i m.length) (i + 1) ((if pivOf m i i = i then out else (-out) % p) * ent (swapL m i (pivOf m i i)) i i % p)
def detL (p : Int) (m : List (List Int)) : Int := detF p m.length m 0 1
section
variable {p : Int} {n : Nat} {m : List (List Int)} {i j : Nat}
theorem dClr_len (p : Int) (m : List (List Int)) (i j : Nat) : (dClr p m i j).length = m.length := tab_len _ _
theorem dClr_start (p : Int) (m : List (List Int)) (i : Nat) : dClr p m i (i + 1) = m := by
  refine List.ext_getElem (tab_len _ _) fun r h1 h2 => ?_
  have h := tab_getD (d := []) (n := m.length) (f := fun r => if i < r ∧ r < i + 1 then dRow p m i r else m.getD r []) h2
  rw [if_neg (by omega), getD_of_lt [] h2] at h
  rw [← getD_of_lt [] h1]
  exact h
theorem dClr_getD {r : Nat} (h : r < m.length) : (dClr p m i j).getD r [] = if i < r ∧ r < j then dRow p m i r else m.getD r [] := tab_getD h []
theorem dClr_succ (hj : j < m.length) (h : i < j) : dClr p m i (j + 1) = (dClr p m i j).set j (dRow p m i j) := by
  refine list_ext_getD [] (by rw [List.length_set, dClr_len, dClr_len]) fun r hr => ?_
  rw [dClr_len] at hr
  rw [getD_set, dClr_getD hr, dClr_getD hr, dClr_len]
  by_cases e : j = r
  · subst e
    rw [if_pos ⟨h, by omega⟩, if_pos ⟨rfl, hj⟩]
  · rw [if_neg (c := j = r ∧ _) (fun h => e h.1)]
    by_cases h2 : i < r ∧ r < j
    · rw [if_pos ⟨h2.1, by omega⟩, if_pos h2]
    · rw [if_neg fun h3 => h2 ⟨h3.1, by omega⟩, if_neg h2]
theorem dClr_tab (hp : 0 < p) (h : Tab p n m) (i j : Nat) : Tab p n (dClr p m i j) := Tab.tab fun r hr => by
  split
  · exact ⟨by unfold dRow; rw [plusL_len, (h.row hr).1], plusL_nums hp _ _ _⟩
  · exact h.row hr
theorem swapL_comm (m : List (List Int)) {i j : Nat} (h : i ≠ j) : swapL m i j = swapL m j i := by
  unfold swapL
  rw [List.set_comm _ _ h]
theorem swapL_same (m : List (List Int)) {i : Nat} (hi : i < m.length) : swapL m i i = m := by
  unfold swapL
  refine list_ext_getD [] (by simp) fun r hr => ?_
  rw [getD_set, getD_set]
  by_cases e : i = r
  · subst e; rw [if_pos ⟨rfl, by simpa using hi⟩]
  · rw [if_neg fun h => e h.1, if_neg fun h => e h.1]
theorem detF_small (hp : 0 < p) : ∀ (f : Nat) (m : List (List Int)) (i : Nat) (out : Int), 0 ≤ out ∧ out < p → 0 ≤ detF p f m i out ∧ detF p f m i out < p := by
  intro f
  induction f with
  | zero => intro m i out h; exact h
  | succ f ih =>
    intro m i out h
    unfold detF
    split
    · omega
    · exact ih _ _ _ ⟨Int.emod_nonneg _ (by omega), Int.emod_lt_of_pos _ hp⟩
theorem detL_small (hp : 2 ≤ p) (m : List (List Int)) : 0 ≤ detL p m ∧ detL p m < p := detF_small (by omega) _ _ _ _ (by omega)
theorem detF_none {f : Nat} {out : Int} (h : pivOf m i i = m.length) : detF p (f + 1) m i out = 0 := by unfold detF; rw [if_pos h]
theorem detF_step {f : Nat} {out : Int} (h : ¬ pivOf m i i = m.length) : detF p (f + 1) m i out = detF p f (dClr p (swapL m i (pivOf m i i)) i m.length) (i + 1) ((if pivOf m i i = i then out else (-out) % p) * ent (swapL m i (pivOf m i i)) i i % p) := by
  conv => lhs; unfold detF
  rw [if_neg h]
theorem mul_b {a b : Int} (ha : 0 ≤ a ∧ a ≤ 1000) (hb : 0 ≤ b ∧ b ≤ 1000) : 0 ≤ a * b ∧ a * b ≤ 1000000 := by
  refine ⟨Int.mul_nonneg ha.1 hb.1, ?_⟩
  have := Int.mul_le_mul ha.2 hb.2 hb.1 (by omega : (0 : Int) ≤ 1000)
  omega
end
end Go.Proofs.YtdbibmilicjllaaGreat
namespace Go.Proofs.YtdbibmilicjllaaGreat
open Go.RowKit
/-- The blade of a mask. -/
def bladeL (n m : Nat) : List Int := (List.replicate (pw n) 0).set m 1
theorem bladeL_len (n m : Nat) : (bladeL n m).length = pw n := by simp [bladeL]
/-- The product of two multivectors. -/
def mulL (p : Int) (sq xs ys : List Int) : List Int := prodL p sq (fun _ _ => true) xs ys
/-- The product of several. -/
def timesL (p : Int) (sq : List Int) (n : Nat) (xss : List (List Int)) : List Int := xss.foldl (mulL p sq) (bladeL n 0)
/-- A vector as a multivector: its first k places laid. -/
def vecTo (n : Nat) (v : List Int) (k : Nat) : List Int := (List.range k).foldl (fun o i => o.set (2 ^ i) (v.getD i 0)) (List.replicate (pw n) 0)
theorem vecTo_succ (n : Nat) (v : List Int) (k : Nat) : vecTo n v (k + 1) = (vecTo n v k).set (2 ^ k) (v.getD k 0) := by simp [vecTo, List.range_succ]
theorem vecTo_len (n : Nat) (v : List Int) (k : Nat) : (vecTo n v k).length = pw n := by
  induction k with
  | zero => simp [vecTo]
  | succ k ih => rw [vecTo_succ, List.length_set, ih]
theorem vecTo_nums {p : Int} (hp : 0 < p) (n : Nat) (v : List Int) (hv : NumsL p v) (k : Nat) : NumsL p (vecTo n v k) := by
  induction k with
  | zero => simpa [vecTo] using NumsL.replicate hp _
  | succ k ih => rw [vecTo_succ]; exact ih.set _ (hv.getD hp k)
theorem two_lt {n k : Nat} (h : k < n) : 2 ^ k < pw n := Nat.pow_lt_pow_right (by omega) h
/-- The outer product of two multivectors. -/
def wedgeL (p : Int) (sq xs ys : List Int) : List Int := prodL p sq (fun a b => a &&& b == 0) xs ys
end Go.Proofs.YtdbibmilicjllaaGreat
namespace Go.Proofs.YtdbibmilicjllaaGreat
open Go.RowKit
/-- A number with the sign of s. -/
def sgn (p : Int) (s : Nat) (c : Int) : Int := if s % 2 = 1 then (-c) % p else c
theorem sgn_bound {p : Int} {s : Nat} {c : Int} (hp : 2 ≤ p) (h1 : 0 ≤ c) (h2 : c < p) : 0 ≤ sgn p s c ∧ sgn p s c < p := by
  unfold sgn
  split
  · exact emod_small _ _ (by omega)
  · exact ⟨h1, h2⟩
theorem fac_sgn (p : Int) (sq : List Int) (a b : Nat) : fac p sq a b = sgn p (swaps a b sq.length) (common p sq a b sq.length) := rfl
theorem sgn_flip {p : Int} {s : Nat} {c : Int} (k : Nat) (_hp : 2 ≤ p) (h1 : 0 ≤ c) (h2 : c < p) (hk : k % 2 = 1) : (p - sgn p s c) % p = sgn p (s + k) c := by
  unfold sgn
  by_cases hs : s % 2 = 1
  · rw [if_pos hs, if_neg (by omega)]
    have : (p - -c % p) % p = (p - -c) % p := by rw [Int.sub_emod, Int.emod_emod, ← Int.sub_emod]
    rw [this]
    have : p - -c = c + p := by omega
    rw [this, Int.add_emod_right]
    exact Int.emod_eq_of_lt h1 h2
  · rw [if_neg hs, if_pos (by omega)]
    have : p - c = -c + p := by omega
    rw [this, Int.add_emod_right]
theorem sgn_same {p : Int} {s : Nat} {c : Int} (k : Nat) (hk : ¬ k % 2 = 1) : sgn p (s + k) c = sgn p s c := by
  unfold sgn
  have : (s + k) % 2 = s % 2 := by omega
  rw [this]
theorem neg_mod (x p : Int) : (-(x % p)) % p = (-x) % p := by
  rw [← Int.zero_sub, Int.sub_emod, Int.emod_emod, ← Int.sub_emod, Int.zero_sub]
theorem mod_mul (x q p : Int) : x % p * q % p = x * q % p := by
  rw [Int.mul_emod, Int.emod_emod, ← Int.mul_emod]
theorem sgn_mul (p : Int) (s : Nat) (c q : Int) : sgn p s c * q % p = sgn p s (c * q % p) := by
  unfold sgn
  split
  · rw [mod_mul, neg_mod, Int.neg_mul]
  · rfl
theorem and_bit0 {x k : Nat} (hk : k < 6) (hx : x < 64) : (bits BinOp.and IntKind.i64 ((x : Int) / 2 ^ k) 1 == 0) = !(bit x k == 1) := by
  rw [and_bit hk hx]
  have := bit_lt x k
  rcases (by omega : bit x k = 0 ∨ bit x k = 1) with h | h <;> simp [h]
theorem xor_up_all : ∀ k : Nat, k < 6 → ∀ x : Nat, x < 64 → bits BinOp.xor IntKind.i64 (x : Int) (wrap64 (2 ^ k)) = ((x ^^^ 2 ^ k : Nat) : Int) ∧ (x ^^^ 2 ^ k) < 64 ∧ (x ^^^ 2 ^ k) / 2 ^ (k + 1) = x / 2 ^ (k + 1) := by decide +kernel
theorem shr_nat (x k : Nat) : (x : Int) / 2 ^ k = ((x / 2 ^ k : Nat) : Int) := by simp
theorem up_div {x y k : Nat} (h : x / 2 ^ k = y / 2 ^ k) : x / 2 ^ (k + 1) = y / 2 ^ (k + 1) := by
  rw [Nat.pow_succ, ← Nat.div_div_eq_div_mul, ← Nat.div_div_eq_div_mul, h]
theorem par0 {n : Nat} (h : ((n : Int) % 2 == 1) = false) : ¬ n % 2 = 1 := by
  intro hh
  have : (n : Int) % 2 = 1 := by omega
  rw [this] at h; simp at h
theorem par1 {n : Nat} (h : ((n : Int) % 2 == 1) = true) : n % 2 = 1 := by have := beq_iff_eq.1 h; omega
set_option maxRecDepth 2000 in
set_option maxHeartbeats 1600000 in
set_option maxRecDepth 8000 in
theorem l04Blades_any (P : Int) (A : Option Addr) (n c : Nat) (sq : List Int) (a b : Nat) (w : World) (hp : 2 ≤ P) (hp2 : P ≤ 13) (hn : n ≤ 6) (ha : Rd w A n (ints sq)) (hs : NumsL P sq) (h1 : a < 64) (h2 : b < 64) :
    Calls Tryz.prog 355 #[.agg #[.int .i64 P, .slice A n c], .int .i64 a, .int .i64 b] w fun e w' => e = .returned (.int .i64 (fac P sq a b)) ∧ Below w.heap.size w w' := by
  have hxl : sq.length = n := by have := ha.1; rwa [ints_length] at this
  have Hx := Lib.hid hxl; clear hxl
  go_enter Tryz.func355, Tryz.ntmps355
  go_wp2
  have hk0 := Blk.new w 26 #[.int .i64 P, .slice A n c]
  have hB1 : Below w.heap.size w (w.alloc (.cells #[.int .i64 P, .slice A n c] 26)) := (Below.refl _ w).alloc (Nat.le_refl _) _
  obtain ⟨w1, hw1⟩ : ∃ W, W = w.alloc (.cells #[.int .i64 P, .slice A n c] 26) := ⟨_, rfl⟩
  rw [← hw1] at hk0 hB1 ⊢
  have ha1 := ha.below hB1
  clear ha hw1
  go_loopw [1, 7, 8] (fun av out i wr => ∃ (k x : Nat), k ≤ n ∧ x < 64 ∧ x / 2 ^ k = a / 2 ^ k ∧ i = .int .i64 k ∧ av = .int .i64 x ∧ out = .int .i64 (sgn P (swaps a b k) (common P sq a b k)) ∧ Below w1.heap.size w1 wr) (fun _ _ i _ => n - (intOf i).toNat)
  case atStart => exact ⟨0, a, by omega, h1, rfl, rfl, rfl, rfl, Below.refl _ _⟩
  case round =>
    obtain ⟨k, x, hk, hx64, hxa, rfl, rfl, rfl, hM⟩ := hrel
    have hkr := hk0.below hM hk0.lt
    obtain ⟨kc0, kc1⟩ := hkr.two
    have har := ha1.below hM
    obtain ⟨cb1, cb2⟩ := common_bound P sq a b hp k
    obtain ⟨sb1, sb2⟩ := sgn_bound (s := swaps a b k) hp cb1 cb2
    by_cases hlt : k < n
    · have hb0 := and_bit0 (k := k) (by omega) h2
      by_cases hb : bit b k = 1
      · simp only [hb, beq_self_eq_true, Bool.not_true] at hb0
        have hxa2 := up_div hxa
        have hbx : bit x k = bit a k := by unfold bit; rw [hxa]
        have ha0 : (bits BinOp.and IntKind.i64 ((x : Int) / 2 ^ k) 1 == 1) = (bit a k == 1) := by
          rw [and_bit (by omega) hx64, hbx]
          have := bit_lt a k
          rcases (by omega : bit a k = 0 ∨ bit a k = 1) with h | h <;> simp [h]
        have hv := Lib.hid (shr_nat x (k + 1))
        obtain ⟨hxo, hxo2, hxo3⟩ := xor_up_all k (by omega) x hx64
        have hp6 : pc (a / 2 ^ (k + 1)) ≤ 6 := pc_le 6 _ (Nat.lt_of_le_of_lt (Nat.div_le_self _ _) (by omega))
        have hxl : x / 2 ^ (k + 1) < 64 := Nat.lt_of_le_of_lt (Nat.div_le_self _ _) hx64
        have HXL := Lib.hid hxl; clear hxl
        have HX2 := Lib.hid hxa2; have HXO := Lib.hid hxo; have HXO2 := Lib.hid hxo2; have HXO3 := Lib.hid hxo3; have HB := Lib.hid hb
        clear hxa2 hxo hxo2 hxo3 hbx hxa hb
        obtain ⟨g, o, rfl, hx, hcx⟩ := har.int hlt
        obtain ⟨sx1, sx2⟩ := hs _ (List.getElem_mem hx)
        have HG : Hid (sq.getD k 0 = sq[k]) := Lib.hid (by rw [List.getD_eq_getElem?_getD, List.getElem?_eq_getElem hx]; rfl)
        clear har ha1 hk0
        cases hpar : ((pc (a / 2 ^ (k + 1)) : Int) % 2 == 1)
        · have hpar' := Lib.hid (par0 hpar)
          cases hba : (bit a k == 1)
          · rw [hba] at ha0
            have hba' : Hid (¬ bit a k = 1) := Lib.hid (by simpa using hba)
            clear hba
            go_wp2_with (go_at_call 377; rw [hv.out]; refine (l04Grade_any _ _ HXL.out).mono ?_; rintro e w' ⟨rfl, rfl⟩; rw [HX2.out])
            go_roundw
            case rel => exact ⟨k + 1, x ^^^ 2 ^ k, by omega, HXO2.out, HXO3.out.trans HX2.out, by go_num, by rw [HXO.out], by simp only [swaps, if_pos HB.out, common, if_neg (fun hh : bit b k = 1 ∧ bit a k = 1 => hba'.out hh.2)]; rw [sgn_same _ hpar'.out], hM⟩
            case measure => simp [intOf]; omega
          · rw [hba] at ha0
            have hba' := Lib.hid (beq_iff_eq.1 hba)
            clear hba
            obtain ⟨m1, m2⟩ := mul_small sb1 (show sgn P (swaps a b k) (common P sq a b k) ≤ 13 by omega) sx1 (show sq[k] ≤ 13 by omega)
            go_wp2_with (go_at_call 377; rw [hv.out]; refine (l04Grade_any _ _ HXL.out).mono ?_; rintro e w' ⟨rfl, rfl⟩; rw [HX2.out])
            go_quiet (fail)
            go_wp2
            go_roundw
            case rel => exact ⟨k + 1, x ^^^ 2 ^ k, by omega, HXO2.out, HXO3.out.trans HX2.out, by go_num, by rw [HXO.out], by simp only [swaps, if_pos HB.out, common, if_pos (And.intro HB.out hba'.out)]; rw [sgn_same _ hpar'.out, HG.out, sgn_mul], below_drewN hM _⟩
            case measure => simp [intOf]; omega
        · have hpar' := par1 hpar
          have hfl := sgn_flip (s := swaps a b k) _ hp cb1 cb2 hpar'
          have HF := Lib.hid hfl
          obtain ⟨fb1, fb2⟩ := sgn_bound (s := swaps a b k + pc (a / 2 ^ (k + 1))) hp cb1 cb2
          clear hfl hpar'
          cases hba : (bit a k == 1)
          · rw [hba] at ha0
            have hba' : Hid (¬ bit a k = 1) := Lib.hid (by simpa using hba)
            clear hba
            go_wp2_with (go_at_call 377; rw [hv.out]; refine (l04Grade_any _ _ HXL.out).mono ?_; rintro e w' ⟨rfl, rfl⟩; rw [HX2.out])
            go_roundw
            case rel => exact ⟨k + 1, x ^^^ 2 ^ k, by omega, HXO2.out, HXO3.out.trans HX2.out, by go_num, by rw [HXO.out], by simp only [swaps, if_pos HB.out, common, if_neg (fun hh : bit b k = 1 ∧ bit a k = 1 => hba'.out hh.2)]; rw [HF.out], hM⟩
            case measure => simp [intOf]; omega
          · rw [hba] at ha0
            have hba' := Lib.hid (beq_iff_eq.1 hba)
            clear hba
            rw [← HF.out] at fb1 fb2
            obtain ⟨m1, m2⟩ := mul_small fb1 (show (P - sgn P (swaps a b k) (common P sq a b k)) % P ≤ 13 by omega) sx1 (show sq[k] ≤ 13 by omega)
            go_wp2_with (go_at_call 377; rw [hv.out]; refine (l04Grade_any _ _ HXL.out).mono ?_; rintro e w' ⟨rfl, rfl⟩; rw [HX2.out])
            go_quiet (fail)
            go_wp2
            go_roundw
            case rel => exact ⟨k + 1, x ^^^ 2 ^ k, by omega, HXO2.out, HXO3.out.trans HX2.out, by go_num, by rw [HXO.out], by simp only [swaps, if_pos HB.out, common, if_pos (And.intro HB.out hba'.out)]; rw [show -sgn P (swaps a b k) (common P sq a b k) % P = (P - sgn P (swaps a b k) (common P sq a b k)) % P by rw [show P - sgn P (swaps a b k) (common P sq a b k) = -sgn P (swaps a b k) (common P sq a b k) + P by omega, Int.add_emod_right], wrap_in _ (by omega) (by omega), Int.tmod_eq_emod_of_nonneg m1, HF.out, HG.out, sgn_mul], below_drewN hM _⟩
            case measure => simp [intOf]; omega
      · simp only [(by simpa using hb : (bit b k == 1) = false), Bool.not_false] at hb0
        have hb' := Lib.hid hb
        go_wp2
        go_roundw
        case rel => exact ⟨k + 1, x, by omega, hx64, up_div hxa, by go_num, rfl, by simp only [swaps, if_neg hb'.out, common, if_neg (fun hh : bit b k = 1 ∧ bit a k = 1 => hb'.out hh.1)]; rfl, hM⟩
        case measure => simp [intOf]; omega
    · obtain rfl : k = n := by omega
      have hBB : Below w.heap.size w wr := hB1.trans (hM.mono hB1.size)
      clear har ha1
      go_wp2
      go_ret
      exact ⟨ret_int (by rw [fac_sgn, Hx.out]), hBB⟩
end Go.Proofs.YtdbibmilicjllaaGreat
namespace Go.Proofs.YtdbibmilicjllaaGreat
open Go.RowKit
theorem mod_mul_add (v a f p : Int) : (v + a % p * f) % p = (v + a * f) % p := by
  rw [Int.add_emod, mod_mul, ← Int.add_emod]
set_option maxRecDepth 2000 in
set_option maxHeartbeats 3200000 in
set_option maxRecDepth 8000 in
theorem l04Times_any (P : Int) (A : Option Addr) (n c : Nat) (sq : List Int) (X : Option Addr) (cx : Nat) (xs : List Int) (Y : Option Addr) (cy : Nat) (ys : List Int) (w : World) (hp : 2 ≤ P) (hp2 : P ≤ 13) (hn : n ≤ 6)
    (ha : Rd w A n (ints sq)) (hs : NumsL P sq) (hx : Rd w X (pw n) (ints xs)) (hxs : NumsL P xs) (hy : Rd w Y (pw n) (ints ys)) (hys : NumsL P ys) :
    Calls Tryz.prog 193 #[.agg #[.int .i64 P, .slice A n c], .slice X (pw n) cx, .slice Y (pw n) cy] w fun e w' => ∃ A' c', e = .returned (.slice A' (pw n) c') ∧ MkI w w' A' (pw n) c' (prodL P sq (fun _ _ => true) xs ys) := by
  have hxl : xs.length = pw n := by have := hx.1; rwa [ints_length] at this
  have hyl : ys.length = pw n := by have := hy.1; rwa [ints_length] at this
  have Hx := Lib.hid hxl; clear hxl
  have Hy := Lib.hid hyl; clear hyl
  have hpw : pw n ≤ 64 := pw_le hn
  have hmk := make_i (P := Tryz.prog) 24 2 Tryz.underlying24 info_i (pw n) (by omega)
  have hB0 : Below w.heap.size w (w.alloc (.cells #[.int .i64 P, .slice A n c] 26)) := (Below.refl _ w).alloc (Nat.le_refl _) _
  have hM := Mk.made (E := 2) (n := pw n) (z := .int .i64 0) hB0 (by simp only [maxLen]; omega)
  rw [ints_replicate] at hM
  have hk0 : Blk ((w.alloc (.cells #[.int .i64 P, .slice A n c] 26)).alloc (.cells (madeCells #[.int .i64 0] (pw n)) 2)) w.heap.size 26 #[.int .i64 P, .slice A n c] := (Blk.new w _ _).alloc _
  go_enter Tryz.func193, Tryz.ntmps193
  go_wp2
  clear hmk
  obtain ⟨w1, hw1⟩ : ∃ W, W = (w.alloc (.cells #[.int .i64 P, .slice A n c] 26)).alloc (.cells (madeCells #[.int .i64 0] (pw n)) 2) := ⟨_, rfl⟩
  rw [← hw1] at hM hk0 ⊢
  rw [World.size_alloc] at hM
  clear hB0 hw1
  obtain ⟨g, hg⟩ : ∃ g, g = w.heap.size + 1 := ⟨_, rfl⟩
  rw [← hg] at hM ⊢
  have hg1 : w.heap.size + 1 ≤ g := by omega
  clear hg
  go_loopw [8, 9] (fun i _ wr => ∃ k : Nat, k ≤ pw n ∧ i = .int .i64 k ∧ MkI w wr (some ⟨g, 0, none⟩) (pw n) (pw n) (addRows P sq (fun _ _ => true) xs ys (List.replicate (pw n) 0) k) ∧ Blk wr w.heap.size 26 #[.int .i64 P, .slice A n c]) (fun i _ _ => pw n - (intOf i).toNat)
  case atStart => exact ⟨0, by omega, rfl, by simpa [addRows] using hM, hk0⟩
  case round =>
    obtain ⟨k, hk, rfl, hM2, hk2⟩ := hrel
    clear hM hk0
    by_cases hlt : k < pw n
    · obtain ⟨gx, ox, hX, hxk, hcw⟩ := hx.int hlt
      subst hX
      obtain ⟨x1, x2⟩ := hxs _ (List.getElem_mem hxk)
      have hxn : Hid (xs.getD k 0 = xs[k]) := Lib.hid (by rw [List.getD_eq_getElem?_getD, List.getElem?_eq_getElem hxk]; rfl)
      have hgx := World.block_lt_of_cell? _ _ hcw
      have HGX : Hid (g ≠ gx) := Lib.hid (by simp at hgx; omega)
      have HCW := Lib.hid hcw
      clear hcw hgx
      have hR0 : MkI w wr (some ⟨g, 0, none⟩) (pw n) (pw n) (addRow P sq (fun _ _ => true) xs ys k (addRows P sq (fun _ _ => true) xs ys (List.replicate (pw n) 0) k) 0) := by simpa [addRow] using hM2
      have hN0 : NumsL P (addRows P sq (fun _ _ => true) xs ys (List.replicate (pw n) 0) k) := addRows_nums sq _ xs ys k (by omega) (NumsL.replicate (by omega) _)
      obtain ⟨L0, hL0⟩ : ∃ L, L = addRows P sq (fun _ _ => true) xs ys (List.replicate (pw n) 0) k := ⟨_, rfl⟩
      rw [← hL0] at hR0 hN0
      have HL0 := Lib.hid hL0
      clear hM2 hL0
      go_wp2
      go_loopw [9] (fun i wr => ∃ j : Nat, j ≤ pw n ∧ i = .int .i64 j ∧ MkI w wr (some ⟨g, 0, none⟩) (pw n) (pw n) (addRow P sq (fun _ _ => true) xs ys k L0 j) ∧ Blk wr w.heap.size 26 #[.int .i64 P, .slice A n c]) (fun i _ => pw n - (intOf i).toNat)
      case atStart => exact ⟨0, by omega, rfl, hR0, hk2⟩
      case round =>
        clear hR0 hk2
        obtain ⟨j, hj, rfl, hM3, hk3⟩ := hrel
        have hcx : wr.cell? ⟨gx, ox + k, none⟩ = some (.int .i64 xs[k]) := (hM3.b.cell (World.block_lt_of_cell? _ _ HCW.out)).trans HCW.out
        by_cases hlj : j < pw n
        · obtain ⟨gy, oy, hY, hyj, hcyw⟩ := hy.int hlj
          subst hY
          have hgy := World.block_lt_of_cell? _ _ hcyw
          have HGY : Hid (g ≠ gy) := Lib.hid (by simp at hgy; omega)
          have hcy : wr.cell? ⟨gy, oy + j, none⟩ = some (.int .i64 ys[j]) := (hM3.b.cell (World.block_lt_of_cell? _ _ hcyw)).trans hcyw
          clear hcyw hgy
          obtain ⟨y1, y2⟩ := hys _ (List.getElem_mem hyj)
          have hyn : Hid (ys.getD j 0 = ys[j]) := Lib.hid (by rw [List.getD_eq_getElem?_getD, List.getElem?_eq_getElem hyj]; rfl)
          cases h0 : (xs[k] != 0)
          · have hz : xs.getD k 0 = 0 := by rw [hxn.out]; simpa using h0
            have HM := Lib.hid hM3
            clear hM3
            go_wp2
            go_roundw
            case rel => exact ⟨k + 1, by omega, by go_num, by rw [addRows_succ, addRow_zero _ _ _ _ _ _ _ _ hz, ← HL0.out]; have := HM.out; rwa [addRow_zero _ _ _ _ _ _ _ _ hz] at this, hk3⟩
            case measure => simp [intOf]; omega
          · cases h1 : (ys[j] != 0)
            · have hz : Hid (ys.getD j 0 = 0) := Lib.hid (by rw [hyn.out]; simpa using h1)
              go_wp2
              go_roundw
              case rel => exact ⟨j + 1, by omega, by go_num, by rw [addRow_succ]; unfold addPair; rw [if_neg (fun hh => hh.2.1 hz.out)]; exact hM3, hk3⟩
              case measure => simp [intOf]; omega
            · have hidx : k ^^^ j < pw n := xor_lt hlt hlj
              have hxo := xor_all k (by omega) j (by omega)
              have hvb := (addRow_nums sq (fun _ _ => true) xs ys k j (by omega) hN0).getD (by omega) (k ^^^ j)
              obtain ⟨hoc, hof⟩ := mkI_at hM3.drew hidx
              obtain ⟨v0, hv0⟩ : ∃ v, v = (addRow P sq (fun _ _ => true) xs ys k L0 j).getD (k ^^^ j) 0 := ⟨_, rfl⟩
              rw [← hv0] at hvb hoc
              obtain ⟨v1, v2⟩ := hvb
              have HV0 := Lib.hid hv0
              have hAt : Hid (∀ w', MkI w w' (some ⟨g, 0, none⟩) (pw n) (pw n) (addRow P sq (fun _ _ => true) xs ys k L0 j) → w'.cell? ⟨g, k ^^^ j, none⟩ = some (.int .i64 v0) ∧ w'.frozen? ⟨g, k ^^^ j, none⟩ = false) :=
                Lib.hid (fun w' h => by rw [HV0.out]; exact mkI_at h hidx)
              clear hv0
              obtain ⟨f1, f2⟩ := fac_bound P sq k j hp
              obtain ⟨m1, m2⟩ := mul_small x1 (show xs[k] ≤ 13 by omega) y1 (show ys[j] ≤ 13 by omega)
              obtain ⟨r1, r2⟩ := emod_small (xs[k] * ys[j]) P (by omega)
              obtain ⟨m3, m4⟩ := mul_small r1 (show xs[k] * ys[j] % P ≤ 13 by omega) f1 (show fac P sq k j ≤ 13 by omega)
              have HNE : Hid (g ≠ w.heap.size ∧ g ≠ w.heap.size ∧ g ≠ gx ∧ g ≠ gy) := Lib.hid ⟨by omega, by omega, HGX.out, HGY.out⟩
              have hF : Hid (∀ w', MkI w w' (some ⟨g, 0, none⟩) (pw n) (pw n) (addRow P sq (fun _ _ => true) xs ys k L0 j) → Calls Tryz.prog 355 #[.agg #[.int .i64 P, .slice A n c], .int .i64 k, .int .i64 j] w' fun e w'' => e = .returned (.int .i64 (fac P sq k j)) ∧ Below w'.heap.size w' w'') :=
                Lib.hid (fun w' h => l04Blades_any P A n c sq k j w' hp hp2 hn (ha.below h.b) hs (by omega) (by omega))
              have HPair : Hid (xs.getD k 0 ≠ 0 ∧ ys.getD j 0 ≠ 0 ∧ true = true) := Lib.hid ⟨by rw [hxn.out]; simpa using h0, by rw [hyn.out]; simpa using h1, rfl⟩
              have W1 := i64_fit (xs[k] * ys[j]) (by omega) (by omega)
              have W2 := i64_fit (xs[k] * ys[j] % P * fac P sq k j) (by omega) (by omega)
              have W3 := i64_fit (v0 + xs[k] * ys[j] % P * fac P sq k j) (by omega) (by omega)
              have T1 := Int.tmod_eq_emod_of_nonneg (b := P) m1
              have T2 := Int.tmod_eq_emod_of_nonneg (a := (v0 + xs[k] * ys[j] % P * fac P sq k j)) (b := P) (by omega)
              obtain ⟨kc0, kc1⟩ := hk3.two
              have hoc2 : wr.cell? ⟨g, k ^^^ j, none⟩ = some (.int .i64 v0) := hoc
              have hof2 : wr.frozen? ⟨g, k ^^^ j, none⟩ = false := hof
              have hP0 : (P == 0) = false := by simp; omega
              have hP1 : (P == -1) = false := by simp; omega
              have hP2 : ¬ P = 0 := by omega
              have hO := hM3.drew
              have hk4 := hk3.drew
              go_wp2
              have i1 : (0 : Int) ≤ ((k ^^^ j : Nat) : Int) := by omega
              have i2 : ((k ^^^ j : Nat) : Int) < ((pw n : Nat) : Int) := by omega
              have i3 : (0 : Int) ≤ (k : Int) := by omega
              have i4 : (k : Int) < ((pw n : Nat) : Int) := by omega
              have i5 : (0 : Int) ≤ (j : Int) := by omega
              have i6 : (j : Int) < ((pw n : Nat) : Int) := by omega
              refine wp_obs 32 [[], [], [], [1, 2], [], [], [], [5, 6], [4, 5, 6, 7], [4, 5, 6, 7, 8], [], [], [10, 11], [10, 11, 12], [], [], [14, 15], [14, 15, 16], [10, 11, 12, 13, 14, 15, 16, 17], [], [19], [10, 11, 12, 13, 14, 15, 16, 17, 18, 19, 20], [], [], [], [22, 23, 24], [10, 11, 12, 13, 14, 15, 16, 17, 18, 19, 20, 21, 22, 23, 24, 25], [4, 5, 6, 7, 8, 9, 10, 11, 12, 13, 14, 15, 16, 17, 18, 19, 20, 21, 22, 23, 24, 25, 26], [], [28], [4, 5, 6, 7, 8, 9, 10, 11, 12, 13, 14, 15, 16, 17, 18, 19, 20, 21, 22, 23, 24, 25, 26, 27, 28, 29], [0, 1, 2, 3], [0, 1, 2, 3, 4, 5, 6, 7, 8, 9, 10, 11, 12, 13, 14, 15, 16, 17, 18, 19, 20, 21, 22, 23, 24, 25, 26, 27, 28, 29, 30, 31]] [VIs (.slice (some ⟨g, 0, none⟩) (pw n) (pw n)), VIs (.int .i64 (k)), VIs (.int .i64 (j)), VIs (.int .i64 ((k ^^^ j : Nat))), VIs (.slice (some ⟨g, 0, none⟩) (pw n) (pw n)), VIs (.int .i64 (k)), VIs (.int .i64 (j)), VIs (.int .i64 ((k ^^^ j : Nat))), VIs (.pointer (some ⟨g, k ^^^ j, none⟩)), VIs (.int .i64 (v0)), VIs (.slice (some ⟨gx, ox, none⟩) (pw n) cx), VIs (.int .i64 (k)), VIs (.pointer (some ⟨gx, ox + k, none⟩)), VIs (.int .i64 (xs[k])), VIs (.slice (some ⟨gy, oy, none⟩) (pw n) cy), VIs (.int .i64 (j)), VIs (.pointer (some ⟨gy, oy + j, none⟩)), VIs (.int .i64 (ys[j])), VIs (.int .i64 (xs[k] * ys[j])), VIs (.pointer (some ⟨w.heap.size, 0, none⟩)), VIs (.int .i64 (P)), VIs (.int .i64 (xs[k] * ys[j] % P)), VIs (.agg #[.int .i64 P, .slice A n c]), VIs (.int .i64 (k)), VIs (.int .i64 (j)), VIs (.int .i64 (fac P sq k j)), VIs (.int .i64 (xs[k] * ys[j] % P * fac P sq k j)), VIs (.int .i64 (v0 + xs[k] * ys[j] % P * fac P sq k j)), VIs (.pointer (some ⟨w.heap.size, 0, none⟩)), VIs (.int .i64 (P)), VIs (.int .i64 ((v0 + xs[k] * ys[j] % P * fac P sq k j) % P)), VIs (.pointer (some ⟨g, k ^^^ j, none⟩))] (fun w' => Blk w' w.heap.size 26 #[.int .i64 P, .slice A n c] ∧ MkI w w' (some ⟨g, 0, none⟩) (pw n) (pw n) (addRow P sq (fun _ _ => true) xs ys k L0 j) ∧ w'.cell? ⟨gx, ox + k, none⟩ = some (.int .i64 xs[k]) ∧ w'.cell? ⟨gy, oy + j, none⟩ = some (.int .i64 ys[j])) (by kernel_rfl) (by kernel_rfl) (fun _ _ h hb => ⟨h.1.below hb h.1.lt, h.2.1.below hb, (hb.cell (World.block_lt_of_cell? _ _ h.2.2.1)).trans h.2.2.1, (hb.cell (World.block_lt_of_cell? _ _ h.2.2.2)).trans h.2.2.2⟩) (⟨hk4, hO, hcx, hcy⟩) (fun x => ?_)
              refine obs_step (Eq.trans (by simp only [zA, zC]; exact rfl) rfl) rfl (fun w' hS hV K hK => ?_) ?_
              · obtain ⟨q0, q1⟩ := hS.1.two; obtain ⟨hoc, hof⟩ := hAt.out _ hS.2.1; have q2 := hS.2.2.1; have q3 := hS.2.2.2
                go_simp
                exact hK.out _ _ _ rfl rfl rfl (Below.refl _ _)
              simp only [zD, zE, zF]
              refine obs_step (Eq.trans (by simp only [zA, zB, zC]; exact rfl) rfl) rfl (fun w' hS hV K hK => ?_) ?_
              · obtain ⟨q0, q1⟩ := hS.1.two; obtain ⟨hoc, hof⟩ := hAt.out _ hS.2.1; have q2 := hS.2.2.1; have q3 := hS.2.2.2
                go_simp
                exact hK.out _ _ _ rfl rfl rfl (Below.refl _ _)
              simp only [zD, zE, zF]
              refine obs_step (Eq.trans (by simp only [zA, zB, zC]; exact rfl) rfl) rfl (fun w' hS hV K hK => ?_) ?_
              · obtain ⟨q0, q1⟩ := hS.1.two; obtain ⟨hoc, hof⟩ := hAt.out _ hS.2.1; have q2 := hS.2.2.1; have q3 := hS.2.2.2
                go_simp
                exact hK.out _ _ _ rfl rfl rfl (Below.refl _ _)
              simp only [zD, zE, zF]
              refine obs_step (Eq.trans (by simp only [zA, zB, zC]; exact rfl) rfl) rfl (fun w' hS hV K hK => ?_) ?_
              · simp only [List.mem_cons, List.not_mem_nil, or_false, forall_eq_or_imp, forall_eq, List.getD_cons_succ, List.getD_cons_zero, VIs, VAny] at hV
                obtain ⟨e1, e2⟩ := hV
                obtain ⟨q0, q1⟩ := hS.1.two; obtain ⟨hoc, hof⟩ := hAt.out _ hS.2.1; have q2 := hS.2.2.1; have q3 := hS.2.2.2
                go_simp
                exact hK.out _ _ _ rfl rfl rfl (Below.refl _ _)
              simp only [zD, zE, zF]
              refine obs_step (Eq.trans (by simp only [zA, zB, zC]; exact rfl) rfl) rfl (fun w' hS hV K hK => ?_) ?_
              · obtain ⟨q0, q1⟩ := hS.1.two; obtain ⟨hoc, hof⟩ := hAt.out _ hS.2.1; have q2 := hS.2.2.1; have q3 := hS.2.2.2
                go_simp
                exact hK.out _ _ _ rfl rfl rfl (Below.refl _ _)
              simp only [zD, zE, zF]
              refine obs_step (Eq.trans (by simp only [zA, zB, zC]; exact rfl) rfl) rfl (fun w' hS hV K hK => ?_) ?_
              · obtain ⟨q0, q1⟩ := hS.1.two; obtain ⟨hoc, hof⟩ := hAt.out _ hS.2.1; have q2 := hS.2.2.1; have q3 := hS.2.2.2
                go_simp
                exact hK.out _ _ _ rfl rfl rfl (Below.refl _ _)
              simp only [zD, zE, zF]
              refine obs_step (Eq.trans (by simp only [zA, zB, zC]; exact rfl) rfl) rfl (fun w' hS hV K hK => ?_) ?_
              · obtain ⟨q0, q1⟩ := hS.1.two; obtain ⟨hoc, hof⟩ := hAt.out _ hS.2.1; have q2 := hS.2.2.1; have q3 := hS.2.2.2
                go_simp
                exact hK.out _ _ _ rfl rfl rfl (Below.refl _ _)
              simp only [zD, zE, zF]
              refine obs_step (Eq.trans (by simp only [zA, zB, zC]; exact rfl) rfl) rfl (fun w' hS hV K hK => ?_) ?_
              · simp only [List.mem_cons, List.not_mem_nil, or_false, forall_eq_or_imp, forall_eq, List.getD_cons_succ, List.getD_cons_zero, VIs, VAny] at hV
                obtain ⟨e5, e6⟩ := hV
                obtain ⟨q0, q1⟩ := hS.1.two; obtain ⟨hoc, hof⟩ := hAt.out _ hS.2.1; have q2 := hS.2.2.1; have q3 := hS.2.2.2
                go_simp
                exact hK.out _ _ _ rfl rfl rfl (Below.refl _ _)
              simp only [zD, zE, zF]
              refine obs_step (Eq.trans (by simp only [zA, zB, zC]; exact rfl) rfl) rfl (fun w' hS hV K hK => ?_) ?_
              · simp only [List.mem_cons, List.not_mem_nil, or_false, forall_eq_or_imp, forall_eq, List.getD_cons_succ, List.getD_cons_zero, VIs, VAny] at hV
                obtain ⟨e4, e5, e6, e7⟩ := hV
                obtain ⟨q0, q1⟩ := hS.1.two; obtain ⟨hoc, hof⟩ := hAt.out _ hS.2.1; have q2 := hS.2.2.1; have q3 := hS.2.2.2
                go_simp
                exact hK.out _ _ _ rfl rfl rfl (Below.refl _ _)
              simp only [zD, zE, zF]
              refine obs_step (Eq.trans (by simp only [zA, zB, zC]; exact rfl) rfl) rfl (fun w' hS hV K hK => ?_) ?_
              · simp only [List.mem_cons, List.not_mem_nil, or_false, forall_eq_or_imp, forall_eq, List.getD_cons_succ, List.getD_cons_zero, VIs, VAny] at hV
                obtain ⟨e4, e5, e6, e7, e8⟩ := hV
                obtain ⟨q0, q1⟩ := hS.1.two; obtain ⟨hoc, hof⟩ := hAt.out _ hS.2.1; have q2 := hS.2.2.1; have q3 := hS.2.2.2
                go_simp
                exact hK.out _ _ _ rfl rfl rfl (Below.refl _ _)
              simp only [zD, zE, zF]
              refine obs_step (Eq.trans (by simp only [zA, zB, zC]; exact rfl) rfl) rfl (fun w' hS hV K hK => ?_) ?_
              · obtain ⟨q0, q1⟩ := hS.1.two; obtain ⟨hoc, hof⟩ := hAt.out _ hS.2.1; have q2 := hS.2.2.1; have q3 := hS.2.2.2
                go_simp
                exact hK.out _ _ _ rfl rfl rfl (Below.refl _ _)
              simp only [zD, zE, zF]
              refine obs_step (Eq.trans (by simp only [zA, zB, zC]; exact rfl) rfl) rfl (fun w' hS hV K hK => ?_) ?_
              · obtain ⟨q0, q1⟩ := hS.1.two; obtain ⟨hoc, hof⟩ := hAt.out _ hS.2.1; have q2 := hS.2.2.1; have q3 := hS.2.2.2
                go_simp
                exact hK.out _ _ _ rfl rfl rfl (Below.refl _ _)
              simp only [zD, zE, zF]
              refine obs_step (Eq.trans (by simp only [zA, zB, zC]; exact rfl) rfl) rfl (fun w' hS hV K hK => ?_) ?_
              · simp only [List.mem_cons, List.not_mem_nil, or_false, forall_eq_or_imp, forall_eq, List.getD_cons_succ, List.getD_cons_zero, VIs, VAny] at hV
                obtain ⟨e10, e11⟩ := hV
                obtain ⟨q0, q1⟩ := hS.1.two; obtain ⟨hoc, hof⟩ := hAt.out _ hS.2.1; have q2 := hS.2.2.1; have q3 := hS.2.2.2
                go_simp
                exact hK.out _ _ _ rfl rfl rfl (Below.refl _ _)
              simp only [zD, zE, zF]
              refine obs_step (Eq.trans (by simp only [zA, zB, zC]; exact rfl) rfl) rfl (fun w' hS hV K hK => ?_) ?_
              · simp only [List.mem_cons, List.not_mem_nil, or_false, forall_eq_or_imp, forall_eq, List.getD_cons_succ, List.getD_cons_zero, VIs, VAny] at hV
                obtain ⟨e10, e11, e12⟩ := hV
                obtain ⟨q0, q1⟩ := hS.1.two; obtain ⟨hoc, hof⟩ := hAt.out _ hS.2.1; have q2 := hS.2.2.1; have q3 := hS.2.2.2
                go_simp
                exact hK.out _ _ _ rfl rfl rfl (Below.refl _ _)
              simp only [zD, zE, zF]
              refine obs_step (Eq.trans (by simp only [zA, zB, zC]; exact rfl) rfl) rfl (fun w' hS hV K hK => ?_) ?_
              · obtain ⟨q0, q1⟩ := hS.1.two; obtain ⟨hoc, hof⟩ := hAt.out _ hS.2.1; have q2 := hS.2.2.1; have q3 := hS.2.2.2
                go_simp
                exact hK.out _ _ _ rfl rfl rfl (Below.refl _ _)
              simp only [zD, zE, zF]
              refine obs_step (Eq.trans (by simp only [zA, zB, zC]; exact rfl) rfl) rfl (fun w' hS hV K hK => ?_) ?_
              · obtain ⟨q0, q1⟩ := hS.1.two; obtain ⟨hoc, hof⟩ := hAt.out _ hS.2.1; have q2 := hS.2.2.1; have q3 := hS.2.2.2
                go_simp
                exact hK.out _ _ _ rfl rfl rfl (Below.refl _ _)
              simp only [zD, zE, zF]
              refine obs_step (Eq.trans (by simp only [zA, zB, zC]; exact rfl) rfl) rfl (fun w' hS hV K hK => ?_) ?_
              · simp only [List.mem_cons, List.not_mem_nil, or_false, forall_eq_or_imp, forall_eq, List.getD_cons_succ, List.getD_cons_zero, VIs, VAny] at hV
                obtain ⟨e14, e15⟩ := hV
                obtain ⟨q0, q1⟩ := hS.1.two; obtain ⟨hoc, hof⟩ := hAt.out _ hS.2.1; have q2 := hS.2.2.1; have q3 := hS.2.2.2
                go_simp
                exact hK.out _ _ _ rfl rfl rfl (Below.refl _ _)
              simp only [zD, zE, zF]
              refine obs_step (Eq.trans (by simp only [zA, zB, zC]; exact rfl) rfl) rfl (fun w' hS hV K hK => ?_) ?_
              · simp only [List.mem_cons, List.not_mem_nil, or_false, forall_eq_or_imp, forall_eq, List.getD_cons_succ, List.getD_cons_zero, VIs, VAny] at hV
                obtain ⟨e14, e15, e16⟩ := hV
                obtain ⟨q0, q1⟩ := hS.1.two; obtain ⟨hoc, hof⟩ := hAt.out _ hS.2.1; have q2 := hS.2.2.1; have q3 := hS.2.2.2
                go_simp
                exact hK.out _ _ _ rfl rfl rfl (Below.refl _ _)
              simp only [zD, zE, zF]
              refine obs_step (Eq.trans (by simp only [zA, zB, zC]; exact rfl) rfl) rfl (fun w' hS hV K hK => ?_) ?_
              · simp only [List.mem_cons, List.not_mem_nil, or_false, forall_eq_or_imp, forall_eq, List.getD_cons_succ, List.getD_cons_zero, VIs, VAny] at hV
                obtain ⟨e10, e11, e12, e13, e14, e15, e16, e17⟩ := hV
                obtain ⟨q0, q1⟩ := hS.1.two; obtain ⟨hoc, hof⟩ := hAt.out _ hS.2.1; have q2 := hS.2.2.1; have q3 := hS.2.2.2
                go_simp
                exact hK.out _ _ _ rfl rfl rfl (Below.refl _ _)
              simp only [zD, zE, zF]
              refine obs_step (Eq.trans (by simp only [zA, zB, zC]; exact rfl) rfl) rfl (fun w' hS hV K hK => ?_) ?_
              · obtain ⟨q0, q1⟩ := hS.1.two; obtain ⟨hoc, hof⟩ := hAt.out _ hS.2.1; have q2 := hS.2.2.1; have q3 := hS.2.2.2
                go_simp
                exact hK.out _ _ _ rfl rfl rfl (Below.refl _ _)
              simp only [zD, zE, zF]
              refine obs_step (Eq.trans (by simp only [zA, zB, zC]; exact rfl) rfl) rfl (fun w' hS hV K hK => ?_) ?_
              · simp only [List.mem_cons, List.not_mem_nil, or_false, forall_eq, List.getD_cons_succ, List.getD_cons_zero, VIs, VAny] at hV
                obtain e19 := hV
                obtain ⟨q0, q1⟩ := hS.1.two; obtain ⟨hoc, hof⟩ := hAt.out _ hS.2.1; have q2 := hS.2.2.1; have q3 := hS.2.2.2
                go_simp
                exact hK.out _ _ _ rfl rfl rfl (Below.refl _ _)
              simp only [zD, zE, zF]
              refine obs_step (Eq.trans (by simp only [zA, zB, zC]; exact rfl) rfl) rfl (fun w' hS hV K hK => ?_) ?_
              · simp only [List.mem_cons, List.not_mem_nil, or_false, forall_eq_or_imp, forall_eq, List.getD_cons_succ, List.getD_cons_zero, VIs, VAny] at hV
                obtain ⟨e10, e11, e12, e13, e14, e15, e16, e17, e18, e19, e20⟩ := hV
                obtain ⟨q0, q1⟩ := hS.1.two; obtain ⟨hoc, hof⟩ := hAt.out _ hS.2.1; have q2 := hS.2.2.1; have q3 := hS.2.2.2
                go_simp
                exact hK.out _ _ _ rfl rfl rfl (Below.refl _ _)
              simp only [zD, zE, zF]
              refine obs_step (Eq.trans (by simp only [zA, zB, zC]; exact rfl) rfl) rfl (fun w' hS hV K hK => ?_) ?_
              · obtain ⟨q0, q1⟩ := hS.1.two; obtain ⟨hoc, hof⟩ := hAt.out _ hS.2.1; have q2 := hS.2.2.1; have q3 := hS.2.2.2
                go_simp
                exact hK.out _ _ _ rfl rfl rfl (Below.refl _ _)
              simp only [zD, zE, zF]
              refine obs_step (Eq.trans (by simp only [zA, zB, zC]; exact rfl) rfl) rfl (fun w' hS hV K hK => ?_) ?_
              · obtain ⟨q0, q1⟩ := hS.1.two; obtain ⟨hoc, hof⟩ := hAt.out _ hS.2.1; have q2 := hS.2.2.1; have q3 := hS.2.2.2
                go_simp
                exact hK.out _ _ _ rfl rfl rfl (Below.refl _ _)
              simp only [zD, zE, zF]
              refine obs_step (Eq.trans (by simp only [zA, zB, zC]; exact rfl) rfl) rfl (fun w' hS hV K hK => ?_) ?_
              · obtain ⟨q0, q1⟩ := hS.1.two; obtain ⟨hoc, hof⟩ := hAt.out _ hS.2.1; have q2 := hS.2.2.1; have q3 := hS.2.2.2
                go_simp
                exact hK.out _ _ _ rfl rfl rfl (Below.refl _ _)
              simp only [zD, zE, zF]
              refine obs_step (Eq.trans (by simp only [zA, zB, zC]; exact rfl) rfl) rfl (fun w' hS hV K hK => ?_) ?_
              · simp only [List.mem_cons, List.not_mem_nil, or_false, forall_eq_or_imp, forall_eq, List.getD_cons_succ, List.getD_cons_zero, VIs, VAny] at hV
                obtain ⟨e22, e23, e24⟩ := hV
                obtain ⟨q0, q1⟩ := hS.1.two; obtain ⟨hoc, hof⟩ := hAt.out _ hS.2.1; have q2 := hS.2.2.1; have q3 := hS.2.2.2
                go_simp
                refine (hF.out _ hS.2.1).mono ?_
                rintro e v1 ⟨rfl, hb⟩
                exact hK.out _ _ _ rfl rfl rfl hb
              simp only [zD, zE, zF]
              refine obs_step (Eq.trans (by simp only [zA, zB, zC]; exact rfl) rfl) rfl (fun w' hS hV K hK => ?_) ?_
              · simp only [List.mem_cons, List.not_mem_nil, or_false, forall_eq_or_imp, forall_eq, List.getD_cons_succ, List.getD_cons_zero, VIs, VAny] at hV
                obtain ⟨e10, e11, e12, e13, e14, e15, e16, e17, e18, e19, e20, e21, e22, e23, e24, e25⟩ := hV
                obtain ⟨q0, q1⟩ := hS.1.two; obtain ⟨hoc, hof⟩ := hAt.out _ hS.2.1; have q2 := hS.2.2.1; have q3 := hS.2.2.2
                go_simp
                exact hK.out _ _ _ rfl rfl rfl (Below.refl _ _)
              simp only [zD, zE, zF]
              refine obs_step (Eq.trans (by simp only [zA, zB, zC]; exact rfl) rfl) rfl (fun w' hS hV K hK => ?_) ?_
              · simp only [List.mem_cons, List.not_mem_nil, or_false, forall_eq_or_imp, forall_eq, List.getD_cons_succ, List.getD_cons_zero, VIs, VAny] at hV
                obtain ⟨e4, e5, e6, e7, e8, e9, e10, e11, e12, e13, e14, e15, e16, e17, e18, e19, e20, e21, e22, e23, e24, e25, e26⟩ := hV
                obtain ⟨q0, q1⟩ := hS.1.two; obtain ⟨hoc, hof⟩ := hAt.out _ hS.2.1; have q2 := hS.2.2.1; have q3 := hS.2.2.2
                go_simp
                exact hK.out _ _ _ rfl rfl rfl (Below.refl _ _)
              simp only [zD, zE, zF]
              refine obs_step (Eq.trans (by simp only [zA, zB, zC]; exact rfl) rfl) rfl (fun w' hS hV K hK => ?_) ?_
              · obtain ⟨q0, q1⟩ := hS.1.two; obtain ⟨hoc, hof⟩ := hAt.out _ hS.2.1; have q2 := hS.2.2.1; have q3 := hS.2.2.2
                go_simp
                exact hK.out _ _ _ rfl rfl rfl (Below.refl _ _)
              simp only [zD, zE, zF]
              refine obs_step (Eq.trans (by simp only [zA, zB, zC]; exact rfl) rfl) rfl (fun w' hS hV K hK => ?_) ?_
              · simp only [List.mem_cons, List.not_mem_nil, or_false, forall_eq, List.getD_cons_succ, List.getD_cons_zero, VIs, VAny] at hV
                obtain e28 := hV
                obtain ⟨q0, q1⟩ := hS.1.two; obtain ⟨hoc, hof⟩ := hAt.out _ hS.2.1; have q2 := hS.2.2.1; have q3 := hS.2.2.2
                go_simp
                exact hK.out _ _ _ rfl rfl rfl (Below.refl _ _)
              simp only [zD, zE, zF]
              refine obs_step (Eq.trans (by simp only [zA, zB, zC]; exact rfl) rfl) rfl (fun w' hS hV K hK => ?_) ?_
              · simp only [List.mem_cons, List.not_mem_nil, or_false, forall_eq_or_imp, forall_eq, List.getD_cons_succ, List.getD_cons_zero, VIs, VAny] at hV
                obtain ⟨e4, e5, e6, e7, e8, e9, e10, e11, e12, e13, e14, e15, e16, e17, e18, e19, e20, e21, e22, e23, e24, e25, e26, e27, e28, e29⟩ := hV
                obtain ⟨q0, q1⟩ := hS.1.two; obtain ⟨hoc, hof⟩ := hAt.out _ hS.2.1; have q2 := hS.2.2.1; have q3 := hS.2.2.2
                go_simp
                exact hK.out _ _ _ rfl rfl rfl (Below.refl _ _)
              simp only [zD, zE, zF]
              refine obs_step (Eq.trans (by simp only [zA, zB, zC]; exact rfl) rfl) rfl (fun w' hS hV K hK => ?_) ?_
              · simp only [List.mem_cons, List.not_mem_nil, or_false, forall_eq_or_imp, forall_eq, List.getD_cons_succ, List.getD_cons_zero, VIs, VAny] at hV
                obtain ⟨e0, e1, e2, e3⟩ := hV
                obtain ⟨q0, q1⟩ := hS.1.two; obtain ⟨hoc, hof⟩ := hAt.out _ hS.2.1; have q2 := hS.2.2.1; have q3 := hS.2.2.2
                go_simp
                exact hK.out _ _ _ rfl rfl rfl (Below.refl _ _)
              simp only [zD, zE, zF]
              refine fun w' hS hV => ?_
              have hV := fun i hi => hV i (List.mem_range.1 hi)
              simp only [List.range, List.range.loop, List.mem_cons, List.not_mem_nil, or_false, forall_eq_or_imp, forall_eq, List.getD_cons_succ, List.getD_cons_zero, VIs, VAny] at hV
              obtain ⟨e0, e1, e2, e3, e4, e5, e6, e7, e8, e9, e10, e11, e12, e13, e14, e15, e16, e17, e18, e19, e20, e21, e22, e23, e24, e25, e26, e27, e28, e29, e30, e31⟩ := hV
              simp only [e0, e1, e2, e3, e4, e5, e6, e7, e8, e9, e10, e11, e12, e13, e14, e15, e16, e17, e18, e19, e20, e21, e22, e23, e24, e25, e26, e27, e28, e29, e30, e31]
              clear e0 e1 e2 e3 e4 e5 e6 e7 e8 e9 e10 e11 e12 e13 e14 e15 e16 e17 e18 e19 e20 e21 e22 e23 e24 e25 e26 e27 e28 e29 e30 e31
              obtain ⟨hk4, hO, s3, s4⟩ := hS
              obtain ⟨hoc, hof⟩ := hAt.out _ hO
              refine any_one (j := 32) (by kernel_rfl) (Eq.trans (by simp only [zA, zB, zC]; exact rfl) rfl) (fun K hK => ?_)
              go_simp
              refine hK.out _ _ (wpAny_done (by kernel_rfl) ?_ _)
              have hset := (hO.set (k ^^^ j) (.int .i64 ((v0 + xs[k] * ys[j] % P * fac P sq k j) % P))).1
              rw [ints_set] at hset
              have hkn := hk4.far (p := ⟨g, k ^^^ j, none⟩) HNE.out.1.symm (.int .i64 ((v0 + xs[k] * ys[j] % P * fac P sq k j) % P))
              clear W1 W2 W3 T1 T2 hoc hof hO hk4
              go_wp2
              go_roundw
              case rel => exact ⟨j + 1, by omega, by go_num, by rw [addRow_succ]; unfold addPair; rw [if_pos ⟨HPair.out.1, HPair.out.2.1, rfl⟩, ← HV0.out, hxn.out, hyn.out, ← mod_mul_add v0 (xs[k] * ys[j]) (fac P sq k j) P]; exact hset, hkn⟩
              case measure => simp [intOf]; omega
        · obtain rfl : j = pw n := by omega
          have HM := Lib.hid hM3
          clear hM3
          go_wp2
          go_roundw
          case rel => exact ⟨k + 1, by omega, by go_num, by rw [addRows_succ, Hy.out, ← HL0.out]; exact HM.out, hk3⟩
          case measure => simp [intOf]; omega
    · obtain rfl : k = pw n := by omega
      go_wp2
      go_ret
      exact ⟨_, _, rfl, by unfold prodL; rw [Hx.out]; exact hM2⟩
end Go.Proofs.YtdbibmilicjllaaGreat
namespace Go.Proofs.YtdbibmilicjllaaGreat
open Go.RowKit
theorem wedgeL_len (p : Int) (sq xs ys : List Int) : (wedgeL p sq xs ys).length = xs.length := prodL_len _ _ _ _ _
end Go.Proofs.YtdbibmilicjllaaGreat
namespace Go.Proofs.YtdbibmilicjllaaGreat
open Go.RowKit
theorem ent_at' {M : List (List Int)} {i k : Nat} (hi : i < M.length) (hk : k < M[i].length) : ent M i k = M[i][k] := by
  unfold ent
  rw [getD_of_lt [] hi, getD_of_lt 0 hk]
theorem i64_small {x : Int} (h1 : -1000000 ≤ x) (h2 : x ≤ 1000000) : IntKind.i64.wrap x = x := i64_fit x (by omega) (by omega)
theorem clearTo_same {p : Int} {m : List (List Int)} {d k j : Nat} (hj : j < m.length) (h0 : ent m j k = 0) (hN : NumsL p (m.getD j [])) : clearTo p m d k (j + 1) = clearTo p m d k j := by
  refine tab_congr fun r _ => ?_
  by_cases hr : r = j
  · subst hr
    by_cases hd : r = d
    · rw [if_neg (fun h => h.2 hd), if_neg (fun h => h.2 hd)]
    · rw [if_pos ⟨by omega, hd⟩, if_neg (by omega), h0]
      exact plusL_zero _ _ hN
  · by_cases hd : r = d
    · rw [if_neg (fun h => h.2 hd), if_neg (fun h => h.2 hd)]
    · by_cases hl : r < j
      · rw [if_pos ⟨by omega, hd⟩, if_pos ⟨hl, hd⟩]
      · rw [if_neg (by omega), if_neg (by omega)]
theorem keepR3 {B : Nat} {W0 w1 w2 : World} {p q r : Addr} {u v x : Value} (h : w1.cell? p = some u ∧ w1.cell? q = some v ∧ w1.cell? r = some x ∧ Below B W0 w1) (hb : Below w1.heap.size w1 w2) (hB : B ≤ W0.heap.size) :
    w2.cell? p = some u ∧ w2.cell? q = some v ∧ w2.cell? r = some x ∧ Below B W0 w2 :=
  ⟨(hb.cell (World.block_lt_of_cell? _ _ h.1)).trans h.1, (hb.cell (World.block_lt_of_cell? _ _ h.2.1)).trans h.2.1, (hb.cell (World.block_lt_of_cell? _ _ h.2.2.1)).trans h.2.2.1, h.2.2.2.trans (hb.mono (Nat.le_trans hB h.2.2.2.size))⟩
set_option maxRecDepth 8000 in
set_option maxHeartbeats 400000 in
set_option maxRecDepth 8000 in
theorem l01Own_any (A : Option Addr) (n c : Nat) (xs : List Int) (w : World) (hn : n ≤ 65536) (ha : Rd w A n (ints xs)) :
    Calls Tryz.prog 177 #[.slice A n c] w fun e w' => ∃ A' c', e = .returned (.slice A' n c') ∧ MkI w w' A' n c' xs := by
  have hxl : xs.length = n := by have := ha.1; rwa [ints_length] at this
  have hM0 := Mk.lit (E := 2) (Below.refl w.heap.size w) #[] (by simp)
  obtain ⟨i, hi, h1, h2, h3⟩ := info_parts info_i
  obtain ⟨b1, b2⟩ := bound_of (Nat.le_trans hn (by decide))
  clear b1
  have HB := Lib.hid b2
  clear b2
  obtain ⟨p, hnews⟩ : ∃ p : Addr, (∀ (j : Nat) (u : Value), (ints xs)[j]? = some u → (w.alloc (.cells #[] 2)).cell? (p.add j) = some u) ∧ (A = some p ∨ (A = none ∧ n = 0)) := by
    cases A with
    | none =>
      have h0 : n = 0 := by
        rcases Nat.eq_zero_or_pos n with h | h
        · exact h
        · obtain ⟨g, o, e, _⟩ := ha.2 h; cases e
      exact ⟨⟨0, 0, none⟩, fun j u hu => by have := (List.getElem?_eq_some_iff.1 hu).1; rw [ints_length] at this; omega, .inr ⟨rfl, h0⟩⟩
    | some p =>
      refine ⟨p, fun j u hu => ?_, .inl rfl⟩
      have hj : j < n := by have := (List.getElem?_eq_some_iff.1 hu).1; rw [ints_length] at this; omega
      obtain ⟨g, o, e, hc⟩ := (ha.below ((Below.refl _ w).alloc (Nat.le_refl _) (.cells #[] 2))).2 (by omega)
      injection e with e; subst e
      rw [Addr.add_lit]
      exact hc j u hu
  have Hx := Lib.hid hxl
  have HI := Lib.hid hi
  have H1 := Lib.hid h1
  have H2 := Lib.hid h2
  have H3 := Lib.hid h3
  have HN := Lib.hid hnews.1
  have hA := hnews.2
  clear hnews hi h1 h2 h3 hxl
  rcases hA with rfl | ⟨rfl, rfl⟩
  · go_enter Tryz.func177, Tryz.ntmps177
    go_wp2_with (at_builtin; refine wpList_append_own_at (w.alloc (.cells #[] 2)) rfl _ _ 24 rfl w.heap.size 2 i _ 1 8 Tryz.underlying24 HI.out H1.out H2.out H3.out rfl (by omega) (.slice (some ⟨w.heap.size, 0, none⟩) 0 0) 0 [] rfl hM0.2 p n c (ints xs) rfl (by rw [ints_length, Hx.out, Nat.mul_one]) HN.out (by intro u hu; obtain ⟨y, _, rfl⟩ := List.mem_map.1 hu; rfl) (by simp only [maxLen]; omega) (by have := HB.out 8 (by omega); omega) (by simp) ?_; intro v' w' hown hg _ _)
    have hb' : Below w.heap.size w w' := hM0.1.grown hg (by simp) (fun k hk => (hM0.2.lt k hk).1)
    rw [Nat.zero_add, List.nil_append] at hown
    rcases hown.2 with ⟨rfl, h0⟩ | ⟨g, cap, cur, rfl, hr⟩
    · subst h0
      go_ret
      exact ⟨none, 0, rfl, hb', hown⟩
    · go_ret
      exact ⟨_, _, rfl, hb', hown⟩
  · have hxs : xs = [] := List.eq_nil_of_length_eq_zero Hx.out
    subst hxs
    go_enter Tryz.func177, Tryz.ntmps177
    go_wp2
    go_ret
    exact ⟨_, _, rfl, hM0⟩
set_option maxHeartbeats 1600000 in
set_option maxRecDepth 8000 in
theorem cloneRows_any (p : Int) (A : Option Addr) (n c : Nat) (M : List (List Int)) (m : Nat) (w : World) (hn : n ≤ 65536) (hm : m ≤ 65536) (ha : RdII w A n M) (hT : Tab p m M) :
    Calls Tryz.prog 186 #[.slice A n c] w fun e w' => ∃ A' c', e = .returned (.slice A' n c') ∧ MkII w w' A' n c' M := by
  have hML := ha.len
  have HT := Lib.hid hT
  have HML := Lib.hid hML
  have hM0 : MkII w (w.alloc (.cells #[] 24)) (some ⟨w.heap.size, 0, none⟩) 0 0 [] := MkII.empty (Below.refl _ _)
  clear hT hML
  go_enter Tryz.func186, Tryz.ntmps186
  go_wp2
  obtain ⟨w1, hw1⟩ : ∃ W, W = w.alloc (.cells #[] 24) := ⟨_, rfl⟩
  rw [← hw1] at hM0 ⊢
  clear hw1
  go_loopw [3, 5, 9] (fun out _ i wr => ∃ (k : Nat) (A' : Option Addr) (c' : Nat), k ≤ n ∧ i = .int .i64 k ∧ out = .slice A' k c' ∧ MkII w wr A' k c' (M.take k)) (fun _ _ i _ => n - (intOf i).toNat)
  case atStart => exact ⟨0, _, _, by omega, rfl, rfl, by simpa using hM0⟩
  case round =>
    obtain ⟨k, A', c', hk, rfl, rfl, hM⟩ := hrel
    clear hM0
    by_cases hlt : k < n
    · obtain ⟨g, o, rfl, hxk, A1, c1, hcx, hr1, _⟩ := (ha.below hM.b).at_ hlt
      have hl1 : M[k].length = m := (HT.out M[k] (List.getElem_mem hxk)).1
      rw [hl1] at hcx hr1
      have hcall := clone_any A1 m c1 M[k] wr hm hr1
      have HV : Hid (M.take (k + 1) = M.take k ++ [M[k]]) := Lib.hid (List.take_succ_eq_append_getElem hxk)
      have HM := Lib.hid hM
      clear hM hr1 hl1 ha
      go_wp2_with fail
      refine hcall.mono ?_
      rintro e w5 ⟨A5, c5, rfl, hM5⟩
      clear hcall
      go_wp2_with (at_builtin; refine wpList_appRow w wr _ rfl _ _ rfl A' k c' _ A5 m c5 _ HM.out hM5 (by omega) rfl ?_ ?_; (go_simp); intro A6 c6 w6 hM6)
      go_roundw
      case rel => exact ⟨k + 1, A6, c6, by omega, by go_num, rfl, by rw [HV.out]; exact hM6⟩
      case measure => simp [intOf]; omega
    · obtain rfl : k = n := by omega
      go_wp2
      go_ret
      rw [List.take_of_length_le (by rw [HML.out]; exact Nat.le_refl _)] at hM
      exact ⟨_, _, rfl, hM⟩
set_option maxHeartbeats 1600000 in
set_option maxRecDepth 8000 in
theorem l01Own2_any (p : Int) (A : Option Addr) (n c : Nat) (M : List (List Int)) (m : Nat) (w : World) (hn : n ≤ 65536) (hm : m ≤ 65536) (ha : RdII w A n M) (hT : Tab p m M) :
    Calls Tryz.prog 249 #[.slice A n c] w fun e w' => ∃ A' c', e = .returned (.slice A' n c') ∧ MkII w w' A' n c' M := by
  have hML := ha.len
  have HT := Lib.hid hT
  have HML := Lib.hid hML
  have hM0 : MkII w (w.alloc (.cells #[] 24)) (some ⟨w.heap.size, 0, none⟩) 0 0 [] := MkII.empty (Below.refl _ _)
  clear hT hML
  go_enter Tryz.func249, Tryz.ntmps249
  go_wp2
  obtain ⟨w1, hw1⟩ : ∃ W, W = w.alloc (.cells #[] 24) := ⟨_, rfl⟩
  rw [← hw1] at hM0 ⊢
  clear hw1
  go_loopw [3, 4] (fun out i wr => ∃ (k : Nat) (A' : Option Addr) (c' : Nat), k ≤ n ∧ i = .int .i64 k ∧ out = .slice A' k c' ∧ MkII w wr A' k c' (M.take k)) (fun _ i _ => n - (intOf i).toNat)
  case atStart => exact ⟨0, _, _, by omega, rfl, rfl, by simpa using hM0⟩
  case round =>
    obtain ⟨k, A', c', hk, rfl, rfl, hM⟩ := hrel
    clear hM0
    by_cases hlt : k < n
    · obtain ⟨g, o, rfl, hxk, A1, c1, hcx, hr1, _⟩ := (ha.below hM.b).at_ hlt
      have hl1 : M[k].length = m := (HT.out M[k] (List.getElem_mem hxk)).1
      rw [hl1] at hcx hr1
      have hcall := l01Own_any A1 m c1 M[k] wr hm hr1
      have HV : Hid (M.take (k + 1) = M.take k ++ [M[k]]) := Lib.hid (List.take_succ_eq_append_getElem hxk)
      have HM := Lib.hid hM
      clear hM hr1 hl1 ha
      go_wp2_with fail
      refine hcall.mono ?_
      rintro e w5 ⟨A5, c5, rfl, hM5⟩
      clear hcall
      go_wp2_with (at_builtin; refine wpList_appRow w wr _ rfl _ _ rfl A' k c' _ A5 m c5 _ HM.out hM5 (by omega) rfl ?_ ?_; (go_simp); intro A6 c6 w6 hM6)
      go_roundw
      case rel => exact ⟨k + 1, A6, c6, by omega, by go_num, rfl, by rw [HV.out]; exact hM6⟩
      case measure => simp [intOf]; omega
    · obtain rfl : k = n := by omega
      go_wp2
      go_ret
      rw [List.take_of_length_le (by rw [HML.out]; exact Nat.le_refl _)] at hM
      exact ⟨_, _, rfl, hM⟩
set_option maxHeartbeats 6400000 in
set_option maxRecDepth 8000 in
theorem basis_any (p : Int) (A : Option Addr) (n c : Nat) (M : List (List Int)) (m : Nat) (w : World) (HP : isP p = true) (hn : n ≤ 65536) (hm : m ≤ 65536) (ha : RdII w A n M) (hT : Tab p m M) :
    Calls Tryz.prog 248 #[.int .i64 p, .slice A n c] w fun e w' => ∃ A' c', e = .returned (.slice A' (basisL p M).length c') ∧ MkII w w' A' (basisL p M).length c' (basisL p M) := by
  have hML := ha.len
  obtain ⟨hp3, hp2⟩ := isP_ge HP
  have hp : 2 ≤ p := by omega
  have hclone := cloneRows_any p A n c M m w hn hm ha hT
  have HT := Lib.hid hT
  have HP' := Lib.hid HP
  by_cases h0 : 0 < n
  · have HBL : Hid (basisL p M = (basisTo p M m).1.take (basisTo p M m).2) := Lib.hid (by unfold basisL; rw [row0_len hT (by omega)])
    have HINV : Hid (∀ k, Tab p m (basisTo p M k).1 ∧ (basisTo p M k).1.length = n ∧ (basisTo p M k).2 ≤ n) := Lib.hid (fun k => by
      have := basisTo_inv (p := p) (by omega) M hT k
      rw [hML] at this
      exact this)
    clear hT HP hML ha
    go_enter Tryz.func248, Tryz.ntmps248
    go_wp2_with fail
    refine hclone.mono ?_
    rintro e w1 ⟨A1, c1, rfl, hM1⟩
    clear hclone
    obtain ⟨g, rfl, -⟩ := hM1.at_ h0
    go_wp2
    go_loopw [6, 7] (fun d q wr => ∃ dn kn : Nat, d = .int .i64 dn ∧ q = .int .i64 kn ∧ kn ≤ m ∧ dn = (basisTo p M kn).2 ∧ MkII w wr (some ⟨g, 0, none⟩) n c1 (basisTo p M kn).1) (fun _ q _ => m - (intOf q).toNat)
    case atStart => exact ⟨0, 0, rfl, rfl, by omega, rfl, hM1⟩
    case round =>
      obtain ⟨dn, kn, rfl, rfl, hkm, hdn, hM⟩ := hrel
      clear hM1
      obtain ⟨hT1, hl1, hd1⟩ := HINV.out kn
      rw [← hdn] at hd1
      have HSUC : Hid (basisTo p M (kn + 1) = stepB p kn ((basisTo p M kn).1, dn)) := Lib.hid (by rw [hdn]; rfl)
      have HFULL : Hid (dn = n → basisL p M = (basisTo p M kn).1.take dn) := Lib.hid (fun h => by
        rw [HBL.out, basisTo_full p M kn m hkm (by rw [← hdn, hl1]; exact h), ← hdn])
      have HEND : Hid (kn = m → basisL p M = (basisTo p M kn).1.take dn) := Lib.hid (fun h => by rw [HBL.out, ← h, ← hdn])
      obtain ⟨L, hL⟩ : ∃ L, L = (basisTo p M kn).1 := ⟨_, rfl⟩
      rw [← hL] at hM hT1 hl1 HSUC HFULL HEND
      clear hL hdn
      have HT1 := Lib.hid hT1
      have HL1 := Lib.hid hl1
      have HM := Lib.hid hM
      have hcap : n ≤ c1 := by obtain ⟨rows, hm', _⟩ := hM; exact hm'.2.cap
      obtain ⟨g0, e0, hx0, A0, c0, hc0, -⟩ := hM.at_ h0
      injection e0 with e0; injection e0 with e0 _ _; subst e0
      have hl0 : L[0].length = m := (HT1.out L[0] (List.getElem_mem hx0)).1
      rw [hl0] at hc0
      clear hl0 hT1 hl1 hM
      by_cases hgo : kn < m ∧ dn < n
      · obtain ⟨hlk, hld⟩ := hgo
        go_wp2
        go_loop [8] (fun i => ∃ j : Nat, dn ≤ j ∧ j ≤ n ∧ i = .int .i64 j ∧ Hid (piv L kn (n - j) j = pivOf L kn dn)) (fun i => n - (intOf i).toNat)
        case atStart => exact ⟨dn, by omega, by omega, rfl, Lib.hid (by unfold pivOf; rw [HL1.out])⟩
        case round =>
          obtain ⟨j, hj1, hj2, rfl, hj3⟩ := hrel
          by_cases hlj : j < n
          · have hld : dn < n := by omega
            obtain ⟨g0, e0, hxj, Aj, cj, hcj, hrj⟩ := HM.out.at_ hlj
            injection e0 with e0; injection e0 with e0 _ _; subst e0
            have HRJ := Lib.hid (HT1.out L[j] (List.getElem_mem hxj))
            have hlj2 : L[j].length = m := HRJ.out.1
            rw [hlj2] at hcj hrj
            obtain ⟨gj, oj, rfl, hxe, hce⟩ := hrj.rd.int hlk
            have HE : Hid (ent L j kn = L[j][kn]) := Lib.hid (ent_at' hxj hxe)
            have HPV : Hid (piv L kn (n - j) j = if ent L j kn = 0 then piv L kn (n - (j + 1)) (j + 1) else j) := Lib.hid (by
              rw [show n - j = (n - (j + 1)) + 1 by omega]; rfl)
            have HROW : Hid ((swapL L dn j)[dn]? = some L[j]) := Lib.hid (by
              rw [swapL_get? L (by rw [HL1.out]; exact hld) hxj]
              by_cases hdj : dn = j
              · subst hdj; rw [if_pos rfl]; exact List.getElem?_eq_getElem hxj
              · rw [if_neg hdj, if_pos rfl]; exact List.getElem?_eq_getElem hxj)
            have HGD : Hid (L.getD j [] = L[j]) := Lib.hid (getD_of_lt [] hxj)
            obtain ⟨R, hR⟩ : ∃ R, R = L[j] := ⟨_, rfl⟩
            have HXE : Hid (∀ h : kn < R.length, R[kn] = L[j][kn]) := Lib.hid (fun h => by simp only [hR])
            rw [← hR] at hrj HRJ HROW HGD
            clear hlj2
            obtain ⟨xe, hxe'⟩ : ∃ x, x = L[j][kn] := ⟨_, rfl⟩
            rw [← hxe'] at hce HE HXE
            have HX : Hid (0 ≤ xe ∧ xe < p) := Lib.hid (hxe' ▸ ((HT1.out L[j] (List.getElem_mem hxj)).2 _ (List.getElem_mem hxe)))
            clear hxe' hxe hR hxj
            cases hz : (xe == 0)
            · have hne : xe ≠ 0 := by simpa using hz
              have HVP : Hid (pivOf L kn dn = j) := Lib.hid (by rw [← hj3.out, HPV.out, if_neg (by rw [HE.out]; exact hne)])
              obtain ⟨g0, e0, hxd, Ad, cd, hcd, hrd⟩ := HM.out.at_ hld
              injection e0 with e0; injection e0 with e0 _ _; subst e0
              have hld2 : L[dn].length = m := (HT1.out L[dn] (List.getElem_mem hxd)).1
              rw [hld2] at hcd hrd
              have fd := HM.out.frozen_ dn
              have fj := HM.out.frozen_ j
              have HSC : Hid (scaledAt p L kn dn = (swapL L dn j).set dn (scaleL p R (invF p xe))) := Lib.hid (by unfold scaledAt; rw [HVP.out, HGD.out, HE.out])
              have HTS : Hid (Tab p m (scaledAt p L kn dn) ∧ (scaledAt p L kn dn).length = n) := Lib.hid ⟨scaledAt_tab (by omega) HT1.out (by rw [HL1.out]; exact hld) (by rw [HVP.out, HL1.out]; exact hlj), by rw [scaledAt_len, HL1.out]⟩
              have HNEXT : Hid (basisTo p M (kn + 1) = (clearTo p (scaledAt p L kn dn) dn kn n, dn + 1)) := Lib.hid (by
                rw [HSUC.out]; unfold stepB; rw [if_neg (by simp only; rw [HVP.out, HL1.out]; omega)]; simp only [HL1.out])
              have HSCD : Hid ((scaledAt p L kn dn).getD dn [] = scaleL p R (invF p xe)) := Lib.hid (by
                rw [HSC.out, getD_set, if_pos ⟨rfl, by rw [swapL_len, HL1.out]; exact hld⟩])
              have HSW := Lib.hid (HM.out.swap hld hlj hcd hcj)
              obtain ⟨uj, hcs⟩ := HM.out.cellSet dn (A1 := some ⟨gj, oj, none⟩) (m := m) (c1 := cj) hlj
              clear hrj hrd hld2 hxd
              go_wp2
              go_region
              obtain ⟨w2, hw2⟩ : ∃ W, W = ((wr.setCell ⟨g, dn, none⟩ (.slice (some ⟨gj, oj, none⟩) m cj)).setCell ⟨g, j, none⟩ (.slice Ad m cd)).drew := ⟨_, rfl⟩
              have hM2 : MkII w w2 (some ⟨g, 0, none⟩) n c1 (swapL L dn j) := by rw [hw2]; exact HSW.out.below ((Below.refl _ _).drew)
              rw [← hw2]
              clear hw2 HSW hcs fd fj hcd hcj hce hc0
              obtain ⟨g0, e0, hxs, As, cs, hcs2, hrs⟩ := hM2.at_ hld
              injection e0 with e0; injection e0 with e0 _ _; subst e0
              have hrow : (swapL L dn j)[dn] = R := by have := HROW.out; rw [List.getElem?_eq_getElem hxs] at this; exact Option.some.inj this
              rw [hrow] at hcs2 hrs
              have hRl := HRJ.out.1
              rw [hRl] at hcs2 hrs
              obtain ⟨gs, os, rfl, hxe2, hce2⟩ := hrs.rd.int hlk
              rw [HXE.out hxe2] at hce2
              have HM2 := Lib.hid hM2
              have HRS := Lib.hid hrs
              clear hM2 hrs hrow hxe2 hxs hRl
              have hiv := invF_small hp xe
              have hx1 := HX.out
              have fd := HM2.out.frozen_ dn
              go_wp2
              refine wp_obs 18 [[], [], [], [], [], [3, 4], [3, 4, 5], [], [], [], [8, 9], [8, 9, 10], [], [8, 9, 10, 11, 12], [8, 9, 10, 11, 12, 13], [7, 8, 9, 10, 11, 12, 13, 14], [2, 3, 4, 5, 6, 7, 8, 9, 10, 11, 12, 13, 14, 15], [0, 1], [0, 1, 2, 3, 4, 5, 6, 7, 8, 9, 10, 11, 12, 13, 14, 15, 16, 17]] [VIs (.slice (some ⟨g, 0, none⟩) n c1), VIs (.int .i64 (dn)), VIs (.int .i64 (p)), VIs (.slice (some ⟨g, 0, none⟩) n c1), VIs (.int .i64 (dn)), VIs (.pointer (some ⟨g, dn, none⟩)), VIs (.slice (some ⟨gs, os, none⟩) m cs), VIs (.int .i64 (p)), VIs (.slice (some ⟨g, 0, none⟩) n c1), VIs (.int .i64 (dn)), VIs (.pointer (some ⟨g, dn, none⟩)), VIs (.slice (some ⟨gs, os, none⟩) m cs), VIs (.int .i64 (kn)), VIs (.pointer (some ⟨gs, os + kn, none⟩)), VIs (.int .i64 (xe)), VIs (.int .i64 (invF p xe)), VSl w2 m (scaleL p R (invF p xe)), VIs (.pointer (some ⟨g, dn, none⟩))] (fun w' => w'.cell? ⟨g, dn, none⟩ = some (.slice (some ⟨gs, os, none⟩) m cs) ∧ w'.cell? ⟨gs, os + kn, none⟩ = some (.int .i64 xe) ∧ Below w2.heap.size w2 w') (by kernel_rfl) (by kernel_rfl) (fun _ _ h hb => keepB2 h hb (Nat.le_refl _)) (⟨hcs2, hce2, (Below.refl _ _).drew⟩) (fun x => ?_)
              refine obs_step (Eq.trans (by simp only [zA, zC]; exact rfl) rfl) rfl (fun w' hS hV K hK => ?_) ?_
              · have q0 := hS.1; have q1 := hS.2.1; have q2 := hS.2.2
                go_simp
                exact hK.out _ _ _ rfl rfl rfl (Below.refl _ _)
              simp only [zD, zE, zF]
              refine obs_step (Eq.trans (by simp only [zA, zB, zC]; exact rfl) rfl) rfl (fun w' hS hV K hK => ?_) ?_
              · have q0 := hS.1; have q1 := hS.2.1; have q2 := hS.2.2
                go_simp
                exact hK.out _ _ _ rfl rfl rfl (Below.refl _ _)
              simp only [zD, zE, zF]
              refine obs_step (Eq.trans (by simp only [zA, zB, zC]; exact rfl) rfl) rfl (fun w' hS hV K hK => ?_) ?_
              · have q0 := hS.1; have q1 := hS.2.1; have q2 := hS.2.2
                go_simp
                exact hK.out _ _ _ rfl rfl rfl (Below.refl _ _)
              simp only [zD, zE, zF]
              refine obs_step (Eq.trans (by simp only [zA, zB, zC]; exact rfl) rfl) rfl (fun w' hS hV K hK => ?_) ?_
              · have q0 := hS.1; have q1 := hS.2.1; have q2 := hS.2.2
                go_simp
                exact hK.out _ _ _ rfl rfl rfl (Below.refl _ _)
              simp only [zD, zE, zF]
              refine obs_step (Eq.trans (by simp only [zA, zB, zC]; exact rfl) rfl) rfl (fun w' hS hV K hK => ?_) ?_
              · have q0 := hS.1; have q1 := hS.2.1; have q2 := hS.2.2
                go_simp
                exact hK.out _ _ _ rfl rfl rfl (Below.refl _ _)
              simp only [zD, zE, zF]
              refine obs_step (Eq.trans (by simp only [zA, zB, zC]; exact rfl) rfl) rfl (fun w' hS hV K hK => ?_) ?_
              · have e3 : x 3 = (.slice (some ⟨g, 0, none⟩) n c1) := hV 3 (by decide)
                have e4 : x 4 = (.int .i64 (dn)) := hV 4 (by decide)
                have q0 := hS.1; have q1 := hS.2.1; have q2 := hS.2.2
                go_simp
                exact hK.out _ _ _ rfl rfl rfl (Below.refl _ _)
              simp only [zD, zE, zF]
              refine obs_step (Eq.trans (by simp only [zA, zB, zC]; exact rfl) rfl) rfl (fun w' hS hV K hK => ?_) ?_
              · have e5 : x 5 = (.pointer (some ⟨g, dn, none⟩)) := hV 5 (by decide)
                have q0 := hS.1; have q1 := hS.2.1; have q2 := hS.2.2
                go_simp
                exact hK.out _ _ _ rfl rfl rfl (Below.refl _ _)
              simp only [zD, zE, zF]
              refine obs_step (Eq.trans (by simp only [zA, zB, zC]; exact rfl) rfl) rfl (fun w' hS hV K hK => ?_) ?_
              · have q0 := hS.1; have q1 := hS.2.1; have q2 := hS.2.2
                go_simp
                exact hK.out _ _ _ rfl rfl rfl (Below.refl _ _)
              simp only [zD, zE, zF]
              refine obs_step (Eq.trans (by simp only [zA, zB, zC]; exact rfl) rfl) rfl (fun w' hS hV K hK => ?_) ?_
              · have q0 := hS.1; have q1 := hS.2.1; have q2 := hS.2.2
                go_simp
                exact hK.out _ _ _ rfl rfl rfl (Below.refl _ _)
              simp only [zD, zE, zF]
              refine obs_step (Eq.trans (by simp only [zA, zB, zC]; exact rfl) rfl) rfl (fun w' hS hV K hK => ?_) ?_
              · have q0 := hS.1; have q1 := hS.2.1; have q2 := hS.2.2
                go_simp
                exact hK.out _ _ _ rfl rfl rfl (Below.refl _ _)
              simp only [zD, zE, zF]
              refine obs_step (Eq.trans (by simp only [zA, zB, zC]; exact rfl) rfl) rfl (fun w' hS hV K hK => ?_) ?_
              · have e8 : x 8 = (.slice (some ⟨g, 0, none⟩) n c1) := hV 8 (by decide)
                have e9 : x 9 = (.int .i64 (dn)) := hV 9 (by decide)
                have q0 := hS.1; have q1 := hS.2.1; have q2 := hS.2.2
                go_simp
                exact hK.out _ _ _ rfl rfl rfl (Below.refl _ _)
              simp only [zD, zE, zF]
              refine obs_step (Eq.trans (by simp only [zA, zB, zC]; exact rfl) rfl) rfl (fun w' hS hV K hK => ?_) ?_
              · have e10 : x 10 = (.pointer (some ⟨g, dn, none⟩)) := hV 10 (by decide)
                have q0 := hS.1; have q1 := hS.2.1; have q2 := hS.2.2
                go_simp
                exact hK.out _ _ _ rfl rfl rfl (Below.refl _ _)
              simp only [zD, zE, zF]
              refine obs_step (Eq.trans (by simp only [zA, zB, zC]; exact rfl) rfl) rfl (fun w' hS hV K hK => ?_) ?_
              · have q0 := hS.1; have q1 := hS.2.1; have q2 := hS.2.2
                go_simp
                exact hK.out _ _ _ rfl rfl rfl (Below.refl _ _)
              simp only [zD, zE, zF]
              refine obs_step (Eq.trans (by simp only [zA, zB, zC]; exact rfl) rfl) rfl (fun w' hS hV K hK => ?_) ?_
              · have e11 : x 11 = (.slice (some ⟨gs, os, none⟩) m cs) := hV 11 (by decide)
                have e12 : x 12 = (.int .i64 (kn)) := hV 12 (by decide)
                have q0 := hS.1; have q1 := hS.2.1; have q2 := hS.2.2
                go_simp
                exact hK.out _ _ _ rfl rfl rfl (Below.refl _ _)
              simp only [zD, zE, zF]
              refine obs_step (Eq.trans (by simp only [zA, zB, zC]; exact rfl) rfl) rfl (fun w' hS hV K hK => ?_) ?_
              · have e13 : x 13 = (.pointer (some ⟨gs, os + kn, none⟩)) := hV 13 (by decide)
                have q0 := hS.1; have q1 := hS.2.1; have q2 := hS.2.2
                go_simp
                exact hK.out _ _ _ rfl rfl rfl (Below.refl _ _)
              simp only [zD, zE, zF]
              refine obs_step (Eq.trans (by simp only [zA, zB, zC]; exact rfl) rfl) rfl (fun w' hS hV K hK => ?_) ?_
              · have e7 : x 7 = (.int .i64 (p)) := hV 7 (by decide)
                have e14 : x 14 = (.int .i64 (xe)) := hV 14 (by decide)
                have q0 := hS.1; have q1 := hS.2.1; have q2 := hS.2.2
                go_simp
                refine (inv_any p xe _ hp hp2 hx1.1 hx1.2).mono ?_
                rintro e v1 ⟨rfl, rfl⟩
                exact hK.out _ _ _ rfl rfl rfl (Below.refl _ _)
              simp only [zD, zE, zF]
              refine obs_step (Eq.trans (by simp only [zA, zB, zC]; exact rfl) rfl) rfl (fun w' hS hV K hK => ?_) ?_
              · have e2 : x 2 = (.int .i64 (p)) := hV 2 (by decide)
                have e6 : x 6 = (.slice (some ⟨gs, os, none⟩) m cs) := hV 6 (by decide)
                have e15 : x 15 = (.int .i64 (invF p xe)) := hV 15 (by decide)
                have q0 := hS.1; have q1 := hS.2.1; have q2 := hS.2.2
                go_simp
                refine (scaled_any p _ m _ (invF p xe) R _ hp hp2 hm (HRS.out.rd.below hS.2.2) HRJ.out.2 (by omega) (by omega)).mono ?_
                rintro e v1 ⟨A2, c2, rfl, hM⟩
                exact hK.out _ _ _ rfl rfl ⟨_, _, rfl, hM.after hS.2.2⟩ hM.b
              simp only [zD, zE, zF]
              refine obs_step (Eq.trans (by simp only [zA, zB, zC]; exact rfl) rfl) rfl (fun w' hS hV K hK => ?_) ?_
              · have e0 : x 0 = (.slice (some ⟨g, 0, none⟩) n c1) := hV 0 (by decide)
                have e1 : x 1 = (.int .i64 (dn)) := hV 1 (by decide)
                have q0 := hS.1; have q1 := hS.2.1; have q2 := hS.2.2
                go_simp
                exact hK.out _ _ _ rfl rfl rfl (Below.refl _ _)
              simp only [zD, zE, zF]
              refine fun w' hS hV => ?_
              have e0 : x 0 = (.slice (some ⟨g, 0, none⟩) n c1) := hV 0 (by decide)
              have e1 : x 1 = (.int .i64 (dn)) := hV 1 (by decide)
              have e2 : x 2 = (.int .i64 (p)) := hV 2 (by decide)
              have e3 : x 3 = (.slice (some ⟨g, 0, none⟩) n c1) := hV 3 (by decide)
              have e4 : x 4 = (.int .i64 (dn)) := hV 4 (by decide)
              have e5 : x 5 = (.pointer (some ⟨g, dn, none⟩)) := hV 5 (by decide)
              have e6 : x 6 = (.slice (some ⟨gs, os, none⟩) m cs) := hV 6 (by decide)
              have e7 : x 7 = (.int .i64 (p)) := hV 7 (by decide)
              have e8 : x 8 = (.slice (some ⟨g, 0, none⟩) n c1) := hV 8 (by decide)
              have e9 : x 9 = (.int .i64 (dn)) := hV 9 (by decide)
              have e10 : x 10 = (.pointer (some ⟨g, dn, none⟩)) := hV 10 (by decide)
              have e11 : x 11 = (.slice (some ⟨gs, os, none⟩) m cs) := hV 11 (by decide)
              have e12 : x 12 = (.int .i64 (kn)) := hV 12 (by decide)
              have e13 : x 13 = (.pointer (some ⟨gs, os + kn, none⟩)) := hV 13 (by decide)
              have e14 : x 14 = (.int .i64 (xe)) := hV 14 (by decide)
              have e15 : x 15 = (.int .i64 (invF p xe)) := hV 15 (by decide)
              obtain ⟨A16, c16, e16, h16⟩ := hV 16 (by decide)
              have e17 : x 17 = (.pointer (some ⟨g, dn, none⟩)) := hV 17 (by decide)
              simp only [e0, e1, e2, e3, e4, e5, e6, e7, e8, e9, e10, e11, e12, e13, e14, e15, e16, e17]
              clear e0 e1 e2 e3 e4 e5 e6 e7 e8 e9 e10 e11 e12 e13 e14 e15 e16 e17
              obtain ⟨q0, q1, q2⟩ := hS
              have ff := (HM2.out.below q2).frozen_ dn
              refine any_one (j := 18) (by kernel_rfl) (Eq.trans (by simp only [zA, zB, zC]; exact rfl) rfl) (fun K hK => ?_)
              go_simp
              refine hK.out _ _ (wpAny_done (by kernel_rfl) ?_ _)
              have hM3 := HM2.out.setRow h16 dn
              rw [← HSC.out] at hM3
              clear q0 q1 q2 ff hV hcs2 hce2 fd h16
              obtain ⟨w3, hw3⟩ : ∃ W, W = w'.setCell ⟨g, dn, none⟩ (.slice A16 m c16) := ⟨_, rfl⟩
              rw [← hw3] at hM3 ⊢
              clear hw3 HM2 HRS
              have hM0 : MkII w w3 (some ⟨g, 0, none⟩) n c1 (clearTo p (scaledAt p L kn dn) dn kn 0) := by rw [clearTo_zero]; exact hM3
              obtain ⟨N, hN⟩ : ∃ N, N = scaledAt p L kn dn := ⟨_, rfl⟩
              rw [← hN] at hM0 HTS HNEXT HSCD
              clear hM3 hN HSC
              go_wp2
              go_loopw [86] (fun i w4 => ∃ r : Nat, r ≤ n ∧ i = .int .i64 r ∧ MkII w w4 (some ⟨g, 0, none⟩) n c1 (clearTo p N dn kn r)) (fun i _ => n - (intOf i).toNat)
              case atStart => exact ⟨0, by omega, rfl, hM0⟩
              case round =>
                obtain ⟨r, hr, rfl, hM4⟩ := hrel
                clear hM0
                by_cases hlr : r < n
                · by_cases hrd : r = dn
                  · subst hrd
                    have HM4 := Lib.hid hM4
                    clear hM4
                    go_wp2
                    go_roundw
                    case rel => exact ⟨r + 1, by omega, by go_num, by rw [clearTo_skip]; exact HM4.out⟩
                    case measure => simp [intOf]; omega
                  · have hT4 : Tab p m (clearTo p N dn kn r) := clearTo_tab (by omega) HTS.out.1 dn kn r
                    have hr4 : (clearTo p N dn kn r).getD r [] = N.getD r [] := by rw [clearTo_getD (by rw [HTS.out.2]; exact hlr), if_neg (by omega)]
                    have hd4 : (clearTo p N dn kn r).getD dn [] = N.getD dn [] := by rw [clearTo_getD (by rw [HTS.out.2]; exact hld), if_neg (fun h => h.2 rfl)]
                    obtain ⟨g0, e0, hxr, Ar, cr, hcr, hrr⟩ := hM4.at_ hlr
                    injection e0 with e0; injection e0 with e0 _ _; subst e0
                    obtain ⟨g0, e0, hxd, Ad2, cd2, hcd2, hrd2⟩ := hM4.at_ hld
                    injection e0 with e0; injection e0 with e0 _ _; subst e0
                    have HR1 := Lib.hid (hT4 _ (List.getElem_mem hxr))
                    have HD1 := Lib.hid (hT4 _ (List.getElem_mem hxd))
                    have hl1 := HR1.out.1
                    have hl2 := HD1.out.1
                    rw [getD_of_lt [] hxr] at hr4
                    rw [getD_of_lt [] hxd] at hd4
                    rw [hl1] at hcr hrr
                    rw [hl2] at hcd2 hrd2
                    rw [hr4] at hrr HR1
                    rw [hd4] at hrd2 HD1
                    obtain ⟨gr, or', rfl, hxy, hcy⟩ := hrr.rd.int hlk
                    have hey : ent N r kn = (N.getD r [])[kn] := by unfold ent; rw [getD_of_lt 0 hxy]
                    obtain ⟨y, hy⟩ : ∃ y, y = (N.getD r [])[kn] := ⟨_, rfl⟩
                    have hyb : 0 ≤ y ∧ y < p := hy ▸ HR1.out.2 _ (List.getElem_mem hxy)
                    rw [← hy] at hcy hey
                    have HEY := Lib.hid hey
                    have HM4 := Lib.hid hM4
                    have HRR := Lib.hid hrr
                    have HRD := Lib.hid hrd2
                    clear hy hT4 hr4 hd4 hl1 hl2 hxr hxd hxy hey hM4 hrr hrd2
                    cases hyz : (y != 0)
                    · have hy0 : y = 0 := by simpa using hyz
                      go_wp2
                      go_roundw
                      case rel => exact ⟨r + 1, by omega, by go_num, by rw [clearTo_same (by rw [HTS.out.2]; exact hlr) (by rw [HEY.out]; exact hy0) HR1.out.2]; exact HM4.out⟩
                      case measure => simp [intOf]; omega
                    · have hwy := i64_small (x := -y) (by omega) (by omega)
                      go_wp2
                      refine wp_obs 21 [[], [], [], [], [], [3, 4], [3, 4, 5], [], [], [7, 8], [7, 8, 9], [], [], [11, 12], [11, 12, 13], [], [11, 12, 13, 14, 15], [11, 12, 13, 14, 15, 16], [11, 12, 13, 14, 15, 16, 17], [2, 3, 4, 5, 6, 7, 8, 9, 10, 11, 12, 13, 14, 15, 16, 17, 18], [0, 1], [0, 1, 2, 3, 4, 5, 6, 7, 8, 9, 10, 11, 12, 13, 14, 15, 16, 17, 18, 19, 20]] [VIs (.slice (some ⟨g, 0, none⟩) n c1), VIs (.int .i64 (r)), VIs (.int .i64 (p)), VIs (.slice (some ⟨g, 0, none⟩) n c1), VIs (.int .i64 (r)), VIs (.pointer (some ⟨g, r, none⟩)), VIs (.slice (some ⟨gr, or', none⟩) m cr), VIs (.slice (some ⟨g, 0, none⟩) n c1), VIs (.int .i64 (dn)), VIs (.pointer (some ⟨g, dn, none⟩)), VIs (.slice Ad2 m cd2), VIs (.slice (some ⟨g, 0, none⟩) n c1), VIs (.int .i64 (r)), VIs (.pointer (some ⟨g, r, none⟩)), VIs (.slice (some ⟨gr, or', none⟩) m cr), VIs (.int .i64 (kn)), VIs (.pointer (some ⟨gr, or' + kn, none⟩)), VIs (.int .i64 (y)), VIs (.int .i64 (-y)), VSl wr m (plusL p (N.getD r []) (N.getD dn []) (-y)), VIs (.pointer (some ⟨g, r, none⟩))] (fun w' => w'.cell? ⟨g, r, none⟩ = some (.slice (some ⟨gr, or', none⟩) m cr) ∧ w'.cell? ⟨g, dn, none⟩ = some (.slice Ad2 m cd2) ∧ w'.cell? ⟨gr, or' + kn, none⟩ = some (.int .i64 y) ∧ Below wr.heap.size wr w') (by kernel_rfl) (by kernel_rfl) (fun _ _ h hb => keepR3 h hb (Nat.le_refl _)) (⟨hcr, hcd2, hcy, (Below.refl _ _).drew⟩) (fun x => ?_)
                      refine obs_step (Eq.trans (by simp only [zA, zC]; exact rfl) rfl) rfl (fun w' hS hV K hK => ?_) ?_
                      · have q0 := hS.1; have q1 := hS.2.1; have q2 := hS.2.2.1; have q3 := hS.2.2.2
                        go_simp
                        exact hK.out _ _ _ rfl rfl rfl (Below.refl _ _)
                      simp only [zD, zE, zF]
                      refine obs_step (Eq.trans (by simp only [zA, zB, zC]; exact rfl) rfl) rfl (fun w' hS hV K hK => ?_) ?_
                      · have q0 := hS.1; have q1 := hS.2.1; have q2 := hS.2.2.1; have q3 := hS.2.2.2
                        go_simp
                        exact hK.out _ _ _ rfl rfl rfl (Below.refl _ _)
                      simp only [zD, zE, zF]
                      refine obs_step (Eq.trans (by simp only [zA, zB, zC]; exact rfl) rfl) rfl (fun w' hS hV K hK => ?_) ?_
                      · have q0 := hS.1; have q1 := hS.2.1; have q2 := hS.2.2.1; have q3 := hS.2.2.2
                        go_simp
                        exact hK.out _ _ _ rfl rfl rfl (Below.refl _ _)
                      simp only [zD, zE, zF]
                      refine obs_step (Eq.trans (by simp only [zA, zB, zC]; exact rfl) rfl) rfl (fun w' hS hV K hK => ?_) ?_
                      · have q0 := hS.1; have q1 := hS.2.1; have q2 := hS.2.2.1; have q3 := hS.2.2.2
                        go_simp
                        exact hK.out _ _ _ rfl rfl rfl (Below.refl _ _)
                      simp only [zD, zE, zF]
                      refine obs_step (Eq.trans (by simp only [zA, zB, zC]; exact rfl) rfl) rfl (fun w' hS hV K hK => ?_) ?_
                      · have q0 := hS.1; have q1 := hS.2.1; have q2 := hS.2.2.1; have q3 := hS.2.2.2
                        go_simp
                        exact hK.out _ _ _ rfl rfl rfl (Below.refl _ _)
                      simp only [zD, zE, zF]
                      refine obs_step (Eq.trans (by simp only [zA, zB, zC]; exact rfl) rfl) rfl (fun w' hS hV K hK => ?_) ?_
                      · have e3 : x 3 = (.slice (some ⟨g, 0, none⟩) n c1) := hV 3 (by decide)
                        have e4 : x 4 = (.int .i64 (r)) := hV 4 (by decide)
                        have q0 := hS.1; have q1 := hS.2.1; have q2 := hS.2.2.1; have q3 := hS.2.2.2
                        go_simp
                        exact hK.out _ _ _ rfl rfl rfl (Below.refl _ _)
                      simp only [zD, zE, zF]
                      refine obs_step (Eq.trans (by simp only [zA, zB, zC]; exact rfl) rfl) rfl (fun w' hS hV K hK => ?_) ?_
                      · have e5 : x 5 = (.pointer (some ⟨g, r, none⟩)) := hV 5 (by decide)
                        have q0 := hS.1; have q1 := hS.2.1; have q2 := hS.2.2.1; have q3 := hS.2.2.2
                        go_simp
                        exact hK.out _ _ _ rfl rfl rfl (Below.refl _ _)
                      simp only [zD, zE, zF]
                      refine obs_step (Eq.trans (by simp only [zA, zB, zC]; exact rfl) rfl) rfl (fun w' hS hV K hK => ?_) ?_
                      · have q0 := hS.1; have q1 := hS.2.1; have q2 := hS.2.2.1; have q3 := hS.2.2.2
                        go_simp
                        exact hK.out _ _ _ rfl rfl rfl (Below.refl _ _)
                      simp only [zD, zE, zF]
                      refine obs_step (Eq.trans (by simp only [zA, zB, zC]; exact rfl) rfl) rfl (fun w' hS hV K hK => ?_) ?_
                      · have q0 := hS.1; have q1 := hS.2.1; have q2 := hS.2.2.1; have q3 := hS.2.2.2
                        go_simp
                        exact hK.out _ _ _ rfl rfl rfl (Below.refl _ _)
                      simp only [zD, zE, zF]
                      refine obs_step (Eq.trans (by simp only [zA, zB, zC]; exact rfl) rfl) rfl (fun w' hS hV K hK => ?_) ?_
                      · have e7 : x 7 = (.slice (some ⟨g, 0, none⟩) n c1) := hV 7 (by decide)
                        have e8 : x 8 = (.int .i64 (dn)) := hV 8 (by decide)
                        have q0 := hS.1; have q1 := hS.2.1; have q2 := hS.2.2.1; have q3 := hS.2.2.2
                        go_simp
                        exact hK.out _ _ _ rfl rfl rfl (Below.refl _ _)
                      simp only [zD, zE, zF]
                      refine obs_step (Eq.trans (by simp only [zA, zB, zC]; exact rfl) rfl) rfl (fun w' hS hV K hK => ?_) ?_
                      · have e9 : x 9 = (.pointer (some ⟨g, dn, none⟩)) := hV 9 (by decide)
                        have q0 := hS.1; have q1 := hS.2.1; have q2 := hS.2.2.1; have q3 := hS.2.2.2
                        go_simp
                        exact hK.out _ _ _ rfl rfl rfl (Below.refl _ _)
                      simp only [zD, zE, zF]
                      refine obs_step (Eq.trans (by simp only [zA, zB, zC]; exact rfl) rfl) rfl (fun w' hS hV K hK => ?_) ?_
                      · have q0 := hS.1; have q1 := hS.2.1; have q2 := hS.2.2.1; have q3 := hS.2.2.2
                        go_simp
                        exact hK.out _ _ _ rfl rfl rfl (Below.refl _ _)
                      simp only [zD, zE, zF]
                      refine obs_step (Eq.trans (by simp only [zA, zB, zC]; exact rfl) rfl) rfl (fun w' hS hV K hK => ?_) ?_
                      · have q0 := hS.1; have q1 := hS.2.1; have q2 := hS.2.2.1; have q3 := hS.2.2.2
                        go_simp
                        exact hK.out _ _ _ rfl rfl rfl (Below.refl _ _)
                      simp only [zD, zE, zF]
                      refine obs_step (Eq.trans (by simp only [zA, zB, zC]; exact rfl) rfl) rfl (fun w' hS hV K hK => ?_) ?_
                      · have e11 : x 11 = (.slice (some ⟨g, 0, none⟩) n c1) := hV 11 (by decide)
                        have e12 : x 12 = (.int .i64 (r)) := hV 12 (by decide)
                        have q0 := hS.1; have q1 := hS.2.1; have q2 := hS.2.2.1; have q3 := hS.2.2.2
                        go_simp
                        exact hK.out _ _ _ rfl rfl rfl (Below.refl _ _)
                      simp only [zD, zE, zF]
                      refine obs_step (Eq.trans (by simp only [zA, zB, zC]; exact rfl) rfl) rfl (fun w' hS hV K hK => ?_) ?_
                      · have e13 : x 13 = (.pointer (some ⟨g, r, none⟩)) := hV 13 (by decide)
                        have q0 := hS.1; have q1 := hS.2.1; have q2 := hS.2.2.1; have q3 := hS.2.2.2
                        go_simp
                        exact hK.out _ _ _ rfl rfl rfl (Below.refl _ _)
                      simp only [zD, zE, zF]
                      refine obs_step (Eq.trans (by simp only [zA, zB, zC]; exact rfl) rfl) rfl (fun w' hS hV K hK => ?_) ?_
                      · have q0 := hS.1; have q1 := hS.2.1; have q2 := hS.2.2.1; have q3 := hS.2.2.2
                        go_simp
                        exact hK.out _ _ _ rfl rfl rfl (Below.refl _ _)
                      simp only [zD, zE, zF]
                      refine obs_step (Eq.trans (by simp only [zA, zB, zC]; exact rfl) rfl) rfl (fun w' hS hV K hK => ?_) ?_
                      · have e14 : x 14 = (.slice (some ⟨gr, or', none⟩) m cr) := hV 14 (by decide)
                        have e15 : x 15 = (.int .i64 (kn)) := hV 15 (by decide)
                        have q0 := hS.1; have q1 := hS.2.1; have q2 := hS.2.2.1; have q3 := hS.2.2.2
                        go_simp
                        exact hK.out _ _ _ rfl rfl rfl (Below.refl _ _)
                      simp only [zD, zE, zF]
                      refine obs_step (Eq.trans (by simp only [zA, zB, zC]; exact rfl) rfl) rfl (fun w' hS hV K hK => ?_) ?_
                      · have e16 : x 16 = (.pointer (some ⟨gr, or' + kn, none⟩)) := hV 16 (by decide)
                        have q0 := hS.1; have q1 := hS.2.1; have q2 := hS.2.2.1; have q3 := hS.2.2.2
                        go_simp
                        exact hK.out _ _ _ rfl rfl rfl (Below.refl _ _)
                      simp only [zD, zE, zF]
                      refine obs_step (Eq.trans (by simp only [zA, zB, zC]; exact rfl) rfl) rfl (fun w' hS hV K hK => ?_) ?_
                      · have e17 : x 17 = (.int .i64 (y)) := hV 17 (by decide)
                        have q0 := hS.1; have q1 := hS.2.1; have q2 := hS.2.2.1; have q3 := hS.2.2.2
                        go_simp
                        exact hK.out _ _ _ rfl rfl rfl (Below.refl _ _)
                      simp only [zD, zE, zF]
                      refine obs_step (Eq.trans (by simp only [zA, zB, zC]; exact rfl) rfl) rfl (fun w' hS hV K hK => ?_) ?_
                      · have e2 : x 2 = (.int .i64 (p)) := hV 2 (by decide)
                        have e6 : x 6 = (.slice (some ⟨gr, or', none⟩) m cr) := hV 6 (by decide)
                        have e10 : x 10 = (.slice Ad2 m cd2) := hV 10 (by decide)
                        have e18 : x 18 = (.int .i64 (-y)) := hV 18 (by decide)
                        have q0 := hS.1; have q1 := hS.2.1; have q2 := hS.2.2.1; have q3 := hS.2.2.2
                        go_simp
                        refine (plus_any p _ m _ _ m _ (-y) _ _ _ hp hp2 hm (Nat.le_refl _) (HRR.out.rd.below hS.2.2.2) HR1.out.2 (HRD.out.rd.below hS.2.2.2) HD1.out.2 (by omega) (by omega)).mono ?_
                        rintro e v1 ⟨A2, c2, rfl, hM⟩
                        exact hK.out _ _ _ rfl rfl ⟨_, _, rfl, hM.after hS.2.2.2⟩ hM.b
                      simp only [zD, zE, zF]
                      refine obs_step (Eq.trans (by simp only [zA, zB, zC]; exact rfl) rfl) rfl (fun w' hS hV K hK => ?_) ?_
                      · have e0 : x 0 = (.slice (some ⟨g, 0, none⟩) n c1) := hV 0 (by decide)
                        have e1 : x 1 = (.int .i64 (r)) := hV 1 (by decide)
                        have q0 := hS.1; have q1 := hS.2.1; have q2 := hS.2.2.1; have q3 := hS.2.2.2
                        go_simp
                        exact hK.out _ _ _ rfl rfl rfl (Below.refl _ _)
                      simp only [zD, zE, zF]
                      refine fun w' hS hV => ?_
                      have e0 : x 0 = (.slice (some ⟨g, 0, none⟩) n c1) := hV 0 (by decide)
                      have e1 : x 1 = (.int .i64 (r)) := hV 1 (by decide)
                      have e2 : x 2 = (.int .i64 (p)) := hV 2 (by decide)
                      have e3 : x 3 = (.slice (some ⟨g, 0, none⟩) n c1) := hV 3 (by decide)
                      have e4 : x 4 = (.int .i64 (r)) := hV 4 (by decide)
                      have e5 : x 5 = (.pointer (some ⟨g, r, none⟩)) := hV 5 (by decide)
                      have e6 : x 6 = (.slice (some ⟨gr, or', none⟩) m cr) := hV 6 (by decide)
                      have e7 : x 7 = (.slice (some ⟨g, 0, none⟩) n c1) := hV 7 (by decide)
                      have e8 : x 8 = (.int .i64 (dn)) := hV 8 (by decide)
                      have e9 : x 9 = (.pointer (some ⟨g, dn, none⟩)) := hV 9 (by decide)
                      have e10 : x 10 = (.slice Ad2 m cd2) := hV 10 (by decide)
                      have e11 : x 11 = (.slice (some ⟨g, 0, none⟩) n c1) := hV 11 (by decide)
                      have e12 : x 12 = (.int .i64 (r)) := hV 12 (by decide)
                      have e13 : x 13 = (.pointer (some ⟨g, r, none⟩)) := hV 13 (by decide)
                      have e14 : x 14 = (.slice (some ⟨gr, or', none⟩) m cr) := hV 14 (by decide)
                      have e15 : x 15 = (.int .i64 (kn)) := hV 15 (by decide)
                      have e16 : x 16 = (.pointer (some ⟨gr, or' + kn, none⟩)) := hV 16 (by decide)
                      have e17 : x 17 = (.int .i64 (y)) := hV 17 (by decide)
                      have e18 : x 18 = (.int .i64 (-y)) := hV 18 (by decide)
                      obtain ⟨A19, c19, e19, h19⟩ := hV 19 (by decide)
                      have e20 : x 20 = (.pointer (some ⟨g, r, none⟩)) := hV 20 (by decide)
                      simp only [e0, e1, e2, e3, e4, e5, e6, e7, e8, e9, e10, e11, e12, e13, e14, e15, e16, e17, e18, e19, e20]
                      clear e0 e1 e2 e3 e4 e5 e6 e7 e8 e9 e10 e11 e12 e13 e14 e15 e16 e17 e18 e19 e20
                      obtain ⟨q0, q1, q2, q3⟩ := hS
                      have ff := (HM4.out.below q3).frozen_ r
                      refine any_one (j := 21) (by kernel_rfl) (Eq.trans (by simp only [zA, zB, zC]; exact rfl) rfl) (fun K hK => ?_)
                      go_simp
                      refine hK.out _ _ (wpAny_done (by kernel_rfl) ?_ _)
                      have hM5 := HM4.out.setRow h19 r
                      have hM6 : MkII w (w'.setCell ⟨g, r, none⟩ (.slice A19 m c19)) (some ⟨g, 0, none⟩) n c1 (clearTo p N dn kn (r + 1)) := by
                        rw [clearTo_succ p N dn kn r (by rw [HTS.out.2]; exact hlr) hrd, HEY.out]; exact hM5
                      clear q0 q1 q2 q3 ff hM5 h19
                      go_wp2
                      go_roundw
                      case rel => exact ⟨r + 1, by omega, by go_num, hM6⟩
                      case measure => simp [intOf]; omega
                · obtain rfl : r = n := by omega
                  have HM4 := Lib.hid hM4
                  clear hM4
                  go_wp2
                  go_roundw
                  case rel => exact ⟨dn + 1, kn + 1, by go_num, by go_num, by omega, by rw [HNEXT.out], by rw [HNEXT.out]; exact HM4.out⟩
                  case measure => simp [intOf]; omega
            · have hx0' : xe = 0 := by simpa using hz
              go_wp2
              go_round
              case rel => exact ⟨j + 1, by omega, by omega, by go_num, Lib.hid (by rw [← hj3.out, HPV.out, if_pos (by rw [HE.out]; exact hx0')])⟩
              case measure => simp [intOf]; omega
          · obtain rfl : j = n := by omega
            have HVP : Hid (pivOf L kn dn = j) := Lib.hid (by rw [← hj3.out, Nat.sub_self]; rfl)
            have HNEXT : Hid (basisTo p M (kn + 1) = (L, dn)) := Lib.hid (by
              rw [HSUC.out]; unfold stepB; rw [if_pos (by simp only; rw [HVP.out, HL1.out])])
            go_wp2
            go_roundw
            case rel => exact ⟨dn, kn + 1, rfl, by go_num, by omega, by rw [HNEXT.out], by rw [HNEXT.out]; exact HM.out⟩
            case measure => simp [intOf]; omega
      · have HBE : Hid (basisL p M = L.take dn ∧ (L.take dn).length = dn) := Lib.hid ⟨by
          by_cases hk2 : kn = m
          · exact HEND.out hk2
          · exact HFULL.out (by omega), by rw [List.length_take, HL1.out]; omega⟩
        by_cases hk3 : kn < m
        all_goals go_wp2
        all_goals
          go_ret
          rw [HBE.out.1, HBE.out.2]
          exact ⟨_, _, rfl, HM.out.cut hd1⟩
  · obtain rfl : n = 0 := by omega
    obtain rfl : M = [] := List.eq_nil_of_length_eq_zero hML
    clear hT HT
    have HBN := Lib.hid (basisL_nil p)
    go_enter Tryz.func248, Tryz.ntmps248
    go_wp2_with fail
    refine hclone.mono ?_
    rintro e w1 ⟨A1, c1, rfl, hM1⟩
    clear hclone
    go_wp2
    go_loopw [6, 7] (fun d q wr => d = .int .i64 0 ∧ q = .int .i64 0 ∧ wr = w1) (fun _ _ _ => 0)
    case atStart => exact ⟨rfl, rfl, rfl⟩
    case round =>
      obtain ⟨rfl, rfl, rfl⟩ := hrel
      rcases hM1 with ⟨rows, hm1, hn1⟩
      have hcap := hm1.2.cap
      rcases hm1.2.form with ⟨rfl, _⟩ | ⟨g, rfl, _, _⟩
      all_goals
        go_wp2
        go_ret
        rw [HBN.out]
        exact ⟨_, _, rfl, rows, hm1, hn1⟩
end Go.Proofs.YtdbibmilicjllaaGreat
namespace Go.Proofs.YtdbibmilicjllaaGreat
open Go.RowKit Go.Maps
/-- The map from the places of the firsts to the rows, of the first j rows. -/
structure Places {H : Type} (B : List (List Int)) (j : Nat) (D : DataW H) : Prop where
  map : IsMap D
  has : ∀ k : Nat, Maps.has D (.int .i64 k) = true ↔ ∃ i, i < j ∧ ld B i = k
  only : ∀ z : Lit, Maps.has D z = true → ∃ k : Nat, z = .int .i64 k
  val : ∀ i, i < j → ∀ zd, D.atKey (.int .i64 (ld B i)) zd = .lit (.int .i64 i)
end Go.Proofs.YtdbibmilicjllaaGreat

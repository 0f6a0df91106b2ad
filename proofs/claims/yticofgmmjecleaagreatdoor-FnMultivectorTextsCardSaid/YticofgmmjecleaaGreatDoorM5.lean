/-
  LawFnMultivectorTexts: part 5 of the texts that the proof needs. No condition.
-/
import Derived.Test.YticofgmmjecleaaGreatDoorM4
namespace Go.Proofs.YticofgmmjecleaaGreatDoor
open Go Go.RowKit
/-- One byte of a block of its own. -/
def VByN (d : Nat) : VP := ⟨fun v w => ∃ (b : Nat) (_ : Nat), v = .slice (some ⟨b, 0, none⟩) 1 1 ∧ Blk w b 5 #[.int .u8 (48 + (d : Int))], fun _ _ _ ⟨b, c, e, h⟩ hb => ⟨b, c, e, h.below hb h.lt⟩⟩
theorem byte_textN {w : World} {b d : Nat} (hk : Blk w b 5 #[.int .u8 (48 + (d : Int))]) (hd : d < 10) :
    (convert 43 9 (.slice (some ⟨b, 0, none⟩) 1 1)).run Tryz.prog w = .ok (.string ⟨[UInt8.ofNat (48 + d)].toArray⟩) w := by
  refine run_convert_bytes_back _ _ _ 5 _ 1 [UInt8.ofNat (48 + d)] Tryz.underlying43 Tryz.underlying5 Tryz.underlying9 fun j hj => ?_
  obtain rfl : j = 0 := by simpa using hj
  rw [Addr.add_lit]
  refine (hk.cell 0).trans ?_
  have : (UInt8.ofNat (48 + d)).toNat = 48 + d := by rw [UInt8.toNat_ofNat']; omega
  show some (Value.int .u8 (48 + (d : Int))) = some (.int .u8 ((UInt8.ofNat (48 + d)).toNat : Int))
  rw [this]; simp
theorem w64_of {x : Int} (h : -4611686018427387904 ≤ x ∧ x ≤ 4611686018427387904) : wrap64 x = x := by unfold wrap64; omega
theorem i64_of {x : Int} (h : -4611686018427387904 ≤ x ∧ x ≤ 4611686018427387904) : IntKind.i64.wrap x = x := by rw [IntWalk.i64_left]; exact w64_of h
theorem dec_le : ∀ n : Nat, (Lib.decDigits n).length ≤ n + 1 := by
  intro n
  induction n using Nat.strongRecOn with
  | ind n ih =>
    by_cases h : n < 10
    · rw [dec_one h]; simp
    · rw [dec_more h, List.length_append]
      have := ih (n / 10) (by omega)
      simp only [List.length_cons, List.length_nil]; omega
set_option maxHeartbeats 1600000 in
set_option maxRecDepth 8000 in
theorem l01Dec_step (n : Nat) (hn : n < 4611686018427387904) (h10 : ¬ n < 10) (ih : ∀ m, m < n → m < 4611686018427387904 → ∀ w : World, Calls Tryz.prog 113 #[.int .i64 m] w fun e w' => e = .returned (.string ⟨(Lib.decDigits m).toArray⟩) ∧ Below w.heap.size w w') (w : World) :
    Calls Tryz.prog 113 #[.int .i64 n] w fun e w' => e = .returned (.string ⟨(Lib.decDigits n).toArray⟩) ∧ Below w.heap.size w w' := by
  have d1 : decide ((n : Int) < 10) = false := by simp; omega
  have q3 : Int.tmod (n : Int) 10 = ((n % 10 : Nat) : Int) := by rw [Int.tmod_eq_emod_of_nonneg (by omega)]; omega
  have q4 : Int.tdiv (n : Int) 10 = ((n / 10 : Nat) : Int) := by rw [Int.tdiv_eq_ediv_of_nonneg (by omega)]; omega
  have hit0 := fun wx => ih (n / 10) (by omega) (by omega) wx
  have hyl0 : (Lib.decDigits (n / 10)).length ≤ n / 10 + 1 := dec_le _
  have hz0 := dec_more h10
  have hd10 : n % 10 < 10 := by omega
  obtain ⟨D, hD⟩ : ∃ D, D = n % 10 := ⟨_, rfl⟩
  obtain ⟨Q, hQ⟩ : ∃ Q, Q = n / 10 := ⟨_, rfl⟩
  rw [← hD] at q3 hd10 hz0
  rw [← hQ] at q4 hit0 hyl0 hz0
  have bD : -4611686018427387904 ≤ 48 + (D : Int) ∧ 48 + (D : Int) ≤ 4611686018427387904 := by omega
  have bQ : -4611686018427387904 ≤ (Q : Int) ∧ (Q : Int) ≤ 4611686018427387904 := by omega
  have W2 : IntKind.u8.wrap (48 + (D : Int)) = 48 + (D : Int) := by
    have e : IntKind.u8.wrap (48 + (D : Int)) = (48 + (D : Int)) % 256 := rfl
    rw [e]; omega
  have hlen : Q + 1 + 1 ≤ 9223372036854775807 := by omega
  have W1 := i64_of bD
  have W3 := i64_of bQ
  have W4 := w64_of bD
  have W5 := w64_of bQ
  obtain ⟨y, hy⟩ : ∃ y : By, y = Lib.decDigits Q := ⟨_, rfl⟩
  obtain ⟨z, hz⟩ : ∃ z : By, z = [UInt8.ofNat (48 + D)] := ⟨_, rfl⟩
  have hyl : y.length ≤ Q + 1 := by rw [hy]; exact hyl0
  have hzl : z.length = 1 := by rw [hz]; rfl
  have hit : ∀ wx, Calls Tryz.prog 113 #[.int .i64 (Q : Int)] wx fun e w' => e = .returned (.string ⟨y.toArray⟩) ∧ Below wx.heap.size wx w' := by
    rw [hy]; exact hit0
  have hbt : ∀ {wx : World} {b : Nat}, Blk wx b 5 #[.int .u8 (48 + (D : Int))] → (convert 43 9 (.slice (some ⟨b, 0, none⟩) 1 1)).run Tryz.prog wx = .ok (.string ⟨z.toArray⟩) wx := by
    intro wx b hk; rw [hz]; exact byte_textN hk hd10
  have hcat := fun wx => cat_big (P := Tryz.prog) wx y z (by rw [hzl]; exact Nat.le_trans (Nat.add_le_add_right hyl 1) hlen)
  have HL : Hid (Lib.decDigits n = y ++ z) := Lib.hid (by rw [hz0, hy, hz])
  clear hit0 hy hz hyl hzl hD hQ h10 hn hyl0 hz0 ih bD bQ hlen
  obtain ⟨R, hR⟩ : ∃ R, R = Lib.decDigits n := ⟨_, rfl⟩
  have HR := Lib.hid hR
  rw [← hR]
  clear hR
  go_enter Tryz.func113, Tryz.ntmps113
  go_wp2
  refine wp_obs 11 [[], [0], [0, 1], [], [3], [3, 4], [3, 4, 5], [3, 4, 5, 6], [3, 4, 5, 6, 7], [0, 1, 2, 3, 4, 5, 6, 7, 8], [0, 1, 2, 3, 4, 5, 6, 7, 8, 9]] [VIs (.int .i64 (n : Int)), VIs (.int .i64 (Q : Int)), VIs (.string ⟨y.toArray⟩), VIs (.int .i64 (n : Int)), VIs (.int .i64 (D : Int)), VIs (.int .i64 (48 + (D : Int))), VIs (.int .u8 (48 + (D : Int))), VByN D, VIs (.string ⟨z.toArray⟩), VIs (.string ⟨(y ++ z).toArray⟩), VIs (.string ⟨(y ++ z).toArray⟩)] (fun w' => Below w.heap.size w w') (by kernel_rfl) (by kernel_rfl) (fun _ _ h hb => h.trans (hb.mono h.size)) ((Below.refl _ _).drew) (fun x => ?_)
  refine obs_step (Eq.trans (by simp only [List.getElem?_toArray, List.getElem?_cons_zero]; exact rfl) rfl) rfl (fun w' hS hV K hK => ?_) ?_
  · go_simp
    exact hK.out _ _ _ rfl rfl rfl (Below.refl _ _)
  simp only [List.setIfInBounds_toArray, List.set_cons_zero, List.set_cons_succ]
  refine obs_step (Eq.trans (by simp only [List.getElem?_toArray, List.getElem?_cons_succ, List.getElem?_cons_zero]; exact rfl) rfl) rfl (fun w' hS hV K hK => ?_) ?_
  · have e0 : x 0 = (.int .i64 (n : Int)) := hV 0 (by decide)
    go_simp
    exact hK.out _ _ _ rfl rfl rfl (Below.refl _ _)
  simp only [List.setIfInBounds_toArray, List.set_cons_zero, List.set_cons_succ]
  refine obs_step (Eq.trans (by simp only [List.getElem?_toArray, List.getElem?_cons_succ, List.getElem?_cons_zero]; exact rfl) rfl) rfl (fun w' hS hV K hK => ?_) ?_
  · have e0 : x 0 = (.int .i64 (n : Int)) := hV 0 (by decide)
    have e1 : x 1 = (.int .i64 (Q : Int)) := hV 1 (by decide)
    go_simp
    refine (hit _).mono ?_
    rintro e v1 ⟨rfl, hb⟩
    exact hK.out _ _ _ rfl rfl rfl hb
  simp only [List.setIfInBounds_toArray, List.set_cons_zero, List.set_cons_succ]
  refine obs_step (Eq.trans (by simp only [List.getElem?_toArray, List.getElem?_cons_succ, List.getElem?_cons_zero]; exact rfl) rfl) rfl (fun w' hS hV K hK => ?_) ?_
  · go_simp
    exact hK.out _ _ _ rfl rfl rfl (Below.refl _ _)
  simp only [List.setIfInBounds_toArray, List.set_cons_zero, List.set_cons_succ]
  refine obs_step (Eq.trans (by simp only [List.getElem?_toArray, List.getElem?_cons_succ, List.getElem?_cons_zero]; exact rfl) rfl) rfl (fun w' hS hV K hK => ?_) ?_
  · have e3 : x 3 = (.int .i64 (n : Int)) := hV 3 (by decide)
    go_simp
    exact hK.out _ _ _ rfl rfl rfl (Below.refl _ _)
  simp only [List.setIfInBounds_toArray, List.set_cons_zero, List.set_cons_succ]
  refine obs_step (Eq.trans (by simp only [List.getElem?_toArray, List.getElem?_cons_succ, List.getElem?_cons_zero]; exact rfl) rfl) rfl (fun w' hS hV K hK => ?_) ?_
  · have e3 : x 3 = (.int .i64 (n : Int)) := hV 3 (by decide)
    have e4 : x 4 = (.int .i64 (D : Int)) := hV 4 (by decide)
    go_simp
    exact hK.out _ _ _ rfl rfl rfl (Below.refl _ _)
  simp only [List.setIfInBounds_toArray, List.set_cons_zero, List.set_cons_succ]
  refine obs_step (Eq.trans (by simp only [List.getElem?_toArray, List.getElem?_cons_succ, List.getElem?_cons_zero]; exact rfl) rfl) rfl (fun w' hS hV K hK => ?_) ?_
  · have e3 : x 3 = (.int .i64 (n : Int)) := hV 3 (by decide)
    have e4 : x 4 = (.int .i64 (D : Int)) := hV 4 (by decide)
    have e5 : x 5 = (.int .i64 (48 + (D : Int))) := hV 5 (by decide)
    go_simp
    exact hK.out _ _ _ rfl rfl rfl (Below.refl _ _)
  simp only [List.setIfInBounds_toArray, List.set_cons_zero, List.set_cons_succ]
  refine obs_step (Eq.trans (by simp only [List.getElem?_toArray, List.getElem?_cons_succ, List.getElem?_cons_zero]; exact rfl) rfl) rfl (fun w' hS hV K hK => ?_) ?_
  · have e3 : x 3 = (.int .i64 (n : Int)) := hV 3 (by decide)
    have e4 : x 4 = (.int .i64 (D : Int)) := hV 4 (by decide)
    have e5 : x 5 = (.int .i64 (48 + (D : Int))) := hV 5 (by decide)
    have e6 : x 6 = (.int .u8 (48 + (D : Int))) := hV 6 (by decide)
    go_simp
    exact hK.out _ _ _ rfl rfl ⟨_, 0, rfl, Blk.new _ _ _⟩ ((Below.refl _ _).alloc (Nat.le_refl _) _)
  simp only [List.setIfInBounds_toArray, List.set_cons_zero, List.set_cons_succ]
  refine obs_step (Eq.trans (by simp only [List.getElem?_toArray, List.getElem?_cons_succ, List.getElem?_cons_zero]; exact rfl) rfl) rfl (fun w' hS hV K hK => ?_) ?_
  · have e3 : x 3 = (.int .i64 (n : Int)) := hV 3 (by decide)
    have e4 : x 4 = (.int .i64 (D : Int)) := hV 4 (by decide)
    have e5 : x 5 = (.int .i64 (48 + (D : Int))) := hV 5 (by decide)
    have e6 : x 6 = (.int .u8 (48 + (D : Int))) := hV 6 (by decide)
    obtain ⟨A7, c7, e7, h7⟩ := hV 7 (by decide)
    have hcv := hbt h7
    go_simp
    exact hK.out _ _ _ rfl rfl rfl (Below.refl _ _)
  simp only [List.setIfInBounds_toArray, List.set_cons_zero, List.set_cons_succ]
  refine obs_step (Eq.trans (by simp only [List.getElem?_toArray, List.getElem?_cons_succ, List.getElem?_cons_zero]; exact rfl) rfl) rfl (fun w' hS hV K hK => ?_) ?_
  · have e0 : x 0 = (.int .i64 (n : Int)) := hV 0 (by decide)
    have e1 : x 1 = (.int .i64 (Q : Int)) := hV 1 (by decide)
    have e2 : x 2 = (.string ⟨y.toArray⟩) := hV 2 (by decide)
    have e3 : x 3 = (.int .i64 (n : Int)) := hV 3 (by decide)
    have e4 : x 4 = (.int .i64 (D : Int)) := hV 4 (by decide)
    have e5 : x 5 = (.int .i64 (48 + (D : Int))) := hV 5 (by decide)
    have e6 : x 6 = (.int .u8 (48 + (D : Int))) := hV 6 (by decide)
    obtain ⟨A7, c7, e7, h7⟩ := hV 7 (by decide)
    have e8 : x 8 = (.string ⟨z.toArray⟩) := hV 8 (by decide)
    go_simp
    exact hK.out _ _ _ rfl rfl rfl (Below.refl _ _)
  simp only [List.setIfInBounds_toArray, List.set_cons_zero, List.set_cons_succ]
  refine obs_step (Eq.trans (by simp only [List.getElem?_toArray, List.getElem?_cons_succ, List.getElem?_cons_zero]; exact rfl) rfl) rfl (fun w' hS hV K hK => ?_) ?_
  · have e0 : x 0 = (.int .i64 (n : Int)) := hV 0 (by decide)
    have e1 : x 1 = (.int .i64 (Q : Int)) := hV 1 (by decide)
    have e2 : x 2 = (.string ⟨y.toArray⟩) := hV 2 (by decide)
    have e3 : x 3 = (.int .i64 (n : Int)) := hV 3 (by decide)
    have e4 : x 4 = (.int .i64 (D : Int)) := hV 4 (by decide)
    have e5 : x 5 = (.int .i64 (48 + (D : Int))) := hV 5 (by decide)
    have e6 : x 6 = (.int .u8 (48 + (D : Int))) := hV 6 (by decide)
    obtain ⟨A7, c7, e7, h7⟩ := hV 7 (by decide)
    have e8 : x 8 = (.string ⟨z.toArray⟩) := hV 8 (by decide)
    have e9 : x 9 = (.string ⟨(y ++ z).toArray⟩) := hV 9 (by decide)
    go_simp
    exact hK.out _ _ _ rfl rfl rfl (Below.refl _ _)
  simp only [List.setIfInBounds_toArray, List.set_cons_zero, List.set_cons_succ]
  refine fun w' hS hV => ?_
  have e0 : x 0 = (.int .i64 (n : Int)) := hV 0 (by decide)
  have e1 : x 1 = (.int .i64 (Q : Int)) := hV 1 (by decide)
  have e2 : x 2 = (.string ⟨y.toArray⟩) := hV 2 (by decide)
  have e3 : x 3 = (.int .i64 (n : Int)) := hV 3 (by decide)
  have e4 : x 4 = (.int .i64 (D : Int)) := hV 4 (by decide)
  have e5 : x 5 = (.int .i64 (48 + (D : Int))) := hV 5 (by decide)
  have e6 : x 6 = (.int .u8 (48 + (D : Int))) := hV 6 (by decide)
  obtain ⟨A7, c7, e7, h7⟩ := hV 7 (by decide)
  have e8 : x 8 = (.string ⟨z.toArray⟩) := hV 8 (by decide)
  have e9 : x 9 = (.string ⟨(y ++ z).toArray⟩) := hV 9 (by decide)
  have e10 : x 10 = (.string ⟨(y ++ z).toArray⟩) := hV 10 (by decide)
  simp only [e0, e1, e2, e3, e4, e5, e6, e7, e8, e9, e10]
  clear e0 e1 e2 e3 e4 e5 e6 e7 e8 e9 e10
  refine wpAny_done (by kernel_rfl) ?_ _
  go_wp2
  go_ret
  exact ⟨by rw [HR.out, HL.out]; rfl, hS⟩
theorem l01Dec_any (n : Nat) (hn : n < 4611686018427387904) : ∀ w : World, Calls Tryz.prog 113 #[.int .i64 n] w fun e w' => e = .returned (.string ⟨(Lib.decDigits n).toArray⟩) ∧ Below w.heap.size w w' := by
  induction n using Nat.strongRecOn with
  | ind n ih =>
    intro w
    by_cases h : n < 10
    · exact l01Dec_small n w h
    · exact l01Dec_step n hn h ih w
end Go.Proofs.YticofgmmjecleaaGreatDoor
namespace Go.Proofs.YticofgmmjecleaaGreatDoor
open Go
/-- One term read; all terms read. -/
def stepI (p : Int) (n : Nat) (x : List Int) (t : By) : List Int :=
  let c := Lib.cut t [101]
  match parN p (if c.2.2 = true ∧ (c.1 = [] ∨ c.1 = [45]) then c.1 ++ [49] else c.1) with
  | some a => x.set (if c.2.2 = true then (maskOf n (101 :: c.2.1)).getD 0 else 0) a
  | none => x
def parI (p : Int) (n : Nat) (t : By) : List Int := (splitP 43 (repP t)).foldl (stepI p n) (List.replicate (pw n) 0)
/-- The terms of the first places; signs ahead of all. -/
def termsTo (p : Int) (n : Nat) (x : List Int) : Nat → List By
  | 0 => []
  | k + 1 => if x.getD k 0 = 0 then termsTo p n x k else termsTo p n x k ++ [termL p n k (x.getD k 0)]
def sgnT (t : By) : By := if t.head? = some 45 then t else 43 :: t
def sgnC (ts : List By) : By := ts.flatMap sgnT
def lead : By → By
  | 43 :: t => t
  | t => t
def lead1 (t : By) : By := if t.head? = some 43 then t.tail else t
theorem sgnC_app (a b : List By) : sgnC (a ++ b) = sgnC a ++ sgnC b := List.flatMap_append
theorem sgnC_one (t : By) : sgnC [t] = sgnT t := by unfold sgnC; rw [List.flatMap_cons, List.flatMap_nil, List.append_nil]
section
variable {p : Int} {n : Nat}
theorem term_facts (hP : isP p = true) (hn : n ≤ 6) {m : Nat} (hm : m < pw n) {a : Int} (h0 : 0 ≤ a) (h1 : a < p) :
    okT (termL p n m a) ∧ ∀ x : List Int, stepI p n x (termL p n m a) = x.set m a := by
  obtain ⟨f1, f2⟩ := num_facts hP h0 h1
  obtain ⟨g1, g2, g3, g4⟩ := okN_parts f1
  by_cases hm0 : m = 0
  · subst hm0
    have e : termL p n 0 a = txtN p a := rfl
    rw [e]
    refine ⟨⟨g1, fun b hb => (g3 b hb).1, g4⟩, fun x => ?_⟩
    unfold stepI
    rw [cut_none fun b hb => (g3 b hb).2]
    simp only [Bool.false_eq_true, false_and, if_false]
    rw [f2]
  · obtain ⟨ds, hd, hds⟩ := nameTo_form m n hn
    have e : termL p n m a = numP p a ++ 101 :: ds := by
      unfold termL nameL
      rw [if_neg hm0, if_neg hm0, hd]
    obtain ⟨k1, k2, k3⟩ := numP_cases f1
    have hdn : ∀ b ∈ ds, b ≠ 43 ∧ b ≠ 45 := fun b hb => by
      have := hds b hb
      exact ⟨fun e => by rw [e] at this; revert this; decide, fun e => by rw [e] at this; revert this; decide⟩
    rw [e]
    refine ⟨⟨by simp, fun b hb => ?_, fun b hb => ?_⟩, fun x => ?_⟩
    · rcases List.mem_append.1 hb with h | h
      · exact (k1 b h).1
      · rcases List.mem_cons.1 h with h | h
        · rw [h]; decide
        · exact (hdn b h).1
    · cases hN : numP p a with
      | nil =>
        rw [hN] at hb
        exact (hdn b hb).2
      | cons c r =>
        rw [hN] at hb k2
        rcases List.mem_append.1 hb with h | h
        · exact k2 b h
        · rcases List.mem_cons.1 h with h | h
          · rw [h]; decide
          · exact (hdn b h).2
    · unfold stepI
      rw [cut_some fun b hb => (k1 b hb).2]
      simp only [true_and, if_true]
      rw [k3, f2]
      have hmk : maskOf n (101 :: ds) = some m := by
        have := mask_name hn hm
        unfold nameL at this
        rwa [if_neg hm0, hd] at this
      rw [hmk]; rfl
theorem term_head (hP : isP p = true) (hn : n ≤ 6) {m : Nat} (hm : m < pw n) {a : Int} (h0 : 0 ≤ a) (h1 : a < p) : (termL p n m a).head? ≠ some 43 := fun e => by
  have h := (term_facts hP hn hm h0 h1).1
  cases ht : termL p n m a with
  | nil => exact h.1 ht
  | cons c r =>
    rw [ht] at e
    injection e with e
    exact h.2.1 c (by rw [ht]; simp) e
theorem terms_ok (hP : isP p = true) (hn : n ≤ 6) {y : List Int} (hy : MuL p n y) : ∀ k, k ≤ pw n → ∀ t ∈ termsTo p n y k, okT t ∧ t.head? ≠ some 43
  | 0, _, t, h => by cases h
  | k + 1, hk, t, h => by
    unfold termsTo at h
    have hp := isP_ge hP
    have hb := hy.2.getD (show 0 < p by omega) k
    by_cases h0 : y.getD k 0 = 0
    · rw [if_pos h0] at h; exact terms_ok hP hn hy k (by omega) t h
    · rw [if_neg h0] at h
      rcases List.mem_append.1 h with h | h
      · exact terms_ok hP hn hy k (by omega) t h
      · rw [List.mem_singleton.1 h]
        exact ⟨(term_facts hP hn (by omega) hb.1 hb.2).1, term_head hP hn (by omega) hb.1 hb.2⟩
theorem lead_app {a b : By} (h : a ≠ []) : lead1 (a ++ b) = lead1 a ++ b := by
  cases a with
  | nil => exact absurd rfl h
  | cons c r =>
    unfold lead1
    by_cases h1 : c = 43
    · rw [if_pos (show (c :: r ++ b).head? = some 43 by rw [h1]; rfl), if_pos (show (c :: r).head? = some 43 by rw [h1]; rfl)]; rfl
    · rw [if_neg (fun e => h1 (by injection e)), if_neg (fun e => h1 (by injection e))]
theorem lead_sgn {t : By} (h : t.head? ≠ some 43) : lead1 (sgnT t) = t := by
  unfold sgnT
  by_cases h1 : t.head? = some 45
  · rw [if_pos h1]
    unfold lead1
    rw [if_neg h]
  · rw [if_neg h1]
    rfl
theorem sgnT_ne (t : By) (h : t ≠ []) : sgnT t ≠ [] := by
  unfold sgnT
  split
  · exact h
  · simp
/-- The text is that of the signed terms, less a '+' ahead. -/
theorem text_terms (hP : isP p = true) (hn : n ≤ 6) {y : List Int} (hy : MuL p n y) : ∀ k, k ≤ pw n → textTo p n y k = lead1 (sgnC (termsTo p n y k)) ∧ (textTo p n y k = [] ↔ termsTo p n y k = [])
  | 0, _ => ⟨rfl, by simp [textTo, termsTo]⟩
  | k + 1, hk => by
    obtain ⟨ih1, ih2⟩ := text_terms hP hn hy k (by omega)
    have hp := isP_ge hP
    have hb := hy.2.getD (show 0 < p by omega) k
    unfold textTo termsTo
    by_cases h0 : y.getD k 0 = 0
    · rw [if_pos h0, if_pos h0]; exact ⟨ih1, ih2⟩
    · rw [if_neg h0, if_neg h0]
      have ht := (term_facts hP hn (m := k) (by omega) hb.1 hb.2).1
      have hh := term_head hP hn (m := k) (by omega) hb.1 hb.2
      obtain ⟨T, hT⟩ : ∃ T, T = termL p n k (y.getD k 0) := ⟨_, rfl⟩
      rw [← hT] at ht hh ⊢
      refine ⟨?_, ⟨fun e => ?_, fun e => absurd e (by simp)⟩⟩
      · rw [sgnC_app, sgnC_one]
        by_cases hts : termsTo p n y k = []
        · rw [hts, ih2.2 hts]
          show [] ++ ((if ([] : By) ≠ [] ∧ _ then [43] else []) ++ T) = lead1 (sgnT T)
          rw [if_neg (fun h => h.1 rfl), lead_sgn hh]; rfl
        · have hne : sgnC (termsTo p n y k) ≠ [] := by
            cases hc : termsTo p n y k with
            | nil => exact absurd hc hts
            | cons c r =>
              have := (terms_ok hP hn hy k (by omega) c (by rw [hc]; simp)).1.1
              unfold sgnC
              rw [List.flatMap_cons]
              intro e
              exact sgnT_ne c this (List.append_eq_nil_iff.1 e).1
          rw [lead_app hne, ← ih1]
          congr 1
          unfold sgnT
          by_cases h45 : T.head? = some 45
          · rw [if_pos h45, if_neg (fun h => h.2 h45)]; rfl
          · rw [if_neg h45, if_pos ⟨fun e => hts (ih2.1 e), h45⟩]; rfl
      · have := (List.append_eq_nil_iff.1 (List.append_eq_nil_iff.1 e).2).2
        exact absurd this ht.1
/-- What replacing does to signed terms, and how they are cut. -/
theorem rep_app (a b : By) : repP (a ++ b) = repP a ++ repP b := List.flatMap_append
theorem rep_plain : ∀ {t : By}, (∀ b ∈ t, b ≠ 45) → repP t = t
  | [], _ => rfl
  | c :: r, h => by
    have ih := rep_plain fun b hb => h b (List.mem_cons_of_mem c hb)
    unfold repP at ih ⊢
    rw [List.flatMap_cons, if_neg (h c (by simp)), ih]; rfl
theorem rep_sgn {t : By} (h : okT t) : repP (sgnT t) = 43 :: t := by
  obtain ⟨h1, h2, h3⟩ := h
  cases t with
  | nil => exact absurd rfl h1
  | cons c r =>
    have hr := rep_plain h3
    unfold sgnT
    by_cases hc : c = 45
    · subst hc
      have e0 : (45 :: r : By).head? = some 45 := rfl
      rw [if_pos e0]
      unfold repP at hr ⊢
      rw [List.flatMap_cons, if_pos rfl]
      rw [List.tail_cons] at hr
      rw [hr]; rfl
    · have e : ¬ (c :: r).head? = some 45 := fun e => by injection e with e; exact hc e
      rw [if_neg e]
      have : ∀ b ∈ 43 :: c :: r, b ≠ 45 := fun b hb => by
        rcases List.mem_cons.1 hb with h | h
        · rw [h]; decide
        · rcases List.mem_cons.1 h with h | h
          · rw [h]; exact hc
          · exact h3 b h
      exact rep_plain this
theorem rep_head {t : By} (h : okT t) (hh : t.head? ≠ some 45) : repP t = t := by
  refine rep_plain fun b hb => ?_
  cases t with
  | nil => cases hb
  | cons c r =>
    rcases List.mem_cons.1 hb with e | e
    · rw [e]; exact fun e => hh (by rw [e]; rfl)
    · exact h.2.2 b e
theorem split_plain : ∀ {t : By} (_ : ∀ b ∈ t, b ≠ 43) (s : By), splitP 43 (t ++ 43 :: s) = t :: splitP 43 s
  | [], _, s => by
    show splitP 43 (43 :: s) = _
    unfold splitP
    rw [if_pos rfl]
    cases s <;> rfl
  | c :: r, h, s => by
    have ih := split_plain (fun b hb => h b (List.mem_cons_of_mem c hb)) s
    rw [List.cons_append]
    unfold splitP
    rw [if_neg (h c (by simp)), ih]
    cases s <;> rfl
theorem split_last : ∀ {t : By}, (∀ b ∈ t, b ≠ 43) → splitP 43 t = [t]
  | [], _ => rfl
  | c :: r, h => by
    unfold splitP
    rw [if_neg (h c (by simp)), split_last fun b hb => h b (List.mem_cons_of_mem c hb)]
theorem split_terms : ∀ (t : By) (ts : List By), (∀ b ∈ t, b ≠ 43) → (∀ u ∈ ts, okT u) → splitP 43 (t ++ repP (sgnC ts)) = t :: ts
  | t, [], ht, _ => by
    show splitP 43 (t ++ []) = _
    rw [List.append_nil]; exact split_last ht
  | t, u :: us, ht, hu => by
    have e : repP (sgnC (u :: us)) = 43 :: (u ++ repP (sgnC us)) := by
      unfold sgnC
      rw [List.flatMap_cons, rep_app, rep_sgn (hu u (by simp))]; rfl
    rw [e, split_plain ht, split_terms u us (hu u (by simp)).2.1 fun v hv => hu v (List.mem_cons_of_mem u hv)]
/-- All the terms read, one after the other. -/
theorem step_empty (hP : isP p = true) (x : List Int) : stepI p n x [] = x := by
  unfold stepI
  rw [cut_none fun b hb => absurd hb (by simp)]
  simp only [Bool.false_eq_true, false_and, if_false]
  rw [(num_facts0 hP).1]
def firstK (n : Nat) (y : List Int) (k : Nat) : List Int := tab (pw n) fun i => if i < k then y.getD i 0 else 0
theorem fold_terms (hP : isP p = true) (hn : n ≤ 6) {y : List Int} (hy : MuL p n y) : ∀ k, k ≤ pw n → (termsTo p n y k).foldl (stepI p n) (List.replicate (pw n) 0) = firstK n y k
  | 0, _ => by
    show List.replicate (pw n) 0 = _
    refine list_ext_getD 0 (by unfold firstK; rw [tab_len, List.length_replicate]) fun i hi => ?_
    rw [List.length_replicate] at hi
    unfold firstK
    rw [tab_getD hi, if_neg (by omega), List.getD_eq_getElem?_getD, List.getElem?_replicate, if_pos hi]; rfl
  | k + 1, hk => by
    have ih := fold_terms hP hn hy k (by omega)
    have hp := isP_ge hP
    have hb := hy.2.getD (show 0 < p by omega) k
    have hst : firstK n y (k + 1) = (firstK n y k).set k (y.getD k 0) := by
      refine list_ext_getD 0 (by unfold firstK; rw [List.length_set, tab_len, tab_len]) fun i hi => ?_
      unfold firstK at hi ⊢
      rw [tab_len] at hi
      rw [getD_set, tab_getD hi, tab_getD hi, tab_len]
      by_cases h : k = i
      · subst h; rw [if_pos (by omega), if_pos ⟨rfl, hi⟩]
      · have hne : ¬ (k = i ∧ k < pw n) := fun hh => h hh.1
        rw [if_neg hne]
        by_cases h2 : i < k
        · rw [if_pos (by omega), if_pos h2]
        · rw [if_neg (by omega), if_neg h2]
    unfold termsTo
    by_cases h0 : y.getD k 0 = 0
    · rw [if_pos h0, ih]
      refine list_ext_getD 0 (by unfold firstK; rw [tab_len, tab_len]) fun i hi => ?_
      unfold firstK at hi ⊢
      rw [tab_len] at hi
      rw [tab_getD hi, tab_getD hi]
      by_cases h2 : i < k
      · rw [if_pos h2, if_pos (by omega)]
      · rw [if_neg h2]
        by_cases h3 : i = k
        · rw [h3, if_pos (by omega), h0]
        · rw [if_neg (by omega)]
    · rw [if_neg h0, List.foldl_append, ih, List.foldl_cons, List.foldl_nil, (term_facts hP hn (m := k) (by omega) hb.1 hb.2).2, hst]
theorem firstK_all {y : List Int} (hy : y.length = pw n) : firstK n y (pw n) = y := by
  refine list_ext_getD 0 (by unfold firstK; rw [tab_len, hy]) fun i hi => ?_
  unfold firstK at hi ⊢
  rw [tab_len] at hi
  rw [tab_getD hi, if_pos hi]
/-- The text of a multivector is read as this multivector. -/
theorem parI_text (hP : isP p = true) (hn : n ≤ 6) {y : List Int} (hy : MuL p n y) : parI p n (textL p n y) = y := by
  obtain ⟨t1, t2⟩ := text_terms hP hn hy (pw n) (Nat.le_refl _)
  have hfold := fold_terms hP hn hy (pw n) (Nat.le_refl _)
  rw [firstK_all hy.1] at hfold
  have hok := terms_ok hP hn hy (pw n) (Nat.le_refl _)
  obtain ⟨TS, hTS⟩ : ∃ TS, TS = termsTo p n y (pw n) := ⟨_, rfl⟩
  rw [← hTS] at t1 t2 hfold hok
  unfold textL
  rw [hy.1]
  by_cases h0 : textTo p n y (pw n) = []
  · rw [if_pos h0]
    rw [t2.1 h0] at hfold
    have hz : List.replicate (pw n) 0 = y := hfold
    unfold parI
    have e : splitP 43 (repP [48]) = [[48]] := by decide
    rw [e, List.foldl_cons, List.foldl_nil]
    have e2 : stepI p n (List.replicate (pw n) 0) (termL p n 0 0) = (List.replicate (pw n) 0).set 0 0 := (term_facts hP hn (pw_pos n) (Int.le_refl _) (by have := isP_ge hP; omega)).2 _
    have e3 : termL p n 0 0 = [48] := (num_facts0 hP).2
    rw [e3] at e2
    rw [e2, hz]
    refine list_ext_getD 0 (by simp) fun i hi => ?_
    rw [getD_set]
    split
    · rename_i h; rw [← h.1, ← hz, List.getD_eq_getElem?_getD, List.getElem?_replicate]
      split <;> rfl
    · rfl
  · rw [if_neg h0, t1]
    cases hc : TS with
    | nil => exact absurd (t2.2 hc) h0
    | cons u us =>
      rw [hc] at hok hfold
      have hu := hok u (by simp)
      have hus : ∀ v ∈ us, okT v := fun v hv => (hok v (List.mem_cons_of_mem u hv)).1
      have e1 : lead1 (sgnC (u :: us)) = u ++ sgnC us := by
        unfold sgnC
        rw [List.flatMap_cons, lead_app (sgnT_ne u hu.1.1), lead_sgn hu.2]
      rw [e1]
      unfold parI
      rw [rep_app]
      by_cases h45 : u.head? = some 45
      · have e2 : repP u = 43 :: u := by
          have := rep_sgn hu.1
          unfold sgnT at this
          rwa [if_pos h45] at this
        have e3 : splitP 43 ((43 :: u) ++ repP (sgnC us)) = [] :: (u :: us) := by
          have := split_terms [] (u :: us) (fun b hb => absurd hb (by simp)) (fun v hv => (hok v hv).1)
          have e4 : repP (sgnC (u :: us)) = 43 :: (u ++ repP (sgnC us)) := by
            unfold sgnC
            rw [List.flatMap_cons, rep_app, rep_sgn hu.1]; rfl
          rw [e4] at this
          exact this
        rw [e2, e3, List.foldl_cons, step_empty hP]
        exact hfold
      · rw [rep_head hu.1 h45, split_terms u us hu.1.2.1 hus]
        exact hfold
theorem stepI_mu (hp : 0 < p) {x : List Int} (hx : MuL p n x) (t : By) : MuL p n (stepI p n x t) := by
  unfold stepI
  dsimp only
  split
  · rename_i a ha
    exact ⟨by rw [List.length_set]; exact hx.1, hx.2.set _ (parN_lt hp ha)⟩
  · exact hx
theorem parI_mu (hp : 0 < p) (t : By) : MuL p n (parI p n t) := by
  unfold parI
  have key : ∀ (ts : List By) (x : List Int), MuL p n x → MuL p n (ts.foldl (stepI p n) x) := by
    intro ts
    induction ts with
    | nil => exact fun x h => h
    | cons t ts ih => exact fun x h => ih _ (stepI_mu hp h t)
  exact key _ _ ⟨List.length_replicate, NumsL.replicate hp _⟩
end
end Go.Proofs.YticofgmmjecleaaGreatDoor
namespace Go.Proofs.YticofgmmjecleaaGreatDoor
open Go
/-- Does a text begin with a term, behind which is its end or a sign? -/
def isSg (c : UInt8) : Bool := c == 43 || c == 45
def endT : By → Bool
  | [] => true
  | c :: _ => isSg c
def matT (rest t : By) : Bool := t.isPrefixOf rest && endT (rest.drop t.length)
def candS (first : Bool) (t : By) : By := if first = true then t else sgnT t
def findS (p : Int) (n : Nat) (text rest : By) (m : Nat) : Nat → Nat → Option Nat
  | 0, _ => none
  | f + 1, a => if matT rest (candS (decide (rest = text)) (termL p n m a)) = true then some a else findS p n text rest m f (a + 1)
def stepS (p : Int) (n : Nat) (text : By) (m : Nat) (s : List Int × By) : List Int × By :=
  if s.2 = [] then s else match findS p n text s.2 m (p - 1).toNat 1 with
    | some a => (s.1.set m a, s.2.drop (candS (decide (s.2 = text)) (termL p n m a)).length)
    | none => s
def scanS (p : Int) (n : Nat) (text : By) : Nat → List Int × By
  | 0 => (List.replicate (pw n) 0, text)
  | k + 1 => stepS p n text k (scanS p n text k)
def parS (p : Int) (n : Nat) (text : By) : List Int := (scanS p n text (pw n)).1
theorem findS_at {p : Int} {n : Nat} {text rest : By} {m a0 : Nat} (h0 : matT rest (candS (decide (rest = text)) (termL p n m a0)) = true) : ∀ (f i : Nat), i ≤ a0 → a0 < i + f → (∀ a, i ≤ a → a < a0 → matT rest (candS (decide (rest = text)) (termL p n m a)) = false) → findS p n text rest m f i = some a0
  | 0, i, h1, h2, _ => by omega
  | f + 1, i, h1, h2, h3 => by
    unfold findS
    rcases Nat.eq_or_lt_of_le h1 with e | hlt
    · rw [e, if_pos h0]
    · rw [if_neg (by rw [h3 i (Nat.le_refl _) hlt]; simp)]
      exact findS_at h0 f (i + 1) hlt (by omega) fun a h4 h5 => h3 a (by omega) h5
theorem findS_none {p : Int} {n : Nat} {text rest : By} {m : Nat} : ∀ (f i : Nat), (∀ a, i ≤ a → a < i + f → matT rest (candS (decide (rest = text)) (termL p n m a)) = false) → findS p n text rest m f i = none
  | 0, i, _ => rfl
  | f + 1, i, h => by
    unfold findS
    rw [if_neg (by rw [h i (Nat.le_refl _) (by omega)]; simp)]
    exact findS_none f (i + 1) fun a h4 h5 => h a (by omega) (by omega)
theorem findS_lt {p : Int} {n : Nat} {text rest : By} {m : Nat} : ∀ {f i a : Nat}, findS p n text rest m f i = some a → i ≤ a ∧ a < i + f
  | 0, i, a, h => by cases h
  | f + 1, i, a, h => by
    unfold findS at h
    split at h
    · injection h with h; omega
    · have := findS_lt h; omega
/-- No sign behind the head. -/
def okC (t : By) : Prop := t ≠ [] ∧ ∀ b ∈ t.tail, isSg b = false
theorem isSg_false {b : UInt8} (h1 : b ≠ 43) (h2 : b ≠ 45) : isSg b = false := by unfold isSg; simp [h1, h2]
theorem cand_ok {t : By} (h : okT t) (first : Bool) : okC (candS first t) := by
  obtain ⟨h1, h2, h3⟩ := h
  have ht : ∀ b ∈ t.tail, isSg b = false := fun b hb => isSg_false (h2 b (List.mem_of_mem_tail hb)) (h3 b hb)
  unfold candS
  cases first
  · rw [if_neg (by simp)]
    refine ⟨sgnT_ne t h1, ?_⟩
    unfold sgnT
    by_cases h45 : t.head? = some 45
    · rw [if_pos h45]; exact ht
    · rw [if_neg h45, List.tail_cons]
      intro b hb
      refine isSg_false (h2 b hb) fun e => ?_
      cases t with
      | nil => cases hb
      | cons c r =>
        rcases List.mem_cons.1 hb with h | h
        · exact h45 (by rw [← h, e]; rfl)
        · exact h3 b h e
  · rw [if_pos rfl]; exact ⟨h1, ht⟩
theorem endT_sgn {us : List By} (h : ∀ u ∈ us, okT u) : endT (sgnC us) = true := by
  cases us with
  | nil => rfl
  | cons u r =>
    have hu := h u (by simp)
    unfold sgnC
    rw [List.flatMap_cons]
    unfold sgnT
    cases u with
    | nil => exact absurd rfl hu.1
    | cons c l =>
      by_cases hc : c = 45
      · rw [if_pos (show (c :: l).head? = some 45 by rw [hc]; rfl), hc]; rfl
      · rw [if_neg (fun e => hc (by injection e))]; rfl
theorem mat_same {A B S : By} (hA : okC A) (hB : okC B) (hS : endT S = true) (h : matT (A ++ S) B = true) : A = B := by
  unfold matT at h
  rw [Bool.and_eq_true, List.isPrefixOf_iff_prefix] at h
  obtain ⟨⟨R, hR⟩, h2⟩ := h
  rw [← hR, List.drop_left] at h2
  rcases Nat.lt_trichotomy A.length B.length with hl | hl | hl
  · -- B goes on where A has ended
    have e : B = A ++ B.drop A.length := by
      have := congrArg (List.take A.length) hR
      rw [List.take_append_of_le_length (by omega), List.take_left] at this
      have e2 := (List.take_append_drop A.length B).symm
      rw [this] at e2
      exact e2
    obtain ⟨B', hB'⟩ : ∃ B', B' = B.drop A.length := ⟨_, rfl⟩
    rw [← hB'] at e
    have hne : B' ≠ [] := fun h => by rw [h, List.append_nil] at e; rw [e] at hl; omega
    rw [e, List.append_assoc] at hR
    have hS2 := List.append_cancel_left hR
    cases B' with
    | nil => exact absurd rfl hne
    | cons c r =>
      rw [← hS2] at hS
      have hc : isSg c = true := hS
      have hm : c ∈ B.tail := by
        rw [e]
        cases A with
        | nil => exact absurd rfl hA.1
        | cons a A => simp
      rw [hB.2 c hm] at hc; cases hc
  · have := congrArg (List.take A.length) hR
    rw [List.take_left, hl, List.take_left] at this
    exact this.symm
  · have e : A = B ++ A.drop B.length := by
      have := congrArg (List.take B.length) hR
      rw [List.take_left, List.take_append_of_le_length (by omega)] at this
      have e2 := (List.take_append_drop B.length A).symm
      rw [← this] at e2
      exact e2
    obtain ⟨A', hA'⟩ : ∃ A', A' = A.drop B.length := ⟨_, rfl⟩
    rw [← hA'] at e
    have hne : A' ≠ [] := fun h => by rw [h, List.append_nil] at e; rw [e] at hl; omega
    rw [e, List.append_assoc] at hR
    have hS2 := List.append_cancel_left hR
    cases A' with
    | nil => exact absurd rfl hne
    | cons c r =>
      rw [hS2] at h2
      have hc : isSg c = true := h2
      have hm : c ∈ A.tail := by
        rw [e]
        cases B with
        | nil => exact absurd rfl hB.1
        | cons a B => simp
      rw [hA.2 c hm] at hc; cases hc
theorem mat_self {A S : By} (hS : endT S = true) : matT (A ++ S) A = true := by
  unfold matT
  rw [List.drop_left, hS, Bool.and_true, List.isPrefixOf_iff_prefix]
  exact List.prefix_append A S
theorem cand_inj {u v : By} (hu : u.head? ≠ some 43) (hv : v.head? ≠ some 43) {first : Bool} (h : candS first u = candS first v) : u = v := by
  unfold candS at h
  cases first
  · rw [if_neg (by simp), if_neg (by simp)] at h
    have := congrArg lead1 h
    rwa [lead_sgn hu, lead_sgn hv] at this
  · rw [if_pos rfl, if_pos rfl] at h; exact h
section
variable {p : Int} {n : Nat}
/-- A term tells its place and its number. -/
theorem term_inj (hP : isP p = true) (hn : n ≤ 6) {m m' : Nat} (hm : m < pw n) (hm' : m' < pw n) {a a' : Int} (h0 : 0 < a) (h1 : a < p) (h0' : 0 ≤ a') (h1' : a' < p) (h : termL p n m a = termL p n m' a') : m = m' ∧ a = a' := by
  have f1 := (term_facts hP hn hm (Int.le_of_lt h0) h1).2 (List.replicate (pw n) 0)
  have f2 := (term_facts hP hn hm' h0' h1').2 (List.replicate (pw n) 0)
  rw [h, f2] at f1
  have e : ((List.replicate (pw n) (0 : Int)).set m' a').getD m 0 = ((List.replicate (pw n) (0 : Int)).set m a).getD m 0 := by rw [f1]
  have hz : (List.replicate (pw n) (0 : Int)).getD m 0 = 0 := by
    rw [List.getD_eq_getElem?_getD, List.getElem?_replicate]; split <;> rfl
  rw [getD_set, getD_set, List.length_replicate, if_pos (c := m = m ∧ _) ⟨rfl, hm⟩, hz] at e
  by_cases hmm : m' = m
  · rw [if_pos ⟨hmm, by omega⟩] at e; exact ⟨hmm.symm, e.symm⟩
  · rw [if_neg (fun hh => hmm hh.1)] at e; omega
/-- The terms of d places from k on. -/
def tIn (p : Int) (n : Nat) (y : List Int) : Nat → Nat → List By
  | _, 0 => []
  | k, d + 1 => (if y.getD k 0 = 0 then [] else [termL p n k (y.getD k 0)]) ++ tIn p n y (k + 1) d
theorem tIn_to (y : List Int) : ∀ d k, termsTo p n y (k + d) = termsTo p n y k ++ tIn p n y k d
  | 0, k => by rw [tIn, List.append_nil, Nat.add_zero]
  | d + 1, k => by
    rw [show k + (d + 1) = (k + 1) + d by omega, tIn_to y d (k + 1)]
    rw [tIn, ← List.append_assoc]
    congr 1
    show (if y.getD k 0 = 0 then _ else _) = _
    split
    · rw [List.append_nil]
    · rfl
theorem tIn_mem {y : List Int} : ∀ d k, ∀ t ∈ tIn p n y k d, ∃ m, k ≤ m ∧ m < k + d ∧ y.getD m 0 ≠ 0 ∧ t = termL p n m (y.getD m 0)
  | 0, k, t, h => by cases h
  | d + 1, k, t, h => by
    unfold tIn at h
    rcases List.mem_append.1 h with h | h
    · by_cases h0 : y.getD k 0 = 0
      · rw [if_pos h0] at h; cases h
      · rw [if_neg h0] at h
        exact ⟨k, Nat.le_refl _, by omega, h0, List.mem_singleton.1 h⟩
    · obtain ⟨m, h1, h2, h3, h4⟩ := tIn_mem d (k + 1) t h
      exact ⟨m, by omega, by omega, h3, h4⟩
/-- What is left of the text where k places are done. -/
def restK (p : Int) (n : Nat) (y : List Int) (k : Nat) : By := if termsTo p n y k = [] then lead1 (sgnC (tIn p n y k (pw n - k))) else sgnC (tIn p n y k (pw n - k))
theorem restK_cand (hP : isP p = true) (hn : n ≤ 6) {y : List Int} (hy : MuL p n y) {k : Nat} (hk : k ≤ pw n) {u : By} {us : List By} (h : tIn p n y k (pw n - k) = u :: us) :
    restK p n y k = candS (decide (termsTo p n y k = [])) u ++ sgnC us := by
  have hu := terms_ok hP hn hy (pw n) (Nat.le_refl _) u (by
    have := tIn_to (p := p) (n := n) y (pw n - k) k
    rw [show k + (pw n - k) = pw n by omega] at this
    rw [this, h]; simp)
  unfold restK
  rw [h]
  have e : sgnC (u :: us) = sgnT u ++ sgnC us := by unfold sgnC; rw [List.flatMap_cons]
  rw [e]
  by_cases ht : termsTo p n y k = []
  · rw [if_pos ht, lead_app (sgnT_ne u hu.1.1), lead_sgn hu.2, decide_eq_true ht]; rfl
  · rw [if_neg ht, decide_eq_false ht]; rfl
/-- All is still to be read just where nothing has been read. -/
theorem restK_first (hP : isP p = true) (hn : n ≤ 6) {y : List Int} (hy : MuL p n y) {k : Nat} (hk : k ≤ pw n) : (restK p n y k = lead1 (sgnC (termsTo p n y (pw n)))) ↔ termsTo p n y k = [] := by
  have he := tIn_to (p := p) (n := n) y (pw n - k) k
  rw [show k + (pw n - k) = pw n by omega] at he
  rw [he, sgnC_app]
  unfold restK
  by_cases ht : termsTo p n y k = []
  · rw [if_pos ht, ht]; exact ⟨fun _ => rfl, fun _ => rfl⟩
  · rw [if_neg ht]
    refine ⟨fun e => ?_, fun e => absurd e ht⟩
    have hok := terms_ok hP hn hy k hk
    cases hc : termsTo p n y k with
    | nil => exact absurd hc ht
    | cons c r =>
      rw [hc] at e hok
      have hc1 := hok c (by simp)
      have e1 : sgnC (c :: r) = sgnT c ++ sgnC r := by unfold sgnC; rw [List.flatMap_cons]
      rw [e1, List.append_assoc, lead_app (sgnT_ne c hc1.1.1), lead_sgn hc1.2] at e
      have := congrArg List.length e
      rw [List.length_append, List.length_append] at this
      have := List.length_pos_iff.2 hc1.1.1
      omega
/-- The scan, where the multivector is not 0. -/
theorem scan_text (hP : isP p = true) (hn : n ≤ 6) {y : List Int} (hy : MuL p n y) : ∀ k, k ≤ pw n → scanS p n (lead1 (sgnC (termsTo p n y (pw n)))) k = (firstK n y k, restK p n y k)
  | 0, _ => by
    have e1 : firstK n y 0 = List.replicate (pw n) 0 := (fold_terms hP hn hy 0 (Nat.zero_le _)).symm
    have e2 := (restK_first hP hn hy (Nat.zero_le _)).2 (show termsTo p n y 0 = [] from rfl)
    rw [e1, e2]; rfl
  | k + 1, hk => by
    have ih := scan_text hP hn hy k (by omega)
    have hp := isP_ge hP
    have hb := hy.2.getD (show 0 < p by omega) k
    obtain ⟨TX, hTX⟩ : ∃ TX, TX = lead1 (sgnC (termsTo p n y (pw n))) := ⟨_, rfl⟩
    have hfi := restK_first hP hn hy (k := k) (by omega)
    rw [← hTX] at ih hfi ⊢
    show stepS p n TX k (scanS p n TX k) = _
    rw [ih]
    have hdec : decide (restK p n y k = TX) = decide (termsTo p n y k = []) := by
      by_cases h : termsTo p n y k = []
      · rw [decide_eq_true h, decide_eq_true (hfi.2 h)]
      · rw [decide_eq_false h, decide_eq_false (fun e => h (hfi.1 e))]
    have hall : ∀ t ∈ tIn p n y k (pw n - k), okT t ∧ t.head? ≠ some 43 := fun t ht => terms_ok hP hn hy (pw n) (Nat.le_refl _) t (by
      have := tIn_to (p := p) (n := n) y (pw n - k) k
      rw [show k + (pw n - k) = pw n by omega] at this
      rw [this]; exact List.mem_append_right _ ht)
    -- when a candidate fits
    have fit : ∀ (u : By) (us : List By) (m : Nat) (a0 : Int), tIn p n y k (pw n - k) = u :: us → m < pw n → 0 ≤ a0 → a0 < p → u = termL p n m a0 → ∀ a : Nat, 1 ≤ a → (a : Int) < p → matT (restK p n y k) (candS (decide (restK p n y k = TX)) (termL p n k a)) = true → k = m ∧ (a : Int) = a0 := fun u us m a0 ht hm h0 h1 hu a ha1 ha2 hmt => by
      rw [hdec, restK_cand hP hn hy (by omega) ht] at hmt
      have hus : ∀ v ∈ us, okT v := fun v hv => (hall v (by rw [ht]; exact List.mem_cons_of_mem u hv)).1
      have hu9 := hall u (by rw [ht]; simp)
      have ht9 := term_facts hP hn (m := k) (by omega) (a := (a : Int)) (by omega) ha2
      have hh9 := term_head hP hn (m := k) (by omega) (a := (a : Int)) (by omega) ha2
      have e := mat_same (cand_ok hu9.1 _) (cand_ok ht9.1 _) (endT_sgn hus) hmt
      have e2 := cand_inj hu9.2 hh9 e
      rw [hu] at e2
      exact term_inj hP hn (by omega) hm (by omega) ha2 h0 h1 e2.symm
    have hD : pw n - k = (pw n - (k + 1)) + 1 := by omega
    unfold stepS
    dsimp only
    by_cases h0 : y.getD k 0 = 0
    · -- no term here
      have et : termsTo p n y (k + 1) = termsTo p n y k := by
        show (if y.getD k 0 = 0 then _ else _) = _
        rw [if_pos h0]
      have ei : tIn p n y k (pw n - k) = tIn p n y (k + 1) (pw n - (k + 1)) := by
        rw [hD]
        show (if y.getD k 0 = 0 then [] else _) ++ _ = _
        rw [if_pos h0]; rfl
      have er : restK p n y (k + 1) = restK p n y k := by unfold restK; rw [et, ei]
      have ef : firstK n y (k + 1) = firstK n y k := by
        have h1 := fold_terms hP hn hy k (by omega)
        have h2 := fold_terms hP hn hy (k + 1) hk
        rw [et] at h2
        exact h2.symm.trans h1
      rw [er, ef]
      by_cases hr : restK p n y k = []
      · rw [if_pos hr]
      · rw [if_neg hr]
        cases hti : tIn p n y k (pw n - k) with
        | nil =>
          exfalso
          apply hr
          unfold restK
          rw [hti]
          split <;> rfl
        | cons u us =>
          obtain ⟨m, g1, g2, g3, g4⟩ := tIn_mem (p := p) (n := n) (y := y) (pw n - (k + 1)) (k + 1) u (by rw [← ei, hti]; simp)
          have hbm := hy.2.getD (show 0 < p by omega) m
          rw [findS_none _ _ fun a ha1 ha2 => ?_]
          cases hmt : matT (restK p n y k) (candS (decide (restK p n y k = TX)) (termL p n k a)) with
          | false => rfl
          | true =>
            have := fit u us m _ hti (by omega) hbm.1 hbm.2 g4 a ha1 (by omega) hmt
            omega
    · -- the term of this place
      have et : termsTo p n y (k + 1) = termsTo p n y k ++ [termL p n k (y.getD k 0)] := by
        show (if y.getD k 0 = 0 then _ else _) = _
        rw [if_neg h0]
      have ei : tIn p n y k (pw n - k) = termL p n k (y.getD k 0) :: tIn p n y (k + 1) (pw n - (k + 1)) := by
        rw [hD]
        show (if y.getD k 0 = 0 then [] else _) ++ _ = _
        rw [if_neg h0]; rfl
      have hrc := restK_cand hP hn hy (by omega) ei
      have ef : firstK n y (k + 1) = (firstK n y k).set k (y.getD k 0) := by
        have h1 := fold_terms hP hn hy k (by omega)
        have h2 := fold_terms hP hn hy (k + 1) hk
        rw [et, List.foldl_append, h1, List.foldl_cons, List.foldl_nil, (term_facts hP hn (m := k) (by omega) hb.1 hb.2).2] at h2
        exact h2.symm
      obtain ⟨a0, ha0⟩ : ∃ a0 : Nat, y.getD k 0 = a0 := ⟨(y.getD k 0).toNat, by omega⟩
      have hus : ∀ v ∈ tIn p n y (k + 1) (pw n - (k + 1)), okT v := fun v hv => (hall v (by rw [ei]; exact List.mem_cons_of_mem _ hv)).1
      have hne : restK p n y k ≠ [] := by
        rw [hrc]
        intro e
        exact (cand_ok (hall _ (by rw [ei]; simp)).1 _).1 (List.append_eq_nil_iff.1 e).1
      rw [if_neg hne]
      have hmt0 : matT (restK p n y k) (candS (decide (restK p n y k = TX)) (termL p n k (a0 : Int))) = true := by
        rw [hdec, hrc, ha0]
        exact mat_self (endT_sgn hus)
      rw [findS_at hmt0 (p - 1).toNat 1 (by omega) (by omega) fun a ha1 ha2 => ?_]
      · dsimp only
        rw [ef, ha0]
        congr 1
        have er : restK p n y (k + 1) = sgnC (tIn p n y (k + 1) (pw n - (k + 1))) := by
          unfold restK
          rw [et, if_neg (by simp)]
        rw [er, hdec, hrc, ha0, List.drop_left]
      · cases hmt : matT (restK p n y k) (candS (decide (restK p n y k = TX)) (termL p n k a)) with
        | false => rfl
        | true =>
          have := fit _ _ k _ ei (by omega) hb.1 hb.2 rfl a ha1 (by omega) hmt
          omega
/-- The text of 0. -/
theorem scan_zero (hP : isP p = true) (hn : n ≤ 6) : ∀ k, k ≤ pw n → scanS p n [48] k = (List.replicate (pw n) 0, [48])
  | 0, _ => rfl
  | k + 1, hk => by
    have ih := scan_zero hP hn k (by omega)
    have hp := isP_ge hP
    show stepS p n [48] k (scanS p n [48] k) = _
    rw [ih]
    unfold stepS
    dsimp only
    rw [if_neg (by simp)]
    rw [findS_none _ _ fun a ha1 ha2 => ?_]
    cases hmt : matT [48] (candS (decide (([48] : By) = [48])) (termL p n k a)) with
    | false => rfl
    | true =>
      have e0 : termL p n 0 0 = [48] := (num_facts0 hP).2
      have h0 := term_facts hP hn (pw_pos n) (Int.le_refl 0) (show (0 : Int) < p by omega)
      have hh0 := term_head hP hn (pw_pos n) (Int.le_refl 0) (show (0 : Int) < p by omega)
      have ht9 := term_facts hP hn (m := k) (by omega) (a := (a : Int)) (by omega) (by omega)
      have hh9 := term_head hP hn (m := k) (by omega) (a := (a : Int)) (by omega) (by omega)
      rw [decide_eq_true rfl] at hmt
      have hA : ([48] : By) = candS true (termL p n 0 0) ++ [] := by rw [e0]; rfl
      rw [hA] at hmt
      have e := mat_same (cand_ok h0.1 _) (cand_ok ht9.1 _) rfl hmt
      have e2 := cand_inj hh0 hh9 e
      have := term_inj hP hn (m := k) (m' := 0) (by omega) (pw_pos n) (a := (a : Int)) (by omega) (by omega) (Int.le_refl 0) (by omega) e2.symm
      omega
theorem parS_text (hP : isP p = true) (hn : n ≤ 6) {y : List Int} (hy : MuL p n y) : parS p n (textL p n y) = y := by
  obtain ⟨t1, t2⟩ := text_terms hP hn hy (pw n) (Nat.le_refl _)
  unfold textL parS
  rw [hy.1]
  by_cases h0 : textTo p n y (pw n) = []
  · rw [if_pos h0, scan_zero hP hn _ (Nat.le_refl _)]
    have hfold := fold_terms hP hn hy (pw n) (Nat.le_refl _)
    rw [firstK_all hy.1, t2.1 h0] at hfold
    exact hfold
  · rw [if_neg h0, t1, scan_text hP hn hy _ (Nat.le_refl _)]
    exact firstK_all hy.1
theorem stepS_mu (hp : 0 < p) {text : By} {m : Nat} {s : List Int × By} (h : MuL p n s.1) : MuL p n (stepS p n text m s).1 := by
  unfold stepS
  split
  · exact h
  · split
    · rename_i a ha
      have := findS_lt ha
      exact ⟨by rw [List.length_set]; exact h.1, h.2.set _ ⟨by omega, by omega⟩⟩
    · exact h
theorem scanS_mu (hp : 0 < p) (text : By) : ∀ k, MuL p n (scanS p n text k).1
  | 0 => ⟨List.length_replicate, NumsL.replicate hp _⟩
  | k + 1 => stepS_mu hp (scanS_mu hp text k)
/-- What a text is read as, or nothing: by both ways the same. -/
def parR (p : Int) (sq : List Int) (t : By) : List Int × Int := if isSp p sq = true then (if textL p sq.length (parI p sq.length t) = t then (parI p sq.length t, 0) else ([], 6)) else ([], 1)
theorem par_same (hP : isP p = true) (hn : n ≤ 6) (t : By) : (textL p n (parI p n t) = t ↔ textL p n (parS p n t) = t) ∧ (textL p n (parI p n t) = t → parI p n t = parS p n t) := by
  have hp := isP_ge hP
  have h1 : textL p n (parI p n t) = t → parS p n t = parI p n t := fun h => by
    have := parS_text hP hn (parI_mu (show 0 < p by omega) t)
    rwa [h] at this
  have h2 : textL p n (parS p n t) = t → parI p n t = parS p n t := fun h => by
    have := parI_text hP hn (y := parS p n t) (scanS_mu (show 0 < p by omega) t _)
    rwa [h] at this
  exact ⟨⟨fun h => by rw [h1 h]; exact h, fun h => by rw [h2 h]; exact h⟩, fun h => (h1 h).symm⟩
theorem parR_spec {sq : List Int} (t : By) : parR p sq t = if isSp p sq = true then (if textL p sq.length (parS p sq.length t) = t then (parS p sq.length t, 0) else ([], 6)) else ([], 1) := by
  unfold parR
  by_cases h : isSp p sq = true
  · rw [if_pos h, if_pos h]
    obtain ⟨g1, g2, g3, g4⟩ := isSp_dim h
    obtain ⟨k1, k2⟩ := par_same g1 (by omega) t (n := sq.length)
    by_cases h5 : textL p sq.length (parI p sq.length t) = t
    · rw [if_pos h5, if_pos (k1.1 h5), k2 h5]
    · rw [if_neg h5, if_neg (fun e => h5 (k1.2 e))]
  · rw [if_neg h, if_neg h]
end
end Go.Proofs.YticofgmmjecleaaGreatDoor
namespace Go.Proofs.YticofgmmjecleaaGreatDoor
open Go Go.RowKit
set_option maxHeartbeats 800000 in
set_option maxRecDepth 8000 in
theorem text_any (p a : Int) (w : World) (hp : 2 ≤ p) (hp2 : p ≤ 13) (h0 : 0 ≤ a) (h1 : a < p) (he : Env w) :
    Calls Tryz.prog 99 #[.int .i64 p, .int .i64 a] w fun e w' => e = .returned (.string ⟨(txtN p a).toArray⟩) ∧ Below w.heap.size w w' := by
  have q1 : Int.tdiv (p - 1) 2 = (p - 1) / 2 := Int.tdiv_eq_ediv_of_nonneg (by omega)
  have W1 : wrap64 (p - 1) = p - 1 := by unfold wrap64; omega
  have W2 : wrap64 ((p - 1) / 2) = (p - 1) / 2 := by unfold wrap64; omega
  by_cases h : (p - 1) / 2 < a
  · have d : decide ((p - 1) / 2 < a) = true := decide_eq_true h
    have W3 : wrap64 (a - p) = a - p := by unfold wrap64; omega
    have ht : txtN p a = Lib.itoa (a - p) := by unfold txtN; rw [if_pos h]
    rw [ht]
    have hF := FormatInt_any (a - p) (by omega) (by omega) w he
    clear ht h
    go_enter Tryz.func99, Tryz.ntmps99
    go_wp2_with fail
    refine hF.mono ?_
    rintro e w1 ⟨rfl, hb⟩
    go_wp2
    go_ret
    exact ⟨rfl, hb⟩
  · have d : decide ((p - 1) / 2 < a) = false := decide_eq_false h
    have ht : txtN p a = Lib.itoa a := by unfold txtN; rw [if_neg h]
    rw [ht]
    have hF := FormatInt_any a (by omega) (by omega) w he
    clear ht h
    go_enter Tryz.func99, Tryz.ntmps99
    go_wp2_with fail
    refine hF.mono ?_
    rintro e w1 ⟨rfl, hb⟩
    go_wp2
    go_ret
    exact ⟨rfl, hb⟩
theorem prefix_head (t : By) : Lib.hasPrefix t [45] = (t.head? == some 45) := by
  cases t with
  | nil => rfl
  | cons a l =>
    unfold Lib.hasPrefix
    show ((45 : UInt8) == a && true) = (some a == some 45)
    rw [Bool.and_true]
    show ((45 : UInt8) == a) = (a == 45)
    exact BEq.comm
theorem num_short : ([3, 5, 7, 11, 13].all fun p : Nat => (List.range p).all fun a => decide ((txtN p a).length ≤ 3)) = true := by decide +kernel
theorem txtN_len {p : Int} (hP : isP p = true) {a : Int} (h0 : 0 ≤ a) (h1 : a < p) : (txtN p a).length ≤ 3 := by
  obtain ⟨q, rfl, hq⟩ := isP_list hP
  have h := List.all_eq_true.1 (List.all_eq_true.1 num_short q hq) a.toNat (List.mem_range.2 (by omega))
  rw [show ((a.toNat : Nat) : Int) = a by omega] at h
  exact of_decide_eq_true h
/-- What the loop makes of a term's number. -/
def stepO (out t : By) : By := out ++ ((if out ≠ [] ∧ t.head? ≠ some 45 then [43] else []) ++ t)
theorem stepO_plus {out t : By} (h1 : out.isEmpty = false) (h2 : Lib.hasPrefix t [45] = false) : stepO out t = out ++ [43] ++ t := by
  rw [prefix_head] at h2
  unfold stepO
  rw [if_pos ⟨fun e => (by rw [e] at h1; cases h1), (by simpa using h2)⟩, List.append_assoc]
theorem stepO_minus {out t : By} (h2 : Lib.hasPrefix t [45] = true) : stepO out t = out ++ t := by
  rw [prefix_head] at h2
  unfold stepO
  rw [if_neg (fun h => h.2 (by simpa using h2))]; rfl
theorem stepO_nil {out t : By} (h1 : out.isEmpty = true) : stepO out t = out ++ t := by
  unfold stepO
  rw [if_neg (fun h => h.1 (by simpa using h1))]; rfl
theorem textTo_step0 {p : Int} {n : Nat} {x : List Int} {k : Nat} (hk : k < x.length) (h : x[k] = 0) : textTo p n x (k + 1) = textTo p n x k := by
  rw [textTo, if_pos (by rw [List.getD_eq_getElem?_getD, List.getElem?_eq_getElem hk]; exact h)]
theorem textTo_step1 {p : Int} {n : Nat} {x : List Int} {k : Nat} (hk : k < x.length) (h : x[k] ≠ 0) : textTo p n x (k + 1) = stepO (textTo p n x k) (termL p n k x[k]) := by
  have e : x.getD k 0 = x[k] := by rw [List.getD_eq_getElem?_getD, List.getElem?_eq_getElem hk]; rfl
  rw [textTo, e, if_neg h]; rfl
set_option maxHeartbeats 3200000 in
set_option maxRecDepth 8000 in
theorem multiText_any (P : Int) (A X : Option Addr) (n c d : Nat) (x : List Int) (w : World) (hP : isP P = true) (hn : n ≤ 6) (hx : NumsL P x) (hl : x.length = pw n) (hX : Rd w X (pw n) (ints x)) (he : Env w) :
    Calls Tryz.prog 61 #[.agg #[.int .i64 P, .slice A n c], .slice X (pw n) d] w fun e w' => e = .returned (.string ⟨(textL P n x).toArray⟩) ∧ Below w.heap.size w w' := by
  have hB0 : Below w.heap.size w (w.alloc (.cells #[.int .i64 P, .slice A n c] 28)) := (Below.refl _ _).alloc (Nat.le_refl _) _
  have k0 : Blk (w.alloc (.cells #[.int .i64 P, .slice A n c] 28)) w.heap.size 28 #[.int .i64 P, .slice A n c] := Blk.new _ _ _
  have hge := isP_ge hP
  have hpw : pw n ≤ 64 := pw_le hn
  obtain ⟨m, hm⟩ : ∃ m, m = pw n := ⟨_, rfl⟩
  rw [← hm] at hl hX hpw ⊢
  have HP := Lib.hid hP
  have HX := Lib.hid hx
  have HLM := Lib.hid hl
  obtain ⟨R, hR⟩ : ∃ R, R = textL P n x := ⟨_, rfl⟩
  have HR : Hid (R = if textTo P n x m = [] then [48] else textTo P n x m) := Lib.hid (by rw [hR]; unfold textL; rw [hl])
  rw [← hR]
  clear hx hl hR hm hP
  go_enter Tryz.func61, Tryz.ntmps61
  go_wp2
  go_loopw [5, 11] (fun o i wr => ∃ (k : Nat) (out : By), k ≤ m ∧ i = .int .i64 (k : Int) ∧ o = .string ⟨out.toArray⟩ ∧ Hid (out = textTo P n x k) ∧ Hid (out.length ≤ 20 * k) ∧ Below w.heap.size w wr ∧ Blk wr w.heap.size 28 #[.int .i64 P, .slice A n c]) (fun _ i _ => m - (intOf i).toNat)
  case atStart => exact ⟨0, [], Nat.zero_le _, rfl, rfl, Lib.hid rfl, Lib.hid (Nat.zero_le _), hB0, k0⟩
  case round =>
    obtain ⟨k, out, hk, rfl, rfl, ho, hol, hB, kb⟩ := hrel
    clear hB0 k0
    by_cases hlt : k < m
    · obtain ⟨g, o, rfl, hxk, hcx⟩ := (hX.below hB).int hlt
      obtain ⟨a0, a1⟩ := HX.out x[k] (List.getElem_mem hxk)
      have hs0 := textTo_step0 (p := P) (n := n) hxk
      have hs1 := textTo_step1 (p := P) (n := n) hxk
      obtain ⟨a, ha⟩ : ∃ a, a = x[k] := ⟨_, rfl⟩
      rw [← ha] at hcx a0 a1 hs0 hs1
      clear ha
      obtain ⟨q0, q1⟩ := kb.two
      by_cases h0 : a = 0
      · subst h0
        have HO : Hid (out = textTo P n x (k + 1)) := Lib.hid (by rw [hs0 rfl]; exact ho.out)
        clear hs0 hs1 ho
        go_wp2
        go_roundw
        case rel => exact ⟨k + 1, out, by omega, by go_num, rfl, HO, Lib.hid (by have := hol.out; omega), hB, kb⟩
        case measure => simp [intOf]; omega
      have e0 : (a == 0) = false := by simpa using h0
      have HO : Hid (textTo P n x (k + 1) = stepO out (termL P n k a)) := Lib.hid (by rw [hs1 h0, ← ho.out])
      have htl := txtN_len HP.out a0 a1
      clear hs0 hs1 ho
      have htx := fun (wx : World) (hbx : Below w.heap.size w wx) => text_any P a wx (by omega) (by omega) a0 a1 (he.below hbx (Nat.le_refl _))
      obtain ⟨y, hy⟩ : ∃ y, y = txtN P a := ⟨_, rfl⟩
      rw [← hy] at htx htl
      have HTN : Hid (txtN P a = y) := Lib.hid hy.symm
      have HTX := Lib.hid htx
      clear hy htx hxk
      go_wp2_with fail
      refine (field_any P A n c wr).mono ?_
      rintro e w4 ⟨rfl, hb4⟩
      have hB4 := hB.trans (hb4.mono hB.size)
      have kb4 := kb.below hb4 kb.lt
      have htx4 := HTX.out w4 hB4
      clear hb4 hB kb q0 q1 hcx
      obtain ⟨q0, q1⟩ := kb4.two
      go_wp2_with fail
      refine htx4.mono ?_
      rintro e w5 ⟨rfl, hb5⟩
      have HB5 := Lib.hid (hB4.trans (hb5.mono hB4.size))
      have kb5 := kb4.below hb5 kb4.lt
      clear htx4 HTX hb5 hB4 kb4 q0 q1
      by_cases hk0 : k = 0
      · subst hk0
        have HTL : Hid (termL P n 0 a = y) := Lib.hid (by unfold termL; rw [if_pos rfl]; exact HTN.out)
        have HBW := HB5
        have kbw := kb5
        have htt : y.length ≤ 10 := by omega
        obtain ⟨t, rfl⟩ : ∃ t, t = y := ⟨_, rfl⟩
        have HSO : Hid (textTo P n x (0 + 1) = stepO out t) := Lib.hid (by rw [HO.out, HTL.out])
        have HTT := Lib.hid htt
        have hct := fun wx => cat_big (P := Tryz.prog) wx out t (by have := hol.out; omega)
        have HLL : Hid ((out ++ t).length ≤ 20 * (0 + 1)) := Lib.hid (by have := hol.out; rw [List.length_append]; omega)
        cases hemp : out.isEmpty
        · cases hh : Lib.hasPrefix t [45]
          · have HS2 := Lib.hid (stepO_plus hemp hh)
            have hc1 := fun wx => cat_big (P := Tryz.prog) wx out [43] (by have := hol.out; simp only [List.length_cons, List.length_nil]; omega)
            have hc2 := fun wx => cat_big (P := Tryz.prog) wx (out ++ [43]) t (by have := hol.out; simp only [List.length_append, List.length_cons, List.length_nil]; omega)
            have HL2 : Hid ((out ++ [43] ++ t).length ≤ 20 * (0 + 1)) := Lib.hid (by have := hol.out; simp only [List.length_append, List.length_cons, List.length_nil]; omega)
            have HH := Lib.hid hh
            clear htt hct hh
            generalize out ++ [43] ++ t = z2 at *
            generalize out ++ [43] = z1 at *
            go_wp2_with fail
            refine (HasPrefix_any t [45] _).mono ?_
            rintro e w9 ⟨rfl, rfl⟩
            rw [HH.out]
            go_wp2
            go_roundw
            case rel => exact ⟨0 + 1, z2, by omega, by go_num, rfl, Lib.hid (by rw [HSO.out, HS2.out]), HL2, HBW.out, kbw⟩
            case measure => simp [intOf]; omega
          · have HS2 := Lib.hid (stepO_minus (out := out) hh)
            have HH := Lib.hid hh
            clear htt hh
            generalize out ++ t = z2 at *
            go_wp2_with fail
            refine (HasPrefix_any t [45] _).mono ?_
            rintro e w9 ⟨rfl, rfl⟩
            rw [HH.out]
            go_wp2
            go_roundw
            case rel => exact ⟨0 + 1, z2, by omega, by go_num, rfl, Lib.hid (by rw [HSO.out, HS2.out]), HLL, HBW.out, kbw⟩
            case measure => simp [intOf]; omega
        · have HS2 := Lib.hid (stepO_nil (t := t) hemp)
          clear htt
          generalize out ++ t = z2 at *
          go_wp2
          go_roundw
          case rel => exact ⟨0 + 1, z2, by omega, by go_num, rfl, Lib.hid (by rw [HSO.out, HS2.out]), HLL, HBW.out, kbw⟩
          case measure => simp [intOf]; omega
      have hkn : ((k : Int) != 0) = true := by rw [bne_iff_ne]; omega
      obtain ⟨q0, q1⟩ := kb5.two
      by_cases y1 : y = [49]
      · subst y1
        have hnm := nameOf_any P A n c k w5 hn (by omega)
        have hnl : (nameL n k).length ≤ 7 := by unfold nameL; rw [if_neg hk0]; exact Nat.le_trans (nameTo_len k n) (by omega)
        have hcn := fun wx => cat_big (P := Tryz.prog) wx [] (nameL n k) (by simp only [List.length_cons, List.length_nil]; omega)
        obtain ⟨t, ht⟩ : ∃ t, t = [] ++ nameL n k := ⟨_, rfl⟩
        have HTL : Hid (termL P n k a = t) := Lib.hid (by rw [ht]; unfold termL; rw [if_neg hk0]; unfold numP; rw [HTN.out]; rfl)
        have htt : t.length ≤ 10 := by rw [ht, List.length_append]; first | omega | (simp only [List.length_cons, List.length_nil]; omega)
        rw [← ht] at hcn
        generalize nameL n k = nm at *
        clear ht hnl
        go_wp2_with fail
        refine hnm.mono ?_
        rintro e w6 ⟨rfl, hb6⟩
        have HBW := Lib.hid (HB5.out.trans (hb6.mono HB5.out.size))
        have kbw := kb5.below hb6 kb5.lt
        clear hnm hb6 HB5 kb5 q0 q1
        have HSO : Hid (textTo P n x (k + 1) = stepO out t) := Lib.hid (by rw [HO.out, HTL.out])
        have HTT := Lib.hid htt
        have hct := fun wx => cat_big (P := Tryz.prog) wx out t (by have := hol.out; omega)
        have HLL : Hid ((out ++ t).length ≤ 20 * (k + 1)) := Lib.hid (by have := hol.out; rw [List.length_append]; omega)
        cases hemp : out.isEmpty
        · cases hh : Lib.hasPrefix t [45]
          · have HS2 := Lib.hid (stepO_plus hemp hh)
            have hc1 := fun wx => cat_big (P := Tryz.prog) wx out [43] (by have := hol.out; simp only [List.length_cons, List.length_nil]; omega)
            have hc2 := fun wx => cat_big (P := Tryz.prog) wx (out ++ [43]) t (by have := hol.out; simp only [List.length_append, List.length_cons, List.length_nil]; omega)
            have HL2 : Hid ((out ++ [43] ++ t).length ≤ 20 * (k + 1)) := Lib.hid (by have := hol.out; simp only [List.length_append, List.length_cons, List.length_nil]; omega)
            have HH := Lib.hid hh
            clear htt hct hh
            generalize out ++ [43] ++ t = z2 at *
            generalize out ++ [43] = z1 at *
            go_wp2_with fail
            refine (HasPrefix_any t [45] _).mono ?_
            rintro e w9 ⟨rfl, rfl⟩
            rw [HH.out]
            go_wp2
            go_roundw
            case rel => exact ⟨k + 1, z2, by omega, by go_num, rfl, Lib.hid (by rw [HSO.out, HS2.out]), HL2, HBW.out, kbw⟩
            case measure => simp [intOf]; omega
          · have HS2 := Lib.hid (stepO_minus (out := out) hh)
            have HH := Lib.hid hh
            clear htt hh
            generalize out ++ t = z2 at *
            go_wp2_with fail
            refine (HasPrefix_any t [45] _).mono ?_
            rintro e w9 ⟨rfl, rfl⟩
            rw [HH.out]
            go_wp2
            go_roundw
            case rel => exact ⟨k + 1, z2, by omega, by go_num, rfl, Lib.hid (by rw [HSO.out, HS2.out]), HLL, HBW.out, kbw⟩
            case measure => simp [intOf]; omega
        · have HS2 := Lib.hid (stepO_nil (t := t) hemp)
          clear htt
          generalize out ++ t = z2 at *
          go_wp2
          go_roundw
          case rel => exact ⟨k + 1, z2, by omega, by go_num, rfl, Lib.hid (by rw [HSO.out, HS2.out]), HLL, HBW.out, kbw⟩
          case measure => simp [intOf]; omega
      by_cases y2 : y = [45, 49]
      · subst y2
        have hnm := nameOf_any P A n c k w5 hn (by omega)
        have hnl : (nameL n k).length ≤ 7 := by unfold nameL; rw [if_neg hk0]; exact Nat.le_trans (nameTo_len k n) (by omega)
        have hcn := fun wx => cat_big (P := Tryz.prog) wx [45] (nameL n k) (by simp only [List.length_cons, List.length_nil]; omega)
        obtain ⟨t, ht⟩ : ∃ t, t = [45] ++ nameL n k := ⟨_, rfl⟩
        have HTL : Hid (termL P n k a = t) := Lib.hid (by rw [ht]; unfold termL; rw [if_neg hk0]; unfold numP; rw [HTN.out]; rfl)
        have htt : t.length ≤ 10 := by rw [ht, List.length_append]; first | omega | (simp only [List.length_cons, List.length_nil]; omega)
        rw [← ht] at hcn
        generalize nameL n k = nm at *
        clear ht hnl
        go_wp2_with fail
        refine hnm.mono ?_
        rintro e w6 ⟨rfl, hb6⟩
        have HBW := Lib.hid (HB5.out.trans (hb6.mono HB5.out.size))
        have kbw := kb5.below hb6 kb5.lt
        clear hnm hb6 HB5 kb5 q0 q1
        have HSO : Hid (textTo P n x (k + 1) = stepO out t) := Lib.hid (by rw [HO.out, HTL.out])
        have HTT := Lib.hid htt
        have hct := fun wx => cat_big (P := Tryz.prog) wx out t (by have := hol.out; omega)
        have HLL : Hid ((out ++ t).length ≤ 20 * (k + 1)) := Lib.hid (by have := hol.out; rw [List.length_append]; omega)
        cases hemp : out.isEmpty
        · cases hh : Lib.hasPrefix t [45]
          · have HS2 := Lib.hid (stepO_plus hemp hh)
            have hc1 := fun wx => cat_big (P := Tryz.prog) wx out [43] (by have := hol.out; simp only [List.length_cons, List.length_nil]; omega)
            have hc2 := fun wx => cat_big (P := Tryz.prog) wx (out ++ [43]) t (by have := hol.out; simp only [List.length_append, List.length_cons, List.length_nil]; omega)
            have HL2 : Hid ((out ++ [43] ++ t).length ≤ 20 * (k + 1)) := Lib.hid (by have := hol.out; simp only [List.length_append, List.length_cons, List.length_nil]; omega)
            have HH := Lib.hid hh
            clear htt hct hh
            generalize out ++ [43] ++ t = z2 at *
            generalize out ++ [43] = z1 at *
            go_wp2_with fail
            refine (HasPrefix_any t [45] _).mono ?_
            rintro e w9 ⟨rfl, rfl⟩
            rw [HH.out]
            go_wp2
            go_roundw
            case rel => exact ⟨k + 1, z2, by omega, by go_num, rfl, Lib.hid (by rw [HSO.out, HS2.out]), HL2, HBW.out, kbw⟩
            case measure => simp [intOf]; omega
          · have HS2 := Lib.hid (stepO_minus (out := out) hh)
            have HH := Lib.hid hh
            clear htt hh
            generalize out ++ t = z2 at *
            go_wp2_with fail
            refine (HasPrefix_any t [45] _).mono ?_
            rintro e w9 ⟨rfl, rfl⟩
            rw [HH.out]
            go_wp2
            go_roundw
            case rel => exact ⟨k + 1, z2, by omega, by go_num, rfl, Lib.hid (by rw [HSO.out, HS2.out]), HLL, HBW.out, kbw⟩
            case measure => simp [intOf]; omega
        · have HS2 := Lib.hid (stepO_nil (t := t) hemp)
          clear htt
          generalize out ++ t = z2 at *
          go_wp2
          go_roundw
          case rel => exact ⟨k + 1, z2, by omega, by go_num, rfl, Lib.hid (by rw [HSO.out, HS2.out]), HLL, HBW.out, kbw⟩
          case measure => simp [intOf]; omega
      have y1' : (y == [49]) = false := by simpa using y1
      have y2' : (y == [45, 49]) = false := by simpa using y2
      have hnm := nameOf_any P A n c k w5 hn (by omega)
      have hnl : (nameL n k).length ≤ 7 := by unfold nameL; rw [if_neg hk0]; exact Nat.le_trans (nameTo_len k n) (by omega)
      have hcn := fun wx => cat_big (P := Tryz.prog) wx y (nameL n k) (by omega)
      obtain ⟨t, ht⟩ : ∃ t, t = y ++ nameL n k := ⟨_, rfl⟩
      have HTL : Hid (termL P n k a = t) := Lib.hid (by rw [ht]; unfold termL; rw [if_neg hk0]; unfold numP; rw [HTN.out]; rw [if_neg y1, if_neg y2])
      have htt : t.length ≤ 10 := by rw [ht, List.length_append]; first | omega | (simp only [List.length_cons, List.length_nil]; omega)
      rw [← ht] at hcn
      generalize nameL n k = nm at *
      clear ht hnl
      have Y1 := Lib.hid y1
      have Y2 := Lib.hid y2
      clear y1 y2
      go_wp2_with fail
      refine hnm.mono ?_
      rintro e w6 ⟨rfl, hb6⟩
      have HBW := Lib.hid (HB5.out.trans (hb6.mono HB5.out.size))
      have kbw := kb5.below hb6 kb5.lt
      clear hnm hb6 HB5 kb5 q0 q1
      have HSO : Hid (textTo P n x (k + 1) = stepO out t) := Lib.hid (by rw [HO.out, HTL.out])
      have HTT := Lib.hid htt
      have hct := fun wx => cat_big (P := Tryz.prog) wx out t (by have := hol.out; omega)
      have HLL : Hid ((out ++ t).length ≤ 20 * (k + 1)) := Lib.hid (by have := hol.out; rw [List.length_append]; omega)
      cases hemp : out.isEmpty
      · cases hh : Lib.hasPrefix t [45]
        · have HS2 := Lib.hid (stepO_plus hemp hh)
          have hc1 := fun wx => cat_big (P := Tryz.prog) wx out [43] (by have := hol.out; simp only [List.length_cons, List.length_nil]; omega)
          have hc2 := fun wx => cat_big (P := Tryz.prog) wx (out ++ [43]) t (by have := hol.out; simp only [List.length_append, List.length_cons, List.length_nil]; omega)
          have HL2 : Hid ((out ++ [43] ++ t).length ≤ 20 * (k + 1)) := Lib.hid (by have := hol.out; simp only [List.length_append, List.length_cons, List.length_nil]; omega)
          have HH := Lib.hid hh
          clear htt hct hh
          generalize out ++ [43] ++ t = z2 at *
          generalize out ++ [43] = z1 at *
          go_wp2_with fail
          refine (HasPrefix_any t [45] _).mono ?_
          rintro e w9 ⟨rfl, rfl⟩
          rw [HH.out]
          go_wp2
          go_roundw
          case rel => exact ⟨k + 1, z2, by omega, by go_num, rfl, Lib.hid (by rw [HSO.out, HS2.out]), HL2, HBW.out, kbw⟩
          case measure => simp [intOf]; omega
        · have HS2 := Lib.hid (stepO_minus (out := out) hh)
          have HH := Lib.hid hh
          clear htt hh
          generalize out ++ t = z2 at *
          go_wp2_with fail
          refine (HasPrefix_any t [45] _).mono ?_
          rintro e w9 ⟨rfl, rfl⟩
          rw [HH.out]
          go_wp2
          go_roundw
          case rel => exact ⟨k + 1, z2, by omega, by go_num, rfl, Lib.hid (by rw [HSO.out, HS2.out]), HLL, HBW.out, kbw⟩
          case measure => simp [intOf]; omega
      · have HS2 := Lib.hid (stepO_nil (t := t) hemp)
        clear htt
        generalize out ++ t = z2 at *
        go_wp2
        go_roundw
        case rel => exact ⟨k + 1, z2, by omega, by go_num, rfl, Lib.hid (by rw [HSO.out, HS2.out]), HLL, HBW.out, kbw⟩
        case measure => simp [intOf]; omega
    · obtain rfl : k = m := by omega
      have HRO : Hid (R = if out = [] then [48] else out) := Lib.hid (by rw [HR.out, ← ho.out])
      cases hemp : out.isEmpty
      · have HRR : Hid (R = out) := Lib.hid (by rw [HRO.out, if_neg (by intro e; rw [e] at hemp; cases hemp)])
        go_wp2
        go_ret
        exact ⟨by rw [HRR.out]; rfl, hB⟩
      · have HRR : Hid (R = [48]) := Lib.hid (by rw [HRO.out, if_pos (by simpa using hemp)])
        go_wp2
        go_ret
        exact ⟨by rw [HRR.out]; rfl, hB⟩
end Go.Proofs.YticofgmmjecleaaGreatDoor
namespace Go.Proofs.YticofgmmjecleaaGreatDoor
theorem xor_eq_iff (a k m : Nat) : a ^^^ k = m ↔ k = a ^^^ m := by
  constructor
  · rintro rfl; rw [← Nat.xor_assoc, Nat.xor_self, Nat.zero_xor]
  · rintro rfl; rw [← Nat.xor_assoc, Nat.xor_self, Nat.zero_xor]
/-- What row a adds to place m. -/
def term (p : Int) (sq : List Int) (t : Nat → Nat → Bool) (x y : List Int) (m a : Nat) : Int :=
  if t a (a ^^^ m) = true then x.getD a 0 * y.getD (a ^^^ m) 0 * fac p sq a (a ^^^ m) else 0
theorem addRow_getD (p : Int) (sq : List Int) (t : Nat → Nat → Bool) (x y : List Int) (a : Nat) (out : List Int) (m : Nat) (hm : m < out.length) (h0 : out.getD m 0 % p = out.getD m 0) :
    ∀ k, (addRow p sq t x y a out k).getD m 0 = if a ^^^ m < k then (out.getD m 0 + term p sq t x y m a) % p else out.getD m 0 := by
  intro k
  induction k with
  | zero => rw [if_neg (by omega)]; simp [addRow]
  | succ k ih =>
    rw [addRow_succ]
    have hl : (addRow p sq t x y a out k).length = out.length := addRow_len _ _ _ _ _ _ _ _
    unfold addPair
    by_cases hk : a ^^^ k = m
    · have hk' := (xor_eq_iff a k m).1 hk
      have h1 : ¬ a ^^^ m < k := by omega
      have h2 : a ^^^ m < k + 1 := by omega
      rw [if_neg h1] at ih
      rw [if_pos (c := a ^^^ m < k + 1) h2]
      unfold term
      rw [← hk']
      by_cases hc : x.getD a 0 ≠ 0 ∧ y.getD k 0 ≠ 0 ∧ t a k = true
      · rw [if_pos hc, if_pos hc.2.2, getD_set, if_pos ⟨hk, by rw [hl, hk]; exact hm⟩, hk, ih]
      · rw [if_neg hc, ih]
        by_cases ht : t a k = true
        · rw [if_pos ht]
          have : x.getD a 0 * y.getD k 0 = 0 := by
            by_cases h1 : x.getD a 0 = 0
            · rw [h1, Int.zero_mul]
            · by_cases h2 : y.getD k 0 = 0
              · rw [h2, Int.mul_zero]
              · exact absurd ⟨h1, h2, ht⟩ hc
          rw [this, Int.zero_mul, Int.add_zero, h0]
        · rw [if_neg ht, Int.add_zero, h0]
    · have hk' : k ≠ a ^^^ m := fun e => hk ((xor_eq_iff a k m).2 e)
      have e : (if x.getD a 0 ≠ 0 ∧ y.getD k 0 ≠ 0 ∧ t a k = true then (addRow p sq t x y a out k).set (a ^^^ k) (((addRow p sq t x y a out k).getD (a ^^^ k) 0 + x.getD a 0 * y.getD k 0 * fac p sq a k) % p) else addRow p sq t x y a out k).getD m 0 = (addRow p sq t x y a out k).getD m 0 := by
        split
        · rw [getD_set, if_neg (fun h => hk h.1)]
        · rfl
      rw [e, ih]
      by_cases h1 : a ^^^ m < k
      · rw [if_pos h1, if_pos (by omega)]
      · rw [if_neg h1, if_neg (by omega)]
theorem addRows_getD (p : Int) (sq : List Int) (t : Nat → Nat → Bool) (x y : List Int) (n m : Nat) (hy : y.length = pw n) (hm : m < pw n) :
    ∀ k, k ≤ pw n → (addRows p sq t x y (List.replicate (pw n) 0) k).getD m 0 = sumTo k (term p sq t x y m) % p := by
  intro k
  induction k with
  | zero =>
    intro _
    rw [show addRows p sq t x y (List.replicate (pw n) 0) 0 = List.replicate (pw n) 0 from rfl, getD_of_lt 0 (by simpa using hm)]
    simp [sumTo]
  | succ k ih =>
    intro hk
    have ih := ih (by omega)
    have hl : (addRows p sq t x y (List.replicate (pw n) 0) k).length = pw n := by rw [addRows_len]; simp
    rw [addRows_succ, addRow_getD p sq t x y k _ m (by rw [hl]; exact hm) (by rw [ih, Int.emod_emod_of_dvd _ (Int.dvd_refl p)]), if_pos (by rw [hy]; exact xor_lt (by omega) hm), ih]
    exact sumTo_step p k _
theorem prodL_getD (p : Int) (sq : List Int) (t : Nat → Nat → Bool) (x y : List Int) (n m : Nat) (hx : x.length = pw n) (hy : y.length = pw n) (hm : m < pw n) :
    (prodL p sq t x y).getD m 0 = sumTo (pw n) (term p sq t x y m) % p := by
  unfold prodL
  rw [hx]
  exact addRows_getD p sq t x y n m hy hm _ (Nat.le_refl _)
theorem sumTo_zero {n : Nat} {f : Nat → Int} (h : ∀ i, i < n → f i = 0) : sumTo n f = 0 := by
  induction n with
  | zero => rfl
  | succ n ih => rw [sumTo_succ, ih (fun i hi => h i (by omega)), h n (by omega)]; rfl
theorem sumTo_one {n : Nat} {f : Nat → Int} (k : Nat) (hk : k < n) (h : ∀ i, i < n → i ≠ k → f i = 0) : sumTo n f = f k := by
  induction n with
  | zero => omega
  | succ n ih =>
    rw [sumTo_succ]
    by_cases e : k = n
    · subst e; rw [sumTo_zero (fun i hi => h i (by omega) (by omega)), Int.zero_add]
    · rw [ih (by omega) (fun i hi => h i (by omega)), h n (by omega) (by omega), Int.add_zero]
theorem sumTo_add (n : Nat) (f g : Nat → Int) : sumTo n (fun i => f i + g i) = sumTo n f + sumTo n g := by
  induction n with
  | zero => rfl
  | succ n ih => rw [sumTo_succ, sumTo_succ, sumTo_succ, ih]; omega
theorem sumTo_mul (n : Nat) (f : Nat → Int) (c : Int) : sumTo n (fun i => c * f i) = c * sumTo n f := by
  induction n with
  | zero => simp [sumTo]
  | succ n ih => rw [sumTo_succ, sumTo_succ, ih, Int.mul_add]
theorem sumTo_comm (n m : Nat) (f : Nat → Nat → Int) : sumTo n (fun i => sumTo m (f i)) = sumTo m (fun j => sumTo n (fun i => f i j)) := by
  induction n with
  | zero => exact (sumTo_zero (fun _ _ => rfl)).symm
  | succ n ih => rw [sumTo_succ, ih, ← sumTo_add]; rfl
theorem pc_zero : pc 0 = 0 := by simp [pc]
theorem bit_zero (i : Nat) : bit 0 i = 0 := by simp [bit]
theorem fac_zero_left (p : Int) (sq : List Int) (b : Nat) : fac p sq 0 b = 1 := by
  have h1 : ∀ i, swaps 0 b i = 0 := by
    intro i
    induction i with
    | zero => rfl
    | succ i ih => simp [swaps, ih, pc_zero]
  have h2 : ∀ i, common p sq 0 b i = 1 := by
    intro i
    induction i with
    | zero => rfl
    | succ i ih => simp [common, ih, bit_zero]
  unfold fac
  rw [h1, h2]; rfl
theorem bladeL_getD (n m i : Nat) (hi : i < pw n) : (bladeL n m).getD i 0 = if m = i then 1 else 0 := by
  unfold bladeL
  rw [getD_set]
  by_cases h : m = i
  · subst h; rw [if_pos ⟨rfl, by simpa using hi⟩, if_pos rfl]
  · rw [if_neg (fun hh => h hh.1), if_neg h, getD_of_lt 0 (by simpa using hi)]; simp
/-- 1 times a multivector. -/
theorem one_mul (p : Int) (sq : List Int) (n : Nat) (xs : List Int) (hx : xs.length = pw n) (hn : NumsL p xs) : mulL p sq (bladeL n 0) xs = xs := by
  apply list_ext_getD 0 (by unfold mulL; rw [prodL_len, bladeL_len, hx])
  intro m hm
  have hm : m < pw n := by unfold mulL at hm; rwa [prodL_len, bladeL_len] at hm
  unfold mulL
  rw [prodL_getD p sq _ _ xs n m (bladeL_len n 0) hx hm, sumTo_one 0 (pw_pos n) (fun i hi h0 => by unfold term; rw [if_pos rfl, bladeL_getD n 0 i hi, if_neg (fun e => h0 e.symm), Int.zero_mul, Int.zero_mul])]
  unfold term
  rw [if_pos rfl, bladeL_getD n 0 0 (pw_pos n), if_pos rfl, Nat.zero_xor, fac_zero_left, Int.one_mul, Int.mul_one]
  obtain ⟨h1, h2⟩ := hn _ (getD_mem 0 (by rw [hx]; exact hm))
  exact Int.emod_eq_of_lt h1 h2
end Go.Proofs.YticofgmmjecleaaGreatDoor
namespace Go.Proofs.YticofgmmjecleaaGreatDoor
open Go.RowKit
theorem Blk.newAt {w : World} {t : TypeId} {cs : Array Value} {g : Nat} (hg : g = w.heap.size) : Blk (w.alloc (.cells cs t)) g t cs := hg ▸ Blk.new w t cs
theorem codeM_spec2 {P : Int} {sq : List Int} {ms : List (List Int)} (h : codeM P sq ms = 0) : isP P = true ∧ 2 < P ∧ P ≤ 13 ∧ 1 ≤ sq.length ∧ sq.length ≤ 6 ∧ NumsL P sq ∧ ∀ ys ∈ ms, ys.length = pw sq.length ∧ NumsL P ys := by
  obtain ⟨h1, h2⟩ := codeM_sp h
  obtain ⟨hp, hd1, hd2, hnum⟩ := isSp_dim h1
  have := isP_ge hp
  refine ⟨hp, by omega, by omega, hd1, hd2, nums_numsL hnum, fun ys hy => ?_⟩
  have hm := h2 ys hy
  unfold isMu at hm
  simp only [Bool.and_eq_true, beq_iff_eq] at hm
  exact ⟨by have := hm.1; omega, nums_numsL hm.2⟩
end Go.Proofs.YticofgmmjecleaaGreatDoor
namespace Go.Proofs.YticofgmmjecleaaGreatDoor
open Go Go.RowKit
set_option maxHeartbeats 3200000 in
set_option maxRecDepth 8000 in
theorem MultivectorText_ok (P : Int) (A : Option Addr) (n c : Nat) (sq : List Int) (X : Option Addr) (m cx : Nat) (xs : List Int) (w : World) (hn : n ≤ 1048576) (hm : m ≤ 1048576) (ha : Rd w A n (ints sq)) (hx : Rd w X m (ints xs)) (hcx : m ≤ cx) (h0 : codeM P sq [xs] = 0) (hnx : NumsL P xs) (he : Env w) :
    Calls Tryz.prog 27 #[.agg #[.int .i64 P, .slice A n c], .slice X m cx] w fun e w' => e = .returned (.tuple #[.string ⟨(textL P n xs).toArray⟩, .int .i64 0]) ∧ Below w.heap.size w w' := by
  have hB0 : Below w.heap.size w (w.alloc (.cells #[.int .i64 P, .slice A n c] 28)) := (Below.refl _ _).alloc (Nat.le_refl _) _
  have k0 : Blk (w.alloc (.cells #[.int .i64 P, .slice A n c] 28)) w.heap.size 28 #[.int .i64 P, .slice A n c] := Blk.new _ _ _
  have hB1 : Below w.heap.size w ((w.alloc (.cells #[.int .i64 P, .slice A n c] 28)).alloc (.cells #[.slice X m cx] 22)) := hB0.alloc (by simp) _
  have k1 : Blk ((w.alloc (.cells #[.int .i64 P, .slice A n c] 28)).alloc (.cells #[.slice X m cx] 22)) w.heap.size 28 #[.int .i64 P, .slice A n c] := k0.alloc _
  have hreg := checkMultis_any P A (some ⟨w.heap.size + 1, 0, none⟩) n c 1 1 sq [xs] ((w.alloc (.cells #[.int .i64 P, .slice A n c] 28)).alloc (.cells #[.slice X m cx] 22)) hn (by omega) (ha.below hB1) (rdII_one' (Blk.newAt (by simp)) (hx.below hB1) hcx) (all_one (by rw [hx.lenI]; exact hm))
  rw [h0] at hreg
  obtain ⟨HP, hp, hp2, hd1, hd2, hs0, hms⟩ := codeM_spec2 h0
  obtain ⟨hx1, hxs0⟩ := hms xs (by simp)
  have hln : sq.length = n := ha.lenI
  have hxm : xs.length = m := hx.lenI
  have hmn : m = pw n := by rw [← hxm, hx1, hln]
  have hcall := fun w' (hb : Below w.heap.size w w') => multiText_any P A X n c cx xs w' HP (by omega) hnx (by rw [hx1, hln]) (by rw [← hmn]; exact hx.below hb) (he.below hb (Nat.le_refl _))
  rw [← hmn] at hcall
  obtain ⟨T, hT⟩ : ∃ T, T = textL P n xs := ⟨_, rfl⟩
  rw [← hT] at hcall ⊢
  clear hms hx1 hs0 hxs0 h0 hln hxm hmn hT
  go_enter Tryz.func27, Tryz.ntmps27
  go_wp2_with fail
  refine hreg.mono ?_
  rintro e w2 ⟨rfl, hb2⟩
  have hB2 := hB1.trans (hb2.mono hB1.size)
  have k2 := k1.below hb2 k1.lt
  obtain ⟨q0, q1⟩ := k2.two
  clear k0 hB0 k1 hB1 hb2 hreg
  go_wp2_with fail
  refine (hcall _ hB2).mono ?_
  rintro e w3 ⟨rfl, hb3⟩
  have hB3 := hB2.trans (hb3.mono hB2.size)
  go_wp2
  go_ret2
  exact ⟨rfl, hB3⟩
end Go.Proofs.YticofgmmjecleaaGreatDoor
namespace Go.Proofs.YticofgmmjecleaaGreatDoor
open Go Go.RowKit
theorem txtN_small {p a : Int} (h : ¬ (p - 1) / 2 < a) (h0 : 0 ≤ a) : txtN p a = Lib.decDigits a.toNat := by
  unfold txtN Lib.itoa
  rw [if_neg h, if_neg (by omega)]
theorem txtN_big {p a : Int} (h : (p - 1) / 2 < a) (h1 : a < p) : txtN p a = 45 :: Lib.decDigits (p - a).toNat := by
  unfold txtN Lib.itoa
  rw [if_pos h, if_pos (by omega), show (a - p).natAbs = (p - a).toNat by omega]
theorem num_one : ([3, 5, 7, 11, 13].all fun p : Nat => (List.range p).all fun a => ((txtN p a == [49]) == (a == 1)) && ((txtN p a == [45, 49]) == (a + 1 == p))) = true := by decide +kernel
theorem num_ones {p : Int} (hP : isP p = true) {a : Int} (h0 : 0 ≤ a) (h1 : a < p) : (txtN p a = [49] ↔ a = 1) ∧ (txtN p a = [45, 49] ↔ a = p - 1) := by
  obtain ⟨q, rfl, hq⟩ := isP_list hP
  obtain ⟨b, rfl⟩ : ∃ b : Nat, a = b := ⟨a.toNat, by omega⟩
  have h := List.all_eq_true.1 (List.all_eq_true.1 num_one q hq) b (List.mem_range.2 (by omega))
  rw [Bool.and_eq_true, beq_iff_eq, beq_iff_eq] at h
  obtain ⟨e1, e2⟩ := h
  constructor
  · rw [← beq_iff_eq, e1, beq_iff_eq]; omega
  · rw [← beq_iff_eq, e2, beq_iff_eq]; omega
set_option maxHeartbeats 1600000 in
set_option maxRecDepth 8000 in
theorem l01Text_any (p a : Int) (w : World) (hp : 2 ≤ p) (hp2 : p ≤ 13) (h0 : 0 ≤ a) (h1 : a < p) :
    Calls Tryz.prog 112 #[.int .i64 p, .int .i64 a] w fun e w' => e = .returned (.string ⟨(txtN p a).toArray⟩) ∧ Below w.heap.size w w' := by
  obtain ⟨R, hR⟩ : ∃ R, R = txtN p a := ⟨_, rfl⟩
  by_cases hb : (p - 1) / 2 < a
  · have hd := l01Dec_any (p - a).toNat (by omega) w
    rw [show (((p - a).toNat : Nat) : Int) = p - a by omega] at hd
    have hl := dec_le (p - a).toNat
    have hR2 := hR
    rw [txtN_big hb h1] at hR2
    obtain ⟨y, hy⟩ : ∃ y, y = Lib.decDigits (p - a).toNat := ⟨_, rfl⟩
    rw [← hy] at hd hl hR2
    have hcat := fun wx => cat_big (P := Tryz.prog) wx [45] y (by simp only [List.length_cons, List.length_nil]; omega)
    have e : [45] ++ y = R := hR2.symm
    rw [e] at hcat
    rw [← hR]
    clear hR hR2 hy hl e
    go_enter Tryz.func112, Tryz.ntmps112
    go_wp2_with fail
    refine hd.mono ?_
    rintro e w1 ⟨rfl, hb1⟩
    go_wp2
    go_ret
    exact ⟨rfl, hb1⟩
  · have hd := l01Dec_any a.toNat (by omega) w
    rw [show ((a.toNat : Nat) : Int) = a by omega] at hd
    rw [← txtN_small hb h0, ← hR] at hd
    rw [← hR]
    clear hR
    go_enter Tryz.func112, Tryz.ntmps112
    go_wp2_with fail
    refine hd.mono ?_
    rintro e w1 ⟨rfl, hb1⟩
    go_wp2
    go_ret
    exact ⟨rfl, hb1⟩
theorem termL_cases {p : Int} (hP : isP p = true) {n m : Nat} {a : Int} (h0 : 0 ≤ a) (h1 : a < p) :
    (m = 0 → termL p n m a = txtN p a) ∧ (m ≠ 0 → a = 1 → termL p n m a = nameL n m) ∧ (m ≠ 0 → a ≠ 1 → a = p - 1 → termL p n m a = [45] ++ nameL n m) ∧ (m ≠ 0 → a ≠ 1 → a ≠ p - 1 → termL p n m a = txtN p a ++ nameL n m) := by
  obtain ⟨e1, e2⟩ := num_ones hP h0 h1
  unfold termL numP
  refine ⟨fun h => by rw [if_pos h], fun h h2 => by rw [if_neg h, if_pos (e1.2 h2)]; rfl, fun h h2 h3 => by rw [if_neg h, if_neg (fun e => h2 (e1.1 e)), if_pos (e2.2 h3)], fun h h2 h3 => by rw [if_neg h, if_neg (fun e => h2 (e1.1 e)), if_neg (fun e => h3 (e2.1 e))]⟩
set_option maxHeartbeats 1600000 in
set_option maxRecDepth 8000 in
theorem l19Term_any (p a : Int) (n m : Nat) (w : World) (hP : isP p = true) (h0 : 0 ≤ a) (h1 : a < p) (hn : n ≤ 6) (hm : m < pw n) :
    Calls Tryz.prog 75 #[.int .i64 p, .int .i64 a, .int .i64 m] w fun e w' => e = .returned (.string ⟨(termL p n m a).toArray⟩) ∧ Below w.heap.size w w' := by
  obtain ⟨c1, c2, c3, c4⟩ := termL_cases (n := n) (m := m) hP h0 h1
  have hge := isP_ge hP
  have hpw : pw n ≤ 64 := pw_le hn
  have htx := fun wx => l01Text_any p a wx (by omega) (by omega) h0 h1
  have hnm := fun wx => l19Name_any m wx (by omega)
  rw [nameL_six hn hm] at hnm
  have hl1 := txtN_len hP h0 h1
  have hl2 : (nameL n m).length ≤ 7 := by unfold nameL; split <;> first | (have := nameTo_len m n; omega) | simp
  obtain ⟨R, hR⟩ : ∃ R, R = termL p n m a := ⟨_, rfl⟩
  rw [← hR] at c1 c2 c3 c4 ⊢
  obtain ⟨y, hy⟩ : ∃ y, y = txtN p a := ⟨_, rfl⟩
  rw [← hy] at c1 c4 htx hl1
  obtain ⟨z, hz⟩ : ∃ z, z = nameL n m := ⟨_, rfl⟩
  rw [← hz] at c2 c3 c4 hnm hl2
  clear hR hy hz hm hP
  by_cases hm0 : m = 0
  · subst hm0
    rw [← c1 rfl] at htx
    clear c1 c2 c3 c4 hnm
    go_enter Tryz.func75, Tryz.ntmps75
    go_wp2_with fail
    refine (htx w).mono ?_
    rintro e w1 ⟨rfl, hb1⟩
    go_wp2
    go_ret
    exact ⟨rfl, hb1⟩
  have dm : ((m : Int) == 0) = false := by rw [beq_eq_false_iff_ne]; omega
  by_cases ha1 : a = 1
  · subst ha1
    rw [← c2 hm0 rfl] at hnm
    clear c1 c2 c3 c4 htx hm0
    go_enter Tryz.func75, Tryz.ntmps75
    go_wp2_with fail
    refine (hnm w).mono ?_
    rintro e w1 ⟨rfl, hb1⟩
    go_wp2
    go_ret
    exact ⟨rfl, hb1⟩
  have da : (a == 1) = false := by rw [beq_eq_false_iff_ne]; exact ha1
  by_cases ha2 : a = p - 1
  · have dp : (a == p - 1) = true := by rw [beq_iff_eq]; exact ha2
    have hcat := fun wx => cat_big (P := Tryz.prog) wx [45] z (by simp only [List.length_cons, List.length_nil]; omega)
    rw [← c3 hm0 ha1 ha2] at hcat
    clear c1 c2 c3 c4 htx hm0 ha1 ha2
    go_enter Tryz.func75, Tryz.ntmps75
    go_wp2_with fail
    refine (hnm w).mono ?_
    rintro e w1 ⟨rfl, hb1⟩
    go_wp2
    go_ret
    exact ⟨rfl, hb1⟩
  have dp : (a == p - 1) = false := by rw [beq_eq_false_iff_ne]; exact ha2
  have hcat := fun wx => cat_big (P := Tryz.prog) wx y z (by omega)
  rw [← c4 hm0 ha1 ha2] at hcat
  clear c1 c2 c3 c4 hm0 ha1 ha2
  go_enter Tryz.func75, Tryz.ntmps75
  go_wp2_with fail
  refine (htx w).mono ?_
  rintro e w1 ⟨rfl, hb1⟩
  go_wp2_with fail
  refine (hnm w1).mono ?_
  rintro e w2 ⟨rfl, hb2⟩
  go_wp2
  go_ret
  exact ⟨rfl, hb1.trans (hb2.mono hb1.size)⟩
end Go.Proofs.YticofgmmjecleaaGreatDoor
namespace Go.Proofs.YticofgmmjecleaaGreatDoor
open Go Go.RowKit
theorem termL_le {p : Int} (hP : isP p = true) {n m : Nat} {a : Int} (h0 : 0 ≤ a) (h1 : a < p) (hn : n ≤ 6) : (termL p n m a).length ≤ 10 := by
  have h3 := txtN_len hP h0 h1
  unfold termL
  split
  · omega
  · have h7 : (nameL n m).length ≤ 7 := by unfold nameL; split <;> first | (have := nameTo_len m n; omega) | simp
    have hq : (numP p a).length ≤ 3 := by
      unfold numP
      split
      · simp
      · split
        · simp
        · exact h3
    rw [List.length_append]; omega
/-- How a term comes behind what stands there, as the reference does it. -/
theorem txFacts (out t : By) (ht : t ≠ []) (hl : out.length ≤ 10000) (htl : t.length ≤ 10) :
    ∃ c : UInt8, (∀ wx, (Instr.index 9 (.string ⟨t.toArray⟩) (.int .i64 0)).run Tryz.prog wx = .ok (.int .u8 (c.toNat : Int)) wx) ∧
      ((out.isEmpty = true ∧ ∃ o2 : By, (∀ wx, (Op.stringOp .add ⟨out.toArray⟩ ⟨t.toArray⟩).run Tryz.prog wx = .ok (.string ⟨o2.toArray⟩) wx) ∧ Hid (o2 = stepO out t) ∧ o2.length ≤ out.length + 11) ∨
       (out.isEmpty = false ∧ ((c.toNat : Int) == 45) = true ∧ ∃ o2 : By, (∀ wx, (Op.stringOp .add ⟨out.toArray⟩ ⟨t.toArray⟩).run Tryz.prog wx = .ok (.string ⟨o2.toArray⟩) wx) ∧ Hid (o2 = stepO out t) ∧ o2.length ≤ out.length + 11) ∨
       (out.isEmpty = false ∧ ((c.toNat : Int) == 45) = false ∧ ∃ o1 o2 : By, (∀ wx, (Op.stringOp .add ⟨out.toArray⟩ ⟨#[43]⟩).run Tryz.prog wx = .ok (.string ⟨o1.toArray⟩) wx) ∧ (∀ wx, (Op.stringOp .add ⟨o1.toArray⟩ ⟨t.toArray⟩).run Tryz.prog wx = .ok (.string ⟨o2.toArray⟩) wx) ∧ Hid (o2 = stepO out t) ∧ o2.length ≤ out.length + 11)) := by
  obtain ⟨c, r, rfl⟩ : ∃ c r, t = c :: r := by cases t with
    | nil => exact absurd rfl ht
    | cons c r => exact ⟨c, r, rfl⟩
  refine ⟨c, fun wx => str_at0 wx (c :: r) (by simp), ?_⟩
  have hcat : ∀ wx, (Op.stringOp .add ⟨out.toArray⟩ ⟨(c :: r).toArray⟩).run Tryz.prog wx = .ok (.string ⟨(out ++ (c :: r)).toArray⟩) wx := fun wx => cat_big wx out (c :: r) (by omega)
  have hlen : (out ++ (c :: r)).length ≤ out.length + 11 := by rw [List.length_append]; omega
  cases he : out.isEmpty
  · by_cases h45 : c.toNat = 45
    · refine .inr (.inl ⟨rfl, by rw [beq_iff_eq]; omega, _, hcat, Lib.hid ?_, hlen⟩)
      have hc : c = 45 := by apply UInt8.toNat_inj.1; rw [h45]; rfl
      unfold stepO
      rw [if_neg (by rw [hc]; simp)]; rfl
    · refine .inr (.inr ⟨rfl, by rw [beq_eq_false_iff_ne]; omega, out ++ [43], out ++ [43] ++ (c :: r), fun wx => cat_big wx out [43] (by simp only [List.length_cons, List.length_nil]; omega), fun wx => cat_big wx _ (c :: r) (by simp only [List.length_append, List.length_cons, List.length_nil] at htl ⊢; omega), Lib.hid ?_, by simp only [List.length_append, List.length_cons, List.length_nil] at htl ⊢; omega⟩)
      have hc : c ≠ 45 := fun e => h45 (by rw [e]; rfl)
      unfold stepO
      rw [if_pos ⟨fun e => by rw [e] at he; exact absurd he (by decide), by simp [hc]⟩, List.append_assoc]
  · refine .inl ⟨rfl, _, hcat, Lib.hid ?_, hlen⟩
    have ho : out = [] := List.isEmpty_iff.1 he
    unfold stepO
    rw [if_neg (fun e => e.1 ho)]; rfl
set_option maxHeartbeats 3200000 in
set_option maxRecDepth 100000 in
theorem l19Text_any (P : Int) (A X : Option Addr) (n c d : Nat) (x : List Int) (w : World) (hP : isP P = true) (hn : n ≤ 6) (hx : NumsL P x) (hl : x.length = pw n) (hX : Rd w X (pw n) (ints x)) :
    Calls Tryz.prog 63 #[.agg #[.int .i64 P, .slice A n c], .slice X (pw n) d] w fun e w' => e = .returned (.string ⟨(textL P n x).toArray⟩) ∧ Below w.heap.size w w' := by
  have hB0 : Below w.heap.size w (w.alloc (.cells #[.int .i64 P, .slice A n c] 28)) := (Below.refl _ _).alloc (Nat.le_refl _) _
  have k0 : Blk (w.alloc (.cells #[.int .i64 P, .slice A n c] 28)) w.heap.size 28 #[.int .i64 P, .slice A n c] := Blk.new _ _ _
  have hge := isP_ge hP
  have hpw : pw n ≤ 64 := pw_le hn
  obtain ⟨m, hm⟩ : ∃ m, m = pw n := ⟨_, rfl⟩
  have HM := Lib.hid hm
  rw [← hm] at hl hX hpw ⊢
  have HP := Lib.hid hP
  have HX := Lib.hid hx
  have HLM := Lib.hid hl
  obtain ⟨R, hR⟩ : ∃ R, R = textL P n x := ⟨_, rfl⟩
  have HR : Hid (R = if textTo P n x m = [] then [48] else textTo P n x m) := Lib.hid (by rw [hR]; unfold textL; rw [hl])
  rw [← hR]
  clear hx hl hR hm hP
  go_enter Tryz.func63, Tryz.ntmps63
  go_wp2
  go_loopw [5, 6] (fun ov iv wr => ∃ (k : Nat) (out : By), k ≤ m ∧ iv = .int .i64 (k : Int) ∧ ov = .string ⟨out.toArray⟩ ∧ Hid (out = textTo P n x k) ∧ Hid (out.length ≤ 20 * k) ∧ Below w.heap.size w wr ∧ Blk wr w.heap.size 28 #[.int .i64 P, .slice A n c]) (fun _ iv _ => m - (intOf iv).toNat)
  case atStart => exact ⟨0, [], Nat.zero_le _, rfl, rfl, Lib.hid rfl, Lib.hid (Nat.zero_le _), hB0, k0⟩
  case round =>
    obtain ⟨k, out, hk, rfl, rfl, ho, hol, hB, kb⟩ := hrel
    clear hB0 k0
    by_cases hlt : k < m
    · obtain ⟨gx, ox, rfl, hxk, hcx⟩ := (hX.below hB).int hlt
      obtain ⟨a0, a1⟩ := HX.out x[k] (List.getElem_mem hxk)
      have hs0 := textTo_step0 (p := P) (n := n) hxk
      have hs1 := textTo_step1 (p := P) (n := n) hxk
      obtain ⟨a, ha⟩ : ∃ a, a = x[k] := ⟨_, rfl⟩
      rw [← ha] at hcx a0 a1 hs0 hs1
      clear ha
      obtain ⟨q0, q1⟩ := kb.two
      by_cases h0 : a = 0
      · subst h0
        have HO : Hid (out = textTo P n x (k + 1)) := Lib.hid (by rw [hs0 rfl]; exact ho.out)
        clear hs0 hs1 ho
        go_wp2
        go_roundw
        case rel => exact ⟨k + 1, out, by omega, by go_num, rfl, HO, Lib.hid (by have := hol.out; omega), hB, kb⟩
        case measure => simp [intOf]; omega
      have e0 : (a == 0) = false := by simpa using h0
      have htx : textTo P n x (k + 1) = stepO out (termL P n k a) := by rw [hs1 h0, ← ho.out]
      have hmk : k < pw n := by rw [← HM.out]; exact hlt
      have htm := fun wx => l19Term_any P a n k wx HP.out a0 a1 hn hmk
      have htne := (term_facts HP.out hn hmk a0 a1).1.1
      have htle := termL_le HP.out a0 a1 hn (m := k)
      obtain ⟨t, ht⟩ : ∃ t, t = termL P n k a := ⟨_, rfl⟩
      rw [← ht] at htm htne htle htx
      have hol2 : out.length ≤ 10000 := by have := hol.out; omega
      have hfa := txFacts out t htne hol2 htle
      have HTX := Lib.hid htx
      have HFA := Lib.hid hfa
      clear hs0 hs1 ho hfa htne htle htx ht hxk h0 hmk
      go_wp2
      refine wp_obs 9 [[], [0], [], [], [2, 3], [2, 3, 4], [], [0, 1, 2, 3, 4, 5, 6], [0, 1, 2, 3, 4, 5, 6, 7]] [VIs (.pointer (some ⟨w.heap.size, 0, none⟩)), VIs (.int .i64 (P)), VIs (.slice (some ⟨gx, ox, none⟩) m d), VIs (.int .i64 (k)), VIs (.pointer (some ⟨gx, ox + k, none⟩)), VIs (.int .i64 (a)), VIs (.int .i64 (k)), VIs (.string ⟨t.toArray⟩), VIs (.string ⟨t.toArray⟩)] (fun w' => w'.cell? ⟨gx, ox + k, none⟩ = some (.int .i64 a) ∧ Blk w' w.heap.size 28 #[.int .i64 P, .slice A n c] ∧ Below w.heap.size w w') (by kernel_rfl) (by kernel_rfl) (fun _ _ h hb => ⟨(hb.cell (World.block_lt_of_cell? _ _ h.1)).trans h.1, h.2.1.below hb h.2.1.lt, h.2.2.trans (hb.mono h.2.2.size)⟩) (⟨hcx, kb.drew, hB.drew⟩) (fun x => ?_)
      refine obs_step (Eq.trans (by simp only [List.getElem?_toArray, List.getElem?_cons_zero]; exact rfl) rfl) rfl (fun w' hS hV K hK => ?_) ?_
      · have q2 := hS.1; obtain ⟨q0, q1⟩ := hS.2.1.two
        go_simp
        exact hK.out _ _ _ rfl rfl rfl (Below.refl _ _)
      simp only [List.setIfInBounds_toArray, List.set_cons_zero, List.set_cons_succ]
      refine obs_step (Eq.trans (by simp only [List.getElem?_toArray, List.getElem?_cons_succ, List.getElem?_cons_zero]; exact rfl) rfl) rfl (fun w' hS hV K hK => ?_) ?_
      · have e0 : x 0 = (.pointer (some ⟨w.heap.size, 0, none⟩)) := hV 0 (by decide)
        have q2 := hS.1; obtain ⟨q0, q1⟩ := hS.2.1.two
        go_simp
        exact hK.out _ _ _ rfl rfl rfl (Below.refl _ _)
      simp only [List.setIfInBounds_toArray, List.set_cons_zero, List.set_cons_succ]
      refine obs_step (Eq.trans (by simp only [List.getElem?_toArray, List.getElem?_cons_succ, List.getElem?_cons_zero]; exact rfl) rfl) rfl (fun w' hS hV K hK => ?_) ?_
      · have q2 := hS.1; obtain ⟨q0, q1⟩ := hS.2.1.two
        go_simp
        exact hK.out _ _ _ rfl rfl rfl (Below.refl _ _)
      simp only [List.setIfInBounds_toArray, List.set_cons_zero, List.set_cons_succ]
      refine obs_step (Eq.trans (by simp only [List.getElem?_toArray, List.getElem?_cons_succ, List.getElem?_cons_zero]; exact rfl) rfl) rfl (fun w' hS hV K hK => ?_) ?_
      · have q2 := hS.1; obtain ⟨q0, q1⟩ := hS.2.1.two
        go_simp
        exact hK.out _ _ _ rfl rfl rfl (Below.refl _ _)
      simp only [List.setIfInBounds_toArray, List.set_cons_zero, List.set_cons_succ]
      refine obs_step (Eq.trans (by simp only [List.getElem?_toArray, List.getElem?_cons_succ, List.getElem?_cons_zero]; exact rfl) rfl) rfl (fun w' hS hV K hK => ?_) ?_
      · have e2 : x 2 = (.slice (some ⟨gx, ox, none⟩) m d) := hV 2 (by decide)
        have e3 : x 3 = (.int .i64 (k)) := hV 3 (by decide)
        have q2 := hS.1; obtain ⟨q0, q1⟩ := hS.2.1.two
        go_simp
        exact hK.out _ _ _ rfl rfl rfl (Below.refl _ _)
      simp only [List.setIfInBounds_toArray, List.set_cons_zero, List.set_cons_succ]
      refine obs_step (Eq.trans (by simp only [List.getElem?_toArray, List.getElem?_cons_succ, List.getElem?_cons_zero]; exact rfl) rfl) rfl (fun w' hS hV K hK => ?_) ?_
      · have e2 : x 2 = (.slice (some ⟨gx, ox, none⟩) m d) := hV 2 (by decide)
        have e3 : x 3 = (.int .i64 (k)) := hV 3 (by decide)
        have e4 : x 4 = (.pointer (some ⟨gx, ox + k, none⟩)) := hV 4 (by decide)
        have q2 := hS.1; obtain ⟨q0, q1⟩ := hS.2.1.two
        go_simp
        exact hK.out _ _ _ rfl rfl rfl (Below.refl _ _)
      simp only [List.setIfInBounds_toArray, List.set_cons_zero, List.set_cons_succ]
      refine obs_step (Eq.trans (by simp only [List.getElem?_toArray, List.getElem?_cons_succ, List.getElem?_cons_zero]; exact rfl) rfl) rfl (fun w' hS hV K hK => ?_) ?_
      · have q2 := hS.1; obtain ⟨q0, q1⟩ := hS.2.1.two
        go_simp
        exact hK.out _ _ _ rfl rfl rfl (Below.refl _ _)
      simp only [List.setIfInBounds_toArray, List.set_cons_zero, List.set_cons_succ]
      refine obs_step (Eq.trans (by simp only [List.getElem?_toArray, List.getElem?_cons_succ, List.getElem?_cons_zero]; exact rfl) rfl) rfl (fun w' hS hV K hK => ?_) ?_
      · have e0 : x 0 = (.pointer (some ⟨w.heap.size, 0, none⟩)) := hV 0 (by decide)
        have e1 : x 1 = (.int .i64 (P)) := hV 1 (by decide)
        have e2 : x 2 = (.slice (some ⟨gx, ox, none⟩) m d) := hV 2 (by decide)
        have e3 : x 3 = (.int .i64 (k)) := hV 3 (by decide)
        have e4 : x 4 = (.pointer (some ⟨gx, ox + k, none⟩)) := hV 4 (by decide)
        have e5 : x 5 = (.int .i64 (a)) := hV 5 (by decide)
        have e6 : x 6 = (.int .i64 (k)) := hV 6 (by decide)
        have q2 := hS.1; obtain ⟨q0, q1⟩ := hS.2.1.two
        go_simp
        refine (htm _).mono ?_
        rintro e v1 ⟨rfl, hb⟩
        exact hK.out _ _ _ rfl rfl rfl hb
      simp only [List.setIfInBounds_toArray, List.set_cons_zero, List.set_cons_succ]
      refine obs_step (Eq.trans (by simp only [List.getElem?_toArray, List.getElem?_cons_succ, List.getElem?_cons_zero]; exact rfl) rfl) rfl (fun w' hS hV K hK => ?_) ?_
      · have e0 : x 0 = (.pointer (some ⟨w.heap.size, 0, none⟩)) := hV 0 (by decide)
        have e1 : x 1 = (.int .i64 (P)) := hV 1 (by decide)
        have e2 : x 2 = (.slice (some ⟨gx, ox, none⟩) m d) := hV 2 (by decide)
        have e3 : x 3 = (.int .i64 (k)) := hV 3 (by decide)
        have e4 : x 4 = (.pointer (some ⟨gx, ox + k, none⟩)) := hV 4 (by decide)
        have e5 : x 5 = (.int .i64 (a)) := hV 5 (by decide)
        have e6 : x 6 = (.int .i64 (k)) := hV 6 (by decide)
        have e7 : x 7 = (.string ⟨t.toArray⟩) := hV 7 (by decide)
        have q2 := hS.1; obtain ⟨q0, q1⟩ := hS.2.1.two
        go_simp
        exact hK.out _ _ _ rfl rfl rfl (Below.refl _ _)
      simp only [List.setIfInBounds_toArray, List.set_cons_zero, List.set_cons_succ]
      refine fun w' hS hV => ?_
      have e0 : x 0 = (.pointer (some ⟨w.heap.size, 0, none⟩)) := hV 0 (by decide)
      have e1 : x 1 = (.int .i64 (P)) := hV 1 (by decide)
      have e2 : x 2 = (.slice (some ⟨gx, ox, none⟩) m d) := hV 2 (by decide)
      have e3 : x 3 = (.int .i64 (k)) := hV 3 (by decide)
      have e4 : x 4 = (.pointer (some ⟨gx, ox + k, none⟩)) := hV 4 (by decide)
      have e5 : x 5 = (.int .i64 (a)) := hV 5 (by decide)
      have e6 : x 6 = (.int .i64 (k)) := hV 6 (by decide)
      have e7 : x 7 = (.string ⟨t.toArray⟩) := hV 7 (by decide)
      have e8 : x 8 = (.string ⟨t.toArray⟩) := hV 8 (by decide)
      simp only [e0, e1, e2, e3, e4, e5, e6, e7, e8]
      clear e0 e1 e2 e3 e4 e5 e6 e7 e8
      refine wpAny_done (by kernel_rfl) ?_ _
      obtain ⟨w2, rfl⟩ : ∃ W, W = w' := ⟨_, rfl⟩
      have kb2 := hS.2.1
      have hB2 := hS.2.2
      clear hS q0 q1 kb hB hcx htm hV
      obtain ⟨c, hix, hcs⟩ := HFA.out
      rcases hcs with ⟨d0, o2, f1, HN, hnl⟩ | ⟨d0, d1, o2, f1, HN, hnl⟩ | ⟨d0, d1, o1, o2, f1, f2, HN, hnl⟩
      · have hnl : o2.length ≤ 20 * (k + 1) := by have := hol.out; omega
        go_wp2
        go_roundw
        case rel =>
          go_light
          exact ⟨k + 1, _, by omega, by go_num, rfl, Lib.hid (by rw [HTX.out]; exact HN.out), Lib.hid hnl, hB2, kb2⟩
        case measure =>
          go_light
          simp [intOf]; omega
      · have hnl : o2.length ≤ 20 * (k + 1) := by have := hol.out; omega
        go_wp2
        go_roundw
        case rel =>
          go_light
          exact ⟨k + 1, _, by omega, by go_num, rfl, Lib.hid (by rw [HTX.out]; exact HN.out), Lib.hid hnl, hB2, kb2⟩
        case measure =>
          go_light
          simp [intOf]; omega
      · have hnl : o2.length ≤ 20 * (k + 1) := by have := hol.out; omega
        go_wp2
        go_roundw
        case rel =>
          go_light
          exact ⟨k + 1, _, by omega, by go_num, rfl, Lib.hid (by rw [HTX.out]; exact HN.out), Lib.hid hnl, hB2, kb2⟩
        case measure =>
          go_light
          simp [intOf]; omega
    · obtain rfl : k = m := by omega
      have hr := HR.out
      rw [← ho.out] at hr
      cases he : out.isEmpty
      · rw [if_neg (by intro e; rw [e] at he; exact absurd he (by decide))] at hr
        subst hr
        go_wp2
        go_ret
        exact ⟨rfl, hB⟩
      · rw [if_pos (List.isEmpty_iff.1 he)] at hr
        subst hr
        go_wp2
        go_ret
        exact ⟨rfl, hB⟩
end Go.Proofs.YticofgmmjecleaaGreatDoor
namespace Go.Proofs.YticofgmmjecleaaGreatDoor
open Go.RowKit
/-- A function of lists of n numbers is linear, but for multiples of P. -/
def LinF (P : Int) (n : Nat) (F : List Int → Int) : Prop := ∀ v : List Int, v.length = n → NumsL P v → F v % P = (sumTo n fun k => F (unitRow n k) * v.getD k 0) % P
section
variable {P : Int} {n : Nat} {F G : List Int → Int}
theorem LinF.congr (hp : 2 ≤ P) (h : LinF P n F) (he : ∀ v : List Int, v.length = n → NumsL P v → G v % P = F v % P) : LinF P n G := fun v hv hn => by
  rw [he v hv hn, h v hv hn]
  refine sumTo_mod P fun k _ => ?_
  rw [Int.mul_emod, ← he _ (unitRow_len n k) (unitRow_nums hp n k), ← Int.mul_emod]
theorem LinF.add (h : LinF P n F) (h' : LinF P n G) : LinF P n (fun v => F v + G v) := fun v hv hn => by
  show (F v + G v) % P = _
  rw [Int.add_emod, h v hv hn, h' v hv hn, ← Int.add_emod, ← sumTo_add]
  refine sumTo_mod P fun k _ => ?_
  rw [Int.add_mul]
theorem LinF.zero : LinF P n (fun _ => 0) := fun v _ _ => by
  show (0 : Int) % P = _
  rw [sumTo_zero fun k _ => by simp]
theorem LinF.sum {H : Nat → List Int → Int} : ∀ (N : Nat), (∀ a, a < N → LinF P n (H a)) → LinF P n (fun v => sumTo N fun a => H a v)
  | 0, _ => LinF.zero
  | N + 1, h => (LinF.sum N fun a ha => h a (by omega)).add (h N (by omega))
end
end Go.Proofs.YticofgmmjecleaaGreatDoor
namespace Go.Proofs.YticofgmmjecleaaGreatDoor
theorem bit_eq (a i : Nat) : bit a i = (a.testBit i).toNat := by
  unfold bit
  rw [Nat.testBit_eq_decide_div_mod_eq]
  rcases Nat.mod_two_eq_zero_or_one (a / 2 ^ i) with h | h <;> rw [h] <;> rfl
theorem bit_le (a i : Nat) : bit a i < 2 := by unfold bit; exact Nat.mod_lt _ (by decide)
theorem bit_xor (a b i : Nat) : bit (a ^^^ b) i = (bit a i + bit b i) % 2 := by
  rw [bit_eq, bit_eq, bit_eq, Nat.testBit_xor]
  cases a.testBit i <;> cases b.testBit i <;> rfl
/-- The number of the first k bits. -/
def pcn (a : Nat) : Nat → Nat
  | 0 => 0
  | k + 1 => pcn a k + bit a k
theorem bit_half (a i : Nat) : bit (a / 2) i = bit a (i + 1) := by
  unfold bit
  rw [Nat.div_div_eq_div_mul, Nat.pow_succ, Nat.mul_comm]
theorem pcn_half (a : Nat) : ∀ k, pcn a (k + 1) = a % 2 + pcn (a / 2) k := by
  intro k
  induction k with
  | zero => simp [pcn, bit]
  | succ k ih =>
    rw [pcn, ih, pcn, bit_half, Nat.add_assoc]
theorem pc_pcn : ∀ (k a : Nat), a < 2 ^ k → pc a = pcn a k := by
  intro k
  induction k with
  | zero =>
    intro a h
    obtain rfl : a = 0 := by omega
    rw [pc_zero]; rfl
  | succ k ih =>
    intro a h
    rw [pc_rec, pcn_half, ih _ (by rw [Nat.pow_succ] at h; omega)]
theorem pcn_xor (a b : Nat) : ∀ k, pcn (a ^^^ b) k % 2 = (pcn a k + pcn b k) % 2 := by
  intro k
  induction k with
  | zero => rfl
  | succ k ih =>
    simp only [pcn]
    rw [bit_xor]
    omega
theorem pc_xor (a b : Nat) : pc (a ^^^ b) % 2 = (pc a + pc b) % 2 := by
  obtain ⟨k, ha, hb⟩ : ∃ k, a < 2 ^ k ∧ b < 2 ^ k :=
    ⟨a + b, Nat.lt_of_le_of_lt (Nat.le_add_right a b) Nat.lt_two_pow_self, Nat.lt_of_le_of_lt (Nat.le_add_left b a) Nat.lt_two_pow_self⟩
  rw [pc_pcn k _ (Nat.xor_lt_two_pow ha hb), pc_pcn k _ ha, pc_pcn k _ hb]
  exact pcn_xor a b k
theorem xor_div (a b k : Nat) : (a ^^^ b) / 2 ^ k = (a / 2 ^ k) ^^^ (b / 2 ^ k) := by
  rw [← Nat.shiftRight_eq_div_pow, ← Nat.shiftRight_eq_div_pow, ← Nat.shiftRight_eq_div_pow]
  exact Nat.shiftRight_xor_distrib
theorem swaps_left (a c b : Nat) : ∀ n, swaps (a ^^^ c) b n % 2 = (swaps a b n + swaps c b n) % 2 := by
  intro n
  induction n with
  | zero => rfl
  | succ n ih =>
    simp only [swaps]
    by_cases h : bit b n = 1
    · simp only [if_pos h]
      have := pc_xor (a / 2 ^ (n + 1)) (c / 2 ^ (n + 1))
      rw [xor_div]
      omega
    · simp only [if_neg h]; omega
theorem swaps_right (a b c : Nat) : ∀ n, swaps a (b ^^^ c) n % 2 = (swaps a b n + swaps a c n) % 2 := by
  intro n
  induction n with
  | zero => rfl
  | succ n ih =>
    simp only [swaps]
    rw [bit_xor]
    have h1 := bit_le b n
    have h2 := bit_le c n
    rcases (show bit b n = 0 ∨ bit b n = 1 by omega) with e1 | e1 <;> rcases (show bit c n = 0 ∨ bit c n = 1 by omega) with e2 | e2 <;> simp [e1, e2] <;> omega
/-- 1 or -1: the sign of a number of exchanges. -/
def sg (k : Nat) : Int := if k % 2 = 1 then -1 else 1
theorem sg_add (k l : Nat) : sg (k + l) = sg k * sg l := by
  unfold sg
  rcases Nat.mod_two_eq_zero_or_one k with h | h <;> rcases Nat.mod_two_eq_zero_or_one l with h' | h' <;> simp [Nat.add_mod, h, h']
theorem sg_congr {k l : Nat} (h : k % 2 = l % 2) : sg k = sg l := by unfold sg; rw [h]
/-- The product of the first i squares that both masks have, as an integer. -/
def comZ (sq : List Int) (a b : Nat) : Nat → Int
  | 0 => 1
  | i + 1 => comZ sq a b i * (if bit b i = 1 ∧ bit a i = 1 then sq.getD i 0 else 1)
theorem comZ_symm (sq : List Int) (a b : Nat) : ∀ i, comZ sq a b i = comZ sq b a i := by
  intro i
  induction i with
  | zero => rfl
  | succ i ih => simp only [comZ]; rw [ih]; congr 1; simp only [And.comm]
theorem comZ_cocycle (sq : List Int) (a b c : Nat) : ∀ i, comZ sq a b i * comZ sq (a ^^^ b) c i = comZ sq b c i * comZ sq a (b ^^^ c) i := by
  intro i
  induction i with
  | zero => rfl
  | succ i ih =>
    simp only [comZ]
    rw [bit_xor, bit_xor]
    have key : ∀ X Y Z W s t u v : Int, X * Y = Z * W → s * t = u * v → (X * s) * (Y * t) = (Z * u) * (W * v) := fun X Y Z W s t u v h1 h2 => by
      rw [show (X * s) * (Y * t) = (X * Y) * (s * t) by rw [Int.mul_assoc, Int.mul_left_comm s, ← Int.mul_assoc], h1, h2]
      rw [Int.mul_assoc, Int.mul_left_comm W, ← Int.mul_assoc]
    refine key _ _ _ _ _ _ _ _ ih ?_
    have h1 := bit_le a i
    have h2 := bit_le b i
    have h3 := bit_le c i
    rcases (show bit a i = 0 ∨ bit a i = 1 by omega) with e1 | e1 <;> rcases (show bit b i = 0 ∨ bit b i = 1 by omega) with e2 | e2 <;> rcases (show bit c i = 0 ∨ bit c i = 1 by omega) with e3 | e3 <;> simp [e1, e2, e3]
/-- The number by which the product of two blades is that of their different bits, as an integer. -/
def facZ (sq : List Int) (a b : Nat) : Int := sg (swaps a b sq.length) * comZ sq a b sq.length
theorem facZ_cocycle (sq : List Int) (a b c : Nat) : facZ sq a b * facZ sq (a ^^^ b) c = facZ sq b c * facZ sq a (b ^^^ c) := by
  unfold facZ
  have hs : sg (swaps a b sq.length) * sg (swaps (a ^^^ b) c sq.length) = sg (swaps b c sq.length) * sg (swaps a (b ^^^ c) sq.length) := by
    rw [← sg_add, ← sg_add]
    apply sg_congr
    have h1 := swaps_left a b c sq.length
    have h2 := swaps_right a b c sq.length
    omega
  have hc := comZ_cocycle sq a b c sq.length
  have key : ∀ X Y Z W s t u v : Int, X * Y = Z * W → s * t = u * v → (X * s) * (Y * t) = (Z * u) * (W * v) := fun X Y Z W s t u v h1 h2 => by
    rw [show (X * s) * (Y * t) = (X * Y) * (s * t) by rw [Int.mul_assoc, Int.mul_left_comm s, ← Int.mul_assoc], h1, h2]
    rw [Int.mul_assoc, Int.mul_left_comm W, ← Int.mul_assoc]
  exact key _ _ _ _ _ _ _ _ hs hc
theorem xor_self_left (a b : Nat) : a ^^^ (a ^^^ b) = b := by rw [← Nat.xor_assoc, Nat.xor_self, Nat.zero_xor]
theorem xor_self_right (a b : Nat) : (b ^^^ a) ^^^ a = b := by rw [Nat.xor_assoc, Nat.xor_self, Nat.xor_zero]
theorem sumTo_xor {n : Nat} (f : Nat → Int) {c : Nat} (hc : c < pw n) : sumTo (pw n) f = sumTo (pw n) fun a => f (a ^^^ c) := by
  have h : ∀ b, b < pw n → f b = sumTo (pw n) fun a => if a ^^^ c = b then f b else 0 := fun b hb => by
    rw [sumTo_one (b ^^^ c) (xor_lt hb hc) fun i _ hne => if_neg fun e => hne (by rw [← e, xor_self_right]), if_pos (xor_self_right c b)]
  rw [sumTo_congr h, sumTo_comm]
  refine sumTo_congr fun a ha => ?_
  rw [sumTo_one (a ^^^ c) (xor_lt ha hc) fun i _ hne => if_neg fun e => hne e.symm, if_pos rfl]
theorem sumTo_mul_right (n : Nat) (f : Nat → Int) (c : Int) : sumTo n (fun i => f i * c) = sumTo n f * c := by
  rw [Int.mul_comm, ← sumTo_mul]
  exact sumTo_congr fun i _ => Int.mul_comm _ _
/-- The product of multivectors over the integers, at place m. -/
def mulZ (sq : List Int) (x y : Nat → Int) (m : Nat) : Int := sumTo (pw sq.length) fun a => x a * y (a ^^^ m) * facZ sq a (a ^^^ m)
theorem mulZ_assoc (sq : List Int) (x y z : Nat → Int) {m : Nat} (hm : m < pw sq.length) : mulZ sq (mulZ sq x y) z m = mulZ sq x (mulZ sq y z) m := by
  unfold mulZ
  rw [sumTo_congr (g := fun c => sumTo (pw sq.length) fun a => x a * y (a ^^^ c) * facZ sq a (a ^^^ c) * (z (c ^^^ m) * facZ sq c (c ^^^ m))) fun c _ => by
    rw [sumTo_mul_right, Int.mul_assoc], sumTo_comm]
  refine sumTo_congr fun a ha => ?_
  rw [sumTo_xor _ ha, ← sumTo_mul, ← sumTo_mul_right]
  refine sumTo_congr fun b hb => ?_
  have e1 : a ^^^ (b ^^^ a) = b := by rw [Nat.xor_comm b, xor_self_left]
  have e2 : (b ^^^ a) ^^^ m = b ^^^ (a ^^^ m) := Nat.xor_assoc _ _ _
  rw [e1, e2]
  have h := facZ_cocycle sq a b (b ^^^ (a ^^^ m))
  rw [xor_self_left, Nat.xor_comm a b] at h
  calc x a * y b * facZ sq a b * (z (b ^^^ (a ^^^ m)) * facZ sq (b ^^^ a) (b ^^^ (a ^^^ m)))
      = x a * y b * z (b ^^^ (a ^^^ m)) * (facZ sq a b * facZ sq (b ^^^ a) (b ^^^ (a ^^^ m))) := by
        rw [Int.mul_assoc (x a * y b), Int.mul_left_comm (facZ sq a b), ← Int.mul_assoc]
    _ = x a * y b * z (b ^^^ (a ^^^ m)) * (facZ sq b (b ^^^ (a ^^^ m)) * facZ sq a (a ^^^ m)) := by rw [h]
    _ = _ := by
        rw [← Int.mul_assoc, Int.mul_assoc (x a), Int.mul_assoc (x a)]
theorem mulZ_cg (p : Int) (sq : List Int) {x x' y y' : Nat → Int} (hx : ∀ a, a < pw sq.length → x a % p = x' a % p) (hy : ∀ a, a < pw sq.length → y a % p = y' a % p) {m : Nat} (hm : m < pw sq.length) : mulZ sq x y m % p = mulZ sq x' y' m % p := by
  unfold mulZ
  refine sumTo_mod p fun a ha => ?_
  have h1 := hx a ha
  have h2 := hy _ (xor_lt ha hm)
  rw [Int.mul_emod, Int.mul_emod (x a), h1, h2, ← Int.mul_emod (x' a), ← Int.mul_emod]
structure Cl (p : Int) (sq : List Int) where
  l : List Int
  len : l.length = pw sq.length
  nums : NumsL p l
  pos : 0 < p
section
variable {p : Int} {sq : List Int}
/-- The number at a place. -/
def Cl.co (x : Cl p sq) (m : Nat) : Int := x.l.getD m 0
theorem Cl.ext {x y : Cl p sq} (h : x.l = y.l) : x = y := by
  cases x; cases y; cases h; rfl
theorem Cl.co_small (x : Cl p sq) (m : Nat) : 0 ≤ x.co m ∧ x.co m < p := x.nums.getD x.pos m
theorem Cl.co_mod (x : Cl p sq) (m : Nat) : x.co m % p = x.co m := Int.emod_eq_of_lt (x.co_small m).1 (x.co_small m).2
theorem Cl.same {x y : Cl p sq} (h : ∀ m, m < pw sq.length → x.co m % p = y.co m % p) : x = y := by
  refine Cl.ext (list_ext_getD 0 (by rw [x.len, y.len]) fun m hm => ?_)
  have := h m (by rw [← x.len]; exact hm)
  rwa [x.co_mod, y.co_mod] at this
/-- The multivector with these numbers. -/
def Cl.of (hp : 0 < p) (f : Nat → Int) : Cl p sq := ⟨tab (pw sq.length) fun m => f m % p, tab_len _ _, NumsL.tab fun _ _ => ⟨Int.emod_nonneg _ (by omega), Int.emod_lt_of_pos _ hp⟩, hp⟩
theorem Cl.of_co (hp : 0 < p) (f : Nat → Int) {m : Nat} (hm : m < pw sq.length) : (Cl.of hp f : Cl p sq).co m = f m % p := tab_getD hm 0
theorem Cl.of_cg (hp : 0 < p) (f : Nat → Int) {m : Nat} (hm : m < pw sq.length) : (Cl.of hp f : Cl p sq).co m % p = f m % p := by rw [Cl.of_co hp f hm, Int.emod_emod_of_dvd _ (Int.dvd_refl p)]
instance : Mul (Cl p sq) := ⟨fun x y => Cl.of x.pos (mulZ sq x.co y.co)⟩
instance : Add (Cl p sq) := ⟨fun x y => Cl.of x.pos fun m => x.co m + y.co m⟩
instance : Neg (Cl p sq) := ⟨fun x => Cl.of x.pos fun m => -(x.co m)⟩
instance : HMul Int (Cl p sq) (Cl p sq) := ⟨fun k x => Cl.of x.pos fun m => k * x.co m⟩
theorem Cl.mul_co (x y : Cl p sq) {m : Nat} (hm : m < pw sq.length) : (x * y).co m % p = mulZ sq x.co y.co m % p := Cl.of_cg _ _ hm
theorem Cl.add_co (x y : Cl p sq) {m : Nat} (hm : m < pw sq.length) : (x + y).co m % p = (x.co m + y.co m) % p := Cl.of_cg _ _ hm
theorem Cl.mul_assoc (x y z : Cl p sq) : x * y * z = x * (y * z) := Cl.same fun m hm => by
  rw [Cl.mul_co _ _ hm, Cl.mul_co _ _ hm, mulZ_cg p sq (fun a ha => Cl.mul_co x y ha) (fun _ _ => rfl) hm, mulZ_assoc sq _ _ _ hm]
  exact mulZ_cg p sq (fun _ _ => rfl) (fun a ha => (Cl.mul_co y z ha).symm) hm
theorem Cl.add_mul (x y z : Cl p sq) : (x + y) * z = x * z + y * z := Cl.same fun m hm => by
  rw [Cl.mul_co _ _ hm, mulZ_cg p sq (fun a ha => Cl.add_co x y ha) (fun _ _ => rfl) hm, Cl.add_co _ _ hm, Int.add_emod, Cl.mul_co _ _ hm, Cl.mul_co _ _ hm, ← Int.add_emod]
  unfold mulZ
  rw [← sumTo_add]
  congr 1
  exact sumTo_congr fun a _ => by rw [Int.add_mul, Int.add_mul]
theorem Cl.mul_add (x y z : Cl p sq) : x * (y + z) = x * y + x * z := Cl.same fun m hm => by
  rw [Cl.mul_co _ _ hm, mulZ_cg p sq (fun _ _ => rfl) (fun a ha => Cl.add_co y z ha) hm, Cl.add_co _ _ hm, Int.add_emod, Cl.mul_co _ _ hm, Cl.mul_co _ _ hm, ← Int.add_emod]
  unfold mulZ
  rw [← sumTo_add]
  congr 1
  exact sumTo_congr fun a _ => by rw [Int.mul_add, Int.add_mul]
theorem Cl.add_comm (x y : Cl p sq) : x + y = y + x := Cl.same fun m hm => by rw [Cl.add_co _ _ hm, Cl.add_co _ _ hm, Int.add_comm]
theorem Cl.add_assoc (x y z : Cl p sq) : x + y + z = x + (y + z) := Cl.same fun m hm => by
  rw [Cl.add_co _ _ hm, Cl.add_co _ _ hm, Int.add_emod, Cl.add_co _ _ hm, ← Int.add_emod, Int.add_emod (x.co m), Cl.add_co _ _ hm, ← Int.add_emod, Int.add_assoc]
/-- The numbers of a list, and no more than there are places. -/
def Cl.zero (hp : 0 < p) : Cl p sq := Cl.of hp fun _ => 0
theorem Cl.add_zero (x : Cl p sq) (hp : 0 < p) : x + Cl.zero hp = x := Cl.same fun m hm => by
  rw [Cl.add_co _ _ hm, Int.add_emod]; unfold Cl.zero; rw [Cl.of_cg _ _ hm, ← Int.add_emod, Int.add_zero]
/-- The multivector 1. -/
def Cl.one (hp : 0 < p) : Cl p sq := Cl.of hp fun m => if m = 0 then 1 else 0
theorem Cl.one_co (hp : 0 < p) {m : Nat} (hm : m < pw sq.length) : (Cl.one hp : Cl p sq).co m % p = (if m = 0 then 1 else 0) % p := Cl.of_cg _ _ hm
theorem swaps_zero_right (a : Nat) : ∀ n, swaps a 0 n = 0 := by
  intro n
  induction n with
  | zero => rfl
  | succ n ih => simp [swaps, ih, bit_zero]
theorem swaps_zero_left (b : Nat) : ∀ n, swaps 0 b n = 0 := by
  intro n
  induction n with
  | zero => rfl
  | succ n ih => simp [swaps, ih, pc_zero]
theorem comZ_zero_left (sq : List Int) (b : Nat) : ∀ n, comZ sq 0 b n = 1 := by
  intro n
  induction n with
  | zero => rfl
  | succ n ih => simp [comZ, ih, bit_zero]
theorem facZ_zero_left (sq : List Int) (b : Nat) : facZ sq 0 b = 1 := by unfold facZ; rw [swaps_zero_left, comZ_zero_left]; rfl
theorem facZ_zero_right (sq : List Int) (a : Nat) : facZ sq a 0 = 1 := by unfold facZ; rw [swaps_zero_right, comZ_symm, comZ_zero_left]; rfl
theorem mulZ_one_left (sq : List Int) (x : Nat → Int) (m : Nat) : mulZ sq (fun m => if m = 0 then 1 else 0) x m = x m := by
  unfold mulZ
  rw [sumTo_one 0 (pw_pos _) fun i _ h => by dsimp only; rw [if_neg h, Int.zero_mul, Int.zero_mul]]
  dsimp only
  rw [if_pos rfl, Nat.zero_xor, facZ_zero_left, Int.one_mul, Int.mul_one]
theorem mulZ_one_right (sq : List Int) (x : Nat → Int) {m : Nat} (hm : m < pw sq.length) : mulZ sq x (fun m => if m = 0 then 1 else 0) m = x m := by
  unfold mulZ
  rw [sumTo_one m hm fun i _ h => by dsimp only; rw [if_neg (fun e => h (by have := (xor_eq_iff i m 0).1 e; rw [this, Nat.xor_zero])), Int.mul_zero, Int.zero_mul]]
  dsimp only
  rw [Nat.xor_self, if_pos rfl, facZ_zero_right, Int.mul_one, Int.mul_one]
theorem Cl.one_mul (hp : 0 < p) (x : Cl p sq) : Cl.one hp * x = x := Cl.same fun m hm => by
  rw [Cl.mul_co _ _ hm, mulZ_cg p sq (fun a ha => Cl.one_co hp ha) (fun _ _ => rfl) hm, mulZ_one_left]
theorem Cl.mul_one (hp : 0 < p) (x : Cl p sq) : x * Cl.one hp = x := Cl.same fun m hm => by
  rw [Cl.mul_co _ _ hm, mulZ_cg p sq (fun _ _ => rfl) (fun a ha => Cl.one_co hp ha) hm, mulZ_one_right sq _ hm]
end
end Go.Proofs.YticofgmmjecleaaGreatDoor
namespace Go.Proofs.YticofgmmjecleaaGreatDoor
open Go Go.RowKit
/-- The values of a list of texts. -/
def txts (ts : List By) : List Value := ts.map fun t => .string ⟨t.toArray⟩
theorem txts_length (ts : List By) : (txts ts).length = ts.length := by simp [txts]
theorem txts_get (ts : List By) (k : Nat) (h : k < ts.length) : (txts ts)[k]? = some (.string ⟨ts[k].toArray⟩) := by simp [txts, h]
end Go.Proofs.YticofgmmjecleaaGreatDoor
namespace Go.Proofs.YticofgmmjecleaaGreatDoor
open Go Go.RowKit
theorem parF_step (p : Int) (t : By) (k i : Nat) : parF p t (k + 1) i = if txtN p (i : Int) = t then some (i : Int) else parF p t k (i + 1) := rfl
theorem parF_from (p : Int) (t : By) : ∀ d i, (∀ j : Nat, j < i → txtN p (j : Int) ≠ t) → i + d = p.toNat → parN p t = parF p t d i
  | d, 0, _, hd => by rw [Nat.zero_add] at hd; subst hd; rfl
  | d, i + 1, h, hd => by
    rw [parF_from p t (d + 1) i (fun j hj => h j (by omega)) (by omega), parF_step, if_neg (h i (by omega))]
set_option maxHeartbeats 1600000 in
set_option maxRecDepth 8000 in
theorem parse_any (p : Int) (t : By) (w : World) (hp : 2 ≤ p) (hp2 : p ≤ 13) (he : Env w) :
    Calls Tryz.prog 68 #[.int .i64 p, .string ⟨t.toArray⟩] w fun e w' => e = .returned (.tuple #[.int .i64 ((parN p t).getD 0), .bool (parN p t).isSome]) ∧ Below w.heap.size w w' := by
  obtain ⟨R, hR⟩ : ∃ R, R = parN p t := ⟨_, rfl⟩
  have HR := Lib.hid hR
  rw [← hR]
  clear hR
  obtain ⟨q, rfl⟩ : ∃ q : Nat, p = q := ⟨p.toNat, by omega⟩
  go_enter Tryz.func68, Tryz.ntmps68
  go_wp2
  go_loopw [8] (fun i wr => ∃ k : Nat, k ≤ q ∧ i = .int .i64 k ∧ (∀ j : Nat, j < k → txtN q (j : Int) ≠ t) ∧ Below w.heap.size w wr) (fun i _ => q - (intOf i).toNat)
  case atStart => exact ⟨0, by omega, rfl, fun j hj => absurd hj (by omega), Below.refl _ _⟩
  case round =>
    obtain ⟨k, hk, rfl, hnot, hM⟩ := hrel
    have HT := Lib.hid hnot
    clear hnot
    by_cases hlt : k < q
    · have htx := text_any (q : Int) (k : Int) wr (by omega) (by omega) (by omega) (by omega) (he.below hM (Nat.le_refl _))
      have hd : parF q t (q - k) k = if txtN q (k : Int) = t then some (k : Int) else parF q t (q - (k + 1)) (k + 1) := by
        rw [show q - k = (q - (k + 1)) + 1 by omega]; rfl
      by_cases he2 : txtN q (k : Int) = t
      · have hm : parN q t = some (k : Int) := by rw [parF_from q t (q - k) k HT.out (by omega), hd, if_pos he2]
        rw [he2] at htx
        have HM := Lib.hid hm
        clear hd he2 hm
        go_wp2_with fail
        refine htx.mono ?_
        rintro e w2 ⟨rfl, hb2⟩
        go_wp2
        go_ret2
        exact ⟨by rw [HR.out, HM.out]; rfl, hM.trans (hb2.mono hM.size)⟩
      · obtain ⟨z, hz⟩ : ∃ z, z = txtN q (k : Int) := ⟨_, rfl⟩
        rw [← hz] at htx
        have hne : (z == t) = false := by rw [hz]; simpa using he2
        have HT2 := Lib.hid (p := ∀ j : Nat, j < k + 1 → txtN q (j : Int) ≠ t) (fun j hj => by
          by_cases e : j = k
          · subst e; exact he2
          · exact HT.out j (by omega))
        clear hd he2 hz
        go_wp2_with fail
        refine htx.mono ?_
        rintro e w2 ⟨rfl, hb2⟩
        go_wp2
        go_roundw
        case rel => exact ⟨k + 1, by omega, by go_num, HT2.out, hM.trans (hb2.mono hM.size)⟩
        case measure => simp [intOf]; omega
    · obtain rfl : k = q := by omega
      have hm : parN k t = none := by rw [parF_from k t 0 k HT.out (by omega)]; rfl
      have HM := Lib.hid hm
      clear hm
      go_wp2
      go_ret2
      exact ⟨by rw [HR.out, HM.out]; rfl, hM⟩
end Go.Proofs.YticofgmmjecleaaGreatDoor

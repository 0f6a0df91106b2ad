/-
  Unit matrices; powers of 2; the multivector 0.
-/
import Derived.Test.YtommppijnccomaaGreatMat
import Derived.Test.YtommppijnccomaaGreatLeaf
namespace Go.Proofs.YtommppijnccomaaGreat
open Go.RowKit

/-- The row i of the unit matrix with n rows. -/
def unitRow (n i : Nat) : List Int := (List.replicate n 0).set i 1
def unitM (n : Nat) : List (List Int) := (List.range n).map (unitRow n)
theorem unitM_len (n : Nat) : (unitM n).length = n := by simp [unitM]
theorem unitM_get (n k : Nat) (h : k < (unitM n).length) : (unitM n)[k] = unitRow n k := by simp [unitM]
theorem unitRow_len (n k : Nat) : (unitRow n k).length = n := by simp [unitRow]
theorem unitM_take (n k : Nat) (h : k < n) : (unitM n).take (k + 1) = (unitM n).take k ++ [unitRow n k] := by
  rw [List.take_succ_eq_append_getElem (by rw [unitM_len]; exact h), unitM_get]

set_option maxHeartbeats 400000 in
theorem unit_any (n : Nat) (w : World) (hn : n ≤ 65536) :
    Calls Tryz.prog 108 #[.int .i64 n] w fun e w' => ∃ A c, e = .returned (.slice A n c) ∧ MkII w w' A n c (unitM n) := by
  have hmk := make_i (P := Tryz.prog) 22 2 Tryz.underlying22 info_i n (by omega)
  have hM0 : MkII w (w.alloc (.cells #[] 22)) (some ⟨w.heap.size, 0, none⟩) 0 0 [] := MkII.empty (Below.refl _ _)
  go_enter Tryz.func108, Tryz.ntmps108
  go_wp2
  go_loopw [3, 8] (fun out i wr => ∃ (k : Nat) (A : Option Addr) (c : Nat), k ≤ n ∧ i = .int .i64 k ∧ out = .slice A k c ∧ MkII w wr A k c ((unitM n).take k)) (fun _ i _ => n - (intOf i).toNat)
  case atStart => exact ⟨0, _, _, by omega, rfl, rfl, by simpa using hM0⟩
  case round =>
    obtain ⟨k, A, c, hk, rfl, rfl, hM⟩ := hrel
    clear hM0
    by_cases hlt : k < n
    · have hm1 := Mk.made (E := 2) (n := n) (z := .int .i64 0) (Below.refl wr.heap.size wr) (by simp only [maxLen]; omega)
      rw [ints_replicate] at hm1
      obtain ⟨u1, hc1⟩ := hm1.2.cellI hlt
      have hf1 := hm1.2.frozen_ k
      have hm2 := (hm1.set k (.int .i64 1)).1
      rw [ints_set, World.setCell_alloc_at _ _ _ _ _ rfl] at hm2
      have HM := Lib.hid hM
      have HM2 := Lib.hid hm2
      clear hM hm1 hm2
      go_wp2_with (at_builtin; refine wpList_appRow w wr _ rfl _ _ rfl A k c _ _ n n _ HM.out HM2.out (by omega) rfl ?_ ?_; (go_simp); intro A' c' w' hM')
      go_roundw
      case rel => exact ⟨k + 1, A', c', by omega, by go_num, rfl, by rw [unitM_take n k hlt]; exact hM'⟩
      case measure => simp [intOf]; omega
    · go_wp2
      go_ret
      obtain rfl : k = n := by omega
      rw [List.take_of_length_le (by rw [unitM_len]; omega)] at hM
      exact ⟨_, _, rfl, hM⟩

/-- 2 to the power of n. -/
def pw (n : Nat) : Nat := 2 ^ n
theorem pw_pos (n : Nat) : 1 ≤ pw n := Nat.two_pow_pos n
theorem pw_le {n k : Nat} (h : n ≤ k) : pw n ≤ pw k := Nat.pow_le_pow_right (by omega) h
theorem pw_succ (n : Nat) : pw (n + 1) = 2 * pw n := by unfold pw; rw [Nat.pow_succ]; omega
theorem pw_bound {n : Nat} (h : n ≤ 30) : pw n ≤ 1073741824 := Nat.le_trans (pw_le h) (by decide)
theorem wrap_pw (n : Nat) (h : n ≤ 30) : wrap64 (2 ^ n) = (pw n : Int) := by
  have hb := pw_bound h
  have e : (2 : Int) ^ n = (pw n : Int) := by unfold pw; simp
  rw [e]
  unfold wrap64; omega

set_option maxHeartbeats 400000 in
theorem nothing_any (P : Int) (A : Option Addr) (n c : Nat) (w : World) (hn : n ≤ 10) :
    Calls Tryz.prog 99 #[.agg #[.int .i64 P, .slice A n c]] w fun e w' => ∃ A' c', e = .returned (.slice A' (pw n) c') ∧ MkI w w' A' (pw n) c' (List.replicate (pw n) 0) := by
  have hp : pw n ≤ 1024 := pw_le hn
  have hmk := make_i (P := Tryz.prog) 22 2 Tryz.underlying22 info_i (pw n) (by omega)
  rw [← wrap_pw n (by omega)] at hmk
  go_enter Tryz.func99, Tryz.ntmps99
  go_wp2_with (go_at_call 77; refine (dim_any _ _ _ _ _).mono ?_; rintro e w1 ⟨rfl, hb1⟩)
  go_ret
  have hb2 := (((Below.refl _ _).alloc (Nat.le_refl _) _).trans (hb1.mono (by simp)))
  exact ⟨_, _, rfl, by have := Mk.made (E := 2) (n := pw n) (z := .int .i64 0) hb2 (by simp only [maxLen]; omega); rwa [ints_replicate] at this⟩

end Go.Proofs.YtommppijnccomaaGreat

/-
  Blades and vectors: the specification's functions.
-/
import Derived.Test.YtommppijnccomaaGreatMul
import Derived.Test.YtommppijnccomaaGreatProd2
import Derived.Test.YtommppijnccomaaGreatPred
namespace Go.Proofs.YtommppijnccomaaGreat
open Go.RowKit

set_option maxHeartbeats 400000 in
theorem l04Zero_any (P : Int) (A : Option Addr) (n c : Nat) (w : World) (hn : n ≤ 10) :
    Calls Tryz.prog 89 #[.agg #[.int .i64 P, .slice A n c]] w fun e w' => ∃ A' c', e = .returned (.slice A' (pw n) c') ∧ MkI w w' A' (pw n) c' (List.replicate (pw n) 0) := by
  have hp : pw n ≤ 1024 := pw_le hn
  have hmk := make_i (P := Tryz.prog) 22 2 Tryz.underlying22 info_i (pw n) (by omega)
  go_enter Tryz.func89, Tryz.ntmps89
  go_wp2_with (go_at_call 124; refine (l04Size_any _ _ _ _ _ (by omega)).mono ?_; rintro e w1 ⟨rfl, hb1⟩)
  go_ret
  have hb2 := (((Below.refl _ _).alloc (Nat.le_refl _) _).trans (hb1.mono (by simp)))
  exact ⟨_, _, rfl, by have := Mk.made (E := 2) (n := pw n) (z := .int .i64 0) hb2 (by simp only [maxLen]; omega); rwa [ints_replicate] at this⟩

set_option maxHeartbeats 400000 in
theorem l04One_any (P : Int) (A : Option Addr) (n c : Nat) (w : World) (hn : n ≤ 10) :
    Calls Tryz.prog 136 #[.agg #[.int .i64 P, .slice A n c]] w fun e w' => ∃ A' c', e = .returned (.slice A' (pw n) c') ∧ MkI w w' A' (pw n) c' (bladeL n 0) := by
  have hB0 : Below w.heap.size w (w.alloc (.cells #[.int .i64 P, .slice A n c] 28)) := (Below.refl _ w).alloc (Nat.le_refl _) _
  have hm := pw_pos n
  go_enter Tryz.func136, Tryz.ntmps136
  go_wp2_with (go_at_call 89; refine (l04Zero_any _ _ _ _ _ hn).mono ?_; rintro e w1 ⟨G, c1, rfl, hM1⟩; have hM := hM1.after hB0; rcases hM.2.form with ⟨_, h0⟩ | ⟨g, rfl, hg, _⟩; (omega); obtain ⟨u1, hc1⟩ := hM.2.cellI hm; have hf1 := hM.2.frozen_ 0; have hset := (hM.set 0 (.int .i64 1)).1; rw [ints_set] at hset; have HS := Lib.hid hset; clear hM hM1 hset)
  go_ret
  exact ⟨_, _, rfl, HS.out⟩

set_option maxHeartbeats 800000 in
theorem l04Vector_any (P : Int) (A : Option Addr) (n c : Nat) (X : Option Addr) (cx : Nat) (v : List Int) (w : World) (hn : n ≤ 10) (hx : Rd w X n (ints v)) :
    Calls Tryz.prog 51 #[.agg #[.int .i64 P, .slice A n c], .slice X n cx] w fun e w' => ∃ A' c', e = .returned (.slice A' (pw n) c') ∧ MkI w w' A' (pw n) c' (vecTo n v n) := by
  have hB0 : Below w.heap.size w (w.alloc (.cells #[.int .i64 P, .slice A n c] 28)) := (Below.refl _ w).alloc (Nat.le_refl _) _
  go_enter Tryz.func51, Tryz.ntmps51
  go_wp2_with (go_at_call 89; refine (l04Zero_any _ _ _ _ _ hn).mono ?_; rintro e w1 ⟨G, c1, rfl, hM1⟩)
  have hM := hM1.after hB0
  have hpos := pw_pos n
  rcases hM.2.form with ⟨_, h0⟩ | ⟨g, rfl, hg, _⟩
  · omega
  clear hM1 hB0 hg hpos
  go_loopw [6] (fun i wr => ∃ k : Nat, k ≤ n ∧ i = .int .i64 k ∧ MkI w wr (some ⟨g, 0, none⟩) (pw n) c1 (vecTo n v k)) (fun i _ => n - (intOf i).toNat)
  case atStart => exact ⟨0, by omega, rfl, by simpa [vecTo] using hM⟩
  case round =>
    obtain ⟨k, hk, rfl, hM2⟩ := hrel
    clear hM
    by_cases hlt : k < n
    · obtain ⟨gx, ox, rfl, hxk, hcx⟩ := (hx.below hM2.b).int hlt
      have hvn : v.getD k 0 = v[k] := by rw [List.getD_eq_getElem?_getD, List.getElem?_eq_getElem hxk]; rfl
      have h2 := two_lt hlt
      have hset := (hM2.set (2 ^ k) (.int .i64 v[k])).1
      rw [ints_set, ← hvn, ← vecTo_succ, hvn] at hset
      have hw : wrap64 (2 ^ k) = ((2 ^ k : Nat) : Int) := wrap_pw k (by omega)
      obtain ⟨q, hq⟩ : ∃ q : Nat, q = 2 ^ k := ⟨_, rfl⟩
      rw [← hq] at h2 hset hw
      obtain ⟨hoc, hof⟩ := mkI_at hM2 h2
      have HS := Lib.hid hset
      clear hq
      clear hvn hset hM2
      go_wp2
      go_roundw
      case rel => exact ⟨k + 1, by omega, by go_num, HS.out⟩
      case measure => simp [intOf]; omega
    · obtain rfl : k = n := by omega
      go_wp2
      go_ret
      exact ⟨_, _, rfl, hM2⟩

end Go.Proofs.YtommppijnccomaaGreat

/-
  The vector part of a multivector.
-/
import Derived.Test.YtommppijnccomaaGreatMul
namespace Go.Proofs.YtommppijnccomaaGreat
open Go.RowKit

/-- The places 1, 2, 4, .. of a list. -/
def partL (n : Nat) (x : List Int) : List Int := (List.range n).map fun i => x.getD (2 ^ i) 0
theorem partL_len (n : Nat) (x : List Int) : (partL n x).length = n := by simp [partL]
theorem partL_nums {p : Int} (hp : 0 < p) (n : Nat) (x : List Int) (h : NumsL p x) : NumsL p (partL n x) := fun y hy => by
  obtain ⟨i, _, rfl⟩ := List.mem_map.1 hy
  exact h.getD hp _
theorem partL_succ (k : Nat) (x : List Int) : partL (k + 1) x = partL k x ++ [x.getD (2 ^ k) 0] := by simp [partL, List.range_succ]

set_option maxHeartbeats 800000 in
theorem vectorPart_any (P : Int) (A : Option Addr) (n c : Nat) (X : Option Addr) (cx : Nat) (x : List Int) (w : World) (hn : n ≤ 10) (hx : Rd w X (pw n) (ints x)) :
    Calls Tryz.prog 115 #[.agg #[.int .i64 P, .slice A n c], .slice X (pw n) cx] w fun e w' => ∃ A' c', e = .returned (.slice A' n c') ∧ MkI w w' A' n c' (partL n x) := by
  have hB0 : Below w.heap.size w (w.alloc (.cells #[.int .i64 P, .slice A n c] 28)) := (Below.refl _ w).alloc (Nat.le_refl _) _
  have hM0 := Mk.lit (E := 2) hB0 #[] (by simp)
  go_enter Tryz.func115, Tryz.ntmps115
  go_wp2_with (go_at_call 77; refine (dim_any _ _ _ _ _).mono ?_; rintro e w1 ⟨rfl, hb1⟩)
  have hM : MkI w w1 (some ⟨w.heap.size + 1, 0, none⟩) 0 0 [] := by have := hM0.below hb1; simpa [MkI, ints] using this
  clear hM0 hb1 hB0
  go_loopw [5, 6, 10] (fun out _ i wr => ∃ (k : Nat) (A' : Option Addr) (c' : Nat), k ≤ n ∧ i = .int .i64 k ∧ out = .slice A' k c' ∧ MkI w wr A' k c' (partL k x)) (fun _ _ i _ => n - (intOf i).toNat)
  case atStart => exact ⟨0, _, _, by omega, rfl, rfl, by simpa [partL] using hM⟩
  case round =>
    obtain ⟨k, A', c', hk, rfl, rfl, hM2⟩ := hrel
    clear hM
    by_cases hlt : k < n
    · have h2 := two_lt hlt
      have hw : wrap64 (2 ^ k) = ((2 ^ k : Nat) : Int) := wrap_pw k (by omega)
      obtain ⟨q, hq⟩ : ∃ q : Nat, q = 2 ^ k := ⟨_, rfl⟩
      rw [← hq] at h2 hw
      obtain ⟨gx, ox, rfl, hxk, hcx⟩ := (hx.below hM2.b).int h2
      have HV : Hid (partL (k + 1) x = partL k x ++ [x[q]]) := Lib.hid (by rw [partL_succ, ← hq, List.getD_eq_getElem?_getD, List.getElem?_eq_getElem hxk]; rfl)
      have HM := Lib.hid hM2
      clear hq hM2
      go_wp2_with (at_builtin; refine wpList_app1 w _ 22 2 _ _ Tryz.underlying22 info_i rfl (by omega) rfl _ _ rfl A' k c' _ _ HM.out (by omega) rfl rfl rfl ?_; intro A2 c2 w2 hM3 _ _)
      go_roundw
      case rel => exact ⟨k + 1, A2, c2, by omega, by go_num, rfl, by rw [HV.out]; simpa [MkI, ints] using hM3⟩
      case measure => simp [intOf]; omega
    · obtain rfl : k = n := by omega
      go_wp2
      go_ret
      exact ⟨_, _, rfl, hM2⟩

set_option maxHeartbeats 800000 in
theorem l04List_any (P : Int) (A : Option Addr) (n c : Nat) (X : Option Addr) (cx : Nat) (x : List Int) (w : World) (hn : n ≤ 10) (hx : Rd w X (pw n) (ints x)) :
    Calls Tryz.prog 113 #[.agg #[.int .i64 P, .slice A n c], .slice X (pw n) cx] w fun e w' => ∃ A' c', e = .returned (.slice A' n c') ∧ MkI w w' A' n c' (partL n x) := by
  have hB0 : Below w.heap.size w (w.alloc (.cells #[.int .i64 P, .slice A n c] 28)) := (Below.refl _ w).alloc (Nat.le_refl _) _
  have hk0 : Blk (w.alloc (.cells #[.int .i64 P, .slice A n c] 28)) w.heap.size 28 #[.int .i64 P, .slice A n c] := Blk.new w _ _
  have hM0 := Mk.lit (E := 2) hB0 #[] (by simp)
  have hM : MkI w ((w.alloc (.cells #[.int .i64 P, .slice A n c] 28)).alloc (.cells #[] 2)) (some ⟨w.heap.size + 1, 0, none⟩) 0 0 [] := by simpa [MkI, ints] using hM0
  have hk1 := hk0.alloc (.cells #[] 2)
  go_enter Tryz.func113, Tryz.ntmps113
  go_wp2
  clear hM0 hB0 hk0
  obtain ⟨w1, hw1⟩ : ∃ W, W = (w.alloc (.cells #[.int .i64 P, .slice A n c] 28)).alloc (.cells #[] 2) := ⟨_, rfl⟩
  rw [← hw1] at hM hk1 ⊢
  clear hw1
  go_loopw [5, 6] (fun out i wr => ∃ (k : Nat) (A' : Option Addr) (c' : Nat), k ≤ n ∧ i = .int .i64 k ∧ out = .slice A' k c' ∧ MkI w wr A' k c' (partL k x) ∧ Blk wr w.heap.size 28 #[.int .i64 P, .slice A n c]) (fun _ i _ => n - (intOf i).toNat)
  case atStart => exact ⟨0, _, _, by omega, rfl, rfl, by simpa [partL] using hM, hk1⟩
  case round =>
    obtain ⟨k, A', c', hk, rfl, rfl, hM2, hk2⟩ := hrel
    clear hM hk1
    obtain ⟨kc0, kc1⟩ := hk2.two
    by_cases hlt : k < n
    · have h2 := two_lt hlt
      have hw : wrap64 (2 ^ k) = ((2 ^ k : Nat) : Int) := wrap_pw k (by omega)
      obtain ⟨q, hq⟩ : ∃ q : Nat, q = 2 ^ k := ⟨_, rfl⟩
      rw [← hq] at h2 hw
      obtain ⟨gx, ox, rfl, hxk, hcx⟩ := (hx.below hM2.b).int h2
      have HV : Hid (partL (k + 1) x = partL k x ++ [x[q]]) := Lib.hid (by rw [partL_succ, ← hq, List.getD_eq_getElem?_getD, List.getElem?_eq_getElem hxk]; rfl)
      have HM := Lib.hid hM2
      have HNE := Lib.hid (Own.ne_blk hM2.2 hk2 (by decide))
      clear hq hM2
      go_wp2_with (at_builtin; refine wpList_app1 w _ 22 2 _ _ Tryz.underlying22 info_i rfl (by omega) rfl _ _ rfl A' k c' _ _ HM.out (by omega) rfl rfl rfl ?_; intro A2 c2 w2 hM3 hgr _)
      have hk3 := hk2.grown hgr HNE.out
      go_roundw
      case rel => exact ⟨k + 1, A2, c2, by omega, by go_num, rfl, by rw [HV.out]; simpa [MkI, ints] using hM3, hk3⟩
      case measure => simp [intOf]; omega
    · obtain rfl : k = n := by omega
      go_wp2
      go_ret
      exact ⟨_, _, rfl, hM2⟩

end Go.Proofs.YtommppijnccomaaGreat

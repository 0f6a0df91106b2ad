/-
  The law's own helpers over lists of numbers: equality.
-/
import Derived.Test.YtommppijnccomaaGreatMem
namespace Go.Proofs.YtommppijnccomaaGreat
open Go.RowKit

theorem take_succ_eq (xs ys : List Int) (k : Nat) (hx : k < xs.length) (hy : k < ys.length) (h : xs.take k = ys.take k) (he : xs[k] = ys[k]) :
    xs.take (k + 1) = ys.take (k + 1) := by
  rw [List.take_succ_eq_append_getElem hx, List.take_succ_eq_append_getElem hy, h, he]
theorem ne_of_get (xs ys : List Int) (k : Nat) (hx : k < xs.length) (hy : k < ys.length) (he : (xs[k] != ys[k]) = true) : decide (xs = ys) = false := by
  rw [decide_eq_false_iff_not]
  rintro rfl
  simp at he

set_option maxHeartbeats 400000 in
theorem eqInt64S_any (A B : Option Addr) (n m c d : Nat) (xs ys : List Int) (w : World) (hn : n ≤ 1099511627776) (hm : m ≤ 1099511627776)
    (ha : Rd w A n (ints xs)) (hb : Rd w B m (ints ys)) :
    Calls Tryz.prog 20 #[.slice A n c, .slice B m d] w fun e w' => e = .returned (.bool (decide (xs = ys))) ∧ ∃ j, w' = w.drewN j := by
  have hxl : xs.length = n := by have := ha.1; rwa [ints_length] at this
  have hyl : ys.length = m := by have := hb.1; rwa [ints_length] at this
  by_cases hnm : n = m
  · subst hnm
    have Hx := Lib.hid hxl; clear hxl
    have Hy := Lib.hid hyl; clear hyl
    go_enter Tryz.func20, Tryz.ntmps20
    go_wp2
    go_loopw [5] (fun i wr => ∃ k j : Nat, k ≤ n ∧ i = .int .i64 k ∧ xs.take k = ys.take k ∧ wr = w.drewN j) (fun i _ => n - (intOf i).toNat)
    case atStart => exact ⟨0, 0, by omega, rfl, by simp, rfl⟩
    case round =>
      obtain ⟨k, j, hk, rfl, hxy, rfl⟩ := hrel
      have H := Lib.hid hxy; clear hxy
      by_cases hlt : k < n
      · obtain ⟨g, o, rfl, hx, hcx⟩ := ha.int hlt
        obtain ⟨g', o', rfl, hy, hcy⟩ := hb.int hlt
        clear ha hb
        go_wp2
        go_quiet (fail)
        go_wp2
        · go_ret
          exact ⟨ret_bool (ne_of_get xs ys k hx hy (by assumption)).symm, _, World.drewN_drewN _ _ _⟩
        · go_roundw
          case rel => exact ⟨k + 1, _, by omega, by go_num, take_succ_eq xs ys k hx hy H.out (by simpa using (by assumption : (xs[k] != ys[k]) = false)), rfl⟩
          case measure => simp [intOf]; omega
      · go_wp2
        go_ret
        refine ⟨ret_bool ?_, _, rfl⟩
        have := H.out
        rw [List.take_of_length_le (by rw [Hx.out]; omega), List.take_of_length_le (by rw [Hy.out]; omega)] at this
        rw [this]; simp
  · have hne : decide (xs = ys) = false := by
      rw [decide_eq_false_iff_not]; rintro rfl; omega
    have Hne := Lib.hid hne; clear hne hxl hyl
    have hb0 : ((n : Int) != (m : Int)) = true := by rw [bne_iff_ne]; omega
    go_enter Tryz.func20, Tryz.ntmps20
    go_wp2
    go_ret
    exact ⟨ret_bool Hne.out.symm, 0, rfl⟩
end Go.Proofs.YtommppijnccomaaGreat

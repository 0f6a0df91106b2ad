/-
  Bits of masks.
-/
import Derived.Test.YtommppijnccomaaGreatF1
namespace Go.Proofs.YtommppijnccomaaGreat
open Go.RowKit

set_option maxHeartbeats 1600000 in
theorem ones64_any (x : Nat) (w : World) (hx : x < 64) :
    Calls Tryz.prog 152 #[.int .u64 x] w fun e w' => e = .returned (.int .i64 (pc x)) ∧ w = w' := by
  go_enter Tryz.func152, Tryz.ntmps152
  go_wp2
  go_ret
  refine ⟨ret_int ?_, rfl⟩
  revert x
  decide +kernel

set_option maxHeartbeats 400000 in
theorem ones_any (x : Nat) (w : World) (hx : x < 64) :
    Calls Tryz.prog 145 #[.int .u64 x] w fun e w' => e = .returned (.int .i64 (pc x)) ∧ w = w' := by
  go_enter Tryz.func145, Tryz.ntmps145
  go_wp2_with (go_at_call 152; refine (ones64_any x _ hx).mono ?_; rintro e w' ⟨rfl, rfl⟩)
  go_ret
  exact ⟨rfl, rfl⟩

set_option maxHeartbeats 400000 in
theorem gradeOf_any (x : Nat) (w : World) (hx : x < 64) :
    Calls Tryz.prog 129 #[.int .i64 x] w fun e w' => e = .returned (.int .i64 (pc x)) ∧ w = w' := by
  go_enter Tryz.func129, Tryz.ntmps129
  go_wp2_with (go_at_call 145; refine (ones_any x _ hx).mono ?_; rintro e w' ⟨rfl, rfl⟩)
  go_ret
  exact ⟨rfl, rfl⟩

set_option maxHeartbeats 400000 in
theorem l04Grade_any (x : Nat) (w : World) (hx : x < 64) :
    Calls Tryz.prog 133 #[.int .i64 x] w fun e w' => e = .returned (.int .i64 (pc x)) ∧ w = w' := by
  have hp := pc_le 6 x (by omega)
  have HP := Lib.hid hp; clear hp
  go_enter Tryz.func133, Tryz.ntmps133
  go_wp2
  go_loop [0, 3] (fun m n => ∃ (y k : Nat), y < 64 ∧ k < 100 ∧ m = .int .i64 y ∧ n = .int .i64 k ∧ pc x = k + pc y) (fun m _ => (intOf m).toNat)
  case atStart => exact ⟨x, 0, hx, by omega, rfl, rfl, by omega⟩
  case round =>
    obtain ⟨y, k, hy, hk, rfl, rfl, hpc⟩ := hrel
    rw [pc_rec y] at hpc
    have H := Lib.hid hpc; clear hpc
    by_cases hlt : 0 < y
    · go_wp2
      go_round
      case rel => exact ⟨y / 2, k + y % 2, by omega, by have := H.out; have := HP.out; omega, by go_num, by go_num, by have := H.out; omega⟩
      case measure => simp [intOf]; omega
    · go_wp2
      go_ret
      obtain rfl : y = 0 := by omega
      have := H.out
      simp [pc] at this
      exact ⟨ret_int (by omega), rfl⟩

end Go.Proofs.YtommppijnccomaaGreat

/-
  Numbers modulo a prime: remainders, powers, inverses. The program's functions.
-/
import Derived.Test.YtommppijnccomaaGreatMat
import Derived.Test.YtommppijnccomaaGreatLeaf
import Derived.Test.YtommppijnccomaaGreatAlg
namespace Go.Proofs.YtommppijnccomaaGreat
open Go.RowKit

theorem num_math (p n : Int) (hp : 0 < p) (hp2 : p ≤ 13) : (wrap64 (n.tmod p + p)).tmod p = n % p := by
  have h1 : n.tmod p < p := Int.tmod_lt_of_pos n hp
  have h2 : -p < n.tmod p := by
    have := Int.lt_tmod_of_pos n hp
    omega
  have h3 : n % p = (n.tmod p + p) % p := by
    rw [Int.add_emod_right]
    have := Int.mul_tdiv_add_tmod n p
    conv => lhs; rw [← this]
    rw [Int.add_comm, Int.add_mul_emod_self_left]
  have h4 : wrap64 (n.tmod p + p) = n.tmod p + p := by unfold wrap64; omega
  rw [h3, h4, Int.tmod_eq_emod_of_nonneg (by omega)]

set_option maxHeartbeats 400000 in
theorem num_any (p n : Int) (w : World) (hp : 0 < p) (hp2 : p ≤ 13) (_h1 : -1000000000000 ≤ n) (_h2 : n ≤ 1000000000000) :
    Calls Tryz.prog 69 #[.int .i64 p, .int .i64 n] w fun e w' => e = .returned (.int .i64 (n % p)) ∧ w = w' := by
  go_enter Tryz.func69, Tryz.ntmps69
  go_wp2
  go_ret
  exact ⟨ret_int (num_math p n hp hp2), rfl⟩


theorem emod_small (a p : Int) (hp : 0 < p) : 0 ≤ a % p ∧ a % p < p := ⟨Int.emod_nonneg _ (by omega), Int.emod_lt_of_pos _ hp⟩
theorem mul_small {a b m n : Int} (ha : 0 ≤ a) (ha2 : a ≤ m) (hb : 0 ≤ b) (hb2 : b ≤ n) : 0 ≤ a * b ∧ a * b ≤ m * n :=
  ⟨Int.mul_nonneg ha hb, Int.mul_le_mul ha2 hb2 hb (by omega)⟩
theorem wrap_in (n : Int) (h1 : -1000000000000 ≤ n) (h2 : n ≤ 1000000000000) : wrap64 n = n := by unfold wrap64; omega

/-- The power a^k mod p, step by step. -/
def powF (p a : Int) : Nat → Int
  | 0 => 1
  | k + 1 => powF p a k * a % p
theorem powF_small (p a : Int) (hp : 2 ≤ p) : ∀ k, 0 ≤ powF p a k ∧ powF p a k < p := by
  intro k
  cases k with
  | zero => simp only [powF]; omega
  | succ k => exact emod_small _ _ (by omega)

theorem num_w (p n : Int) (w : World) (hp : 0 < p) (hp2 : p ≤ 13) (h1 : -1000000000000 ≤ n) (h2 : n ≤ 1000000000000) :
    Calls Tryz.prog 69 #[.int .i64 p, .int .i64 (wrap64 n)] w fun e w' => e = .returned (.int .i64 (n % p)) ∧ w = w' := by
  rw [wrap_in n h1 h2]; exact num_any p n w hp hp2 h1 h2

theorem num_iw (p n : Int) (w : World) (hp : 0 < p) (hp2 : p ≤ 13) (h1 : -1000000000000 ≤ n) (h2 : n ≤ 1000000000000) :
    Calls Tryz.prog 69 #[.int .i64 p, .int .i64 (IntKind.i64.wrap n)] w fun e w' => e = .returned (.int .i64 (n % p)) ∧ w = w' := by
  rw [IntWalk.i64_left, wrap_in n h1 h2]; exact num_any p n w hp hp2 h1 h2

set_option maxHeartbeats 800000 in
theorem pow_any (p a : Int) (k : Nat) (w : World) (hp : 2 ≤ p) (hp2 : p ≤ 13) (h1 : 0 ≤ a) (h2 : a < p) (hk : k ≤ 1000000) :
    Calls Tryz.prog 110 #[.int .i64 p, .int .i64 a, .int .i64 k] w fun e w' => e = .returned (.int .i64 (powF p a k)) ∧ w = w' := by
  go_enter Tryz.func110, Tryz.ntmps110
  go_wp2
  go_loop [7, 9] (fun o i => ∃ j : Nat, j ≤ k ∧ i = .int .i64 j ∧ o = .int .i64 (powF p a j)) (fun _ i => k - (intOf i).toNat)
  case atStart => exact ⟨0, by omega, rfl, rfl⟩
  case round =>
    obtain ⟨j, hj, rfl, rfl⟩ := hrel
    by_cases hlt : j < k
    · obtain ⟨b1, b2⟩ := powF_small p a hp j
      obtain ⟨m1, m2⟩ := mul_small b1 (show powF p a j ≤ 13 by omega) h1 (show a ≤ 13 by omega)
      go_wp2_with (go_at_call 69; refine (num_any _ (powF p a j * a) _ (by omega) hp2 (by omega) (by omega)).mono ?_; rintro e w' ⟨rfl, rfl⟩)
      go_round
      case rel => exact ⟨j + 1, by omega, by go_num, rfl⟩
      case measure => simp [intOf]; omega
    · go_wp2
      go_ret
      obtain rfl : j = k := by omega
      exact ⟨rfl, rfl⟩

/-- The inverse: a^(p-2). -/
def invF (p a : Int) : Int := powF p a (p - 2).toNat

set_option maxHeartbeats 400000 in
theorem inv_any (p a : Int) (w : World) (hp : 2 ≤ p) (hp2 : p ≤ 13) (h1 : 0 ≤ a) (h2 : a < p) :
    Calls Tryz.prog 70 #[.int .i64 p, .int .i64 a] w fun e w' => e = .returned (.int .i64 (invF p a)) ∧ w = w' := by
  have hk := pow_any p a (p - 2).toNat w hp hp2 h1 h2 (by omega)
  rw [show (((p - 2).toNat : Nat) : Int) = p - 2 by omega] at hk
  go_enter Tryz.func70, Tryz.ntmps70
  go_wp2_with (go_at_call 110; refine hk.mono ?_; rintro e w' ⟨rfl, rfl⟩)
  go_ret
  exact ⟨rfl, rfl⟩

/-- Is there a number r from i on, below p, whose square is a? the first. -/
def rootF (p a : Int) : Nat → Nat → Option Int
  | 0, _ => none
  | k + 1, i => if (i * i : Int) % p = a then some i else rootF p a k (i + 1)


/-- All numbers times k. -/
def scaleL (p : Int) (xs : List Int) (k : Int) : List Int := xs.map fun x => x * k % p
theorem scaleL_len (p : Int) (xs : List Int) (k : Int) : (scaleL p xs k).length = xs.length := by simp [scaleL]
theorem scaleL_take (p : Int) (xs : List Int) (k : Int) (i : Nat) (h : i < xs.length) : (scaleL p xs k).take (i + 1) = (scaleL p xs k).take i ++ [xs[i] * k % p] := by
  rw [List.take_succ_eq_append_getElem (by rw [scaleL_len]; exact h)]; simp [scaleL]

set_option maxHeartbeats 800000 in
theorem scaled_any (p : Int) (A : Option Addr) (n c : Nat) (f : Int) (xs : List Int) (w : World) (hp : 2 ≤ p) (hp2 : p ≤ 13) (hn : n ≤ 65536) (ha : Rd w A n (ints xs)) (hx : NumsL p xs) (hf1 : -1000 ≤ f) (hf2 : f ≤ 1000) :
    Calls Tryz.prog 84 #[.int .i64 p, .slice A n c, .int .i64 f] w fun e w' => ∃ A' c', e = .returned (.slice A' n c') ∧ MkI w w' A' n c' (scaleL p xs f) := by
  have hxl : xs.length = n := by have := ha.1; rwa [ints_length] at this
  have Hx := Lib.hid hxl; clear hxl
  have hM0 := Mk.lit (E := 2) (Below.refl w.heap.size w) #[] (by simp)
  go_enter Tryz.func84, Tryz.ntmps84
  go_wp2
  go_loopw [7, 9, 13] (fun out _ i wr => ∃ (k : Nat) (A' : Option Addr) (c' : Nat), k ≤ n ∧ i = .int .i64 k ∧ out = .slice A' k c' ∧ MkI w wr A' k c' ((scaleL p xs f).take k)) (fun _ _ i _ => n - (intOf i).toNat)
  case atStart => exact ⟨0, _, _, by omega, rfl, rfl, by simpa [MkI, ints] using hM0⟩
  case round =>
    obtain ⟨k, A', c', hk, rfl, rfl, hM⟩ := hrel
    clear hM0
    by_cases hlt : k < n
    · obtain ⟨g, o, rfl, hxk, hcx⟩ := ha.int hlt
      have hc0 : wr.cell? ⟨g, o + k, none⟩ = some (.int .i64 xs[k]) := (hM.1.cell (World.block_lt_of_cell? _ _ hcx)).trans hcx
      obtain ⟨x1, x2⟩ := hx _ (List.getElem_mem hxk)
      have HM := Lib.hid hM
      have HB : -13000 ≤ xs[k] * f ∧ xs[k] * f ≤ 13000 := by
        have := Int.mul_le_mul_of_nonneg_left hf2 x1
        have := Int.mul_le_mul_of_nonneg_left hf1 x1
        omega
      clear ha hM hcx
      go_wp2_with (first
        | (go_at_call 69; refine (num_any _ (xs[k] * f) _ (by omega) hp2 (by omega) (by omega)).mono ?_; rintro e w' ⟨rfl, rfl⟩)
        | (at_builtin; refine wpList_app1 w _ 22 2 _ _ Tryz.underlying22 info_i rfl (by omega) rfl _ _ rfl A' k c' _ _ HM.out (by omega) rfl rfl rfl ?_; intro A2 c2 w2 hM2 _ _))
      go_roundw
      case rel => exact ⟨k + 1, A2, c2, by omega, by go_num, rfl, by rw [scaleL_take p xs f k hxk]; simpa [MkI, ints] using hM2⟩
      case measure => simp [intOf]; omega
    · go_wp2
      go_ret
      obtain rfl : k = n := by omega
      rw [List.take_of_length_le (by rw [scaleL_len, Hx.out]; omega)] at hM
      exact ⟨_, _, rfl, hM⟩

end Go.Proofs.YtommppijnccomaaGreat

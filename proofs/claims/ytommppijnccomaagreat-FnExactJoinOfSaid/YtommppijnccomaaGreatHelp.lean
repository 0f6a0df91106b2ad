/-
  The law's own helpers over lists of numbers: copies, marks, sizes.
-/
import Derived.Test.YtommppijnccomaaGreatEq
namespace Go.Proofs.YtommppijnccomaaGreat
open Go.RowKit

theorem set_copy (xs : List Int) (n k : Nat) (hx : k < xs.length) (hn : xs.length = n) :
    (xs.take k ++ List.replicate (n - k) 0).set k xs[k] = xs.take (k + 1) ++ List.replicate (n - (k + 1)) 0 := by
  have hl : (xs.take k).length = k := by simp; omega
  rw [List.set_append, if_neg (by omega), hl, Nat.sub_self, List.take_succ_eq_append_getElem hx, List.append_assoc]
  congr 1
  obtain ⟨m, hm⟩ : ∃ m, n - k = m + 1 := ⟨n - k - 1, by omega⟩
  rw [hm, show n - (k + 1) = m by omega]
  simp [List.replicate_succ]

set_option maxHeartbeats 400000 in
theorem toInt64S_any (A : Option Addr) (n c : Nat) (xs : List Int) (w : World) (hn : n ≤ 1099511627776) (ha : Rd w A n (ints xs)) :
    Calls Tryz.prog 17 #[.slice A n c] w fun e w' => ∃ A' c', e = .returned (.slice A' n c') ∧ MkI w w' A' n c' xs := by
  have hxl : xs.length = n := by have := ha.1; rwa [ints_length] at this
  have Hx := Lib.hid hxl; clear hxl
  have hmk := make_i (P := Tryz.prog) 22 2 Tryz.underlying22 info_i n hn
  have hM0 := Mk.made (E := 2) (n := n) (z := .int .i64 0) (Below.refl w.heap.size w) (by simp only [maxLen]; omega)
  rw [ints_replicate] at hM0
  go_enter Tryz.func17, Tryz.ntmps17
  go_wp2
  clear hmk
  go_loopw [4] (fun i wr => ∃ k : Nat, k ≤ n ∧ i = .int .i64 k ∧ MkI w wr (some ⟨w.heap.size, 0, none⟩) n n (xs.take k ++ List.replicate (n - k) 0)) (fun i _ => n - (intOf i).toNat)
  case atStart => exact ⟨0, by omega, rfl, by simpa using hM0⟩
  case round =>
    obtain ⟨k, hk, rfl, hM⟩ := hrel
    clear hM0
    by_cases hlt : k < n
    · obtain ⟨g, o, rfl, hx, hcx⟩ := ha.int hlt
      have hc0 : wr.cell? ⟨g, o + k, none⟩ = some (.int .i64 xs[k]) := (hM.1.cell (World.block_lt_of_cell? _ _ hcx)).trans hcx
      obtain ⟨u1, hc1⟩ := hM.2.cellI hlt
      have hf1 := hM.2.frozen_ k
      have hset := (hM.set k (.int .i64 xs[k])).1
      rw [ints_set, set_copy xs n k hx Hx.out] at hset
      have HM := Lib.hid hset
      clear ha hM hset
      go_wp2
      go_roundw
      case rel => exact ⟨k + 1, by omega, by go_num, HM.out⟩
      case measure => simp [intOf]; omega
    · go_wp2
      go_ret
      obtain rfl : k = n := by omega
      rw [List.take_of_length_le (by rw [Hx.out]; omega)] at hM
      exact ⟨_, _, rfl, by simpa using hM⟩

/-- The numbers k, k + 1, .. of n places. -/
def marks (k : Int) (n : Nat) : List Int := (List.range n).map fun (i : Nat) => k + i
theorem marks_length (k : Int) (n : Nat) : (marks k n).length = n := by simp [marks]
theorem marks_get (k : Int) (n j : Nat) (h : j < n) : (marks k n)[j]'(by rw [marks_length]; exact h) = k + j := by simp [marks]
theorem set_mark (xs : List Int) (n j : Nat) (k : Int) (hj : j < n) (hn : xs.length = n) :
    (marks k j ++ xs.drop j).set j (k + j) = marks k (j + 1) ++ xs.drop (j + 1) := by
  rw [List.set_append, if_neg (by rw [marks_length]; omega), marks_length, Nat.sub_self]
  have : marks k (j + 1) = marks k j ++ [k + j] := by simp [marks, List.range_succ]
  rw [this, List.append_assoc]
  congr 1
  rw [List.drop_eq_getElem_cons (by omega)]
  rfl

set_option maxHeartbeats 400000 in
theorem markInt64S_any (B : Nat) (A : Option Addr) (n c : Nat) (xs : List Int) (k : Int) (w : World) (hn : n ≤ 1099511627776) (hk0 : 0 ≤ k) (hk : k ≤ 1099511627776) (ha : Own w B 2 A n c (ints xs)) :
    Calls Tryz.prog 31 #[.slice A n c, .int .i64 k] w fun e w' => e = .returned (.int .i64 (k + n)) ∧ Own w' B 2 A n c (ints (marks k n)) ∧ w.grownBy w' (Value.slice A n c).ownBlock := by
  have hxl : xs.length = n := by have := ha.len; rwa [ints_length] at this
  have Hx := Lib.hid hxl; clear hxl
  go_enter Tryz.func31, Tryz.ntmps31
  go_wp2
  go_loopw [1, 5] (fun m i wr => ∃ j : Nat, j ≤ n ∧ i = .int .i64 j ∧ m = .int .i64 (k + j) ∧ Own wr B 2 A n c (ints (marks k j ++ xs.drop j)) ∧ w.grownBy wr (Value.slice A n c).ownBlock) (fun _ i _ => n - (intOf i).toNat)
  case atStart => exact ⟨0, by omega, rfl, by simp, by simpa [marks] using ha, World.grownBy.refl _ _⟩
  case round =>
    obtain ⟨j, hj, rfl, rfl, hO, hG⟩ := hrel
    clear ha
    by_cases hlt : j < n
    · rcases hO.form with ⟨_, h0⟩ | ⟨g, rfl, hB, hgl⟩
      · omega
      obtain ⟨u1, hc1⟩ := hO.cellI hlt
      have hf1 := hO.frozen_ j
      obtain ⟨hs1, hs2⟩ := World.ownsRow.stored hO j (.int .i64 (k + j))
      rw [ints_set, set_mark xs n j k hlt Hx.out] at hs1
      have HO := Lib.hid hs1
      have HG := Lib.hid (hG.trans hs2)
      clear hs1 hs2 hO hG
      go_wp2
      go_roundw
      case rel => exact ⟨j + 1, by omega, by go_num, by congr 1; omega, HO.out, HG.out⟩
      case measure => simp [intOf]; omega
    · go_wp2
      go_ret
      obtain rfl : j = n := by omega
      rw [List.drop_of_length_le (by rw [Hx.out]; omega), List.append_nil] at hO
      exact ⟨rfl, hO, hG⟩

set_option maxHeartbeats 400000 in
theorem heldInt64S_any (A : Option Addr) (n c : Nat) (k : Int) (w : World) (hn : n ≤ 1099511627776) (hk0 : 0 ≤ k) (hk : k ≤ 1099511627776) (ha : Rd w A n (ints (marks k n))) :
    Calls Tryz.prog 36 #[.slice A n c, .int .i64 k] w fun e w' => e = .returned (.int .i64 (k + n)) ∧ w = w' := by
  go_enter Tryz.func36, Tryz.ntmps36
  go_wp2
  go_loop [1, 5] (fun m i => ∃ j : Nat, j ≤ n ∧ i = .int .i64 j ∧ m = .int .i64 (k + j)) (fun _ i => n - (intOf i).toNat)
  case atStart => exact ⟨0, by omega, rfl, by simp⟩
  case round =>
    obtain ⟨j, hj, rfl, rfl⟩ := hrel
    by_cases hlt : j < n
    · obtain ⟨g, o, rfl, hx, hcx⟩ := ha.int hlt
      rw [marks_get k n j hlt] at hcx
      clear ha
      go_wp2
      go_round
      case rel => exact ⟨j + 1, by omega, by go_num, by congr 1; omega⟩
      case measure => simp [intOf]; omega
    · go_wp2
      go_ret
      obtain rfl : j = n := by omega
      exact ⟨rfl, rfl⟩

/-- What is left of a size. -/
def szL (n : Nat) (left : Int) : Int := if left - n < 0 then -1 else left - n
set_option maxHeartbeats 400000 in
theorem szInt64S_any (A : Option Addr) (n c : Nat) (left : Int) (w : World) (hn : n ≤ 9223372036854775807) (h0 : 0 ≤ left) (h1 : left ≤ 1048576) :
    Calls Tryz.prog 47 #[.slice A n c, .int .i64 left] w fun e w' => e = .returned (.int .i64 (szL n left)) ∧ w = w' := by
  by_cases h : left - n < 0
  · have hs : szL n left = -1 := by unfold szL; rw [if_pos h]
    have H := Lib.hid hs; clear hs
    go_enter Tryz.func47, Tryz.ntmps47
    go_wp2
    go_ret
    exact ⟨ret_int H.out.symm, rfl⟩
  · have hs : szL n left = left - n := by unfold szL; rw [if_neg h]
    have H := Lib.hid hs; clear hs
    go_enter Tryz.func47, Tryz.ntmps47
    go_wp2
    go_ret
    exact ⟨ret_int H.out.symm, rfl⟩

end Go.Proofs.YtommppijnccomaaGreat

/-
  Leading places, parts of a grade, equality of lists, searches by a function of a number.
-/
import Derived.Test.YtommppijnccomaaGreatGrades
import Derived.Test.YtommppijnccomaaGreatEq
import Derived.Test.YtommppijnccomaaGreatProd
namespace Go.Proofs.YtommppijnccomaaGreat
open Go.RowKit

theorem leadL_step {v : List Int} {k : Nat} (h : k ≤ leadL v) (hk : k < v.length) (h0 : v[k] = 0) : k + 1 ≤ leadL v := by
  rcases Nat.lt_or_ge k (leadL v) with h1 | h1
  · exact h1
  · have e : leadL v = k := by omega
    have := leadL_at v (by omega)
    rw [e, getD_of_lt 0 hk] at this
    exact absurd h0 this
theorem leadL_stop {v : List Int} {k : Nat} (h : k ≤ leadL v) (hk : k < v.length) (h0 : v[k] ≠ 0) : leadL v = k := by
  rcases Nat.lt_or_ge k (leadL v) with h1 | h1
  · have := leadL_before v k h1
    rw [getD_of_lt 0 hk] at this
    exact absurd this h0
  · omega
theorem leadL_end {v : List Int} {k : Nat} (h : k ≤ leadL v) (hk : k = v.length) : leadL v = v.length := by
  have := leadL_le v; omega

set_option maxHeartbeats 400000 in
theorem lead_any (A : Option Addr) (n c : Nat) (xs : List Int) (w : World) (hn : n ≤ 1099511627776) (ha : Rd w A n (ints xs)) :
    Calls Tryz.prog 67 #[.slice A n c] w fun e w' => e = .returned (.int .i64 (leadL xs)) ∧ w = w' := by
  have hxl : xs.length = n := by have := ha.1; rwa [ints_length] at this
  have Hx := Lib.hid hxl; clear hxl
  go_enter Tryz.func67, Tryz.ntmps67
  go_wp2
  go_loop [3] (fun i => ∃ k : Nat, k ≤ n ∧ i = .int .i64 k ∧ k ≤ leadL xs) (fun i => n - (intOf i).toNat)
  case atStart => exact ⟨0, by omega, rfl, by omega⟩
  case round =>
    obtain ⟨k, hk, rfl, ht⟩ := hrel
    have H := Lib.hid ht; clear ht
    by_cases hlt : k < n
    · obtain ⟨g, o, rfl, hx, hcx⟩ := ha.int hlt
      clear ha
      cases hi : (xs[k] == 0)
      all_goals
        have HI := Lib.hid hi
        go_wp2
      · go_ret
        exact ⟨ret_int (by rw [leadL_stop H.out hx (by simpa using HI.out)]), rfl⟩
      · go_round
        case rel => exact ⟨k + 1, by omega, by go_num, leadL_step H.out hx (by simpa using HI.out)⟩
        case measure => simp [intOf]; omega
    · go_wp2
      go_ret
      have := H.out
      exact ⟨ret_int (by rw [leadL_end this (by rw [Hx.out]; omega), Hx.out]; congr 1; omega), rfl⟩

/-- The first place with a number other than 0, or -1. -/
def firstL (xs : List Int) : Int := if leadL xs < xs.length then leadL xs else -1
set_option maxHeartbeats 400000 in
theorem l02First_any (A : Option Addr) (n c : Nat) (xs : List Int) (w : World) (hn : n ≤ 1099511627776) (ha : Rd w A n (ints xs)) :
    Calls Tryz.prog 49 #[.slice A n c] w fun e w' => e = .returned (.int .i64 (firstL xs)) ∧ w = w' := by
  have hxl : xs.length = n := by have := ha.1; rwa [ints_length] at this
  have Hx := Lib.hid hxl; clear hxl
  go_enter Tryz.func49, Tryz.ntmps49
  go_wp2
  go_loop [3] (fun i => ∃ k : Nat, k ≤ n ∧ i = .int .i64 k ∧ k ≤ leadL xs) (fun i => n - (intOf i).toNat)
  case atStart => exact ⟨0, by omega, rfl, by omega⟩
  case round =>
    obtain ⟨k, hk, rfl, ht⟩ := hrel
    have H := Lib.hid ht; clear ht
    by_cases hlt : k < n
    · obtain ⟨g, o, rfl, hx, hcx⟩ := ha.int hlt
      clear ha
      cases hi : (xs[k] != 0)
      all_goals
        have HI := Lib.hid hi
        go_wp2
      · go_round
        case rel => exact ⟨k + 1, by omega, by go_num, leadL_step H.out hx (by simpa using HI.out)⟩
        case measure => simp [intOf]; omega
      · go_ret
        exact ⟨ret_int (by unfold firstL; rw [leadL_stop H.out hx (by simpa using HI.out), if_pos hx]), rfl⟩
    · go_wp2
      go_ret
      have := H.out
      exact ⟨ret_int (by unfold firstL; rw [leadL_end this (by rw [Hx.out]; omega), if_neg (by omega)]), rfl⟩

/-- Are all numbers 0? -/
def zeroL (xs : List Int) : Bool := leadL xs == xs.length
set_option maxHeartbeats 400000 in
theorem isZero_any (A : Option Addr) (n c : Nat) (xs : List Int) (w : World) (hn : n ≤ 1099511627776) (ha : Rd w A n (ints xs)) :
    Calls Tryz.prog 55 #[.slice A n c] w fun e w' => e = .returned (.bool (zeroL xs)) ∧ w = w' := by
  have hxl : xs.length = n := by have := ha.1; rwa [ints_length] at this
  have Hx := Lib.hid hxl; clear hxl
  go_enter Tryz.func55, Tryz.ntmps55
  go_wp2_with (go_at_call 67; refine (lead_any _ _ _ _ _ hn ha).mono ?_; rintro e w' ⟨rfl, rfl⟩)
  go_ret
  refine ⟨ret_bool ?_, rfl⟩
  unfold zeroL
  rw [Hx.out, Bool.eq_iff_iff]
  simp
  omega

/-- The part of grade k. -/
def partG (xs : List Int) (k : Nat) : List Int := tab xs.length fun i => if pc i = k then xs.getD i 0 else 0
theorem partG_len (xs : List Int) (k : Nat) : (partG xs k).length = xs.length := tab_len _ _
theorem partG_getD {xs : List Int} {k i : Nat} (h : i < xs.length) : (partG xs k).getD i 0 = if pc i = k then xs.getD i 0 else 0 := tab_getD h 0
theorem partG_nums {p : Int} (hp : 0 < p) {xs : List Int} (h : NumsL p xs) (k : Nat) : NumsL p (partG xs k) := NumsL.tab fun i _ => by
  split
  · exact h.getD hp i
  · omega

theorem tab_pad_set {n k : Nat} {f : Nat → Int} (hk : k < n) : (tab k f ++ List.replicate (n - k) 0).set k (f k) = tab (k + 1) f ++ List.replicate (n - (k + 1)) 0 := by
  rw [List.set_append, if_neg (by rw [tab_len]; omega), tab_len, Nat.sub_self, tab_succ, List.append_assoc]
  congr 1
  obtain ⟨m, hm⟩ : ∃ m, n - k = m + 1 := ⟨n - k - 1, by omega⟩
  rw [hm, show n - (k + 1) = m by omega]
  simp [List.replicate_succ]
theorem tab_pad_zero {n k : Nat} {f : Nat → Int} (hk : k < n) (h0 : f k = 0) : tab k f ++ List.replicate (n - k) 0 = tab (k + 1) f ++ List.replicate (n - (k + 1)) 0 := by
  rw [tab_succ, List.append_assoc, h0]
  congr 1
  obtain ⟨m, hm⟩ : ∃ m, n - k = m + 1 := ⟨n - k - 1, by omega⟩
  rw [hm, show n - (k + 1) = m by omega]
  simp [List.replicate_succ]

set_option maxHeartbeats 800000 in
theorem l04Part_any (X : Option Addr) (m cx : Nat) (xs : List Int) (q : Nat) (w : World) (hm : m ≤ 64) (_hq : q ≤ 1000) (hx : Rd w X m (ints xs)) :
    Calls Tryz.prog 144 #[.slice X m cx, .int .i64 q] w fun e w' => ∃ A' c', e = .returned (.slice A' m c') ∧ MkI w w' A' m c' (partG xs q) := by
  have hxl : xs.length = m := by have := hx.1; rwa [ints_length] at this
  have hmk := make_i (P := Tryz.prog) 22 2 Tryz.underlying22 info_i m (by omega)
  have hM0 := Mk.made (E := 2) (n := m) (z := .int .i64 0) (Below.refl w.heap.size w) (by simp only [maxLen]; omega)
  rw [ints_replicate] at hM0
  have HP : Hid (partG xs q = tab m fun i => if pc i = q then xs.getD i 0 else 0) := Lib.hid (by unfold partG; rw [hxl])
  clear hxl
  go_enter Tryz.func144, Tryz.ntmps144
  go_wp2
  clear hmk
  go_loopw [6] (fun i wr => ∃ k : Nat, k ≤ m ∧ i = .int .i64 k ∧ MkI w wr (some ⟨w.heap.size, 0, none⟩) m m ((tab k fun i => if pc i = q then xs.getD i 0 else 0) ++ List.replicate (m - k) 0)) (fun i _ => m - (intOf i).toNat)
  case atStart => exact ⟨0, by omega, rfl, by simpa [tab] using hM0⟩
  case round =>
    obtain ⟨k, hk, rfl, hM⟩ := hrel
    clear hM0
    by_cases hlt : k < m
    · obtain ⟨gx, ox, rfl, hxk, hcx⟩ := (hx.below hM.b).int hlt
      by_cases hpc : pc k = q
      · have hb : (((pc k : Nat) : Int) == (q : Int)) = true := by simp [hpc]
        have hset := (hM.set k (.int .i64 xs[k])).1
        have hf : ((tab k fun i => if pc i = q then xs.getD i 0 else 0) ++ List.replicate (m - k) 0).set k xs[k] = (tab (k + 1) fun i => if pc i = q then xs.getD i 0 else 0) ++ List.replicate (m - (k + 1)) 0 := by
          rw [← tab_pad_set hlt]; simp only [hpc, if_true]; rw [getD_of_lt 0 hxk]
        obtain ⟨hoc, hof⟩ := mkI_at hM hlt
        rw [ints_set, hf] at hset
        have HS := Lib.hid hset
        clear hset hM hpc hf
        go_wp2_with (go_at_call 133; refine (l04Grade_any k _ (by omega)).mono ?_; rintro e w' ⟨rfl, rfl⟩)
        go_roundw
        case rel => exact ⟨k + 1, by omega, by go_num, HS.out⟩
        case measure => simp [intOf]; omega
      · have hb : (((pc k : Nat) : Int) == (q : Int)) = false := by simp; omega
        have HS := Lib.hid (tab_pad_zero (f := fun i => if pc i = q then xs.getD i 0 else 0) hlt (if_neg hpc) ▸ hM)
        clear hM hpc
        go_wp2_with (go_at_call 133; refine (l04Grade_any k _ (by omega)).mono ?_; rintro e w' ⟨rfl, rfl⟩)
        go_roundw
        case rel => exact ⟨k + 1, by omega, by go_num, HS.out⟩
        case measure => simp [intOf]; omega
    · obtain rfl : k = m := by omega
      go_wp2
      go_ret
      exact ⟨_, _, rfl, by rw [HP.out]; simpa using hM⟩


/-- A function of a number that tells whether p holds; w: what it needs of the world. -/
def TellsI (f : FuncId) (cap : Array Value) (S : World → Prop) (p : Int → Bool) : Prop :=
  ∀ (w : World) (x : Int), S w → 0 ≤ x → x ≤ 1000 → Calls Tryz.prog f (#[.int .i64 x] ++ cap) w fun e w' => e = .returned (.bool (p x)) ∧ w = w'



theorem gradesL_range (xs : List Int) : ∀ x ∈ gradesL xs, 0 ≤ x ∧ x ≤ 1000 := fun x hx => by
  obtain ⟨k, hk, rfl⟩ := List.mem_map.1 hx
  have : k < 7 := by have := (List.mem_filter.1 hk).1; simpa using this
  omega

/-- Has a multivector blades with even grades alone? -/
def evenL (xs : List Int) : Bool := !((gradesL xs).any fun k => k % 2 == 1)
/-- Has it blades of grade k alone? -/
def onlyL (xs : List Int) (k : Int) : Bool := !((gradesL xs).any fun g => g != k)





end Go.Proofs.YtommppijnccomaaGreat

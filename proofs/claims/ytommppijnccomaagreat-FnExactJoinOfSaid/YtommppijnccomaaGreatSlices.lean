/-
  The library's searches in slices, at the types of the program.
-/
import Derived.Test.YtommppijnccomaaGreatMat
namespace Go.Proofs.YtommppijnccomaaGreat
open Go.RowKit


/-- A search by a function of one captured pointer that answers of a row what p says and changes nothing that was there. -/
def Tells (f : FuncId) (cap : Array Value) (w : World) (p : List Int → Bool) (ok : List Int → Prop) : Prop :=
  ∀ (w' : World) (A : Option Addr) (m c : Nat) (xs : List Int), Below w.heap.size w w' → Rd w' A m (ints xs) → ok xs →
    Calls Tryz.prog f (#[.slice A m c] ++ cap) w' fun e w'' => e = .returned (.bool (p xs)) ∧ Below w'.heap.size w' w''

set_option maxHeartbeats 800000 in
theorem IndexFunc_any (f : FuncId) (q : Addr) (p : List Int → Bool) (ok : List Int → Prop) (A : Option Addr) (n c : Nat) (xss : List (List Int)) (w : World) (hn : n ≤ 1099511627776) (ha : RdII w A n xss) (hok : ∀ xs ∈ xss, ok xs)
    (hf : Tells f #[.pointer (some q)] w p ok) (hcf : ∀ (args : Array Value) (w : World), (callFunc f args).run Tryz.prog w = .ok (.enter f args) w) :
    Calls Tryz.prog 128 #[.slice A n c, .func (.func f) #[] #[.pointer (some q)]] w fun e w' => ∃ r : Int, e = .returned (.int .i64 r) ∧ decide (0 ≤ r) = xss.any p ∧ Below w.heap.size w w' := by
  have hxl := ha.len
  have Hx := Lib.hid hxl; clear hxl
  go_enter Tryz.func128, Tryz.ntmps128
  go_wp2
  go_loopw [8] (fun i wr => ∃ k : Nat, k ≤ n ∧ i = .int .i64 k ∧ (xss.take k).any p = false ∧ Below w.heap.size w wr) (fun i _ => n - (intOf i).toNat)
  case atStart => exact ⟨0, by omega, rfl, by simp, Below.refl _ _⟩
  case round =>
    obtain ⟨k, hk, rfl, ht, hB⟩ := hrel
    have H := Lib.hid ht; clear ht
    by_cases hlt : k < n
    · obtain ⟨g, o, rfl, hx, A', c', hcx, hr, -⟩ := (ha.below hB).at_ hlt
      have hoki := hok xss[k] (List.getElem_mem hx)
      clear ha
      cases hi : p xss[k]
      all_goals
        have HI := Lib.hid hi; clear hi
        go_wp2_with fail
        refine (hf _ _ _ _ _ hB hr hoki).mono ?_
        rintro e w1 ⟨rfl, hb1⟩
        rw [HI.out]
        go_wp2
      · go_roundw
        case rel =>
          refine ⟨k + 1, by omega, by go_num, ?_, hB.trans (hb1.mono hB.size)⟩
          rw [List.take_succ_eq_append_getElem hx, List.any_append, H.out]
          simpa using HI.out
        case measure => simp [intOf]; omega
      · go_ret
        refine ⟨_, rfl, ?_, hB.trans (hb1.mono hB.size)⟩
        have : xss.any p = true := List.any_eq_true.2 ⟨xss[k], List.getElem_mem hx, HI.out⟩
        rw [this]; simp
    · go_wp2
      go_ret
      refine ⟨_, rfl, ?_, hB⟩
      have := H.out
      rw [List.take_of_length_le (by rw [Hx.out]; omega)] at this
      rw [this]; simp

set_option maxHeartbeats 400000 in
theorem ContainsFunc_any (f : FuncId) (q : Addr) (p : List Int → Bool) (ok : List Int → Prop) (A : Option Addr) (n c : Nat) (xss : List (List Int)) (w : World) (hn : n ≤ 1099511627776) (ha : RdII w A n xss) (hok : ∀ xs ∈ xss, ok xs)
    (hf : Tells f #[.pointer (some q)] w p ok) (hcf : ∀ (args : Array Value) (w : World), (callFunc f args).run Tryz.prog w = .ok (.enter f args) w) :
    Calls Tryz.prog 91 #[.slice A n c, .func (.func f) #[] #[.pointer (some q)]] w fun e w' => e = .returned (.bool (xss.any p)) ∧ Below w.heap.size w w' := by
  go_enter Tryz.func91, Tryz.ntmps91
  go_wp2_with fail
  refine (IndexFunc_any _ _ _ _ _ _ _ _ _ hn ha hok hf hcf).mono ?_
  rintro e w1 ⟨r, rfl, hr, hb⟩
  have HR := Lib.hid hr; clear hr
  go_wp2
  go_ret
  exact ⟨ret_bool HR.out, hb⟩
end Go.Proofs.YtommppijnccomaaGreat

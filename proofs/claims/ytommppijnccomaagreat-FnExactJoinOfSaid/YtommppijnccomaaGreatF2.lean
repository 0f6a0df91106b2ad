/-
  Numbers modulo a prime: the specification's functions.
-/
import Derived.Test.YtommppijnccomaaGreatF1
namespace Go.Proofs.YtommppijnccomaaGreat
open Go.RowKit

/-- Where is the inverse: the one number whose product is 1. -/
def invTab (p : Nat) : Bool := (List.range p).all fun a => a == 0 || ((0 < invF p a : Bool) && (invF p a < p : Bool) && (List.range p).all fun b => decide ((a * b : Int) % p = 1) == decide ((b : Int) = invF p a))
theorem invTab_all : invTab 3 = true ∧ invTab 5 = true ∧ invTab 7 = true ∧ invTab 11 = true ∧ invTab 13 = true := by decide +kernel
theorem invTab_of {p : Int} (h : isP p = true) : invTab p.toNat = true := by
  obtain ⟨a, b, c, d, e⟩ := invTab_all
  simp only [isP, Bool.or_eq_true, beq_iff_eq] at h
  rcases h with (((rfl | rfl) | rfl) | rfl) | rfl
  · exact a
  · exact b
  · exact c
  · exact d
  · exact e
theorem isP_ge {p : Int} (h : isP p = true) : 3 ≤ p ∧ p ≤ 13 := by
  simp [isP] at h; omega
theorem inv_spec {p a : Int} (h : isP p = true) (h1 : 0 < a) (h2 : a < p) : 0 < invF p a ∧ invF p a < p ∧ ∀ b : Int, 0 ≤ b → b < p → ((a * b % p = 1) ↔ b = invF p a) := by
  have hp := isP_ge h
  have ht := invTab_of h
  simp only [invTab, List.all_eq_true, List.mem_range] at ht
  have ha := ht a.toNat (by omega)
  rw [show ((p.toNat : Nat) : Int) = p by omega, show ((a.toNat : Nat) : Int) = a by omega] at ha
  simp only [Bool.or_eq_true, beq_iff_eq, Bool.and_eq_true, decide_eq_true_eq, List.all_eq_true, List.mem_range] at ha
  rcases ha with ha | ⟨⟨ha, hb⟩, hc⟩
  · omega
  · refine ⟨ha, hb, fun b hb1 hb2 => ?_⟩
    have := hc b.toNat (by omega)
    rw [show ((b.toNat : Nat) : Int) = b by omega] at this
    simpa using this

theorem ne_bool {a b : Int} (h : ¬ a = b) : (a != b) = true := by simp [h]
theorem ne_bool' {a b : Int} (h : a = b) : (a != b) = false := by simp [h]

set_option maxHeartbeats 800000 in
theorem l01Inv_any (p a : Int) (w : World) (h : isP p = true) (h1 : 0 < a) (h2 : a < p) :
    Calls Tryz.prog 64 #[.int .i64 p, .int .i64 a] w fun e w' => e = .returned (.int .i64 (invF p a)) ∧ w = w' := by
  obtain ⟨hp, hp2⟩ := isP_ge h
  obtain ⟨i1, i2, i3⟩ := inv_spec h h1 h2
  clear h
  go_enter Tryz.func64, Tryz.ntmps64
  go_wp2
  go_loop [5] (fun o => ∃ b : Int, o = .int .i64 b ∧ 1 ≤ b ∧ b ≤ invF p a) (fun o => p.toNat - (intOf o).toNat)
  case atStart => exact ⟨1, rfl, by omega, by omega⟩
  case round =>
    obtain ⟨b, rfl, hb1, hb2⟩ := hrel
    obtain ⟨m1, m2⟩ := mul_small (show 0 ≤ a by omega) (show a ≤ 13 by omega) (show 0 ≤ b by omega) (show b ≤ 13 by omega)
    by_cases hlt : b = invF p a
    · have hne := ne_bool' ((i3 b (by omega) (by omega)).2 hlt)
      have HL := Lib.hid hlt
      clear hlt i3
      go_wp2
      go_ret
      exact ⟨ret_int HL.out, rfl⟩
    · have hne := ne_bool (fun hh => hlt ((i3 b (by omega) (by omega)).1 hh))
      clear i3
      go_wp2
      go_round
      case rel => exact ⟨b + 1, by go_num, by omega, by omega⟩
      case measure => simp [intOf]; omega


set_option maxHeartbeats 800000 in
theorem l02Scale_any (p : Int) (A : Option Addr) (n c : Nat) (f : Int) (xs : List Int) (w : World) (hp : 2 ≤ p) (hp2 : p ≤ 13) (hn : n ≤ 65536) (ha : Rd w A n (ints xs)) (hx : NumsL p xs) (hf1 : 0 ≤ f) (hf2 : f ≤ 1000) :
    Calls Tryz.prog 83 #[.int .i64 p, .slice A n c, .int .i64 f] w fun e w' => ∃ A' c', e = .returned (.slice A' n c') ∧ MkI w w' A' n c' (scaleL p xs f) := by
  have hxl : xs.length = n := by have := ha.1; rwa [ints_length] at this
  have Hx := Lib.hid hxl; clear hxl
  have hM0 := Mk.lit (E := 2) (Below.refl w.heap.size w) #[] (by simp)
  go_enter Tryz.func83, Tryz.ntmps83
  go_wp2
  go_loopw [7, 8] (fun out i wr => ∃ (k : Nat) (A' : Option Addr) (c' : Nat), k ≤ n ∧ i = .int .i64 k ∧ out = .slice A' k c' ∧ MkI w wr A' k c' ((scaleL p xs f).take k)) (fun _ i _ => n - (intOf i).toNat)
  case atStart => exact ⟨0, _, _, by omega, rfl, rfl, by simpa [MkI, ints] using hM0⟩
  case round =>
    obtain ⟨k, A', c', hk, rfl, rfl, hM⟩ := hrel
    clear hM0
    by_cases hlt : k < n
    · obtain ⟨g, o, rfl, hxk, hcx⟩ := ha.int hlt
      have hc0 : wr.cell? ⟨g, o + k, none⟩ = some (.int .i64 xs[k]) := (hM.1.cell (World.block_lt_of_cell? _ _ hcx)).trans hcx
      obtain ⟨x1, x2⟩ := hx _ (List.getElem_mem hxk)
      have HM := Lib.hid hM
      obtain ⟨m1, m2⟩ := mul_small x1 (show xs[k] ≤ 13 by omega) hf1 hf2
      clear ha hM hcx
      go_wp2_with (at_builtin; refine wpList_app1 w _ 22 2 _ _ Tryz.underlying22 info_i rfl (by omega) rfl _ _ rfl A' k c' _ _ HM.out (by omega) rfl rfl rfl ?_; intro A2 c2 w2 hM2 _ _)
      go_roundw
      case rel => exact ⟨k + 1, A2, c2, by omega, by go_num, rfl, by rw [scaleL_take p xs f k hxk]; simpa [MkI, ints] using hM2⟩
      case measure => simp [intOf]; omega
    · go_wp2
      go_ret
      obtain rfl : k = n := by omega
      rw [List.take_of_length_le (by rw [scaleL_len, Hx.out]; omega)] at hM
      exact ⟨_, _, rfl, hM⟩

end Go.Proofs.YtommppijnccomaaGreat

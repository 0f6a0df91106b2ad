/-
  Multivectors: the reference's tests.
-/
import Derived.Test.YtommppijnccomaaGreatSpLeaf
namespace Go.Proofs.YtommppijnccomaaGreat
open Go.RowKit

theorem u64_wrap_nat (n : Nat) (h : n ≤ 1099511627776) : IntKind.u64.wrap (n : Int) = (n : Int) := IntWalk.u64_in _ (by omega)

set_option maxHeartbeats 400000 in
theorem l04Size_any (P : Int) (A : Option Addr) (n c : Nat) (w : World) (hn : n ≤ 30) :
    Calls Tryz.prog 124 #[.agg #[.int .i64 P, .slice A n c]] w fun e w' => e = .returned (.int .i64 (pw n)) ∧ Below w.heap.size w w' := by
  go_enter Tryz.func124, Tryz.ntmps124
  go_wp2
  go_ret
  exact ⟨ret_int (wrap_pw n hn), (Below.refl _ _).alloc (Nat.le_refl _) _⟩

/-- Is it a multivector of a space with the squares xs? -/
def isMu (P : Int) (xs ys : List Int) : Bool := (((ys.length : Nat) : Int) == ((pw xs.length : Nat) : Int)) && nums P ys

theorem inR_16 {n : Nat} (h : inR n 1 6 = true) : 1 ≤ n ∧ n ≤ 6 := by simp [inR] at h; omega
theorem isSp_dim {P : Int} {xs : List Int} (h : isSp P xs = true) : isP P = true ∧ 1 ≤ xs.length ∧ xs.length ≤ 6 ∧ nums P xs = true := by
  simp only [isSp, Bool.and_eq_true] at h
  obtain ⟨⟨h1, h2⟩, h3⟩ := h
  obtain ⟨h4, h5⟩ := inR_16 h2
  exact ⟨h1, h4, h5, h3⟩

set_option maxHeartbeats 1000000 in
theorem l04Is_any (P : Int) (A B : Option Addr) (n c m d : Nat) (xs ys : List Int) (w : World) (hn : n ≤ 1048576) (hm : m ≤ 1048576) (ha : Rd w A n (ints xs)) (hb : Rd w B m (ints ys)) :
    Calls Tryz.prog 121 #[.agg #[.int .i64 P, .slice A n c], .slice B m d] w fun e w' => e = .returned (.bool (isSp P xs && isMu P xs ys)) ∧ Below w.heap.size w w' := by
  have hxl : xs.length = n := by have := ha.1; rwa [ints_length] at this
  have hyl : ys.length = m := by have := hb.1; rwa [ints_length] at this
  have hB : Below w.heap.size w (w.alloc (.cells #[.int .i64 P, .slice A n c] 28)) := (Below.refl _ _).alloc (Nat.le_refl _) _
  have k0 : Blk (w.alloc (.cells #[.int .i64 P, .slice A n c] 28)) w.heap.size 28 #[.int .i64 P, .slice A n c] := Blk.new _ _ _
  cases h1 : isSp P xs
  · have H1 := Lib.hid h1; clear h1
    have Hx := Lib.hid hxl; have Hy := Lib.hid hyl; clear hxl hyl
    go_enter Tryz.func121, Tryz.ntmps121
    go_wp2_with fail
    refine (l03Is_b _ _ _ _ _ _ (by omega) (ha.below hB) H1.out).mono ?_
    rintro e w1 ⟨rfl, hb1⟩
    go_wp2
    go_ret
    exact ⟨rfl, hB.trans (hb1.mono (by simp))⟩
  · obtain ⟨hp, hd1, hd2, hnum⟩ := isSp_dim h1
    obtain ⟨hp0, hp1⟩ := isP_pos hp
    have H1 := Lib.hid h1; clear h1 hp hnum
    have hmu : isMu P xs ys = ((((m : Nat) : Int) == ((pw n : Nat) : Int)) && nums P ys) := by unfold isMu; rw [hxl, hyl]
    have Hmu := Lib.hid hmu; clear hmu
    rw [hxl] at hd1 hd2
    have Hx := Lib.hid hxl; have Hy := Lib.hid hyl; clear hxl hyl
    cases h2 : (((m : Nat) : Int) == ((pw n : Nat) : Int))
    all_goals
      go_enter Tryz.func121, Tryz.ntmps121
      go_wp2_with fail
      refine (l03Is_b _ _ _ _ _ _ (by omega) (ha.below hB) H1.out).mono ?_
      rintro e w1 ⟨rfl, hb1⟩
      have k1 := k0.below hb1 k0.lt
      obtain ⟨q0, q1⟩ := k1.two
      have hB1 := hB.trans (hb1.mono (by simp))
      clear k0
      go_wp2_with fail
      refine (l04Size_any _ _ _ _ _ (by omega)).mono ?_
      rintro e w2 ⟨rfl, hb2⟩
      have k2 := k1.below hb2 k1.lt
      obtain ⟨p0, p1⟩ := k2.two
      have hB2 := hB1.trans (hb2.mono hB1.size)
      clear k1 q0 q1
      go_wp2_with fail
    · go_ret
      exact ⟨ret_bool (by rw [Hmu.out, h2]; rfl), hB2⟩
    · refine (l01Numbers_any _ _ _ _ _ _ hp0 (by omega) (by omega) (hb.below hB2)).mono ?_
      rintro e w3 ⟨rfl, rfl⟩
      go_wp2
      go_ret
      exact ⟨ret_bool (by rw [Hmu.out, h2]; rfl), hB2⟩

theorem l04Is_b {b : Bool} (P : Int) (A B : Option Addr) (n c m d : Nat) (xs ys : List Int) (w : World) (hn : n ≤ 1048576) (hm : m ≤ 1048576) (ha : Rd w A n (ints xs)) (hb : Rd w B m (ints ys)) (h : (isSp P xs && isMu P xs ys) = b) :
    Calls Tryz.prog 121 #[.agg #[.int .i64 P, .slice A n c], .slice B m d] w fun e w' => e = .returned (.bool b) ∧ Below w.heap.size w w' := h ▸ l04Is_any P A B n c m d xs ys w hn hm ha hb
end Go.Proofs.YtommppijnccomaaGreat

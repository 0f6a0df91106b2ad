/-
  LawSumOfTexts: part 2 of the texts that the proof needs. No condition.
-/
import Derived.Test.YticofgmmjecleaaGreatDoorP1
namespace Go.Proofs.YticofgmmjecleaaGreatDoor
/-- The list of the values of f from 0 on. -/
def tab {α : Type} (n : Nat) (f : Nat → α) : List α := (List.range n).map f
theorem tab_len {α : Type} (n : Nat) (f : Nat → α) : (tab n f).length = n := by simp [tab]
theorem tab_succ {α : Type} (n : Nat) (f : Nat → α) : tab (n + 1) f = tab n f ++ [f n] := by simp [tab, List.range_succ]
theorem tab_get {α : Type} (n : Nat) (f : Nat → α) (i : Nat) (h : i < (tab n f).length) : (tab n f)[i] = f i := by simp [tab]
theorem tab_getD {α : Type} {n : Nat} {f : Nat → α} {i : Nat} (h : i < n) (d : α) : (tab n f).getD i d = f i := by
  rw [List.getD_eq_getElem?_getD, List.getElem?_eq_getElem (by rw [tab_len]; exact h), tab_get]; rfl
theorem tab_congr {α : Type} {n : Nat} {f g : Nat → α} (h : ∀ i, i < n → f i = g i) : tab n f = tab n g := by
  apply List.map_congr_left
  intro i hi
  exact h i (by simpa using hi)
theorem tab_mem {α : Type} {n : Nat} {f : Nat → α} {x : α} (h : x ∈ tab n f) : ∃ i, i < n ∧ x = f i := by
  obtain ⟨i, hi, rfl⟩ := List.mem_map.1 h
  exact ⟨i, by simpa using hi, rfl⟩
theorem list_ext_getD {α : Type} {xs ys : List α} (d : α) (hl : xs.length = ys.length) (h : ∀ i, i < xs.length → xs.getD i d = ys.getD i d) : xs = ys := by
  apply List.ext_getElem hl
  intro i h1 h2
  have := h i h1
  rw [List.getD_eq_getElem?_getD, List.getD_eq_getElem?_getD, List.getElem?_eq_getElem h1, List.getElem?_eq_getElem h2] at this
  exact this
theorem eq_tab {α : Type} {n : Nat} (d : α) {xs : List α} (hl : xs.length = n) : xs = tab n fun i => xs.getD i d := by
  apply list_ext_getD d (by rw [tab_len, hl])
  intro i hi
  rw [tab_getD (by omega)]
theorem getD_of_lt {α : Type} {xs : List α} {i : Nat} (d : α) (h : i < xs.length) : xs.getD i d = xs[i] := by
  rw [List.getD_eq_getElem?_getD, List.getElem?_eq_getElem h]; rfl
theorem getD_set {α : Type} (xs : List α) (i j : Nat) (v d : α) : (xs.set i v).getD j d = if i = j ∧ i < xs.length then v else xs.getD j d := by
  rw [List.getD_eq_getElem?_getD, List.getD_eq_getElem?_getD, List.getElem?_set]
  by_cases h1 : i = j
  · subst h1
    by_cases h2 : i < xs.length
    · simp [h2]
    · simp [h2]
  · simp [h1]
theorem getD_mem {α : Type} {xs : List α} {i : Nat} (d : α) (h : i < xs.length) : xs.getD i d ∈ xs := by
  rw [getD_of_lt d h]; exact List.getElem_mem h
/-- f 0 + .. + f (n - 1). -/
def sumTo : Nat → (Nat → Int) → Int
  | 0, _ => 0
  | n + 1, f => sumTo n f + f n
theorem sumTo_succ (n : Nat) (f : Nat → Int) : sumTo (n + 1) f = sumTo n f + f n := rfl
/-- A sum whose parts are reduced at each step. -/
theorem sumTo_step (p : Int) (n : Nat) (f : Nat → Int) : (sumTo n f % p + f n) % p = sumTo (n + 1) f % p := by
  rw [sumTo_succ, Int.emod_add_emod]
/-- A list and a multiple of another one. -/
def plusL (p : Int) (a b : List Int) (k : Int) : List Int := tab a.length fun i => (a.getD i 0 + k * b.getD i 0) % p
theorem plusL_len (p : Int) (a b : List Int) (k : Int) : (plusL p a b k).length = a.length := tab_len _ _
theorem plusL_nums {p : Int} (hp : 0 < p) (a b : List Int) (k : Int) : NumsL p (plusL p a b k) := fun x hx => by
  obtain ⟨i, _, rfl⟩ := tab_mem hx
  exact ⟨Int.emod_nonneg _ (by omega), Int.emod_lt_of_pos _ hp⟩
theorem scaleL_nums {p : Int} (hp : 0 < p) (a : List Int) (k : Int) : NumsL p (scaleL p a k) := fun x hx => by
  obtain ⟨i, _, rfl⟩ := List.mem_map.1 hx
  exact ⟨Int.emod_nonneg _ (by omega), Int.emod_lt_of_pos _ hp⟩
/-- All rows have n numbers. -/
def Tab (p : Int) (n : Nat) (m : List (List Int)) : Prop := ∀ x ∈ m, x.length = n ∧ NumsL p x
theorem Tab.nil (p : Int) (n : Nat) : Tab p n [] := fun x hx => absurd hx (by simp)
theorem Tab.row {p : Int} {n : Nat} {m : List (List Int)} (h : Tab p n m) {i : Nat} (hi : i < m.length) : (m.getD i []).length = n ∧ NumsL p (m.getD i []) := h _ (getD_mem [] hi)
theorem Tab.set {p : Int} {n : Nat} {m : List (List Int)} (h : Tab p n m) (i : Nat) {x : List Int} (hx : x.length = n ∧ NumsL p x) : Tab p n (m.set i x) := fun y hy => by
  rcases List.mem_or_eq_of_mem_set hy with h1 | h1
  · exact h y h1
  · exact h1 ▸ hx
theorem Tab.append {p : Int} {n : Nat} {m m' : List (List Int)} (h : Tab p n m) (h' : Tab p n m') : Tab p n (m ++ m') := fun y hy => by
  rcases List.mem_append.1 hy with h1 | h1
  · exact h y h1
  · exact h' y h1
theorem Tab.take {p : Int} {n : Nat} {m : List (List Int)} (h : Tab p n m) (k : Nat) : Tab p n (m.take k) := fun y hy => h y (List.mem_of_mem_take hy)
theorem Tab.tab {p : Int} {n k : Nat} {f : Nat → List Int} (h : ∀ i, i < k → (f i).length = n ∧ NumsL p (f i)) : Tab p n (tab k f) := fun y hy => by
  obtain ⟨i, hi, rfl⟩ := tab_mem hy
  exact h i hi
theorem NumsL.tab {p : Int} {n : Nat} {f : Nat → Int} (h : ∀ i, i < n → 0 ≤ f i ∧ f i < p) : NumsL p (tab n f) := fun y hy => by
  obtain ⟨i, hi, rfl⟩ := tab_mem hy
  exact h i hi
end Go.Proofs.YticofgmmjecleaaGreatDoor
namespace Go.Proofs.YticofgmmjecleaaGreatDoor
open Go.RowKit
theorem isP_ge {p : Int} (h : isP p = true) : 3 ≤ p ∧ p ≤ 13 := by
  simp [isP] at h; omega
set_option maxHeartbeats 800000 in
set_option maxRecDepth 8000 in
theorem l02Scale_any (p : Int) (A : Option Addr) (n c : Nat) (f : Int) (xs : List Int) (w : World) (hp : 2 ≤ p) (hp2 : p ≤ 13) (hn : n ≤ 65536) (ha : Rd w A n (ints xs)) (hx : NumsL p xs) (hf1 : 0 ≤ f) (hf2 : f ≤ 1000) :
    Calls Tryz.prog 165 #[.int .i64 p, .slice A n c, .int .i64 f] w fun e w' => ∃ A' c', e = .returned (.slice A' n c') ∧ MkI w w' A' n c' (scaleL p xs f) := by
  have hxl : xs.length = n := by have := ha.1; rwa [ints_length] at this
  have Hx := Lib.hid hxl; clear hxl
  have hM0 := Mk.lit (E := 2) (Below.refl w.heap.size w) #[] (by simp)
  go_enter Tryz.func165, Tryz.ntmps165
  go_wp2
  go_loopw [7, 8] (fun out i wr => ∃ (k : Nat) (A' : Option Addr) (c' : Nat), k ≤ n ∧ i = .int .i64 k ∧ out = .slice A' k c' ∧ MkI w wr A' k c' ((scaleL p xs f).take k)) (fun _ i _ => n - (intOf i).toNat)
  case atStart => exact ⟨0, _, _, by omega, rfl, rfl, by simpa [MkI, ints] using hM0⟩
  case round =>
    obtain ⟨k, A', c', hk, rfl, rfl, hM⟩ := hrel
    clear hM0
    by_cases hlt : k < n
    · obtain ⟨g, o, rfl, hxk, hcx⟩ := ha.int hlt
      have hc0 : wr.cell? ⟨g, o + k, none⟩ = some (.int .i64 xs[k]) := (hM.1.cell (World.block_lt_of_cell? _ _ hcx)).trans hcx
      obtain ⟨x1, x2⟩ := hx _ (List.getElem_mem hxk)
      have HM := Lib.hid hM
      obtain ⟨m1, m2⟩ := mul_small x1 (show xs[k] ≤ 13 by omega) hf1 hf2
      clear ha hM hcx
      go_wp2_with (at_builtin; refine wpList_app1 w _ 22 2 _ _ Tryz.underlying22 info_i rfl (by omega) rfl _ _ rfl A' k c' _ _ HM.out (by omega) rfl rfl rfl ?_; intro A2 c2 w2 hM2 _ _)
      go_roundw
      case rel => exact ⟨k + 1, A2, c2, by omega, by go_num, rfl, by rw [scaleL_take p xs f k hxk]; simpa [MkI, ints] using hM2⟩
      case measure => simp [intOf]; omega
    · go_wp2
      go_ret
      obtain rfl : k = n := by omega
      rw [List.take_of_length_le (by rw [scaleL_len, Hx.out]; omega)] at hM
      exact ⟨_, _, rfl, hM⟩
end Go.Proofs.YticofgmmjecleaaGreatDoor
namespace Go.Proofs.YticofgmmjecleaaGreatDoor
open Go.RowKit
/-- A number with the sign of s. -/
def sgn (p : Int) (s : Nat) (c : Int) : Int := if s % 2 = 1 then (-c) % p else c
theorem sgn_bound {p : Int} {s : Nat} {c : Int} (hp : 2 ≤ p) (h1 : 0 ≤ c) (h2 : c < p) : 0 ≤ sgn p s c ∧ sgn p s c < p := by
  unfold sgn
  split
  · exact emod_small _ _ (by omega)
  · exact ⟨h1, h2⟩
theorem fac_sgn (p : Int) (sq : List Int) (a b : Nat) : fac p sq a b = sgn p (swaps a b sq.length) (common p sq a b sq.length) := rfl
theorem sgn_flip {p : Int} {s : Nat} {c : Int} (k : Nat) (_hp : 2 ≤ p) (h1 : 0 ≤ c) (h2 : c < p) (hk : k % 2 = 1) : (p - sgn p s c) % p = sgn p (s + k) c := by
  unfold sgn
  by_cases hs : s % 2 = 1
  · rw [if_pos hs, if_neg (by omega)]
    have : (p - -c % p) % p = (p - -c) % p := by rw [Int.sub_emod, Int.emod_emod, ← Int.sub_emod]
    rw [this]
    have : p - -c = c + p := by omega
    rw [this, Int.add_emod_right]
    exact Int.emod_eq_of_lt h1 h2
  · rw [if_neg hs, if_pos (by omega)]
    have : p - c = -c + p := by omega
    rw [this, Int.add_emod_right]
theorem sgn_same {p : Int} {s : Nat} {c : Int} (k : Nat) (hk : ¬ k % 2 = 1) : sgn p (s + k) c = sgn p s c := by
  unfold sgn
  have : (s + k) % 2 = s % 2 := by omega
  rw [this]
theorem neg_mod (x p : Int) : (-(x % p)) % p = (-x) % p := by
  rw [← Int.zero_sub, Int.sub_emod, Int.emod_emod, ← Int.sub_emod, Int.zero_sub]
theorem mod_mul (x q p : Int) : x % p * q % p = x * q % p := by
  rw [Int.mul_emod, Int.emod_emod, ← Int.mul_emod]
theorem sgn_mul (p : Int) (s : Nat) (c q : Int) : sgn p s c * q % p = sgn p s (c * q % p) := by
  unfold sgn
  split
  · rw [mod_mul, neg_mod, Int.neg_mul]
  · rfl
theorem and_bit0 {x k : Nat} (hk : k < 6) (hx : x < 64) : (bits BinOp.and IntKind.i64 ((x : Int) / 2 ^ k) 1 == 0) = !(bit x k == 1) := by
  rw [and_bit hk hx]
  have := bit_lt x k
  rcases (by omega : bit x k = 0 ∨ bit x k = 1) with h | h <;> simp [h]
theorem xor_up_all : ∀ k : Nat, k < 6 → ∀ x : Nat, x < 64 → bits BinOp.xor IntKind.i64 (x : Int) (wrap64 (2 ^ k)) = ((x ^^^ 2 ^ k : Nat) : Int) ∧ (x ^^^ 2 ^ k) < 64 ∧ (x ^^^ 2 ^ k) / 2 ^ (k + 1) = x / 2 ^ (k + 1) := by decide +kernel
theorem shr_nat (x k : Nat) : (x : Int) / 2 ^ k = ((x / 2 ^ k : Nat) : Int) := by simp
theorem up_div {x y k : Nat} (h : x / 2 ^ k = y / 2 ^ k) : x / 2 ^ (k + 1) = y / 2 ^ (k + 1) := by
  rw [Nat.pow_succ, ← Nat.div_div_eq_div_mul, ← Nat.div_div_eq_div_mul, h]
theorem par0 {n : Nat} (h : ((n : Int) % 2 == 1) = false) : ¬ n % 2 = 1 := by
  intro hh
  have : (n : Int) % 2 = 1 := by omega
  rw [this] at h; simp at h
theorem par1 {n : Nat} (h : ((n : Int) % 2 == 1) = true) : n % 2 = 1 := by have := beq_iff_eq.1 h; omega
set_option maxRecDepth 2000 in
set_option maxHeartbeats 1600000 in
set_option maxRecDepth 8000 in
theorem l04Blades_any (P : Int) (A : Option Addr) (n c : Nat) (sq : List Int) (a b : Nat) (w : World) (hp : 2 ≤ P) (hp2 : P ≤ 13) (hn : n ≤ 6) (ha : Rd w A n (ints sq)) (hs : NumsL P sq) (h1 : a < 64) (h2 : b < 64) :
    Calls Tryz.prog 135 #[.agg #[.int .i64 P, .slice A n c], .int .i64 a, .int .i64 b] w fun e w' => e = .returned (.int .i64 (fac P sq a b)) ∧ Below w.heap.size w w' := by
  have hxl : sq.length = n := by have := ha.1; rwa [ints_length] at this
  have Hx := Lib.hid hxl; clear hxl
  go_enter Tryz.func135, Tryz.ntmps135
  go_wp2
  have hk0 := Blk.new w 28 #[.int .i64 P, .slice A n c]
  have hB1 : Below w.heap.size w (w.alloc (.cells #[.int .i64 P, .slice A n c] 28)) := (Below.refl _ w).alloc (Nat.le_refl _) _
  obtain ⟨w1, hw1⟩ : ∃ W, W = w.alloc (.cells #[.int .i64 P, .slice A n c] 28) := ⟨_, rfl⟩
  rw [← hw1] at hk0 hB1 ⊢
  have ha1 := ha.below hB1
  clear ha hw1
  go_loopw [1, 7, 8] (fun av out i wr => ∃ (k x : Nat), k ≤ n ∧ x < 64 ∧ x / 2 ^ k = a / 2 ^ k ∧ i = .int .i64 k ∧ av = .int .i64 x ∧ out = .int .i64 (sgn P (swaps a b k) (common P sq a b k)) ∧ Below w1.heap.size w1 wr) (fun _ _ i _ => n - (intOf i).toNat)
  case atStart => exact ⟨0, a, by omega, h1, rfl, rfl, rfl, rfl, Below.refl _ _⟩
  case round =>
    obtain ⟨k, x, hk, hx64, hxa, rfl, rfl, rfl, hM⟩ := hrel
    have hkr := hk0.below hM hk0.lt
    obtain ⟨kc0, kc1⟩ := hkr.two
    have har := ha1.below hM
    obtain ⟨cb1, cb2⟩ := common_bound P sq a b hp k
    obtain ⟨sb1, sb2⟩ := sgn_bound (s := swaps a b k) hp cb1 cb2
    by_cases hlt : k < n
    · have hb0 := and_bit0 (k := k) (by omega) h2
      by_cases hb : bit b k = 1
      · simp only [hb, beq_self_eq_true, Bool.not_true] at hb0
        have hxa2 := up_div hxa
        have hbx : bit x k = bit a k := by unfold bit; rw [hxa]
        have ha0 : (bits BinOp.and IntKind.i64 ((x : Int) / 2 ^ k) 1 == 1) = (bit a k == 1) := by
          rw [and_bit (by omega) hx64, hbx]
          have := bit_lt a k
          rcases (by omega : bit a k = 0 ∨ bit a k = 1) with h | h <;> simp [h]
        have hv := Lib.hid (shr_nat x (k + 1))
        obtain ⟨hxo, hxo2, hxo3⟩ := xor_up_all k (by omega) x hx64
        have hp6 : pc (a / 2 ^ (k + 1)) ≤ 6 := pc_le 6 _ (Nat.lt_of_le_of_lt (Nat.div_le_self _ _) (by omega))
        have hxl : x / 2 ^ (k + 1) < 64 := Nat.lt_of_le_of_lt (Nat.div_le_self _ _) hx64
        have HXL := Lib.hid hxl; clear hxl
        have HX2 := Lib.hid hxa2; have HXO := Lib.hid hxo; have HXO2 := Lib.hid hxo2; have HXO3 := Lib.hid hxo3; have HB := Lib.hid hb
        clear hxa2 hxo hxo2 hxo3 hbx hxa hb
        obtain ⟨g, o, rfl, hx, hcx⟩ := har.int hlt
        obtain ⟨sx1, sx2⟩ := hs _ (List.getElem_mem hx)
        have HG : Hid (sq.getD k 0 = sq[k]) := Lib.hid (by rw [List.getD_eq_getElem?_getD, List.getElem?_eq_getElem hx]; rfl)
        clear har ha1 hk0
        cases hpar : ((pc (a / 2 ^ (k + 1)) : Int) % 2 == 1)
        · have hpar' := Lib.hid (par0 hpar)
          cases hba : (bit a k == 1)
          · rw [hba] at ha0
            have hba' : Hid (¬ bit a k = 1) := Lib.hid (by simpa using hba)
            clear hba
            go_wp2_with (go_at_call 136; rw [hv.out]; refine (l04Grade_any _ _ HXL.out).mono ?_; rintro e w' ⟨rfl, rfl⟩; rw [HX2.out])
            go_roundw
            case rel => exact ⟨k + 1, x ^^^ 2 ^ k, by omega, HXO2.out, HXO3.out.trans HX2.out, by go_num, by rw [HXO.out], by simp only [swaps, if_pos HB.out, common, if_neg (fun hh : bit b k = 1 ∧ bit a k = 1 => hba'.out hh.2)]; rw [sgn_same _ hpar'.out], hM⟩
            case measure => simp [intOf]; omega
          · rw [hba] at ha0
            have hba' := Lib.hid (beq_iff_eq.1 hba)
            clear hba
            obtain ⟨m1, m2⟩ := mul_small sb1 (show sgn P (swaps a b k) (common P sq a b k) ≤ 13 by omega) sx1 (show sq[k] ≤ 13 by omega)
            go_wp2_with (go_at_call 136; rw [hv.out]; refine (l04Grade_any _ _ HXL.out).mono ?_; rintro e w' ⟨rfl, rfl⟩; rw [HX2.out])
            go_quiet (fail)
            go_wp2
            go_roundw
            case rel => exact ⟨k + 1, x ^^^ 2 ^ k, by omega, HXO2.out, HXO3.out.trans HX2.out, by go_num, by rw [HXO.out], by simp only [swaps, if_pos HB.out, common, if_pos (And.intro HB.out hba'.out)]; rw [sgn_same _ hpar'.out, HG.out, sgn_mul], below_drewN hM _⟩
            case measure => simp [intOf]; omega
        · have hpar' := par1 hpar
          have hfl := sgn_flip (s := swaps a b k) _ hp cb1 cb2 hpar'
          have HF := Lib.hid hfl
          obtain ⟨fb1, fb2⟩ := sgn_bound (s := swaps a b k + pc (a / 2 ^ (k + 1))) hp cb1 cb2
          clear hfl hpar'
          cases hba : (bit a k == 1)
          · rw [hba] at ha0
            have hba' : Hid (¬ bit a k = 1) := Lib.hid (by simpa using hba)
            clear hba
            go_wp2_with (go_at_call 136; rw [hv.out]; refine (l04Grade_any _ _ HXL.out).mono ?_; rintro e w' ⟨rfl, rfl⟩; rw [HX2.out])
            go_roundw
            case rel => exact ⟨k + 1, x ^^^ 2 ^ k, by omega, HXO2.out, HXO3.out.trans HX2.out, by go_num, by rw [HXO.out], by simp only [swaps, if_pos HB.out, common, if_neg (fun hh : bit b k = 1 ∧ bit a k = 1 => hba'.out hh.2)]; rw [HF.out], hM⟩
            case measure => simp [intOf]; omega
          · rw [hba] at ha0
            have hba' := Lib.hid (beq_iff_eq.1 hba)
            clear hba
            rw [← HF.out] at fb1 fb2
            obtain ⟨m1, m2⟩ := mul_small fb1 (show (P - sgn P (swaps a b k) (common P sq a b k)) % P ≤ 13 by omega) sx1 (show sq[k] ≤ 13 by omega)
            go_wp2_with (go_at_call 136; rw [hv.out]; refine (l04Grade_any _ _ HXL.out).mono ?_; rintro e w' ⟨rfl, rfl⟩; rw [HX2.out])
            go_quiet (fail)
            go_wp2
            go_roundw
            case rel => exact ⟨k + 1, x ^^^ 2 ^ k, by omega, HXO2.out, HXO3.out.trans HX2.out, by go_num, by rw [HXO.out], by simp only [swaps, if_pos HB.out, common, if_pos (And.intro HB.out hba'.out)]; rw [show -sgn P (swaps a b k) (common P sq a b k) % P = (P - sgn P (swaps a b k) (common P sq a b k)) % P by rw [show P - sgn P (swaps a b k) (common P sq a b k) = -sgn P (swaps a b k) (common P sq a b k) + P by omega, Int.add_emod_right], wrap_in _ (by omega) (by omega), Int.tmod_eq_emod_of_nonneg m1, HF.out, HG.out, sgn_mul], below_drewN hM _⟩
            case measure => simp [intOf]; omega
      · simp only [(by simpa using hb : (bit b k == 1) = false), Bool.not_false] at hb0
        have hb' := Lib.hid hb
        go_wp2
        go_roundw
        case rel => exact ⟨k + 1, x, by omega, hx64, up_div hxa, by go_num, rfl, by simp only [swaps, if_neg hb'.out, common, if_neg (fun hh : bit b k = 1 ∧ bit a k = 1 => hb'.out hh.1)]; rfl, hM⟩
        case measure => simp [intOf]; omega
    · obtain rfl : k = n := by omega
      have hBB : Below w.heap.size w wr := hB1.trans (hM.mono hB1.size)
      clear har ha1
      go_wp2
      go_ret
      exact ⟨ret_int (by rw [fac_sgn, Hx.out]), hBB⟩
end Go.Proofs.YticofgmmjecleaaGreatDoor
namespace Go.Proofs.YticofgmmjecleaaGreatDoor
open Go.RowKit
theorem mod_mul_add (v a f p : Int) : (v + a % p * f) % p = (v + a * f) % p := by
  rw [Int.add_emod, mod_mul, ← Int.add_emod]
set_option maxRecDepth 2000 in
set_option maxHeartbeats 3200000 in
set_option maxRecDepth 8000 in
theorem l04Times_any (P : Int) (A : Option Addr) (n c : Nat) (sq : List Int) (X : Option Addr) (cx : Nat) (xs : List Int) (Y : Option Addr) (cy : Nat) (ys : List Int) (w : World) (hp : 2 ≤ P) (hp2 : P ≤ 13) (hn : n ≤ 6)
    (ha : Rd w A n (ints sq)) (hs : NumsL P sq) (hx : Rd w X (pw n) (ints xs)) (hxs : NumsL P xs) (hy : Rd w Y (pw n) (ints ys)) (hys : NumsL P ys) :
    Calls Tryz.prog 110 #[.agg #[.int .i64 P, .slice A n c], .slice X (pw n) cx, .slice Y (pw n) cy] w fun e w' => ∃ A' c', e = .returned (.slice A' (pw n) c') ∧ MkI w w' A' (pw n) c' (prodL P sq (fun _ _ => true) xs ys) := by
  have hxl : xs.length = pw n := by have := hx.1; rwa [ints_length] at this
  have hyl : ys.length = pw n := by have := hy.1; rwa [ints_length] at this
  have Hx := Lib.hid hxl; clear hxl
  have Hy := Lib.hid hyl; clear hyl
  have hpw : pw n ≤ 64 := pw_le hn
  have hmk := make_i (P := Tryz.prog) 22 2 Tryz.underlying22 info_i (pw n) (by omega)
  have hB0 : Below w.heap.size w (w.alloc (.cells #[.int .i64 P, .slice A n c] 28)) := (Below.refl _ w).alloc (Nat.le_refl _) _
  have hM := Mk.made (E := 2) (n := pw n) (z := .int .i64 0) hB0 (by simp only [maxLen]; omega)
  rw [ints_replicate] at hM
  have hk0 : Blk ((w.alloc (.cells #[.int .i64 P, .slice A n c] 28)).alloc (.cells (madeCells #[.int .i64 0] (pw n)) 2)) w.heap.size 28 #[.int .i64 P, .slice A n c] := (Blk.new w _ _).alloc _
  go_enter Tryz.func110, Tryz.ntmps110
  go_wp2
  clear hmk
  obtain ⟨w1, hw1⟩ : ∃ W, W = (w.alloc (.cells #[.int .i64 P, .slice A n c] 28)).alloc (.cells (madeCells #[.int .i64 0] (pw n)) 2) := ⟨_, rfl⟩
  rw [← hw1] at hM hk0 ⊢
  rw [World.size_alloc] at hM
  clear hB0 hw1
  obtain ⟨g, hg⟩ : ∃ g, g = w.heap.size + 1 := ⟨_, rfl⟩
  rw [← hg] at hM ⊢
  have hg1 : w.heap.size + 1 ≤ g := by omega
  clear hg
  go_loopw [8, 9] (fun i _ wr => ∃ k : Nat, k ≤ pw n ∧ i = .int .i64 k ∧ MkI w wr (some ⟨g, 0, none⟩) (pw n) (pw n) (addRows P sq (fun _ _ => true) xs ys (List.replicate (pw n) 0) k) ∧ Blk wr w.heap.size 28 #[.int .i64 P, .slice A n c]) (fun i _ _ => pw n - (intOf i).toNat)
  case atStart => exact ⟨0, by omega, rfl, by simpa [addRows] using hM, hk0⟩
  case round =>
    obtain ⟨k, hk, rfl, hM2, hk2⟩ := hrel
    clear hM hk0
    by_cases hlt : k < pw n
    · obtain ⟨gx, ox, hX, hxk, hcw⟩ := hx.int hlt
      subst hX
      obtain ⟨x1, x2⟩ := hxs _ (List.getElem_mem hxk)
      have hxn : Hid (xs.getD k 0 = xs[k]) := Lib.hid (by rw [List.getD_eq_getElem?_getD, List.getElem?_eq_getElem hxk]; rfl)
      have hgx := World.block_lt_of_cell? _ _ hcw
      have HGX : Hid (g ≠ gx) := Lib.hid (by simp at hgx; omega)
      have HCW := Lib.hid hcw
      clear hcw hgx
      have hR0 : MkI w wr (some ⟨g, 0, none⟩) (pw n) (pw n) (addRow P sq (fun _ _ => true) xs ys k (addRows P sq (fun _ _ => true) xs ys (List.replicate (pw n) 0) k) 0) := by simpa [addRow] using hM2
      have hN0 : NumsL P (addRows P sq (fun _ _ => true) xs ys (List.replicate (pw n) 0) k) := addRows_nums sq _ xs ys k (by omega) (NumsL.replicate (by omega) _)
      obtain ⟨L0, hL0⟩ : ∃ L, L = addRows P sq (fun _ _ => true) xs ys (List.replicate (pw n) 0) k := ⟨_, rfl⟩
      rw [← hL0] at hR0 hN0
      have HL0 := Lib.hid hL0
      clear hM2 hL0
      go_wp2
      go_loopw [9] (fun i wr => ∃ j : Nat, j ≤ pw n ∧ i = .int .i64 j ∧ MkI w wr (some ⟨g, 0, none⟩) (pw n) (pw n) (addRow P sq (fun _ _ => true) xs ys k L0 j) ∧ Blk wr w.heap.size 28 #[.int .i64 P, .slice A n c]) (fun i _ => pw n - (intOf i).toNat)
      case atStart => exact ⟨0, by omega, rfl, hR0, hk2⟩
      case round =>
        clear hR0 hk2
        obtain ⟨j, hj, rfl, hM3, hk3⟩ := hrel
        have hcx : wr.cell? ⟨gx, ox + k, none⟩ = some (.int .i64 xs[k]) := (hM3.b.cell (World.block_lt_of_cell? _ _ HCW.out)).trans HCW.out
        by_cases hlj : j < pw n
        · obtain ⟨gy, oy, hY, hyj, hcyw⟩ := hy.int hlj
          subst hY
          have hgy := World.block_lt_of_cell? _ _ hcyw
          have HGY : Hid (g ≠ gy) := Lib.hid (by simp at hgy; omega)
          have hcy : wr.cell? ⟨gy, oy + j, none⟩ = some (.int .i64 ys[j]) := (hM3.b.cell (World.block_lt_of_cell? _ _ hcyw)).trans hcyw
          clear hcyw hgy
          obtain ⟨y1, y2⟩ := hys _ (List.getElem_mem hyj)
          have hyn : Hid (ys.getD j 0 = ys[j]) := Lib.hid (by rw [List.getD_eq_getElem?_getD, List.getElem?_eq_getElem hyj]; rfl)
          cases h0 : (xs[k] != 0)
          · have hz : xs.getD k 0 = 0 := by rw [hxn.out]; simpa using h0
            have HM := Lib.hid hM3
            clear hM3
            go_wp2
            go_roundw
            case rel => exact ⟨k + 1, by omega, by go_num, by rw [addRows_succ, addRow_zero _ _ _ _ _ _ _ _ hz, ← HL0.out]; have := HM.out; rwa [addRow_zero _ _ _ _ _ _ _ _ hz] at this, hk3⟩
            case measure => simp [intOf]; omega
          · cases h1 : (ys[j] != 0)
            · have hz : Hid (ys.getD j 0 = 0) := Lib.hid (by rw [hyn.out]; simpa using h1)
              go_wp2
              go_roundw
              case rel => exact ⟨j + 1, by omega, by go_num, by rw [addRow_succ]; unfold addPair; rw [if_neg (fun hh => hh.2.1 hz.out)]; exact hM3, hk3⟩
              case measure => simp [intOf]; omega
            · have hidx : k ^^^ j < pw n := xor_lt hlt hlj
              have hxo := xor_all k (by omega) j (by omega)
              have hvb := (addRow_nums sq (fun _ _ => true) xs ys k j (by omega) hN0).getD (by omega) (k ^^^ j)
              obtain ⟨hoc, hof⟩ := mkI_at hM3.drew hidx
              obtain ⟨v0, hv0⟩ : ∃ v, v = (addRow P sq (fun _ _ => true) xs ys k L0 j).getD (k ^^^ j) 0 := ⟨_, rfl⟩
              rw [← hv0] at hvb hoc
              obtain ⟨v1, v2⟩ := hvb
              have HV0 := Lib.hid hv0
              have hAt : Hid (∀ w', MkI w w' (some ⟨g, 0, none⟩) (pw n) (pw n) (addRow P sq (fun _ _ => true) xs ys k L0 j) → w'.cell? ⟨g, k ^^^ j, none⟩ = some (.int .i64 v0) ∧ w'.frozen? ⟨g, k ^^^ j, none⟩ = false) :=
                Lib.hid (fun w' h => by rw [HV0.out]; exact mkI_at h hidx)
              clear hv0
              obtain ⟨f1, f2⟩ := fac_bound P sq k j hp
              obtain ⟨m1, m2⟩ := mul_small x1 (show xs[k] ≤ 13 by omega) y1 (show ys[j] ≤ 13 by omega)
              obtain ⟨r1, r2⟩ := emod_small (xs[k] * ys[j]) P (by omega)
              obtain ⟨m3, m4⟩ := mul_small r1 (show xs[k] * ys[j] % P ≤ 13 by omega) f1 (show fac P sq k j ≤ 13 by omega)
              have HNE : Hid (g ≠ w.heap.size ∧ g ≠ w.heap.size ∧ g ≠ gx ∧ g ≠ gy) := Lib.hid ⟨by omega, by omega, HGX.out, HGY.out⟩
              have hF : Hid (∀ w', MkI w w' (some ⟨g, 0, none⟩) (pw n) (pw n) (addRow P sq (fun _ _ => true) xs ys k L0 j) → Calls Tryz.prog 135 #[.agg #[.int .i64 P, .slice A n c], .int .i64 k, .int .i64 j] w' fun e w'' => e = .returned (.int .i64 (fac P sq k j)) ∧ Below w'.heap.size w' w'') :=
                Lib.hid (fun w' h => l04Blades_any P A n c sq k j w' hp hp2 hn (ha.below h.b) hs (by omega) (by omega))
              have HPair : Hid (xs.getD k 0 ≠ 0 ∧ ys.getD j 0 ≠ 0 ∧ true = true) := Lib.hid ⟨by rw [hxn.out]; simpa using h0, by rw [hyn.out]; simpa using h1, rfl⟩
              have W1 := i64_fit (xs[k] * ys[j]) (by omega) (by omega)
              have W2 := i64_fit (xs[k] * ys[j] % P * fac P sq k j) (by omega) (by omega)
              have W3 := i64_fit (v0 + xs[k] * ys[j] % P * fac P sq k j) (by omega) (by omega)
              have T1 := Int.tmod_eq_emod_of_nonneg (b := P) m1
              have T2 := Int.tmod_eq_emod_of_nonneg (a := (v0 + xs[k] * ys[j] % P * fac P sq k j)) (b := P) (by omega)
              obtain ⟨kc0, kc1⟩ := hk3.two
              have hoc2 : wr.cell? ⟨g, k ^^^ j, none⟩ = some (.int .i64 v0) := hoc
              have hof2 : wr.frozen? ⟨g, k ^^^ j, none⟩ = false := hof
              have hP0 : (P == 0) = false := by simp; omega
              have hP1 : (P == -1) = false := by simp; omega
              have hP2 : ¬ P = 0 := by omega
              have hO := hM3.drew
              have hk4 := hk3.drew
              go_wp2
              have i1 : (0 : Int) ≤ ((k ^^^ j : Nat) : Int) := by omega
              have i2 : ((k ^^^ j : Nat) : Int) < ((pw n : Nat) : Int) := by omega
              have i3 : (0 : Int) ≤ (k : Int) := by omega
              have i4 : (k : Int) < ((pw n : Nat) : Int) := by omega
              have i5 : (0 : Int) ≤ (j : Int) := by omega
              have i6 : (j : Int) < ((pw n : Nat) : Int) := by omega
              refine wp_obs 32 [[], [], [], [1, 2], [], [], [], [5, 6], [4, 5, 6, 7], [4, 5, 6, 7, 8], [], [], [10, 11], [10, 11, 12], [], [], [14, 15], [14, 15, 16], [10, 11, 12, 13, 14, 15, 16, 17], [], [19], [10, 11, 12, 13, 14, 15, 16, 17, 18, 19, 20], [], [], [], [22, 23, 24], [10, 11, 12, 13, 14, 15, 16, 17, 18, 19, 20, 21, 22, 23, 24, 25], [4, 5, 6, 7, 8, 9, 10, 11, 12, 13, 14, 15, 16, 17, 18, 19, 20, 21, 22, 23, 24, 25, 26], [], [28], [4, 5, 6, 7, 8, 9, 10, 11, 12, 13, 14, 15, 16, 17, 18, 19, 20, 21, 22, 23, 24, 25, 26, 27, 28, 29], [0, 1, 2, 3], [0, 1, 2, 3, 4, 5, 6, 7, 8, 9, 10, 11, 12, 13, 14, 15, 16, 17, 18, 19, 20, 21, 22, 23, 24, 25, 26, 27, 28, 29, 30, 31]] [VIs (.slice (some ⟨g, 0, none⟩) (pw n) (pw n)), VIs (.int .i64 (k)), VIs (.int .i64 (j)), VIs (.int .i64 ((k ^^^ j : Nat))), VIs (.slice (some ⟨g, 0, none⟩) (pw n) (pw n)), VIs (.int .i64 (k)), VIs (.int .i64 (j)), VIs (.int .i64 ((k ^^^ j : Nat))), VIs (.pointer (some ⟨g, k ^^^ j, none⟩)), VIs (.int .i64 (v0)), VIs (.slice (some ⟨gx, ox, none⟩) (pw n) cx), VIs (.int .i64 (k)), VIs (.pointer (some ⟨gx, ox + k, none⟩)), VIs (.int .i64 (xs[k])), VIs (.slice (some ⟨gy, oy, none⟩) (pw n) cy), VIs (.int .i64 (j)), VIs (.pointer (some ⟨gy, oy + j, none⟩)), VIs (.int .i64 (ys[j])), VIs (.int .i64 (xs[k] * ys[j])), VIs (.pointer (some ⟨w.heap.size, 0, none⟩)), VIs (.int .i64 (P)), VIs (.int .i64 (xs[k] * ys[j] % P)), VIs (.agg #[.int .i64 P, .slice A n c]), VIs (.int .i64 (k)), VIs (.int .i64 (j)), VIs (.int .i64 (fac P sq k j)), VIs (.int .i64 (xs[k] * ys[j] % P * fac P sq k j)), VIs (.int .i64 (v0 + xs[k] * ys[j] % P * fac P sq k j)), VIs (.pointer (some ⟨w.heap.size, 0, none⟩)), VIs (.int .i64 (P)), VIs (.int .i64 ((v0 + xs[k] * ys[j] % P * fac P sq k j) % P)), VIs (.pointer (some ⟨g, k ^^^ j, none⟩))] (fun w' => Blk w' w.heap.size 28 #[.int .i64 P, .slice A n c] ∧ MkI w w' (some ⟨g, 0, none⟩) (pw n) (pw n) (addRow P sq (fun _ _ => true) xs ys k L0 j) ∧ w'.cell? ⟨gx, ox + k, none⟩ = some (.int .i64 xs[k]) ∧ w'.cell? ⟨gy, oy + j, none⟩ = some (.int .i64 ys[j])) (by kernel_rfl) (by kernel_rfl) (fun _ _ h hb => ⟨h.1.below hb h.1.lt, h.2.1.below hb, (hb.cell (World.block_lt_of_cell? _ _ h.2.2.1)).trans h.2.2.1, (hb.cell (World.block_lt_of_cell? _ _ h.2.2.2)).trans h.2.2.2⟩) (⟨hk4, hO, hcx, hcy⟩) (fun x => ?_)
              refine obs_step (Eq.trans (by simp only [List.getElem?_toArray, List.getElem?_cons_zero]; exact rfl) rfl) rfl (fun w' hS hV K hK => ?_) ?_
              · obtain ⟨q0, q1⟩ := hS.1.two; obtain ⟨hoc, hof⟩ := hAt.out _ hS.2.1; have q2 := hS.2.2.1; have q3 := hS.2.2.2
                go_simp
                exact hK.out _ _ _ rfl rfl rfl (Below.refl _ _)
              simp only [List.setIfInBounds_toArray, List.set_cons_zero, List.set_cons_succ]
              refine obs_step (Eq.trans (by simp only [List.getElem?_toArray, List.getElem?_cons_succ, List.getElem?_cons_zero]; exact rfl) rfl) rfl (fun w' hS hV K hK => ?_) ?_
              · obtain ⟨q0, q1⟩ := hS.1.two; obtain ⟨hoc, hof⟩ := hAt.out _ hS.2.1; have q2 := hS.2.2.1; have q3 := hS.2.2.2
                go_simp
                exact hK.out _ _ _ rfl rfl rfl (Below.refl _ _)
              simp only [List.setIfInBounds_toArray, List.set_cons_zero, List.set_cons_succ]
              refine obs_step (Eq.trans (by simp only [List.getElem?_toArray, List.getElem?_cons_succ, List.getElem?_cons_zero]; exact rfl) rfl) rfl (fun w' hS hV K hK => ?_) ?_
              · obtain ⟨q0, q1⟩ := hS.1.two; obtain ⟨hoc, hof⟩ := hAt.out _ hS.2.1; have q2 := hS.2.2.1; have q3 := hS.2.2.2
                go_simp
                exact hK.out _ _ _ rfl rfl rfl (Below.refl _ _)
              simp only [List.setIfInBounds_toArray, List.set_cons_zero, List.set_cons_succ]
              refine obs_step (Eq.trans (by simp only [List.getElem?_toArray, List.getElem?_cons_succ, List.getElem?_cons_zero]; exact rfl) rfl) rfl (fun w' hS hV K hK => ?_) ?_
              · simp only [List.mem_cons, List.not_mem_nil, or_false, forall_eq_or_imp, forall_eq, List.getD_cons_succ, List.getD_cons_zero, VIs, VAny] at hV
                obtain ⟨e1, e2⟩ := hV
                obtain ⟨q0, q1⟩ := hS.1.two; obtain ⟨hoc, hof⟩ := hAt.out _ hS.2.1; have q2 := hS.2.2.1; have q3 := hS.2.2.2
                go_simp
                exact hK.out _ _ _ rfl rfl rfl (Below.refl _ _)
              simp only [List.setIfInBounds_toArray, List.set_cons_zero, List.set_cons_succ]
              refine obs_step (Eq.trans (by simp only [List.getElem?_toArray, List.getElem?_cons_succ, List.getElem?_cons_zero]; exact rfl) rfl) rfl (fun w' hS hV K hK => ?_) ?_
              · obtain ⟨q0, q1⟩ := hS.1.two; obtain ⟨hoc, hof⟩ := hAt.out _ hS.2.1; have q2 := hS.2.2.1; have q3 := hS.2.2.2
                go_simp
                exact hK.out _ _ _ rfl rfl rfl (Below.refl _ _)
              simp only [List.setIfInBounds_toArray, List.set_cons_zero, List.set_cons_succ]
              refine obs_step (Eq.trans (by simp only [List.getElem?_toArray, List.getElem?_cons_succ, List.getElem?_cons_zero]; exact rfl) rfl) rfl (fun w' hS hV K hK => ?_) ?_
              · obtain ⟨q0, q1⟩ := hS.1.two; obtain ⟨hoc, hof⟩ := hAt.out _ hS.2.1; have q2 := hS.2.2.1; have q3 := hS.2.2.2
                go_simp
                exact hK.out _ _ _ rfl rfl rfl (Below.refl _ _)
              simp only [List.setIfInBounds_toArray, List.set_cons_zero, List.set_cons_succ]
              refine obs_step (Eq.trans (by simp only [List.getElem?_toArray, List.getElem?_cons_succ, List.getElem?_cons_zero]; exact rfl) rfl) rfl (fun w' hS hV K hK => ?_) ?_
              · obtain ⟨q0, q1⟩ := hS.1.two; obtain ⟨hoc, hof⟩ := hAt.out _ hS.2.1; have q2 := hS.2.2.1; have q3 := hS.2.2.2
                go_simp
                exact hK.out _ _ _ rfl rfl rfl (Below.refl _ _)
              simp only [List.setIfInBounds_toArray, List.set_cons_zero, List.set_cons_succ]
              refine obs_step (Eq.trans (by simp only [List.getElem?_toArray, List.getElem?_cons_succ, List.getElem?_cons_zero]; exact rfl) rfl) rfl (fun w' hS hV K hK => ?_) ?_
              · simp only [List.mem_cons, List.not_mem_nil, or_false, forall_eq_or_imp, forall_eq, List.getD_cons_succ, List.getD_cons_zero, VIs, VAny] at hV
                obtain ⟨e5, e6⟩ := hV
                obtain ⟨q0, q1⟩ := hS.1.two; obtain ⟨hoc, hof⟩ := hAt.out _ hS.2.1; have q2 := hS.2.2.1; have q3 := hS.2.2.2
                go_simp
                exact hK.out _ _ _ rfl rfl rfl (Below.refl _ _)
              simp only [List.setIfInBounds_toArray, List.set_cons_zero, List.set_cons_succ]
              refine obs_step (Eq.trans (by simp only [List.getElem?_toArray, List.getElem?_cons_succ, List.getElem?_cons_zero]; exact rfl) rfl) rfl (fun w' hS hV K hK => ?_) ?_
              · simp only [List.mem_cons, List.not_mem_nil, or_false, forall_eq_or_imp, forall_eq, List.getD_cons_succ, List.getD_cons_zero, VIs, VAny] at hV
                obtain ⟨e4, e5, e6, e7⟩ := hV
                obtain ⟨q0, q1⟩ := hS.1.two; obtain ⟨hoc, hof⟩ := hAt.out _ hS.2.1; have q2 := hS.2.2.1; have q3 := hS.2.2.2
                go_simp
                exact hK.out _ _ _ rfl rfl rfl (Below.refl _ _)
              simp only [List.setIfInBounds_toArray, List.set_cons_zero, List.set_cons_succ]
              refine obs_step (Eq.trans (by simp only [List.getElem?_toArray, List.getElem?_cons_succ, List.getElem?_cons_zero]; exact rfl) rfl) rfl (fun w' hS hV K hK => ?_) ?_
              · simp only [List.mem_cons, List.not_mem_nil, or_false, forall_eq_or_imp, forall_eq, List.getD_cons_succ, List.getD_cons_zero, VIs, VAny] at hV
                obtain ⟨e4, e5, e6, e7, e8⟩ := hV
                obtain ⟨q0, q1⟩ := hS.1.two; obtain ⟨hoc, hof⟩ := hAt.out _ hS.2.1; have q2 := hS.2.2.1; have q3 := hS.2.2.2
                go_simp
                exact hK.out _ _ _ rfl rfl rfl (Below.refl _ _)
              simp only [List.setIfInBounds_toArray, List.set_cons_zero, List.set_cons_succ]
              refine obs_step (Eq.trans (by simp only [List.getElem?_toArray, List.getElem?_cons_succ, List.getElem?_cons_zero]; exact rfl) rfl) rfl (fun w' hS hV K hK => ?_) ?_
              · obtain ⟨q0, q1⟩ := hS.1.two; obtain ⟨hoc, hof⟩ := hAt.out _ hS.2.1; have q2 := hS.2.2.1; have q3 := hS.2.2.2
                go_simp
                exact hK.out _ _ _ rfl rfl rfl (Below.refl _ _)
              simp only [List.setIfInBounds_toArray, List.set_cons_zero, List.set_cons_succ]
              refine obs_step (Eq.trans (by simp only [List.getElem?_toArray, List.getElem?_cons_succ, List.getElem?_cons_zero]; exact rfl) rfl) rfl (fun w' hS hV K hK => ?_) ?_
              · obtain ⟨q0, q1⟩ := hS.1.two; obtain ⟨hoc, hof⟩ := hAt.out _ hS.2.1; have q2 := hS.2.2.1; have q3 := hS.2.2.2
                go_simp
                exact hK.out _ _ _ rfl rfl rfl (Below.refl _ _)
              simp only [List.setIfInBounds_toArray, List.set_cons_zero, List.set_cons_succ]
              refine obs_step (Eq.trans (by simp only [List.getElem?_toArray, List.getElem?_cons_succ, List.getElem?_cons_zero]; exact rfl) rfl) rfl (fun w' hS hV K hK => ?_) ?_
              · simp only [List.mem_cons, List.not_mem_nil, or_false, forall_eq_or_imp, forall_eq, List.getD_cons_succ, List.getD_cons_zero, VIs, VAny] at hV
                obtain ⟨e10, e11⟩ := hV
                obtain ⟨q0, q1⟩ := hS.1.two; obtain ⟨hoc, hof⟩ := hAt.out _ hS.2.1; have q2 := hS.2.2.1; have q3 := hS.2.2.2
                go_simp
                exact hK.out _ _ _ rfl rfl rfl (Below.refl _ _)
              simp only [List.setIfInBounds_toArray, List.set_cons_zero, List.set_cons_succ]
              refine obs_step (Eq.trans (by simp only [List.getElem?_toArray, List.getElem?_cons_succ, List.getElem?_cons_zero]; exact rfl) rfl) rfl (fun w' hS hV K hK => ?_) ?_
              · simp only [List.mem_cons, List.not_mem_nil, or_false, forall_eq_or_imp, forall_eq, List.getD_cons_succ, List.getD_cons_zero, VIs, VAny] at hV
                obtain ⟨e10, e11, e12⟩ := hV
                obtain ⟨q0, q1⟩ := hS.1.two; obtain ⟨hoc, hof⟩ := hAt.out _ hS.2.1; have q2 := hS.2.2.1; have q3 := hS.2.2.2
                go_simp
                exact hK.out _ _ _ rfl rfl rfl (Below.refl _ _)
              simp only [List.setIfInBounds_toArray, List.set_cons_zero, List.set_cons_succ]
              refine obs_step (Eq.trans (by simp only [List.getElem?_toArray, List.getElem?_cons_succ, List.getElem?_cons_zero]; exact rfl) rfl) rfl (fun w' hS hV K hK => ?_) ?_
              · obtain ⟨q0, q1⟩ := hS.1.two; obtain ⟨hoc, hof⟩ := hAt.out _ hS.2.1; have q2 := hS.2.2.1; have q3 := hS.2.2.2
                go_simp
                exact hK.out _ _ _ rfl rfl rfl (Below.refl _ _)
              simp only [List.setIfInBounds_toArray, List.set_cons_zero, List.set_cons_succ]
              refine obs_step (Eq.trans (by simp only [List.getElem?_toArray, List.getElem?_cons_succ, List.getElem?_cons_zero]; exact rfl) rfl) rfl (fun w' hS hV K hK => ?_) ?_
              · obtain ⟨q0, q1⟩ := hS.1.two; obtain ⟨hoc, hof⟩ := hAt.out _ hS.2.1; have q2 := hS.2.2.1; have q3 := hS.2.2.2
                go_simp
                exact hK.out _ _ _ rfl rfl rfl (Below.refl _ _)
              simp only [List.setIfInBounds_toArray, List.set_cons_zero, List.set_cons_succ]
              refine obs_step (Eq.trans (by simp only [List.getElem?_toArray, List.getElem?_cons_succ, List.getElem?_cons_zero]; exact rfl) rfl) rfl (fun w' hS hV K hK => ?_) ?_
              · simp only [List.mem_cons, List.not_mem_nil, or_false, forall_eq_or_imp, forall_eq, List.getD_cons_succ, List.getD_cons_zero, VIs, VAny] at hV
                obtain ⟨e14, e15⟩ := hV
                obtain ⟨q0, q1⟩ := hS.1.two; obtain ⟨hoc, hof⟩ := hAt.out _ hS.2.1; have q2 := hS.2.2.1; have q3 := hS.2.2.2
                go_simp
                exact hK.out _ _ _ rfl rfl rfl (Below.refl _ _)
              simp only [List.setIfInBounds_toArray, List.set_cons_zero, List.set_cons_succ]
              refine obs_step (Eq.trans (by simp only [List.getElem?_toArray, List.getElem?_cons_succ, List.getElem?_cons_zero]; exact rfl) rfl) rfl (fun w' hS hV K hK => ?_) ?_
              · simp only [List.mem_cons, List.not_mem_nil, or_false, forall_eq_or_imp, forall_eq, List.getD_cons_succ, List.getD_cons_zero, VIs, VAny] at hV
                obtain ⟨e14, e15, e16⟩ := hV
                obtain ⟨q0, q1⟩ := hS.1.two; obtain ⟨hoc, hof⟩ := hAt.out _ hS.2.1; have q2 := hS.2.2.1; have q3 := hS.2.2.2
                go_simp
                exact hK.out _ _ _ rfl rfl rfl (Below.refl _ _)
              simp only [List.setIfInBounds_toArray, List.set_cons_zero, List.set_cons_succ]
              refine obs_step (Eq.trans (by simp only [List.getElem?_toArray, List.getElem?_cons_succ, List.getElem?_cons_zero]; exact rfl) rfl) rfl (fun w' hS hV K hK => ?_) ?_
              · simp only [List.mem_cons, List.not_mem_nil, or_false, forall_eq_or_imp, forall_eq, List.getD_cons_succ, List.getD_cons_zero, VIs, VAny] at hV
                obtain ⟨e10, e11, e12, e13, e14, e15, e16, e17⟩ := hV
                obtain ⟨q0, q1⟩ := hS.1.two; obtain ⟨hoc, hof⟩ := hAt.out _ hS.2.1; have q2 := hS.2.2.1; have q3 := hS.2.2.2
                go_simp
                exact hK.out _ _ _ rfl rfl rfl (Below.refl _ _)
              simp only [List.setIfInBounds_toArray, List.set_cons_zero, List.set_cons_succ]
              refine obs_step (Eq.trans (by simp only [List.getElem?_toArray, List.getElem?_cons_succ, List.getElem?_cons_zero]; exact rfl) rfl) rfl (fun w' hS hV K hK => ?_) ?_
              · obtain ⟨q0, q1⟩ := hS.1.two; obtain ⟨hoc, hof⟩ := hAt.out _ hS.2.1; have q2 := hS.2.2.1; have q3 := hS.2.2.2
                go_simp
                exact hK.out _ _ _ rfl rfl rfl (Below.refl _ _)
              simp only [List.setIfInBounds_toArray, List.set_cons_zero, List.set_cons_succ]
              refine obs_step (Eq.trans (by simp only [List.getElem?_toArray, List.getElem?_cons_succ, List.getElem?_cons_zero]; exact rfl) rfl) rfl (fun w' hS hV K hK => ?_) ?_
              · simp only [List.mem_cons, List.not_mem_nil, or_false, forall_eq, List.getD_cons_succ, List.getD_cons_zero, VIs, VAny] at hV
                obtain e19 := hV
                obtain ⟨q0, q1⟩ := hS.1.two; obtain ⟨hoc, hof⟩ := hAt.out _ hS.2.1; have q2 := hS.2.2.1; have q3 := hS.2.2.2
                go_simp
                exact hK.out _ _ _ rfl rfl rfl (Below.refl _ _)
              simp only [List.setIfInBounds_toArray, List.set_cons_zero, List.set_cons_succ]
              refine obs_step (Eq.trans (by simp only [List.getElem?_toArray, List.getElem?_cons_succ, List.getElem?_cons_zero]; exact rfl) rfl) rfl (fun w' hS hV K hK => ?_) ?_
              · simp only [List.mem_cons, List.not_mem_nil, or_false, forall_eq_or_imp, forall_eq, List.getD_cons_succ, List.getD_cons_zero, VIs, VAny] at hV
                obtain ⟨e10, e11, e12, e13, e14, e15, e16, e17, e18, e19, e20⟩ := hV
                obtain ⟨q0, q1⟩ := hS.1.two; obtain ⟨hoc, hof⟩ := hAt.out _ hS.2.1; have q2 := hS.2.2.1; have q3 := hS.2.2.2
                go_simp
                exact hK.out _ _ _ rfl rfl rfl (Below.refl _ _)
              simp only [List.setIfInBounds_toArray, List.set_cons_zero, List.set_cons_succ]
              refine obs_step (Eq.trans (by simp only [List.getElem?_toArray, List.getElem?_cons_succ, List.getElem?_cons_zero]; exact rfl) rfl) rfl (fun w' hS hV K hK => ?_) ?_
              · obtain ⟨q0, q1⟩ := hS.1.two; obtain ⟨hoc, hof⟩ := hAt.out _ hS.2.1; have q2 := hS.2.2.1; have q3 := hS.2.2.2
                go_simp
                exact hK.out _ _ _ rfl rfl rfl (Below.refl _ _)
              simp only [List.setIfInBounds_toArray, List.set_cons_zero, List.set_cons_succ]
              refine obs_step (Eq.trans (by simp only [List.getElem?_toArray, List.getElem?_cons_succ, List.getElem?_cons_zero]; exact rfl) rfl) rfl (fun w' hS hV K hK => ?_) ?_
              · obtain ⟨q0, q1⟩ := hS.1.two; obtain ⟨hoc, hof⟩ := hAt.out _ hS.2.1; have q2 := hS.2.2.1; have q3 := hS.2.2.2
                go_simp
                exact hK.out _ _ _ rfl rfl rfl (Below.refl _ _)
              simp only [List.setIfInBounds_toArray, List.set_cons_zero, List.set_cons_succ]
              refine obs_step (Eq.trans (by simp only [List.getElem?_toArray, List.getElem?_cons_succ, List.getElem?_cons_zero]; exact rfl) rfl) rfl (fun w' hS hV K hK => ?_) ?_
              · obtain ⟨q0, q1⟩ := hS.1.two; obtain ⟨hoc, hof⟩ := hAt.out _ hS.2.1; have q2 := hS.2.2.1; have q3 := hS.2.2.2
                go_simp
                exact hK.out _ _ _ rfl rfl rfl (Below.refl _ _)
              simp only [List.setIfInBounds_toArray, List.set_cons_zero, List.set_cons_succ]
              refine obs_step (Eq.trans (by simp only [List.getElem?_toArray, List.getElem?_cons_succ, List.getElem?_cons_zero]; exact rfl) rfl) rfl (fun w' hS hV K hK => ?_) ?_
              · simp only [List.mem_cons, List.not_mem_nil, or_false, forall_eq_or_imp, forall_eq, List.getD_cons_succ, List.getD_cons_zero, VIs, VAny] at hV
                obtain ⟨e22, e23, e24⟩ := hV
                obtain ⟨q0, q1⟩ := hS.1.two; obtain ⟨hoc, hof⟩ := hAt.out _ hS.2.1; have q2 := hS.2.2.1; have q3 := hS.2.2.2
                go_simp
                refine (hF.out _ hS.2.1).mono ?_
                rintro e v1 ⟨rfl, hb⟩
                exact hK.out _ _ _ rfl rfl rfl hb
              simp only [List.setIfInBounds_toArray, List.set_cons_zero, List.set_cons_succ]
              refine obs_step (Eq.trans (by simp only [List.getElem?_toArray, List.getElem?_cons_succ, List.getElem?_cons_zero]; exact rfl) rfl) rfl (fun w' hS hV K hK => ?_) ?_
              · simp only [List.mem_cons, List.not_mem_nil, or_false, forall_eq_or_imp, forall_eq, List.getD_cons_succ, List.getD_cons_zero, VIs, VAny] at hV
                obtain ⟨e10, e11, e12, e13, e14, e15, e16, e17, e18, e19, e20, e21, e22, e23, e24, e25⟩ := hV
                obtain ⟨q0, q1⟩ := hS.1.two; obtain ⟨hoc, hof⟩ := hAt.out _ hS.2.1; have q2 := hS.2.2.1; have q3 := hS.2.2.2
                go_simp
                exact hK.out _ _ _ rfl rfl rfl (Below.refl _ _)
              simp only [List.setIfInBounds_toArray, List.set_cons_zero, List.set_cons_succ]
              refine obs_step (Eq.trans (by simp only [List.getElem?_toArray, List.getElem?_cons_succ, List.getElem?_cons_zero]; exact rfl) rfl) rfl (fun w' hS hV K hK => ?_) ?_
              · simp only [List.mem_cons, List.not_mem_nil, or_false, forall_eq_or_imp, forall_eq, List.getD_cons_succ, List.getD_cons_zero, VIs, VAny] at hV
                obtain ⟨e4, e5, e6, e7, e8, e9, e10, e11, e12, e13, e14, e15, e16, e17, e18, e19, e20, e21, e22, e23, e24, e25, e26⟩ := hV
                obtain ⟨q0, q1⟩ := hS.1.two; obtain ⟨hoc, hof⟩ := hAt.out _ hS.2.1; have q2 := hS.2.2.1; have q3 := hS.2.2.2
                go_simp
                exact hK.out _ _ _ rfl rfl rfl (Below.refl _ _)
              simp only [List.setIfInBounds_toArray, List.set_cons_zero, List.set_cons_succ]
              refine obs_step (Eq.trans (by simp only [List.getElem?_toArray, List.getElem?_cons_succ, List.getElem?_cons_zero]; exact rfl) rfl) rfl (fun w' hS hV K hK => ?_) ?_
              · obtain ⟨q0, q1⟩ := hS.1.two; obtain ⟨hoc, hof⟩ := hAt.out _ hS.2.1; have q2 := hS.2.2.1; have q3 := hS.2.2.2
                go_simp
                exact hK.out _ _ _ rfl rfl rfl (Below.refl _ _)
              simp only [List.setIfInBounds_toArray, List.set_cons_zero, List.set_cons_succ]
              refine obs_step (Eq.trans (by simp only [List.getElem?_toArray, List.getElem?_cons_succ, List.getElem?_cons_zero]; exact rfl) rfl) rfl (fun w' hS hV K hK => ?_) ?_
              · simp only [List.mem_cons, List.not_mem_nil, or_false, forall_eq, List.getD_cons_succ, List.getD_cons_zero, VIs, VAny] at hV
                obtain e28 := hV
                obtain ⟨q0, q1⟩ := hS.1.two; obtain ⟨hoc, hof⟩ := hAt.out _ hS.2.1; have q2 := hS.2.2.1; have q3 := hS.2.2.2
                go_simp
                exact hK.out _ _ _ rfl rfl rfl (Below.refl _ _)
              simp only [List.setIfInBounds_toArray, List.set_cons_zero, List.set_cons_succ]
              refine obs_step (Eq.trans (by simp only [List.getElem?_toArray, List.getElem?_cons_succ, List.getElem?_cons_zero]; exact rfl) rfl) rfl (fun w' hS hV K hK => ?_) ?_
              · simp only [List.mem_cons, List.not_mem_nil, or_false, forall_eq_or_imp, forall_eq, List.getD_cons_succ, List.getD_cons_zero, VIs, VAny] at hV
                obtain ⟨e4, e5, e6, e7, e8, e9, e10, e11, e12, e13, e14, e15, e16, e17, e18, e19, e20, e21, e22, e23, e24, e25, e26, e27, e28, e29⟩ := hV
                obtain ⟨q0, q1⟩ := hS.1.two; obtain ⟨hoc, hof⟩ := hAt.out _ hS.2.1; have q2 := hS.2.2.1; have q3 := hS.2.2.2
                go_simp
                exact hK.out _ _ _ rfl rfl rfl (Below.refl _ _)
              simp only [List.setIfInBounds_toArray, List.set_cons_zero, List.set_cons_succ]
              refine obs_step (Eq.trans (by simp only [List.getElem?_toArray, List.getElem?_cons_succ, List.getElem?_cons_zero]; exact rfl) rfl) rfl (fun w' hS hV K hK => ?_) ?_
              · simp only [List.mem_cons, List.not_mem_nil, or_false, forall_eq_or_imp, forall_eq, List.getD_cons_succ, List.getD_cons_zero, VIs, VAny] at hV
                obtain ⟨e0, e1, e2, e3⟩ := hV
                obtain ⟨q0, q1⟩ := hS.1.two; obtain ⟨hoc, hof⟩ := hAt.out _ hS.2.1; have q2 := hS.2.2.1; have q3 := hS.2.2.2
                go_simp
                exact hK.out _ _ _ rfl rfl rfl (Below.refl _ _)
              simp only [List.setIfInBounds_toArray, List.set_cons_zero, List.set_cons_succ]
              refine fun w' hS hV => ?_
              have hV := fun i hi => hV i (List.mem_range.1 hi)
              simp only [List.range, List.range.loop, List.mem_cons, List.not_mem_nil, or_false, forall_eq_or_imp, forall_eq, List.getD_cons_succ, List.getD_cons_zero, VIs, VAny] at hV
              obtain ⟨e0, e1, e2, e3, e4, e5, e6, e7, e8, e9, e10, e11, e12, e13, e14, e15, e16, e17, e18, e19, e20, e21, e22, e23, e24, e25, e26, e27, e28, e29, e30, e31⟩ := hV
              simp only [e0, e1, e2, e3, e4, e5, e6, e7, e8, e9, e10, e11, e12, e13, e14, e15, e16, e17, e18, e19, e20, e21, e22, e23, e24, e25, e26, e27, e28, e29, e30, e31]
              clear e0 e1 e2 e3 e4 e5 e6 e7 e8 e9 e10 e11 e12 e13 e14 e15 e16 e17 e18 e19 e20 e21 e22 e23 e24 e25 e26 e27 e28 e29 e30 e31
              obtain ⟨hk4, hO, s3, s4⟩ := hS
              obtain ⟨hoc, hof⟩ := hAt.out _ hO
              refine any_one (j := 32) (by kernel_rfl) (Eq.trans (by simp only [List.getElem?_toArray, List.getElem?_cons_succ, List.getElem?_cons_zero]; exact rfl) rfl) (fun K hK => ?_)
              go_simp
              refine hK.out _ _ (wpAny_done (by kernel_rfl) ?_ _)
              have hset := (hO.set (k ^^^ j) (.int .i64 ((v0 + xs[k] * ys[j] % P * fac P sq k j) % P))).1
              rw [ints_set] at hset
              have hkn := hk4.far (p := ⟨g, k ^^^ j, none⟩) HNE.out.1.symm (.int .i64 ((v0 + xs[k] * ys[j] % P * fac P sq k j) % P))
              clear W1 W2 W3 T1 T2 hoc hof hO hk4
              go_wp2
              go_roundw
              case rel => exact ⟨j + 1, by omega, by go_num, by rw [addRow_succ]; unfold addPair; rw [if_pos ⟨HPair.out.1, HPair.out.2.1, rfl⟩, ← HV0.out, hxn.out, hyn.out, ← mod_mul_add v0 (xs[k] * ys[j]) (fac P sq k j) P]; exact hset, hkn⟩
              case measure => simp [intOf]; omega
        · obtain rfl : j = pw n := by omega
          have HM := Lib.hid hM3
          clear hM3
          go_wp2
          go_roundw
          case rel => exact ⟨k + 1, by omega, by go_num, by rw [addRows_succ, Hy.out, ← HL0.out]; exact HM.out, hk3⟩
          case measure => simp [intOf]; omega
    · obtain rfl : k = pw n := by omega
      go_wp2
      go_ret
      exact ⟨_, _, rfl, by unfold prodL; rw [Hx.out]; exact hM2⟩
end Go.Proofs.YticofgmmjecleaaGreatDoor
namespace Go.Proofs.YticofgmmjecleaaGreatDoor
open Go.RowKit
theorem and_val : ∀ x : Nat, x < 64 → ∀ y : Nat, y < 64 → bits BinOp.and IntKind.i64 (x : Int) (y : Int) = ((x &&& y : Nat) : Int) := by decide +kernel
theorem andNot_all : ∀ x : Nat, x < 64 → ∀ y : Nat, y < 64 → (bits BinOp.andNot IntKind.i64 (x : Int) (y : Int) == 0) = (x &&& y == x) := by decide +kernel
/-- The left contraction of a multivector into another one. -/
def contrL (p : Int) (sq xs ys : List Int) : List Int := prodL p sq (fun a b => a &&& b == a) xs ys
theorem wedgeL_len (p : Int) (sq xs ys : List Int) : (wedgeL p sq xs ys).length = xs.length := prodL_len _ _ _ _ _
theorem contrL_len (p : Int) (sq xs ys : List Int) : (contrL p sq xs ys).length = xs.length := prodL_len _ _ _ _ _
theorem wedgeL_nums {p : Int} (hp : 0 < p) (sq xs ys : List Int) : NumsL p (wedgeL p sq xs ys) := prodL_nums sq _ xs ys hp
theorem contrL_nums {p : Int} (hp : 0 < p) (sq xs ys : List Int) : NumsL p (contrL p sq xs ys) := prodL_nums sq _ xs ys hp
set_option maxHeartbeats 400000 in
set_option maxRecDepth 8000 in
theorem within_takes : Takes 172 (fun a b => a &&& b == a) := by
  intro a b w h1 h2
  have h := andNot_all a h1 b h2
  go_enter Tryz.func172, Tryz.ntmps172
  go_wp2
  go_ret
  exact ⟨rfl, rfl⟩
set_option maxRecDepth 8000 in
set_option maxHeartbeats 800000 in
set_option maxRecDepth 8000 in
theorem contract_any (P : Int) (A : Option Addr) (n c : Nat) (sq : List Int) (X : Option Addr) (cx : Nat) (xs : List Int) (Y : Option Addr) (cy : Nat) (ys : List Int) (w : World) (hp : 2 ≤ P) (hp2 : P ≤ 13) (hn : n ≤ 6)
    (ha : Rd w A n (ints sq)) (hs : NumsL P sq) (hx : Rd w X (pw n) (ints xs)) (hxs : NumsL P xs) (hy : Rd w Y (pw n) (ints ys)) (hys : NumsL P ys) :
    Calls Tryz.prog 149 #[.agg #[.int .i64 P, .slice A n c], .slice X (pw n) cx, .slice Y (pw n) cy] w fun e w' => ∃ A' c', e = .returned (.slice A' (pw n) c') ∧ MkI w w' A' (pw n) c' (contrL P sq xs ys) := by
  have hB0 : Below w.heap.size w (w.alloc (.cells #[.int .i64 P, .slice A n c] 28)) := (Below.refl _ w).alloc (Nat.le_refl _) _
  have hcall := product_any 172 _ within_takes (fun _ _ => rfl) P A n c sq X cx xs Y cy ys _ hp hp2 hn (ha.below hB0) hs (hx.below hB0) hxs (hy.below hB0) hys
  go_enter Tryz.func149, Tryz.ntmps149
  go_wp2_with (go_at_call 142; refine hcall.mono ?_; rintro e w2 ⟨G2, d2, rfl, hM3⟩)
  go_ret
  exact ⟨_, _, rfl, hM3.after hB0⟩
theorem set_getD_same (L : List Int) (i : Nat) : L.set i (L.getD i 0) = L := by
  apply list_ext_getD 0 (by simp)
  intro j hj
  rw [List.length_set] at hj
  rw [getD_set]
  split
  · rename_i h; rw [h.1]
  · rfl
/-- A pair that is taken, whatever its numbers. -/
theorem addPair_all {p : Int} {sq : List Int} {t : Nat → Nat → Bool} {x y : List Int} {a : Nat} {out : List Int} {b : Nat} (hp : 0 < p) (hN : NumsL p out) (ht : t a b = true) :
    out.set (a ^^^ b) ((out.getD (a ^^^ b) 0 + x.getD a 0 * y.getD b 0 * fac p sq a b) % p) = addPair p sq t x y a out b := by
  unfold addPair
  by_cases h : x.getD a 0 ≠ 0 ∧ y.getD b 0 ≠ 0 ∧ t a b = true
  · rw [if_pos h]
  · rw [if_neg h]
    have h0 : x.getD a 0 * y.getD b 0 = 0 := by
      by_cases hx : x.getD a 0 = 0
      · rw [hx, Int.zero_mul]
      · by_cases hy : y.getD b 0 = 0
        · rw [hy, Int.mul_zero]
        · exact absurd ⟨hx, hy, ht⟩ h
    obtain ⟨v1, v2⟩ := hN.getD hp (a ^^^ b)
    rw [h0, Int.zero_mul, Int.add_zero, Int.emod_eq_of_lt v1 v2, set_getD_same]
theorem addPair_none {p : Int} {sq : List Int} {t : Nat → Nat → Bool} {x y : List Int} {a : Nat} {out : List Int} {b : Nat} (ht : t a b = false) : addPair p sq t x y a out b = out := by
  unfold addPair
  rw [if_neg (fun h => by rw [ht] at h; exact absurd h.2.2 (by decide))]
set_option maxRecDepth 2000 in
set_option maxHeartbeats 3200000 in
set_option maxRecDepth 8000 in
theorem l05Kind_0 (P : Int) (A : Option Addr) (n c : Nat) (sq : List Int) (X : Option Addr) (cx : Nat) (xs : List Int) (Y : Option Addr) (cy : Nat) (ys : List Int) (w : World) (hp : 2 ≤ P) (hp2 : P ≤ 13) (hn : n ≤ 6)
    (ha : Rd w A n (ints sq)) (hs : NumsL P sq) (hx : Rd w X (pw n) (ints xs)) (hxs : NumsL P xs) (hy : Rd w Y (pw n) (ints ys)) (hys : NumsL P ys) :
    Calls Tryz.prog 168 #[.agg #[.int .i64 P, .slice A n c], .slice X (pw n) cx, .slice Y (pw n) cy, .int .i64 0] w fun e w' => ∃ A' c', e = .returned (.slice A' (pw n) c') ∧ MkI w w' A' (pw n) c' (wedgeL P sq xs ys) := by
  have hxl : xs.length = pw n := by have := hx.1; rwa [ints_length] at this
  have hyl : ys.length = pw n := by have := hy.1; rwa [ints_length] at this
  have Hx := Lib.hid hxl; clear hxl
  have Hy := Lib.hid hyl; clear hyl
  obtain ⟨t, ht⟩ : ∃ t : Nat → Nat → Bool, t = fun a b => a &&& b == 0 := ⟨_, rfl⟩
  have HTK : Hid (∀ a b, t a b = (fun a b => a &&& b == 0) a b) := Lib.hid (fun a b => by rw [ht])
  have HDL : Hid (wedgeL P sq xs ys = addRows P sq t xs ys (List.replicate (pw n) 0) (pw n)) := Lib.hid (by unfold wedgeL prodL; rw [Hx.out, ht])
  clear ht
  have hpw : pw n ≤ 64 := pw_le hn
  have hmk := make_i (P := Tryz.prog) 22 2 Tryz.underlying22 info_i (pw n) (by omega)
  have hB0 : Below w.heap.size w (w.alloc (.cells #[.int .i64 P, .slice A n c] 28)) := (Below.refl _ w).alloc (Nat.le_refl _) _
  have hM := Mk.made (E := 2) (n := pw n) (z := .int .i64 0) hB0 (by simp only [maxLen]; omega)
  rw [ints_replicate] at hM
  have hk0 : Blk ((w.alloc (.cells #[.int .i64 P, .slice A n c] 28)).alloc (.cells (madeCells #[.int .i64 0] (pw n)) 2)) w.heap.size 28 #[.int .i64 P, .slice A n c] := (Blk.new w _ _).alloc _
  go_enter Tryz.func168, Tryz.ntmps168
  go_wp2
  clear hmk
  obtain ⟨w1, hw1⟩ : ∃ W, W = (w.alloc (.cells #[.int .i64 P, .slice A n c] 28)).alloc (.cells (madeCells #[.int .i64 0] (pw n)) 2) := ⟨_, rfl⟩
  rw [← hw1] at hM hk0 ⊢
  rw [World.size_alloc] at hM
  clear hB0 hw1
  obtain ⟨g, hg⟩ : ∃ g, g = w.heap.size + 1 := ⟨_, rfl⟩
  rw [← hg] at hM ⊢
  have hg1 : w.heap.size + 1 ≤ g := by omega
  clear hg
  go_loopw [10, 11] (fun i _ wr => ∃ k : Nat, k ≤ pw n ∧ i = .int .i64 k ∧ MkI w wr (some ⟨g, 0, none⟩) (pw n) (pw n) (addRows P sq t xs ys (List.replicate (pw n) 0) k) ∧ Blk wr w.heap.size 28 #[.int .i64 P, .slice A n c]) (fun i _ _ => pw n - (intOf i).toNat)
  case atStart => exact ⟨0, by omega, rfl, by simpa [addRows] using hM, hk0⟩
  case round =>
    obtain ⟨k, hk, rfl, hM2, hk2⟩ := hrel
    clear hM hk0
    by_cases hlt : k < pw n
    · obtain ⟨gx, ox, hX, hxk, hcw⟩ := hx.int hlt
      subst hX
      obtain ⟨x1, x2⟩ := hxs _ (List.getElem_mem hxk)
      have hxn : Hid (xs.getD k 0 = xs[k]) := Lib.hid (by rw [List.getD_eq_getElem?_getD, List.getElem?_eq_getElem hxk]; rfl)
      have hgx := World.block_lt_of_cell? _ _ hcw
      have HGX : Hid (g ≠ gx) := Lib.hid (by simp at hgx; omega)
      have HCW := Lib.hid hcw
      clear hcw hgx
      have hR0 : MkI w wr (some ⟨g, 0, none⟩) (pw n) (pw n) (addRow P sq t xs ys k (addRows P sq t xs ys (List.replicate (pw n) 0) k) 0) := by simpa [addRow] using hM2
      have hN0 : NumsL P (addRows P sq t xs ys (List.replicate (pw n) 0) k) := addRows_nums sq _ xs ys k (by omega) (NumsL.replicate (by omega) _)
      obtain ⟨L0, hL0⟩ : ∃ L, L = addRows P sq t xs ys (List.replicate (pw n) 0) k := ⟨_, rfl⟩
      rw [← hL0] at hR0 hN0
      have HL0 := Lib.hid hL0
      have HN0 := Lib.hid hN0
      clear hM2 hL0 hN0
      go_wp2
      go_loopw [11] (fun i wr => ∃ j : Nat, j ≤ pw n ∧ i = .int .i64 j ∧ MkI w wr (some ⟨g, 0, none⟩) (pw n) (pw n) (addRow P sq t xs ys k L0 j) ∧ Blk wr w.heap.size 28 #[.int .i64 P, .slice A n c]) (fun i _ => pw n - (intOf i).toNat)
      case atStart => exact ⟨0, by omega, rfl, hR0, hk2⟩
      case round =>
        clear hR0 hk2
        obtain ⟨j, hj, rfl, hM3, hk3⟩ := hrel
        have hcx : wr.cell? ⟨gx, ox + k, none⟩ = some (.int .i64 xs[k]) := (hM3.b.cell (World.block_lt_of_cell? _ _ HCW.out)).trans HCW.out
        by_cases hlj : j < pw n
        · obtain ⟨gy, oy, hY, hyj, hcyw⟩ := hy.int hlj
          subst hY
          have hgy := World.block_lt_of_cell? _ _ hcyw
          have HGY : Hid (g ≠ gy) := Lib.hid (by simp at hgy; omega)
          have hcy : wr.cell? ⟨gy, oy + j, none⟩ = some (.int .i64 ys[j]) := (hM3.b.cell (World.block_lt_of_cell? _ _ hcyw)).trans hcyw
          clear hcyw hgy
          obtain ⟨y1, y2⟩ := hys _ (List.getElem_mem hyj)
          have hyn : Hid (ys.getD j 0 = ys[j]) := Lib.hid (by rw [List.getD_eq_getElem?_getD, List.getElem?_eq_getElem hyj]; rfl)
          have hxa := and_val k (by omega) j (by omega)
          have HTKJ := Lib.hid (HTK.out k j)
          obtain ⟨cm, hcm⟩ : ∃ cm, cm = k &&& j := ⟨_, rfl⟩
          rw [← hcm] at hxa
          have HCM : Hid (cm = k &&& j) := Lib.hid hcm
          clear hcm
          by_cases hcc : cm = 0
          case neg =>
            have HF0 : Hid (t k j = false) := Lib.hid (by rw [HTKJ.out]; show (_ == _) = false; rw [← HCM.out]; simpa using hcc)
            have HM := Lib.hid hM3
            have HK3 := Lib.hid hk3
            clear hM3 hk3
            go_wp2
            go_roundw
            case rel => exact ⟨j + 1, by omega, by go_num, by rw [addRow_succ, addPair_none HF0.out]; exact HM.out, HK3.out⟩
            case measure => simp [intOf]; omega
          case pos =>
            have HF1 : Hid (t k j = true) := Lib.hid (by rw [HTKJ.out]; show (_ == _) = true; rw [← HCM.out]; simpa using hcc)
            have hidx : k ^^^ j < pw n := xor_lt hlt hlj
            have hxo := xor_all k (by omega) j (by omega)
            have HNR := Lib.hid (addRow_nums sq t xs ys k j (by omega) HN0.out)
            have hvb := HNR.out.getD (by omega) (k ^^^ j)
            obtain ⟨hoc, hof⟩ := mkI_at hM3.drew hidx
            obtain ⟨v0, hv0⟩ : ∃ v, v = (addRow P sq t xs ys k L0 j).getD (k ^^^ j) 0 := ⟨_, rfl⟩
            rw [← hv0] at hvb hoc
            obtain ⟨v1, v2⟩ := hvb
            have HV0 := Lib.hid hv0
            have hAt : Hid (∀ w', MkI w w' (some ⟨g, 0, none⟩) (pw n) (pw n) (addRow P sq t xs ys k L0 j) → w'.cell? ⟨g, k ^^^ j, none⟩ = some (.int .i64 v0) ∧ w'.frozen? ⟨g, k ^^^ j, none⟩ = false) :=
              Lib.hid (fun w' h => by rw [HV0.out]; exact mkI_at h hidx)
            clear hv0
            obtain ⟨f1, f2⟩ := fac_bound P sq k j hp
            obtain ⟨m1, m2⟩ := mul_small x1 (show xs[k] ≤ 13 by omega) y1 (show ys[j] ≤ 13 by omega)
            obtain ⟨r1, r2⟩ := emod_small (xs[k] * ys[j]) P (by omega)
            obtain ⟨m3, m4⟩ := mul_small r1 (show xs[k] * ys[j] % P ≤ 13 by omega) f1 (show fac P sq k j ≤ 13 by omega)
            have HNE : Hid (g ≠ w.heap.size ∧ g ≠ w.heap.size ∧ g ≠ gx ∧ g ≠ gy) := Lib.hid ⟨by omega, by omega, HGX.out, HGY.out⟩
            have hF : Hid (∀ w', MkI w w' (some ⟨g, 0, none⟩) (pw n) (pw n) (addRow P sq t xs ys k L0 j) → Calls Tryz.prog 135 #[.agg #[.int .i64 P, .slice A n c], .int .i64 k, .int .i64 j] w' fun e w'' => e = .returned (.int .i64 (fac P sq k j)) ∧ Below w'.heap.size w' w'') :=
              Lib.hid (fun w' h => l04Blades_any P A n c sq k j w' hp hp2 hn (ha.below h.b) hs (by omega) (by omega))
            have W1 := i64_fit (xs[k] * ys[j]) (by omega) (by omega)
            have W2 := i64_fit (xs[k] * ys[j] % P * fac P sq k j) (by omega) (by omega)
            have W3 := i64_fit (v0 + xs[k] * ys[j] % P * fac P sq k j) (by omega) (by omega)
            have T1 := Int.tmod_eq_emod_of_nonneg (b := P) m1
            have T2 := Int.tmod_eq_emod_of_nonneg (a := (v0 + xs[k] * ys[j] % P * fac P sq k j)) (b := P) (by omega)
            obtain ⟨kc0, kc1⟩ := hk3.two
            have hoc2 : wr.cell? ⟨g, k ^^^ j, none⟩ = some (.int .i64 v0) := hoc
            have hof2 : wr.frozen? ⟨g, k ^^^ j, none⟩ = false := hof
            have hP0 : (P == 0) = false := by simp; omega
            have hP1 : (P == -1) = false := by simp; omega
            have hP2 : ¬ P = 0 := by omega
            have hO := hM3.drew
            have hk4 := hk3.drew
            go_wp2
            have i1 : (0 : Int) ≤ ((k ^^^ j : Nat) : Int) := by omega
            have i2 : ((k ^^^ j : Nat) : Int) < ((pw n : Nat) : Int) := by omega
            have i3 : (0 : Int) ≤ (k : Int) := by omega
            have i4 : (k : Int) < ((pw n : Nat) : Int) := by omega
            have i5 : (0 : Int) ≤ (j : Int) := by omega
            have i6 : (j : Int) < ((pw n : Nat) : Int) := by omega
            refine wp_obs 32 [[], [], [], [1, 2], [], [], [], [5, 6], [4, 5, 6, 7], [4, 5, 6, 7, 8], [], [], [10, 11], [10, 11, 12], [], [], [14, 15], [14, 15, 16], [10, 11, 12, 13, 14, 15, 16, 17], [], [19], [10, 11, 12, 13, 14, 15, 16, 17, 18, 19, 20], [], [], [], [22, 23, 24], [10, 11, 12, 13, 14, 15, 16, 17, 18, 19, 20, 21, 22, 23, 24, 25], [4, 5, 6, 7, 8, 9, 10, 11, 12, 13, 14, 15, 16, 17, 18, 19, 20, 21, 22, 23, 24, 25, 26], [], [28], [4, 5, 6, 7, 8, 9, 10, 11, 12, 13, 14, 15, 16, 17, 18, 19, 20, 21, 22, 23, 24, 25, 26, 27, 28, 29], [0, 1, 2, 3], [0, 1, 2, 3, 4, 5, 6, 7, 8, 9, 10, 11, 12, 13, 14, 15, 16, 17, 18, 19, 20, 21, 22, 23, 24, 25, 26, 27, 28, 29, 30, 31]] [VIs (.slice (some ⟨g, 0, none⟩) (pw n) (pw n)), VIs (.int .i64 (k)), VIs (.int .i64 (j)), VIs (.int .i64 ((k ^^^ j : Nat))), VIs (.slice (some ⟨g, 0, none⟩) (pw n) (pw n)), VIs (.int .i64 (k)), VIs (.int .i64 (j)), VIs (.int .i64 ((k ^^^ j : Nat))), VIs (.pointer (some ⟨g, k ^^^ j, none⟩)), VIs (.int .i64 (v0)), VIs (.slice (some ⟨gx, ox, none⟩) (pw n) cx), VIs (.int .i64 (k)), VIs (.pointer (some ⟨gx, ox + k, none⟩)), VIs (.int .i64 (xs[k])), VIs (.slice (some ⟨gy, oy, none⟩) (pw n) cy), VIs (.int .i64 (j)), VIs (.pointer (some ⟨gy, oy + j, none⟩)), VIs (.int .i64 (ys[j])), VIs (.int .i64 (xs[k] * ys[j])), VIs (.pointer (some ⟨w.heap.size, 0, none⟩)), VIs (.int .i64 (P)), VIs (.int .i64 (xs[k] * ys[j] % P)), VIs (.agg #[.int .i64 P, .slice A n c]), VIs (.int .i64 (k)), VIs (.int .i64 (j)), VIs (.int .i64 (fac P sq k j)), VIs (.int .i64 (xs[k] * ys[j] % P * fac P sq k j)), VIs (.int .i64 (v0 + xs[k] * ys[j] % P * fac P sq k j)), VIs (.pointer (some ⟨w.heap.size, 0, none⟩)), VIs (.int .i64 (P)), VIs (.int .i64 ((v0 + xs[k] * ys[j] % P * fac P sq k j) % P)), VIs (.pointer (some ⟨g, k ^^^ j, none⟩))] (fun w' => Blk w' w.heap.size 28 #[.int .i64 P, .slice A n c] ∧ MkI w w' (some ⟨g, 0, none⟩) (pw n) (pw n) (addRow P sq t xs ys k L0 j) ∧ w'.cell? ⟨gx, ox + k, none⟩ = some (.int .i64 xs[k]) ∧ w'.cell? ⟨gy, oy + j, none⟩ = some (.int .i64 ys[j])) (by kernel_rfl) (by kernel_rfl) (fun _ _ h hb => ⟨h.1.below hb h.1.lt, h.2.1.below hb, (hb.cell (World.block_lt_of_cell? _ _ h.2.2.1)).trans h.2.2.1, (hb.cell (World.block_lt_of_cell? _ _ h.2.2.2)).trans h.2.2.2⟩) (⟨hk4, hO, hcx, hcy⟩) (fun x => ?_)
            refine obs_step (Eq.trans (by simp only [List.getElem?_toArray, List.getElem?_cons_zero]; exact rfl) rfl) rfl (fun w' hS hV K hK => ?_) ?_
            · obtain ⟨q0, q1⟩ := hS.1.two; obtain ⟨hoc, hof⟩ := hAt.out _ hS.2.1; have q2 := hS.2.2.1; have q3 := hS.2.2.2
              go_simp
              exact hK.out _ _ _ rfl rfl rfl (Below.refl _ _)
            simp only [List.setIfInBounds_toArray, List.set_cons_zero, List.set_cons_succ]
            refine obs_step (Eq.trans (by simp only [List.getElem?_toArray, List.getElem?_cons_succ, List.getElem?_cons_zero]; exact rfl) rfl) rfl (fun w' hS hV K hK => ?_) ?_
            · obtain ⟨q0, q1⟩ := hS.1.two; obtain ⟨hoc, hof⟩ := hAt.out _ hS.2.1; have q2 := hS.2.2.1; have q3 := hS.2.2.2
              go_simp
              exact hK.out _ _ _ rfl rfl rfl (Below.refl _ _)
            simp only [List.setIfInBounds_toArray, List.set_cons_zero, List.set_cons_succ]
            refine obs_step (Eq.trans (by simp only [List.getElem?_toArray, List.getElem?_cons_succ, List.getElem?_cons_zero]; exact rfl) rfl) rfl (fun w' hS hV K hK => ?_) ?_
            · obtain ⟨q0, q1⟩ := hS.1.two; obtain ⟨hoc, hof⟩ := hAt.out _ hS.2.1; have q2 := hS.2.2.1; have q3 := hS.2.2.2
              go_simp
              exact hK.out _ _ _ rfl rfl rfl (Below.refl _ _)
            simp only [List.setIfInBounds_toArray, List.set_cons_zero, List.set_cons_succ]
            refine obs_step (Eq.trans (by simp only [List.getElem?_toArray, List.getElem?_cons_succ, List.getElem?_cons_zero]; exact rfl) rfl) rfl (fun w' hS hV K hK => ?_) ?_
            · have e1 : x 1 = (.int .i64 (k)) := hV 1 (by decide)
              have e2 : x 2 = (.int .i64 (j)) := hV 2 (by decide)
              obtain ⟨q0, q1⟩ := hS.1.two; obtain ⟨hoc, hof⟩ := hAt.out _ hS.2.1; have q2 := hS.2.2.1; have q3 := hS.2.2.2
              go_simp
              exact hK.out _ _ _ rfl rfl rfl (Below.refl _ _)
            simp only [List.setIfInBounds_toArray, List.set_cons_zero, List.set_cons_succ]
            refine obs_step (Eq.trans (by simp only [List.getElem?_toArray, List.getElem?_cons_succ, List.getElem?_cons_zero]; exact rfl) rfl) rfl (fun w' hS hV K hK => ?_) ?_
            · obtain ⟨q0, q1⟩ := hS.1.two; obtain ⟨hoc, hof⟩ := hAt.out _ hS.2.1; have q2 := hS.2.2.1; have q3 := hS.2.2.2
              go_simp
              exact hK.out _ _ _ rfl rfl rfl (Below.refl _ _)
            simp only [List.setIfInBounds_toArray, List.set_cons_zero, List.set_cons_succ]
            refine obs_step (Eq.trans (by simp only [List.getElem?_toArray, List.getElem?_cons_succ, List.getElem?_cons_zero]; exact rfl) rfl) rfl (fun w' hS hV K hK => ?_) ?_
            · obtain ⟨q0, q1⟩ := hS.1.two; obtain ⟨hoc, hof⟩ := hAt.out _ hS.2.1; have q2 := hS.2.2.1; have q3 := hS.2.2.2
              go_simp
              exact hK.out _ _ _ rfl rfl rfl (Below.refl _ _)
            simp only [List.setIfInBounds_toArray, List.set_cons_zero, List.set_cons_succ]
            refine obs_step (Eq.trans (by simp only [List.getElem?_toArray, List.getElem?_cons_succ, List.getElem?_cons_zero]; exact rfl) rfl) rfl (fun w' hS hV K hK => ?_) ?_
            · obtain ⟨q0, q1⟩ := hS.1.two; obtain ⟨hoc, hof⟩ := hAt.out _ hS.2.1; have q2 := hS.2.2.1; have q3 := hS.2.2.2
              go_simp
              exact hK.out _ _ _ rfl rfl rfl (Below.refl _ _)
            simp only [List.setIfInBounds_toArray, List.set_cons_zero, List.set_cons_succ]
            refine obs_step (Eq.trans (by simp only [List.getElem?_toArray, List.getElem?_cons_succ, List.getElem?_cons_zero]; exact rfl) rfl) rfl (fun w' hS hV K hK => ?_) ?_
            · have e5 : x 5 = (.int .i64 (k)) := hV 5 (by decide)
              have e6 : x 6 = (.int .i64 (j)) := hV 6 (by decide)
              obtain ⟨q0, q1⟩ := hS.1.two; obtain ⟨hoc, hof⟩ := hAt.out _ hS.2.1; have q2 := hS.2.2.1; have q3 := hS.2.2.2
              go_simp
              exact hK.out _ _ _ rfl rfl rfl (Below.refl _ _)
            simp only [List.setIfInBounds_toArray, List.set_cons_zero, List.set_cons_succ]
            refine obs_step (Eq.trans (by simp only [List.getElem?_toArray, List.getElem?_cons_succ, List.getElem?_cons_zero]; exact rfl) rfl) rfl (fun w' hS hV K hK => ?_) ?_
            · have e4 : x 4 = (.slice (some ⟨g, 0, none⟩) (pw n) (pw n)) := hV 4 (by decide)
              have e5 : x 5 = (.int .i64 (k)) := hV 5 (by decide)
              have e6 : x 6 = (.int .i64 (j)) := hV 6 (by decide)
              have e7 : x 7 = (.int .i64 ((k ^^^ j : Nat))) := hV 7 (by decide)
              obtain ⟨q0, q1⟩ := hS.1.two; obtain ⟨hoc, hof⟩ := hAt.out _ hS.2.1; have q2 := hS.2.2.1; have q3 := hS.2.2.2
              go_simp
              exact hK.out _ _ _ rfl rfl rfl (Below.refl _ _)
            simp only [List.setIfInBounds_toArray, List.set_cons_zero, List.set_cons_succ]
            refine obs_step (Eq.trans (by simp only [List.getElem?_toArray, List.getElem?_cons_succ, List.getElem?_cons_zero]; exact rfl) rfl) rfl (fun w' hS hV K hK => ?_) ?_
            · have e4 : x 4 = (.slice (some ⟨g, 0, none⟩) (pw n) (pw n)) := hV 4 (by decide)
              have e5 : x 5 = (.int .i64 (k)) := hV 5 (by decide)
              have e6 : x 6 = (.int .i64 (j)) := hV 6 (by decide)
              have e7 : x 7 = (.int .i64 ((k ^^^ j : Nat))) := hV 7 (by decide)
              have e8 : x 8 = (.pointer (some ⟨g, k ^^^ j, none⟩)) := hV 8 (by decide)
              obtain ⟨q0, q1⟩ := hS.1.two; obtain ⟨hoc, hof⟩ := hAt.out _ hS.2.1; have q2 := hS.2.2.1; have q3 := hS.2.2.2
              go_simp
              exact hK.out _ _ _ rfl rfl rfl (Below.refl _ _)
            simp only [List.setIfInBounds_toArray, List.set_cons_zero, List.set_cons_succ]
            refine obs_step (Eq.trans (by simp only [List.getElem?_toArray, List.getElem?_cons_succ, List.getElem?_cons_zero]; exact rfl) rfl) rfl (fun w' hS hV K hK => ?_) ?_
            · obtain ⟨q0, q1⟩ := hS.1.two; obtain ⟨hoc, hof⟩ := hAt.out _ hS.2.1; have q2 := hS.2.2.1; have q3 := hS.2.2.2
              go_simp
              exact hK.out _ _ _ rfl rfl rfl (Below.refl _ _)
            simp only [List.setIfInBounds_toArray, List.set_cons_zero, List.set_cons_succ]
            refine obs_step (Eq.trans (by simp only [List.getElem?_toArray, List.getElem?_cons_succ, List.getElem?_cons_zero]; exact rfl) rfl) rfl (fun w' hS hV K hK => ?_) ?_
            · obtain ⟨q0, q1⟩ := hS.1.two; obtain ⟨hoc, hof⟩ := hAt.out _ hS.2.1; have q2 := hS.2.2.1; have q3 := hS.2.2.2
              go_simp
              exact hK.out _ _ _ rfl rfl rfl (Below.refl _ _)
            simp only [List.setIfInBounds_toArray, List.set_cons_zero, List.set_cons_succ]
            refine obs_step (Eq.trans (by simp only [List.getElem?_toArray, List.getElem?_cons_succ, List.getElem?_cons_zero]; exact rfl) rfl) rfl (fun w' hS hV K hK => ?_) ?_
            · have e10 : x 10 = (.slice (some ⟨gx, ox, none⟩) (pw n) cx) := hV 10 (by decide)
              have e11 : x 11 = (.int .i64 (k)) := hV 11 (by decide)
              obtain ⟨q0, q1⟩ := hS.1.two; obtain ⟨hoc, hof⟩ := hAt.out _ hS.2.1; have q2 := hS.2.2.1; have q3 := hS.2.2.2
              go_simp
              exact hK.out _ _ _ rfl rfl rfl (Below.refl _ _)
            simp only [List.setIfInBounds_toArray, List.set_cons_zero, List.set_cons_succ]
            refine obs_step (Eq.trans (by simp only [List.getElem?_toArray, List.getElem?_cons_succ, List.getElem?_cons_zero]; exact rfl) rfl) rfl (fun w' hS hV K hK => ?_) ?_
            · have e10 : x 10 = (.slice (some ⟨gx, ox, none⟩) (pw n) cx) := hV 10 (by decide)
              have e11 : x 11 = (.int .i64 (k)) := hV 11 (by decide)
              have e12 : x 12 = (.pointer (some ⟨gx, ox + k, none⟩)) := hV 12 (by decide)
              obtain ⟨q0, q1⟩ := hS.1.two; obtain ⟨hoc, hof⟩ := hAt.out _ hS.2.1; have q2 := hS.2.2.1; have q3 := hS.2.2.2
              go_simp
              exact hK.out _ _ _ rfl rfl rfl (Below.refl _ _)
            simp only [List.setIfInBounds_toArray, List.set_cons_zero, List.set_cons_succ]
            refine obs_step (Eq.trans (by simp only [List.getElem?_toArray, List.getElem?_cons_succ, List.getElem?_cons_zero]; exact rfl) rfl) rfl (fun w' hS hV K hK => ?_) ?_
            · obtain ⟨q0, q1⟩ := hS.1.two; obtain ⟨hoc, hof⟩ := hAt.out _ hS.2.1; have q2 := hS.2.2.1; have q3 := hS.2.2.2
              go_simp
              exact hK.out _ _ _ rfl rfl rfl (Below.refl _ _)
            simp only [List.setIfInBounds_toArray, List.set_cons_zero, List.set_cons_succ]
            refine obs_step (Eq.trans (by simp only [List.getElem?_toArray, List.getElem?_cons_succ, List.getElem?_cons_zero]; exact rfl) rfl) rfl (fun w' hS hV K hK => ?_) ?_
            · obtain ⟨q0, q1⟩ := hS.1.two; obtain ⟨hoc, hof⟩ := hAt.out _ hS.2.1; have q2 := hS.2.2.1; have q3 := hS.2.2.2
              go_simp
              exact hK.out _ _ _ rfl rfl rfl (Below.refl _ _)
            simp only [List.setIfInBounds_toArray, List.set_cons_zero, List.set_cons_succ]
            refine obs_step (Eq.trans (by simp only [List.getElem?_toArray, List.getElem?_cons_succ, List.getElem?_cons_zero]; exact rfl) rfl) rfl (fun w' hS hV K hK => ?_) ?_
            · have e14 : x 14 = (.slice (some ⟨gy, oy, none⟩) (pw n) cy) := hV 14 (by decide)
              have e15 : x 15 = (.int .i64 (j)) := hV 15 (by decide)
              obtain ⟨q0, q1⟩ := hS.1.two; obtain ⟨hoc, hof⟩ := hAt.out _ hS.2.1; have q2 := hS.2.2.1; have q3 := hS.2.2.2
              go_simp
              exact hK.out _ _ _ rfl rfl rfl (Below.refl _ _)
            simp only [List.setIfInBounds_toArray, List.set_cons_zero, List.set_cons_succ]
            refine obs_step (Eq.trans (by simp only [List.getElem?_toArray, List.getElem?_cons_succ, List.getElem?_cons_zero]; exact rfl) rfl) rfl (fun w' hS hV K hK => ?_) ?_
            · have e14 : x 14 = (.slice (some ⟨gy, oy, none⟩) (pw n) cy) := hV 14 (by decide)
              have e15 : x 15 = (.int .i64 (j)) := hV 15 (by decide)
              have e16 : x 16 = (.pointer (some ⟨gy, oy + j, none⟩)) := hV 16 (by decide)
              obtain ⟨q0, q1⟩ := hS.1.two; obtain ⟨hoc, hof⟩ := hAt.out _ hS.2.1; have q2 := hS.2.2.1; have q3 := hS.2.2.2
              go_simp
              exact hK.out _ _ _ rfl rfl rfl (Below.refl _ _)
            simp only [List.setIfInBounds_toArray, List.set_cons_zero, List.set_cons_succ]
            refine obs_step (Eq.trans (by simp only [List.getElem?_toArray, List.getElem?_cons_succ, List.getElem?_cons_zero]; exact rfl) rfl) rfl (fun w' hS hV K hK => ?_) ?_
            · have e10 : x 10 = (.slice (some ⟨gx, ox, none⟩) (pw n) cx) := hV 10 (by decide)
              have e11 : x 11 = (.int .i64 (k)) := hV 11 (by decide)
              have e12 : x 12 = (.pointer (some ⟨gx, ox + k, none⟩)) := hV 12 (by decide)
              have e13 : x 13 = (.int .i64 (xs[k])) := hV 13 (by decide)
              have e14 : x 14 = (.slice (some ⟨gy, oy, none⟩) (pw n) cy) := hV 14 (by decide)
              have e15 : x 15 = (.int .i64 (j)) := hV 15 (by decide)
              have e16 : x 16 = (.pointer (some ⟨gy, oy + j, none⟩)) := hV 16 (by decide)
              have e17 : x 17 = (.int .i64 (ys[j])) := hV 17 (by decide)
              obtain ⟨q0, q1⟩ := hS.1.two; obtain ⟨hoc, hof⟩ := hAt.out _ hS.2.1; have q2 := hS.2.2.1; have q3 := hS.2.2.2
              go_simp
              exact hK.out _ _ _ rfl rfl rfl (Below.refl _ _)
            simp only [List.setIfInBounds_toArray, List.set_cons_zero, List.set_cons_succ]
            refine obs_step (Eq.trans (by simp only [List.getElem?_toArray, List.getElem?_cons_succ, List.getElem?_cons_zero]; exact rfl) rfl) rfl (fun w' hS hV K hK => ?_) ?_
            · obtain ⟨q0, q1⟩ := hS.1.two; obtain ⟨hoc, hof⟩ := hAt.out _ hS.2.1; have q2 := hS.2.2.1; have q3 := hS.2.2.2
              go_simp
              exact hK.out _ _ _ rfl rfl rfl (Below.refl _ _)
            simp only [List.setIfInBounds_toArray, List.set_cons_zero, List.set_cons_succ]
            refine obs_step (Eq.trans (by simp only [List.getElem?_toArray, List.getElem?_cons_succ, List.getElem?_cons_zero]; exact rfl) rfl) rfl (fun w' hS hV K hK => ?_) ?_
            · have e19 : x 19 = (.pointer (some ⟨w.heap.size, 0, none⟩)) := hV 19 (by decide)
              obtain ⟨q0, q1⟩ := hS.1.two; obtain ⟨hoc, hof⟩ := hAt.out _ hS.2.1; have q2 := hS.2.2.1; have q3 := hS.2.2.2
              go_simp
              exact hK.out _ _ _ rfl rfl rfl (Below.refl _ _)
            simp only [List.setIfInBounds_toArray, List.set_cons_zero, List.set_cons_succ]
            refine obs_step (Eq.trans (by simp only [List.getElem?_toArray, List.getElem?_cons_succ, List.getElem?_cons_zero]; exact rfl) rfl) rfl (fun w' hS hV K hK => ?_) ?_
            · have e10 : x 10 = (.slice (some ⟨gx, ox, none⟩) (pw n) cx) := hV 10 (by decide)
              have e11 : x 11 = (.int .i64 (k)) := hV 11 (by decide)
              have e12 : x 12 = (.pointer (some ⟨gx, ox + k, none⟩)) := hV 12 (by decide)
              have e13 : x 13 = (.int .i64 (xs[k])) := hV 13 (by decide)
              have e14 : x 14 = (.slice (some ⟨gy, oy, none⟩) (pw n) cy) := hV 14 (by decide)
              have e15 : x 15 = (.int .i64 (j)) := hV 15 (by decide)
              have e16 : x 16 = (.pointer (some ⟨gy, oy + j, none⟩)) := hV 16 (by decide)
              have e17 : x 17 = (.int .i64 (ys[j])) := hV 17 (by decide)
              have e18 : x 18 = (.int .i64 (xs[k] * ys[j])) := hV 18 (by decide)
              have e19 : x 19 = (.pointer (some ⟨w.heap.size, 0, none⟩)) := hV 19 (by decide)
              have e20 : x 20 = (.int .i64 (P)) := hV 20 (by decide)
              obtain ⟨q0, q1⟩ := hS.1.two; obtain ⟨hoc, hof⟩ := hAt.out _ hS.2.1; have q2 := hS.2.2.1; have q3 := hS.2.2.2
              go_simp
              exact hK.out _ _ _ rfl rfl rfl (Below.refl _ _)
            simp only [List.setIfInBounds_toArray, List.set_cons_zero, List.set_cons_succ]
            refine obs_step (Eq.trans (by simp only [List.getElem?_toArray, List.getElem?_cons_succ, List.getElem?_cons_zero]; exact rfl) rfl) rfl (fun w' hS hV K hK => ?_) ?_
            · obtain ⟨q0, q1⟩ := hS.1.two; obtain ⟨hoc, hof⟩ := hAt.out _ hS.2.1; have q2 := hS.2.2.1; have q3 := hS.2.2.2
              go_simp
              exact hK.out _ _ _ rfl rfl rfl (Below.refl _ _)
            simp only [List.setIfInBounds_toArray, List.set_cons_zero, List.set_cons_succ]
            refine obs_step (Eq.trans (by simp only [List.getElem?_toArray, List.getElem?_cons_succ, List.getElem?_cons_zero]; exact rfl) rfl) rfl (fun w' hS hV K hK => ?_) ?_
            · obtain ⟨q0, q1⟩ := hS.1.two; obtain ⟨hoc, hof⟩ := hAt.out _ hS.2.1; have q2 := hS.2.2.1; have q3 := hS.2.2.2
              go_simp
              exact hK.out _ _ _ rfl rfl rfl (Below.refl _ _)
            simp only [List.setIfInBounds_toArray, List.set_cons_zero, List.set_cons_succ]
            refine obs_step (Eq.trans (by simp only [List.getElem?_toArray, List.getElem?_cons_succ, List.getElem?_cons_zero]; exact rfl) rfl) rfl (fun w' hS hV K hK => ?_) ?_
            · obtain ⟨q0, q1⟩ := hS.1.two; obtain ⟨hoc, hof⟩ := hAt.out _ hS.2.1; have q2 := hS.2.2.1; have q3 := hS.2.2.2
              go_simp
              exact hK.out _ _ _ rfl rfl rfl (Below.refl _ _)
            simp only [List.setIfInBounds_toArray, List.set_cons_zero, List.set_cons_succ]
            refine obs_step (Eq.trans (by simp only [List.getElem?_toArray, List.getElem?_cons_succ, List.getElem?_cons_zero]; exact rfl) rfl) rfl (fun w' hS hV K hK => ?_) ?_
            · have e22 : x 22 = (.agg #[.int .i64 P, .slice A n c]) := hV 22 (by decide)
              have e23 : x 23 = (.int .i64 (k)) := hV 23 (by decide)
              have e24 : x 24 = (.int .i64 (j)) := hV 24 (by decide)
              obtain ⟨q0, q1⟩ := hS.1.two; obtain ⟨hoc, hof⟩ := hAt.out _ hS.2.1; have q2 := hS.2.2.1; have q3 := hS.2.2.2
              go_simp
              refine (hF.out _ hS.2.1).mono ?_
              rintro e v1 ⟨rfl, hb⟩
              exact hK.out _ _ _ rfl rfl rfl hb
            simp only [List.setIfInBounds_toArray, List.set_cons_zero, List.set_cons_succ]
            refine obs_step (Eq.trans (by simp only [List.getElem?_toArray, List.getElem?_cons_succ, List.getElem?_cons_zero]; exact rfl) rfl) rfl (fun w' hS hV K hK => ?_) ?_
            · have e10 : x 10 = (.slice (some ⟨gx, ox, none⟩) (pw n) cx) := hV 10 (by decide)
              have e11 : x 11 = (.int .i64 (k)) := hV 11 (by decide)
              have e12 : x 12 = (.pointer (some ⟨gx, ox + k, none⟩)) := hV 12 (by decide)
              have e13 : x 13 = (.int .i64 (xs[k])) := hV 13 (by decide)
              have e14 : x 14 = (.slice (some ⟨gy, oy, none⟩) (pw n) cy) := hV 14 (by decide)
              have e15 : x 15 = (.int .i64 (j)) := hV 15 (by decide)
              have e16 : x 16 = (.pointer (some ⟨gy, oy + j, none⟩)) := hV 16 (by decide)
              have e17 : x 17 = (.int .i64 (ys[j])) := hV 17 (by decide)
              have e18 : x 18 = (.int .i64 (xs[k] * ys[j])) := hV 18 (by decide)
              have e19 : x 19 = (.pointer (some ⟨w.heap.size, 0, none⟩)) := hV 19 (by decide)
              have e20 : x 20 = (.int .i64 (P)) := hV 20 (by decide)
              have e21 : x 21 = (.int .i64 (xs[k] * ys[j] % P)) := hV 21 (by decide)
              have e22 : x 22 = (.agg #[.int .i64 P, .slice A n c]) := hV 22 (by decide)
              have e23 : x 23 = (.int .i64 (k)) := hV 23 (by decide)
              have e24 : x 24 = (.int .i64 (j)) := hV 24 (by decide)
              have e25 : x 25 = (.int .i64 (fac P sq k j)) := hV 25 (by decide)
              obtain ⟨q0, q1⟩ := hS.1.two; obtain ⟨hoc, hof⟩ := hAt.out _ hS.2.1; have q2 := hS.2.2.1; have q3 := hS.2.2.2
              go_simp
              exact hK.out _ _ _ rfl rfl rfl (Below.refl _ _)
            simp only [List.setIfInBounds_toArray, List.set_cons_zero, List.set_cons_succ]
            refine obs_step (Eq.trans (by simp only [List.getElem?_toArray, List.getElem?_cons_succ, List.getElem?_cons_zero]; exact rfl) rfl) rfl (fun w' hS hV K hK => ?_) ?_
            · have e4 : x 4 = (.slice (some ⟨g, 0, none⟩) (pw n) (pw n)) := hV 4 (by decide)
              have e5 : x 5 = (.int .i64 (k)) := hV 5 (by decide)
              have e6 : x 6 = (.int .i64 (j)) := hV 6 (by decide)
              have e7 : x 7 = (.int .i64 ((k ^^^ j : Nat))) := hV 7 (by decide)
              have e8 : x 8 = (.pointer (some ⟨g, k ^^^ j, none⟩)) := hV 8 (by decide)
              have e9 : x 9 = (.int .i64 (v0)) := hV 9 (by decide)
              have e10 : x 10 = (.slice (some ⟨gx, ox, none⟩) (pw n) cx) := hV 10 (by decide)
              have e11 : x 11 = (.int .i64 (k)) := hV 11 (by decide)
              have e12 : x 12 = (.pointer (some ⟨gx, ox + k, none⟩)) := hV 12 (by decide)
              have e13 : x 13 = (.int .i64 (xs[k])) := hV 13 (by decide)
              have e14 : x 14 = (.slice (some ⟨gy, oy, none⟩) (pw n) cy) := hV 14 (by decide)
              have e15 : x 15 = (.int .i64 (j)) := hV 15 (by decide)
              have e16 : x 16 = (.pointer (some ⟨gy, oy + j, none⟩)) := hV 16 (by decide)
              have e17 : x 17 = (.int .i64 (ys[j])) := hV 17 (by decide)
              have e18 : x 18 = (.int .i64 (xs[k] * ys[j])) := hV 18 (by decide)
              have e19 : x 19 = (.pointer (some ⟨w.heap.size, 0, none⟩)) := hV 19 (by decide)
              have e20 : x 20 = (.int .i64 (P)) := hV 20 (by decide)
              have e21 : x 21 = (.int .i64 (xs[k] * ys[j] % P)) := hV 21 (by decide)
              have e22 : x 22 = (.agg #[.int .i64 P, .slice A n c]) := hV 22 (by decide)
              have e23 : x 23 = (.int .i64 (k)) := hV 23 (by decide)
              have e24 : x 24 = (.int .i64 (j)) := hV 24 (by decide)
              have e25 : x 25 = (.int .i64 (fac P sq k j)) := hV 25 (by decide)
              have e26 : x 26 = (.int .i64 (xs[k] * ys[j] % P * fac P sq k j)) := hV 26 (by decide)
              obtain ⟨q0, q1⟩ := hS.1.two; obtain ⟨hoc, hof⟩ := hAt.out _ hS.2.1; have q2 := hS.2.2.1; have q3 := hS.2.2.2
              go_simp
              exact hK.out _ _ _ rfl rfl rfl (Below.refl _ _)
            simp only [List.setIfInBounds_toArray, List.set_cons_zero, List.set_cons_succ]
            refine obs_step (Eq.trans (by simp only [List.getElem?_toArray, List.getElem?_cons_succ, List.getElem?_cons_zero]; exact rfl) rfl) rfl (fun w' hS hV K hK => ?_) ?_
            · obtain ⟨q0, q1⟩ := hS.1.two; obtain ⟨hoc, hof⟩ := hAt.out _ hS.2.1; have q2 := hS.2.2.1; have q3 := hS.2.2.2
              go_simp
              exact hK.out _ _ _ rfl rfl rfl (Below.refl _ _)
            simp only [List.setIfInBounds_toArray, List.set_cons_zero, List.set_cons_succ]
            refine obs_step (Eq.trans (by simp only [List.getElem?_toArray, List.getElem?_cons_succ, List.getElem?_cons_zero]; exact rfl) rfl) rfl (fun w' hS hV K hK => ?_) ?_
            · have e28 : x 28 = (.pointer (some ⟨w.heap.size, 0, none⟩)) := hV 28 (by decide)
              obtain ⟨q0, q1⟩ := hS.1.two; obtain ⟨hoc, hof⟩ := hAt.out _ hS.2.1; have q2 := hS.2.2.1; have q3 := hS.2.2.2
              go_simp
              exact hK.out _ _ _ rfl rfl rfl (Below.refl _ _)
            simp only [List.setIfInBounds_toArray, List.set_cons_zero, List.set_cons_succ]
            refine obs_step (Eq.trans (by simp only [List.getElem?_toArray, List.getElem?_cons_succ, List.getElem?_cons_zero]; exact rfl) rfl) rfl (fun w' hS hV K hK => ?_) ?_
            · have e4 : x 4 = (.slice (some ⟨g, 0, none⟩) (pw n) (pw n)) := hV 4 (by decide)
              have e5 : x 5 = (.int .i64 (k)) := hV 5 (by decide)
              have e6 : x 6 = (.int .i64 (j)) := hV 6 (by decide)
              have e7 : x 7 = (.int .i64 ((k ^^^ j : Nat))) := hV 7 (by decide)
              have e8 : x 8 = (.pointer (some ⟨g, k ^^^ j, none⟩)) := hV 8 (by decide)
              have e9 : x 9 = (.int .i64 (v0)) := hV 9 (by decide)
              have e10 : x 10 = (.slice (some ⟨gx, ox, none⟩) (pw n) cx) := hV 10 (by decide)
              have e11 : x 11 = (.int .i64 (k)) := hV 11 (by decide)
              have e12 : x 12 = (.pointer (some ⟨gx, ox + k, none⟩)) := hV 12 (by decide)
              have e13 : x 13 = (.int .i64 (xs[k])) := hV 13 (by decide)
              have e14 : x 14 = (.slice (some ⟨gy, oy, none⟩) (pw n) cy) := hV 14 (by decide)
              have e15 : x 15 = (.int .i64 (j)) := hV 15 (by decide)
              have e16 : x 16 = (.pointer (some ⟨gy, oy + j, none⟩)) := hV 16 (by decide)
              have e17 : x 17 = (.int .i64 (ys[j])) := hV 17 (by decide)
              have e18 : x 18 = (.int .i64 (xs[k] * ys[j])) := hV 18 (by decide)
              have e19 : x 19 = (.pointer (some ⟨w.heap.size, 0, none⟩)) := hV 19 (by decide)
              have e20 : x 20 = (.int .i64 (P)) := hV 20 (by decide)
              have e21 : x 21 = (.int .i64 (xs[k] * ys[j] % P)) := hV 21 (by decide)
              have e22 : x 22 = (.agg #[.int .i64 P, .slice A n c]) := hV 22 (by decide)
              have e23 : x 23 = (.int .i64 (k)) := hV 23 (by decide)
              have e24 : x 24 = (.int .i64 (j)) := hV 24 (by decide)
              have e25 : x 25 = (.int .i64 (fac P sq k j)) := hV 25 (by decide)
              have e26 : x 26 = (.int .i64 (xs[k] * ys[j] % P * fac P sq k j)) := hV 26 (by decide)
              have e27 : x 27 = (.int .i64 (v0 + xs[k] * ys[j] % P * fac P sq k j)) := hV 27 (by decide)
              have e28 : x 28 = (.pointer (some ⟨w.heap.size, 0, none⟩)) := hV 28 (by decide)
              have e29 : x 29 = (.int .i64 (P)) := hV 29 (by decide)
              obtain ⟨q0, q1⟩ := hS.1.two; obtain ⟨hoc, hof⟩ := hAt.out _ hS.2.1; have q2 := hS.2.2.1; have q3 := hS.2.2.2
              go_simp
              exact hK.out _ _ _ rfl rfl rfl (Below.refl _ _)
            simp only [List.setIfInBounds_toArray, List.set_cons_zero, List.set_cons_succ]
            refine obs_step (Eq.trans (by simp only [List.getElem?_toArray, List.getElem?_cons_succ, List.getElem?_cons_zero]; exact rfl) rfl) rfl (fun w' hS hV K hK => ?_) ?_
            · have e0 : x 0 = (.slice (some ⟨g, 0, none⟩) (pw n) (pw n)) := hV 0 (by decide)
              have e1 : x 1 = (.int .i64 (k)) := hV 1 (by decide)
              have e2 : x 2 = (.int .i64 (j)) := hV 2 (by decide)
              have e3 : x 3 = (.int .i64 ((k ^^^ j : Nat))) := hV 3 (by decide)
              obtain ⟨q0, q1⟩ := hS.1.two; obtain ⟨hoc, hof⟩ := hAt.out _ hS.2.1; have q2 := hS.2.2.1; have q3 := hS.2.2.2
              go_simp
              exact hK.out _ _ _ rfl rfl rfl (Below.refl _ _)
            simp only [List.setIfInBounds_toArray, List.set_cons_zero, List.set_cons_succ]
            refine fun w' hS hV => ?_
            have e0 : x 0 = (.slice (some ⟨g, 0, none⟩) (pw n) (pw n)) := hV 0 (by decide)
            have e1 : x 1 = (.int .i64 (k)) := hV 1 (by decide)
            have e2 : x 2 = (.int .i64 (j)) := hV 2 (by decide)
            have e3 : x 3 = (.int .i64 ((k ^^^ j : Nat))) := hV 3 (by decide)
            have e4 : x 4 = (.slice (some ⟨g, 0, none⟩) (pw n) (pw n)) := hV 4 (by decide)
            have e5 : x 5 = (.int .i64 (k)) := hV 5 (by decide)
            have e6 : x 6 = (.int .i64 (j)) := hV 6 (by decide)
            have e7 : x 7 = (.int .i64 ((k ^^^ j : Nat))) := hV 7 (by decide)
            have e8 : x 8 = (.pointer (some ⟨g, k ^^^ j, none⟩)) := hV 8 (by decide)
            have e9 : x 9 = (.int .i64 (v0)) := hV 9 (by decide)
            have e10 : x 10 = (.slice (some ⟨gx, ox, none⟩) (pw n) cx) := hV 10 (by decide)
            have e11 : x 11 = (.int .i64 (k)) := hV 11 (by decide)
            have e12 : x 12 = (.pointer (some ⟨gx, ox + k, none⟩)) := hV 12 (by decide)
            have e13 : x 13 = (.int .i64 (xs[k])) := hV 13 (by decide)
            have e14 : x 14 = (.slice (some ⟨gy, oy, none⟩) (pw n) cy) := hV 14 (by decide)
            have e15 : x 15 = (.int .i64 (j)) := hV 15 (by decide)
            have e16 : x 16 = (.pointer (some ⟨gy, oy + j, none⟩)) := hV 16 (by decide)
            have e17 : x 17 = (.int .i64 (ys[j])) := hV 17 (by decide)
            have e18 : x 18 = (.int .i64 (xs[k] * ys[j])) := hV 18 (by decide)
            have e19 : x 19 = (.pointer (some ⟨w.heap.size, 0, none⟩)) := hV 19 (by decide)
            have e20 : x 20 = (.int .i64 (P)) := hV 20 (by decide)
            have e21 : x 21 = (.int .i64 (xs[k] * ys[j] % P)) := hV 21 (by decide)
            have e22 : x 22 = (.agg #[.int .i64 P, .slice A n c]) := hV 22 (by decide)
            have e23 : x 23 = (.int .i64 (k)) := hV 23 (by decide)
            have e24 : x 24 = (.int .i64 (j)) := hV 24 (by decide)
            have e25 : x 25 = (.int .i64 (fac P sq k j)) := hV 25 (by decide)
            have e26 : x 26 = (.int .i64 (xs[k] * ys[j] % P * fac P sq k j)) := hV 26 (by decide)
            have e27 : x 27 = (.int .i64 (v0 + xs[k] * ys[j] % P * fac P sq k j)) := hV 27 (by decide)
            have e28 : x 28 = (.pointer (some ⟨w.heap.size, 0, none⟩)) := hV 28 (by decide)
            have e29 : x 29 = (.int .i64 (P)) := hV 29 (by decide)
            have e30 : x 30 = (.int .i64 ((v0 + xs[k] * ys[j] % P * fac P sq k j) % P)) := hV 30 (by decide)
            have e31 : x 31 = (.pointer (some ⟨g, k ^^^ j, none⟩)) := hV 31 (by decide)
            simp only [e0, e1, e2, e3, e4, e5, e6, e7, e8, e9, e10, e11, e12, e13, e14, e15, e16, e17, e18, e19, e20, e21, e22, e23, e24, e25, e26, e27, e28, e29, e30, e31]
            clear e0 e1 e2 e3 e4 e5 e6 e7 e8 e9 e10 e11 e12 e13 e14 e15 e16 e17 e18 e19 e20 e21 e22 e23 e24 e25 e26 e27 e28 e29 e30 e31
            obtain ⟨hk4, hO, s3, s4⟩ := hS
            obtain ⟨hoc, hof⟩ := hAt.out _ hO
            refine any_one (j := 32) (by kernel_rfl) (Eq.trans (by simp only [List.getElem?_toArray, List.getElem?_cons_succ, List.getElem?_cons_zero]; exact rfl) rfl) (fun K hK => ?_)
            go_simp
            refine hK.out _ _ (wpAny_done (by kernel_rfl) ?_ _)
            have hset := (hO.set (k ^^^ j) (.int .i64 ((v0 + xs[k] * ys[j] % P * fac P sq k j) % P))).1
            rw [ints_set] at hset
            have hkn := hk4.far (p := ⟨g, k ^^^ j, none⟩) HNE.out.1.symm (.int .i64 ((v0 + xs[k] * ys[j] % P * fac P sq k j) % P))
            clear W1 W2 W3 T1 T2 hoc hof hO hk4
            go_wp2
            go_roundw
            case rel => exact ⟨j + 1, by omega, by go_num, by rw [addRow_succ, ← addPair_all (by omega) HNR.out HF1.out, ← HV0.out, hxn.out, hyn.out, ← mod_mul_add v0 (xs[k] * ys[j]) (fac P sq k j) P]; exact hset, hkn⟩
            case measure => simp [intOf]; omega
        · obtain rfl : j = pw n := by omega
          have HM := Lib.hid hM3
          clear hM3
          go_wp2
          go_roundw
          case rel => exact ⟨k + 1, by omega, by go_num, by rw [addRows_succ, Hy.out, ← HL0.out]; exact HM.out, hk3⟩
          case measure => simp [intOf]; omega
    · obtain rfl : k = pw n := by omega
      go_wp2
      go_ret
      exact ⟨_, _, rfl, by rw [HDL.out]; exact hM2⟩
set_option maxRecDepth 2000 in
set_option maxHeartbeats 3200000 in
set_option maxRecDepth 8000 in
theorem l05Kind_1 (P : Int) (A : Option Addr) (n c : Nat) (sq : List Int) (X : Option Addr) (cx : Nat) (xs : List Int) (Y : Option Addr) (cy : Nat) (ys : List Int) (w : World) (hp : 2 ≤ P) (hp2 : P ≤ 13) (hn : n ≤ 6)
    (ha : Rd w A n (ints sq)) (hs : NumsL P sq) (hx : Rd w X (pw n) (ints xs)) (hxs : NumsL P xs) (hy : Rd w Y (pw n) (ints ys)) (hys : NumsL P ys) :
    Calls Tryz.prog 168 #[.agg #[.int .i64 P, .slice A n c], .slice X (pw n) cx, .slice Y (pw n) cy, .int .i64 1] w fun e w' => ∃ A' c', e = .returned (.slice A' (pw n) c') ∧ MkI w w' A' (pw n) c' (contrL P sq xs ys) := by
  have hxl : xs.length = pw n := by have := hx.1; rwa [ints_length] at this
  have hyl : ys.length = pw n := by have := hy.1; rwa [ints_length] at this
  have Hx := Lib.hid hxl; clear hxl
  have Hy := Lib.hid hyl; clear hyl
  obtain ⟨t, ht⟩ : ∃ t : Nat → Nat → Bool, t = fun a b => a &&& b == a := ⟨_, rfl⟩
  have HTK : Hid (∀ a b, t a b = (fun a b => a &&& b == a) a b) := Lib.hid (fun a b => by rw [ht])
  have HDL : Hid (contrL P sq xs ys = addRows P sq t xs ys (List.replicate (pw n) 0) (pw n)) := Lib.hid (by unfold contrL prodL; rw [Hx.out, ht])
  clear ht
  have hpw : pw n ≤ 64 := pw_le hn
  have hmk := make_i (P := Tryz.prog) 22 2 Tryz.underlying22 info_i (pw n) (by omega)
  have hB0 : Below w.heap.size w (w.alloc (.cells #[.int .i64 P, .slice A n c] 28)) := (Below.refl _ w).alloc (Nat.le_refl _) _
  have hM := Mk.made (E := 2) (n := pw n) (z := .int .i64 0) hB0 (by simp only [maxLen]; omega)
  rw [ints_replicate] at hM
  have hk0 : Blk ((w.alloc (.cells #[.int .i64 P, .slice A n c] 28)).alloc (.cells (madeCells #[.int .i64 0] (pw n)) 2)) w.heap.size 28 #[.int .i64 P, .slice A n c] := (Blk.new w _ _).alloc _
  go_enter Tryz.func168, Tryz.ntmps168
  go_wp2
  clear hmk
  obtain ⟨w1, hw1⟩ : ∃ W, W = (w.alloc (.cells #[.int .i64 P, .slice A n c] 28)).alloc (.cells (madeCells #[.int .i64 0] (pw n)) 2) := ⟨_, rfl⟩
  rw [← hw1] at hM hk0 ⊢
  rw [World.size_alloc] at hM
  clear hB0 hw1
  obtain ⟨g, hg⟩ : ∃ g, g = w.heap.size + 1 := ⟨_, rfl⟩
  rw [← hg] at hM ⊢
  have hg1 : w.heap.size + 1 ≤ g := by omega
  clear hg
  go_loopw [10, 11] (fun i _ wr => ∃ k : Nat, k ≤ pw n ∧ i = .int .i64 k ∧ MkI w wr (some ⟨g, 0, none⟩) (pw n) (pw n) (addRows P sq t xs ys (List.replicate (pw n) 0) k) ∧ Blk wr w.heap.size 28 #[.int .i64 P, .slice A n c]) (fun i _ _ => pw n - (intOf i).toNat)
  case atStart => exact ⟨0, by omega, rfl, by simpa [addRows] using hM, hk0⟩
  case round =>
    obtain ⟨k, hk, rfl, hM2, hk2⟩ := hrel
    clear hM hk0
    by_cases hlt : k < pw n
    · obtain ⟨gx, ox, hX, hxk, hcw⟩ := hx.int hlt
      subst hX
      obtain ⟨x1, x2⟩ := hxs _ (List.getElem_mem hxk)
      have hxn : Hid (xs.getD k 0 = xs[k]) := Lib.hid (by rw [List.getD_eq_getElem?_getD, List.getElem?_eq_getElem hxk]; rfl)
      have hgx := World.block_lt_of_cell? _ _ hcw
      have HGX : Hid (g ≠ gx) := Lib.hid (by simp at hgx; omega)
      have HCW := Lib.hid hcw
      clear hcw hgx
      have hR0 : MkI w wr (some ⟨g, 0, none⟩) (pw n) (pw n) (addRow P sq t xs ys k (addRows P sq t xs ys (List.replicate (pw n) 0) k) 0) := by simpa [addRow] using hM2
      have hN0 : NumsL P (addRows P sq t xs ys (List.replicate (pw n) 0) k) := addRows_nums sq _ xs ys k (by omega) (NumsL.replicate (by omega) _)
      obtain ⟨L0, hL0⟩ : ∃ L, L = addRows P sq t xs ys (List.replicate (pw n) 0) k := ⟨_, rfl⟩
      rw [← hL0] at hR0 hN0
      have HL0 := Lib.hid hL0
      have HN0 := Lib.hid hN0
      clear hM2 hL0 hN0
      go_wp2
      go_loopw [11] (fun i wr => ∃ j : Nat, j ≤ pw n ∧ i = .int .i64 j ∧ MkI w wr (some ⟨g, 0, none⟩) (pw n) (pw n) (addRow P sq t xs ys k L0 j) ∧ Blk wr w.heap.size 28 #[.int .i64 P, .slice A n c]) (fun i _ => pw n - (intOf i).toNat)
      case atStart => exact ⟨0, by omega, rfl, hR0, hk2⟩
      case round =>
        clear hR0 hk2
        obtain ⟨j, hj, rfl, hM3, hk3⟩ := hrel
        have hcx : wr.cell? ⟨gx, ox + k, none⟩ = some (.int .i64 xs[k]) := (hM3.b.cell (World.block_lt_of_cell? _ _ HCW.out)).trans HCW.out
        by_cases hlj : j < pw n
        · obtain ⟨gy, oy, hY, hyj, hcyw⟩ := hy.int hlj
          subst hY
          have hgy := World.block_lt_of_cell? _ _ hcyw
          have HGY : Hid (g ≠ gy) := Lib.hid (by simp at hgy; omega)
          have hcy : wr.cell? ⟨gy, oy + j, none⟩ = some (.int .i64 ys[j]) := (hM3.b.cell (World.block_lt_of_cell? _ _ hcyw)).trans hcyw
          clear hcyw hgy
          obtain ⟨y1, y2⟩ := hys _ (List.getElem_mem hyj)
          have hyn : Hid (ys.getD j 0 = ys[j]) := Lib.hid (by rw [List.getD_eq_getElem?_getD, List.getElem?_eq_getElem hyj]; rfl)
          have hxa := and_val k (by omega) j (by omega)
          have HTKJ := Lib.hid (HTK.out k j)
          obtain ⟨cm, hcm⟩ : ∃ cm, cm = k &&& j := ⟨_, rfl⟩
          rw [← hcm] at hxa
          have HCM : Hid (cm = k &&& j) := Lib.hid hcm
          clear hcm
          by_cases hcc : cm = k
          case neg =>
            have HF0 : Hid (t k j = false) := Lib.hid (by rw [HTKJ.out]; show (_ == _) = false; rw [← HCM.out]; simpa using hcc)
            have HM := Lib.hid hM3
            have HK3 := Lib.hid hk3
            clear hM3 hk3
            go_wp2
            go_roundw
            case rel => exact ⟨j + 1, by omega, by go_num, by rw [addRow_succ, addPair_none HF0.out]; exact HM.out, HK3.out⟩
            case measure => simp [intOf]; omega
          case pos =>
            have HF1 : Hid (t k j = true) := Lib.hid (by rw [HTKJ.out]; show (_ == _) = true; rw [← HCM.out]; simpa using hcc)
            have hidx : k ^^^ j < pw n := xor_lt hlt hlj
            have hxo := xor_all k (by omega) j (by omega)
            have HNR := Lib.hid (addRow_nums sq t xs ys k j (by omega) HN0.out)
            have hvb := HNR.out.getD (by omega) (k ^^^ j)
            obtain ⟨hoc, hof⟩ := mkI_at hM3.drew hidx
            obtain ⟨v0, hv0⟩ : ∃ v, v = (addRow P sq t xs ys k L0 j).getD (k ^^^ j) 0 := ⟨_, rfl⟩
            rw [← hv0] at hvb hoc
            obtain ⟨v1, v2⟩ := hvb
            have HV0 := Lib.hid hv0
            have hAt : Hid (∀ w', MkI w w' (some ⟨g, 0, none⟩) (pw n) (pw n) (addRow P sq t xs ys k L0 j) → w'.cell? ⟨g, k ^^^ j, none⟩ = some (.int .i64 v0) ∧ w'.frozen? ⟨g, k ^^^ j, none⟩ = false) :=
              Lib.hid (fun w' h => by rw [HV0.out]; exact mkI_at h hidx)
            clear hv0
            obtain ⟨f1, f2⟩ := fac_bound P sq k j hp
            obtain ⟨m1, m2⟩ := mul_small x1 (show xs[k] ≤ 13 by omega) y1 (show ys[j] ≤ 13 by omega)
            obtain ⟨r1, r2⟩ := emod_small (xs[k] * ys[j]) P (by omega)
            obtain ⟨m3, m4⟩ := mul_small r1 (show xs[k] * ys[j] % P ≤ 13 by omega) f1 (show fac P sq k j ≤ 13 by omega)
            have HNE : Hid (g ≠ w.heap.size ∧ g ≠ w.heap.size ∧ g ≠ gx ∧ g ≠ gy) := Lib.hid ⟨by omega, by omega, HGX.out, HGY.out⟩
            have hF : Hid (∀ w', MkI w w' (some ⟨g, 0, none⟩) (pw n) (pw n) (addRow P sq t xs ys k L0 j) → Calls Tryz.prog 135 #[.agg #[.int .i64 P, .slice A n c], .int .i64 k, .int .i64 j] w' fun e w'' => e = .returned (.int .i64 (fac P sq k j)) ∧ Below w'.heap.size w' w'') :=
              Lib.hid (fun w' h => l04Blades_any P A n c sq k j w' hp hp2 hn (ha.below h.b) hs (by omega) (by omega))
            have W1 := i64_fit (xs[k] * ys[j]) (by omega) (by omega)
            have W2 := i64_fit (xs[k] * ys[j] % P * fac P sq k j) (by omega) (by omega)
            have W3 := i64_fit (v0 + xs[k] * ys[j] % P * fac P sq k j) (by omega) (by omega)
            have T1 := Int.tmod_eq_emod_of_nonneg (b := P) m1
            have T2 := Int.tmod_eq_emod_of_nonneg (a := (v0 + xs[k] * ys[j] % P * fac P sq k j)) (b := P) (by omega)
            obtain ⟨kc0, kc1⟩ := hk3.two
            have hoc2 : wr.cell? ⟨g, k ^^^ j, none⟩ = some (.int .i64 v0) := hoc
            have hof2 : wr.frozen? ⟨g, k ^^^ j, none⟩ = false := hof
            have hP0 : (P == 0) = false := by simp; omega
            have hP1 : (P == -1) = false := by simp; omega
            have hP2 : ¬ P = 0 := by omega
            have hO := hM3.drew
            have hk4 := hk3.drew
            go_wp2
            have i1 : (0 : Int) ≤ ((k ^^^ j : Nat) : Int) := by omega
            have i2 : ((k ^^^ j : Nat) : Int) < ((pw n : Nat) : Int) := by omega
            have i3 : (0 : Int) ≤ (k : Int) := by omega
            have i4 : (k : Int) < ((pw n : Nat) : Int) := by omega
            have i5 : (0 : Int) ≤ (j : Int) := by omega
            have i6 : (j : Int) < ((pw n : Nat) : Int) := by omega
            refine wp_obs 32 [[], [], [], [1, 2], [], [], [], [5, 6], [4, 5, 6, 7], [4, 5, 6, 7, 8], [], [], [10, 11], [10, 11, 12], [], [], [14, 15], [14, 15, 16], [10, 11, 12, 13, 14, 15, 16, 17], [], [19], [10, 11, 12, 13, 14, 15, 16, 17, 18, 19, 20], [], [], [], [22, 23, 24], [10, 11, 12, 13, 14, 15, 16, 17, 18, 19, 20, 21, 22, 23, 24, 25], [4, 5, 6, 7, 8, 9, 10, 11, 12, 13, 14, 15, 16, 17, 18, 19, 20, 21, 22, 23, 24, 25, 26], [], [28], [4, 5, 6, 7, 8, 9, 10, 11, 12, 13, 14, 15, 16, 17, 18, 19, 20, 21, 22, 23, 24, 25, 26, 27, 28, 29], [0, 1, 2, 3], [0, 1, 2, 3, 4, 5, 6, 7, 8, 9, 10, 11, 12, 13, 14, 15, 16, 17, 18, 19, 20, 21, 22, 23, 24, 25, 26, 27, 28, 29, 30, 31]] [VIs (.slice (some ⟨g, 0, none⟩) (pw n) (pw n)), VIs (.int .i64 (k)), VIs (.int .i64 (j)), VIs (.int .i64 ((k ^^^ j : Nat))), VIs (.slice (some ⟨g, 0, none⟩) (pw n) (pw n)), VIs (.int .i64 (k)), VIs (.int .i64 (j)), VIs (.int .i64 ((k ^^^ j : Nat))), VIs (.pointer (some ⟨g, k ^^^ j, none⟩)), VIs (.int .i64 (v0)), VIs (.slice (some ⟨gx, ox, none⟩) (pw n) cx), VIs (.int .i64 (k)), VIs (.pointer (some ⟨gx, ox + k, none⟩)), VIs (.int .i64 (xs[k])), VIs (.slice (some ⟨gy, oy, none⟩) (pw n) cy), VIs (.int .i64 (j)), VIs (.pointer (some ⟨gy, oy + j, none⟩)), VIs (.int .i64 (ys[j])), VIs (.int .i64 (xs[k] * ys[j])), VIs (.pointer (some ⟨w.heap.size, 0, none⟩)), VIs (.int .i64 (P)), VIs (.int .i64 (xs[k] * ys[j] % P)), VIs (.agg #[.int .i64 P, .slice A n c]), VIs (.int .i64 (k)), VIs (.int .i64 (j)), VIs (.int .i64 (fac P sq k j)), VIs (.int .i64 (xs[k] * ys[j] % P * fac P sq k j)), VIs (.int .i64 (v0 + xs[k] * ys[j] % P * fac P sq k j)), VIs (.pointer (some ⟨w.heap.size, 0, none⟩)), VIs (.int .i64 (P)), VIs (.int .i64 ((v0 + xs[k] * ys[j] % P * fac P sq k j) % P)), VIs (.pointer (some ⟨g, k ^^^ j, none⟩))] (fun w' => Blk w' w.heap.size 28 #[.int .i64 P, .slice A n c] ∧ MkI w w' (some ⟨g, 0, none⟩) (pw n) (pw n) (addRow P sq t xs ys k L0 j) ∧ w'.cell? ⟨gx, ox + k, none⟩ = some (.int .i64 xs[k]) ∧ w'.cell? ⟨gy, oy + j, none⟩ = some (.int .i64 ys[j])) (by kernel_rfl) (by kernel_rfl) (fun _ _ h hb => ⟨h.1.below hb h.1.lt, h.2.1.below hb, (hb.cell (World.block_lt_of_cell? _ _ h.2.2.1)).trans h.2.2.1, (hb.cell (World.block_lt_of_cell? _ _ h.2.2.2)).trans h.2.2.2⟩) (⟨hk4, hO, hcx, hcy⟩) (fun x => ?_)
            refine obs_step (Eq.trans (by simp only [List.getElem?_toArray, List.getElem?_cons_zero]; exact rfl) rfl) rfl (fun w' hS hV K hK => ?_) ?_
            · obtain ⟨q0, q1⟩ := hS.1.two; obtain ⟨hoc, hof⟩ := hAt.out _ hS.2.1; have q2 := hS.2.2.1; have q3 := hS.2.2.2
              go_simp
              exact hK.out _ _ _ rfl rfl rfl (Below.refl _ _)
            simp only [List.setIfInBounds_toArray, List.set_cons_zero, List.set_cons_succ]
            refine obs_step (Eq.trans (by simp only [List.getElem?_toArray, List.getElem?_cons_succ, List.getElem?_cons_zero]; exact rfl) rfl) rfl (fun w' hS hV K hK => ?_) ?_
            · obtain ⟨q0, q1⟩ := hS.1.two; obtain ⟨hoc, hof⟩ := hAt.out _ hS.2.1; have q2 := hS.2.2.1; have q3 := hS.2.2.2
              go_simp
              exact hK.out _ _ _ rfl rfl rfl (Below.refl _ _)
            simp only [List.setIfInBounds_toArray, List.set_cons_zero, List.set_cons_succ]
            refine obs_step (Eq.trans (by simp only [List.getElem?_toArray, List.getElem?_cons_succ, List.getElem?_cons_zero]; exact rfl) rfl) rfl (fun w' hS hV K hK => ?_) ?_
            · obtain ⟨q0, q1⟩ := hS.1.two; obtain ⟨hoc, hof⟩ := hAt.out _ hS.2.1; have q2 := hS.2.2.1; have q3 := hS.2.2.2
              go_simp
              exact hK.out _ _ _ rfl rfl rfl (Below.refl _ _)
            simp only [List.setIfInBounds_toArray, List.set_cons_zero, List.set_cons_succ]
            refine obs_step (Eq.trans (by simp only [List.getElem?_toArray, List.getElem?_cons_succ, List.getElem?_cons_zero]; exact rfl) rfl) rfl (fun w' hS hV K hK => ?_) ?_
            · have e1 : x 1 = (.int .i64 (k)) := hV 1 (by decide)
              have e2 : x 2 = (.int .i64 (j)) := hV 2 (by decide)
              obtain ⟨q0, q1⟩ := hS.1.two; obtain ⟨hoc, hof⟩ := hAt.out _ hS.2.1; have q2 := hS.2.2.1; have q3 := hS.2.2.2
              go_simp
              exact hK.out _ _ _ rfl rfl rfl (Below.refl _ _)
            simp only [List.setIfInBounds_toArray, List.set_cons_zero, List.set_cons_succ]
            refine obs_step (Eq.trans (by simp only [List.getElem?_toArray, List.getElem?_cons_succ, List.getElem?_cons_zero]; exact rfl) rfl) rfl (fun w' hS hV K hK => ?_) ?_
            · obtain ⟨q0, q1⟩ := hS.1.two; obtain ⟨hoc, hof⟩ := hAt.out _ hS.2.1; have q2 := hS.2.2.1; have q3 := hS.2.2.2
              go_simp
              exact hK.out _ _ _ rfl rfl rfl (Below.refl _ _)
            simp only [List.setIfInBounds_toArray, List.set_cons_zero, List.set_cons_succ]
            refine obs_step (Eq.trans (by simp only [List.getElem?_toArray, List.getElem?_cons_succ, List.getElem?_cons_zero]; exact rfl) rfl) rfl (fun w' hS hV K hK => ?_) ?_
            · obtain ⟨q0, q1⟩ := hS.1.two; obtain ⟨hoc, hof⟩ := hAt.out _ hS.2.1; have q2 := hS.2.2.1; have q3 := hS.2.2.2
              go_simp
              exact hK.out _ _ _ rfl rfl rfl (Below.refl _ _)
            simp only [List.setIfInBounds_toArray, List.set_cons_zero, List.set_cons_succ]
            refine obs_step (Eq.trans (by simp only [List.getElem?_toArray, List.getElem?_cons_succ, List.getElem?_cons_zero]; exact rfl) rfl) rfl (fun w' hS hV K hK => ?_) ?_
            · obtain ⟨q0, q1⟩ := hS.1.two; obtain ⟨hoc, hof⟩ := hAt.out _ hS.2.1; have q2 := hS.2.2.1; have q3 := hS.2.2.2
              go_simp
              exact hK.out _ _ _ rfl rfl rfl (Below.refl _ _)
            simp only [List.setIfInBounds_toArray, List.set_cons_zero, List.set_cons_succ]
            refine obs_step (Eq.trans (by simp only [List.getElem?_toArray, List.getElem?_cons_succ, List.getElem?_cons_zero]; exact rfl) rfl) rfl (fun w' hS hV K hK => ?_) ?_
            · have e5 : x 5 = (.int .i64 (k)) := hV 5 (by decide)
              have e6 : x 6 = (.int .i64 (j)) := hV 6 (by decide)
              obtain ⟨q0, q1⟩ := hS.1.two; obtain ⟨hoc, hof⟩ := hAt.out _ hS.2.1; have q2 := hS.2.2.1; have q3 := hS.2.2.2
              go_simp
              exact hK.out _ _ _ rfl rfl rfl (Below.refl _ _)
            simp only [List.setIfInBounds_toArray, List.set_cons_zero, List.set_cons_succ]
            refine obs_step (Eq.trans (by simp only [List.getElem?_toArray, List.getElem?_cons_succ, List.getElem?_cons_zero]; exact rfl) rfl) rfl (fun w' hS hV K hK => ?_) ?_
            · have e4 : x 4 = (.slice (some ⟨g, 0, none⟩) (pw n) (pw n)) := hV 4 (by decide)
              have e5 : x 5 = (.int .i64 (k)) := hV 5 (by decide)
              have e6 : x 6 = (.int .i64 (j)) := hV 6 (by decide)
              have e7 : x 7 = (.int .i64 ((k ^^^ j : Nat))) := hV 7 (by decide)
              obtain ⟨q0, q1⟩ := hS.1.two; obtain ⟨hoc, hof⟩ := hAt.out _ hS.2.1; have q2 := hS.2.2.1; have q3 := hS.2.2.2
              go_simp
              exact hK.out _ _ _ rfl rfl rfl (Below.refl _ _)
            simp only [List.setIfInBounds_toArray, List.set_cons_zero, List.set_cons_succ]
            refine obs_step (Eq.trans (by simp only [List.getElem?_toArray, List.getElem?_cons_succ, List.getElem?_cons_zero]; exact rfl) rfl) rfl (fun w' hS hV K hK => ?_) ?_
            · have e4 : x 4 = (.slice (some ⟨g, 0, none⟩) (pw n) (pw n)) := hV 4 (by decide)
              have e5 : x 5 = (.int .i64 (k)) := hV 5 (by decide)
              have e6 : x 6 = (.int .i64 (j)) := hV 6 (by decide)
              have e7 : x 7 = (.int .i64 ((k ^^^ j : Nat))) := hV 7 (by decide)
              have e8 : x 8 = (.pointer (some ⟨g, k ^^^ j, none⟩)) := hV 8 (by decide)
              obtain ⟨q0, q1⟩ := hS.1.two; obtain ⟨hoc, hof⟩ := hAt.out _ hS.2.1; have q2 := hS.2.2.1; have q3 := hS.2.2.2
              go_simp
              exact hK.out _ _ _ rfl rfl rfl (Below.refl _ _)
            simp only [List.setIfInBounds_toArray, List.set_cons_zero, List.set_cons_succ]
            refine obs_step (Eq.trans (by simp only [List.getElem?_toArray, List.getElem?_cons_succ, List.getElem?_cons_zero]; exact rfl) rfl) rfl (fun w' hS hV K hK => ?_) ?_
            · obtain ⟨q0, q1⟩ := hS.1.two; obtain ⟨hoc, hof⟩ := hAt.out _ hS.2.1; have q2 := hS.2.2.1; have q3 := hS.2.2.2
              go_simp
              exact hK.out _ _ _ rfl rfl rfl (Below.refl _ _)
            simp only [List.setIfInBounds_toArray, List.set_cons_zero, List.set_cons_succ]
            refine obs_step (Eq.trans (by simp only [List.getElem?_toArray, List.getElem?_cons_succ, List.getElem?_cons_zero]; exact rfl) rfl) rfl (fun w' hS hV K hK => ?_) ?_
            · obtain ⟨q0, q1⟩ := hS.1.two; obtain ⟨hoc, hof⟩ := hAt.out _ hS.2.1; have q2 := hS.2.2.1; have q3 := hS.2.2.2
              go_simp
              exact hK.out _ _ _ rfl rfl rfl (Below.refl _ _)
            simp only [List.setIfInBounds_toArray, List.set_cons_zero, List.set_cons_succ]
            refine obs_step (Eq.trans (by simp only [List.getElem?_toArray, List.getElem?_cons_succ, List.getElem?_cons_zero]; exact rfl) rfl) rfl (fun w' hS hV K hK => ?_) ?_
            · have e10 : x 10 = (.slice (some ⟨gx, ox, none⟩) (pw n) cx) := hV 10 (by decide)
              have e11 : x 11 = (.int .i64 (k)) := hV 11 (by decide)
              obtain ⟨q0, q1⟩ := hS.1.two; obtain ⟨hoc, hof⟩ := hAt.out _ hS.2.1; have q2 := hS.2.2.1; have q3 := hS.2.2.2
              go_simp
              exact hK.out _ _ _ rfl rfl rfl (Below.refl _ _)
            simp only [List.setIfInBounds_toArray, List.set_cons_zero, List.set_cons_succ]
            refine obs_step (Eq.trans (by simp only [List.getElem?_toArray, List.getElem?_cons_succ, List.getElem?_cons_zero]; exact rfl) rfl) rfl (fun w' hS hV K hK => ?_) ?_
            · have e10 : x 10 = (.slice (some ⟨gx, ox, none⟩) (pw n) cx) := hV 10 (by decide)
              have e11 : x 11 = (.int .i64 (k)) := hV 11 (by decide)
              have e12 : x 12 = (.pointer (some ⟨gx, ox + k, none⟩)) := hV 12 (by decide)
              obtain ⟨q0, q1⟩ := hS.1.two; obtain ⟨hoc, hof⟩ := hAt.out _ hS.2.1; have q2 := hS.2.2.1; have q3 := hS.2.2.2
              go_simp
              exact hK.out _ _ _ rfl rfl rfl (Below.refl _ _)
            simp only [List.setIfInBounds_toArray, List.set_cons_zero, List.set_cons_succ]
            refine obs_step (Eq.trans (by simp only [List.getElem?_toArray, List.getElem?_cons_succ, List.getElem?_cons_zero]; exact rfl) rfl) rfl (fun w' hS hV K hK => ?_) ?_
            · obtain ⟨q0, q1⟩ := hS.1.two; obtain ⟨hoc, hof⟩ := hAt.out _ hS.2.1; have q2 := hS.2.2.1; have q3 := hS.2.2.2
              go_simp
              exact hK.out _ _ _ rfl rfl rfl (Below.refl _ _)
            simp only [List.setIfInBounds_toArray, List.set_cons_zero, List.set_cons_succ]
            refine obs_step (Eq.trans (by simp only [List.getElem?_toArray, List.getElem?_cons_succ, List.getElem?_cons_zero]; exact rfl) rfl) rfl (fun w' hS hV K hK => ?_) ?_
            · obtain ⟨q0, q1⟩ := hS.1.two; obtain ⟨hoc, hof⟩ := hAt.out _ hS.2.1; have q2 := hS.2.2.1; have q3 := hS.2.2.2
              go_simp
              exact hK.out _ _ _ rfl rfl rfl (Below.refl _ _)
            simp only [List.setIfInBounds_toArray, List.set_cons_zero, List.set_cons_succ]
            refine obs_step (Eq.trans (by simp only [List.getElem?_toArray, List.getElem?_cons_succ, List.getElem?_cons_zero]; exact rfl) rfl) rfl (fun w' hS hV K hK => ?_) ?_
            · have e14 : x 14 = (.slice (some ⟨gy, oy, none⟩) (pw n) cy) := hV 14 (by decide)
              have e15 : x 15 = (.int .i64 (j)) := hV 15 (by decide)
              obtain ⟨q0, q1⟩ := hS.1.two; obtain ⟨hoc, hof⟩ := hAt.out _ hS.2.1; have q2 := hS.2.2.1; have q3 := hS.2.2.2
              go_simp
              exact hK.out _ _ _ rfl rfl rfl (Below.refl _ _)
            simp only [List.setIfInBounds_toArray, List.set_cons_zero, List.set_cons_succ]
            refine obs_step (Eq.trans (by simp only [List.getElem?_toArray, List.getElem?_cons_succ, List.getElem?_cons_zero]; exact rfl) rfl) rfl (fun w' hS hV K hK => ?_) ?_
            · have e14 : x 14 = (.slice (some ⟨gy, oy, none⟩) (pw n) cy) := hV 14 (by decide)
              have e15 : x 15 = (.int .i64 (j)) := hV 15 (by decide)
              have e16 : x 16 = (.pointer (some ⟨gy, oy + j, none⟩)) := hV 16 (by decide)
              obtain ⟨q0, q1⟩ := hS.1.two; obtain ⟨hoc, hof⟩ := hAt.out _ hS.2.1; have q2 := hS.2.2.1; have q3 := hS.2.2.2
              go_simp
              exact hK.out _ _ _ rfl rfl rfl (Below.refl _ _)
            simp only [List.setIfInBounds_toArray, List.set_cons_zero, List.set_cons_succ]
            refine obs_step (Eq.trans (by simp only [List.getElem?_toArray, List.getElem?_cons_succ, List.getElem?_cons_zero]; exact rfl) rfl) rfl (fun w' hS hV K hK => ?_) ?_
            · have e10 : x 10 = (.slice (some ⟨gx, ox, none⟩) (pw n) cx) := hV 10 (by decide)
              have e11 : x 11 = (.int .i64 (k)) := hV 11 (by decide)
              have e12 : x 12 = (.pointer (some ⟨gx, ox + k, none⟩)) := hV 12 (by decide)
              have e13 : x 13 = (.int .i64 (xs[k])) := hV 13 (by decide)
              have e14 : x 14 = (.slice (some ⟨gy, oy, none⟩) (pw n) cy) := hV 14 (by decide)
              have e15 : x 15 = (.int .i64 (j)) := hV 15 (by decide)
              have e16 : x 16 = (.pointer (some ⟨gy, oy + j, none⟩)) := hV 16 (by decide)
              have e17 : x 17 = (.int .i64 (ys[j])) := hV 17 (by decide)
              obtain ⟨q0, q1⟩ := hS.1.two; obtain ⟨hoc, hof⟩ := hAt.out _ hS.2.1; have q2 := hS.2.2.1; have q3 := hS.2.2.2
              go_simp
              exact hK.out _ _ _ rfl rfl rfl (Below.refl _ _)
            simp only [List.setIfInBounds_toArray, List.set_cons_zero, List.set_cons_succ]
            refine obs_step (Eq.trans (by simp only [List.getElem?_toArray, List.getElem?_cons_succ, List.getElem?_cons_zero]; exact rfl) rfl) rfl (fun w' hS hV K hK => ?_) ?_
            · obtain ⟨q0, q1⟩ := hS.1.two; obtain ⟨hoc, hof⟩ := hAt.out _ hS.2.1; have q2 := hS.2.2.1; have q3 := hS.2.2.2
              go_simp
              exact hK.out _ _ _ rfl rfl rfl (Below.refl _ _)
            simp only [List.setIfInBounds_toArray, List.set_cons_zero, List.set_cons_succ]
            refine obs_step (Eq.trans (by simp only [List.getElem?_toArray, List.getElem?_cons_succ, List.getElem?_cons_zero]; exact rfl) rfl) rfl (fun w' hS hV K hK => ?_) ?_
            · have e19 : x 19 = (.pointer (some ⟨w.heap.size, 0, none⟩)) := hV 19 (by decide)
              obtain ⟨q0, q1⟩ := hS.1.two; obtain ⟨hoc, hof⟩ := hAt.out _ hS.2.1; have q2 := hS.2.2.1; have q3 := hS.2.2.2
              go_simp
              exact hK.out _ _ _ rfl rfl rfl (Below.refl _ _)
            simp only [List.setIfInBounds_toArray, List.set_cons_zero, List.set_cons_succ]
            refine obs_step (Eq.trans (by simp only [List.getElem?_toArray, List.getElem?_cons_succ, List.getElem?_cons_zero]; exact rfl) rfl) rfl (fun w' hS hV K hK => ?_) ?_
            · have e10 : x 10 = (.slice (some ⟨gx, ox, none⟩) (pw n) cx) := hV 10 (by decide)
              have e11 : x 11 = (.int .i64 (k)) := hV 11 (by decide)
              have e12 : x 12 = (.pointer (some ⟨gx, ox + k, none⟩)) := hV 12 (by decide)
              have e13 : x 13 = (.int .i64 (xs[k])) := hV 13 (by decide)
              have e14 : x 14 = (.slice (some ⟨gy, oy, none⟩) (pw n) cy) := hV 14 (by decide)
              have e15 : x 15 = (.int .i64 (j)) := hV 15 (by decide)
              have e16 : x 16 = (.pointer (some ⟨gy, oy + j, none⟩)) := hV 16 (by decide)
              have e17 : x 17 = (.int .i64 (ys[j])) := hV 17 (by decide)
              have e18 : x 18 = (.int .i64 (xs[k] * ys[j])) := hV 18 (by decide)
              have e19 : x 19 = (.pointer (some ⟨w.heap.size, 0, none⟩)) := hV 19 (by decide)
              have e20 : x 20 = (.int .i64 (P)) := hV 20 (by decide)
              obtain ⟨q0, q1⟩ := hS.1.two; obtain ⟨hoc, hof⟩ := hAt.out _ hS.2.1; have q2 := hS.2.2.1; have q3 := hS.2.2.2
              go_simp
              exact hK.out _ _ _ rfl rfl rfl (Below.refl _ _)
            simp only [List.setIfInBounds_toArray, List.set_cons_zero, List.set_cons_succ]
            refine obs_step (Eq.trans (by simp only [List.getElem?_toArray, List.getElem?_cons_succ, List.getElem?_cons_zero]; exact rfl) rfl) rfl (fun w' hS hV K hK => ?_) ?_
            · obtain ⟨q0, q1⟩ := hS.1.two; obtain ⟨hoc, hof⟩ := hAt.out _ hS.2.1; have q2 := hS.2.2.1; have q3 := hS.2.2.2
              go_simp
              exact hK.out _ _ _ rfl rfl rfl (Below.refl _ _)
            simp only [List.setIfInBounds_toArray, List.set_cons_zero, List.set_cons_succ]
            refine obs_step (Eq.trans (by simp only [List.getElem?_toArray, List.getElem?_cons_succ, List.getElem?_cons_zero]; exact rfl) rfl) rfl (fun w' hS hV K hK => ?_) ?_
            · obtain ⟨q0, q1⟩ := hS.1.two; obtain ⟨hoc, hof⟩ := hAt.out _ hS.2.1; have q2 := hS.2.2.1; have q3 := hS.2.2.2
              go_simp
              exact hK.out _ _ _ rfl rfl rfl (Below.refl _ _)
            simp only [List.setIfInBounds_toArray, List.set_cons_zero, List.set_cons_succ]
            refine obs_step (Eq.trans (by simp only [List.getElem?_toArray, List.getElem?_cons_succ, List.getElem?_cons_zero]; exact rfl) rfl) rfl (fun w' hS hV K hK => ?_) ?_
            · obtain ⟨q0, q1⟩ := hS.1.two; obtain ⟨hoc, hof⟩ := hAt.out _ hS.2.1; have q2 := hS.2.2.1; have q3 := hS.2.2.2
              go_simp
              exact hK.out _ _ _ rfl rfl rfl (Below.refl _ _)
            simp only [List.setIfInBounds_toArray, List.set_cons_zero, List.set_cons_succ]
            refine obs_step (Eq.trans (by simp only [List.getElem?_toArray, List.getElem?_cons_succ, List.getElem?_cons_zero]; exact rfl) rfl) rfl (fun w' hS hV K hK => ?_) ?_
            · have e22 : x 22 = (.agg #[.int .i64 P, .slice A n c]) := hV 22 (by decide)
              have e23 : x 23 = (.int .i64 (k)) := hV 23 (by decide)
              have e24 : x 24 = (.int .i64 (j)) := hV 24 (by decide)
              obtain ⟨q0, q1⟩ := hS.1.two; obtain ⟨hoc, hof⟩ := hAt.out _ hS.2.1; have q2 := hS.2.2.1; have q3 := hS.2.2.2
              go_simp
              refine (hF.out _ hS.2.1).mono ?_
              rintro e v1 ⟨rfl, hb⟩
              exact hK.out _ _ _ rfl rfl rfl hb
            simp only [List.setIfInBounds_toArray, List.set_cons_zero, List.set_cons_succ]
            refine obs_step (Eq.trans (by simp only [List.getElem?_toArray, List.getElem?_cons_succ, List.getElem?_cons_zero]; exact rfl) rfl) rfl (fun w' hS hV K hK => ?_) ?_
            · have e10 : x 10 = (.slice (some ⟨gx, ox, none⟩) (pw n) cx) := hV 10 (by decide)
              have e11 : x 11 = (.int .i64 (k)) := hV 11 (by decide)
              have e12 : x 12 = (.pointer (some ⟨gx, ox + k, none⟩)) := hV 12 (by decide)
              have e13 : x 13 = (.int .i64 (xs[k])) := hV 13 (by decide)
              have e14 : x 14 = (.slice (some ⟨gy, oy, none⟩) (pw n) cy) := hV 14 (by decide)
              have e15 : x 15 = (.int .i64 (j)) := hV 15 (by decide)
              have e16 : x 16 = (.pointer (some ⟨gy, oy + j, none⟩)) := hV 16 (by decide)
              have e17 : x 17 = (.int .i64 (ys[j])) := hV 17 (by decide)
              have e18 : x 18 = (.int .i64 (xs[k] * ys[j])) := hV 18 (by decide)
              have e19 : x 19 = (.pointer (some ⟨w.heap.size, 0, none⟩)) := hV 19 (by decide)
              have e20 : x 20 = (.int .i64 (P)) := hV 20 (by decide)
              have e21 : x 21 = (.int .i64 (xs[k] * ys[j] % P)) := hV 21 (by decide)
              have e22 : x 22 = (.agg #[.int .i64 P, .slice A n c]) := hV 22 (by decide)
              have e23 : x 23 = (.int .i64 (k)) := hV 23 (by decide)
              have e24 : x 24 = (.int .i64 (j)) := hV 24 (by decide)
              have e25 : x 25 = (.int .i64 (fac P sq k j)) := hV 25 (by decide)
              obtain ⟨q0, q1⟩ := hS.1.two; obtain ⟨hoc, hof⟩ := hAt.out _ hS.2.1; have q2 := hS.2.2.1; have q3 := hS.2.2.2
              go_simp
              exact hK.out _ _ _ rfl rfl rfl (Below.refl _ _)
            simp only [List.setIfInBounds_toArray, List.set_cons_zero, List.set_cons_succ]
            refine obs_step (Eq.trans (by simp only [List.getElem?_toArray, List.getElem?_cons_succ, List.getElem?_cons_zero]; exact rfl) rfl) rfl (fun w' hS hV K hK => ?_) ?_
            · have e4 : x 4 = (.slice (some ⟨g, 0, none⟩) (pw n) (pw n)) := hV 4 (by decide)
              have e5 : x 5 = (.int .i64 (k)) := hV 5 (by decide)
              have e6 : x 6 = (.int .i64 (j)) := hV 6 (by decide)
              have e7 : x 7 = (.int .i64 ((k ^^^ j : Nat))) := hV 7 (by decide)
              have e8 : x 8 = (.pointer (some ⟨g, k ^^^ j, none⟩)) := hV 8 (by decide)
              have e9 : x 9 = (.int .i64 (v0)) := hV 9 (by decide)
              have e10 : x 10 = (.slice (some ⟨gx, ox, none⟩) (pw n) cx) := hV 10 (by decide)
              have e11 : x 11 = (.int .i64 (k)) := hV 11 (by decide)
              have e12 : x 12 = (.pointer (some ⟨gx, ox + k, none⟩)) := hV 12 (by decide)
              have e13 : x 13 = (.int .i64 (xs[k])) := hV 13 (by decide)
              have e14 : x 14 = (.slice (some ⟨gy, oy, none⟩) (pw n) cy) := hV 14 (by decide)
              have e15 : x 15 = (.int .i64 (j)) := hV 15 (by decide)
              have e16 : x 16 = (.pointer (some ⟨gy, oy + j, none⟩)) := hV 16 (by decide)
              have e17 : x 17 = (.int .i64 (ys[j])) := hV 17 (by decide)
              have e18 : x 18 = (.int .i64 (xs[k] * ys[j])) := hV 18 (by decide)
              have e19 : x 19 = (.pointer (some ⟨w.heap.size, 0, none⟩)) := hV 19 (by decide)
              have e20 : x 20 = (.int .i64 (P)) := hV 20 (by decide)
              have e21 : x 21 = (.int .i64 (xs[k] * ys[j] % P)) := hV 21 (by decide)
              have e22 : x 22 = (.agg #[.int .i64 P, .slice A n c]) := hV 22 (by decide)
              have e23 : x 23 = (.int .i64 (k)) := hV 23 (by decide)
              have e24 : x 24 = (.int .i64 (j)) := hV 24 (by decide)
              have e25 : x 25 = (.int .i64 (fac P sq k j)) := hV 25 (by decide)
              have e26 : x 26 = (.int .i64 (xs[k] * ys[j] % P * fac P sq k j)) := hV 26 (by decide)
              obtain ⟨q0, q1⟩ := hS.1.two; obtain ⟨hoc, hof⟩ := hAt.out _ hS.2.1; have q2 := hS.2.2.1; have q3 := hS.2.2.2
              go_simp
              exact hK.out _ _ _ rfl rfl rfl (Below.refl _ _)
            simp only [List.setIfInBounds_toArray, List.set_cons_zero, List.set_cons_succ]
            refine obs_step (Eq.trans (by simp only [List.getElem?_toArray, List.getElem?_cons_succ, List.getElem?_cons_zero]; exact rfl) rfl) rfl (fun w' hS hV K hK => ?_) ?_
            · obtain ⟨q0, q1⟩ := hS.1.two; obtain ⟨hoc, hof⟩ := hAt.out _ hS.2.1; have q2 := hS.2.2.1; have q3 := hS.2.2.2
              go_simp
              exact hK.out _ _ _ rfl rfl rfl (Below.refl _ _)
            simp only [List.setIfInBounds_toArray, List.set_cons_zero, List.set_cons_succ]
            refine obs_step (Eq.trans (by simp only [List.getElem?_toArray, List.getElem?_cons_succ, List.getElem?_cons_zero]; exact rfl) rfl) rfl (fun w' hS hV K hK => ?_) ?_
            · have e28 : x 28 = (.pointer (some ⟨w.heap.size, 0, none⟩)) := hV 28 (by decide)
              obtain ⟨q0, q1⟩ := hS.1.two; obtain ⟨hoc, hof⟩ := hAt.out _ hS.2.1; have q2 := hS.2.2.1; have q3 := hS.2.2.2
              go_simp
              exact hK.out _ _ _ rfl rfl rfl (Below.refl _ _)
            simp only [List.setIfInBounds_toArray, List.set_cons_zero, List.set_cons_succ]
            refine obs_step (Eq.trans (by simp only [List.getElem?_toArray, List.getElem?_cons_succ, List.getElem?_cons_zero]; exact rfl) rfl) rfl (fun w' hS hV K hK => ?_) ?_
            · have e4 : x 4 = (.slice (some ⟨g, 0, none⟩) (pw n) (pw n)) := hV 4 (by decide)
              have e5 : x 5 = (.int .i64 (k)) := hV 5 (by decide)
              have e6 : x 6 = (.int .i64 (j)) := hV 6 (by decide)
              have e7 : x 7 = (.int .i64 ((k ^^^ j : Nat))) := hV 7 (by decide)
              have e8 : x 8 = (.pointer (some ⟨g, k ^^^ j, none⟩)) := hV 8 (by decide)
              have e9 : x 9 = (.int .i64 (v0)) := hV 9 (by decide)
              have e10 : x 10 = (.slice (some ⟨gx, ox, none⟩) (pw n) cx) := hV 10 (by decide)
              have e11 : x 11 = (.int .i64 (k)) := hV 11 (by decide)
              have e12 : x 12 = (.pointer (some ⟨gx, ox + k, none⟩)) := hV 12 (by decide)
              have e13 : x 13 = (.int .i64 (xs[k])) := hV 13 (by decide)
              have e14 : x 14 = (.slice (some ⟨gy, oy, none⟩) (pw n) cy) := hV 14 (by decide)
              have e15 : x 15 = (.int .i64 (j)) := hV 15 (by decide)
              have e16 : x 16 = (.pointer (some ⟨gy, oy + j, none⟩)) := hV 16 (by decide)
              have e17 : x 17 = (.int .i64 (ys[j])) := hV 17 (by decide)
              have e18 : x 18 = (.int .i64 (xs[k] * ys[j])) := hV 18 (by decide)
              have e19 : x 19 = (.pointer (some ⟨w.heap.size, 0, none⟩)) := hV 19 (by decide)
              have e20 : x 20 = (.int .i64 (P)) := hV 20 (by decide)
              have e21 : x 21 = (.int .i64 (xs[k] * ys[j] % P)) := hV 21 (by decide)
              have e22 : x 22 = (.agg #[.int .i64 P, .slice A n c]) := hV 22 (by decide)
              have e23 : x 23 = (.int .i64 (k)) := hV 23 (by decide)
              have e24 : x 24 = (.int .i64 (j)) := hV 24 (by decide)
              have e25 : x 25 = (.int .i64 (fac P sq k j)) := hV 25 (by decide)
              have e26 : x 26 = (.int .i64 (xs[k] * ys[j] % P * fac P sq k j)) := hV 26 (by decide)
              have e27 : x 27 = (.int .i64 (v0 + xs[k] * ys[j] % P * fac P sq k j)) := hV 27 (by decide)
              have e28 : x 28 = (.pointer (some ⟨w.heap.size, 0, none⟩)) := hV 28 (by decide)
              have e29 : x 29 = (.int .i64 (P)) := hV 29 (by decide)
              obtain ⟨q0, q1⟩ := hS.1.two; obtain ⟨hoc, hof⟩ := hAt.out _ hS.2.1; have q2 := hS.2.2.1; have q3 := hS.2.2.2
              go_simp
              exact hK.out _ _ _ rfl rfl rfl (Below.refl _ _)
            simp only [List.setIfInBounds_toArray, List.set_cons_zero, List.set_cons_succ]
            refine obs_step (Eq.trans (by simp only [List.getElem?_toArray, List.getElem?_cons_succ, List.getElem?_cons_zero]; exact rfl) rfl) rfl (fun w' hS hV K hK => ?_) ?_
            · have e0 : x 0 = (.slice (some ⟨g, 0, none⟩) (pw n) (pw n)) := hV 0 (by decide)
              have e1 : x 1 = (.int .i64 (k)) := hV 1 (by decide)
              have e2 : x 2 = (.int .i64 (j)) := hV 2 (by decide)
              have e3 : x 3 = (.int .i64 ((k ^^^ j : Nat))) := hV 3 (by decide)
              obtain ⟨q0, q1⟩ := hS.1.two; obtain ⟨hoc, hof⟩ := hAt.out _ hS.2.1; have q2 := hS.2.2.1; have q3 := hS.2.2.2
              go_simp
              exact hK.out _ _ _ rfl rfl rfl (Below.refl _ _)
            simp only [List.setIfInBounds_toArray, List.set_cons_zero, List.set_cons_succ]
            refine fun w' hS hV => ?_
            have e0 : x 0 = (.slice (some ⟨g, 0, none⟩) (pw n) (pw n)) := hV 0 (by decide)
            have e1 : x 1 = (.int .i64 (k)) := hV 1 (by decide)
            have e2 : x 2 = (.int .i64 (j)) := hV 2 (by decide)
            have e3 : x 3 = (.int .i64 ((k ^^^ j : Nat))) := hV 3 (by decide)
            have e4 : x 4 = (.slice (some ⟨g, 0, none⟩) (pw n) (pw n)) := hV 4 (by decide)
            have e5 : x 5 = (.int .i64 (k)) := hV 5 (by decide)
            have e6 : x 6 = (.int .i64 (j)) := hV 6 (by decide)
            have e7 : x 7 = (.int .i64 ((k ^^^ j : Nat))) := hV 7 (by decide)
            have e8 : x 8 = (.pointer (some ⟨g, k ^^^ j, none⟩)) := hV 8 (by decide)
            have e9 : x 9 = (.int .i64 (v0)) := hV 9 (by decide)
            have e10 : x 10 = (.slice (some ⟨gx, ox, none⟩) (pw n) cx) := hV 10 (by decide)
            have e11 : x 11 = (.int .i64 (k)) := hV 11 (by decide)
            have e12 : x 12 = (.pointer (some ⟨gx, ox + k, none⟩)) := hV 12 (by decide)
            have e13 : x 13 = (.int .i64 (xs[k])) := hV 13 (by decide)
            have e14 : x 14 = (.slice (some ⟨gy, oy, none⟩) (pw n) cy) := hV 14 (by decide)
            have e15 : x 15 = (.int .i64 (j)) := hV 15 (by decide)
            have e16 : x 16 = (.pointer (some ⟨gy, oy + j, none⟩)) := hV 16 (by decide)
            have e17 : x 17 = (.int .i64 (ys[j])) := hV 17 (by decide)
            have e18 : x 18 = (.int .i64 (xs[k] * ys[j])) := hV 18 (by decide)
            have e19 : x 19 = (.pointer (some ⟨w.heap.size, 0, none⟩)) := hV 19 (by decide)
            have e20 : x 20 = (.int .i64 (P)) := hV 20 (by decide)
            have e21 : x 21 = (.int .i64 (xs[k] * ys[j] % P)) := hV 21 (by decide)
            have e22 : x 22 = (.agg #[.int .i64 P, .slice A n c]) := hV 22 (by decide)
            have e23 : x 23 = (.int .i64 (k)) := hV 23 (by decide)
            have e24 : x 24 = (.int .i64 (j)) := hV 24 (by decide)
            have e25 : x 25 = (.int .i64 (fac P sq k j)) := hV 25 (by decide)
            have e26 : x 26 = (.int .i64 (xs[k] * ys[j] % P * fac P sq k j)) := hV 26 (by decide)
            have e27 : x 27 = (.int .i64 (v0 + xs[k] * ys[j] % P * fac P sq k j)) := hV 27 (by decide)
            have e28 : x 28 = (.pointer (some ⟨w.heap.size, 0, none⟩)) := hV 28 (by decide)
            have e29 : x 29 = (.int .i64 (P)) := hV 29 (by decide)
            have e30 : x 30 = (.int .i64 ((v0 + xs[k] * ys[j] % P * fac P sq k j) % P)) := hV 30 (by decide)
            have e31 : x 31 = (.pointer (some ⟨g, k ^^^ j, none⟩)) := hV 31 (by decide)
            simp only [e0, e1, e2, e3, e4, e5, e6, e7, e8, e9, e10, e11, e12, e13, e14, e15, e16, e17, e18, e19, e20, e21, e22, e23, e24, e25, e26, e27, e28, e29, e30, e31]
            clear e0 e1 e2 e3 e4 e5 e6 e7 e8 e9 e10 e11 e12 e13 e14 e15 e16 e17 e18 e19 e20 e21 e22 e23 e24 e25 e26 e27 e28 e29 e30 e31
            obtain ⟨hk4, hO, s3, s4⟩ := hS
            obtain ⟨hoc, hof⟩ := hAt.out _ hO
            refine any_one (j := 32) (by kernel_rfl) (Eq.trans (by simp only [List.getElem?_toArray, List.getElem?_cons_succ, List.getElem?_cons_zero]; exact rfl) rfl) (fun K hK => ?_)
            go_simp
            refine hK.out _ _ (wpAny_done (by kernel_rfl) ?_ _)
            have hset := (hO.set (k ^^^ j) (.int .i64 ((v0 + xs[k] * ys[j] % P * fac P sq k j) % P))).1
            rw [ints_set] at hset
            have hkn := hk4.far (p := ⟨g, k ^^^ j, none⟩) HNE.out.1.symm (.int .i64 ((v0 + xs[k] * ys[j] % P * fac P sq k j) % P))
            clear W1 W2 W3 T1 T2 hoc hof hO hk4
            go_wp2
            go_roundw
            case rel => exact ⟨j + 1, by omega, by go_num, by rw [addRow_succ, ← addPair_all (by omega) HNR.out HF1.out, ← HV0.out, hxn.out, hyn.out, ← mod_mul_add v0 (xs[k] * ys[j]) (fac P sq k j) P]; exact hset, hkn⟩
            case measure => simp [intOf]; omega
        · obtain rfl : j = pw n := by omega
          have HM := Lib.hid hM3
          clear hM3
          go_wp2
          go_roundw
          case rel => exact ⟨k + 1, by omega, by go_num, by rw [addRows_succ, Hy.out, ← HL0.out]; exact HM.out, hk3⟩
          case measure => simp [intOf]; omega
    · obtain rfl : k = pw n := by omega
      go_wp2
      go_ret
      exact ⟨_, _, rfl, by rw [HDL.out]; exact hM2⟩
set_option maxRecDepth 8000 in
set_option maxHeartbeats 800000 in
set_option maxRecDepth 8000 in
theorem l05Wedge_any (P : Int) (A : Option Addr) (n c : Nat) (sq : List Int) (X : Option Addr) (cx : Nat) (xs : List Int) (Y : Option Addr) (cy : Nat) (ys : List Int) (w : World) (hp : 2 ≤ P) (hp2 : P ≤ 13) (hn : n ≤ 6)
    (ha : Rd w A n (ints sq)) (hs : NumsL P sq) (hx : Rd w X (pw n) (ints xs)) (hxs : NumsL P xs) (hy : Rd w Y (pw n) (ints ys)) (hys : NumsL P ys) :
    Calls Tryz.prog 145 #[.agg #[.int .i64 P, .slice A n c], .slice X (pw n) cx, .slice Y (pw n) cy] w fun e w' => ∃ A' c', e = .returned (.slice A' (pw n) c') ∧ MkI w w' A' (pw n) c' (wedgeL P sq xs ys) := by
  have hcall := fun w' (hb : Below w.heap.size w w') => l05Kind_0 P A n c sq X cx xs Y cy ys w' hp hp2 hn (ha.below hb) hs (hx.below hb) hxs (hy.below hb) hys
  have HC := Lib.hid hcall
  clear hcall
  go_enter Tryz.func145, Tryz.ntmps145
  go_wp2_with (go_at_call 168; first | (refine (HC.out _ (Below.refl _ _)).mono ?_; rintro e w2 ⟨G2, d2, rfl, hM3⟩) | (refine (HC.out _ ((Below.refl _ _).alloc (Nat.le_refl _) _)).mono ?_; rintro e w2 ⟨G2, d2, rfl, hM4⟩; have hM3 := hM4.after ((Below.refl _ w).alloc (Nat.le_refl _) (.cells #[.int .i64 P, .slice A n c] 28)); clear hM4))
  go_ret
  exact ⟨_, _, rfl, hM3⟩
set_option maxRecDepth 8000 in
set_option maxHeartbeats 800000 in
set_option maxRecDepth 8000 in
theorem l05Left_any (P : Int) (A : Option Addr) (n c : Nat) (sq : List Int) (X : Option Addr) (cx : Nat) (xs : List Int) (Y : Option Addr) (cy : Nat) (ys : List Int) (w : World) (hp : 2 ≤ P) (hp2 : P ≤ 13) (hn : n ≤ 6)
    (ha : Rd w A n (ints sq)) (hs : NumsL P sq) (hx : Rd w X (pw n) (ints xs)) (hxs : NumsL P xs) (hy : Rd w Y (pw n) (ints ys)) (hys : NumsL P ys) :
    Calls Tryz.prog 146 #[.agg #[.int .i64 P, .slice A n c], .slice X (pw n) cx, .slice Y (pw n) cy] w fun e w' => ∃ A' c', e = .returned (.slice A' (pw n) c') ∧ MkI w w' A' (pw n) c' (contrL P sq xs ys) := by
  have hcall := fun w' (hb : Below w.heap.size w w') => l05Kind_1 P A n c sq X cx xs Y cy ys w' hp hp2 hn (ha.below hb) hs (hx.below hb) hxs (hy.below hb) hys
  have HC := Lib.hid hcall
  clear hcall
  go_enter Tryz.func146, Tryz.ntmps146
  go_wp2_with (go_at_call 168; first | (refine (HC.out _ (Below.refl _ _)).mono ?_; rintro e w2 ⟨G2, d2, rfl, hM3⟩) | (refine (HC.out _ ((Below.refl _ _).alloc (Nat.le_refl _) _)).mono ?_; rintro e w2 ⟨G2, d2, rfl, hM4⟩; have hM3 := hM4.after ((Below.refl _ w).alloc (Nat.le_refl _) (.cells #[.int .i64 P, .slice A n c] 28)); clear hM4))
  go_ret
  exact ⟨_, _, rfl, hM3⟩
end Go.Proofs.YticofgmmjecleaaGreatDoor

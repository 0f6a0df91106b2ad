/-
  LawFnTriality: part 2 of the texts that the proof needs. No condition.
-/
import Derived.Test.YtaiegpggccdgoaaGreatT1
namespace Go.Proofs.YtaiegpggccdgoaaGreat
open Go.RowKit
set_option maxHeartbeats 1600000 in
set_option maxRecDepth 8000 in
theorem transpose_any (p : Int) (A : Option Addr) (n c : Nat) (M : List (List Int)) (m : Nat) (w : World) (h0 : 0 < n) (hn : n ≤ 65536) (hm : m ≤ 65536) (ha : RdII w A n M) (hT : Tab p m M) :
    Calls Tryz.prog 109 #[.slice A n c] w fun e w' => ∃ A' c', e = .returned (.slice A' m c') ∧ MkII w w' A' m c' (transL M) := by
 have hML := ha.len
 have HTL : Hid (transL M = tab m fun k => tab n fun i => ent M i k) := Lib.hid (by unfold transL; rw [(hT.row (show 0 < M.length by omega)).1, hML])
 have HT := Lib.hid hT
 have HML := Lib.hid hML
 have hM0 : MkII w (w.alloc (.cells #[] 24)) (some ⟨w.heap.size, 0, none⟩) 0 0 [] := MkII.empty zG
 obtain ⟨g, o, rfl, hx0, A0, c0, hcx0, _, _⟩ := (ha.below hM0.b).at_ h0
 have hl0 : M[0].length = m := (HT.out M[0] (List.getElem_mem hx0)).1
 rw [hl0, Nat.add_zero] at hcx0
 clear hT hML hl0
 go_enter Tryz.func109, Tryz.ntmps109
 go_wp2
 clear hcx0
 obtain ⟨w1, hw1⟩ : ∃ W, W = w.alloc (.cells #[] 24) := ⟨_, rfl⟩
 rw [← hw1] at hM0 ⊢
 clear hw1
 go_loopw [3, 12] (fun out i wr => ∃ (k : Nat) (A' : Option Addr) (c' : Nat), k ≤ m ∧ i = .int .i64 k ∧ out = .slice A' k c' ∧ MkII w wr A' k c' (tab k fun k => tab n fun i => ent M i k)) (fun _ i _ => m - (intOf i).toNat)
 case atStart => exact ⟨0, _, _, by omega, rfl, rfl, by simpa [tab] using hM0⟩
 case round =>
  obtain ⟨k, A', c', hk, rfl, rfl, hM⟩ := hrel
  clear hM0
  obtain ⟨wo, rfl⟩ : ∃ W, W = wr := ⟨_, rfl⟩
  by_cases hlt : k < m
  · have hr0 := Mk.lit (E := 2) (Below.refl wo.heap.size wo) #[] (by simp)
    have hR0 : MkI wo (wo.alloc (.cells #[] 2)) (some ⟨wo.heap.size, 0, none⟩) 0 0 [] := by simpa [MkI, ints] using hr0
    have HM := Lib.hid hM
    clear hr0 hM
    go_wp2
    go_loopw [5, 18] (fun row i w2 => ∃ (j : Nat) (A2 : Option Addr) (c2 : Nat), j ≤ n ∧ i = .int .i64 j ∧ row = .slice A2 j c2 ∧ MkI wo w2 A2 j c2 (tab j fun i => ent M i k)) (fun _ i _ => n - (intOf i).toNat)
    case atStart => exact ⟨0, _, _, by omega, rfl, rfl, by simpa [tab] using hR0⟩
    case round =>
     obtain ⟨j, A2, c2, hj, rfl, rfl, hR⟩ := hrel
     clear hR0
     have HR := Lib.hid hR
     by_cases hlj : j < n
     · have hbb := HM.out.b.trans (hR.b.mono HM.out.b.size)
       obtain ⟨g', o', e', hxj, A3, c3, hcx, hr3, _⟩ := (ha.below hbb).at_ hlj
       injection e' with e'; injection e' with e1 e2 _
       subst e1; subst e2
       have hl3 : M[j].length = m := (HT.out M[j] (List.getElem_mem hxj)).1
       rw [hl3] at hcx hr3
       obtain ⟨g3, o3, rfl, hx3, hc3⟩ := hr3.int hlt
       have HV : Hid ((tab (j + 1) fun i => ent M i k) = (tab j fun i => ent M i k) ++ [M[j][k]]) := Lib.hid (by rw [tab_succ, ent_at hxj hx3])
       clear hR hr3 hl3 hbb ha
       go_wp2_with (at_builtin; refine wpList_app1 wo _ 24 2 _ _ Tryz.underlying24 info_i rfl (by omega) rfl _ _ rfl A2 j c2 _ _ HR.out (by omega) rfl rfl rfl ?_; intro A4 c4 w4 hM4 _ _)
       go_roundw
       case rel => exact ⟨j + 1, A4, c4, by omega, by go_num, rfl, by rw [HV.out]; simpa [MkI, ints] using hM4⟩
       case measure => simp [intOf]; omega
     · obtain rfl : j = n := by omega
       clear hR ha
       go_wp2_with (at_builtin; refine wpList_appRow w wo _ rfl _ _ rfl A' k c' _ A2 j c2 _ HM.out HR.out (by omega) rfl ?_ ?_; (go_simp); intro A4 c4 w4 hM4)
       go_roundw
       case rel => exact ⟨k + 1, A4, c4, by omega, by go_num, rfl, by rw [tab_succ]; exact hM4⟩
       case measure => simp [intOf]; omega
  · go_wp2
    go_ret
    obtain rfl : k = m := by omega
    exact ⟨_, _, rfl, by rw [HTL.out]; exact hM⟩
set_option maxHeartbeats 400000 in
set_option maxRecDepth 8000 in
theorem l01Prime_any (p : Int) (w : World) :
    Calls Tryz.prog 134 #[.int .i64 p] w fun e w' => e = .returned (.bool (isP p)) ∧ w = w' := by
 by_cases h3 : p = 3
 · subst h3
   go_enter Tryz.func134, Tryz.ntmps134
   go_wp2
   go_ret
   exact ⟨rfl, rfl⟩
 have b3 : (p == 3) = false := by simpa using h3
 by_cases h5 : p = 5
 · subst h5
   go_enter Tryz.func134, Tryz.ntmps134
   go_wp2
   go_ret
   exact ⟨rfl, rfl⟩
 have b5 : (p == 5) = false := by simpa using h5
 by_cases h7 : p = 7
 · subst h7
   go_enter Tryz.func134, Tryz.ntmps134
   go_wp2
   go_ret
   exact ⟨rfl, rfl⟩
 have b7 : (p == 7) = false := by simpa using h7
 by_cases h11 : p = 11
 · subst h11
   go_enter Tryz.func134, Tryz.ntmps134
   go_wp2
   go_ret
   exact ⟨rfl, rfl⟩
 have b11 : (p == 11) = false := by simpa using h11
 go_enter Tryz.func134, Tryz.ntmps134
 go_wp2
 go_ret
 exact ⟨ret_bool (by simp [isP, b3, b5, b7, b11]), rfl⟩
theorem l01Prime_b {b : Bool} (p : Int) (w : World) (h : isP p = b) :
    Calls Tryz.prog 134 #[.int .i64 p] w fun e w' => e = .returned (.bool b) ∧ w = w' := h ▸ l01Prime_any p w
set_option maxHeartbeats 400000 in
set_option maxRecDepth 8000 in
theorem l01In_any (n lo hi : Int) (w : World) :
    Calls Tryz.prog 135 #[.int .i64 n, .int .i64 lo, .int .i64 hi] w fun e w' => e = .returned (.bool (inR n lo hi)) ∧ w = w' := by
 by_cases h : lo ≤ n
 · go_enter Tryz.func135, Tryz.ntmps135
   go_wp2
   go_ret
   exact ⟨ret_bool (by simp [inR, h]), rfl⟩
 · go_enter Tryz.func135, Tryz.ntmps135
   go_wp2
   go_ret
   exact ⟨ret_bool (by simp [inR]; omega), rfl⟩
theorem l01In_b {b : Bool} (n lo hi : Int) (w : World) (h : inR n lo hi = b) :
    Calls Tryz.prog 135 #[.int .i64 n, .int .i64 lo, .int .i64 hi] w fun e w' => e = .returned (.bool b) ∧ w = w' := h ▸ l01In_any n lo hi w
/-- The value is a slice of one new row in a block of its own. -/
def VNew (w0 : World) (n : Nat) (L : List Int) : VP := ⟨fun v w => ∃ g A c, v = .slice (some ⟨g, 0, none⟩) 1 1 ∧ Blk w g 24 #[.slice A n c] ∧ MkI w0 w A n c L, fun _ _ _ ⟨g, A, c, e, b, h⟩ hb => ⟨g, A, c, e, b.below hb b.lt, h.below hb⟩⟩
/-- A new row, in a block of its own, is appended. -/
theorem wp_appRow {o : Oper} {a : Act} {K : Act → World → Prop} {Q : Exit → Act → World → Prop} (w0 wr w1 : World)
    (s x : Operand) (ho : o.op = .call { callee := .builtin .append, args := #[s, x], argTypes := #[32, 32] })
    (A : Option Addr) (n c : Nat) (xss : List (List Int)) (A1 : Option Addr) (m c1 : Nat) (xs : List Int) (hM : MkII w0 wr A n c xss) (hr : Mk wr w1 2 A1 m c1 (ints xs)) (hn : n ≤ 1099511627776) (g : Nat) (hB : Blk w1 g 24 #[.slice A1 m c1])
    (hs : a.eval s = .slice A n c) (hx : a.eval x = .slice (some ⟨g, 0, none⟩) 1 1)
    (h : ∀ A' c' w', MkII w0 w' A' (n + 1) c' (xss ++ [xs]) → w1.grownBy w' (Value.slice A n c).ownBlock → (∃ g, A' = some ⟨g, 0, none⟩ ∧ ((Value.slice A n c).ownBlock = some g ∨ w1.heap.size ≤ g)) → K (a.put o.dst (.slice A' (n + 1) c')) w') : o.wp Tryz.prog a w1 K Q := by
 obtain ⟨rows, hm, hnest⟩ := hM
 have hm1 := hm.below hr.1
 have hn1 := hnest.snoc hr hm.1.size
 obtain ⟨i, hi, h1, h2, h3⟩ := info_parts info_s
 obtain ⟨b1, b2⟩ := bound_of hn
 refine wp_append_lies w1 s x 32 ho w0.heap.size 24 i (.slice none 0 0) 1 24 Tryz.underlying32 hi h1 h2 h3 rfl (by omega) (.slice A n c) n rows hs hm1.2 ⟨g, 0, none⟩ 1 1 [.slice A1 m c1] hx rfl (fun j v hv => ?_)
  (by intro v hv; simp at hv; rw [hv]; rfl) (by omega) b1 (b2 _ (by omega)) hm1.1.size _ rfl (fun g' cap w' hown hg hat _ => h _ _ _ ⟨_, ⟨hm1.1.grown hg hm1.1.size (fun k hk => (hm1.2.lt k hk).1), hown⟩, hn1.grown hm1.2 (by decide) hg⟩ hg ⟨g', rfl, hat.imp id (fun e => by omega)⟩)
 match j, hv with
 | 0, hv => simp at hv; subst hv; rw [Addr.add_lit]; exact hB.cell 0
theorem is_b {b : Bool} (p : Int) (A : Option Addr) (n c : Nat) (xs : List Int) (w : World) (hp : 0 < p) (hp2 : p ≤ 100) (hn : n ≤ 1099511627776) (ha : Rd w A n (ints xs)) (h : nums p xs = b) :
    Calls Tryz.prog 132 #[.int .i64 p, .slice A n c] w fun e w' => e = .returned (.bool b) ∧ w = w' := h ▸ is_any p A n c xs w hp hp2 hn ha
theorem nums_numsL {P : Int} {xs : List Int} (h : nums P xs = true) : NumsL P xs := fun x hx => by
 have := List.all_eq_true.1 h x hx
 simp [inR] at this
 omega
end Go.Proofs.YtaiegpggccdgoaaGreat
namespace Go.Proofs.YtaiegpggccdgoaaGreat
theorem sumTo_zero {n : Nat} {f : Nat → Int} (h : ∀ i, i < n → f i = 0) : sumTo n f = 0 := by
 induction n with
 | zero => rfl
 | succ n ih => rw [sumTo_succ, ih (fun i hi => h i (by omega)), h n (by omega)]; rfl
theorem sumTo_one {n : Nat} {f : Nat → Int} (k : Nat) (hk : k < n) (h : ∀ i, i < n → i ≠ k → f i = 0) : sumTo n f = f k := by
 induction n with
 | zero => omega
 | succ n ih =>
  rw [sumTo_succ]
  by_cases e : k = n
  · subst e; rw [sumTo_zero (fun i hi => h i (by omega) (by omega)), Int.zero_add]
  · rw [ih (by omega) (fun i hi => h i (by omega)), h n (by omega) (by omega), Int.add_zero]
theorem sumTo_add (n : Nat) (f g : Nat → Int) : sumTo n (fun i => f i + g i) = sumTo n f + sumTo n g := by
 induction n with
 | zero => rfl
 | succ n ih => rw [sumTo_succ, sumTo_succ, sumTo_succ, ih]; omega
theorem sumTo_mul (n : Nat) (f : Nat → Int) (c : Int) : sumTo n (fun i => c * f i) = c * sumTo n f := by
 induction n with
 | zero => simp [sumTo]
 | succ n ih => rw [sumTo_succ, sumTo_succ, ih, Int.mul_add]
theorem sumTo_comm (n m : Nat) (f : Nat → Nat → Int) : sumTo n (fun i => sumTo m (f i)) = sumTo m (fun j => sumTo n (fun i => f i j)) := by
 induction n with
 | zero => exact (sumTo_zero (fun _ _ => rfl)).symm
 | succ n ih => rw [sumTo_succ, ih, ← sumTo_add]; rfl
end Go.Proofs.YtaiegpggccdgoaaGreat
namespace Go.Proofs.YtaiegpggccdgoaaGreat
open Go.RowKit
/-- A slice of rows of numbers of the call's own, from block B on. -/
def OwnII (w : World) (B : Nat) (A : Option Addr) (n c : Nat) (xss : List (List Int)) : Prop := ∃ rows, Own w B 24 A n c rows ∧ Nest w B rows xss
theorem MkII.own {w0 w : World} {A : Option Addr} {n c : Nat} {xss : List (List Int)} (h : MkII w0 w A n c xss) : OwnII w w0.heap.size A n c xss := by
 obtain ⟨rows, h1, h2⟩ := h
 exact ⟨rows, h1.2, h2⟩
section
variable {w w' : World} {B B' : Nat} {A : Option Addr} {n c : Nat} {xss : List (List Int)}
theorem OwnII.rd (h : OwnII w B A n c xss) : RdII w A n xss := by
 obtain ⟨rows, hm, hn⟩ := h
 exact ⟨rows, hm.rd, hn.len, fun k hk => by obtain ⟨A', c', e, ho⟩ := hn.row k hk; exact ⟨A', c', e, ho.rd, ho.cap⟩⟩
theorem OwnII.below (h : OwnII w B A n c xss) (hb : Below w.heap.size w w') : OwnII w' B A n c xss := by
 obtain ⟨rows, hm, hn⟩ := h
 exact ⟨rows, hm.below hb, hn.below hb⟩
end
theorem Blk.newAt3 {w : World} {t : TypeId} {cs : Array Value} {g : Nat} (hg : g = w.heap.size) : Blk (w.alloc (.cells cs t)) g t cs := hg ▸ Blk.new w t cs
theorem sumTo_169 {n : Nat} {f : Nat → Int} (h : ∀ i, i < n → 0 ≤ f i ∧ f i ≤ 169) : 0 ≤ sumTo n f ∧ sumTo n f ≤ 169 * (n : Int) := by
 induction n with
 | zero => simp [sumTo]
 | succ n ih =>
  obtain ⟨a, b⟩ := ih fun i hi => h i (by omega)
  obtain ⟨c, d⟩ := h n (by omega)
  rw [sumTo_succ]
  omega
set_option maxHeartbeats 800000 in
set_option maxRecDepth 8000 in
theorem dot_any (p : Int) (A : Option Addr) (n c : Nat) (B : Option Addr) (m d : Nat) (xs ys : List Int) (w : World) (hp : 2 ≤ p) (hp2 : p ≤ 13) (hn : n ≤ 65536) (hnm : n ≤ m) (ha : Rd w A n (ints xs)) (hx : NumsL p xs) (hb : Rd w B m (ints ys)) (hy : NumsL p ys) :
    Calls Tryz.prog 68 #[.int .i64 p, .slice A n c, .slice B m d] w fun e w' => e = .returned (.int .i64 (dotL p xs ys)) ∧ w = w' := by
 have hxl := ha.lenI
 have hyl := hb.lenI
 have hsb : Hid (∀ j, j ≤ n → 0 ≤ (sumTo j fun i => xs.getD i 0 * ys.getD i 0) ∧ (sumTo j fun i => xs.getD i 0 * ys.getD i 0) ≤ 169 * (j : Int)) := Lib.hid (fun j hj => sumTo_169 (n := j) (f := fun i => xs.getD i 0 * ys.getD i 0) fun i hi => by
  show 0 ≤ xs.getD i 0 * ys.getD i 0 ∧ xs.getD i 0 * ys.getD i 0 ≤ 169
  have h1 : i < xs.length := by omega
  have h2 : i < ys.length := by omega
  rw [getD_of_lt 0 h1, getD_of_lt 0 h2]
  obtain ⟨a1, a2⟩ := hx _ (List.getElem_mem h1)
  obtain ⟨b1, b2⟩ := hy _ (List.getElem_mem h2)
  exact mul_small a1 (show xs[i] ≤ 13 by omega) b1 (show ys[i] ≤ 13 by omega))
 have Hx := Lib.hid hxl
 clear hxl hyl
 go_enter Tryz.func68, Tryz.ntmps68
 go_wp2
 go_loopw [7, 8, 9, 12] (fun s _ _ i wr => ∃ j : Nat, j ≤ n ∧ i = .int .i64 j ∧ s = .int .i64 (sumTo j fun i => xs.getD i 0 * ys.getD i 0) ∧ wr = w) (fun _ _ _ i _ => n - (intOf i).toNat)
 case atStart => exact ⟨0, by omega, rfl, rfl, rfl⟩
 case round =>
  obtain ⟨j, hj, rfl, rfl, rfl⟩ := hrel
  obtain ⟨b1, b2⟩ := hsb.out j hj
  have hsucc : Hid ((sumTo (j + 1) fun i => xs.getD i 0 * ys.getD i 0) = (sumTo j fun i => xs.getD i 0 * ys.getD i 0) + xs.getD j 0 * ys.getD j 0) := Lib.hid (sumTo_succ _ _)
  have hdot : Hid (j = n → dotL p xs ys = (sumTo j fun i => xs.getD i 0 * ys.getD i 0) % p) := Lib.hid (fun h => by unfold dotL; rw [Hx.out, h])
  obtain ⟨s, hs⟩ : ∃ s, s = sumTo j fun i => xs.getD i 0 * ys.getD i 0 := ⟨_, rfl⟩
  rw [← hs] at b1 b2 hsucc hdot ⊢
  clear hs
  by_cases hlt : j < n
  · obtain ⟨g, o, rfl, hxj, hcx⟩ := ha.int hlt
    obtain ⟨g2, o2, rfl, hyj, hcy⟩ := hb.int (show j < m by omega)
    obtain ⟨x1, x2⟩ := hx _ (List.getElem_mem hxj)
    obtain ⟨y1, y2⟩ := hy _ (List.getElem_mem hyj)
    obtain ⟨m1, m2⟩ := mul_small x1 (show xs[j] ≤ 13 by omega) y1 (show ys[j] ≤ 13 by omega)
    have HV : Hid ((sumTo (j + 1) fun i => xs.getD i 0 * ys.getD i 0) = s + xs[j] * ys[j]) := Lib.hid (by rw [hsucc.out, getD_of_lt 0 hxj, getD_of_lt 0 hyj])
    clear ha hb
    go_wp2
    go_roundw
    case rel => exact ⟨j + 1, by omega, by go_num, by rw [HV.out], trivial⟩
    case measure => simp [intOf]; omega
  · go_wp2_with fail
    refine (num_any p s _ (by omega) hp2 (by omega) (by omega)).mono ?_
    rintro e w' ⟨rfl, rfl⟩
    go_wp2
    go_ret
    exact ⟨ret_int (hdot.out (by omega)).symm, rfl⟩
end Go.Proofs.YtaiegpggccdgoaaGreat
namespace Go.Proofs.YtaiegpggccdgoaaGreat
theorem cg_add {p a b c d : Int} (h : a % p = b % p) (h' : c % p = d % p) : (a + c) % p = (b + d) % p := by rw [Int.add_emod, h, h', ← Int.add_emod]
theorem cg_mul {p a b c d : Int} (h : a % p = b % p) (h' : c % p = d % p) : a * c % p = b * d % p := by rw [Int.mul_emod, h, h', ← Int.mul_emod]
theorem cg_self (p a : Int) : a % p % p = a % p := Int.emod_emod_of_dvd _ (Int.dvd_refl p)
theorem sumTo_two {n : Nat} {f : Nat → Int} (a b : Nat) (ha : a < n) (hb : b < n) (hab : a ≠ b) (h : ∀ i, i < n → i ≠ a → i ≠ b → f i = 0) : sumTo n f = f a + f b := by
 have e : sumTo n f = sumTo n (fun i => (if i = a then f i else 0) + (if i = a then 0 else f i)) := sumTo_congr fun i _ => by split <;> omega
 rw [e, sumTo_add, sumTo_one (f := fun i => if i = a then f i else 0) a ha (fun i _ hi => if_neg hi), sumTo_one (f := fun i => if i = a then 0 else f i) b hb (fun i hi hib => by
  by_cases hia : i = a
  · exact if_pos hia
  · simp only [if_neg hia]; exact h i hi hia hib)]
 rw [if_pos rfl, if_neg (Ne.symm hab)]
theorem getD_app_left {α : Type} (d : α) {xs : List α} (ys : List α) {i : Nat} (h : i < xs.length) : (xs ++ ys).getD i d = xs.getD i d := by
 rw [getD_of_lt d h, getD_of_lt d (by rw [List.length_append]; omega), List.getElem_append_left h]
theorem getD_app_right {α : Type} (d : α) (xs ys : List α) (i : Nat) : (xs ++ ys).getD (xs.length + i) d = ys.getD i d := by
 by_cases h : i < ys.length
 · rw [getD_of_lt d h, getD_of_lt d (by rw [List.length_append]; omega), List.getElem_append_right (by omega)]
   congr 1; omega
 · rw [getD_of_ge d (show ys.length ≤ i by omega), getD_of_ge d (show (xs ++ ys).length ≤ xs.length + i by rw [List.length_append]; omega)]
/-- A sum of multiples of the rows. -/
def Sp (p : Int) (n : Nat) (m : List (List Int)) (v : Nat → Int) : Prop := ∃ c : Nat → Int, ∀ q, q < n → v q % p = (sumTo m.length fun i => c i * ent m i q) % p
theorem Sp.congr {p : Int} {n : Nat} {m : List (List Int)} {v u : Nat → Int} (h : Sp p n m v) (e : ∀ q, q < n → v q % p = u q % p) : Sp p n m u := by
 obtain ⟨c, hc⟩ := h
 exact ⟨c, fun q hq => (e q hq).symm.trans (hc q hq)⟩
theorem Sp.zero (p : Int) (n : Nat) (m : List (List Int)) : Sp p n m fun _ => 0 := ⟨fun _ => 0, fun q _ => by rw [sumTo_zero fun i _ => Int.zero_mul _]⟩
theorem Sp.add {p : Int} {n : Nat} {m : List (List Int)} {v u : Nat → Int} (h : Sp p n m v) (h' : Sp p n m u) : Sp p n m fun q => v q + u q := by
 obtain ⟨c, hc⟩ := h
 obtain ⟨d, hd⟩ := h'
 refine ⟨fun i => c i + d i, fun q hq => ?_⟩
 rw [sumTo_congr (g := fun i => c i * ent m i q + d i * ent m i q) fun i _ => Int.add_mul _ _ _, sumTo_add]
 exact cg_add (hc q hq) (hd q hq)
theorem Sp.mul {p : Int} {n : Nat} {m : List (List Int)} {v : Nat → Int} (h : Sp p n m v) (k : Int) : Sp p n m fun q => k * v q := by
 obtain ⟨c, hc⟩ := h
 refine ⟨fun i => k * c i, fun q hq => ?_⟩
 rw [sumTo_congr (g := fun i => k * (c i * ent m i q)) fun i _ => Int.mul_assoc _ _ _, sumTo_mul]
 exact cg_mul rfl (hc q hq)
theorem Sp.row {p : Int} {n : Nat} {m : List (List Int)} {i : Nat} (hi : i < m.length) : Sp p n m fun q => ent m i q := by
 refine ⟨fun j => if j = i then 1 else 0, fun q _ => ?_⟩
 rw [sumTo_one (f := fun j => (if j = i then 1 else 0) * ent m j q) i hi (fun j _ hj => by simp only [if_neg hj, Int.zero_mul])]
 simp
theorem Sp.mem {p : Int} {n : Nat} {m : List (List Int)} {x : List Int} (hx : x ∈ m) : Sp p n m fun q => x.getD q 0 := by
 obtain ⟨i, hi, rfl⟩ := List.getElem_of_mem hx
 refine (Sp.row hi).congr fun q _ => ?_
 unfold ent; rw [getD_of_lt [] hi]
theorem Sp.sum {p : Int} {n : Nat} {m : List (List Int)} (k : Nat) {f : Nat → Nat → Int} (h : ∀ i, i < k → Sp p n m (f i)) : Sp p n m fun q => sumTo k fun i => f i q := by
 induction k with
 | zero => exact Sp.zero p n m
 | succ k ih => exact (ih fun i hi => h i (by omega)).add (h k (by omega))
/-- All rows of the first are made of those of the second. -/
def InSp (p : Int) (n : Nat) (m m' : List (List Int)) : Prop := ∀ i, i < m.length → Sp p n m' fun q => ent m i q
theorem InSp.sp {p : Int} {n : Nat} {m m' : List (List Int)} (h : InSp p n m m') {v : Nat → Int} (hv : Sp p n m v) : Sp p n m' v := by
 obtain ⟨c, hc⟩ := hv
 exact (Sp.sum m.length fun i hi => (h i hi).mul (c i)).congr fun q hq => (hc q hq).symm
theorem InSp.refl (p : Int) (n : Nat) (m : List (List Int)) : InSp p n m m := fun _ hi => Sp.row hi
theorem InSp.trans {p : Int} {n : Nat} {m m' m2 : List (List Int)} (h : InSp p n m m') (h' : InSp p n m' m2) : InSp p n m m2 := fun i hi => h'.sp (h i hi)
theorem InSp.of_mem {p : Int} {n : Nat} {m m' : List (List Int)} (h : ∀ x ∈ m, Sp p n m' fun q => x.getD q 0) : InSp p n m m' := fun i hi =>
 (h _ (List.getElem_mem hi)).congr fun q _ => by unfold ent; rw [getD_of_lt [] hi]
theorem InSp.of_sub {p : Int} {n : Nat} {m m' : List (List Int)} (h : ∀ x ∈ m, x ∈ m') : InSp p n m m' := InSp.of_mem fun x hx => Sp.mem (h x hx)
theorem InSp.append {p : Int} {n : Nat} {m1 m2 m' : List (List Int)} (h1 : InSp p n m1 m') (h2 : InSp p n m2 m') : InSp p n (m1 ++ m2) m' := InSp.of_mem fun x hx => by
 rcases List.mem_append.1 hx with h | h
 · exact h1.sp (Sp.mem h)
 · exact h2.sp (Sp.mem h)
/-- Two numbers that have the same remainder and are remainders. -/
theorem cg_eq {p a b : Int} (ha : 0 ≤ a ∧ a < p) (hb : 0 ≤ b ∧ b < p) (h : a % p = b % p) : a = b := by
 rwa [Int.emod_eq_of_lt ha.1 ha.2, Int.emod_eq_of_lt hb.1 hb.2] at h
theorem scaledAt_in {p : Int} (hP : isP p = true) {n : Nat} {m : List (List Int)} (hT : Tab p n m) {k d : Nat} (hd : d < m.length) (hv : pivOf m k d < m.length) :
    InSp p n (scaledAt p m k d) m ∧ InSp p n m (scaledAt p m k d) := by
 have hp : 2 ≤ p := by have := isP_ge hP; omega
 have hlen := scaledAt_len p m k d
 have hE := fun r q hq => ent_scaled (p := p) (k := k) rfl hd hv hT r q hq
 obtain ⟨hb1, hb2⟩ := pivOf_bound m k d (by omega)
 have hx : ent m (pivOf m k d) k ≠ 0 := piv_at m k _ _ (by unfold pivOf at hv; omega)
 obtain ⟨x1, x2⟩ := hT.ent (by omega) (pivOf m k d) k
 obtain ⟨i1, i2, i3⟩ := inv_spec hP (show 0 < ent m (pivOf m k d) k by omega) x2
 have hinv : ent m (pivOf m k d) k * invF p (ent m (pivOf m k d) k) % p = 1 := (i3 _ (by omega) i2).2 rfl
 obtain ⟨v, hv'⟩ : ∃ v, v = pivOf m k d := ⟨_, rfl⟩
 rw [← hv'] at hE hx x1 x2 hinv hv hb1 hb2
 obtain ⟨y, hy⟩ : ∃ y, y = invF p (ent m v k) := ⟨_, rfl⟩
 rw [← hy] at hE hinv
 constructor
 · intro r hr
   rw [hlen] at hr
   by_cases h1 : r = d
   · refine ((Sp.row hv).mul y).congr fun q hq => ?_
     rw [hE r q hq, if_pos h1, cg_self, Int.mul_comm]
   · by_cases h2 : r = v
     · refine (Sp.row hd).congr fun q hq => ?_
       rw [hE r q hq, if_neg h1, if_pos h2]
     · refine (Sp.row hr).congr fun q hq => ?_
       rw [hE r q hq, if_neg h1, if_neg h2]
 · intro r hr
   by_cases h2 : r = v
   · refine ((Sp.row (show d < (scaledAt p m k d).length by omega)).mul (ent m v k)).congr fun q hq => ?_
     rw [hE d q hq, if_pos rfl, h2]
     have e1 : ent m v k * (ent m v q * y % p) % p = ent m v k * (ent m v q * y) % p := cg_mul rfl (cg_self _ _)
     have e2 : ent m v k * (ent m v q * y) = ent m v q * (ent m v k * y) := by rw [Int.mul_comm (ent m v q) y, ← Int.mul_assoc, Int.mul_comm]
     rw [e1, e2]
     have e3 : ent m v q * (ent m v k * y) % p = ent m v q * 1 % p := cg_mul rfl (by rw [hinv, Int.emod_eq_of_lt (by omega) (by omega)])
     rw [e3, Int.mul_one]
   · by_cases h1 : r = d
     · refine (Sp.row (show v < (scaledAt p m k d).length by omega)).congr fun q hq => ?_
       rw [hE v q hq, if_neg (fun e => h2 (h1.trans e.symm)), if_pos rfl, h1]
     · refine (Sp.row (show r < (scaledAt p m k d).length by omega)).congr fun q hq => ?_
       rw [hE r q hq, if_neg h1, if_neg h2]
theorem clearTo_in {p : Int} {n : Nat} {m : List (List Int)} (hT : Tab p n m) {k d : Nat} (hd : d < m.length) :
    InSp p n (clearTo p m d k m.length) m ∧ InSp p n m (clearTo p m d k m.length) := by
 have hlen := clearTo_len p m d k m.length
 have hE := fun r q hr hq => ent_cleared (p := p) hT d k r q hr hq
 constructor
 · intro r hr
   rw [hlen] at hr
   by_cases h1 : r = d
   · refine (Sp.row hd).congr fun q hq => ?_
     rw [hE r q hr hq, if_pos h1]
   · refine ((Sp.row hr).add ((Sp.row hd).mul (-(ent m r k)))).congr fun q hq => ?_
     rw [hE r q hr hq, if_neg h1, cg_self]
 · intro r hr
   by_cases h1 : r = d
   · refine (Sp.row (show d < (clearTo p m d k m.length).length by omega)).congr fun q hq => ?_
     rw [hE d q hd hq, if_pos rfl, h1]
   · refine ((Sp.row (show r < (clearTo p m d k m.length).length by omega)).add ((Sp.row (show d < (clearTo p m d k m.length).length by omega)).mul (ent m r k))).congr fun q hq => ?_
     rw [hE r q hr hq, if_neg h1, hE d q hd hq, if_pos rfl]
     refine (cg_add (cg_self _ _) rfl).trans ?_
     congr 1
     rw [Int.neg_mul]; omega
theorem stepB_in {p : Int} (hP : isP p = true) {n : Nat} {s : List (List Int) × Nat} {k : Nat} (hT : Tab p n s.1) (hd : s.2 ≤ s.1.length) : InSp p n (stepB p k s).1 s.1 ∧ InSp p n s.1 (stepB p k s).1 := by
 unfold stepB
 split
 · exact ⟨InSp.refl _ _ _, InSp.refl _ _ _⟩
 · rename_i hne
   have hb := pivOf_bound s.1 k s.2 hd
   have hp : 2 ≤ p := by have := isP_ge hP; omega
   obtain ⟨a1, a2⟩ := scaledAt_in (k := k) hP hT (show s.2 < s.1.length by omega) (by omega)
   obtain ⟨b1, b2⟩ := clearTo_in (k := k) (d := s.2) (scaledAt_tab (p := p) (k := k) (by omega) hT (show s.2 < s.1.length by omega) (by omega)) (by rw [scaledAt_len]; omega)
   rw [scaledAt_len] at b1 b2
   exact ⟨b1.trans a1, a2.trans b2⟩
theorem basisTo_in {p : Int} (hP : isP p = true) {n : Nat} (m : List (List Int)) (hT : Tab p n m) (k : Nat) (hk : k ≤ n) : InSp p n (basisTo p m k).1 m ∧ InSp p n m (basisTo p m k).1 := by
 have hp : 2 ≤ p := by have := isP_ge hP; omega
 induction k with
 | zero => exact ⟨InSp.refl _ _ _, InSp.refl _ _ _⟩
 | succ k ih =>
  obtain ⟨h1, h2⟩ := ih (by omega)
  obtain ⟨t1, t2, t3⟩ := basisTo_inv (p := p) (by omega) m hT k
  obtain ⟨g1, g2⟩ := stepB_in (k := k) hP (s := basisTo p m k) t1 (by omega)
  exact ⟨g1.trans h1, h2.trans g2⟩
/-- The reduced basis makes what the rows make. -/
theorem basisL_in {p : Int} (hP : isP p = true) {n : Nat} (m : List (List Int)) (hT : Tab p n m) : InSp p n (basisL p m) m ∧ InSp p n m (basisL p m) := by
 have hp : 2 ≤ p := by have := isP_ge hP; omega
 by_cases h0 : 0 < m.length
 · have hl := row0_len hT h0
   obtain ⟨a1, a2⟩ := basisTo_in hP m hT n (Nat.le_refl _)
   obtain ⟨c, hc⟩ := basisTo_ech hP m hT n (Nat.le_refl _)
   obtain ⟨h1, h2, h3⟩ := basisTo_inv (p := p) (by omega) m hT n
   have e : basisL p m = (basisTo p m n).1.take (basisTo p m n).2 := by unfold basisL; rw [hl]
   constructor
   · refine InSp.trans (InSp.of_sub fun x hx => ?_) a1
     rw [e] at hx
     exact List.mem_of_mem_take hx
   · refine a2.trans fun i hi => ?_
     by_cases hid : i < (basisTo p m n).2
     · refine (Sp.mem (x := (basisTo p m n).1[i]) ?_).congr fun q _ => by unfold ent; rw [getD_of_lt [] hi]
       rw [e]
       exact List.mem_take_iff_getElem.2 ⟨i, by omega, rfl⟩
     · exact (Sp.zero _ _ _).congr fun q hq => by rw [hc.rest i (by omega) hi q hq]
 · obtain rfl : m = [] := List.eq_nil_of_length_eq_zero (by omega)
   rw [basisL_nil]
   exact ⟨InSp.refl _ _ _, InSp.refl _ _ _⟩
/-- What a reduced basis makes is told by its numbers at the places of the firsts. -/
theorem Red.coef {p : Int} {n : Nat} {B : List (List Int)} (hR : Red n B) {v : Nat → Int} (hv : Sp p n B v) : ∀ q, q < n → v q % p = (sumTo B.length fun i => v (ld B i) * ent B i q) % p := by
 obtain ⟨c, hc⟩ := hv
 intro q hq
 rw [hc q hq]
 refine sumTo_mod p fun i hi => cg_mul ?_ rfl
 rw [hc _ (hR.lt i hi), sumTo_one (f := fun j => c j * ent B j (ld B i)) i hi (fun j hj hji => by rw [hR.zero i j hi hj hji, Int.mul_zero]), hR.one i hi, Int.mul_one]
theorem Red.lead_of {p : Int} {n : Nat} {B : List (List Int)} (hR : Red n B) {v : Nat → Int} (hv : Sp p n B v) {q0 : Nat} (hq : q0 < n) (h0 : v q0 % p ≠ 0) (hb : ∀ q, q < q0 → v q % p = 0) : ∃ i, i < B.length ∧ ld B i = q0 := by
 refine Classical.byContradiction fun hno => h0 ?_
 rw [hR.coef hv q0 hq]
 refine (sumTo_mod p (g := fun _ => 0) fun i hi => ?_).trans (by rw [sumTo_zero fun _ _ => rfl]; rfl)
 rcases Nat.lt_trichotomy (ld B i) q0 with h | h | h
 · rw [Int.mul_emod, hb _ h]; simp
 · exact absurd ⟨i, hi, h⟩ hno
 · rw [hR.before i q0 h, Int.mul_zero]
theorem Red.leads_le {p : Int} (hp : 2 ≤ p) {n : Nat} {B C : List (List Int)} (hB : Red n B) (hC : Red n C) (h1 : InSp p n B C) (h2 : InSp p n C B) : ∀ i, i < B.length → i < C.length ∧ ld C i = ld B i := by
 have one : ∀ (B C : List (List Int)), Red n B → Red n C → InSp p n B C → ∀ i, i < B.length → ∃ j, j < C.length ∧ ld C j = ld B i := fun B C hB hC h i hi =>
  hC.lead_of (h i hi) (hB.lt i hi) (by rw [hB.one i hi, Int.emod_eq_of_lt (by omega) (by omega)]; omega) (fun q hq => by rw [hB.before i q hq]; simp)
 intro i
 induction i using Nat.strongRecOn with
 | _ i ih =>
  intro hi
  obtain ⟨j, hj, e⟩ := one B C hB hC h1 i hi
  have hij : i ≤ j := by
   refine Nat.le_of_not_lt fun hlt => ?_
   have := (ih j hlt (by omega)).2
   have := hB.inj (i := j) (j := i) (by omega) hi (by omega)
   omega
  have hic : i < C.length := by omega
  refine ⟨hic, ?_⟩
  rcases Nat.lt_or_ge i j with hlt | hge
  · obtain ⟨k, hk, e2⟩ := one C B hC hB h2 i hic
    have m1 := hC.mono i j hlt hj
    rcases Nat.lt_trichotomy k i with h | h | h
    · have := (ih k h (by omega)).2
      have := hC.inj (i := k) (j := i) (by omega) hic (by omega)
      omega
    · subst h; omega
    · have := hB.mono i k h hk; omega
  · obtain rfl : i = j := by omega
    exact e
/-- There is only one reduced basis. -/
theorem Red.unique {p : Int} (hp : 2 ≤ p) {n : Nat} {B C : List (List Int)} (hB : Red n B) (hC : Red n C) (TB : Tab p n B) (TC : Tab p n C) (h1 : InSp p n B C) (h2 : InSp p n C B) : B = C := by
 have a := hB.leads_le hp hC h1 h2
 have b := hC.leads_le hp hB h2 h1
 have hl : B.length = C.length := by
  rcases Nat.lt_trichotomy B.length C.length with h | h | h
  · have := (b B.length h).1; omega
  · exact h
  · have := (a C.length h).1; omega
 refine list_ext_getD [] hl fun i hi => ?_
 have hic : i < C.length := by omega
 obtain ⟨r1, r2⟩ := TB.row hi
 obtain ⟨s1, s2⟩ := TC.row hic
 refine list_ext_getD 0 (by omega) fun q hq => ?_
 rw [r1] at hq
 refine cg_eq (p := p) (TB.ent (by omega) i q) (TC.ent (by omega) i q) ?_
 show ent B i q % p = ent C i q % p
 rw [hC.coef (h1 i hi) q hq]
 congr 1
 rw [sumTo_one (f := fun j => ent B i (ld C j) * ent C j q) i hic (fun j hj hji => by
  rw [← (b j hj).2, hB.zero j i (by omega) hi (Ne.symm hji), Int.zero_mul]), (a i hi).2, hB.one i hi, Int.one_mul]
/-- Orthogonal to all rows. -/
def Orth (p : Int) (n : Nat) (m : List (List Int)) (v : Nat → Int) : Prop := ∀ i, i < m.length → (sumTo n fun q => ent m i q * v q) % p = 0
theorem Orth.sp {p : Int} {n : Nat} {m : List (List Int)} {v : Nat → Int} (h : Orth p n m v) {u : Nat → Int} (hu : Sp p n m u) : (sumTo n fun q => u q * v q) % p = 0 := by
 obtain ⟨c, hc⟩ := hu
 have e1 : (sumTo n fun q => u q * v q) % p = (sumTo n fun q => sumTo m.length fun i => c i * (ent m i q * v q)) % p := by
  refine sumTo_mod p fun q hq => ?_
  rw [sumTo_congr (f := fun i => c i * (ent m i q * v q)) (g := fun i => v q * (c i * ent m i q)) (fun i _ => by rw [Int.mul_comm (v q), Int.mul_assoc]), sumTo_mul, Int.mul_comm (v q)]
  exact cg_mul (hc q hq) rfl
 rw [e1, sumTo_comm]
 refine (sumTo_mod p (g := fun _ => 0) fun i hi => ?_).trans (by rw [sumTo_zero fun _ _ => rfl]; rfl)
 rw [sumTo_mul, Int.mul_emod, h i hi]; simp
theorem Orth.of_in {p : Int} {n : Nat} {m m' : List (List Int)} {v : Nat → Int} (h : Orth p n m v) (hi : InSp p n m' m) : Orth p n m' v := fun i hl => h.sp (hi i hl)
theorem Orth.congr {p : Int} {n : Nat} {m : List (List Int)} {v u : Nat → Int} (h : Orth p n m v) (e : ∀ q, q < n → v q % p = u q % p) : Orth p n m u := fun i hi => by
 rw [← h i hi]; exact (sumTo_mod p fun q hq => cg_mul rfl (e q hq)).symm
theorem freeRow_at {p : Int} {B : List (List Int)} {n f k : Nat} (hk : k < n) : (freeRow p B n f).getD k 0 = if k = f then 1 else match ldIdx B k with | some i => (-(ent B i f)) % p | none => 0 := by
 unfold freeRow freePart
 rw [tab_getD hk]; simp <;> rfl
theorem freeRow_ld {p : Int} {B : List (List Int)} {n f i : Nat} (hR : Red n B) (hi : i < B.length) (hf : isLd B f = false) : (freeRow p B n f).getD (ld B i) 0 = (-(ent B i f)) % p := by
 rw [freeRow_at (hR.lt i hi), if_neg (fun e => by rw [isLd_iff.2 ⟨i, hi, e⟩] at hf; cases hf), ldIdx_some hR hi]
theorem freeRow_own {p : Int} {B : List (List Int)} {n f : Nat} (hf : f < n) : (freeRow p B n f).getD f 0 = 1 := by rw [freeRow_at hf, if_pos rfl]
theorem freeRow_no {p : Int} {B : List (List Int)} {n f k : Nat} (hk : k < n) (hkf : k ≠ f) (hl : isLd B k = false) : (freeRow p B n f).getD k 0 = 0 := by rw [freeRow_at hk, if_neg hkf, ldIdx_none hl]
theorem freeRow_orth {p : Int} {B : List (List Int)} {n f : Nat} (hR : Red n B) (hf : f < n) (hl : isLd B f = false) : Orth p n B fun q => (freeRow p B n f).getD q 0 := fun i hi => by
 have hne : ld B i ≠ f := fun e => by rw [isLd_iff.2 ⟨i, hi, e⟩] at hl; cases hl
 rw [sumTo_two (f := fun q => ent B i q * (freeRow p B n f).getD q 0) (ld B i) f (hR.lt i hi) hf hne (fun q hq h1 h2 => by
  cases hq' : isLd B q with
  | false => simp only [freeRow_no hq h2 hq', Int.mul_zero]
  | true =>
   obtain ⟨j, hj, rfl⟩ := isLd_iff.1 hq'
   simp only [hR.zero j i hj hi (fun e => h1 (by rw [e])), Int.zero_mul]), freeRow_ld hR hi hl, freeRow_own hf, hR.one i hi, Int.one_mul, Int.mul_one]
 refine (cg_add (cg_self _ _) rfl).trans ?_
 rw [Int.add_comm, ← Int.sub_eq_add_neg, Int.sub_self]; rfl
theorem freeTo_mem {p : Int} {B : List (List Int)} {n k : Nat} {x : List Int} : x ∈ freeTo p B n k ↔ ∃ f, f < k ∧ isLd B f = false ∧ x = freeRow p B n f := by
 unfold freeTo
 rw [List.mem_map]
 constructor
 · rintro ⟨f, hf, rfl⟩
   rw [List.mem_filter] at hf
   exact ⟨f, by simpa using hf.1, by simpa using hf.2, rfl⟩
 · rintro ⟨f, h1, h2, rfl⟩
   exact ⟨f, List.mem_filter.2 ⟨by simpa using h1, by simp [h2]⟩, rfl⟩
/-- What the free rows make is what is orthogonal to the reduced basis. -/
theorem freeTo_sp {p : Int} {B : List (List Int)} {n : Nat} (hR : Red n B) {v : Nat → Int} : Sp p n (freeTo p B n n) v ↔ Orth p n B v := by
 constructor
 · rintro ⟨c, hc⟩ i hi
   have h2 : Orth p n (freeTo p B n n) fun q => ent B i q := fun r hr => by
    have hx := List.getElem_mem hr
    obtain ⟨f, hf, hl, e⟩ := freeTo_mem.1 hx
    have := freeRow_orth (p := p) hR hf hl i hi
    rw [sumTo_congr (g := fun q => ent B i q * (freeRow p B n f).getD q 0) fun q _ => by unfold ent; rw [getD_of_lt [] hr, e, Int.mul_comm]]
    exact this
   have := h2.sp ⟨c, hc⟩
   rw [sumTo_congr (g := fun q => v q * ent B i q) fun q _ => Int.mul_comm _ _]
   exact this
 · intro h
   have hmem : Sp p n (freeTo p B n n) fun q => sumTo n fun f => if isLd B f then 0 else v f * (freeRow p B n f).getD q 0 := Sp.sum n fun f hf => by
    cases hl : isLd B f with
    | true => simp only [if_true]; exact Sp.zero _ _ _
    | false => simp only [Bool.false_eq_true, if_false]; exact (Sp.mem (freeTo_mem.2 ⟨f, hf, hl, rfl⟩)).mul (v f)
   refine hmem.congr fun q hq => ?_
   cases hl : isLd B q with
   | false =>
    rw [sumTo_one (f := fun f => if isLd B f then 0 else v f * (freeRow p B n f).getD q 0) q hq (fun f hf hfq => by
     cases hlf : isLd B f with
     | true => simp
     | false => simp only [Bool.false_eq_true, if_false, freeRow_no hq (Ne.symm hfq) hl, Int.mul_zero])]
    simp only [hl, Bool.false_eq_true, if_false, freeRow_own hq, Int.mul_one]
   | true =>
    obtain ⟨i, hi, rfl⟩ := isLd_iff.1 hl
    have ho := h i hi
    have e1 : (sumTo n fun f => ent B i f * v f) % p = (sumTo n fun f => (if f = ld B i then v f else 0) + (-1) * (if isLd B f then 0 else v f * (freeRow p B n f).getD (ld B i) 0)) % p := by
     refine sumTo_mod p fun f hf => ?_
     cases hlf : isLd B f with
     | true =>
      obtain ⟨j, hj, rfl⟩ := isLd_iff.1 hlf
      simp only [if_true, Int.mul_zero, Int.add_zero]
      by_cases hji : j = i
      · subst hji; rw [if_pos rfl, hR.one j hj, Int.one_mul]
      · rw [if_neg (fun e => hji (hR.inj hj hi e)), hR.zero j i hj hi (Ne.symm hji), Int.zero_mul]
     | false =>
      have hne : f ≠ ld B i := fun e => by rw [e, hl] at hlf; cases hlf
      simp only [Bool.false_eq_true, if_false, if_neg hne, Int.zero_add, freeRow_ld hR hi hlf]
      have : -1 * (v f * (-(ent B i f) % p)) % p = -1 * (v f * (-(ent B i f))) % p := cg_mul rfl (cg_mul rfl (cg_self _ _))
      rw [this]; congr 1
      rw [Int.mul_neg, Int.neg_mul, Int.one_mul, Int.neg_neg, Int.mul_comm]
    rw [e1, sumTo_add, sumTo_mul, sumTo_one (f := fun f => if f = ld B i then v f else 0) (ld B i) hq (fun f _ hf => if_neg hf), if_pos rfl] at ho
    obtain ⟨S, hS⟩ : ∃ S, S = sumTo n fun f => if isLd B f then 0 else v f * (freeRow p B n f).getD (ld B i) 0 := ⟨_, rfl⟩
    rw [← hS] at ho ⊢
    have := cg_add (ho.trans (Int.zero_emod p).symm) (show S % p = S % p from rfl)
    rw [Int.zero_add] at this
    rw [← this]; congr 1; omega
theorem kernL_sp {p : Int} (hP : isP p = true) {n : Nat} {m : List (List Int)} (hT : Tab p n m) {v : Nat → Int} : Sp p n (kernL p m n) v ↔ Orth p n m v := by
 have hp : 2 ≤ p := by have := isP_ge hP; omega
 obtain ⟨a1, a2⟩ := basisL_in hP m hT
 obtain ⟨b1, b2⟩ := basisL_in hP _ (freeTo_tab (p := p) hp (basisL p m) n n)
 constructor
 · exact fun h => ((freeTo_sp (basisL_red hP m hT)).1 (b1.sp h)).of_in a2
 · exact fun h => b2.sp ((freeTo_sp (basisL_red hP m hT)).2 (h.of_in a1))
theorem transL_row {m : List (List Int)} {n q : Nat} {p : Int} (hT : Tab p n m) (h0 : 0 < m.length) (hq : q < n) : (transL m).getD q [] = tab m.length fun i => ent m i q := by
 unfold transL
 rw [row0_len hT h0, tab_getD hq]
end Go.Proofs.YtaiegpggccdgoaaGreat
namespace Go.Proofs.YtaiegpggccdgoaaGreat
open Go.RowKit
set_option maxHeartbeats 800000 in
set_option maxRecDepth 8000 in
theorem apply_any (p : Int) (A : Option Addr) (n c : Nat) (M : List (List Int)) (B : Option Addr) (m d : Nat) (v : List Int) (w : World) (hp : 2 ≤ p) (hp2 : p ≤ 13) (hn : n ≤ 65536) (hm : m ≤ 65536) (ha : RdII w A n M) (hM : Tab p m M) (hb : Rd w B m (ints v)) (hv : NumsL p v) :
    Calls Tryz.prog 80 #[.int .i64 p, .slice A n c, .slice B m d] w fun e w' => ∃ A' c', e = .returned (.slice A' n c') ∧ MkI w w' A' n c' (applyL p M v) := by
 have HL := Lib.hid ha.len
 have HT := Lib.hid hM
 have hM0 := Mk.lit (E := 2) (Below.refl w.heap.size w) #[] (by simp)
 clear hM
 go_enter Tryz.func80, Tryz.ntmps80
 go_wp2
 go_loopw [7, 9, 13] (fun out _ i wr => ∃ (j : Nat) (A' : Option Addr) (c' : Nat), j ≤ n ∧ i = .int .i64 j ∧ out = .slice A' j c' ∧ MkI w wr A' j c' (tab j fun i => dotL p (M.getD i []) v)) (fun _ _ i _ => n - (intOf i).toNat)
 case atStart => exact ⟨0, _, _, by omega, rfl, rfl, by simpa [MkI, ints, tab] using hM0⟩
 case round =>
  obtain ⟨j, A', c', hj, rfl, rfl, hM⟩ := hrel
  clear hM0
  by_cases hlt : j < n
  · obtain ⟨g, o, rfl, hxj, A1, c1, hcx, hr1, _⟩ := (ha.below hM.b).at_ hlt
    have HRow := Lib.hid (HT.out M[j] (List.getElem_mem hxj))
    have hle : M[j].length ≤ m := by rw [HRow.out.1]; exact Nat.le_refl _
    have hle2 : M[j].length ≤ 65536 := by omega
    have HV : Hid ((tab (j + 1) fun i => dotL p (M.getD i []) v) = (tab j fun i => dotL p (M.getD i []) v) ++ [dotL p M[j] v]) := Lib.hid (by rw [tab_succ, getD_of_lt [] hxj])
    have hdot := fun w' (hb' : Below wr.heap.size wr w') => dot_any p A1 M[j].length c1 B m d M[j] v w' hp hp2 hle2 hle (hr1.below hb') HRow.out.2 (hb.below (hM.b.trans (hb'.mono hM.b.size))) hv
    have HM := Lib.hid hM
    clear ha hM
    go_wp2_with (first
     | (go_at_call 68; refine (hdot _ zG).mono ?_; rintro e w' ⟨rfl, rfl⟩)
     | (at_builtin; refine wpList_app1 w _ 24 2 _ _ Tryz.underlying24 info_i rfl (by omega) rfl _ _ rfl A' j c' _ _ HM.out (by omega) rfl rfl rfl ?_; intro A2 c2 w2 hM2 _ _))
    go_roundw
    case rel => exact ⟨j + 1, A2, c2, by omega, by go_num, rfl, by rw [HV.out]; simpa [MkI, ints] using hM2⟩
    case measure => simp [intOf]; omega
  · go_wp2
    go_ret
    obtain rfl : j = n := by omega
    exact ⟨_, _, rfl, by unfold applyL; rw [HL.out]; exact hM⟩
end Go.Proofs.YtaiegpggccdgoaaGreat
namespace Go.Proofs.YtaiegpggccdgoaaGreat
/-- 1 or -1: the sign of a number of exchanges. -/
def sg (k : Nat) : Int := if k % 2 = 1 then -1 else 1
/-- The product of the first i squares that both masks have, as an integer. -/
def comZ (sq : List Int) (a b : Nat) : Nat → Int
 | 0 => 1
 | i + 1 => comZ sq a b i * (if bit b i = 1 ∧ bit a i = 1 then sq.getD i 0 else 1)
/-- The number by which the product of two blades is that of their different bits, as an integer. -/
def facZ (sq : List Int) (a b : Nat) : Int := sg (swaps a b sq.length) * comZ sq a b sq.length
theorem xor_self_right (a b : Nat) : (b ^^^ a) ^^^ a = b := by rw [Nat.xor_assoc, Nat.xor_self, Nat.xor_zero]
theorem sumTo_xor {n : Nat} (f : Nat → Int) {c : Nat} (hc : c < pw n) : sumTo (pw n) f = sumTo (pw n) fun a => f (a ^^^ c) := by
 have h : ∀ b, b < pw n → f b = sumTo (pw n) fun a => if a ^^^ c = b then f b else 0 := fun b hb => by
  rw [sumTo_one (b ^^^ c) (xor_lt hb hc) fun i _ hne => if_neg fun e => hne (by rw [← e, xor_self_right]), if_pos (xor_self_right c b)]
 rw [sumTo_congr h, sumTo_comm]
 refine sumTo_congr fun a ha => ?_
 rw [sumTo_one (a ^^^ c) (xor_lt ha hc) fun i _ hne => if_neg fun e => hne e.symm, if_pos rfl]
theorem sumTo_mul_right (n : Nat) (f : Nat → Int) (c : Int) : sumTo n (fun i => f i * c) = sumTo n f * c := by
 rw [Int.mul_comm, ← sumTo_mul]
 exact sumTo_congr fun i _ => Int.mul_comm _ _
/-- The product of multivectors over the integers, at place m. -/
def mulZ (sq : List Int) (x y : Nat → Int) (m : Nat) : Int := sumTo (pw sq.length) fun a => x a * y (a ^^^ m) * facZ sq a (a ^^^ m)
structure Cl (p : Int) (sq : List Int) where
 l : List Int
 len : l.length = pw sq.length
 nums : NumsL p l
 pos : 0 < p
section
variable {p : Int} {sq : List Int}
/-- The number at a place. -/
def Cl.co (x : Cl p sq) (m : Nat) : Int := x.l.getD m 0
theorem Cl.ext {x y : Cl p sq} (h : x.l = y.l) : x = y := by
 cases x; cases y; cases h; rfl
theorem Cl.co_small (x : Cl p sq) (m : Nat) : 0 ≤ x.co m ∧ x.co m < p := x.nums.getD x.pos m
theorem Cl.co_mod (x : Cl p sq) (m : Nat) : x.co m % p = x.co m := Int.emod_eq_of_lt (x.co_small m).1 (x.co_small m).2
theorem Cl.same {x y : Cl p sq} (h : ∀ m, m < pw sq.length → x.co m % p = y.co m % p) : x = y := by
 refine Cl.ext (list_ext_getD 0 (by rw [x.len, y.len]) fun m hm => ?_)
 have := h m (by rw [← x.len]; exact hm)
 rwa [x.co_mod, y.co_mod] at this
/-- The multivector with these numbers. -/
def Cl.of (hp : 0 < p) (f : Nat → Int) : Cl p sq := ⟨tab (pw sq.length) fun m => f m % p, tab_len _ _, NumsL.tab fun _ _ => ⟨Int.emod_nonneg _ (by omega), Int.emod_lt_of_pos _ hp⟩, hp⟩
theorem Cl.of_co (hp : 0 < p) (f : Nat → Int) {m : Nat} (hm : m < pw sq.length) : (Cl.of hp f : Cl p sq).co m = f m % p := tab_getD hm 0
theorem Cl.of_cg (hp : 0 < p) (f : Nat → Int) {m : Nat} (hm : m < pw sq.length) : (Cl.of hp f : Cl p sq).co m % p = f m % p := by rw [Cl.of_co hp f hm, Int.emod_emod_of_dvd _ (Int.dvd_refl p)]
instance : Mul (Cl p sq) := ⟨fun x y => Cl.of x.pos (mulZ sq x.co y.co)⟩
instance : Add (Cl p sq) := ⟨fun x y => Cl.of x.pos fun m => x.co m + y.co m⟩
instance : Neg (Cl p sq) := ⟨fun x => Cl.of x.pos fun m => -(x.co m)⟩
instance : HMul Int (Cl p sq) (Cl p sq) := ⟨fun k x => Cl.of x.pos fun m => k * x.co m⟩
theorem Cl.add_co (x y : Cl p sq) {m : Nat} (hm : m < pw sq.length) : (x + y).co m % p = (x.co m + y.co m) % p := Cl.of_cg _ _ hm
theorem Cl.add_comm (x y : Cl p sq) : x + y = y + x := Cl.same fun m hm => by rw [Cl.add_co _ _ hm, Cl.add_co _ _ hm, Int.add_comm]
theorem Cl.add_assoc (x y z : Cl p sq) : x + y + z = x + (y + z) := Cl.same fun m hm => by
 rw [Cl.add_co _ _ hm, Cl.add_co _ _ hm, Int.add_emod, Cl.add_co _ _ hm, ← Int.add_emod, Int.add_emod (x.co m), Cl.add_co _ _ hm, ← Int.add_emod, Int.add_assoc]
/-- The numbers of a list, and no more than there are places. -/
def Cl.zero (hp : 0 < p) : Cl p sq := Cl.of hp fun _ => 0
/-- The multivector 1. -/
def Cl.one (hp : 0 < p) : Cl p sq := Cl.of hp fun m => if m = 0 then 1 else 0
end
theorem inv_mod {p a : Int} (hP : isP p = true) (h : a % p ≠ 0) : a * invF p (a % p) % p = 1 := by
 have h3 := (isP_ge hP).1
 have h1 := Int.emod_nonneg a (show p ≠ 0 by omega)
 have h2 := Int.emod_lt_of_pos a (show 0 < p by omega)
 have hs := inv_spec hP (show 0 < a % p by omega) h2
 have := (hs.2.2 (invF p (a % p)) (by omega) hs.2.1).2 rfl
 rw [Int.mul_emod, Int.emod_emod_of_dvd _ (Int.dvd_refl p)] at this
 rw [Int.mul_emod]
 exact this
section
variable {p : Int} {sq : List Int}
end
section
variable {p : Int} {sq : List Int}
/-- A vector is a sum of multiples of unit vectors. -/
def Cl.sum (hp : 0 < p) : Nat → (Nat → Cl p sq) → Cl p sq
 | 0, _ => Cl.zero hp
 | n + 1, f => Cl.sum hp n f + f n
end
end Go.Proofs.YtaiegpggccdgoaaGreat
namespace Go.Proofs.YtaiegpggccdgoaaGreat
open Go.RowKit
theorem RdII.nil (w : World) (A : Option Addr) : RdII w A 0 [] := ⟨[], Rd.nil w A, rfl, fun k h => absurd h (by simp)⟩
end Go.Proofs.YtaiegpggccdgoaaGreat
namespace Go.Proofs.YtaiegpggccdgoaaGreat
section
variable {p : Int} {sq : List Int}
instance : Std.Associative (α := Cl p sq) (· + ·) := ⟨Cl.add_assoc⟩
instance : Std.Commutative (α := Cl p sq) (· + ·) := ⟨Cl.add_comm⟩
end
end Go.Proofs.YtaiegpggccdgoaaGreat
namespace Go.Proofs.YtaiegpggccdgoaaGreat
open Go.RowKit
set_option maxHeartbeats 1600000 in
set_option maxRecDepth 8000 in
theorem timesM_any (p : Int) (A : Option Addr) (n c : Nat) (M : List (List Int)) (B : Option Addr) (d : Nat) (N : List (List Int)) (w : World) (hp : 2 ≤ p) (hp2 : p ≤ 13) (h0 : 0 < n) (hn : n ≤ 65536) (ha : RdII w A n M) (hM : Tab p n M) (hb : RdII w B n N) (hN : Tab p n N) :
    Calls Tryz.prog 115 #[.int .i64 p, .slice A n c, .slice B n d] w fun e w' => ∃ A' c', e = .returned (.slice A' n c') ∧ MkII w w' A' n c' (timesM p M N) := by
 have HT := Lib.hid hM
 have HL := Lib.hid ha.len
 have HTT : Hid (Tab p n (transL N)) := Lib.hid (by have := transL_tab (show 0 < p by omega) hN; rwa [hb.len] at this)
 have hcall := transpose_any p B n d N n w h0 hn hn hb hN
 clear hM hN hb
 go_enter Tryz.func115, Tryz.ntmps115
 go_wp2_with fail
 refine hcall.mono ?_
 rintro e w1 ⟨T, cT, rfl, hT1⟩
 have hM0 : MkII w1 (w1.alloc (.cells #[] 24)) (some ⟨w1.heap.size, 0, none⟩) 0 0 [] := MkII.empty zG
 have HB1 := Lib.hid hT1.b
 have ha1 := ha.below hT1.b
 have hTr := hT1.rd
 clear hcall hT1 ha
 go_wp2
 go_loopw [8, 16] (fun out i wr => ∃ (k : Nat) (A' : Option Addr) (c' : Nat), k ≤ n ∧ i = .int .i64 k ∧ out = .slice A' k c' ∧ MkII w1 wr A' k c' (tab k fun i => applyL p (transL N) (M.getD i []))) (fun _ i _ => n - (intOf i).toNat)
 case atStart => exact ⟨0, _, _, by omega, rfl, rfl, by simpa [tab] using hM0⟩
 case round =>
  obtain ⟨k, A', c', hk, rfl, rfl, hM⟩ := hrel
  clear hM0
  by_cases hlt : k < n
  · obtain ⟨g, o, rfl, hxk, A1, c1, hcx, hr1, _⟩ := (ha1.below hM.b).at_ hlt
    obtain ⟨hl1, hn1⟩ := HT.out M[k] (List.getElem_mem hxk)
    rw [hl1] at hcx hr1
    have hap := apply_any p T n cT (transL N) A1 n c1 M[k] wr hp hp2 hn hn (hTr.below hM.b) HTT.out hr1 hn1
    have HV : Hid ((tab (k + 1) fun i => applyL p (transL N) (M.getD i [])) = (tab k fun i => applyL p (transL N) (M.getD i [])) ++ [applyL p (transL N) M[k]]) := Lib.hid (by rw [tab_succ, getD_of_lt [] hxk])
    have HM := Lib.hid hM
    clear hM hr1 hl1 hn1 hTr ha1
    go_wp2_with fail
    refine hap.mono ?_
    rintro e w5 ⟨A5, c5, rfl, hM5⟩
    clear hap
    go_wp2_with (at_builtin; refine wpList_appRow w1 wr _ rfl _ _ rfl A' k c' _ A5 n c5 _ HM.out hM5 (by omega) rfl ?_ ?_; (go_simp); intro A6 c6 w6 hM6)
    go_roundw
    case rel => exact ⟨k + 1, A6, c6, by omega, by go_num, rfl, by rw [HV.out]; exact hM6⟩
    case measure => simp [intOf]; omega
  · obtain rfl : k = n := by omega
    go_wp2
    go_ret
    exact ⟨_, _, rfl, by unfold timesM; rw [HL.out]; exact hM.after HB1.out⟩
theorem dotL_small {p : Int} (hp : 0 < p) (a b : List Int) : 0 ≤ dotL p a b ∧ dotL p a b < p := ⟨Int.emod_nonneg _ (by omega), Int.emod_lt_of_pos _ hp⟩
theorem timesM_tab {p : Int} {n : Nat} {M N : List (List Int)} (hp : 0 < p) (h0 : 0 < n) (hN : Tab p n N) (hNl : N.length = n) : Tab p n (timesM p M N) :=
 Tab.tab fun _ _ => ⟨by unfold applyL; rw [tab_len, transL_len hN (by omega)], NumsL.tab fun _ _ => dotL_small hp _ _⟩
theorem timesM_len (p : Int) (M N : List (List Int)) : (timesM p M N).length = M.length := tab_len _ _
end Go.Proofs.YtaiegpggccdgoaaGreat
namespace Go.Proofs.YtaiegpggccdgoaaGreat
section
variable {p : Int} {sq : List Int}
/-- The multivector with 1 at one place. -/
def Cl.at_ (hp : 0 < p) (m : Nat) : Cl p sq := Cl.of hp fun q => if q = m then 1 else 0
end
/-- All squares 0. -/
abbrev zs (n : Nat) : List Int := List.replicate n 0
section
variable {p : Int} {n : Nat}
end
/-- Rows none of which is a sum of multiples of others. -/
def Ind (p : Int) (n : Nat) (L : List (List Int)) : Prop := ∀ c : Nat → Int, (∀ q, q < n → (sumTo L.length fun i => c i * ent L i q) % p = 0) → ∀ i, i < L.length → c i % p = 0
section
variable {p : Int} {n : Nat}
theorem Red.ind {B : List (List Int)} (hR : Red n B) : Ind p n B := fun c hc i hi => by
 have h := hc _ (hR.lt i hi)
 rwa [sumTo_one (f := fun j => c j * ent B j (ld B i)) i hi (fun j hj hne => by rw [hR.zero i j hi hj hne, Int.mul_zero]), hR.one i hi, Int.mul_one] at h
/-- Leads that fill the first places. -/
theorem Red.fills {B : List (List Int)} (hR : Red n B) {N : Nat} (h : ∀ f, f < N → isLd B f = true) : N ≤ B.length := by
 have key : ∀ f, f < N → ∃ i, i < B.length ∧ ld B i = f ∧ f ≤ i := by
  intro f
  induction f with
  | zero => intro h0; obtain ⟨i, hi, e⟩ := isLd_iff.1 (h 0 h0); exact ⟨i, hi, e, Nat.zero_le _⟩
  | succ f ih =>
   intro hf
   obtain ⟨i, hi, e, hle⟩ := ih (by omega)
   obtain ⟨j, hj, e2⟩ := isLd_iff.1 (h (f + 1) hf)
   refine ⟨j, hj, e2, ?_⟩
   rcases Nat.lt_trichotomy i j with hl | hl | hl
   · omega
   · subst hl; omega
   · have := hR.mono j i hl hi; omega
 rcases Nat.eq_zero_or_pos N with rfl | hN
 · exact Nat.zero_le _
 · obtain ⟨i, hi, -, hle⟩ := key (N - 1) (by omega)
   omega
/-- Independent vectors that others make are no more than these. -/
theorem Ind.le (hP : isP p = true) {L M : List (List Int)} (hI : Ind p n L) (hS : InSp p n L M) : L.length ≤ M.length := by
 have hp : 2 ≤ p := by have := isP_ge hP; omega
 refine Classical.byContradiction fun hlt => ?_
 have hch : ∀ i, ∃ a : Nat → Int, i < L.length → ∀ q, q < n → ent L i q % p = (sumTo M.length fun j => a j * ent M j q) % p := fun i => by
  by_cases hi : i < L.length
  · obtain ⟨a, ha⟩ := hS i hi; exact ⟨a, fun _ => ha⟩
  · exact ⟨fun _ => 0, fun h => absurd h hi⟩
 obtain ⟨a, ha⟩ := Classical.axiomOfChoice hch
 obtain ⟨A, hA⟩ : ∃ A : List (List Int), A = tab M.length fun j => tab L.length fun i => a i j % p := ⟨_, rfl⟩
 have hAl : A.length = M.length := by rw [hA, tab_len]
 have hAT : Tab p L.length A := by
  rw [hA]
  exact Tab.tab fun j _ => ⟨tab_len _ _, NumsL.tab fun i _ => ⟨Int.emod_nonneg _ (by omega), Int.emod_lt_of_pos _ (by omega)⟩⟩
 have hAe : ∀ j i, j < M.length → i < L.length → ent A j i = a i j % p := fun j i hj hi => by
  unfold ent; rw [hA, tab_getD hj, tab_getD hi]
 have hR := basisL_red hP A hAT
 have hRl := (basisL_len (p := p) (by omega) A hAT).2
 have hf : ∃ f, f < L.length ∧ isLd (basisL p A) f = false := Classical.byContradiction fun hno => by
  have := hR.fills (N := L.length) fun f hf => by
   cases e : isLd (basisL p A) f
   · exact absurd ⟨f, hf, e⟩ hno
   · rfl
  omega
 obtain ⟨f, hf, hfl⟩ := hf
 have ho := (freeRow_orth (p := p) hR hf hfl).of_in (basisL_in hP A hAT).2
 obtain ⟨c, hc⟩ : ∃ c : Nat → Int, c = fun q => (freeRow p (basisL p A) L.length f).getD q 0 := ⟨_, rfl⟩
 have h0 := hI c (fun q hq => by
  have e1 : (sumTo L.length fun i => c i * ent L i q) % p = (sumTo L.length fun i => c i * sumTo M.length fun j => a i j * ent M j q) % p := sumTo_mod p fun i hi => cg_mul rfl (ha i hi q hq)
  rw [e1, sumTo_congr (g := fun i => sumTo M.length fun j => c i * (a i j * ent M j q)) fun i _ => (sumTo_mul _ _ _).symm, sumTo_comm]
  refine (sumTo_mod p (g := fun _ => 0) fun j hj => ?_).trans (by rw [sumTo_zero fun _ _ => rfl]; rfl)
  have h1 := ho j (by omega)
  have e2 : (sumTo L.length fun i => c i * (a i j * ent M j q)) = ent M j q * sumTo L.length fun i => a i j * c i := by
   rw [← sumTo_mul]; exact sumTo_congr fun i _ => by rw [← Int.mul_assoc, Int.mul_comm (ent M j q), Int.mul_comm (c i)]
  rw [e2]
  have e3 : (sumTo L.length fun i => a i j * c i) % p = (sumTo L.length fun q => ent A j q * (freeRow p (basisL p A) L.length f).getD q 0) % p := sumTo_mod p fun i hi => by
   rw [hAe j i hj hi, hc]; exact cg_mul (cg_self _ _).symm rfl
  exact (cg_mul rfl (e3.trans h1)).trans (by rw [Int.mul_zero])) f hf
 rw [hc] at h0
 simp only [freeRow_own (p := p) (B := basisL p A) hf] at h0
 rw [Int.emod_eq_of_lt (by omega) (by omega)] at h0
 exact absurd h0 (by decide)
theorem Ind.same (hP : isP p = true) {L M : List (List Int)} (hL : Ind p n L) (hM : Ind p n M) (h1 : InSp p n L M) (h2 : InSp p n M L) : L.length = M.length :=
 Nat.le_antisymm (hL.le hP h1) (hM.le hP h2)
end
section
variable {p : Int} {n : Nat}
theorem mat_ext {a b : List (List Int)} (ha : Tab p n a) (hb : Tab p n b) (h : a.length = b.length) (he : ∀ i q, i < a.length → q < n → ent a i q = ent b i q) : a = b := by
 refine list_ext_getD [] h fun i hi => ?_
 have h1 := ha.row hi
 have h2 := hb.row (show i < b.length by omega)
 refine list_ext_getD 0 (by rw [h1.1, h2.1]) fun q hq => ?_
 rw [h1.1] at hq
 exact he i q hi hq
end
/-- Matrices with n rows and columns of numbers. -/
structure Mt (p : Int) (n : Nat) where
 l : List (List Int)
 len : l.length = n
 tab : Tab p n l
 pos : 0 < p
section
variable {p : Int} {n : Nat}
def Mt.at (x : Mt p n) (i j : Nat) : Int := ent x.l i j
theorem Mt.ext {x y : Mt p n} (h : x.l = y.l) : x = y := by
 cases x; cases y; simp only at h; subst h; rfl
theorem Mt.small (x : Mt p n) (i j : Nat) : 0 ≤ x.at i j ∧ x.at i j < p := x.tab.ent x.pos i j
theorem Mt.same {x y : Mt p n} (h : ∀ i j, i < n → j < n → x.at i j % p = y.at i j % p) : x = y := Mt.ext (mat_ext x.tab y.tab (x.len.trans y.len.symm) fun i q hi hq => by
 rw [x.len] at hi
 exact cg_eq (x.small i q) (y.small i q) (h i q hi hq))
def Mt.of (hp : 0 < p) (f : Nat → Nat → Int) : Mt p n := ⟨Go.Proofs.YtaiegpggccdgoaaGreat.tab n fun i => Go.Proofs.YtaiegpggccdgoaaGreat.tab n fun j => f i j % p, tab_len _ _, Tab.tab fun i _ => ⟨tab_len _ _, NumsL.tab fun j _ => ⟨Int.emod_nonneg _ (by omega), Int.emod_lt_of_pos _ hp⟩⟩, hp⟩
theorem Mt.of_at (hp : 0 < p) (f : Nat → Nat → Int) {i j : Nat} (hi : i < n) (hj : j < n) : (Mt.of hp f : Mt p n).at i j = f i j % p := by
 show ((Go.Proofs.YtaiegpggccdgoaaGreat.tab n fun i => Go.Proofs.YtaiegpggccdgoaaGreat.tab n fun j => f i j % p).getD i []).getD j 0 = _
 rw [tab_getD hi, tab_getD hj]
theorem Mt.of_cg (hp : 0 < p) (f : Nat → Nat → Int) {i j : Nat} (hi : i < n) (hj : j < n) : (Mt.of hp f : Mt p n).at i j % p = f i j % p := by rw [Mt.of_at hp f hi hj, cg_self]
instance : Mul (Mt p n) := ⟨fun x y => Mt.of x.pos fun i j => sumTo n fun k => x.at i k * y.at k j⟩
instance : Add (Mt p n) := ⟨fun x y => Mt.of x.pos fun i j => x.at i j + y.at i j⟩
instance : HMul Int (Mt p n) (Mt p n) := ⟨fun k x => Mt.of x.pos fun i j => k * x.at i j⟩
def Mt.one (hp : 0 < p) : Mt p n := Mt.of hp fun i j => if i = j then 1 else 0
theorem Mt.add_at (x y : Mt p n) {i j : Nat} (hi : i < n) (hj : j < n) : (x + y).at i j % p = (x.at i j + y.at i j) % p := Mt.of_cg x.pos _ hi hj
theorem Mt.add_comm (x y : Mt p n) : x + y = y + x := Mt.same fun i j hi hj => by rw [Mt.add_at _ _ hi hj, Mt.add_at _ _ hi hj, Int.add_comm]
theorem Mt.add_assoc (x y z : Mt p n) : x + y + z = x + (y + z) := Mt.same fun i j hi hj => by
 rw [Mt.add_at _ _ hi hj, Mt.add_at _ _ hi hj, cg_add (Mt.add_at x y hi hj) rfl, cg_add (rfl : x.at i j % p = x.at i j % p) (Mt.add_at y z hi hj), Int.add_assoc]
end
section
variable {p : Int} {n : Nat}
instance : Std.Associative (α := Mt p n) (· + ·) := ⟨Mt.add_assoc⟩
instance : Std.Commutative (α := Mt p n) (· + ·) := ⟨Mt.add_comm⟩
end
end Go.Proofs.YtaiegpggccdgoaaGreat
namespace Go.Proofs.YtaiegpggccdgoaaGreat
open Go.RowKit
section
variable {P : Program}
/-- A whole list is appended to a row of the call's own. -/
theorem wpList_appAll {ops : Array Oper} {rest : List Oper} {o : Oper} {a : Act} {Q : Exit → Act → World → Prop} (w0 wr : World)
    (hgd : o.guard = none) (s x : Operand) (ho : o.op = .call { callee := .builtin .append, args := #[s, x], argTypes := #[24, 24] })
    (A : Option Addr) (n c : Nat) (xs : List Int) (B : Option Addr) (m d : Nat) (ys : List Int) (hM : MkI w0 wr A n c xs) (hY : Rd wr B m (ints ys)) (h0 : 0 < m) (hn : n ≤ 65536) (hm : m ≤ 65536)
    (hs : a.eval s = .slice A n c) (hx : a.eval x = .slice B m d)
    (h : ∀ A' c' w', MkI w0 w' A' (n + m) c' (xs ++ ys) → wr.grownBy w' (Value.slice A n c).ownBlock → wpList Tryz.prog ops Q rest (a.put o.dst (.slice A' (n + m) c')) w') :
    wpList Tryz.prog ops Q (o :: rest) a wr := by
 obtain ⟨i, hi, h1, h2, h3⟩ := info_parts info_i
 obtain ⟨b1, b2⟩ := bound_of (show n + m ≤ 1099511627776 by omega)
 have hyl : ys.length = m := by have := hY.1; rwa [ints_length] at this
 obtain ⟨g, o', rfl, hc⟩ := hY.2 h0
 refine wpList_append_own_at wr hgd s x 24 ho w0.heap.size 2 i _ 1 8 Tryz.underlying24 hi h1 h2 h3 rfl (by omega) (.slice A n c) n (ints xs) hs hM.2 ⟨g, o', none⟩ m d (ints ys) hx (by rw [ints_length, hyl, Nat.mul_one]) (fun j u hu => by rw [Addr.add_lit]; exact hc j u hu) (by intro u hu; obtain ⟨y, _, rfl⟩ := List.mem_map.1 hu; rfl) (by simp only [maxLen]; omega) (by have := b2 8 (by omega); omega) hM.1.size ?_
 intro v' w' hown hg _ _
 have hb' : Below w0.heap.size w0 w' := hM.1.grown hg hM.1.size (fun k hk => (hM.2.lt k hk).1)
 have e : ints xs ++ ints ys = ints (xs ++ ys) := by unfold ints; rw [List.map_append]
 rw [e] at hown
 rcases hown.2 with ⟨_, h0⟩ | ⟨g, cap, cur, rfl, hr⟩
 · omega
 · exact h _ _ _ ⟨hb', hown⟩ hg
end
set_option maxHeartbeats 800000 in
set_option maxRecDepth 8000 in
theorem grow_any (n : Nat) (w : World) (h0 : 0 < n) (hn : n ≤ 65536) :
    Calls Tryz.prog 138 #[.slice none 0 0, .int .i64 n] w fun e w' => ∃ A c, e = .returned (.slice A 0 c) ∧ MkI w w' A 0 c [] := by
 obtain ⟨i, hi, h1, h2, h3⟩ := info_parts info_i
 have hrz := fun ty => Lib.run_append_nil_zeros (P := Tryz.prog) w 24 3 ty 2 i (.int .i64 0) .i64 .i64 Tryz.underlying24 Tryz.underlying3 hi h1 n h0 (by omega) (by omega) (by rw [h3]; omega)
 have hge := grownCap_ge w n 0 2
 have hle := grownCap_le_maxLen w n 0 2 (by simp only [maxLen]; omega)
 obtain ⟨G, hG⟩ : ∃ G, G = grownCap w n 0 2 := ⟨_, rfl⟩
 rw [← hG] at hrz hge hle
 obtain ⟨Z, hZ⟩ : ∃ Z, Z = Builtin.zeroCells (Value.int .i64 0).cells n ++ Builtin.zeroCells (Value.int .i64 0).cells (G - n) := ⟨_, rfl⟩
 rw [← hZ] at hrz
 have hZs : Z.size = G := by rw [hZ]; simp [size_zeroCells, Value.cells]; omega
 have hO := World.ownsRow_made (base := w.heap.size) (e := 2) (size := 1) w.drew Z G (Nat.le_refl _) hle (by omega)
 have hM : MkI w (w.drew.alloc (.cells Z 2)) (some ⟨w.heap.size, 0, none⟩) 0 G [] := ⟨(⟨rfl, rfl, rfl, Nat.le_refl _, fun _ _ => rfl⟩ : Below w.heap.size w w.drew).alloc (Nat.le_refl _) _, hO⟩
 have hG2 : G ≤ 9223372036854775807 := by unfold maxLen at hle; omega
 have t1 : ¬ ((n : Int) < 0) := by omega
 clear hZ hG hZs hO hle
 go_enter Tryz.func138, Tryz.ntmps138
 go_wp2_with (at_builtin; refine Lib.wpList_append_run _ rfl _ _ _ _ rfl _ _ rfl rfl _ _ (hrz _) ?_)
 go_ret
 exact ⟨_, _, rfl, hM⟩
theorem flatten_step {M : List (List Int)} {k : Nat} (h : k < M.length) : (M.take (k + 1)).flatten = (M.take k).flatten ++ M[k] := by
 rw [List.take_succ_eq_append_getElem h, List.flatten_append, List.flatten_cons, List.flatten_nil, List.append_nil]
theorem flatten_le {M : List (List Int)} {b : Nat} (h : ∀ r ∈ M, r.length ≤ b) : ∀ k, (M.take k).flatten.length ≤ k * b := by
 intro k
 induction k with
 | zero => simp
 | succ k ih =>
  by_cases hk : k < M.length
  · rw [flatten_step hk, List.length_append]
    have := h M[k] (List.getElem_mem hk)
    rw [Nat.add_mul]; omega
  · rw [List.take_of_length_le (by omega)] at ih ⊢
    rw [Nat.add_mul]; omega
set_option maxHeartbeats 6400000 in
set_option maxRecDepth 8000 in
theorem concat_any (A : Option Addr) (n c : Nat) (M : List (List Int)) (w : World) (h0 : 0 < n) (hn : n ≤ 64) (ha : RdII w A n M) (hr : ∀ r ∈ M, 0 < r.length ∧ r.length ≤ 1000) :
    Calls Tryz.prog 85 #[.slice A n c] w fun e w' => ∃ A' c', e = .returned (.slice A' M.flatten.length c') ∧ MkI w w' A' M.flatten.length c' M.flatten := by
 have HR := Lib.hid hr
 have HL := Lib.hid ha.len
 have HF := Lib.hid (flatten_le (M := M) (b := 1000) fun r h => (hr r h).2)
 have hpos : 0 < M.flatten.length := by
  cases M with
  | nil => have := ha.len; simp at this; omega
  | cons r M => rw [List.flatten_cons, List.length_append]; have := (hr r (by simp)).1; omega
 have hle : M.flatten.length ≤ 64000 := by
  have := HF.out n
  rw [List.take_of_length_le (by rw [HL.out]; omega)] at this
  omega
 obtain ⟨T, hT⟩ : ∃ T, T = M.flatten.length := ⟨_, rfl⟩
 have HT := Lib.hid hT
 rw [← hT] at hpos hle ⊢
 have hgr := fun w' => grow_any T w' hpos (by omega)
 clear hr hT
 go_enter Tryz.func85, Tryz.ntmps85
 go_wp2
 go_loopw [3, 11] (fun s i wr => ∃ (k z : Nat), k ≤ n ∧ i = .int .i64 k ∧ s = .int .i64 z ∧ z = (M.take k).flatten.length ∧ w = wr) (fun _ i _ => n - (intOf i).toNat)
 case atStart => exact ⟨0, 0, by omega, rfl, rfl, rfl, rfl⟩
 case round =>
  obtain ⟨k, z, hk, rfl, rfl, hz, rfl⟩ := hrel
  have HZ := Lib.hid hz
  have hz2 := HF.out k
  rw [← hz] at hz2
  have hz3 : z ≤ 64000 := by omega
  clear hz hz2
  by_cases hlt : k < n
  · obtain ⟨g, o, rfl, hx, A1, c1, hc1, hr1, hcap⟩ := ha.at_ hlt
    have hl := (HR.out M[k] (List.getElem_mem hx)).2
    have HS : Hid ((M.take (k + 1)).flatten.length = z + M[k].length) := Lib.hid (by rw [flatten_step hx, List.length_append, ← HZ.out])
    obtain ⟨q, hq⟩ : ∃ q, q = M[k].length := ⟨_, rfl⟩
    rw [← hq] at hc1 hl HS
    clear hr1 hcap hq
    have e1 : IntKind.i64.wrap ((z : Int) + (q : Int)) = ((z + q : Nat) : Int) := by rw [i64_fit _ (by omega) (by omega)]; omega
    have t1 : ¬ (((z + q : Nat) : Int) < 0) := by omega
    go_wp2
    go_roundw
    case rel => exact ⟨k + 1, z + q, by omega, by go_num, rfl, HS.out.symm, by first | rfl | trivial⟩
    case measure => simp [intOf]; omega
  · obtain rfl : k = n := by omega
    obtain rfl : z = T := by rw [HZ.out, HT.out, List.take_of_length_le (by rw [HL.out]; omega)]
    go_wp2_with fail
    refine (hgr _).mono ?_
    rintro e w1 ⟨A0, c0, rfl, hM0⟩
    go_wp2
    clear hgr
    go_loopw [6, 27] (fun s i wr => ∃ (j z : Nat) (B : Option Addr) (d : Nat), j ≤ k ∧ i = .int .i64 j ∧ s = .slice B z d ∧ z = (M.take j).flatten.length ∧ MkI w wr B z d (M.take j).flatten) (fun _ i _ => k - (intOf i).toNat)
    case atStart => exact ⟨0, 0, _, _, by omega, rfl, rfl, rfl, by simpa using hM0⟩
    case round =>
     obtain ⟨j, y, B, d, hj, rfl, rfl, hy, hM⟩ := hrel
     have HY := Lib.hid hy
     have hy2 := HF.out j
     rw [← hy] at hy2
     have hy3 : y ≤ 64000 := by omega
     clear hy hy2
     by_cases hjt : j < k
     · have hb1 : Below w.heap.size w wr := hM.b
       obtain ⟨g, o, rfl, hx, A1, c1, hc1, hr1, hcap⟩ := (ha.below hb1).at_ hjt
       obtain ⟨hl0, hl⟩ := HR.out M[j] (List.getElem_mem hx)
       have HS : Hid ((M.take (j + 1)).flatten = (M.take j).flatten ++ M[j]) := Lib.hid (flatten_step hx)
       obtain ⟨q, hq⟩ : ∃ q, q = M[j].length := ⟨_, rfl⟩
       rw [← hq] at hc1 hl hl0 hr1
       have HM := Lib.hid hM
       have HQ := Lib.hid hq
       have HR1 := Lib.hid hr1
       clear hM hq hr1 hcap hM0
       go_wp2_with (at_builtin; refine wpList_appAll w wr rfl _ _ rfl B y d _ A1 q c1 _ HM.out HR1.out hl0 (by omega) (by omega) rfl rfl ?_; intro A' c' w' hM' _)
       go_roundw
       case rel => exact ⟨j + 1, y + q, A', c', by omega, by go_num, rfl, by rw [HS.out, List.length_append, ← HY.out, ← HQ.out], by rw [HS.out]; exact hM'⟩
       case measure => simp [intOf]; omega
     · obtain rfl : j = k := by omega
       have e9 : M.take j = M := List.take_of_length_le (by rw [HL.out]; omega)
       rw [e9] at hM
       obtain rfl : y = z := by rw [HY.out, HT.out, e9]
       go_wp2
       go_ret
       exact ⟨_, _, rfl, hM⟩
def CK (w w' : World) : Prop := ∀ b i u, w.cell? ⟨b, i, none⟩ = some u → w'.cell? ⟨b, i, none⟩ = some u
theorem CK.refl (w : World) : CK w w := fun _ _ _ h => h
theorem Rd.ck {w w' : World} {A : Option Addr} {n : Nat} {us : List Value} (h : Rd w A n us) (k : CK w w') : Rd w' A n us := ⟨h.1, fun hn => by
 obtain ⟨g, o, e, hc⟩ := h.2 hn
 exact ⟨g, o, e, fun j u hu => k _ _ _ (hc j u hu)⟩⟩
theorem RdII.ck {w w' : World} {A : Option Addr} {n : Nat} {xss : List (List Int)} (h : RdII w A n xss) (k : CK w w') : RdII w' A n xss := by
 obtain ⟨rows, hr, hl, hk⟩ := h
 exact ⟨rows, hr.ck k, hl, fun j hj => by obtain ⟨A', c', e, h1, h2⟩ := hk j hj; exact ⟨A', c', e, h1.ck k, h2⟩⟩
theorem Rd.cut {w : World} {A : Option Addr} {n k : Nat} {us : List Value} (h : Rd w A n us) (hk : k ≤ n) : Rd w A k (us.take k) := ⟨by rw [List.length_take, h.1]; omega, fun hn => by
 obtain ⟨g, o, e, hc⟩ := h.2 (by omega)
 exact ⟨g, o, e, fun j u hu => hc j u (by
  rw [List.getElem?_take] at hu
  split at hu
  · exact hu
  · cases hu)⟩⟩
/-- A row that grows; it began as the empty block g; what lay in w is as it was. -/
def Grows (w wr : World) (g : Nat) (v : Value) : Prop := CK w wr ∧ w.heap.size ≤ wr.heap.size ∧ ∀ gb, v.ownBlock = some gb → gb = g ∨ w.heap.size ≤ gb
theorem Grows.step {w wr v1 w' : World} {g : Nat} {T : TypeId} {A A' : Option Addr} {n c n' c' : Nat} (h : Grows w wr g (.slice A n c)) (he : Blk w g T #[]) (hb : Below wr.heap.size wr v1) (hg : v1.grownBy w' (Value.slice A n c).ownBlock)
    (hat : ∃ g', A' = some ⟨g', 0, none⟩ ∧ ((Value.slice A n c).ownBlock = some g' ∨ v1.heap.size ≤ g')) : Grows w w' g (.slice A' n' c') := by
 obtain ⟨h1, h2, h3⟩ := h
 refine ⟨fun b i u hu => ?_, by have := hb.size; have := hg.size; omega, fun gb hgb => ?_⟩
 · refine hg.cell ((hb.cell (World.block_lt_of_cell? _ _ (h1 b i u hu))).trans (h1 b i u hu)) fun e => ?_
   rcases h3 b e.symm with rfl | hge
   · rw [he.cell] at hu; simp at hu
   · have hlt : b < w.heap.size := World.block_lt_of_cell? _ _ hu
     omega
 · obtain ⟨g', rfl, hor⟩ := hat
   simp only [Value.ownBlock, Option.some.injEq] at hgb
   subst hgb
   rcases hor with hor | hor
   · exact h3 _ hor
   · right; have := hb.size; omega
theorem ints_take (xs : List Int) (k : Nat) : (ints xs).take k = ints (xs.take k) := by unfold ints; rw [List.map_take]
section
variable {P : Program} {ops : Array Oper} {Q : Exit → Act → World → Prop}
/-- Those whose values are good still when operation j is done (C: what each uses up). -/
def availR (R C : List (List Nat)) (m j : Nat) : List Nat := (R.getD j []).filter fun i => (List.range m).all fun k => !((C.getD k []).contains i) || k == j || (R.getD k []).contains j
/-- .. and at the end of the first m. -/
def endR (C : List (List Nat)) (m : Nat) : List Nat := (List.range m).filter fun i => (List.range m).all fun k => !((C.getD k []).contains i)
/-- What operation j may do to the world: add to it, or, where C has something at j, what Rel allows. -/
def StepR (C : List (List Nat)) (Rel : World → World → Prop) (j : Nat) (w w' : World) : Prop := if (C.getD j []).isEmpty then Below w.heap.size w w' else Rel w w'
theorem StepR.rel {C : List (List Nat)} {Rel : World → World → Prop} {j : Nat} {w w' : World} (h : (C.getD j []).isEmpty = false) (hb : Rel w w') : StepR C Rel j w w' := by unfold StepR; rw [h]; exact hb
theorem StepR.either {C : List (List Nat)} {Rel : World → World → Prop} {j : Nat} {w w' : World} {q : Prop} (h : StepR C Rel j w w') (h1 : Below w.heap.size w w' → q) (h2 : Rel w w' → q) : q := by
 unfold StepR at h
 split at h
 · exact h1 h
 · exact h2 h
theorem not_containsR {L : List Nat} {i : Nat} : (!(L.contains i)) = true ↔ i ∉ L := by
 rw [Bool.not_eq_true', ← Bool.not_eq_true, List.contains_iff_mem]
theorem availR_spec {R C : List (List Nat)} {m j i : Nat} : i ∈ availR R C m j ↔ i ∈ R.getD j [] ∧ ∀ k, k < m → i ∈ C.getD k [] → k = j ∨ j ∈ R.getD k [] := by
 unfold availR
 rw [List.mem_filter, List.all_eq_true]
 refine and_congr_right fun _ => ⟨fun h k hk hi => ?_, fun h k hk => ?_⟩
 · have h1 := h k (List.mem_range.2 hk)
   rw [Bool.or_eq_true, Bool.or_eq_true, not_containsR, beq_iff_eq, List.contains_iff_mem] at h1
   rcases h1 with (h1 | h1) | h1
   · exact absurd hi h1
   · exact .inl h1
   · exact .inr h1
 · rw [Bool.or_eq_true, Bool.or_eq_true, not_containsR, beq_iff_eq, List.contains_iff_mem]
   by_cases hi : i ∈ C.getD k []
   · rcases h k (List.mem_range.1 hk) hi with h1 | h1
     · exact .inl (.inr h1)
     · exact .inr h1
   · exact .inl (.inl hi)
theorem endR_spec {C : List (List Nat)} {m i : Nat} : i ∈ endR C m ↔ i < m ∧ ∀ k, k < m → i ∉ C.getD k [] := by
 unfold endR
 rw [List.mem_filter, List.all_eq_true, List.mem_range]
 exact and_congr_right fun _ => ⟨fun h k hk => not_containsR.1 (h k (List.mem_range.2 hk)), fun h k hk => not_containsR.2 (h k (List.mem_range.1 hk))⟩
/-- Those that bear an append in place: their values are plain. -/
theorem weak_ofR {m : Nat} {Rel : World → World → Prop} {R C : List (List Nat)} {V : (Nat → Value) → List VP} (Wk : List Nat)
    (hchk : ((List.range m).all fun i => (C.getD i []).isEmpty || (List.range m).all fun k => k == i || (R.getD k []).contains i || (C.getD i []).contains k || Wk.contains k) = true)
    (hW : ∀ k ∈ Wk, ∀ x v w w', ((V x).getD k VAny).p v w → Rel w w' → ((V x).getD k VAny).p v w') :
    ∀ i, i < m → (C.getD i []).isEmpty = false → ∀ k, k < m → k ≠ i → i ∉ R.getD k [] → k ∉ C.getD i [] → ∀ x v w w', ((V x).getD k VAny).p v w → Rel w w' → ((V x).getD k VAny).p v w' := by
 intro i hi he k hk hne hR hC x v w w' hp hrel
 have h1 := List.all_eq_true.1 hchk i (List.mem_range.2 hi)
 rw [he, Bool.false_or] at h1
 have h2 := List.all_eq_true.1 h1 k (List.mem_range.2 hk)
 rw [Bool.or_eq_true, Bool.or_eq_true, Bool.or_eq_true, beq_iff_eq, List.contains_iff_mem, List.contains_iff_mem, List.contains_iff_mem] at h2
 rcases h2 with ((h2 | h2) | h2) | h2
 · exact absurd h2 hne
 · exact absurd h2 hR
 · exact absurd h2 hC
 · exact hW k h2 x v w w' hp hrel
end
theorem and_small (x : Int) : 0 ≤ bits BinOp.and IntKind.u64 x 16777215 ∧ bits BinOp.and IntKind.u64 x 16777215 ≤ 16777215 := by
 unfold bits
 simp only
 have h : (BitVec.ofInt IntKind.u64.bits x &&& BitVec.ofInt IntKind.u64.bits 16777215).toNat ≤ 16777215 := by
  rw [BitVec.toNat_and]
  exact Nat.le_trans Nat.and_le_right (by decide)
 obtain ⟨r, hr⟩ : ∃ r, r = (BitVec.ofInt IntKind.u64.bits x &&& BitVec.ofInt IntKind.u64.bits 16777215).toNat := ⟨_, rfl⟩
 rw [← hr] at h ⊢
 have e : IntKind.u64.wrap ((r : Nat) : Int) = (r : Int) := by
  have e1 : IntKind.u64.wrap ((r : Nat) : Int) = ((r : Nat) : Int) % 18446744073709551616 := rfl
  rw [e1]; omega
 rw [e]
 omega
/-- A source: a code, a place in it, a number. -/
def Src (w : World) (g : Nat) (T : TypeId) : Prop := ∃ (B : Option Addr) (nb cb : Nat) (bs : List Int) (pl : Nat) (h : Int), Blk w g T #[.slice B nb cb, .int .i64 pl, .int .u64 h] ∧ Rd w B nb (bs.map (Value.int .u8)) ∧ (∀ b ∈ bs, 0 ≤ b ∧ b < 256) ∧ pl ≤ nb ∧ nb ≤ 4096 ∧ ∀ a, B = some a → a.block < g
/-- What drawing leaves as it was: all but the source's own block. -/
structure Dr (g : Nat) (T : TypeId) (w w' : World) : Prop where
 s : Src w g T
 s' : Src w' g T
 b : Below g w w'
 k : ∀ k, k < w.heap.size → k ≠ g → w'.heap[k]? = w.heap[k]?
theorem Blk.three {w : World} {g : Nat} {t : TypeId} {a b c : Value} (h : Blk w g t #[a, b, c]) : w.cell? ⟨g, 0, none⟩ = some a ∧ w.cell? ⟨g, 1, none⟩ = some b ∧ w.cell? ⟨g, 2, none⟩ = some c := ⟨h.cell 0, h.cell 1, h.cell 2⟩
theorem Src.lt {w : World} {g : Nat} {T : TypeId} (h : Src w g T) : g < w.heap.size := by obtain ⟨B, nb, cb, bs, pl, x, k, _⟩ := h; exact k.lt
theorem Src.keep {w w' : World} {g : Nat} {T : TypeId} (h : Src w g T) (hk : w'.heap[g]? = w.heap[g]?) (hb : Below g w w') : Src w' g T := by
 obtain ⟨B, nb, cb, bs, pl, x, k, r, h1, h2, h3, h4⟩ := h
 refine ⟨B, nb, cb, bs, pl, x, hk.trans k, ⟨r.1, fun hn0 => ?_⟩, h1, h2, h3, h4⟩
 obtain ⟨gb, ob, e, hc⟩ := r.2 hn0
 exact ⟨gb, ob, e, fun j u hu => (hb.cell (show gb < g from h4 _ e)).trans (hc j u hu)⟩
theorem Src.below {w w' : World} {g : Nat} {T : TypeId} (h : Src w g T) (hb : Below w.heap.size w w') : Src w' g T := by
 obtain ⟨B, nb, cb, bs, pl, x, k, r, rest⟩ := h
 exact ⟨B, nb, cb, bs, pl, x, k.below hb k.lt, r.below hb, rest⟩
theorem Dr.refl {w : World} {g : Nat} {T : TypeId} (h : Src w g T) : Dr g T w w := ⟨h, h, Below.refl _ _, fun _ _ _ => rfl⟩
theorem Dr.of_below {w w' : World} {g : Nat} {T : TypeId} (h : Src w g T) (hb : Below w.heap.size w w') : Dr g T w w' := ⟨h, h.below hb, hb.mono (Nat.le_of_lt h.lt), fun k hk _ => hb.block k hk⟩
theorem Dr.trans {w w1 w2 : World} {g : Nat} {T : TypeId} (h : Dr g T w w1) (h' : Dr g T w1 w2) : Dr g T w w2 :=
 ⟨h.s, h'.s', h.b.trans h'.b, fun k hk hne => (h'.k k (Nat.lt_of_lt_of_le hk h.b.size) hne).trans (h.k k hk hne)⟩
theorem Dr.size {w w' : World} {g : Nat} {T : TypeId} (h : Dr g T w w') : w.heap.size ≤ w'.heap.size := h.b.size
theorem Dr.down {w0 w w' : World} {g : Nat} {T : TypeId} (h : Dr g T w w') (hb : Below w0.heap.size w0 w) (hg : w0.heap.size ≤ g) : Below w0.heap.size w0 w' := hb.trans (h.b.mono hg)
theorem Blk.dr {w w' : World} {g g' : Nat} {T t : TypeId} {cs : Array Value} (h : Blk w g' t cs) (d : Dr g T w w') (hne : t ≠ T) : Blk w' g' t cs := by
 refine (d.k g' h.lt fun e => ?_).trans h
 subst e
 obtain ⟨B, nb, cb, bs, pl, x, k, _⟩ := d.s
 unfold Blk at h k
 rw [h] at k
 injection k with k
 injection k with _ e
 exact hne e
theorem Own.dr {w w' : World} {g : Nat} {T E : TypeId} {B : Nat} {A : Option Addr} {n c : Nat} {us : List Value} (h : Own w B E A n c us) (d : Dr g T w w') (hne : E ≠ T) : Own w' B E A n c us := by
 obtain ⟨B', nb, cb, bs, pl, x, k, _⟩ := d.s
 have hn := h.ne_blk k hne
 refine ⟨h.1, ?_⟩
 rcases h.2 with hz | ⟨g', cap, cur, he, hB, hg, r⟩
 · exact .inl hz
 · refine .inr ⟨g', cap, cur, he, hB, (d.k g' (Array.getElem?_eq_some_iff.1 hg).1 fun e => hn ?_).trans hg, r⟩
   rw [he, ← e]; rfl
theorem Dr.set {w : World} {g : Nat} {T : TypeId} {B : Option Addr} {nb cb : Nat} {bs : List Int} {pl pl' : Nat} {h h' : Int} (k : Blk w g T #[.slice B nb cb, .int .i64 pl, .int .u64 h]) (r : Rd w B nb (bs.map (Value.int .u8))) (hbs : ∀ b ∈ bs, 0 ≤ b ∧ b < 256) (hpl : pl ≤ nb) (hnb : nb ≤ 4096) (hbg : ∀ a, B = some a → a.block < g)
    (i : Nat) (u : Value) (e : (#[.slice B nb cb, .int .i64 pl, .int .u64 h] : Array Value).setIfInBounds i u = #[.slice B nb cb, .int .i64 pl', .int .u64 h']) (hpl' : pl' ≤ nb) :
    Dr g T w (w.setCell ⟨g, i, none⟩ u) ∧ Blk (w.setCell ⟨g, i, none⟩ u) g T #[.slice B nb cb, .int .i64 pl', .int .u64 h'] ∧ Rd (w.setCell ⟨g, i, none⟩ u) B nb (bs.map (Value.int .u8)) := by
 have k1 := k.set_ i u
 rw [e] at k1
 have hfar : ∀ b, b ≠ g → (w.setCell ⟨g, i, none⟩ u).heap[b]? = w.heap[b]? := fun b hb => Below.heap_setCell w ⟨g, i, none⟩ _ b hb
 have hr : Rd (w.setCell ⟨g, i, none⟩ u) B nb (bs.map (Value.int .u8)) := ⟨r.1, fun hn0 => by
  obtain ⟨gb, ob, e, hc⟩ := r.2 hn0
  refine ⟨gb, ob, e, fun j u hu => ?_⟩
  have hcj := hc j u hu
  have hlt := hbg _ e
  exact (World.cell?_of_block (hfar gb (fun e => by simp at hlt; omega))).trans hcj⟩
 exact ⟨⟨⟨B, nb, cb, bs, pl, h, k, r, hbs, hpl, hnb, hbg⟩, ⟨B, nb, cb, bs, pl', h', k1, hr, hbs, hpl', hnb, hbg⟩, zG.setCell (p := ⟨g, i, none⟩) (Nat.le_refl _) _, fun b _ hb => hfar b hb⟩, k1, hr⟩
theorem Dr.alloc {w w' : World} {g : Nat} {T : TypeId} (h : Dr g T w w') (o : Obj) : Dr g T w (w'.alloc o) := h.trans (Dr.of_below h.s' (zG.alloc (Nat.le_refl _) o))
theorem Dr.then {w w1 w2 : World} {g : Nat} {T : TypeId} (h : Dr g T w w1) (hb : Below w1.heap.size w1 w2) : Dr g T w w2 := h.trans (Dr.of_below h.s' hb)
/-- A row made since then grows. -/
theorem Dr.grown {w wr w' : World} {g : Nat} {T E : TypeId} {A : Option Addr} {n c : Nat} {us : List Value} (d : Dr g T w wr) (o : Own wr w.heap.size E A n c us) (hg : wr.grownBy w' (Value.slice A n c).ownBlock) : Dr g T w w' := by
 have hlt := d.s.lt
 have hrow : ∀ k, (Value.slice A n c).ownBlock = some k → w.heap.size ≤ k := fun k hk => (World.ownsRow.lt o k hk).1
 have hb : Below g wr w' := (Below.refl g wr).grown hg (Nat.le_of_lt (Nat.lt_of_lt_of_le hlt d.size)) fun k hk => Nat.le_trans (Nat.le_of_lt hlt) (hrow k hk)
 exact ⟨d.s, d.s'.keep (hg.block g (Nat.lt_of_lt_of_le hlt d.size) fun e => by have := hrow g e.symm; omega) hb, d.b.trans hb,
  fun k hk hne => (hg.block k (Nat.lt_of_lt_of_le hk d.size) fun e => by have := hrow k e.symm; omega).trans (d.k k hk hne)⟩
set_option maxHeartbeats 1600000 in
set_option maxRecDepth 8000 in
theorem next_any (g : Nat) (n : Int) (w : World) (hs : Src w g 124) (hn : n ≤ 4611686018427387904) :
    Calls Tryz.prog 47 #[.pointer (some ⟨g, 0, none⟩), .int .i64 n] w fun e w' => ∃ r : Int, e = .returned (.int .i64 r) ∧ 0 ≤ r ∧ (1 ≤ n → r < n) ∧ Dr g 124 w w' := by
 by_cases h1 : n < 1
 · have d1 : decide (n < 1) = true := by simpa using h1
   go_enter Tryz.func47, Tryz.ntmps47
   go_wp2
   go_ret
   exact ⟨0, rfl, by omega, fun h => by omega, Dr.refl hs⟩
 · have d1 : decide (n < 1) = false := by simpa using h1
   obtain ⟨B, nb, cb, bs, pl, h, k, r, hbs, hpl, hnb, hbg⟩ := id hs
   have q0 : w.cell? ⟨g, 0, none⟩ = some (.slice B nb cb) := k.cell 0
   have q1 : w.cell? ⟨g, 1, none⟩ = some (.int .i64 pl) := k.cell 1
   have q2 : w.cell? ⟨g, 2, none⟩ = some (.int .u64 h) := k.cell 2
   have f2 := k.frozen 2
   go_enter Tryz.func47, Tryz.ntmps47
   go_wp2
   obtain ⟨H, hH⟩ : ∃ H, H = IntKind.u64.wrap (IntKind.u64.wrap (h * 6364136223846793005) + 1442695040888963407) := ⟨_, rfl⟩
   rw [← hH]
   have hsm := and_small (H / 8589934592)
   obtain ⟨X, hX⟩ : ∃ X, X = bits BinOp.and IntKind.u64 (H / 8589934592) 16777215 := ⟨_, rfl⟩
   rw [← hX] at hsm ⊢
   have W1 : wrap64 X = X := by unfold wrap64; omega
   rw [W1]
   obtain ⟨x1, x2⟩ := hsm
   obtain ⟨hd1, k1, r1⟩ := Dr.set k r hbs hpl hnb hbg 2 (.int .u64 H) (pl' := pl) (h' := H) (by simp) hpl
   clear q0 q1 q2 f2 hX
   obtain ⟨w1, hw1⟩ : ∃ W, W = w.setCell ⟨g, 2, none⟩ (.int .u64 H) := ⟨_, rfl⟩
   rw [← hw1] at k1 r1 hd1 ⊢
   have hN0 : (n == 0) = false := by simp; omega
   have hN1 : (n == -1) = false := by simp; omega
   have hN2 : ¬ n = 0 := by omega
   have HD := Lib.hid hd1
   have HBS := Lib.hid hbs
   have HBG := Lib.hid hbg
   have HR1 := Lib.hid r1
   clear hw1 hH hd1 r k hbg
   by_cases hpn : pl < nb
   · have dl : decide ((pl : Int) < (nb : Int)) = true := by simp; omega
     obtain ⟨gb, ob, rfl, hc⟩ := r1.2 (by omega)
     have hbl : pl < bs.length := by have := r1.1; rw [List.length_map] at this; omega
     have hcb := hc pl (.int .u8 bs[pl]) (by simp [hbl])
     obtain ⟨b1, b2⟩ := hbs _ (List.getElem_mem hbl)
     obtain ⟨bb, hbb⟩ : ∃ x, x = bs[pl] := ⟨_, rfl⟩
     rw [← hbb] at hcb b1 b2
     have i1 : (0 : Int) ≤ (pl : Int) := by omega
     have i2 : (pl : Int) < (nb : Int) := by omega
     have W2 : IntKind.i64.wrap bb = bb := by rw [IntWalk.i64_left]; unfold wrap64; omega
     have W4 : IntKind.i64.wrap (X + bb) = X + bb := by rw [IntWalk.i64_left]; unfold wrap64; omega
     have W5 : wrap64 ((pl : Int) + 1) = ((pl + 1 : Nat) : Int) := by unfold wrap64; omega
     have T1 := Int.tmod_eq_emod_of_nonneg (b := n) (show 0 ≤ X + bb by omega)
     clear hc hbs hbb r1
     go_wp2
     refine wp_obs 10 [[],[0],[0,1],[0,1,2],[],[4],[4,5],[4,5,6],[4,5,6,7],[0,1,2,3,4,5,6,7,8]] [VIs (.pointer (some ⟨g, 0, none⟩)), VIs (.pointer (some ⟨g, 0, none⟩)), VIs (.pointer (some ⟨g, 1, none⟩)), VIs (.int .i64 (pl)), VIs (.pointer (some ⟨g, 0, none⟩)), VIs (.pointer (some ⟨g, 0, none⟩)), VIs (.pointer (some ⟨g, 0, none⟩)), VIs (.slice (some ⟨gb, ob, none⟩) nb cb), VIs (.int .i64 (nb)), VIs (.bool true)] (fun w' => Blk w' g 124 #[.slice (some ⟨gb, ob, none⟩) nb cb, .int .i64 pl, .int .u64 H] ∧ w'.cell? ⟨gb, ob + pl, none⟩ = some (.int .u8 bb) ∧ Below w1.heap.size w1 w') (by kernel_rfl) (by kernel_rfl) (fun _ _ h hb => ⟨h.1.below hb h.1.lt, (hb.cell (World.block_lt_of_cell? _ _ h.2.1)).trans h.2.1, h.2.2.trans (hb.mono h.2.2.size)⟩) (⟨k1.drew, hcb, zG.drew⟩) (fun x => ?_)
     refine zS (fun w' hS hV K hK => ?_) ?_
     · obtain ⟨q0, q1, q2⟩ := hS.1.three; have qb := hS.2.1; go_simp; exact zO hK
     refine zS (fun w' hS hV K hK => ?_) ?_
     · have e0 := zQ hV 0; obtain ⟨q0, q1, q2⟩ := hS.1.three; have qb := hS.2.1; go_simp; exact zO hK
     refine zS (fun w' hS hV K hK => ?_) ?_
     · have e1 := zQ hV 1; obtain ⟨q0, q1, q2⟩ := hS.1.three; have qb := hS.2.1; go_simp; exact zO hK
     refine zS (fun w' hS hV K hK => ?_) ?_
     · have e2 := zQ hV 2; obtain ⟨q0, q1, q2⟩ := hS.1.three; have qb := hS.2.1; go_simp; exact zO hK
     refine zS (fun w' hS hV K hK => ?_) ?_
     · obtain ⟨q0, q1, q2⟩ := hS.1.three; have qb := hS.2.1; go_simp; exact zO hK
     refine zS (fun w' hS hV K hK => ?_) ?_
     · have e4 := zQ hV 4; obtain ⟨q0, q1, q2⟩ := hS.1.three; have qb := hS.2.1; go_simp; exact zO hK
     refine zS (fun w' hS hV K hK => ?_) ?_
     · have e5 := zQ hV 5; obtain ⟨q0, q1, q2⟩ := hS.1.three; have qb := hS.2.1; go_simp; exact zO hK
     refine zS (fun w' hS hV K hK => ?_) ?_
     · have e6 := zQ hV 6; obtain ⟨q0, q1, q2⟩ := hS.1.three; have qb := hS.2.1; go_simp; exact zO hK
     refine zS (fun w' hS hV K hK => ?_) ?_
     · have e7 := zQ hV 7; obtain ⟨q0, q1, q2⟩ := hS.1.three; have qb := hS.2.1; go_simp; exact zO hK
     refine zS (fun w' hS hV K hK => ?_) ?_
     · have e3 := zQ hV 3; have e8 := zQ hV 8; obtain ⟨q0, q1, q2⟩ := hS.1.three; have qb := hS.2.1; go_simp; exact zO hK
     refine fun w' hS hV => ?_
     have e0 := zT hV 0
     have e1 := zT hV 1
     have e2 := zT hV 2
     have e3 := zT hV 3
     have e4 := zT hV 4
     have e5 := zT hV 5
     have e6 := zT hV 6
     have e7 := zT hV 7
     have e8 := zT hV 8
     have e9 := zT hV 9
     simp only [e0, e1, e2, e3, e4, e5, e6, e7, e8, e9]
     clear e0 e1 e2 e3 e4 e5 e6 e7 e8 e9
     refine wpAny_done (by kernel_rfl) ?_ _
     obtain ⟨w2, rfl⟩ : ∃ W, W = w' := ⟨_, rfl⟩
     obtain ⟨k2, hcb2, hb2⟩ := hS
     have HR2 := Lib.hid (HR1.out.below hb2)
     have HD2 := Lib.hid (HD.out.trans (Dr.of_below HD.out.s' hb2))
     clear k1 hcb hb2
     go_wp2
     refine wp_obs 13 [[],[],[1],[1,2],[1,2,3],[],[5],[5,6],[5,6,7],[1,2,3,4,5,6,7,8],[1,2,3,4,5,6,7,8,9],[1,2,3,4,5,6,7,8,9,10],[0,1,2,3,4,5,6,7,8,9,10,11],[0,1,2,3,4,5,6,7,8,9,10,11,12]] [VIs (.int .i64 (X)), VIs (.pointer (some ⟨g, 0, none⟩)), VIs (.pointer (some ⟨g, 0, none⟩)), VIs (.pointer (some ⟨g, 0, none⟩)), VIs (.slice (some ⟨gb, ob, none⟩) nb cb), VIs (.pointer (some ⟨g, 0, none⟩)), VIs (.pointer (some ⟨g, 0, none⟩)), VIs (.pointer (some ⟨g, 1, none⟩)), VIs (.int .i64 (pl)), VIs (.pointer (some ⟨gb, ob + pl, none⟩)), VIs (.int .u8 bb), VIs (.int .i64 (bb)), VIs (.int .i64 (X + bb))] (fun w' => Blk w' g 124 #[.slice (some ⟨gb, ob, none⟩) nb cb, .int .i64 pl, .int .u64 H] ∧ w'.cell? ⟨gb, ob + pl, none⟩ = some (.int .u8 bb) ∧ Below w2.heap.size w2 w') (by kernel_rfl) (by kernel_rfl) (fun _ _ h hb => ⟨h.1.below hb h.1.lt, (hb.cell (World.block_lt_of_cell? _ _ h.2.1)).trans h.2.1, h.2.2.trans (hb.mono h.2.2.size)⟩) (⟨k2.drew, hcb2, zG.drew⟩) (fun x => ?_)
     refine zS (fun w' hS hV K hK => ?_) ?_
     · obtain ⟨q0, q1, q2⟩ := hS.1.three; have qb := hS.2.1; go_simp; exact zO hK
     refine zS (fun w' hS hV K hK => ?_) ?_
     · obtain ⟨q0, q1, q2⟩ := hS.1.three; have qb := hS.2.1; go_simp; exact zO hK
     refine zS (fun w' hS hV K hK => ?_) ?_
     · have e1 := zQ hV 1; obtain ⟨q0, q1, q2⟩ := hS.1.three; have qb := hS.2.1; go_simp; exact zO hK
     refine zS (fun w' hS hV K hK => ?_) ?_
     · have e2 := zQ hV 2; obtain ⟨q0, q1, q2⟩ := hS.1.three; have qb := hS.2.1; go_simp; exact zO hK
     refine zS (fun w' hS hV K hK => ?_) ?_
     · have e3 := zQ hV 3; obtain ⟨q0, q1, q2⟩ := hS.1.three; have qb := hS.2.1; go_simp; exact zO hK
     refine zS (fun w' hS hV K hK => ?_) ?_
     · obtain ⟨q0, q1, q2⟩ := hS.1.three; have qb := hS.2.1; go_simp; exact zO hK
     refine zS (fun w' hS hV K hK => ?_) ?_
     · have e5 := zQ hV 5; obtain ⟨q0, q1, q2⟩ := hS.1.three; have qb := hS.2.1; go_simp; exact zO hK
     refine zS (fun w' hS hV K hK => ?_) ?_
     · have e6 := zQ hV 6; obtain ⟨q0, q1, q2⟩ := hS.1.three; have qb := hS.2.1; go_simp; exact zO hK
     refine zS (fun w' hS hV K hK => ?_) ?_
     · have e7 := zQ hV 7; obtain ⟨q0, q1, q2⟩ := hS.1.three; have qb := hS.2.1; go_simp; exact zO hK
     refine zS (fun w' hS hV K hK => ?_) ?_
     · have e4 := zQ hV 4; have e8 := zQ hV 8; obtain ⟨q0, q1, q2⟩ := hS.1.three; have qb := hS.2.1; go_simp; exact zO hK
     refine zS (fun w' hS hV K hK => ?_) ?_
     · have e9 := zQ hV 9; obtain ⟨q0, q1, q2⟩ := hS.1.three; have qb := hS.2.1; go_simp; exact zO hK
     refine zS (fun w' hS hV K hK => ?_) ?_
     · have e10 := zQ hV 10; obtain ⟨q0, q1, q2⟩ := hS.1.three; have qb := hS.2.1; go_simp; exact zO hK
     refine zS (fun w' hS hV K hK => ?_) ?_
     · have e0 := zQ hV 0; have e11 := zQ hV 11; obtain ⟨q0, q1, q2⟩ := hS.1.three; have qb := hS.2.1; go_simp; exact zO hK
     refine fun w' hS hV => ?_
     have e0 := zT hV 0
     have e1 := zT hV 1
     have e2 := zT hV 2
     have e3 := zT hV 3
     have e4 := zT hV 4
     have e5 := zT hV 5
     have e6 := zT hV 6
     have e7 := zT hV 7
     have e8 := zT hV 8
     have e9 := zT hV 9
     have e10 := zT hV 10
     have e11 := zT hV 11
     have e12 := zT hV 12
     simp only [e0, e1, e2, e3, e4, e5, e6, e7, e8, e9, e10, e11, e12]
     clear e0 e1 e2 e3 e4 e5 e6 e7 e8 e9 e10 e11 e12
     refine any_one (j := 13) (by kernel_rfl) (Eq.trans (by simp only [zA, zB, zC]; exact rfl) rfl) (fun K hK => ?_)
     go_simp
     refine hK.out _ _ (wpAny_done (by kernel_rfl) ?_ _)
     obtain ⟨w3, rfl⟩ : ∃ W, W = w' := ⟨_, rfl⟩
     obtain ⟨k3, hcb3, hb3⟩ := hS
     have HR3 := Lib.hid (HR2.out.below hb3)
     have HD3 := Lib.hid (HD2.out.trans (Dr.of_below HD2.out.s' hb3))
     obtain ⟨hd4, k4, r4⟩ := Dr.set k3 HR3.out HBS.out hpl hnb HBG.out 1 (.int .i64 ((pl + 1 : Nat) : Int)) (pl' := pl + 1) (h' := H) (by simp) hpn
     have HD4 := Lib.hid (HD3.out.trans hd4)
     have q1 : w3.cell? ⟨g, 1, none⟩ = some (.int .i64 pl) := k3.cell 1
     have f1 := k3.frozen 1
     clear k2 hcb2 hb3 hd4 k4 r4
     go_wp2
     go_ret
     refine ⟨(X + bb) % n, rfl, Int.emod_nonneg _ hN2, fun hn => Int.emod_lt_of_pos _ (by omega), ?_⟩
     first
      | exact HD4.out
      | (rw [W5]; exact HD4.out)
   · have dl : decide ((pl : Int) < (nb : Int)) = false := by simp; omega
     have T1 := Int.tmod_eq_emod_of_nonneg (b := n) (show 0 ≤ X by omega)
     clear hbs r1
     go_wp2
     refine wp_obs 10 [[],[0],[0,1],[0,1,2],[],[4],[4,5],[4,5,6],[4,5,6,7],[0,1,2,3,4,5,6,7,8]] [VIs (.pointer (some ⟨g, 0, none⟩)), VIs (.pointer (some ⟨g, 0, none⟩)), VIs (.pointer (some ⟨g, 1, none⟩)), VIs (.int .i64 (pl)), VIs (.pointer (some ⟨g, 0, none⟩)), VIs (.pointer (some ⟨g, 0, none⟩)), VIs (.pointer (some ⟨g, 0, none⟩)), VIs (.slice B nb cb), VIs (.int .i64 (nb)), VIs (.bool false)] (fun w' => Blk w' g 124 #[.slice B nb cb, .int .i64 pl, .int .u64 H] ∧ Below w1.heap.size w1 w') (by kernel_rfl) (by kernel_rfl) (fun _ _ h hb => ⟨h.1.below hb h.1.lt, h.2.trans (hb.mono h.2.size)⟩) (⟨k1.drew, zG.drew⟩) (fun x => ?_)
     refine zS (fun w' hS hV K hK => ?_) ?_
     · obtain ⟨q0, q1, q2⟩ := hS.1.three; go_simp; exact zO hK
     refine zS (fun w' hS hV K hK => ?_) ?_
     · have e0 := zQ hV 0; obtain ⟨q0, q1, q2⟩ := hS.1.three; go_simp; exact zO hK
     refine zS (fun w' hS hV K hK => ?_) ?_
     · have e1 := zQ hV 1; obtain ⟨q0, q1, q2⟩ := hS.1.three; go_simp; exact zO hK
     refine zS (fun w' hS hV K hK => ?_) ?_
     · have e2 := zQ hV 2; obtain ⟨q0, q1, q2⟩ := hS.1.three; go_simp; exact zO hK
     refine zS (fun w' hS hV K hK => ?_) ?_
     · obtain ⟨q0, q1, q2⟩ := hS.1.three; go_simp; exact zO hK
     refine zS (fun w' hS hV K hK => ?_) ?_
     · have e4 := zQ hV 4; obtain ⟨q0, q1, q2⟩ := hS.1.three; go_simp; exact zO hK
     refine zS (fun w' hS hV K hK => ?_) ?_
     · have e5 := zQ hV 5; obtain ⟨q0, q1, q2⟩ := hS.1.three; go_simp; exact zO hK
     refine zS (fun w' hS hV K hK => ?_) ?_
     · have e6 := zQ hV 6; obtain ⟨q0, q1, q2⟩ := hS.1.three; go_simp; exact zO hK
     refine zS (fun w' hS hV K hK => ?_) ?_
     · have e7 := zQ hV 7; obtain ⟨q0, q1, q2⟩ := hS.1.three; go_simp; exact zO hK
     refine zS (fun w' hS hV K hK => ?_) ?_
     · have e3 := zQ hV 3; have e8 := zQ hV 8; obtain ⟨q0, q1, q2⟩ := hS.1.three; go_simp; exact zO hK
     refine fun w' hS hV => ?_
     have e0 := zT hV 0
     have e1 := zT hV 1
     have e2 := zT hV 2
     have e3 := zT hV 3
     have e4 := zT hV 4
     have e5 := zT hV 5
     have e6 := zT hV 6
     have e7 := zT hV 7
     have e8 := zT hV 8
     have e9 := zT hV 9
     simp only [e0, e1, e2, e3, e4, e5, e6, e7, e8, e9]
     clear e0 e1 e2 e3 e4 e5 e6 e7 e8 e9
     refine wpAny_done (by kernel_rfl) ?_ _
     obtain ⟨w2, rfl⟩ : ∃ W, W = w' := ⟨_, rfl⟩
     obtain ⟨k2, hb2⟩ := hS
     have HD2 := Lib.hid (HD.out.trans (Dr.of_below HD.out.s' hb2))
     clear k1 hb2 k2
     go_wp2
     go_ret
     exact ⟨X % n, rfl, Int.emod_nonneg _ hN2, fun hn => Int.emod_lt_of_pos _ (by omega), HD2.out⟩
set_option maxHeartbeats 1600000 in
set_option maxRecDepth 8000 in
theorem below_any (g : Nat) (n : Int) (w : World) (hs : Src w g 85) (hn : n ≤ 4611686018427387904) :
    Calls Tryz.prog 27 #[.pointer (some ⟨g, 0, none⟩), .int .i64 n] w fun e w' => ∃ r : Int, e = .returned (.int .i64 r) ∧ 0 ≤ r ∧ (1 ≤ n → r < n) ∧ Dr g 85 w w' := by
 by_cases h1 : n < 1
 · have d1 : decide (n < 1) = true := by simpa using h1
   go_enter Tryz.func27, Tryz.ntmps27
   go_wp2
   go_ret
   exact ⟨0, rfl, by omega, fun h => by omega, Dr.refl hs⟩
 · have d1 : decide (n < 1) = false := by simpa using h1
   obtain ⟨B, nb, cb, bs, pl, h, k, r, hbs, hpl, hnb, hbg⟩ := id hs
   have q0 : w.cell? ⟨g, 0, none⟩ = some (.slice B nb cb) := k.cell 0
   have q1 : w.cell? ⟨g, 1, none⟩ = some (.int .i64 pl) := k.cell 1
   have q2 : w.cell? ⟨g, 2, none⟩ = some (.int .u64 h) := k.cell 2
   have f2 := k.frozen 2
   go_enter Tryz.func27, Tryz.ntmps27
   go_wp2
   obtain ⟨H, hH⟩ : ∃ H, H = IntKind.u64.wrap (IntKind.u64.wrap (h * 6364136223846793005) + 1442695040888963407) := ⟨_, rfl⟩
   rw [← hH]
   have hsm := and_small (H / 8589934592)
   obtain ⟨X, hX⟩ : ∃ X, X = bits BinOp.and IntKind.u64 (H / 8589934592) 16777215 := ⟨_, rfl⟩
   rw [← hX] at hsm ⊢
   have W1 : wrap64 X = X := by unfold wrap64; omega
   rw [W1]
   obtain ⟨x1, x2⟩ := hsm
   obtain ⟨hd1, k1, r1⟩ := Dr.set k r hbs hpl hnb hbg 2 (.int .u64 H) (pl' := pl) (h' := H) (by simp) hpl
   clear q0 q1 q2 f2 hX
   obtain ⟨w1, hw1⟩ : ∃ W, W = w.setCell ⟨g, 2, none⟩ (.int .u64 H) := ⟨_, rfl⟩
   rw [← hw1] at k1 r1 hd1 ⊢
   have hN0 : (n == 0) = false := by simp; omega
   have hN1 : (n == -1) = false := by simp; omega
   have hN2 : ¬ n = 0 := by omega
   have HD := Lib.hid hd1
   have HBS := Lib.hid hbs
   have HBG := Lib.hid hbg
   have HR1 := Lib.hid r1
   clear hw1 hH hd1 r k hbg
   by_cases hpn : pl < nb
   · have dl : decide ((pl : Int) < (nb : Int)) = true := by simp; omega
     obtain ⟨gb, ob, rfl, hc⟩ := r1.2 (by omega)
     have hbl : pl < bs.length := by have := r1.1; rw [List.length_map] at this; omega
     have hcb := hc pl (.int .u8 bs[pl]) (by simp [hbl])
     obtain ⟨b1, b2⟩ := hbs _ (List.getElem_mem hbl)
     obtain ⟨bb, hbb⟩ : ∃ x, x = bs[pl] := ⟨_, rfl⟩
     rw [← hbb] at hcb b1 b2
     have i1 : (0 : Int) ≤ (pl : Int) := by omega
     have i2 : (pl : Int) < (nb : Int) := by omega
     have W2 : IntKind.i64.wrap bb = bb := by rw [IntWalk.i64_left]; unfold wrap64; omega
     have W4 : IntKind.i64.wrap (X + bb) = X + bb := by rw [IntWalk.i64_left]; unfold wrap64; omega
     have W5 : wrap64 ((pl : Int) + 1) = ((pl + 1 : Nat) : Int) := by unfold wrap64; omega
     have T1 := Int.tmod_eq_emod_of_nonneg (b := n) (show 0 ≤ X + bb by omega)
     clear hc hbs hbb r1
     go_wp2
     refine wp_obs 10 [[],[0],[0,1],[0,1,2],[],[4],[4,5],[4,5,6],[4,5,6,7],[0,1,2,3,4,5,6,7,8]] [VIs (.pointer (some ⟨g, 0, none⟩)), VIs (.pointer (some ⟨g, 0, none⟩)), VIs (.pointer (some ⟨g, 1, none⟩)), VIs (.int .i64 (pl)), VIs (.pointer (some ⟨g, 0, none⟩)), VIs (.pointer (some ⟨g, 0, none⟩)), VIs (.pointer (some ⟨g, 0, none⟩)), VIs (.slice (some ⟨gb, ob, none⟩) nb cb), VIs (.int .i64 (nb)), VIs (.bool true)] (fun w' => Blk w' g 85 #[.slice (some ⟨gb, ob, none⟩) nb cb, .int .i64 pl, .int .u64 H] ∧ w'.cell? ⟨gb, ob + pl, none⟩ = some (.int .u8 bb) ∧ Below w1.heap.size w1 w') (by kernel_rfl) (by kernel_rfl) (fun _ _ h hb => ⟨h.1.below hb h.1.lt, (hb.cell (World.block_lt_of_cell? _ _ h.2.1)).trans h.2.1, h.2.2.trans (hb.mono h.2.2.size)⟩) (⟨k1.drew, hcb, zG.drew⟩) (fun x => ?_)
     refine zS (fun w' hS hV K hK => ?_) ?_
     · obtain ⟨q0, q1, q2⟩ := hS.1.three; have qb := hS.2.1; go_simp; exact zO hK
     refine zS (fun w' hS hV K hK => ?_) ?_
     · have e0 := zQ hV 0; obtain ⟨q0, q1, q2⟩ := hS.1.three; have qb := hS.2.1; go_simp; exact zO hK
     refine zS (fun w' hS hV K hK => ?_) ?_
     · have e1 := zQ hV 1; obtain ⟨q0, q1, q2⟩ := hS.1.three; have qb := hS.2.1; go_simp; exact zO hK
     refine zS (fun w' hS hV K hK => ?_) ?_
     · have e2 := zQ hV 2; obtain ⟨q0, q1, q2⟩ := hS.1.three; have qb := hS.2.1; go_simp; exact zO hK
     refine zS (fun w' hS hV K hK => ?_) ?_
     · obtain ⟨q0, q1, q2⟩ := hS.1.three; have qb := hS.2.1; go_simp; exact zO hK
     refine zS (fun w' hS hV K hK => ?_) ?_
     · have e4 := zQ hV 4; obtain ⟨q0, q1, q2⟩ := hS.1.three; have qb := hS.2.1; go_simp; exact zO hK
     refine zS (fun w' hS hV K hK => ?_) ?_
     · have e5 := zQ hV 5; obtain ⟨q0, q1, q2⟩ := hS.1.three; have qb := hS.2.1; go_simp; exact zO hK
     refine zS (fun w' hS hV K hK => ?_) ?_
     · have e6 := zQ hV 6; obtain ⟨q0, q1, q2⟩ := hS.1.three; have qb := hS.2.1; go_simp; exact zO hK
     refine zS (fun w' hS hV K hK => ?_) ?_
     · have e7 := zQ hV 7; obtain ⟨q0, q1, q2⟩ := hS.1.three; have qb := hS.2.1; go_simp; exact zO hK
     refine zS (fun w' hS hV K hK => ?_) ?_
     · have e3 := zQ hV 3; have e8 := zQ hV 8; obtain ⟨q0, q1, q2⟩ := hS.1.three; have qb := hS.2.1; go_simp; exact zO hK
     refine fun w' hS hV => ?_
     have e0 := zT hV 0
     have e1 := zT hV 1
     have e2 := zT hV 2
     have e3 := zT hV 3
     have e4 := zT hV 4
     have e5 := zT hV 5
     have e6 := zT hV 6
     have e7 := zT hV 7
     have e8 := zT hV 8
     have e9 := zT hV 9
     simp only [e0, e1, e2, e3, e4, e5, e6, e7, e8, e9]
     clear e0 e1 e2 e3 e4 e5 e6 e7 e8 e9
     refine wpAny_done (by kernel_rfl) ?_ _
     obtain ⟨w2, rfl⟩ : ∃ W, W = w' := ⟨_, rfl⟩
     obtain ⟨k2, hcb2, hb2⟩ := hS
     have HR2 := Lib.hid (HR1.out.below hb2)
     have HD2 := Lib.hid (HD.out.trans (Dr.of_below HD.out.s' hb2))
     clear k1 hcb hb2
     go_wp2
     refine wp_obs 13 [[],[],[1],[1,2],[1,2,3],[],[5],[5,6],[5,6,7],[1,2,3,4,5,6,7,8],[1,2,3,4,5,6,7,8,9],[1,2,3,4,5,6,7,8,9,10],[0,1,2,3,4,5,6,7,8,9,10,11],[0,1,2,3,4,5,6,7,8,9,10,11,12]] [VIs (.int .i64 (X)), VIs (.pointer (some ⟨g, 0, none⟩)), VIs (.pointer (some ⟨g, 0, none⟩)), VIs (.pointer (some ⟨g, 0, none⟩)), VIs (.slice (some ⟨gb, ob, none⟩) nb cb), VIs (.pointer (some ⟨g, 0, none⟩)), VIs (.pointer (some ⟨g, 0, none⟩)), VIs (.pointer (some ⟨g, 1, none⟩)), VIs (.int .i64 (pl)), VIs (.pointer (some ⟨gb, ob + pl, none⟩)), VIs (.int .u8 bb), VIs (.int .i64 (bb)), VIs (.int .i64 (X + bb))] (fun w' => Blk w' g 85 #[.slice (some ⟨gb, ob, none⟩) nb cb, .int .i64 pl, .int .u64 H] ∧ w'.cell? ⟨gb, ob + pl, none⟩ = some (.int .u8 bb) ∧ Below w2.heap.size w2 w') (by kernel_rfl) (by kernel_rfl) (fun _ _ h hb => ⟨h.1.below hb h.1.lt, (hb.cell (World.block_lt_of_cell? _ _ h.2.1)).trans h.2.1, h.2.2.trans (hb.mono h.2.2.size)⟩) (⟨k2.drew, hcb2, zG.drew⟩) (fun x => ?_)
     refine zS (fun w' hS hV K hK => ?_) ?_
     · obtain ⟨q0, q1, q2⟩ := hS.1.three; have qb := hS.2.1; go_simp; exact zO hK
     refine zS (fun w' hS hV K hK => ?_) ?_
     · obtain ⟨q0, q1, q2⟩ := hS.1.three; have qb := hS.2.1; go_simp; exact zO hK
     refine zS (fun w' hS hV K hK => ?_) ?_
     · have e1 := zQ hV 1; obtain ⟨q0, q1, q2⟩ := hS.1.three; have qb := hS.2.1; go_simp; exact zO hK
     refine zS (fun w' hS hV K hK => ?_) ?_
     · have e2 := zQ hV 2; obtain ⟨q0, q1, q2⟩ := hS.1.three; have qb := hS.2.1; go_simp; exact zO hK
     refine zS (fun w' hS hV K hK => ?_) ?_
     · have e3 := zQ hV 3; obtain ⟨q0, q1, q2⟩ := hS.1.three; have qb := hS.2.1; go_simp; exact zO hK
     refine zS (fun w' hS hV K hK => ?_) ?_
     · obtain ⟨q0, q1, q2⟩ := hS.1.three; have qb := hS.2.1; go_simp; exact zO hK
     refine zS (fun w' hS hV K hK => ?_) ?_
     · have e5 := zQ hV 5; obtain ⟨q0, q1, q2⟩ := hS.1.three; have qb := hS.2.1; go_simp; exact zO hK
     refine zS (fun w' hS hV K hK => ?_) ?_
     · have e6 := zQ hV 6; obtain ⟨q0, q1, q2⟩ := hS.1.three; have qb := hS.2.1; go_simp; exact zO hK
     refine zS (fun w' hS hV K hK => ?_) ?_
     · have e7 := zQ hV 7; obtain ⟨q0, q1, q2⟩ := hS.1.three; have qb := hS.2.1; go_simp; exact zO hK
     refine zS (fun w' hS hV K hK => ?_) ?_
     · have e4 := zQ hV 4; have e8 := zQ hV 8; obtain ⟨q0, q1, q2⟩ := hS.1.three; have qb := hS.2.1; go_simp; exact zO hK
     refine zS (fun w' hS hV K hK => ?_) ?_
     · have e9 := zQ hV 9; obtain ⟨q0, q1, q2⟩ := hS.1.three; have qb := hS.2.1; go_simp; exact zO hK
     refine zS (fun w' hS hV K hK => ?_) ?_
     · have e10 := zQ hV 10; obtain ⟨q0, q1, q2⟩ := hS.1.three; have qb := hS.2.1; go_simp; exact zO hK
     refine zS (fun w' hS hV K hK => ?_) ?_
     · have e0 := zQ hV 0; have e11 := zQ hV 11; obtain ⟨q0, q1, q2⟩ := hS.1.three; have qb := hS.2.1; go_simp; exact zO hK
     refine fun w' hS hV => ?_
     have e0 := zT hV 0
     have e1 := zT hV 1
     have e2 := zT hV 2
     have e3 := zT hV 3
     have e4 := zT hV 4
     have e5 := zT hV 5
     have e6 := zT hV 6
     have e7 := zT hV 7
     have e8 := zT hV 8
     have e9 := zT hV 9
     have e10 := zT hV 10
     have e11 := zT hV 11
     have e12 := zT hV 12
     simp only [e0, e1, e2, e3, e4, e5, e6, e7, e8, e9, e10, e11, e12]
     clear e0 e1 e2 e3 e4 e5 e6 e7 e8 e9 e10 e11 e12
     refine any_one (j := 13) (by kernel_rfl) (Eq.trans (by simp only [zA, zB, zC]; exact rfl) rfl) (fun K hK => ?_)
     go_simp
     refine hK.out _ _ (wpAny_done (by kernel_rfl) ?_ _)
     obtain ⟨w3, rfl⟩ : ∃ W, W = w' := ⟨_, rfl⟩
     obtain ⟨k3, hcb3, hb3⟩ := hS
     have HR3 := Lib.hid (HR2.out.below hb3)
     have HD3 := Lib.hid (HD2.out.trans (Dr.of_below HD2.out.s' hb3))
     obtain ⟨hd4, k4, r4⟩ := Dr.set k3 HR3.out HBS.out hpl hnb HBG.out 1 (.int .i64 ((pl + 1 : Nat) : Int)) (pl' := pl + 1) (h' := H) (by simp) hpn
     have HD4 := Lib.hid (HD3.out.trans hd4)
     have q1 : w3.cell? ⟨g, 1, none⟩ = some (.int .i64 pl) := k3.cell 1
     have f1 := k3.frozen 1
     clear k2 hcb2 hb3 hd4 k4 r4
     go_wp2
     go_ret
     refine ⟨(X + bb) % n, rfl, Int.emod_nonneg _ hN2, fun hn => Int.emod_lt_of_pos _ (by omega), ?_⟩
     first
      | exact HD4.out
      | (rw [W5]; exact HD4.out)
   · have dl : decide ((pl : Int) < (nb : Int)) = false := by simp; omega
     have T1 := Int.tmod_eq_emod_of_nonneg (b := n) (show 0 ≤ X by omega)
     clear hbs r1
     go_wp2
     refine wp_obs 10 [[],[0],[0,1],[0,1,2],[],[4],[4,5],[4,5,6],[4,5,6,7],[0,1,2,3,4,5,6,7,8]] [VIs (.pointer (some ⟨g, 0, none⟩)), VIs (.pointer (some ⟨g, 0, none⟩)), VIs (.pointer (some ⟨g, 1, none⟩)), VIs (.int .i64 (pl)), VIs (.pointer (some ⟨g, 0, none⟩)), VIs (.pointer (some ⟨g, 0, none⟩)), VIs (.pointer (some ⟨g, 0, none⟩)), VIs (.slice B nb cb), VIs (.int .i64 (nb)), VIs (.bool false)] (fun w' => Blk w' g 85 #[.slice B nb cb, .int .i64 pl, .int .u64 H] ∧ Below w1.heap.size w1 w') (by kernel_rfl) (by kernel_rfl) (fun _ _ h hb => ⟨h.1.below hb h.1.lt, h.2.trans (hb.mono h.2.size)⟩) (⟨k1.drew, zG.drew⟩) (fun x => ?_)
     refine zS (fun w' hS hV K hK => ?_) ?_
     · obtain ⟨q0, q1, q2⟩ := hS.1.three; go_simp; exact zO hK
     refine zS (fun w' hS hV K hK => ?_) ?_
     · have e0 := zQ hV 0; obtain ⟨q0, q1, q2⟩ := hS.1.three; go_simp; exact zO hK
     refine zS (fun w' hS hV K hK => ?_) ?_
     · have e1 := zQ hV 1; obtain ⟨q0, q1, q2⟩ := hS.1.three; go_simp; exact zO hK
     refine zS (fun w' hS hV K hK => ?_) ?_
     · have e2 := zQ hV 2; obtain ⟨q0, q1, q2⟩ := hS.1.three; go_simp; exact zO hK
     refine zS (fun w' hS hV K hK => ?_) ?_
     · obtain ⟨q0, q1, q2⟩ := hS.1.three; go_simp; exact zO hK
     refine zS (fun w' hS hV K hK => ?_) ?_
     · have e4 := zQ hV 4; obtain ⟨q0, q1, q2⟩ := hS.1.three; go_simp; exact zO hK
     refine zS (fun w' hS hV K hK => ?_) ?_
     · have e5 := zQ hV 5; obtain ⟨q0, q1, q2⟩ := hS.1.three; go_simp; exact zO hK
     refine zS (fun w' hS hV K hK => ?_) ?_
     · have e6 := zQ hV 6; obtain ⟨q0, q1, q2⟩ := hS.1.three; go_simp; exact zO hK
     refine zS (fun w' hS hV K hK => ?_) ?_
     · have e7 := zQ hV 7; obtain ⟨q0, q1, q2⟩ := hS.1.three; go_simp; exact zO hK
     refine zS (fun w' hS hV K hK => ?_) ?_
     · have e3 := zQ hV 3; have e8 := zQ hV 8; obtain ⟨q0, q1, q2⟩ := hS.1.three; go_simp; exact zO hK
     refine fun w' hS hV => ?_
     have e0 := zT hV 0
     have e1 := zT hV 1
     have e2 := zT hV 2
     have e3 := zT hV 3
     have e4 := zT hV 4
     have e5 := zT hV 5
     have e6 := zT hV 6
     have e7 := zT hV 7
     have e8 := zT hV 8
     have e9 := zT hV 9
     simp only [e0, e1, e2, e3, e4, e5, e6, e7, e8, e9]
     clear e0 e1 e2 e3 e4 e5 e6 e7 e8 e9
     refine wpAny_done (by kernel_rfl) ?_ _
     obtain ⟨w2, rfl⟩ : ∃ W, W = w' := ⟨_, rfl⟩
     obtain ⟨k2, hb2⟩ := hS
     have HD2 := Lib.hid (HD.out.trans (Dr.of_below HD.out.s' hb2))
     clear k1 hb2 k2
     go_wp2
     go_ret
     exact ⟨X % n, rfl, Int.emod_nonneg _ hN2, fun hn => Int.emod_lt_of_pos _ (by omega), HD2.out⟩
/-- A world of the first B blocks. -/
def cutW (w : World) (B : Nat) : World := { w with heap := w.heap.extract 0 B }
theorem cutW_size {w : World} {B : Nat} (h : B ≤ w.heap.size) : (cutW w B).heap.size = B := by simp [cutW]; omega
theorem cutW_below {w : World} {B : Nat} (h : B ≤ w.heap.size) : Below (cutW w B).heap.size (cutW w B) w := by
 refine ⟨rfl, rfl, rfl, by rw [cutW_size h]; exact h, fun k hk => ?_⟩
 rw [cutW_size h] at hk
 simp [cutW, Array.getElem?_extract, hk]
 intro h2
 omega
theorem Own.mk_ {w : World} {E : TypeId} {B : Nat} {A : Option Addr} {n c : Nat} {us : List Value} (h : Own w B E A n c us) (hB : B ≤ w.heap.size) : Mk (cutW w B) w E A n c us := ⟨cutW_below hB, by rw [cutW_size hB]; exact h⟩
theorem Mk.own_ {w0 w : World} {E : TypeId} {B : Nat} {A : Option Addr} {n c : Nat} {us : List Value} (h : Mk w0 w E A n c us) (hB : w0.heap.size = B) : Own w B E A n c us := by rw [← hB]; exact h.2
set_option maxHeartbeats 1600000 in
set_option maxRecDepth 8000 in
theorem from__any (B : Option Addr) (nb cb : Nat) (bs : List Int) (w : World) (hnb : nb ≤ 4096) (r : Rd w B nb (bs.map (Value.int .u8))) (hbs : ∀ b ∈ bs, 0 ≤ b ∧ b < 256) (hbg : ∀ a, B = some a → a.block < w.heap.size) :
    Calls Tryz.prog 44 #[.slice B nb cb] w fun e w' => ∃ g, e = .returned (.pointer (some ⟨g, 0, none⟩)) ∧ w.heap.size ≤ g ∧ Src w' g 124 ∧ Below w.heap.size w w' := by
 have W0 : wrap64 (nb : Int) = nb := by unfold wrap64; omega
 go_enter Tryz.func44, Tryz.ntmps44
 go_wp2
 go_loopw [4] (fun i wr => ∃ (j : Nat) (h : Int), j ≤ nb ∧ i = .int .i64 j ∧ Blk wr w.heap.size 124 #[.slice B nb cb, .int .i64 0, .int .u64 h] ∧ Below w.heap.size w wr) (fun i _ => nb - (intOf i).toNat)
 case atStart => exact ⟨0, _, by omega, rfl, Blk.new _ _ _, zG.alloc (Nat.le_refl _) _⟩
 case round =>
  obtain ⟨j, h, hj, rfl, k1, hb1⟩ := hrel
  by_cases hlt : j < nb
  · have d1 : decide ((j : Int) < (nb : Int)) = true := by simp; omega
    have d2 : decide ((j : Int) < 4096) = true := by simp; omega
    obtain ⟨gb, ob, rfl, hc⟩ := (r.below hb1).2 (by omega)
    have hbl : j < bs.length := by have := r.1; rw [List.length_map] at this; omega
    have hcb := hc j (.int .u8 bs[j]) (by simp [hbl])
    obtain ⟨b1, b2⟩ := hbs _ (List.getElem_mem hbl)
    obtain ⟨bb, hbb⟩ : ∃ x, x = bs[j] := ⟨_, rfl⟩
    rw [← hbb] at hcb b1 b2
    have i1 : (0 : Int) ≤ (j : Int) := by omega
    have i2 : (j : Int) < (nb : Int) := by omega
    have W2 : IntKind.u64.wrap bb = bb := IntWalk.u64_in _ ⟨b1, by omega⟩
    clear hc hbb
    go_wp2
    refine wp_obs 15 [[],[],[1],[1,2],[1,2,3],[1,2,3,4],[],[],[6,7],[6,7,8],[6,7,8,9],[1,2,3,4,5,6,7,8,9,10],[1,2,3,4,5,6,7,8,9,10,11],[0],[0,13],[0,1,2,3,4,5,6,7,8,9,10,11,12,13,14]] [VIs (.pointer (some ⟨w.heap.size, 0, none⟩)), VIs (.pointer (some ⟨w.heap.size, 0, none⟩)), VIs (.pointer (some ⟨w.heap.size, 0, none⟩)), VIs (.pointer (some ⟨w.heap.size, 2, none⟩)), VIs (.int .u64 (h)), VIs (.int .u64 (IntKind.u64.wrap (h * 1099511628211))), VIs (.slice (some ⟨gb, ob, none⟩) nb cb), VIs (.int .i64 (j)), VIs (.pointer (some ⟨gb, ob + j, none⟩)), VIs (.int .u8 bb), VIs (.int .u64 (bb)), VIs (.int .u64 (IntKind.u64.wrap (IntKind.u64.wrap (h * 1099511628211) + bb))), VIs (.int .u64 (IntKind.u64.wrap (IntKind.u64.wrap (IntKind.u64.wrap (h * 1099511628211) + bb) + 11))), VIs (.pointer (some ⟨w.heap.size, 0, none⟩)), VIs (.pointer (some ⟨w.heap.size, 2, none⟩))] (fun w' => Blk w' w.heap.size 124 #[.slice (some ⟨gb, ob, none⟩) nb cb, .int .i64 0, .int .u64 h] ∧ w'.cell? ⟨gb, ob + j, none⟩ = some (.int .u8 bb) ∧ Below wr.heap.size wr w') (by kernel_rfl) (by kernel_rfl) (fun _ _ h hb => ⟨h.1.below hb h.1.lt, (hb.cell (World.block_lt_of_cell? _ _ h.2.1)).trans h.2.1, h.2.2.trans (hb.mono h.2.2.size)⟩) (⟨k1.drew, hcb, zG.drew⟩) (fun x => ?_)
    refine zS (fun w' hS hV K hK => ?_) ?_
    · obtain ⟨q0, q1, q2⟩ := hS.1.three; have qb := hS.2.1; go_simp; exact zO hK
    refine zS (fun w' hS hV K hK => ?_) ?_
    · obtain ⟨q0, q1, q2⟩ := hS.1.three; have qb := hS.2.1; go_simp; exact zO hK
    refine zS (fun w' hS hV K hK => ?_) ?_
    · have e1 := zQ hV 1; obtain ⟨q0, q1, q2⟩ := hS.1.three; have qb := hS.2.1; go_simp; exact zO hK
    refine zS (fun w' hS hV K hK => ?_) ?_
    · have e2 := zQ hV 2; obtain ⟨q0, q1, q2⟩ := hS.1.three; have qb := hS.2.1; go_simp; exact zO hK
    refine zS (fun w' hS hV K hK => ?_) ?_
    · have e3 := zQ hV 3; obtain ⟨q0, q1, q2⟩ := hS.1.three; have qb := hS.2.1; go_simp; exact zO hK
    refine zS (fun w' hS hV K hK => ?_) ?_
    · have e4 := zQ hV 4; obtain ⟨q0, q1, q2⟩ := hS.1.three; have qb := hS.2.1; go_simp; exact zO hK
    refine zS (fun w' hS hV K hK => ?_) ?_
    · obtain ⟨q0, q1, q2⟩ := hS.1.three; have qb := hS.2.1; go_simp; exact zO hK
    refine zS (fun w' hS hV K hK => ?_) ?_
    · obtain ⟨q0, q1, q2⟩ := hS.1.three; have qb := hS.2.1; go_simp; exact zO hK
    refine zS (fun w' hS hV K hK => ?_) ?_
    · have e6 := zQ hV 6; have e7 := zQ hV 7; obtain ⟨q0, q1, q2⟩ := hS.1.three; have qb := hS.2.1; go_simp; exact zO hK
    refine zS (fun w' hS hV K hK => ?_) ?_
    · have e8 := zQ hV 8; obtain ⟨q0, q1, q2⟩ := hS.1.three; have qb := hS.2.1; go_simp; exact zO hK
    refine zS (fun w' hS hV K hK => ?_) ?_
    · have e9 := zQ hV 9; obtain ⟨q0, q1, q2⟩ := hS.1.three; have qb := hS.2.1; go_simp; exact zO hK
    refine zS (fun w' hS hV K hK => ?_) ?_
    · have e5 := zQ hV 5; have e10 := zQ hV 10; obtain ⟨q0, q1, q2⟩ := hS.1.three; have qb := hS.2.1; go_simp; exact zO hK
    refine zS (fun w' hS hV K hK => ?_) ?_
    · have e11 := zQ hV 11; obtain ⟨q0, q1, q2⟩ := hS.1.three; have qb := hS.2.1; go_simp; exact zO hK
    refine zS (fun w' hS hV K hK => ?_) ?_
    · have e0 := zQ hV 0; obtain ⟨q0, q1, q2⟩ := hS.1.three; have qb := hS.2.1; go_simp; exact zO hK
    refine zS (fun w' hS hV K hK => ?_) ?_
    · have e13 := zQ hV 13; obtain ⟨q0, q1, q2⟩ := hS.1.three; have qb := hS.2.1; go_simp; exact zO hK
    refine fun w' hS hV => ?_
    have e0 := zT hV 0
    have e1 := zT hV 1
    have e2 := zT hV 2
    have e3 := zT hV 3
    have e4 := zT hV 4
    have e5 := zT hV 5
    have e6 := zT hV 6
    have e7 := zT hV 7
    have e8 := zT hV 8
    have e9 := zT hV 9
    have e10 := zT hV 10
    have e11 := zT hV 11
    have e12 := zT hV 12
    have e13 := zT hV 13
    have e14 := zT hV 14
    simp only [e0, e1, e2, e3, e4, e5, e6, e7, e8, e9, e10, e11, e12, e13, e14]
    clear e0 e1 e2 e3 e4 e5 e6 e7 e8 e9 e10 e11 e12 e13 e14
    obtain ⟨k2, _, hb2⟩ := hS
    have q2 := k2.three.2.2
    have f2 := k2.frozen 2
    refine any_one (j := 15) (by kernel_rfl) (Eq.trans (by simp only [zA, zB, zC]; exact rfl) rfl) (fun K hK => ?_)
    go_simp
    refine hK.out _ _ (wpAny_done (by kernel_rfl) ?_ _)
    have k3 := k2.set_ 2 (.int .u64 (IntKind.u64.wrap (IntKind.u64.wrap (IntKind.u64.wrap (h * 1099511628211) + bb) + 11)))
    simp only [zD, zE, zF] at k3
    have hb3 := (hb1.trans (hb2.mono hb1.size)).setCell (p := ⟨w.heap.size, 2, none⟩) (Nat.le_refl _) (.int .u64 (IntKind.u64.wrap (IntKind.u64.wrap (IntKind.u64.wrap (h * 1099511628211) + bb) + 11)))
    clear q2 f2 k2 hb2 k1
    go_wp2
    go_roundw
    case rel => exact ⟨j + 1, _, by omega, by go_num, k3, hb3⟩
    case measure => simp [intOf]; omega
  · have d1 : decide ((j : Int) < (nb : Int)) = false := by simp; omega
    go_wp2
    go_ret
    exact ⟨_, rfl, Nat.le_refl _, ⟨B, nb, cb, bs, 0, h, k1, r.below hb1, hbs, by omega, hnb, hbg⟩, hb1⟩
set_option maxHeartbeats 1600000 in
set_option maxRecDepth 8000 in
theorem roll_any (B : Option Addr) (nb cb : Nat) (bs : List Int) (sd : Int) (w : World) (hnb : nb ≤ 4096) (r : Rd w B nb (bs.map (Value.int .u8))) (hbs : ∀ b ∈ bs, 0 ≤ b ∧ b < 256) (hbg : ∀ a, B = some a → a.block < w.heap.size) :
    Calls Tryz.prog 14 #[.slice B nb cb, .int .u64 sd] w fun e w' => ∃ g, e = .returned (.pointer (some ⟨g, 0, none⟩)) ∧ w.heap.size ≤ g ∧ Src w' g 85 ∧ Below w.heap.size w w' := by
 have W0 : wrap64 (nb : Int) = nb := by unfold wrap64; omega
 go_enter Tryz.func14, Tryz.ntmps14
 go_wp2
 go_loopw [6] (fun i wr => ∃ (j : Nat) (h : Int), j ≤ nb ∧ i = .int .i64 j ∧ Blk wr w.heap.size 85 #[.slice B nb cb, .int .i64 0, .int .u64 h] ∧ Below w.heap.size w wr) (fun i _ => nb - (intOf i).toNat)
 case atStart => exact ⟨0, _, by omega, rfl, Blk.new _ _ _, zG.alloc (Nat.le_refl _) _⟩
 case round =>
  obtain ⟨j, h, hj, rfl, k1, hb1⟩ := hrel
  by_cases hlt : j < nb
  · have d1 : decide ((j : Int) < (nb : Int)) = true := by simp; omega
    skip
    obtain ⟨gb, ob, rfl, hc⟩ := (r.below hb1).2 (by omega)
    have hbl : j < bs.length := by have := r.1; rw [List.length_map] at this; omega
    have hcb := hc j (.int .u8 bs[j]) (by simp [hbl])
    obtain ⟨b1, b2⟩ := hbs _ (List.getElem_mem hbl)
    obtain ⟨bb, hbb⟩ : ∃ x, x = bs[j] := ⟨_, rfl⟩
    rw [← hbb] at hcb b1 b2
    have i1 : (0 : Int) ≤ (j : Int) := by omega
    have i2 : (j : Int) < (nb : Int) := by omega
    have W2 : IntKind.u64.wrap bb = bb := IntWalk.u64_in _ ⟨b1, by omega⟩
    clear hc hbb
    go_wp2
    refine wp_obs 15 [[],[],[1],[1,2],[1,2,3],[1,2,3,4],[],[],[6,7],[6,7,8],[6,7,8,9],[1,2,3,4,5,6,7,8,9,10],[1,2,3,4,5,6,7,8,9,10,11],[0],[0,13],[0,1,2,3,4,5,6,7,8,9,10,11,12,13,14]] [VIs (.pointer (some ⟨w.heap.size, 0, none⟩)), VIs (.pointer (some ⟨w.heap.size, 0, none⟩)), VIs (.pointer (some ⟨w.heap.size, 0, none⟩)), VIs (.pointer (some ⟨w.heap.size, 2, none⟩)), VIs (.int .u64 (h)), VIs (.int .u64 (IntKind.u64.wrap (h * 1099511628211))), VIs (.slice (some ⟨gb, ob, none⟩) nb cb), VIs (.int .i64 (j)), VIs (.pointer (some ⟨gb, ob + j, none⟩)), VIs (.int .u8 bb), VIs (.int .u64 (bb)), VIs (.int .u64 (IntKind.u64.wrap (IntKind.u64.wrap (h * 1099511628211) + bb))), VIs (.int .u64 (IntKind.u64.wrap (IntKind.u64.wrap (IntKind.u64.wrap (h * 1099511628211) + bb) + 5))), VIs (.pointer (some ⟨w.heap.size, 0, none⟩)), VIs (.pointer (some ⟨w.heap.size, 2, none⟩))] (fun w' => Blk w' w.heap.size 85 #[.slice (some ⟨gb, ob, none⟩) nb cb, .int .i64 0, .int .u64 h] ∧ w'.cell? ⟨gb, ob + j, none⟩ = some (.int .u8 bb) ∧ Below wr.heap.size wr w') (by kernel_rfl) (by kernel_rfl) (fun _ _ h hb => ⟨h.1.below hb h.1.lt, (hb.cell (World.block_lt_of_cell? _ _ h.2.1)).trans h.2.1, h.2.2.trans (hb.mono h.2.2.size)⟩) (⟨k1.drew, hcb, zG.drew⟩) (fun x => ?_)
    refine zS (fun w' hS hV K hK => ?_) ?_
    · obtain ⟨q0, q1, q2⟩ := hS.1.three; have qb := hS.2.1; go_simp; exact zO hK
    refine zS (fun w' hS hV K hK => ?_) ?_
    · obtain ⟨q0, q1, q2⟩ := hS.1.three; have qb := hS.2.1; go_simp; exact zO hK
    refine zS (fun w' hS hV K hK => ?_) ?_
    · have e1 := zQ hV 1; obtain ⟨q0, q1, q2⟩ := hS.1.three; have qb := hS.2.1; go_simp; exact zO hK
    refine zS (fun w' hS hV K hK => ?_) ?_
    · have e2 := zQ hV 2; obtain ⟨q0, q1, q2⟩ := hS.1.three; have qb := hS.2.1; go_simp; exact zO hK
    refine zS (fun w' hS hV K hK => ?_) ?_
    · have e3 := zQ hV 3; obtain ⟨q0, q1, q2⟩ := hS.1.three; have qb := hS.2.1; go_simp; exact zO hK
    refine zS (fun w' hS hV K hK => ?_) ?_
    · have e4 := zQ hV 4; obtain ⟨q0, q1, q2⟩ := hS.1.three; have qb := hS.2.1; go_simp; exact zO hK
    refine zS (fun w' hS hV K hK => ?_) ?_
    · obtain ⟨q0, q1, q2⟩ := hS.1.three; have qb := hS.2.1; go_simp; exact zO hK
    refine zS (fun w' hS hV K hK => ?_) ?_
    · obtain ⟨q0, q1, q2⟩ := hS.1.three; have qb := hS.2.1; go_simp; exact zO hK
    refine zS (fun w' hS hV K hK => ?_) ?_
    · have e6 := zQ hV 6; have e7 := zQ hV 7; obtain ⟨q0, q1, q2⟩ := hS.1.three; have qb := hS.2.1; go_simp; exact zO hK
    refine zS (fun w' hS hV K hK => ?_) ?_
    · have e8 := zQ hV 8; obtain ⟨q0, q1, q2⟩ := hS.1.three; have qb := hS.2.1; go_simp; exact zO hK
    refine zS (fun w' hS hV K hK => ?_) ?_
    · have e9 := zQ hV 9; obtain ⟨q0, q1, q2⟩ := hS.1.three; have qb := hS.2.1; go_simp; exact zO hK
    refine zS (fun w' hS hV K hK => ?_) ?_
    · have e5 := zQ hV 5; have e10 := zQ hV 10; obtain ⟨q0, q1, q2⟩ := hS.1.three; have qb := hS.2.1; go_simp; exact zO hK
    refine zS (fun w' hS hV K hK => ?_) ?_
    · have e11 := zQ hV 11; obtain ⟨q0, q1, q2⟩ := hS.1.three; have qb := hS.2.1; go_simp; exact zO hK
    refine zS (fun w' hS hV K hK => ?_) ?_
    · have e0 := zQ hV 0; obtain ⟨q0, q1, q2⟩ := hS.1.three; have qb := hS.2.1; go_simp; exact zO hK
    refine zS (fun w' hS hV K hK => ?_) ?_
    · have e13 := zQ hV 13; obtain ⟨q0, q1, q2⟩ := hS.1.three; have qb := hS.2.1; go_simp; exact zO hK
    refine fun w' hS hV => ?_
    have e0 := zT hV 0
    have e1 := zT hV 1
    have e2 := zT hV 2
    have e3 := zT hV 3
    have e4 := zT hV 4
    have e5 := zT hV 5
    have e6 := zT hV 6
    have e7 := zT hV 7
    have e8 := zT hV 8
    have e9 := zT hV 9
    have e10 := zT hV 10
    have e11 := zT hV 11
    have e12 := zT hV 12
    have e13 := zT hV 13
    have e14 := zT hV 14
    simp only [e0, e1, e2, e3, e4, e5, e6, e7, e8, e9, e10, e11, e12, e13, e14]
    clear e0 e1 e2 e3 e4 e5 e6 e7 e8 e9 e10 e11 e12 e13 e14
    obtain ⟨k2, _, hb2⟩ := hS
    have q2 := k2.three.2.2
    have f2 := k2.frozen 2
    refine any_one (j := 15) (by kernel_rfl) (Eq.trans (by simp only [zA, zB, zC]; exact rfl) rfl) (fun K hK => ?_)
    go_simp
    refine hK.out _ _ (wpAny_done (by kernel_rfl) ?_ _)
    have k3 := k2.set_ 2 (.int .u64 (IntKind.u64.wrap (IntKind.u64.wrap (IntKind.u64.wrap (h * 1099511628211) + bb) + 5)))
    simp only [zD, zE, zF] at k3
    have hb3 := (hb1.trans (hb2.mono hb1.size)).setCell (p := ⟨w.heap.size, 2, none⟩) (Nat.le_refl _) (.int .u64 (IntKind.u64.wrap (IntKind.u64.wrap (IntKind.u64.wrap (h * 1099511628211) + bb) + 5)))
    clear q2 f2 k2 hb2 k1
    go_wp2
    go_roundw
    case rel => exact ⟨j + 1, _, by omega, by go_num, k3, hb3⟩
    case measure => simp [intOf]; omega
  · have d1 : decide ((j : Int) < (nb : Int)) = false := by simp; omega
    go_wp2
    go_ret
    exact ⟨_, rfl, Nat.le_refl _, ⟨B, nb, cb, bs, 0, h, k1, r.below hb1, hbs, by omega, hnb, hbg⟩, hb1⟩
set_option maxHeartbeats 800000 in
set_option maxRecDepth 8000 in
theorem pick_any (g gl : Nat) (xs : List Int) (w : World) (hs : Src w g 124) (kl : Blk w gl 2 (ints xs).toArray) (h0 : 0 < xs.length) (hl : xs.length ≤ 1000) :
    Calls Tryz.prog 106 #[.pointer (some ⟨g, 0, none⟩), .slice (some ⟨gl, 0, none⟩) xs.length xs.length] w fun e w' => ∃ r : Int, r ∈ xs ∧ e = .returned (.int .i64 r) ∧ Dr g 124 w w' := by
 have hnx := next_any g (xs.length : Int) w hs (by omega)
 go_enter Tryz.func106, Tryz.ntmps106
 go_wp2_with fail
 refine hnx.mono ?_
 rintro e w2 ⟨r, rfl, hr1, hr2, hd⟩
 have hr3 := hr2 (by omega)
 obtain ⟨rn, rfl⟩ : ∃ rn : Nat, r = rn := ⟨r.toNat, by omega⟩
 have hlt : rn < xs.length := by omega
 have kl2 := kl.dr hd (by decide)
 have hc : w2.cell? ⟨gl, rn, none⟩ = some (.int .i64 xs[rn]) := by
  rw [kl2.cell]
  simp [ints, hlt]
 have hmem := List.getElem_mem hlt
 obtain ⟨x, hx⟩ : ∃ x, x = xs[rn] := ⟨_, rfl⟩
 rw [← hx] at hc hmem
 clear hnx hx
 go_wp2
 go_ret
 exact ⟨x, hmem, rfl, hd⟩
theorem ints2 (a b : Int) : (ints [a, b]).toArray = #[.int .i64 a, .int .i64 b] := rfl
theorem Dr.setNew {w wr : World} {g b : Nat} {T : TypeId} (d : Dr g T w wr) (hb : w.heap.size ≤ b) (i : Nat) (u : Value) : Dr g T w (wr.setCell ⟨b, i, none⟩ u) := by
 have hlt := d.s.lt
 have hfar : ∀ k, k ≠ b → (wr.setCell ⟨b, i, none⟩ u).heap[k]? = wr.heap[k]? := fun k hk => Below.heap_setCell wr ⟨b, i, none⟩ _ k hk
 have hB : Below g wr (wr.setCell ⟨b, i, none⟩ u) := zG.setCell (p := ⟨b, i, none⟩) (Nat.le_trans (Nat.le_of_lt hlt) hb) _
 exact ⟨d.s, d.s'.keep (hfar g (by omega)) hB, d.b.trans hB, fun k hk hne => (hfar k (by omega)).trans (d.k k hk hne)⟩
/-- The value is a number. -/
def VNum : VP := ⟨fun v _ => ∃ r : Int, v = .int .i64 r, fun _ _ _ h _ => h⟩
theorem Own.set_ {w : World} {E : TypeId} {B g : Nat} {n c : Nat} {us : List Value} (h : Own w B E (some ⟨g, 0, none⟩) n c us) (k : Nat) (u : Value) : Own (w.setCell ⟨g, k, none⟩ u) B E (some ⟨g, 0, none⟩) n c (us.set k u) ∧ w.grownBy (w.setCell ⟨g, k, none⟩ u) (some g) := World.ownsRow.stored h k u
end Go.Proofs.YtaiegpggccdgoaaGreat

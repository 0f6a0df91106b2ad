/-
  LawFnTriality: part 12 of the texts that the proof needs. No condition.
-/
import Derived.Test.YtaiegpggccdgoaaGreatT11
namespace Go.Proofs.YtaiegpggccdgoaaGreat
open Go Go.RowKit
theorem Rd.cutT {w : World} {A : Option Addr} {n k : Nat} {us : List Value} (h : Rd w A n us) (hk : k ≤ n) : Rd w A k (us.take k) := ⟨by rw [List.length_take, h.1]; omega, fun hn => by
 obtain ⟨g, o, e, hc⟩ := h.2 (by omega)
 exact ⟨g, o, e, fun j u hu => hc j u (by
  rw [List.getElem?_take] at hu
  split at hu
  · exact hu
  · cases hu)⟩⟩
/-- A list that is a part of another one. -/
def VwT (A0 : Option Addr) (n0 : Nat) (us : List Value) (A : Option Addr) (n : Nat) (xs : List Int) : Prop := (n = 0 ∧ xs = []) ∨ ∃ (g o : Nat) (ys : List Int), A0 = some ⟨g, 0, none⟩ ∧ A = some ⟨g, o, none⟩ ∧ us = ints ys ∧ 0 < n ∧ o + n ≤ n0 ∧ xs = (ys.drop o).take n
theorem VwT.rd {w : World} {B : Nat} {A0 : Option Addr} {n0 c0 : Nat} {us : List Value} {A : Option Addr} {n : Nat} {xs : List Int} (h : VwT A0 n0 us A n xs) (ho : Own w B 2 A0 n0 c0 us) : Rd w A n (ints xs) := by
 rcases h with ⟨rfl, rfl⟩ | ⟨g, o, ys, rfl, rfl, rfl, h0, hle, rfl⟩
 · exact Rd.nil _ _
 · obtain ⟨g', o', e, hr⟩ := ho.rd.behind (show o < n0 by omega)
   injection e with e
   injection e with e1 e2 _
   subst e1; subst e2
   have := hr.cutT (show n ≤ n0 - o by omega)
   rw [ints_drop, Nat.zero_add] at this
   rw [show ints ((ys.drop o).take n) = (ints (ys.drop o)).take n by unfold ints; rw [List.map_take]]
   exact this
/-- A list that is read as long as its owner's block is held. -/
def OwnT (w : World) (B : Nat) (A : Option Addr) (n c : Nat) (xs : List Int) : Prop := n ≤ c ∧ ∃ (A0 : Option Addr) (n0 c0 : Nat) (us : List Value), Own w B 2 A0 n0 c0 us ∧ VwT A0 n0 us A n xs
theorem OwnT.of {w : World} {B : Nat} {A : Option Addr} {n c : Nat} {xs : List Int} (h : Own w B 2 A n c (ints xs)) : OwnT w B A n c xs := by
 refine ⟨h.cap, A, n, c, ints xs, h, ?_⟩
 have hl : xs.length = n := by have := h.len; rwa [ints_length] at this
 by_cases h0 : n = 0
 · exact .inl ⟨h0, List.eq_nil_of_length_eq_zero (by omega)⟩
 · rcases h.form with ⟨_, hz⟩ | ⟨g, rfl, -, -⟩
   · exact absurd hz h0
   · exact .inr ⟨g, 0, xs, rfl, rfl, rfl, by omega, by omega, by rw [List.drop_zero, List.take_of_length_le (by omega)]⟩
theorem OwnT.rd {w : World} {B : Nat} {A : Option Addr} {n c : Nat} {xs : List Int} (h : OwnT w B A n c xs) : Rd w A n (ints xs) := by obtain ⟨_, _, _, _, _, ho, hr⟩ := h; exact hr.rd ho
/-- Its first number is set to 0. -/
theorem OwnT.set0 {w : World} {B : Nat} {A : Option Addr} {n c : Nat} {xs : List Int} (h : OwnT w B A n c xs) (h0 : 0 < n) : ∃ (g o : Nat) (x : Int), A = some ⟨g, o, none⟩ ∧ B ≤ g ∧ w.cell? ⟨g, o, none⟩ = some (.int .i64 x) ∧ w.frozen? ⟨g, o, none⟩ = false ∧ (∃ (n0 c0 : Nat) (us : List Value), Own w B 2 (some ⟨g, 0, none⟩) n0 c0 us ∧ w.grownBy (w.setCell ⟨g, o, none⟩ (.int .i64 0)) (Value.slice (some ⟨g, 0, none⟩) n0 c0).ownBlock) ∧ ∃ xs', OwnT (w.setCell ⟨g, o, none⟩ (.int .i64 0)) B A n c xs' := by
 obtain ⟨hc, A0, n0, c0, us, ho, hr⟩ := h
 rcases hr with ⟨hz, -⟩ | ⟨g, o, ys, rfl, rfl, rfl, -, hle, rfl⟩
 · omega
 · obtain ⟨x, hx⟩ := ho.cellI (show o < n0 by omega)
   obtain ⟨h1, h2⟩ := World.ownsRow.stored ho o (.int .i64 0)
   rw [ints_set] at h1
   exact ⟨g, o, x, rfl, (World.ownsRow.lt ho g rfl).1, hx, ho.frozen_ o, ⟨n0, c0, _, ho, h2⟩, _, hc, _, n0, c0, _, h1, .inr ⟨g, o, _, rfl, rfl, rfl, h0, hle, rfl⟩⟩
theorem OwnT.below {w w' : World} {B : Nat} {A : Option Addr} {n c : Nat} {xs : List Int} (h : OwnT w B A n c xs) (hb : Below w.heap.size w w') : OwnT w' B A n c xs := by
 obtain ⟨hc, A0, n0, c0, us, ho, hr⟩ := h; exact ⟨hc, A0, n0, c0, us, ho.below hb, hr⟩
theorem OwnT.base {w : World} {B B' : Nat} {A : Option Addr} {n c : Nat} {xs : List Int} (h : OwnT w B A n c xs) (hB : B' ≤ B) : OwnT w B' A n c xs := by
 obtain ⟨hc, A0, n0, c0, us, ho, hr⟩ := h; exact ⟨hc, A0, n0, c0, us, ho.base hB, hr⟩
theorem OwnT.dr {w w' : World} {g B : Nat} {T : TypeId} {A : Option Addr} {n c : Nat} {xs : List Int} (h : OwnT w B A n c xs) (d : Dr g T w w') (hne : 2 ≠ T) : OwnT w' B A n c xs := by
 obtain ⟨hc, A0, n0, c0, us, ho, hr⟩ := h; exact ⟨hc, A0, n0, c0, us, ho.dr d hne, hr⟩
theorem OwnT.tail {w : World} {B g m c : Nat} {xs : List Int} (h : Own w B 2 (some ⟨g, 0, none⟩) (m + 1) c (ints xs)) : OwnT w B (some ⟨g, if c = 1 then 0 else 1, none⟩) m (c - 1) (xs.drop 1) := by
 have hc := h.cap
 have hl : xs.length = m + 1 := by have := h.len; rwa [ints_length] at this
 refine ⟨by omega, _, _, _, _, h, ?_⟩
 by_cases hm : m = 0
 · subst hm
   exact .inl ⟨rfl, List.drop_eq_nil_of_le (by omega)⟩
 · rw [if_neg (by omega)]
   exact .inr ⟨g, 1, xs, rfl, rfl, rfl, by omega, by omega, by rw [List.take_of_length_le (by rw [List.length_drop]; omega)]⟩
theorem OwnT.none_ (w : World) (B : Nat) (A : Option Addr) (c : Nat) : OwnT w B A 0 c [] := ⟨Nat.zero_le _, none, 0, 0, [], World.ownsRow_nil _ _ _ _, .inl ⟨rfl, rfl⟩⟩
theorem OwnT.tail1 {w : World} {B g m c : Nat} {xs : List Int} (h : Own w B 2 (some ⟨g, 0, none⟩) (m + 1) c (ints xs)) (hc : ¬ c = 1) : OwnT w B (some ⟨g, 1, none⟩) m (c - 1) (xs.drop 1) := by
 have := OwnT.tail h; rw [if_neg hc] at this; exact this
theorem slice_from1 {g m c : Nat} (w : World) (hk : 1 ≤ m) (hc : m ≤ c) : (Instr.slice 24 (.slice (some ⟨g, 0, none⟩) m c) (some (.int .i64 1)) none none).run Tryz.prog w = .ok (.slice (some ⟨g, if c = 1 then 0 else 1, none⟩) (m - 1) (c - 1)) w := by
 have h := run_slice_l (P := Tryz.prog) (w := w) (t := 24) (a := some ⟨g, 0, none⟩) (len := m) (cap := c) (ht := by kernel_rfl) (kl := .i64) (l := 1) (h0 := by omega) (h1 := by omega)
 rw [h]
 by_cases h1 : c = 1
 · subst h1; simp [go_sem, sliced, Addr.add]
 · simp [go_sem, sliced, h1, Addr.add]
set_option maxHeartbeats 3200000 in
set_option maxRecDepth 8000 in
theorem l11DrawElement_0 (g : Nat) (P : Int) (A : Option Addr) (c : Nat) (w : World) (hs : Src w g 124) (hP0 : 0 ≤ P) (hP17 : P ≤ 17) :
    Calls Tryz.prog 46 #[.pointer (some ⟨g, 0, none⟩), .agg #[.int .i64 P, .slice A 0 c]] w fun e w' => ∃ (A' : Option Addr) (m c' : Nat) (xs : List Int), e = .returned (.slice A' m c') ∧ m ≤ 16 ∧ OwnT w' w.heap.size A' m c' xs ∧ Dr g 124 w w' := by
 have hd1 := ((Dr.refl hs).alloc (.cells #[.int .i64 P, .slice A 0 c] 26)).alloc (.cells #[] 2)
 have k1 : Blk ((w.alloc (.cells #[.int .i64 P, .slice A 0 c] 26)).alloc (.cells #[] 2)) w.heap.size 26 #[.int .i64 P, .slice A 0 c] := (Blk.new _ _ _).alloc _
 have hO1 : Own ((w.alloc (.cells #[.int .i64 P, .slice A 0 c] 26)).alloc (.cells #[] 2)) w.heap.size 2 (some ⟨w.heap.size + 1, 0, none⟩) 0 0 (ints []) := by
  have := (Mk.lit (E := 2) ((Below.refl w.heap.size w).alloc (Nat.le_refl _) (.cells #[.int .i64 P, .slice A 0 c] 26)) #[] (by simp)).2
  simpa [ints] using this
 have hnx := next_any g 4 _ hd1.s' (by omega)
 go_enter Tryz.func46, Tryz.ntmps46
 go_wp2_with fail
 refine hnx.mono ?_
 rintro e w2 ⟨kd, rfl, kd1, kd2, hd2⟩
 have kd3 := kd2 (by omega)
 have k2 := k1.dr hd2 (by decide)
 have HO2 := Lib.hid (hO1.dr hd2 (by decide))
 have HD2 := Lib.hid (hd1.trans hd2)
 clear hnx hd1 k1 hO1 hd2 kd2
 by_cases hP1 : P ≤ 1
 all_goals
  go_wp2
  go_loopw [5, 7] (fun out i wr => ∃ (j : Nat) (A1 : Option Addr) (c1 : Nat) (xs : List Int), j ≤ 1 ∧ i = .int .i64 j ∧ out = .slice A1 j c1 ∧ Hid (Own wr w.heap.size 2 A1 j c1 (ints xs)) ∧ Blk wr w.heap.size 26 #[.int .i64 P, .slice A 0 c] ∧ Hid (Dr g 124 w wr)) (fun _ i _ => 1 - (intOf i).toNat)
  case atStart => exact ⟨0, _, _, [], by omega, rfl, rfl, HO2, k2, HD2⟩
  case round =>
   obtain ⟨j, A1, c1, xs, hj, rfl, rfl, HO, kr, HD⟩ := hrel
   clear k2 HO2 HD2
   obtain ⟨q0, q1⟩ := kr.two
   by_cases hlt : j < 1
   · have hjl : decide ((j : Int) < 1) = true := by rw [decide_eq_true_eq]; omega
     go_wp2_with fail
     refine (next_any g _ _ HD.out.s' (by omega)).mono ?_
     rintro e w3 ⟨r3, rfl, _, _, d3⟩
     replace HO := Lib.hid (HO.out.dr d3 (by decide))
     replace HD := Lib.hid (HD.out.trans d3)
     have k3 := kr.dr d3 (by decide)
     clear q0 q1 kr d3
     by_cases hk0 : kd = 0
     · subst hk0
       go_wp2_with fail
       refine (next_any g 3 _ HD.out.s' (by omega)).mono ?_
       rintro e wA ⟨r4, rfl, _, _, d4⟩
       replace HO := Lib.hid (HO.out.dr d4 (by decide))
       replace HD := Lib.hid (HD.out.trans d4)
       have kA := k3.dr d4 (by decide)
       clear k3 d4
       by_cases hr4 : 0 < r4
       · have hr4b : decide (0 < r4) = true := by simpa using hr4
         go_wp2_with (at_builtin; refine wpList_app1 (cutW wA w.heap.size) wA 24 2 _ _ Tryz.underlying24 info_i rfl (by omega) rfl _ _ rfl A1 j c1 _ _ (HO.out.mk_ HD.out.size) (by omega) rfl rfl rfl ?_; intro A8 c8 w8 hM8 hg8 _)
         have k8 := kA.grown hg8 (HO.out.ne_blk kA (by decide))
         have hO3 := hM8.own_ (cutW_size HD.out.size)
         have hd3 := HD.out.grown HO.out hg8
         clear hM8 hg8 kA
         go_roundw
         case rel => exact ⟨j + 1, A8, c8, xs ++ [0], by omega, by go_num, rfl, Lib.hid (by simpa [ints] using hO3), k8, Lib.hid hd3⟩
         case measure => simp [intOf]; omega
       · have hr4b : decide (0 < r4) = false := by simpa using hr4
         go_wp2_with (at_builtin; refine wpList_app1 (cutW wA w.heap.size) wA 24 2 _ _ Tryz.underlying24 info_i rfl (by omega) rfl _ _ rfl A1 j c1 _ _ (HO.out.mk_ HD.out.size) (by omega) rfl rfl rfl ?_; intro A8 c8 w8 hM8 hg8 _)
         have k8 := kA.grown hg8 (HO.out.ne_blk kA (by decide))
         have hO3 := hM8.own_ (cutW_size HD.out.size)
         have hd3 := HD.out.grown HO.out hg8
         clear hM8 hg8 kA
         go_roundw
         case rel => exact ⟨j + 1, A8, c8, xs ++ [r3], by omega, by go_num, rfl, Lib.hid (by simpa [ints] using hO3), k8, Lib.hid hd3⟩
         case measure => simp [intOf]; omega
     · have hk0b : (kd == 0) = false := by simpa using hk0
       obtain ⟨wA, hwA⟩ : ∃ W, W = w3 := ⟨_, rfl⟩
       rw [← hwA] at HO HD k3 ⊢
       have kA := k3
       clear k3 hwA
       go_wp2_with (at_builtin; refine wpList_app1 (cutW wA w.heap.size) wA 24 2 _ _ Tryz.underlying24 info_i rfl (by omega) rfl _ _ rfl A1 j c1 _ _ (HO.out.mk_ HD.out.size) (by omega) rfl rfl rfl ?_; intro A8 c8 w8 hM8 hg8 _)
       have k8 := kA.grown hg8 (HO.out.ne_blk kA (by decide))
       have hO3 := hM8.own_ (cutW_size HD.out.size)
       have hd3 := HD.out.grown HO.out hg8
       clear hM8 hg8 kA
       go_roundw
       case rel => exact ⟨j + 1, A8, c8, xs ++ [r3], by omega, by go_num, rfl, Lib.hid (by simpa [ints] using hO3), k8, Lib.hid hd3⟩
       case measure => simp [intOf]; omega
   · obtain rfl : j = 1 := by omega
     have hjl : decide (((1 : Nat) : Int) < 1) = false := by simp
     go_wp2_with fail
     refine (next_any g 60 _ HD.out.s' (by omega)).mono ?_
     rintro e w3 ⟨sw, rfl, _, _, d3⟩
     replace HO := Lib.hid (HO.out.dr d3 (by decide))
     replace HD := Lib.hid (HD.out.trans d3)
     have k3 := kr.dr d3 (by decide)
     clear q0 q1 kr d3
     rcases HO.out.form with ⟨_, hz⟩ | ⟨gA, rfl, hg1, hg2⟩
     · omega
     by_cases hs0 : sw = 0
     · have hs0b : (sw == 0) = true := by simp [hs0]
       obtain ⟨q0, q1⟩ := k3.two
       have hd6 := (Dr.refl HD.out.s').alloc (.cells #[.int .i64 (-1), .int .i64 P] 2)
       have hpk := pick_any g w3.heap.size [-1, P] _ hd6.s' (by rw [ints2]; exact Blk.new w3 2 _) (by simp) (by simp)
       go_wp2_with fail
       refine hpk.mono ?_
       rintro e w4 ⟨r4, _, rfl, d4⟩
       replace HO := Lib.hid (HO.out.dr (hd6.trans d4) (by decide))
       replace HD := Lib.hid (HD.out.trans (hd6.trans d4))
       obtain ⟨u0, hc0⟩ := HO.out.cellI (show 0 < 1 by omega)
       have ff := HO.out.frozen_ 0
       obtain ⟨hO7, hg7⟩ := HO.out.set_ 0 (.int .i64 r4)
       rw [ints_set] at hO7
       have hd7 := HD.out.grown HO.out hg7
       clear hpk hd6 d4 k3 q0 q1 hg7
       go_wp2
       go_ret
       first | exact ⟨_, _, _, _, rfl, by omega, OwnT.of hO7, hd7⟩ | exact ⟨_, _, _, rfl, by omega, ⟨_, OwnT.of hO7⟩, hd7⟩
     · have hs0b : (sw == 0) = false := by simpa using hs0
       by_cases hs1 : sw = 1
       · have hs1b : (sw == 1) = true := by simp [hs1]
         have hcp := HO.out.cap
         by_cases hc1 : c1 = 1
         · subst hc1
           have sl := fun w => slice_from1 (g := gA) (m := 1) (c := 1) w (by omega) hcp
           rw [if_pos rfl] at sl
           go_wp2
           go_ret
           first | exact ⟨_, _, _, [], rfl, by omega, OwnT.none_ _ _ _ _, HD.out⟩ | exact ⟨_, _, _, rfl, by omega, ⟨[], OwnT.none_ _ _ _ _⟩, HD.out⟩
         · have sl := fun w => slice_from1 (g := gA) (m := 1) (c := c1) w (by omega) hcp
           rw [if_neg hc1] at sl
           clear hcp
           go_wp2
           go_ret
           first | exact ⟨_, _, _, _, rfl, by omega, OwnT.tail1 (m := 1 - 1) HO.out hc1, HD.out⟩ | exact ⟨_, _, _, rfl, by omega, ⟨_, OwnT.tail1 (m := 1 - 1) HO.out hc1⟩, HD.out⟩
       · have hs1b : (sw == 1) = false := by simpa using hs1
         go_wp2
         go_ret
         first | exact ⟨_, _, _, _, rfl, by omega, OwnT.of HO.out, HD.out⟩ | exact ⟨_, _, _, rfl, by omega, ⟨_, OwnT.of HO.out⟩, HD.out⟩
set_option maxHeartbeats 3200000 in
set_option maxRecDepth 8000 in
theorem l11DrawElement_1 (g : Nat) (P : Int) (A : Option Addr) (c : Nat) (w : World) (hs : Src w g 124) (hP0 : 0 ≤ P) (hP17 : P ≤ 17) :
    Calls Tryz.prog 46 #[.pointer (some ⟨g, 0, none⟩), .agg #[.int .i64 P, .slice A 1 c]] w fun e w' => ∃ (A' : Option Addr) (m c' : Nat) (xs : List Int), e = .returned (.slice A' m c') ∧ m ≤ 16 ∧ OwnT w' w.heap.size A' m c' xs ∧ Dr g 124 w w' := by
 have hd1 := ((Dr.refl hs).alloc (.cells #[.int .i64 P, .slice A 1 c] 26)).alloc (.cells #[] 2)
 have k1 : Blk ((w.alloc (.cells #[.int .i64 P, .slice A 1 c] 26)).alloc (.cells #[] 2)) w.heap.size 26 #[.int .i64 P, .slice A 1 c] := (Blk.new _ _ _).alloc _
 have hO1 : Own ((w.alloc (.cells #[.int .i64 P, .slice A 1 c] 26)).alloc (.cells #[] 2)) w.heap.size 2 (some ⟨w.heap.size + 1, 0, none⟩) 0 0 (ints []) := by
  have := (Mk.lit (E := 2) ((Below.refl w.heap.size w).alloc (Nat.le_refl _) (.cells #[.int .i64 P, .slice A 1 c] 26)) #[] (by simp)).2
  simpa [ints] using this
 have hnx := next_any g 4 _ hd1.s' (by omega)
 go_enter Tryz.func46, Tryz.ntmps46
 go_wp2_with fail
 refine hnx.mono ?_
 rintro e w2 ⟨kd, rfl, kd1, kd2, hd2⟩
 have kd3 := kd2 (by omega)
 have k2 := k1.dr hd2 (by decide)
 have HO2 := Lib.hid (hO1.dr hd2 (by decide))
 have HD2 := Lib.hid (hd1.trans hd2)
 clear hnx hd1 k1 hO1 hd2 kd2
 by_cases hP1 : P ≤ 1
 all_goals
  go_wp2
  go_loopw [5, 7] (fun out i wr => ∃ (j : Nat) (A1 : Option Addr) (c1 : Nat) (xs : List Int), j ≤ 2 ∧ i = .int .i64 j ∧ out = .slice A1 j c1 ∧ Hid (Own wr w.heap.size 2 A1 j c1 (ints xs)) ∧ Blk wr w.heap.size 26 #[.int .i64 P, .slice A 1 c] ∧ Hid (Dr g 124 w wr)) (fun _ i _ => 2 - (intOf i).toNat)
  case atStart => exact ⟨0, _, _, [], by omega, rfl, rfl, HO2, k2, HD2⟩
  case round =>
   obtain ⟨j, A1, c1, xs, hj, rfl, rfl, HO, kr, HD⟩ := hrel
   clear k2 HO2 HD2
   obtain ⟨q0, q1⟩ := kr.two
   by_cases hlt : j < 2
   · have hjl : decide ((j : Int) < 2) = true := by rw [decide_eq_true_eq]; omega
     go_wp2_with fail
     refine (next_any g _ _ HD.out.s' (by omega)).mono ?_
     rintro e w3 ⟨r3, rfl, _, _, d3⟩
     replace HO := Lib.hid (HO.out.dr d3 (by decide))
     replace HD := Lib.hid (HD.out.trans d3)
     have k3 := kr.dr d3 (by decide)
     clear q0 q1 kr d3
     by_cases hk0 : kd = 0
     · subst hk0
       go_wp2_with fail
       refine (next_any g 3 _ HD.out.s' (by omega)).mono ?_
       rintro e wA ⟨r4, rfl, _, _, d4⟩
       replace HO := Lib.hid (HO.out.dr d4 (by decide))
       replace HD := Lib.hid (HD.out.trans d4)
       have kA := k3.dr d4 (by decide)
       clear k3 d4
       by_cases hr4 : 0 < r4
       · have hr4b : decide (0 < r4) = true := by simpa using hr4
         go_wp2_with (at_builtin; refine wpList_app1 (cutW wA w.heap.size) wA 24 2 _ _ Tryz.underlying24 info_i rfl (by omega) rfl _ _ rfl A1 j c1 _ _ (HO.out.mk_ HD.out.size) (by omega) rfl rfl rfl ?_; intro A8 c8 w8 hM8 hg8 _)
         have k8 := kA.grown hg8 (HO.out.ne_blk kA (by decide))
         have hO3 := hM8.own_ (cutW_size HD.out.size)
         have hd3 := HD.out.grown HO.out hg8
         clear hM8 hg8 kA
         go_roundw
         case rel => exact ⟨j + 1, A8, c8, xs ++ [0], by omega, by go_num, rfl, Lib.hid (by simpa [ints] using hO3), k8, Lib.hid hd3⟩
         case measure => simp [intOf]; omega
       · have hr4b : decide (0 < r4) = false := by simpa using hr4
         go_wp2_with (at_builtin; refine wpList_app1 (cutW wA w.heap.size) wA 24 2 _ _ Tryz.underlying24 info_i rfl (by omega) rfl _ _ rfl A1 j c1 _ _ (HO.out.mk_ HD.out.size) (by omega) rfl rfl rfl ?_; intro A8 c8 w8 hM8 hg8 _)
         have k8 := kA.grown hg8 (HO.out.ne_blk kA (by decide))
         have hO3 := hM8.own_ (cutW_size HD.out.size)
         have hd3 := HD.out.grown HO.out hg8
         clear hM8 hg8 kA
         go_roundw
         case rel => exact ⟨j + 1, A8, c8, xs ++ [r3], by omega, by go_num, rfl, Lib.hid (by simpa [ints] using hO3), k8, Lib.hid hd3⟩
         case measure => simp [intOf]; omega
     · have hk0b : (kd == 0) = false := by simpa using hk0
       obtain ⟨wA, hwA⟩ : ∃ W, W = w3 := ⟨_, rfl⟩
       rw [← hwA] at HO HD k3 ⊢
       have kA := k3
       clear k3 hwA
       go_wp2_with (at_builtin; refine wpList_app1 (cutW wA w.heap.size) wA 24 2 _ _ Tryz.underlying24 info_i rfl (by omega) rfl _ _ rfl A1 j c1 _ _ (HO.out.mk_ HD.out.size) (by omega) rfl rfl rfl ?_; intro A8 c8 w8 hM8 hg8 _)
       have k8 := kA.grown hg8 (HO.out.ne_blk kA (by decide))
       have hO3 := hM8.own_ (cutW_size HD.out.size)
       have hd3 := HD.out.grown HO.out hg8
       clear hM8 hg8 kA
       go_roundw
       case rel => exact ⟨j + 1, A8, c8, xs ++ [r3], by omega, by go_num, rfl, Lib.hid (by simpa [ints] using hO3), k8, Lib.hid hd3⟩
       case measure => simp [intOf]; omega
   · obtain rfl : j = 2 := by omega
     have hjl : decide (((2 : Nat) : Int) < 2) = false := by simp
     go_wp2_with fail
     refine (next_any g 60 _ HD.out.s' (by omega)).mono ?_
     rintro e w3 ⟨sw, rfl, _, _, d3⟩
     replace HO := Lib.hid (HO.out.dr d3 (by decide))
     replace HD := Lib.hid (HD.out.trans d3)
     have k3 := kr.dr d3 (by decide)
     clear q0 q1 kr d3
     rcases HO.out.form with ⟨_, hz⟩ | ⟨gA, rfl, hg1, hg2⟩
     · omega
     by_cases hs0 : sw = 0
     · have hs0b : (sw == 0) = true := by simp [hs0]
       obtain ⟨q0, q1⟩ := k3.two
       have hd6 := (Dr.refl HD.out.s').alloc (.cells #[.int .i64 (-1), .int .i64 P] 2)
       have hpk := pick_any g w3.heap.size [-1, P] _ hd6.s' (by rw [ints2]; exact Blk.new w3 2 _) (by simp) (by simp)
       go_wp2_with fail
       refine hpk.mono ?_
       rintro e w4 ⟨r4, _, rfl, d4⟩
       replace HO := Lib.hid (HO.out.dr (hd6.trans d4) (by decide))
       replace HD := Lib.hid (HD.out.trans (hd6.trans d4))
       obtain ⟨u0, hc0⟩ := HO.out.cellI (show 0 < 2 by omega)
       have ff := HO.out.frozen_ 0
       obtain ⟨hO7, hg7⟩ := HO.out.set_ 0 (.int .i64 r4)
       rw [ints_set] at hO7
       have hd7 := HD.out.grown HO.out hg7
       clear hpk hd6 d4 k3 q0 q1 hg7
       go_wp2
       go_ret
       first | exact ⟨_, _, _, _, rfl, by omega, OwnT.of hO7, hd7⟩ | exact ⟨_, _, _, rfl, by omega, ⟨_, OwnT.of hO7⟩, hd7⟩
     · have hs0b : (sw == 0) = false := by simpa using hs0
       by_cases hs1 : sw = 1
       · have hs1b : (sw == 1) = true := by simp [hs1]
         have hcp := HO.out.cap
         by_cases hc1 : c1 = 1
         · subst hc1
           have sl := fun w => slice_from1 (g := gA) (m := 2) (c := 1) w (by omega) hcp
           rw [if_pos rfl] at sl
           omega
         · have sl := fun w => slice_from1 (g := gA) (m := 2) (c := c1) w (by omega) hcp
           rw [if_neg hc1] at sl
           clear hcp
           go_wp2
           go_ret
           first | exact ⟨_, _, _, _, rfl, by omega, OwnT.tail1 (m := 2 - 1) HO.out hc1, HD.out⟩ | exact ⟨_, _, _, rfl, by omega, ⟨_, OwnT.tail1 (m := 2 - 1) HO.out hc1⟩, HD.out⟩
       · have hs1b : (sw == 1) = false := by simpa using hs1
         go_wp2
         go_ret
         first | exact ⟨_, _, _, _, rfl, by omega, OwnT.of HO.out, HD.out⟩ | exact ⟨_, _, _, rfl, by omega, ⟨_, OwnT.of HO.out⟩, HD.out⟩
set_option maxHeartbeats 3200000 in
set_option maxRecDepth 8000 in
theorem l11DrawElement_2 (g : Nat) (P : Int) (A : Option Addr) (c : Nat) (w : World) (hs : Src w g 124) (hP0 : 0 ≤ P) (hP17 : P ≤ 17) :
    Calls Tryz.prog 46 #[.pointer (some ⟨g, 0, none⟩), .agg #[.int .i64 P, .slice A 2 c]] w fun e w' => ∃ (A' : Option Addr) (m c' : Nat) (xs : List Int), e = .returned (.slice A' m c') ∧ m ≤ 16 ∧ OwnT w' w.heap.size A' m c' xs ∧ Dr g 124 w w' := by
 have hd1 := ((Dr.refl hs).alloc (.cells #[.int .i64 P, .slice A 2 c] 26)).alloc (.cells #[] 2)
 have k1 : Blk ((w.alloc (.cells #[.int .i64 P, .slice A 2 c] 26)).alloc (.cells #[] 2)) w.heap.size 26 #[.int .i64 P, .slice A 2 c] := (Blk.new _ _ _).alloc _
 have hO1 : Own ((w.alloc (.cells #[.int .i64 P, .slice A 2 c] 26)).alloc (.cells #[] 2)) w.heap.size 2 (some ⟨w.heap.size + 1, 0, none⟩) 0 0 (ints []) := by
  have := (Mk.lit (E := 2) ((Below.refl w.heap.size w).alloc (Nat.le_refl _) (.cells #[.int .i64 P, .slice A 2 c] 26)) #[] (by simp)).2
  simpa [ints] using this
 have hnx := next_any g 4 _ hd1.s' (by omega)
 go_enter Tryz.func46, Tryz.ntmps46
 go_wp2_with fail
 refine hnx.mono ?_
 rintro e w2 ⟨kd, rfl, kd1, kd2, hd2⟩
 have kd3 := kd2 (by omega)
 have k2 := k1.dr hd2 (by decide)
 have HO2 := Lib.hid (hO1.dr hd2 (by decide))
 have HD2 := Lib.hid (hd1.trans hd2)
 clear hnx hd1 k1 hO1 hd2 kd2
 by_cases hP1 : P ≤ 1
 all_goals
  go_wp2
  go_loopw [5, 7] (fun out i wr => ∃ (j : Nat) (A1 : Option Addr) (c1 : Nat) (xs : List Int), j ≤ 4 ∧ i = .int .i64 j ∧ out = .slice A1 j c1 ∧ Hid (Own wr w.heap.size 2 A1 j c1 (ints xs)) ∧ Blk wr w.heap.size 26 #[.int .i64 P, .slice A 2 c] ∧ Hid (Dr g 124 w wr)) (fun _ i _ => 4 - (intOf i).toNat)
  case atStart => exact ⟨0, _, _, [], by omega, rfl, rfl, HO2, k2, HD2⟩
  case round =>
   obtain ⟨j, A1, c1, xs, hj, rfl, rfl, HO, kr, HD⟩ := hrel
   clear k2 HO2 HD2
   obtain ⟨q0, q1⟩ := kr.two
   by_cases hlt : j < 4
   · have hjl : decide ((j : Int) < 4) = true := by rw [decide_eq_true_eq]; omega
     go_wp2_with fail
     refine (next_any g _ _ HD.out.s' (by omega)).mono ?_
     rintro e w3 ⟨r3, rfl, _, _, d3⟩
     replace HO := Lib.hid (HO.out.dr d3 (by decide))
     replace HD := Lib.hid (HD.out.trans d3)
     have k3 := kr.dr d3 (by decide)
     clear q0 q1 kr d3
     by_cases hk0 : kd = 0
     · subst hk0
       go_wp2_with fail
       refine (next_any g 3 _ HD.out.s' (by omega)).mono ?_
       rintro e wA ⟨r4, rfl, _, _, d4⟩
       replace HO := Lib.hid (HO.out.dr d4 (by decide))
       replace HD := Lib.hid (HD.out.trans d4)
       have kA := k3.dr d4 (by decide)
       clear k3 d4
       by_cases hr4 : 0 < r4
       · have hr4b : decide (0 < r4) = true := by simpa using hr4
         go_wp2_with (at_builtin; refine wpList_app1 (cutW wA w.heap.size) wA 24 2 _ _ Tryz.underlying24 info_i rfl (by omega) rfl _ _ rfl A1 j c1 _ _ (HO.out.mk_ HD.out.size) (by omega) rfl rfl rfl ?_; intro A8 c8 w8 hM8 hg8 _)
         have k8 := kA.grown hg8 (HO.out.ne_blk kA (by decide))
         have hO3 := hM8.own_ (cutW_size HD.out.size)
         have hd3 := HD.out.grown HO.out hg8
         clear hM8 hg8 kA
         go_roundw
         case rel => exact ⟨j + 1, A8, c8, xs ++ [0], by omega, by go_num, rfl, Lib.hid (by simpa [ints] using hO3), k8, Lib.hid hd3⟩
         case measure => simp [intOf]; omega
       · have hr4b : decide (0 < r4) = false := by simpa using hr4
         go_wp2_with (at_builtin; refine wpList_app1 (cutW wA w.heap.size) wA 24 2 _ _ Tryz.underlying24 info_i rfl (by omega) rfl _ _ rfl A1 j c1 _ _ (HO.out.mk_ HD.out.size) (by omega) rfl rfl rfl ?_; intro A8 c8 w8 hM8 hg8 _)
         have k8 := kA.grown hg8 (HO.out.ne_blk kA (by decide))
         have hO3 := hM8.own_ (cutW_size HD.out.size)
         have hd3 := HD.out.grown HO.out hg8
         clear hM8 hg8 kA
         go_roundw
         case rel => exact ⟨j + 1, A8, c8, xs ++ [r3], by omega, by go_num, rfl, Lib.hid (by simpa [ints] using hO3), k8, Lib.hid hd3⟩
         case measure => simp [intOf]; omega
     · have hk0b : (kd == 0) = false := by simpa using hk0
       obtain ⟨wA, hwA⟩ : ∃ W, W = w3 := ⟨_, rfl⟩
       rw [← hwA] at HO HD k3 ⊢
       have kA := k3
       clear k3 hwA
       go_wp2_with (at_builtin; refine wpList_app1 (cutW wA w.heap.size) wA 24 2 _ _ Tryz.underlying24 info_i rfl (by omega) rfl _ _ rfl A1 j c1 _ _ (HO.out.mk_ HD.out.size) (by omega) rfl rfl rfl ?_; intro A8 c8 w8 hM8 hg8 _)
       have k8 := kA.grown hg8 (HO.out.ne_blk kA (by decide))
       have hO3 := hM8.own_ (cutW_size HD.out.size)
       have hd3 := HD.out.grown HO.out hg8
       clear hM8 hg8 kA
       go_roundw
       case rel => exact ⟨j + 1, A8, c8, xs ++ [r3], by omega, by go_num, rfl, Lib.hid (by simpa [ints] using hO3), k8, Lib.hid hd3⟩
       case measure => simp [intOf]; omega
   · obtain rfl : j = 4 := by omega
     have hjl : decide (((4 : Nat) : Int) < 4) = false := by simp
     go_wp2_with fail
     refine (next_any g 60 _ HD.out.s' (by omega)).mono ?_
     rintro e w3 ⟨sw, rfl, _, _, d3⟩
     replace HO := Lib.hid (HO.out.dr d3 (by decide))
     replace HD := Lib.hid (HD.out.trans d3)
     have k3 := kr.dr d3 (by decide)
     clear q0 q1 kr d3
     rcases HO.out.form with ⟨_, hz⟩ | ⟨gA, rfl, hg1, hg2⟩
     · omega
     by_cases hs0 : sw = 0
     · have hs0b : (sw == 0) = true := by simp [hs0]
       obtain ⟨q0, q1⟩ := k3.two
       have hd6 := (Dr.refl HD.out.s').alloc (.cells #[.int .i64 (-1), .int .i64 P] 2)
       have hpk := pick_any g w3.heap.size [-1, P] _ hd6.s' (by rw [ints2]; exact Blk.new w3 2 _) (by simp) (by simp)
       go_wp2_with fail
       refine hpk.mono ?_
       rintro e w4 ⟨r4, _, rfl, d4⟩
       replace HO := Lib.hid (HO.out.dr (hd6.trans d4) (by decide))
       replace HD := Lib.hid (HD.out.trans (hd6.trans d4))
       obtain ⟨u0, hc0⟩ := HO.out.cellI (show 0 < 4 by omega)
       have ff := HO.out.frozen_ 0
       obtain ⟨hO7, hg7⟩ := HO.out.set_ 0 (.int .i64 r4)
       rw [ints_set] at hO7
       have hd7 := HD.out.grown HO.out hg7
       clear hpk hd6 d4 k3 q0 q1 hg7
       go_wp2
       go_ret
       first | exact ⟨_, _, _, _, rfl, by omega, OwnT.of hO7, hd7⟩ | exact ⟨_, _, _, rfl, by omega, ⟨_, OwnT.of hO7⟩, hd7⟩
     · have hs0b : (sw == 0) = false := by simpa using hs0
       by_cases hs1 : sw = 1
       · have hs1b : (sw == 1) = true := by simp [hs1]
         have hcp := HO.out.cap
         by_cases hc1 : c1 = 1
         · subst hc1
           have sl := fun w => slice_from1 (g := gA) (m := 4) (c := 1) w (by omega) hcp
           rw [if_pos rfl] at sl
           omega
         · have sl := fun w => slice_from1 (g := gA) (m := 4) (c := c1) w (by omega) hcp
           rw [if_neg hc1] at sl
           clear hcp
           go_wp2
           go_ret
           first | exact ⟨_, _, _, _, rfl, by omega, OwnT.tail1 (m := 4 - 1) HO.out hc1, HD.out⟩ | exact ⟨_, _, _, rfl, by omega, ⟨_, OwnT.tail1 (m := 4 - 1) HO.out hc1⟩, HD.out⟩
       · have hs1b : (sw == 1) = false := by simpa using hs1
         go_wp2
         go_ret
         first | exact ⟨_, _, _, _, rfl, by omega, OwnT.of HO.out, HD.out⟩ | exact ⟨_, _, _, rfl, by omega, ⟨_, OwnT.of HO.out⟩, HD.out⟩
set_option maxHeartbeats 3200000 in
set_option maxRecDepth 8000 in
theorem l11DrawElement_3 (g : Nat) (P : Int) (A : Option Addr) (c : Nat) (w : World) (hs : Src w g 124) (hP0 : 0 ≤ P) (hP17 : P ≤ 17) :
    Calls Tryz.prog 46 #[.pointer (some ⟨g, 0, none⟩), .agg #[.int .i64 P, .slice A 3 c]] w fun e w' => ∃ (A' : Option Addr) (m c' : Nat) (xs : List Int), e = .returned (.slice A' m c') ∧ m ≤ 16 ∧ OwnT w' w.heap.size A' m c' xs ∧ Dr g 124 w w' := by
 have hd1 := ((Dr.refl hs).alloc (.cells #[.int .i64 P, .slice A 3 c] 26)).alloc (.cells #[] 2)
 have k1 : Blk ((w.alloc (.cells #[.int .i64 P, .slice A 3 c] 26)).alloc (.cells #[] 2)) w.heap.size 26 #[.int .i64 P, .slice A 3 c] := (Blk.new _ _ _).alloc _
 have hO1 : Own ((w.alloc (.cells #[.int .i64 P, .slice A 3 c] 26)).alloc (.cells #[] 2)) w.heap.size 2 (some ⟨w.heap.size + 1, 0, none⟩) 0 0 (ints []) := by
  have := (Mk.lit (E := 2) ((Below.refl w.heap.size w).alloc (Nat.le_refl _) (.cells #[.int .i64 P, .slice A 3 c] 26)) #[] (by simp)).2
  simpa [ints] using this
 have hnx := next_any g 4 _ hd1.s' (by omega)
 go_enter Tryz.func46, Tryz.ntmps46
 go_wp2_with fail
 refine hnx.mono ?_
 rintro e w2 ⟨kd, rfl, kd1, kd2, hd2⟩
 have kd3 := kd2 (by omega)
 have k2 := k1.dr hd2 (by decide)
 have HO2 := Lib.hid (hO1.dr hd2 (by decide))
 have HD2 := Lib.hid (hd1.trans hd2)
 clear hnx hd1 k1 hO1 hd2 kd2
 by_cases hP1 : P ≤ 1
 all_goals
  go_wp2
  go_loopw [5, 7] (fun out i wr => ∃ (j : Nat) (A1 : Option Addr) (c1 : Nat) (xs : List Int), j ≤ 8 ∧ i = .int .i64 j ∧ out = .slice A1 j c1 ∧ Hid (Own wr w.heap.size 2 A1 j c1 (ints xs)) ∧ Blk wr w.heap.size 26 #[.int .i64 P, .slice A 3 c] ∧ Hid (Dr g 124 w wr)) (fun _ i _ => 8 - (intOf i).toNat)
  case atStart => exact ⟨0, _, _, [], by omega, rfl, rfl, HO2, k2, HD2⟩
  case round =>
   obtain ⟨j, A1, c1, xs, hj, rfl, rfl, HO, kr, HD⟩ := hrel
   clear k2 HO2 HD2
   obtain ⟨q0, q1⟩ := kr.two
   by_cases hlt : j < 8
   · have hjl : decide ((j : Int) < 8) = true := by rw [decide_eq_true_eq]; omega
     go_wp2_with fail
     refine (next_any g _ _ HD.out.s' (by omega)).mono ?_
     rintro e w3 ⟨r3, rfl, _, _, d3⟩
     replace HO := Lib.hid (HO.out.dr d3 (by decide))
     replace HD := Lib.hid (HD.out.trans d3)
     have k3 := kr.dr d3 (by decide)
     clear q0 q1 kr d3
     by_cases hk0 : kd = 0
     · subst hk0
       go_wp2_with fail
       refine (next_any g 3 _ HD.out.s' (by omega)).mono ?_
       rintro e wA ⟨r4, rfl, _, _, d4⟩
       replace HO := Lib.hid (HO.out.dr d4 (by decide))
       replace HD := Lib.hid (HD.out.trans d4)
       have kA := k3.dr d4 (by decide)
       clear k3 d4
       by_cases hr4 : 0 < r4
       · have hr4b : decide (0 < r4) = true := by simpa using hr4
         go_wp2_with (at_builtin; refine wpList_app1 (cutW wA w.heap.size) wA 24 2 _ _ Tryz.underlying24 info_i rfl (by omega) rfl _ _ rfl A1 j c1 _ _ (HO.out.mk_ HD.out.size) (by omega) rfl rfl rfl ?_; intro A8 c8 w8 hM8 hg8 _)
         have k8 := kA.grown hg8 (HO.out.ne_blk kA (by decide))
         have hO3 := hM8.own_ (cutW_size HD.out.size)
         have hd3 := HD.out.grown HO.out hg8
         clear hM8 hg8 kA
         go_roundw
         case rel => exact ⟨j + 1, A8, c8, xs ++ [0], by omega, by go_num, rfl, Lib.hid (by simpa [ints] using hO3), k8, Lib.hid hd3⟩
         case measure => simp [intOf]; omega
       · have hr4b : decide (0 < r4) = false := by simpa using hr4
         go_wp2_with (at_builtin; refine wpList_app1 (cutW wA w.heap.size) wA 24 2 _ _ Tryz.underlying24 info_i rfl (by omega) rfl _ _ rfl A1 j c1 _ _ (HO.out.mk_ HD.out.size) (by omega) rfl rfl rfl ?_; intro A8 c8 w8 hM8 hg8 _)
         have k8 := kA.grown hg8 (HO.out.ne_blk kA (by decide))
         have hO3 := hM8.own_ (cutW_size HD.out.size)
         have hd3 := HD.out.grown HO.out hg8
         clear hM8 hg8 kA
         go_roundw
         case rel => exact ⟨j + 1, A8, c8, xs ++ [r3], by omega, by go_num, rfl, Lib.hid (by simpa [ints] using hO3), k8, Lib.hid hd3⟩
         case measure => simp [intOf]; omega
     · have hk0b : (kd == 0) = false := by simpa using hk0
       obtain ⟨wA, hwA⟩ : ∃ W, W = w3 := ⟨_, rfl⟩
       rw [← hwA] at HO HD k3 ⊢
       have kA := k3
       clear k3 hwA
       go_wp2_with (at_builtin; refine wpList_app1 (cutW wA w.heap.size) wA 24 2 _ _ Tryz.underlying24 info_i rfl (by omega) rfl _ _ rfl A1 j c1 _ _ (HO.out.mk_ HD.out.size) (by omega) rfl rfl rfl ?_; intro A8 c8 w8 hM8 hg8 _)
       have k8 := kA.grown hg8 (HO.out.ne_blk kA (by decide))
       have hO3 := hM8.own_ (cutW_size HD.out.size)
       have hd3 := HD.out.grown HO.out hg8
       clear hM8 hg8 kA
       go_roundw
       case rel => exact ⟨j + 1, A8, c8, xs ++ [r3], by omega, by go_num, rfl, Lib.hid (by simpa [ints] using hO3), k8, Lib.hid hd3⟩
       case measure => simp [intOf]; omega
   · obtain rfl : j = 8 := by omega
     have hjl : decide (((8 : Nat) : Int) < 8) = false := by simp
     go_wp2_with fail
     refine (next_any g 60 _ HD.out.s' (by omega)).mono ?_
     rintro e w3 ⟨sw, rfl, _, _, d3⟩
     replace HO := Lib.hid (HO.out.dr d3 (by decide))
     replace HD := Lib.hid (HD.out.trans d3)
     have k3 := kr.dr d3 (by decide)
     clear q0 q1 kr d3
     rcases HO.out.form with ⟨_, hz⟩ | ⟨gA, rfl, hg1, hg2⟩
     · omega
     by_cases hs0 : sw = 0
     · have hs0b : (sw == 0) = true := by simp [hs0]
       obtain ⟨q0, q1⟩ := k3.two
       have hd6 := (Dr.refl HD.out.s').alloc (.cells #[.int .i64 (-1), .int .i64 P] 2)
       have hpk := pick_any g w3.heap.size [-1, P] _ hd6.s' (by rw [ints2]; exact Blk.new w3 2 _) (by simp) (by simp)
       go_wp2_with fail
       refine hpk.mono ?_
       rintro e w4 ⟨r4, _, rfl, d4⟩
       replace HO := Lib.hid (HO.out.dr (hd6.trans d4) (by decide))
       replace HD := Lib.hid (HD.out.trans (hd6.trans d4))
       obtain ⟨u0, hc0⟩ := HO.out.cellI (show 0 < 8 by omega)
       have ff := HO.out.frozen_ 0
       obtain ⟨hO7, hg7⟩ := HO.out.set_ 0 (.int .i64 r4)
       rw [ints_set] at hO7
       have hd7 := HD.out.grown HO.out hg7
       clear hpk hd6 d4 k3 q0 q1 hg7
       go_wp2
       go_ret
       first | exact ⟨_, _, _, _, rfl, by omega, OwnT.of hO7, hd7⟩ | exact ⟨_, _, _, rfl, by omega, ⟨_, OwnT.of hO7⟩, hd7⟩
     · have hs0b : (sw == 0) = false := by simpa using hs0
       by_cases hs1 : sw = 1
       · have hs1b : (sw == 1) = true := by simp [hs1]
         have hcp := HO.out.cap
         by_cases hc1 : c1 = 1
         · subst hc1
           have sl := fun w => slice_from1 (g := gA) (m := 8) (c := 1) w (by omega) hcp
           rw [if_pos rfl] at sl
           omega
         · have sl := fun w => slice_from1 (g := gA) (m := 8) (c := c1) w (by omega) hcp
           rw [if_neg hc1] at sl
           clear hcp
           go_wp2
           go_ret
           first | exact ⟨_, _, _, _, rfl, by omega, OwnT.tail1 (m := 8 - 1) HO.out hc1, HD.out⟩ | exact ⟨_, _, _, rfl, by omega, ⟨_, OwnT.tail1 (m := 8 - 1) HO.out hc1⟩, HD.out⟩
       · have hs1b : (sw == 1) = false := by simpa using hs1
         go_wp2
         go_ret
         first | exact ⟨_, _, _, _, rfl, by omega, OwnT.of HO.out, HD.out⟩ | exact ⟨_, _, _, rfl, by omega, ⟨_, OwnT.of HO.out⟩, HD.out⟩
set_option maxHeartbeats 3200000 in
set_option maxRecDepth 8000 in
theorem l11DrawElement_4 (g : Nat) (P : Int) (A : Option Addr) (c : Nat) (w : World) (hs : Src w g 124) (hP0 : 0 ≤ P) (hP17 : P ≤ 17) :
    Calls Tryz.prog 46 #[.pointer (some ⟨g, 0, none⟩), .agg #[.int .i64 P, .slice A 4 c]] w fun e w' => ∃ (A' : Option Addr) (m c' : Nat) (xs : List Int), e = .returned (.slice A' m c') ∧ m ≤ 16 ∧ OwnT w' w.heap.size A' m c' xs ∧ Dr g 124 w w' := by
 have hd1 := ((Dr.refl hs).alloc (.cells #[.int .i64 P, .slice A 4 c] 26)).alloc (.cells #[] 2)
 have k1 : Blk ((w.alloc (.cells #[.int .i64 P, .slice A 4 c] 26)).alloc (.cells #[] 2)) w.heap.size 26 #[.int .i64 P, .slice A 4 c] := (Blk.new _ _ _).alloc _
 have hO1 : Own ((w.alloc (.cells #[.int .i64 P, .slice A 4 c] 26)).alloc (.cells #[] 2)) w.heap.size 2 (some ⟨w.heap.size + 1, 0, none⟩) 0 0 (ints []) := by
  have := (Mk.lit (E := 2) ((Below.refl w.heap.size w).alloc (Nat.le_refl _) (.cells #[.int .i64 P, .slice A 4 c] 26)) #[] (by simp)).2
  simpa [ints] using this
 have hnx := next_any g 4 _ hd1.s' (by omega)
 go_enter Tryz.func46, Tryz.ntmps46
 go_wp2_with fail
 refine hnx.mono ?_
 rintro e w2 ⟨kd, rfl, kd1, kd2, hd2⟩
 have kd3 := kd2 (by omega)
 have k2 := k1.dr hd2 (by decide)
 have HO2 := Lib.hid (hO1.dr hd2 (by decide))
 have HD2 := Lib.hid (hd1.trans hd2)
 clear hnx hd1 k1 hO1 hd2 kd2
 by_cases hP1 : P ≤ 1
 all_goals
  go_wp2
  go_loopw [5, 7] (fun out i wr => ∃ (j : Nat) (A1 : Option Addr) (c1 : Nat) (xs : List Int), j ≤ 16 ∧ i = .int .i64 j ∧ out = .slice A1 j c1 ∧ Hid (Own wr w.heap.size 2 A1 j c1 (ints xs)) ∧ Blk wr w.heap.size 26 #[.int .i64 P, .slice A 4 c] ∧ Hid (Dr g 124 w wr)) (fun _ i _ => 16 - (intOf i).toNat)
  case atStart => exact ⟨0, _, _, [], by omega, rfl, rfl, HO2, k2, HD2⟩
  case round =>
   obtain ⟨j, A1, c1, xs, hj, rfl, rfl, HO, kr, HD⟩ := hrel
   clear k2 HO2 HD2
   obtain ⟨q0, q1⟩ := kr.two
   by_cases hlt : j < 16
   · have hjl : decide ((j : Int) < 16) = true := by rw [decide_eq_true_eq]; omega
     go_wp2_with fail
     refine (next_any g _ _ HD.out.s' (by omega)).mono ?_
     rintro e w3 ⟨r3, rfl, _, _, d3⟩
     replace HO := Lib.hid (HO.out.dr d3 (by decide))
     replace HD := Lib.hid (HD.out.trans d3)
     have k3 := kr.dr d3 (by decide)
     clear q0 q1 kr d3
     by_cases hk0 : kd = 0
     · subst hk0
       go_wp2_with fail
       refine (next_any g 3 _ HD.out.s' (by omega)).mono ?_
       rintro e wA ⟨r4, rfl, _, _, d4⟩
       replace HO := Lib.hid (HO.out.dr d4 (by decide))
       replace HD := Lib.hid (HD.out.trans d4)
       have kA := k3.dr d4 (by decide)
       clear k3 d4
       by_cases hr4 : 0 < r4
       · have hr4b : decide (0 < r4) = true := by simpa using hr4
         go_wp2_with (at_builtin; refine wpList_app1 (cutW wA w.heap.size) wA 24 2 _ _ Tryz.underlying24 info_i rfl (by omega) rfl _ _ rfl A1 j c1 _ _ (HO.out.mk_ HD.out.size) (by omega) rfl rfl rfl ?_; intro A8 c8 w8 hM8 hg8 _)
         have k8 := kA.grown hg8 (HO.out.ne_blk kA (by decide))
         have hO3 := hM8.own_ (cutW_size HD.out.size)
         have hd3 := HD.out.grown HO.out hg8
         clear hM8 hg8 kA
         go_roundw
         case rel => exact ⟨j + 1, A8, c8, xs ++ [0], by omega, by go_num, rfl, Lib.hid (by simpa [ints] using hO3), k8, Lib.hid hd3⟩
         case measure => simp [intOf]; omega
       · have hr4b : decide (0 < r4) = false := by simpa using hr4
         go_wp2_with (at_builtin; refine wpList_app1 (cutW wA w.heap.size) wA 24 2 _ _ Tryz.underlying24 info_i rfl (by omega) rfl _ _ rfl A1 j c1 _ _ (HO.out.mk_ HD.out.size) (by omega) rfl rfl rfl ?_; intro A8 c8 w8 hM8 hg8 _)
         have k8 := kA.grown hg8 (HO.out.ne_blk kA (by decide))
         have hO3 := hM8.own_ (cutW_size HD.out.size)
         have hd3 := HD.out.grown HO.out hg8
         clear hM8 hg8 kA
         go_roundw
         case rel => exact ⟨j + 1, A8, c8, xs ++ [r3], by omega, by go_num, rfl, Lib.hid (by simpa [ints] using hO3), k8, Lib.hid hd3⟩
         case measure => simp [intOf]; omega
     · have hk0b : (kd == 0) = false := by simpa using hk0
       obtain ⟨wA, hwA⟩ : ∃ W, W = w3 := ⟨_, rfl⟩
       rw [← hwA] at HO HD k3 ⊢
       have kA := k3
       clear k3 hwA
       go_wp2_with (at_builtin; refine wpList_app1 (cutW wA w.heap.size) wA 24 2 _ _ Tryz.underlying24 info_i rfl (by omega) rfl _ _ rfl A1 j c1 _ _ (HO.out.mk_ HD.out.size) (by omega) rfl rfl rfl ?_; intro A8 c8 w8 hM8 hg8 _)
       have k8 := kA.grown hg8 (HO.out.ne_blk kA (by decide))
       have hO3 := hM8.own_ (cutW_size HD.out.size)
       have hd3 := HD.out.grown HO.out hg8
       clear hM8 hg8 kA
       go_roundw
       case rel => exact ⟨j + 1, A8, c8, xs ++ [r3], by omega, by go_num, rfl, Lib.hid (by simpa [ints] using hO3), k8, Lib.hid hd3⟩
       case measure => simp [intOf]; omega
   · obtain rfl : j = 16 := by omega
     have hjl : decide (((16 : Nat) : Int) < 16) = false := by simp
     go_wp2_with fail
     refine (next_any g 60 _ HD.out.s' (by omega)).mono ?_
     rintro e w3 ⟨sw, rfl, _, _, d3⟩
     replace HO := Lib.hid (HO.out.dr d3 (by decide))
     replace HD := Lib.hid (HD.out.trans d3)
     have k3 := kr.dr d3 (by decide)
     clear q0 q1 kr d3
     rcases HO.out.form with ⟨_, hz⟩ | ⟨gA, rfl, hg1, hg2⟩
     · omega
     by_cases hs0 : sw = 0
     · have hs0b : (sw == 0) = true := by simp [hs0]
       obtain ⟨q0, q1⟩ := k3.two
       have hd6 := (Dr.refl HD.out.s').alloc (.cells #[.int .i64 (-1), .int .i64 P] 2)
       have hpk := pick_any g w3.heap.size [-1, P] _ hd6.s' (by rw [ints2]; exact Blk.new w3 2 _) (by simp) (by simp)
       go_wp2_with fail
       refine hpk.mono ?_
       rintro e w4 ⟨r4, _, rfl, d4⟩
       replace HO := Lib.hid (HO.out.dr (hd6.trans d4) (by decide))
       replace HD := Lib.hid (HD.out.trans (hd6.trans d4))
       obtain ⟨u0, hc0⟩ := HO.out.cellI (show 0 < 16 by omega)
       have ff := HO.out.frozen_ 0
       obtain ⟨hO7, hg7⟩ := HO.out.set_ 0 (.int .i64 r4)
       rw [ints_set] at hO7
       have hd7 := HD.out.grown HO.out hg7
       clear hpk hd6 d4 k3 q0 q1 hg7
       go_wp2
       go_ret
       first | exact ⟨_, _, _, _, rfl, by omega, OwnT.of hO7, hd7⟩ | exact ⟨_, _, _, rfl, by omega, ⟨_, OwnT.of hO7⟩, hd7⟩
     · have hs0b : (sw == 0) = false := by simpa using hs0
       by_cases hs1 : sw = 1
       · have hs1b : (sw == 1) = true := by simp [hs1]
         have hcp := HO.out.cap
         by_cases hc1 : c1 = 1
         · subst hc1
           have sl := fun w => slice_from1 (g := gA) (m := 16) (c := 1) w (by omega) hcp
           rw [if_pos rfl] at sl
           omega
         · have sl := fun w => slice_from1 (g := gA) (m := 16) (c := c1) w (by omega) hcp
           rw [if_neg hc1] at sl
           clear hcp
           go_wp2
           go_ret
           first | exact ⟨_, _, _, _, rfl, by omega, OwnT.tail1 (m := 16 - 1) HO.out hc1, HD.out⟩ | exact ⟨_, _, _, rfl, by omega, ⟨_, OwnT.tail1 (m := 16 - 1) HO.out hc1⟩, HD.out⟩
       · have hs1b : (sw == 1) = false := by simpa using hs1
         go_wp2
         go_ret
         first | exact ⟨_, _, _, _, rfl, by omega, OwnT.of HO.out, HD.out⟩ | exact ⟨_, _, _, rfl, by omega, ⟨_, OwnT.of HO.out⟩, HD.out⟩
set_option maxHeartbeats 3200000 in
set_option maxRecDepth 8000 in
theorem l11DrawElement_5 (g : Nat) (P : Int) (A : Option Addr) (c : Nat) (w : World) (hs : Src w g 124) (hP0 : 0 ≤ P) (hP17 : P ≤ 17) :
    Calls Tryz.prog 46 #[.pointer (some ⟨g, 0, none⟩), .agg #[.int .i64 P, .slice A 5 c]] w fun e w' => ∃ (A' : Option Addr) (m c' : Nat) (xs : List Int), e = .returned (.slice A' m c') ∧ m ≤ 16 ∧ OwnT w' w.heap.size A' m c' xs ∧ Dr g 124 w w' := by
 have hd1 := ((Dr.refl hs).alloc (.cells #[.int .i64 P, .slice A 5 c] 26)).alloc (.cells #[] 2)
 have k1 : Blk ((w.alloc (.cells #[.int .i64 P, .slice A 5 c] 26)).alloc (.cells #[] 2)) w.heap.size 26 #[.int .i64 P, .slice A 5 c] := (Blk.new _ _ _).alloc _
 have hO1 : Own ((w.alloc (.cells #[.int .i64 P, .slice A 5 c] 26)).alloc (.cells #[] 2)) w.heap.size 2 (some ⟨w.heap.size + 1, 0, none⟩) 0 0 (ints []) := by
  have := (Mk.lit (E := 2) ((Below.refl w.heap.size w).alloc (Nat.le_refl _) (.cells #[.int .i64 P, .slice A 5 c] 26)) #[] (by simp)).2
  simpa [ints] using this
 have hnx := next_any g 4 _ hd1.s' (by omega)
 go_enter Tryz.func46, Tryz.ntmps46
 go_wp2_with fail
 refine hnx.mono ?_
 rintro e w2 ⟨kd, rfl, kd1, kd2, hd2⟩
 have kd3 := kd2 (by omega)
 have k2 := k1.dr hd2 (by decide)
 have HO2 := Lib.hid (hO1.dr hd2 (by decide))
 have HD2 := Lib.hid (hd1.trans hd2)
 clear hnx hd1 k1 hO1 hd2 kd2
 by_cases hP1 : P ≤ 1
 all_goals
  go_wp2
  go_loopw [5, 7] (fun out i wr => ∃ (j : Nat) (A1 : Option Addr) (c1 : Nat) (xs : List Int), j ≤ 16 ∧ i = .int .i64 j ∧ out = .slice A1 j c1 ∧ Hid (Own wr w.heap.size 2 A1 j c1 (ints xs)) ∧ Blk wr w.heap.size 26 #[.int .i64 P, .slice A 5 c] ∧ Hid (Dr g 124 w wr)) (fun _ i _ => 16 - (intOf i).toNat)
  case atStart => exact ⟨0, _, _, [], by omega, rfl, rfl, HO2, k2, HD2⟩
  case round =>
   obtain ⟨j, A1, c1, xs, hj, rfl, rfl, HO, kr, HD⟩ := hrel
   clear k2 HO2 HD2
   obtain ⟨q0, q1⟩ := kr.two
   by_cases hlt : j < 16
   · have hjl : decide ((j : Int) < 16) = true := by rw [decide_eq_true_eq]; omega
     go_wp2_with fail
     refine (next_any g _ _ HD.out.s' (by omega)).mono ?_
     rintro e w3 ⟨r3, rfl, _, _, d3⟩
     replace HO := Lib.hid (HO.out.dr d3 (by decide))
     replace HD := Lib.hid (HD.out.trans d3)
     have k3 := kr.dr d3 (by decide)
     clear q0 q1 kr d3
     by_cases hk0 : kd = 0
     · subst hk0
       go_wp2_with fail
       refine (next_any g 3 _ HD.out.s' (by omega)).mono ?_
       rintro e wA ⟨r4, rfl, _, _, d4⟩
       replace HO := Lib.hid (HO.out.dr d4 (by decide))
       replace HD := Lib.hid (HD.out.trans d4)
       have kA := k3.dr d4 (by decide)
       clear k3 d4
       by_cases hr4 : 0 < r4
       · have hr4b : decide (0 < r4) = true := by simpa using hr4
         go_wp2_with (at_builtin; refine wpList_app1 (cutW wA w.heap.size) wA 24 2 _ _ Tryz.underlying24 info_i rfl (by omega) rfl _ _ rfl A1 j c1 _ _ (HO.out.mk_ HD.out.size) (by omega) rfl rfl rfl ?_; intro A8 c8 w8 hM8 hg8 _)
         have k8 := kA.grown hg8 (HO.out.ne_blk kA (by decide))
         have hO3 := hM8.own_ (cutW_size HD.out.size)
         have hd3 := HD.out.grown HO.out hg8
         clear hM8 hg8 kA
         go_roundw
         case rel => exact ⟨j + 1, A8, c8, xs ++ [0], by omega, by go_num, rfl, Lib.hid (by simpa [ints] using hO3), k8, Lib.hid hd3⟩
         case measure => simp [intOf]; omega
       · have hr4b : decide (0 < r4) = false := by simpa using hr4
         go_wp2_with (at_builtin; refine wpList_app1 (cutW wA w.heap.size) wA 24 2 _ _ Tryz.underlying24 info_i rfl (by omega) rfl _ _ rfl A1 j c1 _ _ (HO.out.mk_ HD.out.size) (by omega) rfl rfl rfl ?_; intro A8 c8 w8 hM8 hg8 _)
         have k8 := kA.grown hg8 (HO.out.ne_blk kA (by decide))
         have hO3 := hM8.own_ (cutW_size HD.out.size)
         have hd3 := HD.out.grown HO.out hg8
         clear hM8 hg8 kA
         go_roundw
         case rel => exact ⟨j + 1, A8, c8, xs ++ [r3], by omega, by go_num, rfl, Lib.hid (by simpa [ints] using hO3), k8, Lib.hid hd3⟩
         case measure => simp [intOf]; omega
     · have hk0b : (kd == 0) = false := by simpa using hk0
       obtain ⟨wA, hwA⟩ : ∃ W, W = w3 := ⟨_, rfl⟩
       rw [← hwA] at HO HD k3 ⊢
       have kA := k3
       clear k3 hwA
       go_wp2_with (at_builtin; refine wpList_app1 (cutW wA w.heap.size) wA 24 2 _ _ Tryz.underlying24 info_i rfl (by omega) rfl _ _ rfl A1 j c1 _ _ (HO.out.mk_ HD.out.size) (by omega) rfl rfl rfl ?_; intro A8 c8 w8 hM8 hg8 _)
       have k8 := kA.grown hg8 (HO.out.ne_blk kA (by decide))
       have hO3 := hM8.own_ (cutW_size HD.out.size)
       have hd3 := HD.out.grown HO.out hg8
       clear hM8 hg8 kA
       go_roundw
       case rel => exact ⟨j + 1, A8, c8, xs ++ [r3], by omega, by go_num, rfl, Lib.hid (by simpa [ints] using hO3), k8, Lib.hid hd3⟩
       case measure => simp [intOf]; omega
   · obtain rfl : j = 16 := by omega
     have hjl : decide (((16 : Nat) : Int) < 16) = false := by simp
     go_wp2_with fail
     refine (next_any g 60 _ HD.out.s' (by omega)).mono ?_
     rintro e w3 ⟨sw, rfl, _, _, d3⟩
     replace HO := Lib.hid (HO.out.dr d3 (by decide))
     replace HD := Lib.hid (HD.out.trans d3)
     have k3 := kr.dr d3 (by decide)
     clear q0 q1 kr d3
     rcases HO.out.form with ⟨_, hz⟩ | ⟨gA, rfl, hg1, hg2⟩
     · omega
     by_cases hs0 : sw = 0
     · have hs0b : (sw == 0) = true := by simp [hs0]
       obtain ⟨q0, q1⟩ := k3.two
       have hd6 := (Dr.refl HD.out.s').alloc (.cells #[.int .i64 (-1), .int .i64 P] 2)
       have hpk := pick_any g w3.heap.size [-1, P] _ hd6.s' (by rw [ints2]; exact Blk.new w3 2 _) (by simp) (by simp)
       go_wp2_with fail
       refine hpk.mono ?_
       rintro e w4 ⟨r4, _, rfl, d4⟩
       replace HO := Lib.hid (HO.out.dr (hd6.trans d4) (by decide))
       replace HD := Lib.hid (HD.out.trans (hd6.trans d4))
       obtain ⟨u0, hc0⟩ := HO.out.cellI (show 0 < 16 by omega)
       have ff := HO.out.frozen_ 0
       obtain ⟨hO7, hg7⟩ := HO.out.set_ 0 (.int .i64 r4)
       rw [ints_set] at hO7
       have hd7 := HD.out.grown HO.out hg7
       clear hpk hd6 d4 k3 q0 q1 hg7
       go_wp2
       go_ret
       first | exact ⟨_, _, _, _, rfl, by omega, OwnT.of hO7, hd7⟩ | exact ⟨_, _, _, rfl, by omega, ⟨_, OwnT.of hO7⟩, hd7⟩
     · have hs0b : (sw == 0) = false := by simpa using hs0
       by_cases hs1 : sw = 1
       · have hs1b : (sw == 1) = true := by simp [hs1]
         have hcp := HO.out.cap
         by_cases hc1 : c1 = 1
         · subst hc1
           have sl := fun w => slice_from1 (g := gA) (m := 16) (c := 1) w (by omega) hcp
           rw [if_pos rfl] at sl
           omega
         · have sl := fun w => slice_from1 (g := gA) (m := 16) (c := c1) w (by omega) hcp
           rw [if_neg hc1] at sl
           clear hcp
           go_wp2
           go_ret
           first | exact ⟨_, _, _, _, rfl, by omega, OwnT.tail1 (m := 16 - 1) HO.out hc1, HD.out⟩ | exact ⟨_, _, _, rfl, by omega, ⟨_, OwnT.tail1 (m := 16 - 1) HO.out hc1⟩, HD.out⟩
       · have hs1b : (sw == 1) = false := by simpa using hs1
         go_wp2
         go_ret
         first | exact ⟨_, _, _, _, rfl, by omega, OwnT.of HO.out, HD.out⟩ | exact ⟨_, _, _, rfl, by omega, ⟨_, OwnT.of HO.out⟩, HD.out⟩
theorem l11DrawElement_any (g : Nat) (P : Int) (A : Option Addr) (n c : Nat) (w : World) (hs : Src w g 124) (hP0 : 0 ≤ P) (hP17 : P ≤ 17) (hn : n ≤ 5) :
    Calls Tryz.prog 46 #[.pointer (some ⟨g, 0, none⟩), .agg #[.int .i64 P, .slice A n c]] w fun e w' => ∃ (A' : Option Addr) (m c' : Nat) (xs : List Int), e = .returned (.slice A' m c') ∧ m ≤ 16 ∧ OwnT w' w.heap.size A' m c' xs ∧ Dr g 124 w w' := by
 match n, hn with
 | 0, _ => exact l11DrawElement_0 g P A c w hs hP0 hP17
 | 1, _ => exact l11DrawElement_1 g P A c w hs hP0 hP17
 | 2, _ => exact l11DrawElement_2 g P A c w hs hP0 hP17
 | 3, _ => exact l11DrawElement_3 g P A c w hs hP0 hP17
 | 4, _ => exact l11DrawElement_4 g P A c w hs hP0 hP17
 | 5, _ => exact l11DrawElement_5 g P A c w hs hP0 hP17
/-- The store of a doubling into the result's cell. -/
def RelD (res : Nat) (w w' : World) : Prop := ∃ (p : Int) (A : Option Addr) (n c : Nat) (p' : Int) (A' : Option Addr) (n' c' : Nat), Blk w res 26 #[.int .i64 p, .slice A n c] ∧ w' = (w.setCell ⟨res, 0, none⟩ (.int .i64 p')).setCell ⟨res, 1, none⟩ (.slice A' n' c')
theorem Own.relD {w w' : World} {res : Nat} {B : Nat} {E : TypeId} {A : Option Addr} {n c : Nat} {us : List Value} (h : Own w B E A n c us) (hE : E ≠ 26) (r : RelD res w w') : Own w' B E A n c us := by
 obtain ⟨p, A1, n1, c1, p', A', n', c', k, rfl⟩ := r
 exact (h.far k hE 0 _).far (k.set_ 0 (.int .i64 p')) hE 1 _
theorem OwnT.relD {w w' : World} {res : Nat} {B : Nat} {A : Option Addr} {n c : Nat} {xs : List Int} (h : OwnT w B A n c xs) (r : RelD res w w') : OwnT w' B A n c xs := by
 obtain ⟨hc, A0, n0, c0, us, ho, hr⟩ := h; exact ⟨hc, A0, n0, c0, us, ho.relD (by decide) r, hr⟩
theorem below_relD {w0 w w' : World} {B res : Nat} (h : Below B w0 w) (hres : B ≤ res) (r : RelD res w w') : Below B w0 w' := by
 obtain ⟨p, A1, n1, c1, p', A', n', c', k, rfl⟩ := r
 exact (h.setCell (p := ⟨res, 0, none⟩) hres _).setCell (p := ⟨res, 1, none⟩) hres _
/-- What a draw of a doubling leaves. -/
def DrewD (w : World) (e : Ending) (w' : World) : Prop := ∃ (P : Int) (A : Option Addr) (n c : Nat) (st : List Int), e = .returned (.agg #[.int .i64 P, .slice A n c]) ∧ 0 ≤ P ∧ P ≤ 17 ∧ n ≤ 5 ∧ Own w' w.heap.size 2 A n c (ints st) ∧ Below w.heap.size w w'
set_option maxHeartbeats 3200000 in
set_option maxRecDepth 8000 in
theorem DrawIsDoubling_any (B : Option Addr) (nb cb : Nat) (bs : List Int) (w : World) (hnb : nb ≤ 4096) (r : Rd w B nb (bs.map (Value.int .u8))) (hbs : ∀ b ∈ bs, 0 ≤ b ∧ b < 256) (hbg : ∀ a, B = some a → a.block < w.heap.size) :
    Calls Tryz.prog 40 #[.slice B nb cb] w (DrewD w) := by
 have hB0 : Below w.heap.size w (w.alloc (.cells #[.int .i64 0, .slice none 0 0] 26)) := zG.alloc (Nat.le_refl _) _
 have k0 : Blk (w.alloc (.cells #[.int .i64 0, .slice none 0 0] 26)) w.heap.size 26 #[.int .i64 0, .slice none 0 0] := Blk.new _ _ _
 have hfr := from__any B nb cb bs (w.alloc (.cells #[.int .i64 0, .slice none 0 0] 26)) hnb (r.below hB0) hbs (fun a e => by have := hbg a e; simp; omega)
 go_enter Tryz.func40, Tryz.ntmps40
 go_wp2_with fail
 refine hfr.mono ?_
 rintro e w2 ⟨g, rfl, hg, hs2, hb2⟩
 have k2 := k0.below hb2 k0.lt
 have hB2 := hB0.trans (hb2.mono hB0.size)
 have hgw : w.heap.size ≤ g := Nat.le_trans hB0.size hg
 clear hfr hb2 k0 hB0 hg
 go_wp2_with fail
 refine (l11DrawAny_any g 4 w2 hs2 (by omega) (by omega)).mono ?_
 rintro e w3 ⟨P, A, n, c, st, rfl, hP0, hP, hn, hO, hd3⟩
 have k3 := k2.dr hd3 (by decide)
 have hB3 := hd3.down hB2 hgw
 have hO3 := hO.base (B' := w.heap.size) hB2.size
 obtain ⟨p0, p1⟩ := k3.two
 have f0 := k3.frozen 0
 have f1 := k3.frozen 1
 have hrl : RelD w.heap.size w3 ((w3.setCell ⟨w.heap.size, 0, none⟩ (.int .i64 P)).setCell ⟨w.heap.size, 1, none⟩ (.slice A n c)) := ⟨_, _, _, _, _, _, _, _, k3, rfl⟩
 clear k2 hs2 hd3 hO
 go_wp2
 exact bodyPost_ret (v := .agg #[.int .i64 P, .slice A n c]) (by simp [results, Tryz.results40, go_sem, p0, p1]) rfl ⟨P, A, n, c, st, rfl, hP0, hP, hn, hO3.relD (by decide) hrl, below_relD hB3 (Nat.le_refl _) hrl⟩
/-- What a draw of a doubling and an element leaves. -/
def DrewDX (w : World) (e : Ending) (w' : World) : Prop := ∃ (P : Int) (A : Option Addr) (n c : Nat) (st : List Int) (X : Option Addr) (m cx : Nat) (xs : List Int), e = .returned (.tuple #[.agg #[.int .i64 P, .slice A n c], .slice X m cx]) ∧ (0 ≤ P ∧ P ≤ 17) ∧ n ≤ 5 ∧ m ≤ 16 ∧ Own w' w.heap.size 2 A n c (ints st) ∧ OwnT w' w.heap.size X m cx xs ∧ Below w.heap.size w w'
set_option maxHeartbeats 3200000 in
set_option maxRecDepth 8000 in
theorem DrawLocalDimension_any (B : Option Addr) (nb cb : Nat) (bs : List Int) (w : World) (hnb : nb ≤ 4096) (r : Rd w B nb (bs.map (Value.int .u8))) (hbs : ∀ b ∈ bs, 0 ≤ b ∧ b < 256) (hbg : ∀ a, B = some a → a.block < w.heap.size) :
    Calls Tryz.prog 7 #[.slice B nb cb] w (DrewD w) := by
 have hB0 : Below w.heap.size w (w.alloc (.cells #[.int .i64 0, .slice none 0 0] 26)) := zG.alloc (Nat.le_refl _) _
 have k0 : Blk (w.alloc (.cells #[.int .i64 0, .slice none 0 0] 26)) w.heap.size 26 #[.int .i64 0, .slice none 0 0] := Blk.new _ _ _
 have hfr := DrawIsDoubling_any B nb cb bs (w.alloc (.cells #[.int .i64 0, .slice none 0 0] 26)) hnb (r.below hB0) hbs (fun a e => by have := hbg a e; simp; omega)
 go_enter Tryz.func7, Tryz.ntmps7
 go_wp2_with fail
 refine hfr.mono ?_
 rintro e w3 ⟨P, A, n, c, st, rfl, hP0, hP, hn, hO, hb3⟩
 have k3 := k0.below hb3 k0.lt
 have hB3 := hB0.trans (hb3.mono hB0.size)
 have hO3 := hO.base (B' := w.heap.size) hB0.size
 obtain ⟨p0, p1⟩ := k3.two
 have f0 := k3.frozen 0
 have f1 := k3.frozen 1
 have hrl : RelD w.heap.size w3 ((w3.setCell ⟨w.heap.size, 0, none⟩ (.int .i64 P)).setCell ⟨w.heap.size, 1, none⟩ (.slice A n c)) := ⟨_, _, _, _, _, _, _, _, k3, rfl⟩
 clear k0 hb3 hO hfr
 go_wp2
 exact bodyPost_ret (v := .agg #[.int .i64 P, .slice A n c]) (by simp [results, Tryz.results7, go_sem, p0, p1]) rfl ⟨P, A, n, c, st, rfl, hP0, hP, hn, hO3.relD (by decide) hrl, below_relD hB3 (Nat.le_refl _) hrl⟩
set_option maxHeartbeats 6400000 in
set_option maxRecDepth 8000 in
theorem DrawPureTriple_any (B : Option Addr) (nb cb : Nat) (bs : List Int) (w : World) (hnb : nb ≤ 4096) (r : Rd w B nb (bs.map (Value.int .u8))) (hbs : ∀ b ∈ bs, 0 ≤ b ∧ b < 256) (hbg : ∀ a, B = some a → a.block < w.heap.size) :
    Calls Tryz.prog 10 #[.slice B nb cb] w (DrewDX w) := by
 have hB0 : Below w.heap.size w (w.alloc (.cells #[.int .i64 0, .slice none 0 0] 26)) := zG.alloc (Nat.le_refl _) _
 have k0 : Blk (w.alloc (.cells #[.int .i64 0, .slice none 0 0] 26)) w.heap.size 26 #[.int .i64 0, .slice none 0 0] := Blk.new _ _ _
 have hfr := from__any B nb cb bs (w.alloc (.cells #[.int .i64 0, .slice none 0 0] 26)) hnb (r.below hB0) hbs (fun a e => by have := hbg a e; simp; omega)
 go_enter Tryz.func10, Tryz.ntmps10
 go_wp2_with fail
 refine hfr.mono ?_
 rintro e w2 ⟨g, rfl, hg, hs2, hb2⟩
 have k2 := k0.below hb2 k0.lt
 have hB2 := hB0.trans (hb2.mono hB0.size)
 have hgw : w.heap.size ≤ g := Nat.le_trans hB0.size hg
 clear hfr hb2 k0 hB0 hg
 go_wp2_with fail
 refine (l11DrawAny_any g 3 w2 hs2 (by omega) (by omega)).mono ?_
 rintro e w3 ⟨P, A, n, c, st, rfl, hP0, hP17, hn, hO, hd3⟩
 have hP : 0 ≤ P ∧ P ≤ 17 := ⟨hP0, hP17⟩
 have hs3 := hd3.size
 have hlt3 : w.heap.size < w3.heap.size := Nat.lt_of_lt_of_le k2.lt hs3
 have hd5 := hd3.alloc (.cells #[.int .i64 P, .slice A n c] 26)
 have k5 := (k2.dr hd3 (by decide)).alloc (.cells #[.int .i64 P, .slice A n c] 26)
 have kb5 := Blk.new w3 26 #[.int .i64 P, .slice A n c]
 have hO5 := (hO.base (B' := w.heap.size) hB2.size).below (zG.alloc (Nat.le_refl _) (.cells #[.int .i64 P, .slice A n c] 26))
 have hB5 := hd5.down hB2 hgw
 have hs5 := hd5.s'
 clear k2 hs2 hd3 hO hB2 hs3 hd5
 go_wp2_with fail
 refine (l11DrawElement_any g P A n c (w3.alloc (.cells #[.int .i64 P, .slice A n c] 26)) hs5 hP0 hP17 hn).mono ?_
 rintro e w6 ⟨X, m, cx, xs, rfl, hm, hX, hd6⟩
 obtain ⟨w5, hw5⟩ : ∃ W, W = w3.alloc (.cells #[.int .i64 P, .slice A n c] 26) := ⟨_, rfl⟩
 have hsz5 : w3.heap.size < w5.heap.size := by rw [hw5]; simp
 rw [← hw5] at k5 kb5 hO5 hB5 hs5 hX hd6
 clear hw5
 have k6 := k5.dr hd6 (by decide)
 have kb6 := kb5.dr hd6 (by decide)
 have hO6 := hO5.dr hd6 (by decide)
 have hB6 := hd6.down hB5 hgw
 have hs6 := hd6.s'
 have hst : ∀ b, (Value.slice A n c).ownBlock = some b → b < w5.heap.size := fun b hb => (World.ownsRow.lt hO5 b hb).2
 have hz5 : w.heap.size ≤ w5.heap.size := by omega
 clear k5 kb5 hO5 hB5 hs5 hd6
 by_cases h0 : 0 < m
 · have hm0 : (0 : Int) < (m : Int) := by omega
   have d0 : decide ((0 : Int) < (m : Int)) = true := by rw [decide_eq_true_eq]; omega
   have hnx := next_any g 8 w6 hs6 (by omega)
   go_wp2_with fail
   refine hnx.mono ?_
   rintro e w9 ⟨r, rfl, hr0, -, hd9⟩
   have k9 := k6.dr hd9 (by decide)
   have kb9 := kb6.dr hd9 (by decide)
   have hO9 := hO6.dr hd9 (by decide)
   have hX9 := hX.dr hd9 (by decide)
   have hB9 := hd9.down hB6 hgw
   clear hnx hs6 k6 kb6 hO6 hX hB6 hd9
   by_cases hr : 0 < r
   · have d1 : decide (0 < r) = true := by rw [decide_eq_true_eq]; exact hr
     obtain ⟨gx, ox, x0, rfl, hgx, hcx, hfx, ⟨n0, c0, us, hox, hgr⟩, xs', hX'⟩ := hX9.set0 h0
     have hne1 : w.heap.size ≠ gx := by omega
     have hne2 : w3.heap.size ≠ gx := by omega
     have k10 := k9.far (p := ⟨gx, ox, none⟩) hne1 (.int .i64 0)
     have kb10 := kb9.far (p := ⟨gx, ox, none⟩) hne2 (.int .i64 0)
     have hO10 := hO9.grown hgr (.inr fun e => by
      cases hb : (Value.slice A n c).ownBlock with
      | none => rw [hb] at e; cases e
      | some b =>
       have h1 := hst b hb
       rw [hb] at e
       have h2 : b = gx := by injection e
       omega)
     have hB10 := hB9.setCell (p := ⟨gx, ox, none⟩) (show w.heap.size ≤ gx by omega) (.int .i64 0)
     have HO9 := Lib.hid hO10
     have HX9 := Lib.hid (hX'.base hz5)
     have HB9 := Lib.hid hB10
     obtain ⟨q0, q1⟩ := kb10.two
     obtain ⟨u0, u1⟩ := kb9.two
     obtain ⟨p0, p1⟩ := k10.two
     have f0 := k10.frozen 0
     have f1 := k10.frozen 1
     have HR : Hid (RelD w.heap.size (w9.setCell ⟨gx, ox, none⟩ (.int .i64 0)) (((w9.setCell ⟨gx, ox, none⟩ (.int .i64 0)).setCell ⟨w.heap.size, 0, none⟩ (.int .i64 P)).setCell ⟨w.heap.size, 1, none⟩ (.slice A n c))) := Lib.hid ⟨_, _, _, _, _, _, _, _, k10, rfl⟩
     clear hO9 hX9 hB9 hO10 hB10 hX' hgr hox k9 kb9 hst hgx k10 kb10
     go_wp2
     exact bodyPost_ret (v := .tuple #[.agg #[.int .i64 P, .slice A n c], .slice (some ⟨gx, ox, none⟩) m cx]) (by simp [results, Tryz.results10, go_sem, p0, p1]) rfl ⟨P, A, n, c, st, some ⟨gx, ox, none⟩, m, cx, _, rfl, hP, hn, hm, HO9.out.relD (by decide) HR.out, HX9.out.relD HR.out, below_relD HB9.out (Nat.le_refl _) HR.out⟩
   · have d1 : decide (0 < r) = false := by rw [decide_eq_false_iff_not]; exact hr
     have HO9 := Lib.hid hO9
     have HX9 := Lib.hid (hX9.base hz5)
     have HB9 := Lib.hid hB9
     clear hO9 hX9 hB9
     obtain ⟨q0, q1⟩ := kb9.two
     obtain ⟨p0, p1⟩ := k9.two
     have f0 := k9.frozen 0
     have f1 := k9.frozen 1
     have HR : Hid (RelD w.heap.size w9 ((w9.setCell ⟨w.heap.size, 0, none⟩ (.int .i64 P)).setCell ⟨w.heap.size, 1, none⟩ (.slice A n c))) := Lib.hid ⟨_, _, _, _, _, _, _, _, k9, rfl⟩
     go_wp2
     exact bodyPost_ret (v := .tuple #[.agg #[.int .i64 P, .slice A n c], .slice X m cx]) (by simp [results, Tryz.results10, go_sem, p0, p1]) rfl ⟨P, A, n, c, st, X, m, cx, _, rfl, hP, hn, hm, HO9.out.relD (by decide) HR.out, HX9.out.relD HR.out, below_relD HB9.out (Nat.le_refl _) HR.out⟩
 · obtain rfl : m = 0 := by omega
   have k9 := k6
   have kb9 := kb6
   have HO9 := Lib.hid hO6
   have HX9 := Lib.hid (hX.base hz5)
   have HB9 := Lib.hid hB6
   clear k6 kb6 hO6 hX hB6
   obtain ⟨w9, rfl⟩ : ∃ W, W = w6 := ⟨_, rfl⟩
   obtain ⟨q0, q1⟩ := kb9.two
   obtain ⟨p0, p1⟩ := k9.two
   have f0 := k9.frozen 0
   have f1 := k9.frozen 1
   have HR : Hid (RelD w.heap.size w9 ((w9.setCell ⟨w.heap.size, 0, none⟩ (.int .i64 P)).setCell ⟨w.heap.size, 1, none⟩ (.slice A n c))) := Lib.hid ⟨_, _, _, _, _, _, _, _, k9, rfl⟩
   go_wp2
   exact bodyPost_ret (v := .tuple #[.agg #[.int .i64 P, .slice A n c], .slice X 0 cx]) (by simp [results, Tryz.results10, go_sem, p0, p1]) rfl ⟨P, A, n, c, st, X, 0, cx, _, rfl, hP, hn, hm, HO9.out.relD (by decide) HR.out, HX9.out.relD HR.out, below_relD HB9.out (Nat.le_refl _) HR.out⟩
set_option maxHeartbeats 3200000 in
set_option maxRecDepth 8000 in
theorem element9_any (g : Nat) (P : Int) (A : Option Addr) (k c : Nat) (w : World) (hs : Src w g 85) (hP : 1 ≤ P) (hP2 : P ≤ 17) (hk : k ≤ 4) :
    Calls Tryz.prog 15 #[.pointer (some ⟨g, 0, none⟩), .agg #[.int .i64 P, .slice A k c]] w fun e w' => ∃ (A' : Option Addr) (c' : Nat) (ys : List Int), e = .returned (.slice A' (pw k) c') ∧ NumsL P ys ∧ Own w' w.heap.size 2 A' (pw k) c' (ints ys) ∧ Dr g 85 w w' := by
 have hd1 := ((Dr.refl hs).alloc (.cells #[.int .i64 P, .slice A k c] 26)).alloc (.cells #[] 2)
 have k1 : Blk ((w.alloc (.cells #[.int .i64 P, .slice A k c] 26)).alloc (.cells #[] 2)) w.heap.size 26 #[.int .i64 P, .slice A k c] := (Blk.new _ _ _).alloc _
 have hO1 : Own ((w.alloc (.cells #[.int .i64 P, .slice A k c] 26)).alloc (.cells #[] 2)) w.heap.size 2 (some ⟨w.heap.size + 1, 0, none⟩) 0 0 (ints []) := Own.of_cells (cs := #[]) (by omega) (Blk.newAt3 (w := w.alloc (.cells #[.int .i64 P, .slice A k c] 26)) (g := w.heap.size + 1) (by simp)) (by simp [maxLen])
 have hpk : pw k ≤ 16 := pw_le hk
 have WPW := wrap_pw k (show k ≤ 30 by omega)
 obtain ⟨w1, hw1⟩ : ∃ W, W = ((w.alloc (.cells #[.int .i64 P, .slice A k c] 26)).alloc (.cells #[] 2)) := ⟨_, rfl⟩
 go_enter Tryz.func15, Tryz.ntmps15
 go_wp2
 rw [← hw1] at hd1 k1 hO1 ⊢
 clear hw1
 go_loopw [5, 6] (fun out i wr => ∃ (j : Nat) (A' : Option Addr) (c' : Nat) (ys : List Int), j ≤ pw k ∧ i = .int .i64 j ∧ out = .slice A' j c' ∧ Blk wr w.heap.size 26 #[.int .i64 P, .slice A k c] ∧ Hid (NumsL P ys) ∧ Hid (Own wr w.heap.size 2 A' j c' (ints ys)) ∧ Hid (Dr g 85 w wr)) (fun _ i _ => pw k - (intOf i).toNat)
 case atStart => exact ⟨0, _, _, [], by omega, rfl, rfl, k1, Lib.hid (fun x hx => by cases hx), Lib.hid hO1, Lib.hid hd1⟩
 case round =>
  obtain ⟨j, A', c', ys, hj, rfl, rfl, k4, HN, HO, HD⟩ := hrel
  clear k1 hO1 hd1
  obtain ⟨q0, q1⟩ := k4.two
  by_cases hlt : j < pw k
  · have d1 : decide ((j : Int) < (pw k : Int)) = true := by rw [decide_eq_true_eq]; omega
    have hbl := below_any g P wr HD.out.s' (by omega)
    go_wp2_with fail
    refine hbl.mono ?_
    rintro e w5 ⟨r, rfl, h1, h2, hd5⟩
    have k5 := k4.dr hd5 (by decide)
    have HN2 : Hid (NumsL P (ys ++ [r])) := Lib.hid (fun x hx => by
     rcases List.mem_append.1 hx with h | h
     · exact HN.out x h
     · obtain rfl : x = r := by simpa using h
       exact ⟨h1, h2 (by omega)⟩)
    have HO5 := Lib.hid (HO.out.dr hd5 (by decide))
    have HD5 := Lib.hid (HD.out.trans hd5)
    clear hbl k4 q0 q1 HN HO HD h1 h2 hd5
    go_wp2_with (at_builtin; refine wpList_app1 (cutW w5 w.heap.size) w5 24 2 _ _ Tryz.underlying24 info_i rfl (by omega) rfl _ _ rfl A' j c' _ _ (HO5.out.mk_ HD5.out.size) (by omega) rfl rfl rfl ?_; intro A8 c8 w8 hM8 hg8 _)
    have hO8 := hM8.own_ (cutW_size HD5.out.size)
    have k8 := k5.grown hg8 (HO5.out.ne_blk k5 (by decide))
    have hd8 := HD5.out.grown HO5.out hg8
    clear hM8 hg8 k5
    go_roundw
    case rel => exact ⟨j + 1, A8, c8, ys ++ [r], by omega, by go_num, rfl, k8, HN2, Lib.hid (by simpa [ints] using hO8), Lib.hid hd8⟩
    case measure => simp [intOf]; omega
  · have d1 : decide ((j : Int) < (pw k : Int)) = false := by rw [decide_eq_false_iff_not]; omega
    obtain rfl : j = pw k := by omega
    go_wp2
    go_ret
    exact ⟨_, _, ys, rfl, HN.out, HO.out, HD.out⟩
/-- The numbers of the norm, step by step. -/
def dgT (p : Int) (st : List Int) : Nat → List Int
 | 0 => [1]
 | k + 1 => dgT p st k ++ scaleL p (dgT p st k) (p - st.getD k 0)
theorem dgT_len (p : Int) (st : List Int) : ∀ k, (dgT p st k).length = pw k
 | 0 => rfl
 | k + 1 => by unfold dgT; rw [List.length_append, dgT_len p st k, scaleL_len, dgT_len p st k, pw_succ]; omega
theorem dgT_nums {p : Int} (hp : 2 ≤ p) (st : List Int) : ∀ k, NumsL p (dgT p st k)
 | 0 => by intro x hx; simp [dgT] at hx; omega
 | k + 1 => by
  intro x hx
  unfold dgT at hx
  rcases List.mem_append.1 hx with h | h
  · exact dgT_nums hp st k x h
  · exact scaleL_nums (show 0 < p by omega) _ _ x h
theorem dgT_at {p : Int} (hp : 2 ≤ p) (st : List Int) : ∀ k i, i < pw k → (dgT p st k).getD i 0 % p = (cjS i * cD st k i i) % p
 | 0, i, hi => by
  have : i = 0 := by have : pw 0 = 1 := rfl; omega
  subst this; rfl
 | k + 1, i, hi => by
  rw [pw_succ] at hi
  have hl := dgT_len p st k
  unfold dgT
  by_cases h : i < pw k
  · rw [List.getD_eq_getElem?_getD, List.getElem?_append_left (by omega), ← List.getD_eq_getElem?_getD, dgT_at hp st k i h, cD_ll h h]
  · have e := dgT_at hp st k (i - pw k) (by omega)
    have hj : i - pw k < (dgT p st k).length := by omega
    rw [List.getD_eq_getElem?_getD, List.getElem?_append_right (by omega), hl, ← List.getD_eq_getElem?_getD, cD_hh h h]
    have hs : (scaleL p (dgT p st k) (p - st.getD k 0)).getD (i - pw k) 0 = ((dgT p st k).getD (i - pw k) 0 * (p - st.getD k 0)) % p := by first | exact scaleL_getD _ hj | (rw [scaleL_getD _ hj, Int.mul_comm])
    have hp0 := pw_pos k
    rw [hs, cg_self, md_mul _ e]
    have hc : cjS i = -1 := if_neg (by omega)
    rw [hc]
    have : cjS (i - pw k) * cD st k (i - pw k) (i - pw k) * (p - st.getD k 0) = -1 * (st.getD k 0 * (cjS (i - pw k) * cD st k (i - pw k) (i - pw k))) + p * (cjS (i - pw k) * cD st k (i - pw k) (i - pw k)) := by
     rw [Int.mul_sub, Int.mul_comm _ p, Int.mul_comm _ (st.getD k 0)]; omega
    rw [this, Int.add_mul_emod_self_left]
theorem dgT_eq {p : Int} (hp : 2 ≤ p) (st : List Int) (k : Nat) : dgT p st k = dgL p k st := by
 have hN1 := dgT_nums hp st k
 have hN2 := dgL_nums (show 0 < p by omega) k st
 refine List.ext_getElem (by rw [dgT_len, dgL_len]) fun i h1 h2 => ?_
 have hi : i < pw k := by rw [dgT_len] at h1; exact h1
 have a := dgT_at hp st k i hi
 have b := dgL_at (p := p) st hi
 rw [getD_of_lt 0 h1] at a
 rw [getD_of_lt 0 h2] at b
 exact cg_eq (hN1 _ (List.getElem_mem h1)) (hN2 _ (List.getElem_mem h2)) (a.trans b.symm)
set_option maxHeartbeats 3200000 in
set_option maxRecDepth 8000 in
theorem l11Diagonal_any (p : Int) (hp : 2 ≤ p) (hp2 : p ≤ 13) (k : Nat) (hk : k ≤ 4) (A : Option Addr) (c : Nat) (st : List Int) (w : World) (hc : k ≤ c) (ha : Rd w A k (ints st)) (hst : NumsL p st) :
    Calls Tryz.prog 102 #[.agg #[.int .i64 p, .slice A k c]] w fun e w' => ∃ A' c', e = .returned (.slice A' (pw k) c') ∧ MkI w w' A' (pw k) c' (dgL p k st) := by
 rw [← dgT_eq hp st k]
 have hB0 : Below w.heap.size w (w.alloc (.cells #[.int .i64 p, .slice A k c] 26)) := zG.alloc (Nat.le_refl _) _
 have k0 : Blk (w.alloc (.cells #[.int .i64 p, .slice A k c] 26)) w.heap.size 26 #[.int .i64 p, .slice A k c] := Blk.new _ _ _
 have k1 := k0.alloc (.cells #[.int .i64 1] 2)
 have hM1 : MkI w ((w.alloc (.cells #[.int .i64 p, .slice A k c] 26)).alloc (.cells #[.int .i64 1] 2)) (some ⟨w.heap.size + 1, 0, none⟩) 1 1 [1] := by
  have := Mk.lit (E := 2) hB0 #[.int .i64 1] (by simp [maxLen])
  simpa [MkI, ints] using this
 have hsl : st.length = k := ha.lenI
 obtain ⟨q0, q1⟩ := k1.two
 have HTN' : Hid (∀ i, NumsL p (dgT p st i)) := Lib.hid fun i => dgT_nums hp st i
 have HAA := Lib.hid ha
 have HST := Lib.hid hst
 have HSL := Lib.hid hsl
 clear k0 hB0 hst hsl ha
 go_enter Tryz.func102, Tryz.ntmps102
 go_wp2
 go_loopw [3, 4] (fun out i wr => ∃ (j t : Nat) (A' : Option Addr) (c' : Nat), j ≤ k ∧ t ≤ 16 ∧ i = .int .i64 j ∧ out = .slice A' t c' ∧ Hid (t = pw j) ∧ Hid (MkI w wr A' t c' (dgT p st j)) ∧ Blk wr w.heap.size 26 #[.int .i64 p, .slice A k c]) (fun _ i _ => k - (intOf i).toNat)
 case atStart => exact ⟨0, 1, _, _, by omega, by omega, rfl, rfl, Lib.hid rfl, Lib.hid hM1, k1⟩
 case round =>
  obtain ⟨i, t, A', c', hi, ht, rfl, rfl, HT, HM, kr⟩ := hrel
  clear hM1 k1 q0 q1
  by_cases hlt : i < k
  · have hsi := (HAA.out.below HM.out.b)
    obtain ⟨gA, oA, rfl, hx, cs⟩ := hsi.int hlt
    obtain ⟨s, hs⟩ : ∃ z, z = st.getD i 0 := ⟨_, rfl⟩
    obtain ⟨bs1, bs2⟩ := HST.out.getD (show 0 < p by omega) i
    have hse : st[i] = s := by rw [hs, getD_of_lt 0 hx]
    rw [hse] at cs
    rw [← hs] at bs1 bs2
    have HSU : Hid (dgT p st (i + 1) = dgT p st i ++ (scaleL p (dgT p st i) (p - s))) := Lib.hid (by rw [hs]; rfl)
    have HTN : Hid (NumsL p (dgT p st i)) := Lib.hid (HTN'.out i)
    have HT2 : Hid (t + t = pw (i + 1) ∧ t + t ≤ 16 ∧ 0 < t) := Lib.hid (by
     have h1 : pw (i + 1) ≤ 16 := pw_le (show i + 1 ≤ 4 by omega)
     have h2 := pw_pos i
     rw [HT.out]
     rw [pw_succ] at h1 ⊢
     refine ⟨by omega, by omega, h2⟩)
    clear hs hse hx hsi
    obtain ⟨q0, q1⟩ := kr.two
    go_wp2
    clear q0 q1
    refine wp_obs 13 [[],[],[1],[],[3],[],[5],[],[5,6,7],[5,6,7,8],[3,4,5,6,7,8,9],[],[1,2,3,4,5,6,7,8,9,10,11],[0,1,2,3,4,5,6,7,8,9,10,11,12],[0,1,2,3,4,5,6,7,8,9,10,11,12,13]] [VIs (.slice A' t c'), VIs (.pointer (some ⟨w.heap.size, 0, none⟩)), VIs (.int .i64 (p)), VIs (.pointer (some ⟨w.heap.size, 0, none⟩)), VIs (.int .i64 (p)), VIs (.pointer (some ⟨w.heap.size, 1, none⟩)), VIs (.slice (some ⟨gA, oA, none⟩) k c), VIs (.int .i64 (i)), VIs (.pointer (some ⟨gA, oA + i, none⟩)), VIs (.int .i64 (s)), VIs (.int .i64 (p - s)), VIs (.slice A' t c'), VSl wr t (scaleL p (dgT p st i) (p - s))] (fun w' => Blk w' w.heap.size 26 #[.int .i64 p, .slice (some ⟨gA, oA, none⟩) k c] ∧ w'.cell? ⟨gA, oA + i, none⟩ = some (.int .i64 s) ∧ Below wr.heap.size wr w') (by kernel_rfl) (by kernel_rfl) (fun _ _ h hb => ⟨h.1.below hb h.1.lt, (hb.cell (World.block_lt_of_cell? _ _ h.2.1)).trans h.2.1, h.2.2.trans (hb.mono h.2.2.size)⟩) (⟨kr.drew, cs, zG.drew⟩) (fun x => ?_)
    refine zS (fun w' hS hV K hK => ?_) ?_
    · obtain ⟨q0, q1⟩ := hS.1.two; have q2 := hS.2.1; go_simp; exact zO hK
    refine zS (fun w' hS hV K hK => ?_) ?_
    · obtain ⟨q0, q1⟩ := hS.1.two; have q2 := hS.2.1; go_simp; exact zO hK
    refine zS (fun w' hS hV K hK => ?_) ?_
    · have e1 := zQ hV 1; obtain ⟨q0, q1⟩ := hS.1.two; have q2 := hS.2.1; go_simp; exact zO hK
    refine zS (fun w' hS hV K hK => ?_) ?_
    · obtain ⟨q0, q1⟩ := hS.1.two; have q2 := hS.2.1; go_simp; exact zO hK
    refine zS (fun w' hS hV K hK => ?_) ?_
    · have e3 := zQ hV 3; obtain ⟨q0, q1⟩ := hS.1.two; have q2 := hS.2.1; go_simp; exact zO hK
    refine zS (fun w' hS hV K hK => ?_) ?_
    · obtain ⟨q0, q1⟩ := hS.1.two; have q2 := hS.2.1; go_simp; exact zO hK
    refine zS (fun w' hS hV K hK => ?_) ?_
    · have e5 := zQ hV 5; obtain ⟨q0, q1⟩ := hS.1.two; have q2 := hS.2.1; go_simp; exact zO hK
    refine zS (fun w' hS hV K hK => ?_) ?_
    · obtain ⟨q0, q1⟩ := hS.1.two; have q2 := hS.2.1; go_simp; exact zO hK
    refine zS (fun w' hS hV K hK => ?_) ?_
    · have e6 := zQ hV 6; have e7 := zQ hV 7; obtain ⟨q0, q1⟩ := hS.1.two; have q2 := hS.2.1; go_simp; exact zO hK
    refine zS (fun w' hS hV K hK => ?_) ?_
    · have e8 := zQ hV 8; obtain ⟨q0, q1⟩ := hS.1.two; have q2 := hS.2.1; go_simp; exact zO hK
    refine zS (fun w' hS hV K hK => ?_) ?_
    · have e4 := zQ hV 4; have e9 := zQ hV 9; obtain ⟨q0, q1⟩ := hS.1.two; have q2 := hS.2.1; go_simp; exact hK.out _ _ _ rfl rfl (by first | rfl | exact congrArg (Value.int .i64) (by omega) | exact congrArg (Value.int .i64) ((i64_fit _ (by omega) (by omega)).trans (by omega))) zG
    refine zS (fun w' hS hV K hK => ?_) ?_
    · obtain ⟨q0, q1⟩ := hS.1.two; have q2 := hS.2.1; go_simp; exact zO hK
    refine zS (fun w' hS hV K hK => ?_) ?_
    · have e2 := zQ hV 2; have e10 := zQ hV 10; have e11 := zQ hV 11; obtain ⟨q0, q1⟩ := hS.1.two; have q2 := hS.2.1; go_simp; refine (l11Scale_any p (p - s) A' t c' (dgT p st i) w' hp hp2 (by omega) (HM.out.below hS.2.2).rd HTN.out (by omega) (by omega)).mono ?_; rintro e v1 ⟨A9, c9, rfl, hM⟩; exact hK.out _ _ _ rfl rfl ⟨_, _, rfl, hM.after hS.2.2⟩ hM.b
    refine fun w' hS hV => ?_
    have e0 := zT hV 0
    have e1 := zT hV 1
    have e2 := zT hV 2
    have e3 := zT hV 3
    have e4 := zT hV 4
    have e5 := zT hV 5
    have e6 := zT hV 6
    have e7 := zT hV 7
    have e8 := zT hV 8
    have e9 := zT hV 9
    have e10 := zT hV 10
    have e11 := zT hV 11
    obtain ⟨A12, c12, e12, h12⟩ := hV 12 (by decide)
    simp only [e0, e1, e2, e3, e4, e5, e6, e7, e8, e9, e10, e11, e12]
    clear e0 e1 e2 e3 e4 e5 e6 e7 e8 e9 e10 e11 e12
    obtain ⟨k7, -, s2⟩ := hS
    have HT3 : Hid (t + t = pw (i + 1)) := Lib.hid HT2.out.1
    obtain ⟨-, b2, b3⟩ := HT2.out
    refine any_plain (j := 13) (by kernel_rfl) (Eq.trans (by simp only [zA, zB, zC]; exact rfl) rfl) rfl (fun K hK => ?_)
    refine wp_appAll w w' _ _ rfl A' t c' (dgT p st i) _ t _ (scaleL p (dgT p st i) (p - s)) (HM.out.below s2) h12.rd b3 (by omega) (by omega) rfl rfl ?_
    intro A20 c20 w20 hM20 hg20
    refine hK.out _ _ ?_
    simp only [Act.put, zD, zE, zF]
    refine any_one (j := 14) (by kernel_rfl) (Eq.trans (by simp only [zA, zB, zC]; exact rfl) rfl) (fun K hK => ?_)
    go_simp
    refine hK.out _ _ (wpAny_done (by kernel_rfl) ?_ _)
    have k8 := k7.grown hg20 ((HM.out.below s2).2.ne_blk k7 (by decide))
    have HR2 : Hid (MkI w w20 A20 (t + t) c20 (dgT p st (i + 1))) := Lib.hid (by rw [HSU.out]; exact hM20)
    clear k7 hg20 hM20 hV cs
    go_wp2
    go_roundw
    case rel => exact ⟨i + 1, t + t, A20, c20, by omega, b2, by go_num, rfl, HT3, HR2, k8⟩
    case measure => simp [intOf]; omega
  · obtain rfl : i = k := by omega
    obtain ⟨q0, q1⟩ := kr.two
    go_wp2
    go_ret
    exact ⟨A', c', by rw [← HT.out]; rfl, by rw [← HT.out]; exact HM.out⟩
set_option maxHeartbeats 3200000 in
set_option maxRecDepth 8000 in
theorem l15Form_any (p : Int) (hp : 2 ≤ p) (hp2 : p ≤ 13) (A : Option Addr) (k c : Nat) (g o1 n cP : Nat) (PM : List (List Int)) (i j q : Nat) (w : World) (hr : RdII w (some ⟨g, o1, none⟩) n PM) (hT : Tab p n PM) (hn8 : n ≤ 8) (hi : i < n) (hj : j < n) (hq : q < n) (hx : i ^^^ j = q) :
    Calls Tryz.prog 103 #[.agg #[.int .i64 p, .slice A k c], .slice (some ⟨g, o1, none⟩) n cP, .int .i64 i, .int .i64 j, .int .i64 q] w fun e w' => e = .returned (.int .i64 (frmS p PM i j)) ∧ Below w.heap.size w w' := by
 have hB0 : Below w.heap.size w (w.alloc (.cells #[.int .i64 p, .slice A k c] 26)) := zG.alloc (Nat.le_refl _) _
 have k0 : Blk (w.alloc (.cells #[.int .i64 p, .slice A k c] 26)) w.heap.size 26 #[.int .i64 p, .slice A k c] := Blk.new _ _ _
 obtain ⟨gi, oi, ci, t1, t2⟩ := (hr.below hB0).grid hT hi hj
 obtain ⟨gq, oq, cq, t3, t4⟩ := (hr.below hB0).grid hT hq hq
 obtain ⟨xv1, he1⟩ : ∃ z, z = ent PM i j := ⟨_, rfl⟩
 obtain ⟨xv2, he2⟩ : ∃ z, z = ent PM q q := ⟨_, rfl⟩
 obtain ⟨b1, b2⟩ := hT.ent (show 0 < p by omega) i j
 obtain ⟨b3, b4⟩ := hT.ent (show 0 < p by omega) q q
 have HFR : Hid (frmS p PM i j = (2 * xv1 * xv2) % p) := Lib.hid (by unfold frmS; rw [hx, he1, he2])
 rw [← he1] at t2 b1 b2
 rw [← he2] at t4 b3 b4
 have hxo := xor_all i (by omega) j (by omega)
 rw [hx] at hxo
 have hm1 : 0 ≤ xv1 * xv2 ∧ xv1 * xv2 ≤ 169 := ⟨Int.mul_nonneg b1 b3, by
  have := Int.mul_le_mul (show xv1 ≤ 13 by omega) (show xv2 ≤ 13 by omega) b3 (by omega); omega⟩
 have hm2 : 2 * xv1 * xv2 = 2 * (xv1 * xv2) := Int.mul_assoc _ _ _
 have hm3 : 0 ≤ 2 * xv1 * xv2 ∧ 2 * xv1 * xv2 ≤ 338 := by omega
 clear he1 he2 hr hT hx hm1 hm2
 obtain ⟨hm4, hm5⟩ := hm3
 obtain ⟨q0, q1⟩ := k0.two
 go_enter Tryz.func103, Tryz.ntmps103
 go_wp2
 clear q0 q1
 refine wp_obs 20 [[],[0],[],[],[2,3],[2,3,4],[],[2,3,4,5,6],[2,3,4,5,6,7],[2,3,4,5,6,7,8],[],[],[10,11],[10,11,12],[],[10,11,12,13,14],[10,11,12,13,14,15],[2,3,4,5,6,7,8,9,10,11,12,13,14,15,16],[0,1,2,3,4,5,6,7,8,9,10,11,12,13,14,15,16,17],[0,1,2,3,4,5,6,7,8,9,10,11,12,13,14,15,16,17,18]] [VIs (.pointer (some ⟨w.heap.size, 0, none⟩)), VIs (.int .i64 (p)), VIs (.slice (some ⟨g, o1, none⟩) n cP), VIs (.int .i64 (i)), VIs (.pointer (some ⟨g, o1 + i, none⟩)), VIs (.slice (some ⟨gi, oi, none⟩) n ci), VIs (.int .i64 (j)), VIs (.pointer (some ⟨gi, oi + j, none⟩)), VIs (.int .i64 (xv1)), VIs (.int .i64 (2 * xv1)), VIs (.slice (some ⟨g, o1, none⟩) n cP), VIs (.int .i64 (q)), VIs (.pointer (some ⟨g, o1 + q, none⟩)), VIs (.slice (some ⟨gq, oq, none⟩) n cq), VIs (.int .i64 (q)), VIs (.pointer (some ⟨gq, oq + q, none⟩)), VIs (.int .i64 (xv2)), VIs (.int .i64 (2 * xv1 * xv2)), VIs (.int .i64 ((2 * xv1 * xv2) % p)), VIs (.int .i64 ((2 * xv1 * xv2) % p))] (fun w' => Blk w' w.heap.size 26 #[.int .i64 p, .slice A k c] ∧ w'.cell? ⟨g, o1 + i, none⟩ = some (.slice (some ⟨gi, oi, none⟩) n ci) ∧ w'.cell? ⟨gi, oi + j, none⟩ = some (.int .i64 xv1) ∧ w'.cell? ⟨g, o1 + q, none⟩ = some (.slice (some ⟨gq, oq, none⟩) n cq) ∧ w'.cell? ⟨gq, oq + q, none⟩ = some (.int .i64 xv2) ∧ Below w.heap.size w w') (by kernel_rfl) (by kernel_rfl) (fun _ _ h hb => ⟨h.1.below hb h.1.lt, (hb.cell (World.block_lt_of_cell? _ _ h.2.1)).trans h.2.1, (hb.cell (World.block_lt_of_cell? _ _ h.2.2.1)).trans h.2.2.1, (hb.cell (World.block_lt_of_cell? _ _ h.2.2.2.1)).trans h.2.2.2.1, (hb.cell (World.block_lt_of_cell? _ _ h.2.2.2.2.1)).trans h.2.2.2.2.1, h.2.2.2.2.2.trans (hb.mono h.2.2.2.2.2.size)⟩) (⟨k0.drew, t1, t2, t3, t4, hB0.drew⟩) (fun x => ?_)
 refine zS (fun w' hS hV K hK => ?_) ?_
 · obtain ⟨q0, q1⟩ := hS.1.two; have t1 := hS.2.1; have t2 := hS.2.2.1; have t3 := hS.2.2.2.1; have t4 := hS.2.2.2.2.1; go_simp; exact zO hK
 refine zS (fun w' hS hV K hK => ?_) ?_
 · have e0 := zQ hV 0; obtain ⟨q0, q1⟩ := hS.1.two; have t1 := hS.2.1; have t2 := hS.2.2.1; have t3 := hS.2.2.2.1; have t4 := hS.2.2.2.2.1; go_simp; exact zO hK
 refine zS (fun w' hS hV K hK => ?_) ?_
 · obtain ⟨q0, q1⟩ := hS.1.two; have t1 := hS.2.1; have t2 := hS.2.2.1; have t3 := hS.2.2.2.1; have t4 := hS.2.2.2.2.1; go_simp; exact zO hK
 refine zS (fun w' hS hV K hK => ?_) ?_
 · obtain ⟨q0, q1⟩ := hS.1.two; have t1 := hS.2.1; have t2 := hS.2.2.1; have t3 := hS.2.2.2.1; have t4 := hS.2.2.2.2.1; go_simp; exact zO hK
 refine zS (fun w' hS hV K hK => ?_) ?_
 · have e2 := zQ hV 2; have e3 := zQ hV 3; obtain ⟨q0, q1⟩ := hS.1.two; have t1 := hS.2.1; have t2 := hS.2.2.1; have t3 := hS.2.2.2.1; have t4 := hS.2.2.2.2.1; go_simp; exact zO hK
 refine zS (fun w' hS hV K hK => ?_) ?_
 · have e4 := zQ hV 4; obtain ⟨q0, q1⟩ := hS.1.two; have t1 := hS.2.1; have t2 := hS.2.2.1; have t3 := hS.2.2.2.1; have t4 := hS.2.2.2.2.1; go_simp; exact zO hK
 refine zS (fun w' hS hV K hK => ?_) ?_
 · obtain ⟨q0, q1⟩ := hS.1.two; have t1 := hS.2.1; have t2 := hS.2.2.1; have t3 := hS.2.2.2.1; have t4 := hS.2.2.2.2.1; go_simp; exact zO hK
 refine zS (fun w' hS hV K hK => ?_) ?_
 · have e5 := zQ hV 5; have e6 := zQ hV 6; obtain ⟨q0, q1⟩ := hS.1.two; have t1 := hS.2.1; have t2 := hS.2.2.1; have t3 := hS.2.2.2.1; have t4 := hS.2.2.2.2.1; go_simp; exact zO hK
 refine zS (fun w' hS hV K hK => ?_) ?_
 · have e7 := zQ hV 7; obtain ⟨q0, q1⟩ := hS.1.two; have t1 := hS.2.1; have t2 := hS.2.2.1; have t3 := hS.2.2.2.1; have t4 := hS.2.2.2.2.1; go_simp; exact zO hK
 refine zS (fun w' hS hV K hK => ?_) ?_
 · have e8 := zQ hV 8; obtain ⟨q0, q1⟩ := hS.1.two; have t1 := hS.2.1; have t2 := hS.2.2.1; have t3 := hS.2.2.2.1; have t4 := hS.2.2.2.2.1; go_simp; exact hK.out _ _ _ rfl rfl (by first | rfl | exact congrArg (Value.int .i64) (by omega) | exact congrArg (Value.int .i64) ((i64_fit _ (by omega) (by omega)).trans (by omega))) zG
 refine zS (fun w' hS hV K hK => ?_) ?_
 · obtain ⟨q0, q1⟩ := hS.1.two; have t1 := hS.2.1; have t2 := hS.2.2.1; have t3 := hS.2.2.2.1; have t4 := hS.2.2.2.2.1; go_simp; exact zO hK
 refine zS (fun w' hS hV K hK => ?_) ?_
 · obtain ⟨q0, q1⟩ := hS.1.two; have t1 := hS.2.1; have t2 := hS.2.2.1; have t3 := hS.2.2.2.1; have t4 := hS.2.2.2.2.1; go_simp; exact zO hK
 refine zS (fun w' hS hV K hK => ?_) ?_
 · have e10 := zQ hV 10; have e11 := zQ hV 11; obtain ⟨q0, q1⟩ := hS.1.two; have t1 := hS.2.1; have t2 := hS.2.2.1; have t3 := hS.2.2.2.1; have t4 := hS.2.2.2.2.1; go_simp; exact zO hK
 refine zS (fun w' hS hV K hK => ?_) ?_
 · have e12 := zQ hV 12; obtain ⟨q0, q1⟩ := hS.1.two; have t1 := hS.2.1; have t2 := hS.2.2.1; have t3 := hS.2.2.2.1; have t4 := hS.2.2.2.2.1; go_simp; exact zO hK
 refine zS (fun w' hS hV K hK => ?_) ?_
 · obtain ⟨q0, q1⟩ := hS.1.two; have t1 := hS.2.1; have t2 := hS.2.2.1; have t3 := hS.2.2.2.1; have t4 := hS.2.2.2.2.1; go_simp; exact zO hK
 refine zS (fun w' hS hV K hK => ?_) ?_
 · have e13 := zQ hV 13; have e14 := zQ hV 14; obtain ⟨q0, q1⟩ := hS.1.two; have t1 := hS.2.1; have t2 := hS.2.2.1; have t3 := hS.2.2.2.1; have t4 := hS.2.2.2.2.1; go_simp; exact zO hK
 refine zS (fun w' hS hV K hK => ?_) ?_
 · have e15 := zQ hV 15; obtain ⟨q0, q1⟩ := hS.1.two; have t1 := hS.2.1; have t2 := hS.2.2.1; have t3 := hS.2.2.2.1; have t4 := hS.2.2.2.2.1; go_simp; exact zO hK
 refine zS (fun w' hS hV K hK => ?_) ?_
 · have e9 := zQ hV 9; have e16 := zQ hV 16; obtain ⟨q0, q1⟩ := hS.1.two; have t1 := hS.2.1; have t2 := hS.2.2.1; have t3 := hS.2.2.2.1; have t4 := hS.2.2.2.2.1; go_simp; exact hK.out _ _ _ rfl rfl (by first | rfl | exact congrArg (Value.int .i64) (by omega) | exact congrArg (Value.int .i64) ((i64_fit _ (by omega) (by omega)).trans (by omega))) zG
 refine zS (fun w' hS hV K hK => ?_) ?_
 · have e1 := zQ hV 1; have e17 := zQ hV 17; obtain ⟨q0, q1⟩ := hS.1.two; have t1 := hS.2.1; have t2 := hS.2.2.1; have t3 := hS.2.2.2.1; have t4 := hS.2.2.2.2.1; go_simp; refine (l01Mod_any p (2 * xv1 * xv2) w' (by omega) hp2 (by omega) (by omega)).mono ?_; rintro e w1 ⟨rfl, rfl⟩; exact zO hK
 refine zS (fun w' hS hV K hK => ?_) ?_
 · have e18 := zQ hV 18; obtain ⟨q0, q1⟩ := hS.1.two; have t1 := hS.2.1; have t2 := hS.2.2.1; have t3 := hS.2.2.2.1; have t4 := hS.2.2.2.2.1; go_simp; exact zO hK
 refine fun w' hS hV => ?_
 have e0 := zT hV 0
 have e1 := zT hV 1
 have e2 := zT hV 2
 have e3 := zT hV 3
 have e4 := zT hV 4
 have e5 := zT hV 5
 have e6 := zT hV 6
 have e7 := zT hV 7
 have e8 := zT hV 8
 have e9 := zT hV 9
 have e10 := zT hV 10
 have e11 := zT hV 11
 have e12 := zT hV 12
 have e13 := zT hV 13
 have e14 := zT hV 14
 have e15 := zT hV 15
 have e16 := zT hV 16
 have e17 := zT hV 17
 have e18 := zT hV 18
 have e19 := zT hV 19
 simp only [e0, e1, e2, e3, e4, e5, e6, e7, e8, e9, e10, e11, e12, e13, e14, e15, e16, e17, e18, e19]
 clear e0 e1 e2 e3 e4 e5 e6 e7 e8 e9 e10 e11 e12 e13 e14 e15 e16 e17 e18 e19
 refine wpAny_done (by kernel_rfl) ?_ _
 go_wp2
 go_ret
 exact ⟨by rw [HFR.out]; rfl, hS.2.2.2.2.2⟩
set_option maxHeartbeats 12800000 in
set_option maxRecDepth 8000 in
theorem l15Basis_any (p : Int) (HP : isP p = true) (k : Nat) (hk3 : k ≤ 3) (A : Option Addr) (c : Nat) (st : List Int) (w : World) (hc : k ≤ c) (ha : Rd w A k (ints st)) (hst : NumsL p st) :
    Calls Tryz.prog 43 #[.agg #[.int .i64 p, .slice A k c]] w fun e w' => ∃ A' c', e = .returned (.slice A' (kernL p (locS p k st) (3 * (pw k * pw k))).length c') ∧ MkO w w' A' (kernL p (locS p k st) (3 * (pw k * pw k))).length c' (kernL p (locS p k st) (3 * (pw k * pw k))) := by
 obtain ⟨hp3, hp2⟩ := isP_ge HP
 have hp : 2 ≤ p := by omega
 have hpk : pw k ≤ 8 := pw_le hk3
 have hpos := pw_pos k
 have hB0 : Below w.heap.size w (w.alloc (.cells #[.int .i64 p, .slice A k c] 26)) := zG.alloc (Nat.le_refl _) _
 have k0 : Blk (w.alloc (.cells #[.int .i64 p, .slice A k c] 26)) w.heap.size 26 #[.int .i64 p, .slice A k c] := Blk.new _ _ _
 have hbs := fun w' (h : Below w.heap.size w w') => l11Basis_any p hp hp2 k (by omega) A c st w' hc (ha.below h) hst
 have hdg := fun w' (h : Below w.heap.size w w') => l11Diagonal_any p hp hp2 k (by omega) A c st w' hc (ha.below h) hst
 have hsz := fun w' => l11Size_any p A k c w' (by omega)
 have hPT : Tab p (pw k) (prodM p k st) := prodM_tab (by omega) k st
 have hdn := dgL_nums (p := p) (by omega) k st
 have hLT := locS_tab (p := p) (by omega) k st
 obtain ⟨PM, hPM⟩ : ∃ z, z = prodM p k st := ⟨_, rfl⟩
 obtain ⟨DG, hDG⟩ : ∃ z, z = dgL p k st := ⟨_, rfl⟩
 obtain ⟨LP, hLP⟩ : ∃ z, z = locS p k st := ⟨_, rfl⟩
 rw [← hLP] at hLT ⊢
 rw [← hDG] at hdg hdn
 rw [← hPM] at hbs hPT
 obtain ⟨n, hn⟩ : ∃ n, n = pw k := ⟨_, rfl⟩
 have HX : Hid (∀ a b, a < n → b < n → a ^^^ b < n) := Lib.hid fun a b h1 h2 => by rw [hn] at h1 h2 ⊢; exact xor_lt h1 h2
 rw [← hn] at hpk hpos hbs hsz hPT hLT hdg ⊢
 have HBS := Lib.hid hbs
 have HDG := Lib.hid hdg
 have HSZ := Lib.hid hsz
 have HDN := Lib.hid hdn
 have HPT := Lib.hid hPT
 obtain ⟨SR, hSR⟩ : ∃ S : Nat → Nat → Nat → List Int, S = fun part i q => skewRowS n DG part i q := ⟨_, rfl⟩
 obtain ⟨FR, hFR⟩ : ∃ S : Nat → Nat → Nat → List Int, S = fun i j q => formRowS p n PM i j q := ⟨_, rfl⟩
 have HLP : Hid (LP = (fm 3 (fun part => fm n fun i => tab (i + 1) (SR part i))) ++ fm n (fun i => fm n fun j => tab n (FR i j))) := Lib.hid (by rw [hLP, hSR, hFR, hDG, hPM, hn]; rfl)
 have HSR : Hid (∀ part i q, SR part i q = skewRowS n DG part i q) := Lib.hid fun _ _ _ => by rw [hSR]
 have HFR : Hid (∀ i j q, FR i j q = formRowS p n PM i j q) := Lib.hid fun _ _ _ => by rw [hFR]
 obtain ⟨n2, hn2⟩ : ∃ z, z = n * n := ⟨_, rfl⟩
 have HN2 := Lib.hid hn2
 have hn64 : n2 ≤ 64 := by rw [hn2]; exact Nat.mul_le_mul hpk hpk
 have hn2p : n ≤ n2 := by rw [hn2]; exact Nat.le_mul_of_pos_left n hpos
 obtain ⟨m3, hm3⟩ : ∃ z, z = 3 * n := ⟨_, rfl⟩
 obtain ⟨m2, hm2⟩ : ∃ z, z = 2 * n := ⟨_, rfl⟩
 obtain ⟨N, hN⟩ : ∃ z, z = 3 * n2 := ⟨_, rfl⟩
 have HNN : Hid (3 * (n * n) = N) := Lib.hid (by rw [hN, hn2])
 rw [HNN.out] at hLT ⊢
 have HLT := Lib.hid hLT
 have f3 : (3 : Int) * (n : Int) = (m3 : Int) := by omega
 have f3n : (m3 : Int) * (n : Int) = (N : Int) := by rw [← Int.natCast_mul, hm3, hN, hn2, Nat.mul_assoc]
 have f2 : (2 : Int) * (n : Int) = (m2 : Int) := by omega
 have bm3 : m3 ≤ 24 := by omega
 have bm2 : m2 ≤ 16 := by omega
 have bN : N ≤ 192 := by omega
 have HM2 : Hid (m2 = 2 * n ∧ N = 3 * n2) := Lib.hid ⟨hm2, hN⟩
 have HP' := Lib.hid HP
 have hmk := make_i (P := Tryz.prog) 24 2 Tryz.underlying24 info_i N (by omega)
 clear hn hPM hDG hLP hSR hFR hbs hdg hsz hdn hPT hLT hst ha hn2 hm3 hm2 hN HP
 go_enter Tryz.func43, Tryz.ntmps43
 go_wp2
 refine wp_obs 9 [[],[0],[],[2],[],[4],[0,1],[2,3],[4,5]] [VIs (.agg #[.int .i64 p, .slice A k c]), VMat w n PM, VIs (.agg #[.int .i64 p, .slice A k c]), VIs (.int .i64 (n)), VIs (.agg #[.int .i64 p, .slice A k c]), VSl w n DG, VMat w n PM, VIs (.int .i64 (n)), VSl w n DG] (fun w' => Blk w' w.heap.size 26 #[.int .i64 p, .slice A k c] ∧ Below w.heap.size w w') (by kernel_rfl) (by kernel_rfl) (fun _ _ h hb => ⟨h.1.below hb h.1.lt, h.2.trans (hb.mono h.2.size)⟩) (⟨k0.drew, hB0.drew⟩) (fun x => ?_)
 refine zS (fun w' hS hV K hK => ?_) ?_
 · obtain ⟨q0, q1⟩ := hS.1.two; go_simp; exact zO hK
 refine zS (fun w' hS hV K hK => ?_) ?_
 · have e0 := zQ hV 0; obtain ⟨q0, q1⟩ := hS.1.two; go_simp; refine (HBS.out w' hS.2).mono ?_; rintro e v1 ⟨A9, c9, rfl, hM⟩; exact hK.out _ _ _ rfl rfl ⟨_, _, rfl, hM.after hS.2⟩ hM.b
 refine zS (fun w' hS hV K hK => ?_) ?_
 · obtain ⟨q0, q1⟩ := hS.1.two; go_simp; exact zO hK
 refine zS (fun w' hS hV K hK => ?_) ?_
 · have e2 := zQ hV 2; obtain ⟨q0, q1⟩ := hS.1.two; go_simp; refine (HSZ.out w').mono ?_; rintro e v1 ⟨rfl, hb⟩; exact hK.out _ _ _ rfl rfl rfl hb
 refine zS (fun w' hS hV K hK => ?_) ?_
 · obtain ⟨q0, q1⟩ := hS.1.two; go_simp; exact zO hK
 refine zS (fun w' hS hV K hK => ?_) ?_
 · have e4 := zQ hV 4; obtain ⟨q0, q1⟩ := hS.1.two; go_simp; refine (HDG.out w' hS.2).mono ?_; rintro e v1 ⟨A9, c9, rfl, hM⟩; exact hK.out _ _ _ rfl rfl ⟨_, _, rfl, hM.after hS.2⟩ hM.b
 refine zS (fun w' hS hV K hK => ?_) ?_
 · obtain ⟨A1, c1, e1, h1⟩ := hV 1 (by decide); obtain ⟨q0, q1⟩ := hS.1.two; go_simp; exact hK.out _ _ _ rfl rfl ⟨_, _, rfl, h1⟩ zG
 refine zS (fun w' hS hV K hK => ?_) ?_
 · have e3 := zQ hV 3; obtain ⟨q0, q1⟩ := hS.1.two; go_simp; exact zO hK
 refine zS (fun w' hS hV K hK => ?_) ?_
 · obtain ⟨A5, c5, e5, h5⟩ := hV 5 (by decide); obtain ⟨q0, q1⟩ := hS.1.two; go_simp; exact hK.out _ _ _ rfl rfl ⟨_, _, rfl, h5⟩ zG
 refine fun w' hS hV => ?_
 have e0 := zT hV 0
 obtain ⟨A1, c1, e1, h1⟩ := hV 1 (by decide)
 have e2 := zT hV 2
 have e3 := zT hV 3
 have e4 := zT hV 4
 obtain ⟨A5, c5, e5, h5⟩ := hV 5 (by decide)
 obtain ⟨A6, c6, e6, h6⟩ := hV 6 (by decide)
 have e7 := zT hV 7
 obtain ⟨A8, c8, e8, h8⟩ := hV 8 (by decide)
 simp only [e0, e1, e2, e3, e4, e5, e6, e7, e8]
 clear e0 e1 e2 e3 e4 e5 e6 e7 e8
 refine wpAny_done (by kernel_rfl) ?_ _
 obtain ⟨kb, s1⟩ := hS
 have HDM := Lib.hid h8
 have HPM := Lib.hid h6
 have HB1 := Lib.hid s1
 obtain ⟨wb, hwb⟩ : ∃ W, W = w' := ⟨_, rfl⟩
 rw [← hwb] at HDM HPM HB1 kb ⊢
 obtain ⟨DA', hDA⟩ : ∃ z, z = A8 := ⟨_, rfl⟩
 obtain ⟨cD, hcD⟩ : ∃ z, z = c8 := ⟨_, rfl⟩
 obtain ⟨PA, hPA⟩ : ∃ z, z = A6 := ⟨_, rfl⟩
 obtain ⟨cP, hcP⟩ : ∃ z, z = c6 := ⟨_, rfl⟩
 rw [← hDA, ← hcD] at HDM
 rw [← hPA, ← hcP] at HPM
 rw [← hDA, ← hcD, ← hPA, ← hcP]
 clear hV hwb hDA hcD hPA hcP k0 hB0 s1 h1 h5 h8 h6
 obtain ⟨gD, oD, rfl, -⟩ := HDM.out.rd.int hpos
 obtain ⟨gP, oP, rfl, -⟩ := HPM.out.rd.at_ hpos
 have HDD : Hid (Rd wb (some ⟨gD, oD, none⟩) n (ints DG)) := Lib.hid HDM.out.rd
 have HFO : Hid (∀ (w' : World) (i j q : Nat), Below wb.heap.size wb w' → i < n → j < n → q < n → i ^^^ j = q → Calls Tryz.prog 103 #[.agg #[.int .i64 p, .slice A k c], .slice (some ⟨gP, oP, none⟩) n cP, .int .i64 i, .int .i64 j, .int .i64 q] w' fun e w'' => e = .returned (.int .i64 (frmS p PM i j)) ∧ Below w'.heap.size w' w'') := Lib.hid fun w' i j q hb h1 h2 h3 hx => l15Form_any p hp hp2 A k c gP oP n cP PM i j q w' (HPM.out.rd.below hb) HPT.out hpk h1 h2 h3 hx
 have hM0 : MkII wb (wb.alloc (.cells #[] 24)) (some ⟨wb.heap.size, 0, none⟩) 0 0 [] := MkII.empty zG
 have k2 := kb.alloc (.cells #[] 24)
 clear HDM kb HPT
 go_wp2
 go_loopw [6, 7] (fun out i wr => ∃ (part t : Nat) (A' : Option Addr) (c' : Nat), part ≤ 3 ∧ i = .int .i64 part ∧ out = .slice A' t c' ∧ t ≤ part * 72 ∧ Hid (MkII wb wr A' t c' (fm part (fun part => fm n fun i => tab (i + 1) (SR part i)))) ∧ Blk wr w.heap.size 26 #[.int .i64 p, .slice A k c]) (fun _ i _ => 3 - (intOf i).toNat)
 case atStart => exact ⟨0, 0, _, _, by omega, rfl, rfl, by omega, Lib.hid hM0, k2⟩
 case round =>
  obtain ⟨part, t, A', c', hpart, rfl, rfl, htb, HM, kr⟩ := hrel
  clear hM0 k2
  by_cases hlp : part < 3
  · obtain ⟨LO, hLO⟩ : ∃ z, z = fm part (fun part => fm n fun i => tab (i + 1) (SR part i)) := ⟨_, rfl⟩
    have HLO : Hid (fm (part + 1) (fun part => fm n fun i => tab (i + 1) (SR part i)) = LO ++ fm n (fun i => tab (i + 1) (SR part i))) := Lib.hid (by rw [hLO]; rfl)
    rw [← hLO] at HM
    clear hLO
    obtain ⟨pn, hpn⟩ : ∃ z, z = part * n := ⟨_, rfl⟩
    obtain ⟨pnn, hpnn⟩ : ∃ z, z = part * n2 := ⟨_, rfl⟩
    have HPN := Lib.hid hpn
    have HPNN := Lib.hid hpnn
    have g1 : (part : Int) * (n : Int) = (pn : Int) := by rw [← Int.natCast_mul, ← hpn]
    have bpn : pn ≤ 16 := by rw [hpn]; exact Nat.mul_le_mul (show part ≤ 2 by omega) hpk
    have bpnn : pnn + n2 ≤ N := by
     have := Nat.mul_le_mul_right n2 (show part + 1 ≤ 3 by omega)
     rw [Nat.add_mul, Nat.one_mul, ← hpnn, ← HM2.out.2] at this; exact this
    have hlpi : (part : Int) < 3 := by omega
    clear hpn hpnn
    go_wp2
    go_loopw [6, 8] (fun out i wr => ∃ (i' t : Nat) (A' : Option Addr) (c' : Nat), i' ≤ n ∧ i = .int .i64 i' ∧ out = .slice A' t c' ∧ t ≤ part * 72 + i' * 9 ∧ Hid (MkII wb wr A' t c' (LO ++ fm i' (fun i => tab (i + 1) (SR part i)))) ∧ Blk wr w.heap.size 26 #[.int .i64 p, .slice A k c]) (fun _ i _ => n - (intOf i).toNat)
    case atStart => exact ⟨0, t, _, _, by omega, rfl, rfl, by omega, Lib.hid (by simpa [fm] using HM.out), kr⟩
    case round =>
     obtain ⟨i, t, A', c', hi, rfl, rfl, htb, HM, kr⟩ := hrel
     by_cases hlt : i < n
     · obtain ⟨LI, hLI⟩ : ∃ z, z = LO ++ fm i (fun i => tab (i + 1) (SR part i)) := ⟨_, rfl⟩
       have HLI : Hid (LO ++ fm (i + 1) (fun i => tab (i + 1) (SR part i)) = LI ++ tab (i + 1) (SR part i)) := Lib.hid (by rw [hLI, fm_succ, List.append_assoc])
       rw [← hLI] at HM
       clear hLI
       obtain ⟨s1, hs1⟩ : ∃ z, z = pn + i := ⟨_, rfl⟩
       obtain ⟨in_, hin⟩ : ∃ z, z = i * n := ⟨_, rfl⟩
       obtain ⟨sn1, hsn1⟩ : ∃ z, z = s1 * n := ⟨_, rfl⟩
       have HSN1 : Hid (sn1 = pnn + in_) := Lib.hid (by rw [hsn1, hs1, HPNN.out, HN2.out, hin, HPN.out, Nat.add_mul, Nat.mul_assoc])
       have HIN := Lib.hid hin
       have g3 : (pn : Int) + (i : Int) = (s1 : Int) := by omega
       have g4 : (s1 : Int) * (n : Int) = (sn1 : Int) := by rw [← Int.natCast_mul, ← hsn1]
       have bin : in_ + n ≤ n2 := by
        have := Nat.mul_le_mul_right n (show i + 1 ≤ n by omega)
        rw [Nat.add_mul, Nat.one_mul, ← hin, ← HN2.out] at this; exact this
       have bs1 : s1 ≤ 24 := by omega
       have bsn1 : sn1 + n ≤ N := by rw [HSN1.out]; omega
       clear hin hs1 hsn1
       go_wp2
       go_loopw [6, 9] (fun out q wr => ∃ (q' : Nat) (A' : Option Addr) (c' : Nat), q' ≤ i + 1 ∧ q = .int .i64 q' ∧ out = .slice A' (t + q') c' ∧ Hid (MkII wb wr A' (t + q') c' (LI ++ tab q' (SR part i))) ∧ Blk wr w.heap.size 26 #[.int .i64 p, .slice A k c]) (fun _ q _ => i + 1 - (intOf q).toNat)
       case atStart => exact ⟨0, _, _, by omega, rfl, rfl, Lib.hid (by simpa [tab] using HM.out), kr⟩
       case round =>
        obtain ⟨q, A', c', hq, rfl, rfl, HM, kr⟩ := hrel
        by_cases hlq : q < i + 1
        · have hqlt : q < n := by omega
          have hlqi : (q : Int) ≤ (i : Int) := by omega
          obtain ⟨s2, hs2⟩ : ∃ z, z = pn + q := ⟨_, rfl⟩
          obtain ⟨qn, hqn⟩ : ∃ z, z = q * n := ⟨_, rfl⟩
          obtain ⟨sn2, hsn2⟩ : ∃ z, z = s2 * n := ⟨_, rfl⟩
          have HSN2 : Hid (sn2 = pnn + qn) := Lib.hid (by rw [hsn2, hs2, HPNN.out, HN2.out, hqn, HPN.out, Nat.add_mul, Nat.mul_assoc])
          have g5 : (pn : Int) + (q : Int) = (s2 : Int) := by omega
          have g6 : (s2 : Int) * (n : Int) = (sn2 : Int) := by rw [← Int.natCast_mul, ← hsn2]
          have bqn : qn + n ≤ n2 := by
           have := Nat.mul_le_mul_right n (show q + 1 ≤ n by omega)
           rw [Nat.add_mul, Nat.one_mul, ← hqn, ← HN2.out] at this; exact this
          have bs2 : s2 ≤ 24 := by omega
          have bsn2 : sn2 + n ≤ N := by rw [HSN2.out]; omega
          obtain ⟨a1, ha1⟩ : ∃ z, z = sn1 + q := ⟨_, rfl⟩
          obtain ⟨a2, ha2⟩ : ∃ z, z = sn2 + i := ⟨_, rfl⟩
          have hba1 : a1 < N := by omega
          have hba2 : a2 < N := by omega
          have g7 : (sn1 : Int) + (q : Int) = (a1 : Int) := by omega
          have g8 : (sn2 : Int) + (i : Int) = (a2 : Int) := by omega
          have HPOS : Hid (a1 = part * (n * n) + (i * n + q) ∧ a2 = part * (n * n) + (q * n + i)) := Lib.hid (by rw [ha1, ha2, HSN1.out, HSN2.out, hqn, HIN.out, HPNN.out, HN2.out]; omega)
          clear hqn hs2 hsn2 ha1 ha2
          have hm0 := Mk.made (E := 2) (n := N) (z := .int .i64 0) (Below.refl wr.heap.size wr) (by simp only [maxLen]; omega)
          rw [ints_replicate] at hm0
          have HR0 : Hid (MkI wr (wr.alloc (.cells (madeCells #[.int .i64 0] N) 2)) (some ⟨wr.heap.size, 0, none⟩) N N (List.replicate N 0)) := Lib.hid hm0
          obtain ⟨d1, hd1⟩ : ∃ z, z = DG.getD i 0 := ⟨_, rfl⟩
          obtain ⟨d2, hd2⟩ : ∃ z, z = DG.getD q 0 := ⟨_, rfl⟩
          have HD1 := Lib.hid hd1
          have HD2 := Lib.hid hd2
          have hset := (HR0.out.set a1 (.int .i64 d1)).1
          rw [ints_set] at hset
          have hset1 := hset
          rw [World.setCell_alloc_at _ _ _ _ _ rfl] at hset1
          have cd2 := (HDD.out.below (HM.out.b.trans (hset1.1.mono HM.out.b.size))).gridI hqlt
          clear hset1
          obtain ⟨y2, hy2⟩ : ∃ y, ((madeCells #[.int .i64 0] N).setIfInBounds a1 (.int .i64 d1))[a2]? = some y := ⟨_, Array.getElem?_eq_getElem (by rw [Array.size_setIfInBounds, size_madeCells]; simpa using hba2)⟩
          have hset2 := (Mk.set hset a2 (.int .i64 d2)).1
          rw [ints_set, World.setCell_alloc_at _ _ _ _ _ rfl, World.setCell_alloc_at _ _ _ _ _ rfl] at hset2
          have HRS : Hid (MkI wr (wr.alloc (.cells (((madeCells #[.int .i64 0] N).setIfInBounds a1 (.int .i64 d1)).setIfInBounds a2 (.int .i64 d2)) 2)) (some ⟨wr.heap.size, 0, none⟩) N N (SR part i q)) := Lib.hid (by
           have := hset2
           rw [HD1.out, HD2.out, HPOS.out.1, HPOS.out.2] at this ⊢
           rw [HSR.out]; unfold skewRowS; rw [HNN.out]; exact this)
          clear hset hset2
          have cd1 := (HDD.out.below (HM.out.b.trans (HR0.out.b.mono HM.out.b.size))).gridI hlt
          rw [← hd1] at cd1
          rw [← hd2] at cd2
          obtain ⟨hoc, hof⟩ := mkI_at hm0 hba1
          have kc := (kr.below HRS.out.b kr.lt)
          clear hd1 hd2 hm0
          go_wp2_with (at_builtin; go_loud (refine wpList_appRowG wb wr _ rfl _ _ rfl A' (t + q) c' _ (some ⟨wr.heap.size, 0, none⟩) N N _ HM.out HRS.out (by omega) rfl ?_ ?_); (go_simp); intro A6 c6 w6 hM6 hg6 hat6)
          have k8 := kc.grown hg6 ((HM.out.below HRS.out.b).ne_blk kc (by decide))
          have HM6 : Hid (MkII wb w6 A6 (t + (q + 1)) c6 (LI ++ tab (q + 1) (SR part i))) := Lib.hid (by rw [← Nat.add_assoc, tab_succ, ← List.append_assoc]; exact hM6)
          clear hM6 hg6 hat6
          go_roundw
          case rel => exact ⟨q + 1, A6, c6, by omega, by go_num, rfl, HM6, k8⟩
          case measure => simp [intOf]; omega
        · obtain rfl : q = i + 1 := by omega
          go_wp2
          go_roundw
          case rel => exact ⟨i + 1, _, A', c', by omega, by go_num, rfl, by omega, Lib.hid (by rw [HLI.out]; exact HM.out), kr⟩
          case measure => simp [intOf]; omega
     · obtain rfl : i = n := by omega
       go_wp2
       go_roundw
       case rel => exact ⟨part + 1, _, A', c', by omega, by go_num, rfl, by omega, Lib.hid (by rw [HLO.out]; exact HM.out), kr⟩
       case measure => simp [intOf]; omega
  · have hpe : part = 3 := by omega
    have htb3 : t ≤ 216 := by omega
    have hlpi : ¬ (part : Int) < 3 := by omega
    obtain ⟨LO, hLO⟩ : ∃ z, z = fm 3 (fun part => fm n fun i => tab (i + 1) (SR part i)) := ⟨_, rfl⟩
    rw [hpe, ← hLO] at HM
    rw [← hLO] at HLP
    clear hLO htb hpe hpart
    go_wp2
    go_loopw [6, 11] (fun out i wr => ∃ (i' t : Nat) (A' : Option Addr) (c' : Nat), i' ≤ n ∧ i = .int .i64 i' ∧ out = .slice A' t c' ∧ t ≤ 216 + i' * 64 ∧ Hid (MkII wb wr A' t c' (LO ++ fm i' (fun i => fm n fun j => tab n (FR i j)))) ∧ Blk wr w.heap.size 26 #[.int .i64 p, .slice A k c]) (fun _ i _ => n - (intOf i).toNat)
    case atStart => exact ⟨0, t, _, _, by omega, rfl, rfl, by omega, Lib.hid (by simpa [fm] using HM.out), kr⟩
    case round =>
     obtain ⟨i, t, A', c', hi', rfl, rfl, htb, HM, kr⟩ := hrel
     by_cases hi : i < n
     · obtain ⟨LI, hLI⟩ : ∃ z, z = LO ++ fm i (fun i => fm n fun j => tab n (FR i j)) := ⟨_, rfl⟩
       have HLI : Hid (LO ++ fm (i + 1) (fun i => fm n fun j => tab n (FR i j)) = LI ++ fm n (fun j => tab n (FR i j))) := Lib.hid (by rw [hLI, fm_succ, List.append_assoc])
       rw [← hLI] at HM
       clear hLI
       go_wp2
       go_loopw [6, 12] (fun out j wr => ∃ (j' t : Nat) (A' : Option Addr) (c' : Nat), j' ≤ n ∧ j = .int .i64 j' ∧ out = .slice A' t c' ∧ t ≤ 216 + i * 64 + j' * 8 ∧ Hid (MkII wb wr A' t c' (LI ++ fm j' (fun j => tab n (FR i j)))) ∧ Blk wr w.heap.size 26 #[.int .i64 p, .slice A k c]) (fun _ j _ => n - (intOf j).toNat)
       case atStart => exact ⟨0, t, _, _, by omega, rfl, rfl, by omega, Lib.hid (by simpa [fm] using HM.out), kr⟩
       case round =>
        obtain ⟨j, t, A', c', hj', rfl, rfl, htb, HM, kr⟩ := hrel
        by_cases hj : j < n
        · obtain ⟨LJ, hLJ⟩ : ∃ z, z = LI ++ fm j (fun j => tab n (FR i j)) := ⟨_, rfl⟩
          have HLJ : Hid (LI ++ fm (j + 1) (fun j => tab n (FR i j)) = LJ ++ tab n (FR i j)) := Lib.hid (by rw [hLJ, fm_succ, List.append_assoc])
          rw [← hLJ] at HM
          clear hLJ
          go_wp2
          go_loopw [6, 13] (fun out q wr => ∃ (q' : Nat) (A' : Option Addr) (c' : Nat), q' ≤ n ∧ q = .int .i64 q' ∧ out = .slice A' (t + q') c' ∧ Hid (MkII wb wr A' (t + q') c' (LJ ++ tab q' (FR i j))) ∧ Blk wr w.heap.size 26 #[.int .i64 p, .slice A k c]) (fun _ q _ => n - (intOf q).toNat)
          case atStart => exact ⟨0, _, _, by omega, rfl, rfl, Lib.hid (by simpa [tab] using HM.out), kr⟩
          case round =>
           obtain ⟨q, A', c', hq', rfl, rfl, HM, kr⟩ := hrel
           by_cases hq : q < n
           · obtain ⟨jq, hjqe⟩ : ∃ z, z = j ^^^ q := ⟨_, rfl⟩
             obtain ⟨iq, hiqe⟩ : ∃ z, z = i ^^^ q := ⟨_, rfl⟩
             obtain ⟨ij, hije⟩ : ∃ z, z = i ^^^ j := ⟨_, rfl⟩
             have hjq : jq < n := hjqe ▸ HX.out j q hj hq
             have hiq : iq < n := hiqe ▸ HX.out i q hi hq
             have hij : ij < n := hije ▸ HX.out i j hi hj
             have x1 := xor_all j (by omega) q (by omega)
             have x2 := xor_all i (by omega) q (by omega)
             have x3 := xor_all i (by omega) j (by omega)
             rw [← hjqe] at x1
             rw [← hiqe] at x2
             rw [← hije] at x3
             have HX1 : Hid (jq ^^^ j = q) := Lib.hid (by rw [hjqe, Nat.xor_comm j q, Nat.xor_assoc, Nat.xor_self, Nat.xor_zero])
             have HX2 : Hid (i ^^^ iq = q) := Lib.hid (by rw [hiqe, ← Nat.xor_assoc, Nat.xor_self, Nat.zero_xor])
             have HX3 : Hid (i ^^^ j = ij) := Lib.hid hije.symm
             have HXE : Hid (jq = j ^^^ q ∧ iq = i ^^^ q ∧ ij = i ^^^ j) := Lib.hid ⟨hjqe, hiqe, hije⟩
             obtain ⟨jqn, hjqn⟩ : ∃ z, z = jq * n := ⟨_, rfl⟩
             obtain ⟨s2, hs2⟩ : ∃ z, z = n + iq := ⟨_, rfl⟩
             obtain ⟨sn2, hsn2⟩ : ∃ z, z = s2 * n := ⟨_, rfl⟩
             obtain ⟨s3, hs3⟩ : ∃ z, z = m2 + ij := ⟨_, rfl⟩
             obtain ⟨sn3, hsn3⟩ : ∃ z, z = s3 * n := ⟨_, rfl⟩
             have g1 : (jq : Int) * (n : Int) = (jqn : Int) := by rw [← Int.natCast_mul, ← hjqn]
             have g2 : (n : Int) + (iq : Int) = (s2 : Int) := by omega
             have g3 : (s2 : Int) * (n : Int) = (sn2 : Int) := by rw [← Int.natCast_mul, ← hsn2]
             have g4 : (m2 : Int) + (ij : Int) = (s3 : Int) := by omega
             have g5 : (s3 : Int) * (n : Int) = (sn3 : Int) := by rw [← Int.natCast_mul, ← hsn3]
             have bs2 : s2 ≤ 16 := by omega
             have bs3 : s3 ≤ 24 := by omega
             have le1 : ∀ a, a < n → a * n + n ≤ n2 := fun a h => by
              have := Nat.mul_le_mul_right n (show a + 1 ≤ n by omega)
              rw [Nat.add_mul, Nat.one_mul, ← HN2.out] at this; exact this
             have l1 := le1 jq hjq
             have l2 := le1 iq hiq
             have l3 := le1 ij hij
             rw [← hjqn] at l1
             have HS2 : Hid (sn2 = n * n + iq * n) := Lib.hid (by rw [hsn2, hs2, Nat.add_mul])
             have HS3 : Hid (sn3 = 2 * (n * n) + ij * n) := Lib.hid (by rw [hsn3, hs3, Nat.add_mul, HM2.out.1, Nat.mul_assoc])
             have bN3 := HM2.out.2
             have hn2' := HN2.out
             have hj1 : jqn + n ≤ N := by omega
             have hj2 : sn2 + n ≤ N := by rw [HS2.out, ← hn2']; omega
             have hj3 : sn3 + n ≤ N := by rw [HS3.out, ← hn2']; omega
             clear hn2' bN3 le1 l1 l2 l3
             obtain ⟨a1, ha1⟩ : ∃ z, z = jqn + i := ⟨_, rfl⟩
             obtain ⟨a2, ha2⟩ : ∃ z, z = sn2 + j := ⟨_, rfl⟩
             obtain ⟨a3, ha3⟩ : ∃ z, z = sn3 + q := ⟨_, rfl⟩
             have hba1 : a1 < N := by omega
             have hba2 : a2 < N := by omega
             have hba3 : a3 < N := by omega
             have g6 : (jqn : Int) + (i : Int) = (a1 : Int) := by omega
             have g7 : (sn2 : Int) + (j : Int) = (a2 : Int) := by omega
             have g8 : (sn3 : Int) + (q : Int) = (a3 : Int) := by omega
             have HPOS : Hid (a1 = (j ^^^ q) * n + i ∧ a2 = n * n + ((i ^^^ q) * n + j) ∧ a3 = 2 * (n * n) + ((i ^^^ j) * n + q)) := Lib.hid (by rw [ha1, ha2, ha3, HS2.out, HS3.out, hjqn, hjqe, hiqe, hije]; omega)
             clear hjqe hiqe hije hjqn hs2 hsn2 hs3 hsn3 ha1 ha2 ha3
             have hm0 := Mk.made (E := 2) (n := N) (z := .int .i64 0) (Below.refl wr.heap.size wr) (by simp only [maxLen]; omega)
             rw [ints_replicate] at hm0
             have HR0 : Hid (MkI wr (wr.alloc (.cells (madeCells #[.int .i64 0] N) 2)) (some ⟨wr.heap.size, 0, none⟩) N N (List.replicate N 0)) := Lib.hid hm0
             have hne : w.heap.size ≠ wr.heap.size := by have := kr.lt; omega
             have kv := kr.below HR0.out.b kr.lt
             obtain ⟨q0, q1⟩ := kv.two
             clear hm0
             have hcall1 := HFO.out (wr.alloc (.cells (madeCells #[.int .i64 0] N) 2)) jq j q (HM.out.b.trans (HR0.out.b.mono HM.out.b.size)) hjq hj hq HX1.out
             obtain ⟨f1, hf1⟩ : ∃ z, z = frmS p PM jq j := ⟨_, rfl⟩
             rw [← hf1] at hcall1
             have HF1 := Lib.hid hf1
             clear hf1
             go_wp2_with fail
             refine hcall1.mono ?_
             rintro e u1 ⟨rfl, hbu⟩
             have HU1 := Lib.hid (HR0.out.below hbu)
             obtain ⟨hoc, hof⟩ := mkI_at HU1.out hba1
             have ku := kv.below hbu kv.lt
             have hset := (HU1.out.set a1 (.int .i64 f1)).1
             rw [ints_set] at hset
             have kv := ku.far (p := ⟨wr.heap.size, a1, none⟩) hne (.int .i64 f1)
             obtain ⟨v1, hv1⟩ : ∃ W, W = World.setCell u1 ⟨wr.heap.size, a1, none⟩ (.int .i64 f1) := ⟨_, rfl⟩
             have HV1 := Lib.hid hv1
             rw [← hv1] at hset kv
             have HR1 := Lib.hid hset
             have hcall2 := HFO.out v1 i iq q (HM.out.b.trans (HR1.out.1.mono HM.out.b.size)) hi hiq hq HX2.out
             obtain ⟨q0, q1⟩ := ku.two
             have r0 := kv.two.1
             have r1 := kv.two.2
             rw [hv1] at r0 r1 hcall2
             clear hcall1 hbu hset hv1 ku
             obtain ⟨f2, hf2⟩ : ∃ z, z = frmS p PM i iq := ⟨_, rfl⟩
             rw [← hf2] at hcall2
             have HF2 := Lib.hid hf2
             clear hf2
             go_wp2_with fail
             refine hcall2.mono ?_
             rintro e u2 ⟨rfl, hbu⟩
             rw [← HV1.out] at hbu
             have HU2 := Lib.hid (Mk.below HR1.out hbu)
             obtain ⟨hoc, hof⟩ := mkI_at (L := (List.replicate N 0).set a1 f1) HU2.out hba2
             have ku := kv.below hbu kv.lt
             have hset := (Mk.set HU2.out a2 (.int .i64 f2)).1
             rw [ints_set] at hset
             have kv := ku.far (p := ⟨wr.heap.size, a2, none⟩) hne (.int .i64 f2)
             obtain ⟨v2, hv2⟩ : ∃ W, W = World.setCell u2 ⟨wr.heap.size, a2, none⟩ (.int .i64 f2) := ⟨_, rfl⟩
             have HV2 := Lib.hid hv2
             rw [← hv2] at hset kv
             have HR2 := Lib.hid hset
             have hcall3 := HFO.out v2 i j ij (HM.out.b.trans (HR2.out.1.mono HM.out.b.size)) hi hj hij HX3.out
             obtain ⟨q0, q1⟩ := ku.two
             have r0 := kv.two.1
             have r1 := kv.two.2
             rw [hv2] at r0 r1 hcall3
             clear hcall2 hbu hset hv2 ku
             obtain ⟨f3v, hf3⟩ : ∃ z, z = frmS p PM i j := ⟨_, rfl⟩
             rw [← hf3] at hcall3
             have HF3 := Lib.hid hf3
             clear hf3
             go_wp2_with fail
             refine hcall3.mono ?_
             rintro e u3 ⟨rfl, hbu⟩
             rw [← HV2.out] at hbu
             have HU3 := Lib.hid (Mk.below HR2.out hbu)
             obtain ⟨hoc, hof⟩ := mkI_at (L := ((List.replicate N 0).set a1 f1).set a2 f2) HU3.out hba3
             have ku := kv.below hbu kv.lt
             have hset := (Mk.set HU3.out a3 (.int .i64 f3v)).1
             rw [ints_set] at hset
             have kc := ku.far (p := ⟨wr.heap.size, a3, none⟩) hne (.int .i64 f3v)
             have HRS : Hid (MkI wr (World.setCell u3 ⟨wr.heap.size, a3, none⟩ (.int .i64 f3v)) (some ⟨wr.heap.size, 0, none⟩) N N (FR i j q)) := Lib.hid (by
              have := hset
              rw [HF1.out, HF2.out, HPOS.out.1, HPOS.out.2.1, HXE.out.1, HXE.out.2.1] at this
              rw [HFR.out]; unfold formRowS; rw [HNN.out]
              rw [← HPOS.out.2.2, ← HF3.out]
              exact this)
             clear hcall3 hbu hset
             go_wp2_with (at_builtin; go_loud (refine wpList_appRowG wb wr _ rfl _ _ rfl A' (t + q) c' _ (some ⟨wr.heap.size, 0, none⟩) N N _ HM.out HRS.out (by omega) rfl ?_ ?_); (go_simp); intro A6 c6 w6 hM6 hg6 hat6)
             have k8 := kc.grown hg6 ((HM.out.below HRS.out.b).ne_blk kc (by decide))
             have HM6 : Hid (MkII wb w6 A6 (t + (q + 1)) c6 (LJ ++ tab (q + 1) (FR i j))) := Lib.hid (by rw [← Nat.add_assoc, tab_succ, ← List.append_assoc]; exact hM6)
             clear hM6 hg6 hat6
             go_roundw
             case rel => exact ⟨q + 1, A6, c6, by omega, by go_num, rfl, HM6, k8⟩
             case measure => simp [intOf]; omega
           · obtain rfl : q = n := by omega
             go_wp2
             go_roundw
             case rel => exact ⟨j + 1, _, A', c', by omega, by go_num, rfl, by omega, Lib.hid (by rw [HLJ.out]; exact HM.out), kr⟩
             case measure => simp [intOf]; omega
        · obtain rfl : j = n := by omega
          go_wp2
          go_roundw
          case rel => exact ⟨i + 1, _, A', c', by omega, by go_num, rfl, by omega, Lib.hid (by rw [HLI.out]; exact HM.out), kr⟩
          case measure => simp [intOf]; omega
     · obtain rfl : i = n := by omega
       have hkr := l12Kernel_any p A' t c' LP N wr HP'.out (by omega) (by omega) (by rw [HLP.out]; exact HM.out.rd) HLT.out
       obtain ⟨q0, q1⟩ := kr.two
       go_wp2_with fail
       refine hkr.mono ?_
       rintro e w6 ⟨A6, c6, rfl, hM6⟩
       go_wp2
       go_ret
       exact ⟨A6, c6, rfl, (MkO.after hM6 HM.out.b).after HB1.out⟩
/-- LocalDimension. -/
def ldimR (p : Int) (st : List Int) : Int × Int := if codeT p st [] [] = 0 then ((locN st.length : Nat), 0) else (0, codeT p st [] [])
theorem locN_le : ∀ k, k ≤ 3 → locN k ≤ 28 := by decide
set_option maxHeartbeats 1600000 in
set_option maxRecDepth 8000 in
theorem specLocalDimension_any (p : Int) (A : Option Addr) (k c : Nat) (st : List Int) (w : World) (hk6 : k ≤ 65536) (hc : k ≤ c) (ha : Rd w A k (ints st)) :
    Calls Tryz.prog 9 #[.agg #[.int .i64 p, .slice A k c]] w fun e w' => e = .returned (.tuple #[.int .i64 (ldimR p st).1, .int .i64 (ldimR p st).2]) ∧ Below w.heap.size w w' := by
 have hB0 : Below w.heap.size w (w.alloc (.cells #[.int .i64 p, .slice A k c] 26)) := zG.alloc (Nat.le_refl _) _
 have k0 : Blk (w.alloc (.cells #[.int .i64 p, .slice A k c] 26)) w.heap.size 26 #[.int .i64 p, .slice A k c] := Blk.new _ _ _
 have hck := l14Code_any p A k c st (w.alloc (.cells #[.int .i64 p, .slice A k c] 26)) (by omega) (ha.below hB0)
 obtain ⟨z, hz⟩ : ∃ z, z = ldimR p st := ⟨_, rfl⟩
 rw [← hz]
 unfold ldimR at hz
 obtain ⟨cd, hcd⟩ : ∃ cd, cd = codeT p st [] [] := ⟨_, rfl⟩
 rw [← hcd] at hck hz
 obtain ⟨q0, q1⟩ := k0.two
 by_cases h0 : cd = 0
 · rw [if_pos h0] at hz
   obtain ⟨hdb, hk3, -, -⟩ := codeT_zero (hcd.symm.trans h0)
   obtain ⟨HP, -, hst⟩ := isDb_facts hdb
   have hun := isDb_unit hdb
   rw [ha.lenI] at hk3 hz hun
   have hL := locS_dim HP hk3 hun
   subst h0
   have hin := fun w' (h : Below w.heap.size w w') => l15Basis_any p HP k hk3 A c st w' hc (ha.below h) hst
   obtain ⟨M, hM⟩ : ∃ M, M = kernL p (locS p k st) (3 * (pw k * pw k)) := ⟨_, rfl⟩
   rw [← hM] at hL hin
   rw [hL] at hin
   obtain ⟨dn, hdn⟩ : ∃ z, z = locN k := ⟨_, rfl⟩
   have hd14 : dn ≤ 28 := by rw [hdn]; exact locN_le k (by omega)
   rw [← hdn] at hin hz
   rw [hz]
   have HIN := Lib.hid hin
   clear hcd hz hM hdb HP hst ha hL hun hdn hin
   go_enter Tryz.func9, Tryz.ntmps9
   go_wp2_with fail
   refine hck.mono ?_
   rintro e w2 ⟨rfl, hb2⟩
   have k2 := k0.below hb2 k0.lt
   have hB2 := hB0.trans (hb2.mono hB0.size)
   clear q0 q1 hck k0 hb2
   obtain ⟨q0, q1⟩ := k2.two
   go_wp2_with fail
   refine (HIN.out _ hB2).mono ?_
   rintro e w3 ⟨A3, c3, rfl, hM3⟩
   go_wp2
   go_ret2
   exact ⟨rfl, hB2.trans (hM3.b.mono hB2.size)⟩
 · rw [if_neg h0] at hz
   have hne : (cd == 0) = false := by simpa using h0
   rw [hz]
   clear hcd hz
   go_enter Tryz.func9, Tryz.ntmps9
   go_wp2_with fail
   refine hck.mono ?_
   rintro e w2 ⟨rfl, hb2⟩
   go_wp2
   go_ret2
   exact ⟨rfl, hB0.trans (hb2.mono hB0.size)⟩
set_option maxHeartbeats 1600000 in
set_option maxRecDepth 8000 in
theorem LocalDimension_any (p : Int) (A : Option Addr) (k c : Nat) (st : List Int) (w : World) (hk6 : k ≤ 65536) (hc : k ≤ c) (ha : Rd w A k (ints st)) :
    Calls Tryz.prog 8 #[.agg #[.int .i64 p, .slice A k c]] w fun e w' => e = .returned (.tuple #[.int .i64 (ldimR p st).1, .int .i64 (ldimR p st).2]) ∧ Below w.heap.size w w' := by
 have hB0 : Below w.heap.size w (w.alloc (.cells #[.int .i64 p, .slice A k c] 26)) := zG.alloc (Nat.le_refl _) _
 have k0 : Blk (w.alloc (.cells #[.int .i64 p, .slice A k c] 26)) w.heap.size 26 #[.int .i64 p, .slice A k c] := Blk.new _ _ _
 have hck := checkThree_any p A none none k c 0 0 0 0 st [] [] (w.alloc (.cells #[.int .i64 p, .slice A k c] 26)) hk6 (by omega) (by omega) (ha.below hB0) ⟨[], Rd.nil _ _, rfl, fun k h => absurd h (by simp)⟩ (fun ys hy => absurd hy (by simp)) (RdM3.nil _) (fun M hM => absurd hM (by simp))
 obtain ⟨z, hz⟩ : ∃ z, z = ldimR p st := ⟨_, rfl⟩
 rw [← hz]
 unfold ldimR at hz
 obtain ⟨cd, hcd⟩ : ∃ cd, cd = codeT p st [] [] := ⟨_, rfl⟩
 rw [← hcd] at hck hz
 obtain ⟨q0, q1⟩ := k0.two
 by_cases h0 : cd = 0
 · rw [if_pos h0] at hz
   obtain ⟨hdb, hk3, -, -⟩ := codeT_zero (hcd.symm.trans h0)
   obtain ⟨HP, -, hst⟩ := isDb_facts hdb
   have hun := isDb_unit hdb
   rw [ha.lenI] at hk3 hz hun
   subst h0
   have hlk : k ≤ 3 := by omega
   rw [hz]
   clear hcd hz hdb HP hst ha hun hk3
   go_enter Tryz.func8, Tryz.ntmps8
   go_wp2_with fail
   refine hck.mono ?_
   rintro e w2 ⟨rfl, hb2⟩
   have k2 := k0.below hb2 k0.lt
   have hB2 := hB0.trans (hb2.mono hB0.size)
   clear q0 q1 hck k0 hb2
   obtain ⟨q0, q1⟩ := k2.two
   rcases (show k = 0 ∨ k = 1 ∨ k = 2 ∨ k = 3 by omega) with rfl | rfl | rfl | rfl
   · have hix : ∀ w' : World, (Instr.index 68 (.agg #[.int .i64 0, .int .i64 2, .int .i64 9, .int .i64 28]) (.int .i64 0)).run Tryz.prog w' = .ok (.int .i64 0) w' := fun w' => by kernel_rfl
     go_wp2
     go_ret2
     exact ⟨rfl, hB2⟩
   · have hix : ∀ w' : World, (Instr.index 68 (.agg #[.int .i64 0, .int .i64 2, .int .i64 9, .int .i64 28]) (.int .i64 1)).run Tryz.prog w' = .ok (.int .i64 2) w' := fun w' => by kernel_rfl
     go_wp2
     go_ret2
     exact ⟨rfl, hB2⟩
   · have hix : ∀ w' : World, (Instr.index 68 (.agg #[.int .i64 0, .int .i64 2, .int .i64 9, .int .i64 28]) (.int .i64 2)).run Tryz.prog w' = .ok (.int .i64 9) w' := fun w' => by kernel_rfl
     go_wp2
     go_ret2
     exact ⟨rfl, hB2⟩
   · have hix : ∀ w' : World, (Instr.index 68 (.agg #[.int .i64 0, .int .i64 2, .int .i64 9, .int .i64 28]) (.int .i64 3)).run Tryz.prog w' = .ok (.int .i64 28) w' := fun w' => by kernel_rfl
     go_wp2
     go_ret2
     exact ⟨rfl, hB2⟩
 · rw [if_neg h0] at hz
   have hne : (cd == 0) = false := by simpa using h0
   rw [hz]
   clear hcd hz
   go_enter Tryz.func8, Tryz.ntmps8
   go_wp2_with fail
   refine hck.mono ?_
   rintro e w2 ⟨rfl, hb2⟩
   go_wp2
   go_ret2
   exact ⟨rfl, hB0.trans (hb2.mono hB0.size)⟩
end Go.Proofs.YtaiegpggccdgoaaGreat
namespace Go.Proofs.YtaiegpggccdgoaaGreat
open Go.RowKit
theorem big_any (A : Option Addr) (n c : Nat) (w : World) :
    Calls Tryz.prog 6 #[.slice A n c] w fun e w' => e = .returned (.bool (decide (4096 < n))) ∧ w = w' := by
 go_enter Tryz.func6, Tryz.ntmps6
 by_cases h : 4096 < n
 · have d1 : decide ((4096 : Int) < (n : Int)) = true := by rw [decide_eq_true_eq]; omega
   go_wp2
   go_ret
   exact ⟨ret_bool (by rw [eq_comm, decide_eq_true_eq]; exact h), rfl⟩
 · have d1 : decide ((4096 : Int) < (n : Int)) = false := by rw [decide_eq_false_iff_not]; omega
   go_wp2
   go_ret
   exact ⟨ret_bool (by rw [eq_comm, decide_eq_false_iff_not]; exact h), rfl⟩
end Go.Proofs.YtaiegpggccdgoaaGreat

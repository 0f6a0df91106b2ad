/-
  LawFnProjections: part 3 of the texts that the proof needs. No condition.
-/
import Derived.Test.YtggigolkncckoaaGreatP2
namespace Go.Proofs.YtggigolkncckoaaGreat
open Go.RowKit
theorem and_val : ∀ x : Nat, x < 64 → ∀ y : Nat, y < 64 → bits BinOp.and IntKind.i64 (x : Int) (y : Int) = ((x &&& y : Nat) : Int) := by decide +kernel
theorem andNot_all : ∀ x : Nat, x < 64 → ∀ y : Nat, y < 64 → (bits BinOp.andNot IntKind.i64 (x : Int) (y : Int) == 0) = (x &&& y == x) := by decide +kernel
/-- The left contraction of a multivector into another one. -/
def contrL (p : Int) (sq xs ys : List Int) : List Int := prodL p sq (fun a b => a &&& b == a) xs ys
theorem wedgeL_len (p : Int) (sq xs ys : List Int) : (wedgeL p sq xs ys).length = xs.length := prodL_len _ _ _ _ _
theorem contrL_len (p : Int) (sq xs ys : List Int) : (contrL p sq xs ys).length = xs.length := prodL_len _ _ _ _ _
theorem wedgeL_nums {p : Int} (hp : 0 < p) (sq xs ys : List Int) : NumsL p (wedgeL p sq xs ys) := prodL_nums sq _ xs ys hp
theorem contrL_nums {p : Int} (hp : 0 < p) (sq xs ys : List Int) : NumsL p (contrL p sq xs ys) := prodL_nums sq _ xs ys hp
set_option maxHeartbeats 400000 in
theorem within_takes : Takes 361 (fun a b => a &&& b == a) := by
  intro a b w h1 h2
  have h := andNot_all a h1 b h2
  go_enter Tryz.func361, Tryz.ntmps361
  go_wp2
  go_ret
  exact ⟨rfl, rfl⟩
set_option maxRecDepth 8000 in
set_option maxHeartbeats 800000 in
theorem contract_any (P : Int) (A : Option Addr) (n c : Nat) (sq : List Int) (X : Option Addr) (cx : Nat) (xs : List Int) (Y : Option Addr) (cy : Nat) (ys : List Int) (w : World) (hp : 2 ≤ P) (hp2 : P ≤ 13) (hn : n ≤ 6)
    (ha : Rd w A n (ints sq)) (hs : NumsL P sq) (hx : Rd w X (pw n) (ints xs)) (hxs : NumsL P xs) (hy : Rd w Y (pw n) (ints ys)) (hys : NumsL P ys) :
    Calls Tryz.prog 331 #[.agg #[.int .i64 P, .slice A n c], .slice X (pw n) cx, .slice Y (pw n) cy] w fun e w' => ∃ A' c', e = .returned (.slice A' (pw n) c') ∧ MkI w w' A' (pw n) c' (contrL P sq xs ys) := by
  have hB0 : Below w.heap.size w (w.alloc (.cells #[.int .i64 P, .slice A n c] 26)) := (Below.refl _ w).alloc (Nat.le_refl _) _
  have hcall := product_any 361 _ within_takes (fun _ _ => rfl) P A n c sq X cx xs Y cy ys _ hp hp2 hn (ha.below hB0) hs (hx.below hB0) hxs (hy.below hB0) hys
  go_enter Tryz.func331, Tryz.ntmps331
  go_wp2_with (go_at_call 306; refine hcall.mono ?_; rintro e w2 ⟨G2, d2, rfl, hM3⟩)
  go_ret
  exact ⟨_, _, rfl, hM3.after hB0⟩
theorem set_getD_same (L : List Int) (i : Nat) : L.set i (L.getD i 0) = L := by
  apply list_ext_getD 0 (by simp)
  intro j hj
  rw [List.length_set] at hj
  rw [getD_set]
  split
  · rename_i h; rw [h.1]
  · rfl
/-- A pair that is taken, whatever its numbers. -/
theorem addPair_all {p : Int} {sq : List Int} {t : Nat → Nat → Bool} {x y : List Int} {a : Nat} {out : List Int} {b : Nat} (hp : 0 < p) (hN : NumsL p out) (ht : t a b = true) :
    out.set (a ^^^ b) ((out.getD (a ^^^ b) 0 + x.getD a 0 * y.getD b 0 * fac p sq a b) % p) = addPair p sq t x y a out b := by
  unfold addPair
  by_cases h : x.getD a 0 ≠ 0 ∧ y.getD b 0 ≠ 0 ∧ t a b = true
  · rw [if_pos h]
  · rw [if_neg h]
    have h0 : x.getD a 0 * y.getD b 0 = 0 := by
      by_cases hx : x.getD a 0 = 0
      · rw [hx, Int.zero_mul]
      · by_cases hy : y.getD b 0 = 0
        · rw [hy, Int.mul_zero]
        · exact absurd ⟨hx, hy, ht⟩ h
    obtain ⟨v1, v2⟩ := hN.getD hp (a ^^^ b)
    rw [h0, Int.zero_mul, Int.add_zero, Int.emod_eq_of_lt v1 v2, set_getD_same]
theorem addPair_none {p : Int} {sq : List Int} {t : Nat → Nat → Bool} {x y : List Int} {a : Nat} {out : List Int} {b : Nat} (ht : t a b = false) : addPair p sq t x y a out b = out := by
  unfold addPair
  rw [if_neg (fun h => by rw [ht] at h; exact absurd h.2.2 (by decide))]
set_option maxRecDepth 2000 in
set_option maxHeartbeats 3200000 in
theorem l05Kind_0 (P : Int) (A : Option Addr) (n c : Nat) (sq : List Int) (X : Option Addr) (cx : Nat) (xs : List Int) (Y : Option Addr) (cy : Nat) (ys : List Int) (w : World) (hp : 2 ≤ P) (hp2 : P ≤ 13) (hn : n ≤ 6)
    (ha : Rd w A n (ints sq)) (hs : NumsL P sq) (hx : Rd w X (pw n) (ints xs)) (hxs : NumsL P xs) (hy : Rd w Y (pw n) (ints ys)) (hys : NumsL P ys) :
    Calls Tryz.prog 330 #[.agg #[.int .i64 P, .slice A n c], .slice X (pw n) cx, .slice Y (pw n) cy, .int .i64 0] w fun e w' => ∃ A' c', e = .returned (.slice A' (pw n) c') ∧ MkI w w' A' (pw n) c' (wedgeL P sq xs ys) := by
  have hxl : xs.length = pw n := by have := hx.1; rwa [ints_length] at this
  have hyl : ys.length = pw n := by have := hy.1; rwa [ints_length] at this
  have Hx := Lib.hid hxl; clear hxl
  have Hy := Lib.hid hyl; clear hyl
  obtain ⟨t, ht⟩ : ∃ t : Nat → Nat → Bool, t = fun a b => a &&& b == 0 := ⟨_, rfl⟩
  have HTK : Hid (∀ a b, t a b = (fun a b => a &&& b == 0) a b) := Lib.hid (fun a b => by rw [ht])
  have HDL : Hid (wedgeL P sq xs ys = addRows P sq t xs ys (List.replicate (pw n) 0) (pw n)) := Lib.hid (by unfold wedgeL prodL; rw [Hx.out, ht])
  clear ht
  have hpw : pw n ≤ 64 := pw_le hn
  have hmk := make_i (P := Tryz.prog) 24 2 Tryz.underlying24 info_i (pw n) (by omega)
  have hB0 : Below w.heap.size w (w.alloc (.cells #[.int .i64 P, .slice A n c] 26)) := (Below.refl _ w).alloc (Nat.le_refl _) _
  have hM := Mk.made (E := 2) (n := pw n) (z := .int .i64 0) hB0 (by simp only [maxLen]; omega)
  rw [ints_replicate] at hM
  have hk0 : Blk ((w.alloc (.cells #[.int .i64 P, .slice A n c] 26)).alloc (.cells (madeCells #[.int .i64 0] (pw n)) 2)) w.heap.size 26 #[.int .i64 P, .slice A n c] := (Blk.new w _ _).alloc _
  go_enter Tryz.func330, Tryz.ntmps330
  go_wp2
  clear hmk
  obtain ⟨w1, hw1⟩ : ∃ W, W = (w.alloc (.cells #[.int .i64 P, .slice A n c] 26)).alloc (.cells (madeCells #[.int .i64 0] (pw n)) 2) := ⟨_, rfl⟩
  rw [← hw1] at hM hk0 ⊢
  rw [World.size_alloc] at hM
  clear hB0 hw1
  obtain ⟨g, hg⟩ : ∃ g, g = w.heap.size + 1 := ⟨_, rfl⟩
  rw [← hg] at hM ⊢
  have hg1 : w.heap.size + 1 ≤ g := by omega
  clear hg
  go_loopw [10, 11] (fun i _ wr => ∃ k : Nat, k ≤ pw n ∧ i = .int .i64 k ∧ MkI w wr (some ⟨g, 0, none⟩) (pw n) (pw n) (addRows P sq t xs ys (List.replicate (pw n) 0) k) ∧ Blk wr w.heap.size 26 #[.int .i64 P, .slice A n c]) (fun i _ _ => pw n - (intOf i).toNat)
  case atStart => exact ⟨0, by omega, rfl, by simpa [addRows] using hM, hk0⟩
  case round =>
    obtain ⟨k, hk, rfl, hM2, hk2⟩ := hrel
    clear hM hk0
    by_cases hlt : k < pw n
    · obtain ⟨gx, ox, hX, hxk, hcw⟩ := hx.int hlt
      subst hX
      obtain ⟨x1, x2⟩ := hxs _ (List.getElem_mem hxk)
      have hxn : Hid (xs.getD k 0 = xs[k]) := Lib.hid (by rw [List.getD_eq_getElem?_getD, List.getElem?_eq_getElem hxk]; rfl)
      have hgx := World.block_lt_of_cell? _ _ hcw
      have HGX : Hid (g ≠ gx) := Lib.hid (by simp at hgx; omega)
      have HCW := Lib.hid hcw
      clear hcw hgx
      have hR0 : MkI w wr (some ⟨g, 0, none⟩) (pw n) (pw n) (addRow P sq t xs ys k (addRows P sq t xs ys (List.replicate (pw n) 0) k) 0) := by simpa [addRow] using hM2
      have hN0 : NumsL P (addRows P sq t xs ys (List.replicate (pw n) 0) k) := addRows_nums sq _ xs ys k (by omega) (NumsL.replicate (by omega) _)
      obtain ⟨L0, hL0⟩ : ∃ L, L = addRows P sq t xs ys (List.replicate (pw n) 0) k := ⟨_, rfl⟩
      rw [← hL0] at hR0 hN0
      have HL0 := Lib.hid hL0
      have HN0 := Lib.hid hN0
      clear hM2 hL0 hN0
      go_wp2
      go_loopw [11] (fun i wr => ∃ j : Nat, j ≤ pw n ∧ i = .int .i64 j ∧ MkI w wr (some ⟨g, 0, none⟩) (pw n) (pw n) (addRow P sq t xs ys k L0 j) ∧ Blk wr w.heap.size 26 #[.int .i64 P, .slice A n c]) (fun i _ => pw n - (intOf i).toNat)
      case atStart => exact ⟨0, by omega, rfl, hR0, hk2⟩
      case round =>
        clear hR0 hk2
        obtain ⟨j, hj, rfl, hM3, hk3⟩ := hrel
        have hcx : wr.cell? ⟨gx, ox + k, none⟩ = some (.int .i64 xs[k]) := (hM3.b.cell (World.block_lt_of_cell? _ _ HCW.out)).trans HCW.out
        by_cases hlj : j < pw n
        · obtain ⟨gy, oy, hY, hyj, hcyw⟩ := hy.int hlj
          subst hY
          have hgy := World.block_lt_of_cell? _ _ hcyw
          have HGY : Hid (g ≠ gy) := Lib.hid (by simp at hgy; omega)
          have hcy : wr.cell? ⟨gy, oy + j, none⟩ = some (.int .i64 ys[j]) := (hM3.b.cell (World.block_lt_of_cell? _ _ hcyw)).trans hcyw
          clear hcyw hgy
          obtain ⟨y1, y2⟩ := hys _ (List.getElem_mem hyj)
          have hyn : Hid (ys.getD j 0 = ys[j]) := Lib.hid (by rw [List.getD_eq_getElem?_getD, List.getElem?_eq_getElem hyj]; rfl)
          have hxa := and_val k (by omega) j (by omega)
          have HTKJ := Lib.hid (HTK.out k j)
          obtain ⟨cm, hcm⟩ : ∃ cm, cm = k &&& j := ⟨_, rfl⟩
          rw [← hcm] at hxa
          have HCM : Hid (cm = k &&& j) := Lib.hid hcm
          clear hcm
          by_cases hcc : cm = 0
          case neg =>
            have HF0 : Hid (t k j = false) := Lib.hid (by rw [HTKJ.out]; show (_ == _) = false; rw [← HCM.out]; simpa using hcc)
            have HM := Lib.hid hM3
            have HK3 := Lib.hid hk3
            clear hM3 hk3
            go_wp2
            go_roundw
            case rel => exact ⟨j + 1, by omega, by go_num, by rw [addRow_succ, addPair_none HF0.out]; exact HM.out, HK3.out⟩
            case measure => simp [intOf]; omega
          case pos =>
            have HF1 : Hid (t k j = true) := Lib.hid (by rw [HTKJ.out]; show (_ == _) = true; rw [← HCM.out]; simpa using hcc)
            have hidx : k ^^^ j < pw n := xor_lt hlt hlj
            have hxo := xor_all k (by omega) j (by omega)
            have HNR := Lib.hid (addRow_nums sq t xs ys k j (by omega) HN0.out)
            have hvb := HNR.out.getD (by omega) (k ^^^ j)
            obtain ⟨hoc, hof⟩ := mkI_at hM3.drew hidx
            obtain ⟨v0, hv0⟩ : ∃ v, v = (addRow P sq t xs ys k L0 j).getD (k ^^^ j) 0 := ⟨_, rfl⟩
            rw [← hv0] at hvb hoc
            obtain ⟨v1, v2⟩ := hvb
            have HV0 := Lib.hid hv0
            have hAt : Hid (∀ w', MkI w w' (some ⟨g, 0, none⟩) (pw n) (pw n) (addRow P sq t xs ys k L0 j) → w'.cell? ⟨g, k ^^^ j, none⟩ = some (.int .i64 v0) ∧ w'.frozen? ⟨g, k ^^^ j, none⟩ = false) :=
              Lib.hid (fun w' h => by rw [HV0.out]; exact mkI_at h hidx)
            clear hv0
            obtain ⟨f1, f2⟩ := fac_bound P sq k j hp
            obtain ⟨m1, m2⟩ := mul_small x1 (show xs[k] ≤ 13 by omega) y1 (show ys[j] ≤ 13 by omega)
            obtain ⟨r1, r2⟩ := emod_small (xs[k] * ys[j]) P (by omega)
            obtain ⟨m3, m4⟩ := mul_small r1 (show xs[k] * ys[j] % P ≤ 13 by omega) f1 (show fac P sq k j ≤ 13 by omega)
            have HNE : Hid (g ≠ w.heap.size ∧ g ≠ w.heap.size ∧ g ≠ gx ∧ g ≠ gy) := Lib.hid ⟨by omega, by omega, HGX.out, HGY.out⟩
            have hF : Hid (∀ w', MkI w w' (some ⟨g, 0, none⟩) (pw n) (pw n) (addRow P sq t xs ys k L0 j) → Calls Tryz.prog 310 #[.agg #[.int .i64 P, .slice A n c], .int .i64 k, .int .i64 j] w' fun e w'' => e = .returned (.int .i64 (fac P sq k j)) ∧ Below w'.heap.size w' w'') :=
              Lib.hid (fun w' h => l04Blades_any P A n c sq k j w' hp hp2 hn (ha.below h.b) hs (by omega) (by omega))
            have W1 := i64_fit (xs[k] * ys[j]) (by omega) (by omega)
            have W2 := i64_fit (xs[k] * ys[j] % P * fac P sq k j) (by omega) (by omega)
            have W3 := i64_fit (v0 + xs[k] * ys[j] % P * fac P sq k j) (by omega) (by omega)
            have T1 := Int.tmod_eq_emod_of_nonneg (b := P) m1
            have T2 := Int.tmod_eq_emod_of_nonneg (a := (v0 + xs[k] * ys[j] % P * fac P sq k j)) (b := P) (by omega)
            obtain ⟨kc0, kc1⟩ := hk3.two
            have hoc2 : wr.cell? ⟨g, k ^^^ j, none⟩ = some (.int .i64 v0) := hoc
            have hof2 : wr.frozen? ⟨g, k ^^^ j, none⟩ = false := hof
            have hP0 : (P == 0) = false := by simp; omega
            have hP1 : (P == -1) = false := by simp; omega
            have hP2 : ¬ P = 0 := by omega
            have hO := hM3.drew
            have hk4 := hk3.drew
            go_wp2
            have i1 : (0 : Int) ≤ ((k ^^^ j : Nat) : Int) := by omega
            have i2 : ((k ^^^ j : Nat) : Int) < ((pw n : Nat) : Int) := by omega
            have i3 : (0 : Int) ≤ (k : Int) := by omega
            have i4 : (k : Int) < ((pw n : Nat) : Int) := by omega
            have i5 : (0 : Int) ≤ (j : Int) := by omega
            have i6 : (j : Int) < ((pw n : Nat) : Int) := by omega
            refine wp_obs 32 [[], [], [], [1, 2], [], [], [], [5, 6], [4, 5, 6, 7], [4, 5, 6, 7, 8], [], [], [10, 11], [10, 11, 12], [], [], [14, 15], [14, 15, 16], [10, 11, 12, 13, 14, 15, 16, 17], [], [19], [10, 11, 12, 13, 14, 15, 16, 17, 18, 19, 20], [], [], [], [22, 23, 24], [10, 11, 12, 13, 14, 15, 16, 17, 18, 19, 20, 21, 22, 23, 24, 25], [4, 5, 6, 7, 8, 9, 10, 11, 12, 13, 14, 15, 16, 17, 18, 19, 20, 21, 22, 23, 24, 25, 26], [], [28], [4, 5, 6, 7, 8, 9, 10, 11, 12, 13, 14, 15, 16, 17, 18, 19, 20, 21, 22, 23, 24, 25, 26, 27, 28, 29], [0, 1, 2, 3], [0, 1, 2, 3, 4, 5, 6, 7, 8, 9, 10, 11, 12, 13, 14, 15, 16, 17, 18, 19, 20, 21, 22, 23, 24, 25, 26, 27, 28, 29, 30, 31]] [VIs (.slice (some ⟨g, 0, none⟩) (pw n) (pw n)), VIs (.int .i64 (k)), VIs (.int .i64 (j)), VIs (.int .i64 ((k ^^^ j : Nat))), VIs (.slice (some ⟨g, 0, none⟩) (pw n) (pw n)), VIs (.int .i64 (k)), VIs (.int .i64 (j)), VIs (.int .i64 ((k ^^^ j : Nat))), VIs (.pointer (some ⟨g, k ^^^ j, none⟩)), VIs (.int .i64 (v0)), VIs (.slice (some ⟨gx, ox, none⟩) (pw n) cx), VIs (.int .i64 (k)), VIs (.pointer (some ⟨gx, ox + k, none⟩)), VIs (.int .i64 (xs[k])), VIs (.slice (some ⟨gy, oy, none⟩) (pw n) cy), VIs (.int .i64 (j)), VIs (.pointer (some ⟨gy, oy + j, none⟩)), VIs (.int .i64 (ys[j])), VIs (.int .i64 (xs[k] * ys[j])), VIs (.pointer (some ⟨w.heap.size, 0, none⟩)), VIs (.int .i64 (P)), VIs (.int .i64 (xs[k] * ys[j] % P)), VIs (.agg #[.int .i64 P, .slice A n c]), VIs (.int .i64 (k)), VIs (.int .i64 (j)), VIs (.int .i64 (fac P sq k j)), VIs (.int .i64 (xs[k] * ys[j] % P * fac P sq k j)), VIs (.int .i64 (v0 + xs[k] * ys[j] % P * fac P sq k j)), VIs (.pointer (some ⟨w.heap.size, 0, none⟩)), VIs (.int .i64 (P)), VIs (.int .i64 ((v0 + xs[k] * ys[j] % P * fac P sq k j) % P)), VIs (.pointer (some ⟨g, k ^^^ j, none⟩))] (fun w' => Blk w' w.heap.size 26 #[.int .i64 P, .slice A n c] ∧ MkI w w' (some ⟨g, 0, none⟩) (pw n) (pw n) (addRow P sq t xs ys k L0 j) ∧ w'.cell? ⟨gx, ox + k, none⟩ = some (.int .i64 xs[k]) ∧ w'.cell? ⟨gy, oy + j, none⟩ = some (.int .i64 ys[j])) (by kernel_rfl) (by kernel_rfl) (fun _ _ h hb => ⟨h.1.below hb h.1.lt, h.2.1.below hb, (hb.cell (World.block_lt_of_cell? _ _ h.2.2.1)).trans h.2.2.1, (hb.cell (World.block_lt_of_cell? _ _ h.2.2.2)).trans h.2.2.2⟩) (⟨hk4, hO, hcx, hcy⟩) (fun x => ?_)
            refine obs_step (Eq.trans (by simp only [List.getElem?_toArray, List.getElem?_cons_zero]; exact rfl) rfl) rfl (fun w' hS hV K hK => ?_) ?_
            · obtain ⟨q0, q1⟩ := hS.1.two; obtain ⟨hoc, hof⟩ := hAt.out _ hS.2.1; have q2 := hS.2.2.1; have q3 := hS.2.2.2
              go_simp
              exact hK.out _ _ _ rfl rfl rfl (Below.refl _ _)
            simp only [List.setIfInBounds_toArray, List.set_cons_zero, List.set_cons_succ]
            refine obs_step (Eq.trans (by simp only [List.getElem?_toArray, List.getElem?_cons_succ, List.getElem?_cons_zero]; exact rfl) rfl) rfl (fun w' hS hV K hK => ?_) ?_
            · obtain ⟨q0, q1⟩ := hS.1.two; obtain ⟨hoc, hof⟩ := hAt.out _ hS.2.1; have q2 := hS.2.2.1; have q3 := hS.2.2.2
              go_simp
              exact hK.out _ _ _ rfl rfl rfl (Below.refl _ _)
            simp only [List.setIfInBounds_toArray, List.set_cons_zero, List.set_cons_succ]
            refine obs_step (Eq.trans (by simp only [List.getElem?_toArray, List.getElem?_cons_succ, List.getElem?_cons_zero]; exact rfl) rfl) rfl (fun w' hS hV K hK => ?_) ?_
            · obtain ⟨q0, q1⟩ := hS.1.two; obtain ⟨hoc, hof⟩ := hAt.out _ hS.2.1; have q2 := hS.2.2.1; have q3 := hS.2.2.2
              go_simp
              exact hK.out _ _ _ rfl rfl rfl (Below.refl _ _)
            simp only [List.setIfInBounds_toArray, List.set_cons_zero, List.set_cons_succ]
            refine obs_step (Eq.trans (by simp only [List.getElem?_toArray, List.getElem?_cons_succ, List.getElem?_cons_zero]; exact rfl) rfl) rfl (fun w' hS hV K hK => ?_) ?_
            · have e1 : x 1 = (.int .i64 (k)) := hV 1 (by decide)
              have e2 : x 2 = (.int .i64 (j)) := hV 2 (by decide)
              obtain ⟨q0, q1⟩ := hS.1.two; obtain ⟨hoc, hof⟩ := hAt.out _ hS.2.1; have q2 := hS.2.2.1; have q3 := hS.2.2.2
              go_simp
              exact hK.out _ _ _ rfl rfl rfl (Below.refl _ _)
            simp only [List.setIfInBounds_toArray, List.set_cons_zero, List.set_cons_succ]
            refine obs_step (Eq.trans (by simp only [List.getElem?_toArray, List.getElem?_cons_succ, List.getElem?_cons_zero]; exact rfl) rfl) rfl (fun w' hS hV K hK => ?_) ?_
            · obtain ⟨q0, q1⟩ := hS.1.two; obtain ⟨hoc, hof⟩ := hAt.out _ hS.2.1; have q2 := hS.2.2.1; have q3 := hS.2.2.2
              go_simp
              exact hK.out _ _ _ rfl rfl rfl (Below.refl _ _)
            simp only [List.setIfInBounds_toArray, List.set_cons_zero, List.set_cons_succ]
            refine obs_step (Eq.trans (by simp only [List.getElem?_toArray, List.getElem?_cons_succ, List.getElem?_cons_zero]; exact rfl) rfl) rfl (fun w' hS hV K hK => ?_) ?_
            · obtain ⟨q0, q1⟩ := hS.1.two; obtain ⟨hoc, hof⟩ := hAt.out _ hS.2.1; have q2 := hS.2.2.1; have q3 := hS.2.2.2
              go_simp
              exact hK.out _ _ _ rfl rfl rfl (Below.refl _ _)
            simp only [List.setIfInBounds_toArray, List.set_cons_zero, List.set_cons_succ]
            refine obs_step (Eq.trans (by simp only [List.getElem?_toArray, List.getElem?_cons_succ, List.getElem?_cons_zero]; exact rfl) rfl) rfl (fun w' hS hV K hK => ?_) ?_
            · obtain ⟨q0, q1⟩ := hS.1.two; obtain ⟨hoc, hof⟩ := hAt.out _ hS.2.1; have q2 := hS.2.2.1; have q3 := hS.2.2.2
              go_simp
              exact hK.out _ _ _ rfl rfl rfl (Below.refl _ _)
            simp only [List.setIfInBounds_toArray, List.set_cons_zero, List.set_cons_succ]
            refine obs_step (Eq.trans (by simp only [List.getElem?_toArray, List.getElem?_cons_succ, List.getElem?_cons_zero]; exact rfl) rfl) rfl (fun w' hS hV K hK => ?_) ?_
            · have e5 : x 5 = (.int .i64 (k)) := hV 5 (by decide)
              have e6 : x 6 = (.int .i64 (j)) := hV 6 (by decide)
              obtain ⟨q0, q1⟩ := hS.1.two; obtain ⟨hoc, hof⟩ := hAt.out _ hS.2.1; have q2 := hS.2.2.1; have q3 := hS.2.2.2
              go_simp
              exact hK.out _ _ _ rfl rfl rfl (Below.refl _ _)
            simp only [List.setIfInBounds_toArray, List.set_cons_zero, List.set_cons_succ]
            refine obs_step (Eq.trans (by simp only [List.getElem?_toArray, List.getElem?_cons_succ, List.getElem?_cons_zero]; exact rfl) rfl) rfl (fun w' hS hV K hK => ?_) ?_
            · have e4 : x 4 = (.slice (some ⟨g, 0, none⟩) (pw n) (pw n)) := hV 4 (by decide)
              have e5 : x 5 = (.int .i64 (k)) := hV 5 (by decide)
              have e6 : x 6 = (.int .i64 (j)) := hV 6 (by decide)
              have e7 : x 7 = (.int .i64 ((k ^^^ j : Nat))) := hV 7 (by decide)
              obtain ⟨q0, q1⟩ := hS.1.two; obtain ⟨hoc, hof⟩ := hAt.out _ hS.2.1; have q2 := hS.2.2.1; have q3 := hS.2.2.2
              go_simp
              exact hK.out _ _ _ rfl rfl rfl (Below.refl _ _)
            simp only [List.setIfInBounds_toArray, List.set_cons_zero, List.set_cons_succ]
            refine obs_step (Eq.trans (by simp only [List.getElem?_toArray, List.getElem?_cons_succ, List.getElem?_cons_zero]; exact rfl) rfl) rfl (fun w' hS hV K hK => ?_) ?_
            · have e4 : x 4 = (.slice (some ⟨g, 0, none⟩) (pw n) (pw n)) := hV 4 (by decide)
              have e5 : x 5 = (.int .i64 (k)) := hV 5 (by decide)
              have e6 : x 6 = (.int .i64 (j)) := hV 6 (by decide)
              have e7 : x 7 = (.int .i64 ((k ^^^ j : Nat))) := hV 7 (by decide)
              have e8 : x 8 = (.pointer (some ⟨g, k ^^^ j, none⟩)) := hV 8 (by decide)
              obtain ⟨q0, q1⟩ := hS.1.two; obtain ⟨hoc, hof⟩ := hAt.out _ hS.2.1; have q2 := hS.2.2.1; have q3 := hS.2.2.2
              go_simp
              exact hK.out _ _ _ rfl rfl rfl (Below.refl _ _)
            simp only [List.setIfInBounds_toArray, List.set_cons_zero, List.set_cons_succ]
            refine obs_step (Eq.trans (by simp only [List.getElem?_toArray, List.getElem?_cons_succ, List.getElem?_cons_zero]; exact rfl) rfl) rfl (fun w' hS hV K hK => ?_) ?_
            · obtain ⟨q0, q1⟩ := hS.1.two; obtain ⟨hoc, hof⟩ := hAt.out _ hS.2.1; have q2 := hS.2.2.1; have q3 := hS.2.2.2
              go_simp
              exact hK.out _ _ _ rfl rfl rfl (Below.refl _ _)
            simp only [List.setIfInBounds_toArray, List.set_cons_zero, List.set_cons_succ]
            refine obs_step (Eq.trans (by simp only [List.getElem?_toArray, List.getElem?_cons_succ, List.getElem?_cons_zero]; exact rfl) rfl) rfl (fun w' hS hV K hK => ?_) ?_
            · obtain ⟨q0, q1⟩ := hS.1.two; obtain ⟨hoc, hof⟩ := hAt.out _ hS.2.1; have q2 := hS.2.2.1; have q3 := hS.2.2.2
              go_simp
              exact hK.out _ _ _ rfl rfl rfl (Below.refl _ _)
            simp only [List.setIfInBounds_toArray, List.set_cons_zero, List.set_cons_succ]
            refine obs_step (Eq.trans (by simp only [List.getElem?_toArray, List.getElem?_cons_succ, List.getElem?_cons_zero]; exact rfl) rfl) rfl (fun w' hS hV K hK => ?_) ?_
            · have e10 : x 10 = (.slice (some ⟨gx, ox, none⟩) (pw n) cx) := hV 10 (by decide)
              have e11 : x 11 = (.int .i64 (k)) := hV 11 (by decide)
              obtain ⟨q0, q1⟩ := hS.1.two; obtain ⟨hoc, hof⟩ := hAt.out _ hS.2.1; have q2 := hS.2.2.1; have q3 := hS.2.2.2
              go_simp
              exact hK.out _ _ _ rfl rfl rfl (Below.refl _ _)
            simp only [List.setIfInBounds_toArray, List.set_cons_zero, List.set_cons_succ]
            refine obs_step (Eq.trans (by simp only [List.getElem?_toArray, List.getElem?_cons_succ, List.getElem?_cons_zero]; exact rfl) rfl) rfl (fun w' hS hV K hK => ?_) ?_
            · have e10 : x 10 = (.slice (some ⟨gx, ox, none⟩) (pw n) cx) := hV 10 (by decide)
              have e11 : x 11 = (.int .i64 (k)) := hV 11 (by decide)
              have e12 : x 12 = (.pointer (some ⟨gx, ox + k, none⟩)) := hV 12 (by decide)
              obtain ⟨q0, q1⟩ := hS.1.two; obtain ⟨hoc, hof⟩ := hAt.out _ hS.2.1; have q2 := hS.2.2.1; have q3 := hS.2.2.2
              go_simp
              exact hK.out _ _ _ rfl rfl rfl (Below.refl _ _)
            simp only [List.setIfInBounds_toArray, List.set_cons_zero, List.set_cons_succ]
            refine obs_step (Eq.trans (by simp only [List.getElem?_toArray, List.getElem?_cons_succ, List.getElem?_cons_zero]; exact rfl) rfl) rfl (fun w' hS hV K hK => ?_) ?_
            · obtain ⟨q0, q1⟩ := hS.1.two; obtain ⟨hoc, hof⟩ := hAt.out _ hS.2.1; have q2 := hS.2.2.1; have q3 := hS.2.2.2
              go_simp
              exact hK.out _ _ _ rfl rfl rfl (Below.refl _ _)
            simp only [List.setIfInBounds_toArray, List.set_cons_zero, List.set_cons_succ]
            refine obs_step (Eq.trans (by simp only [List.getElem?_toArray, List.getElem?_cons_succ, List.getElem?_cons_zero]; exact rfl) rfl) rfl (fun w' hS hV K hK => ?_) ?_
            · obtain ⟨q0, q1⟩ := hS.1.two; obtain ⟨hoc, hof⟩ := hAt.out _ hS.2.1; have q2 := hS.2.2.1; have q3 := hS.2.2.2
              go_simp
              exact hK.out _ _ _ rfl rfl rfl (Below.refl _ _)
            simp only [List.setIfInBounds_toArray, List.set_cons_zero, List.set_cons_succ]
            refine obs_step (Eq.trans (by simp only [List.getElem?_toArray, List.getElem?_cons_succ, List.getElem?_cons_zero]; exact rfl) rfl) rfl (fun w' hS hV K hK => ?_) ?_
            · have e14 : x 14 = (.slice (some ⟨gy, oy, none⟩) (pw n) cy) := hV 14 (by decide)
              have e15 : x 15 = (.int .i64 (j)) := hV 15 (by decide)
              obtain ⟨q0, q1⟩ := hS.1.two; obtain ⟨hoc, hof⟩ := hAt.out _ hS.2.1; have q2 := hS.2.2.1; have q3 := hS.2.2.2
              go_simp
              exact hK.out _ _ _ rfl rfl rfl (Below.refl _ _)
            simp only [List.setIfInBounds_toArray, List.set_cons_zero, List.set_cons_succ]
            refine obs_step (Eq.trans (by simp only [List.getElem?_toArray, List.getElem?_cons_succ, List.getElem?_cons_zero]; exact rfl) rfl) rfl (fun w' hS hV K hK => ?_) ?_
            · have e14 : x 14 = (.slice (some ⟨gy, oy, none⟩) (pw n) cy) := hV 14 (by decide)
              have e15 : x 15 = (.int .i64 (j)) := hV 15 (by decide)
              have e16 : x 16 = (.pointer (some ⟨gy, oy + j, none⟩)) := hV 16 (by decide)
              obtain ⟨q0, q1⟩ := hS.1.two; obtain ⟨hoc, hof⟩ := hAt.out _ hS.2.1; have q2 := hS.2.2.1; have q3 := hS.2.2.2
              go_simp
              exact hK.out _ _ _ rfl rfl rfl (Below.refl _ _)
            simp only [List.setIfInBounds_toArray, List.set_cons_zero, List.set_cons_succ]
            refine obs_step (Eq.trans (by simp only [List.getElem?_toArray, List.getElem?_cons_succ, List.getElem?_cons_zero]; exact rfl) rfl) rfl (fun w' hS hV K hK => ?_) ?_
            · have e10 : x 10 = (.slice (some ⟨gx, ox, none⟩) (pw n) cx) := hV 10 (by decide)
              have e11 : x 11 = (.int .i64 (k)) := hV 11 (by decide)
              have e12 : x 12 = (.pointer (some ⟨gx, ox + k, none⟩)) := hV 12 (by decide)
              have e13 : x 13 = (.int .i64 (xs[k])) := hV 13 (by decide)
              have e14 : x 14 = (.slice (some ⟨gy, oy, none⟩) (pw n) cy) := hV 14 (by decide)
              have e15 : x 15 = (.int .i64 (j)) := hV 15 (by decide)
              have e16 : x 16 = (.pointer (some ⟨gy, oy + j, none⟩)) := hV 16 (by decide)
              have e17 : x 17 = (.int .i64 (ys[j])) := hV 17 (by decide)
              obtain ⟨q0, q1⟩ := hS.1.two; obtain ⟨hoc, hof⟩ := hAt.out _ hS.2.1; have q2 := hS.2.2.1; have q3 := hS.2.2.2
              go_simp
              exact hK.out _ _ _ rfl rfl rfl (Below.refl _ _)
            simp only [List.setIfInBounds_toArray, List.set_cons_zero, List.set_cons_succ]
            refine obs_step (Eq.trans (by simp only [List.getElem?_toArray, List.getElem?_cons_succ, List.getElem?_cons_zero]; exact rfl) rfl) rfl (fun w' hS hV K hK => ?_) ?_
            · obtain ⟨q0, q1⟩ := hS.1.two; obtain ⟨hoc, hof⟩ := hAt.out _ hS.2.1; have q2 := hS.2.2.1; have q3 := hS.2.2.2
              go_simp
              exact hK.out _ _ _ rfl rfl rfl (Below.refl _ _)
            simp only [List.setIfInBounds_toArray, List.set_cons_zero, List.set_cons_succ]
            refine obs_step (Eq.trans (by simp only [List.getElem?_toArray, List.getElem?_cons_succ, List.getElem?_cons_zero]; exact rfl) rfl) rfl (fun w' hS hV K hK => ?_) ?_
            · have e19 : x 19 = (.pointer (some ⟨w.heap.size, 0, none⟩)) := hV 19 (by decide)
              obtain ⟨q0, q1⟩ := hS.1.two; obtain ⟨hoc, hof⟩ := hAt.out _ hS.2.1; have q2 := hS.2.2.1; have q3 := hS.2.2.2
              go_simp
              exact hK.out _ _ _ rfl rfl rfl (Below.refl _ _)
            simp only [List.setIfInBounds_toArray, List.set_cons_zero, List.set_cons_succ]
            refine obs_step (Eq.trans (by simp only [List.getElem?_toArray, List.getElem?_cons_succ, List.getElem?_cons_zero]; exact rfl) rfl) rfl (fun w' hS hV K hK => ?_) ?_
            · have e10 : x 10 = (.slice (some ⟨gx, ox, none⟩) (pw n) cx) := hV 10 (by decide)
              have e11 : x 11 = (.int .i64 (k)) := hV 11 (by decide)
              have e12 : x 12 = (.pointer (some ⟨gx, ox + k, none⟩)) := hV 12 (by decide)
              have e13 : x 13 = (.int .i64 (xs[k])) := hV 13 (by decide)
              have e14 : x 14 = (.slice (some ⟨gy, oy, none⟩) (pw n) cy) := hV 14 (by decide)
              have e15 : x 15 = (.int .i64 (j)) := hV 15 (by decide)
              have e16 : x 16 = (.pointer (some ⟨gy, oy + j, none⟩)) := hV 16 (by decide)
              have e17 : x 17 = (.int .i64 (ys[j])) := hV 17 (by decide)
              have e18 : x 18 = (.int .i64 (xs[k] * ys[j])) := hV 18 (by decide)
              have e19 : x 19 = (.pointer (some ⟨w.heap.size, 0, none⟩)) := hV 19 (by decide)
              have e20 : x 20 = (.int .i64 (P)) := hV 20 (by decide)
              obtain ⟨q0, q1⟩ := hS.1.two; obtain ⟨hoc, hof⟩ := hAt.out _ hS.2.1; have q2 := hS.2.2.1; have q3 := hS.2.2.2
              go_simp
              exact hK.out _ _ _ rfl rfl rfl (Below.refl _ _)
            simp only [List.setIfInBounds_toArray, List.set_cons_zero, List.set_cons_succ]
            refine obs_step (Eq.trans (by simp only [List.getElem?_toArray, List.getElem?_cons_succ, List.getElem?_cons_zero]; exact rfl) rfl) rfl (fun w' hS hV K hK => ?_) ?_
            · obtain ⟨q0, q1⟩ := hS.1.two; obtain ⟨hoc, hof⟩ := hAt.out _ hS.2.1; have q2 := hS.2.2.1; have q3 := hS.2.2.2
              go_simp
              exact hK.out _ _ _ rfl rfl rfl (Below.refl _ _)
            simp only [List.setIfInBounds_toArray, List.set_cons_zero, List.set_cons_succ]
            refine obs_step (Eq.trans (by simp only [List.getElem?_toArray, List.getElem?_cons_succ, List.getElem?_cons_zero]; exact rfl) rfl) rfl (fun w' hS hV K hK => ?_) ?_
            · obtain ⟨q0, q1⟩ := hS.1.two; obtain ⟨hoc, hof⟩ := hAt.out _ hS.2.1; have q2 := hS.2.2.1; have q3 := hS.2.2.2
              go_simp
              exact hK.out _ _ _ rfl rfl rfl (Below.refl _ _)
            simp only [List.setIfInBounds_toArray, List.set_cons_zero, List.set_cons_succ]
            refine obs_step (Eq.trans (by simp only [List.getElem?_toArray, List.getElem?_cons_succ, List.getElem?_cons_zero]; exact rfl) rfl) rfl (fun w' hS hV K hK => ?_) ?_
            · obtain ⟨q0, q1⟩ := hS.1.two; obtain ⟨hoc, hof⟩ := hAt.out _ hS.2.1; have q2 := hS.2.2.1; have q3 := hS.2.2.2
              go_simp
              exact hK.out _ _ _ rfl rfl rfl (Below.refl _ _)
            simp only [List.setIfInBounds_toArray, List.set_cons_zero, List.set_cons_succ]
            refine obs_step (Eq.trans (by simp only [List.getElem?_toArray, List.getElem?_cons_succ, List.getElem?_cons_zero]; exact rfl) rfl) rfl (fun w' hS hV K hK => ?_) ?_
            · have e22 : x 22 = (.agg #[.int .i64 P, .slice A n c]) := hV 22 (by decide)
              have e23 : x 23 = (.int .i64 (k)) := hV 23 (by decide)
              have e24 : x 24 = (.int .i64 (j)) := hV 24 (by decide)
              obtain ⟨q0, q1⟩ := hS.1.two; obtain ⟨hoc, hof⟩ := hAt.out _ hS.2.1; have q2 := hS.2.2.1; have q3 := hS.2.2.2
              go_simp
              refine (hF.out _ hS.2.1).mono ?_
              rintro e v1 ⟨rfl, hb⟩
              exact hK.out _ _ _ rfl rfl rfl hb
            simp only [List.setIfInBounds_toArray, List.set_cons_zero, List.set_cons_succ]
            refine obs_step (Eq.trans (by simp only [List.getElem?_toArray, List.getElem?_cons_succ, List.getElem?_cons_zero]; exact rfl) rfl) rfl (fun w' hS hV K hK => ?_) ?_
            · have e10 : x 10 = (.slice (some ⟨gx, ox, none⟩) (pw n) cx) := hV 10 (by decide)
              have e11 : x 11 = (.int .i64 (k)) := hV 11 (by decide)
              have e12 : x 12 = (.pointer (some ⟨gx, ox + k, none⟩)) := hV 12 (by decide)
              have e13 : x 13 = (.int .i64 (xs[k])) := hV 13 (by decide)
              have e14 : x 14 = (.slice (some ⟨gy, oy, none⟩) (pw n) cy) := hV 14 (by decide)
              have e15 : x 15 = (.int .i64 (j)) := hV 15 (by decide)
              have e16 : x 16 = (.pointer (some ⟨gy, oy + j, none⟩)) := hV 16 (by decide)
              have e17 : x 17 = (.int .i64 (ys[j])) := hV 17 (by decide)
              have e18 : x 18 = (.int .i64 (xs[k] * ys[j])) := hV 18 (by decide)
              have e19 : x 19 = (.pointer (some ⟨w.heap.size, 0, none⟩)) := hV 19 (by decide)
              have e20 : x 20 = (.int .i64 (P)) := hV 20 (by decide)
              have e21 : x 21 = (.int .i64 (xs[k] * ys[j] % P)) := hV 21 (by decide)
              have e22 : x 22 = (.agg #[.int .i64 P, .slice A n c]) := hV 22 (by decide)
              have e23 : x 23 = (.int .i64 (k)) := hV 23 (by decide)
              have e24 : x 24 = (.int .i64 (j)) := hV 24 (by decide)
              have e25 : x 25 = (.int .i64 (fac P sq k j)) := hV 25 (by decide)
              obtain ⟨q0, q1⟩ := hS.1.two; obtain ⟨hoc, hof⟩ := hAt.out _ hS.2.1; have q2 := hS.2.2.1; have q3 := hS.2.2.2
              go_simp
              exact hK.out _ _ _ rfl rfl rfl (Below.refl _ _)
            simp only [List.setIfInBounds_toArray, List.set_cons_zero, List.set_cons_succ]
            refine obs_step (Eq.trans (by simp only [List.getElem?_toArray, List.getElem?_cons_succ, List.getElem?_cons_zero]; exact rfl) rfl) rfl (fun w' hS hV K hK => ?_) ?_
            · have e4 : x 4 = (.slice (some ⟨g, 0, none⟩) (pw n) (pw n)) := hV 4 (by decide)
              have e5 : x 5 = (.int .i64 (k)) := hV 5 (by decide)
              have e6 : x 6 = (.int .i64 (j)) := hV 6 (by decide)
              have e7 : x 7 = (.int .i64 ((k ^^^ j : Nat))) := hV 7 (by decide)
              have e8 : x 8 = (.pointer (some ⟨g, k ^^^ j, none⟩)) := hV 8 (by decide)
              have e9 : x 9 = (.int .i64 (v0)) := hV 9 (by decide)
              have e10 : x 10 = (.slice (some ⟨gx, ox, none⟩) (pw n) cx) := hV 10 (by decide)
              have e11 : x 11 = (.int .i64 (k)) := hV 11 (by decide)
              have e12 : x 12 = (.pointer (some ⟨gx, ox + k, none⟩)) := hV 12 (by decide)
              have e13 : x 13 = (.int .i64 (xs[k])) := hV 13 (by decide)
              have e14 : x 14 = (.slice (some ⟨gy, oy, none⟩) (pw n) cy) := hV 14 (by decide)
              have e15 : x 15 = (.int .i64 (j)) := hV 15 (by decide)
              have e16 : x 16 = (.pointer (some ⟨gy, oy + j, none⟩)) := hV 16 (by decide)
              have e17 : x 17 = (.int .i64 (ys[j])) := hV 17 (by decide)
              have e18 : x 18 = (.int .i64 (xs[k] * ys[j])) := hV 18 (by decide)
              have e19 : x 19 = (.pointer (some ⟨w.heap.size, 0, none⟩)) := hV 19 (by decide)
              have e20 : x 20 = (.int .i64 (P)) := hV 20 (by decide)
              have e21 : x 21 = (.int .i64 (xs[k] * ys[j] % P)) := hV 21 (by decide)
              have e22 : x 22 = (.agg #[.int .i64 P, .slice A n c]) := hV 22 (by decide)
              have e23 : x 23 = (.int .i64 (k)) := hV 23 (by decide)
              have e24 : x 24 = (.int .i64 (j)) := hV 24 (by decide)
              have e25 : x 25 = (.int .i64 (fac P sq k j)) := hV 25 (by decide)
              have e26 : x 26 = (.int .i64 (xs[k] * ys[j] % P * fac P sq k j)) := hV 26 (by decide)
              obtain ⟨q0, q1⟩ := hS.1.two; obtain ⟨hoc, hof⟩ := hAt.out _ hS.2.1; have q2 := hS.2.2.1; have q3 := hS.2.2.2
              go_simp
              exact hK.out _ _ _ rfl rfl rfl (Below.refl _ _)
            simp only [List.setIfInBounds_toArray, List.set_cons_zero, List.set_cons_succ]
            refine obs_step (Eq.trans (by simp only [List.getElem?_toArray, List.getElem?_cons_succ, List.getElem?_cons_zero]; exact rfl) rfl) rfl (fun w' hS hV K hK => ?_) ?_
            · obtain ⟨q0, q1⟩ := hS.1.two; obtain ⟨hoc, hof⟩ := hAt.out _ hS.2.1; have q2 := hS.2.2.1; have q3 := hS.2.2.2
              go_simp
              exact hK.out _ _ _ rfl rfl rfl (Below.refl _ _)
            simp only [List.setIfInBounds_toArray, List.set_cons_zero, List.set_cons_succ]
            refine obs_step (Eq.trans (by simp only [List.getElem?_toArray, List.getElem?_cons_succ, List.getElem?_cons_zero]; exact rfl) rfl) rfl (fun w' hS hV K hK => ?_) ?_
            · have e28 : x 28 = (.pointer (some ⟨w.heap.size, 0, none⟩)) := hV 28 (by decide)
              obtain ⟨q0, q1⟩ := hS.1.two; obtain ⟨hoc, hof⟩ := hAt.out _ hS.2.1; have q2 := hS.2.2.1; have q3 := hS.2.2.2
              go_simp
              exact hK.out _ _ _ rfl rfl rfl (Below.refl _ _)
            simp only [List.setIfInBounds_toArray, List.set_cons_zero, List.set_cons_succ]
            refine obs_step (Eq.trans (by simp only [List.getElem?_toArray, List.getElem?_cons_succ, List.getElem?_cons_zero]; exact rfl) rfl) rfl (fun w' hS hV K hK => ?_) ?_
            · have e4 : x 4 = (.slice (some ⟨g, 0, none⟩) (pw n) (pw n)) := hV 4 (by decide)
              have e5 : x 5 = (.int .i64 (k)) := hV 5 (by decide)
              have e6 : x 6 = (.int .i64 (j)) := hV 6 (by decide)
              have e7 : x 7 = (.int .i64 ((k ^^^ j : Nat))) := hV 7 (by decide)
              have e8 : x 8 = (.pointer (some ⟨g, k ^^^ j, none⟩)) := hV 8 (by decide)
              have e9 : x 9 = (.int .i64 (v0)) := hV 9 (by decide)
              have e10 : x 10 = (.slice (some ⟨gx, ox, none⟩) (pw n) cx) := hV 10 (by decide)
              have e11 : x 11 = (.int .i64 (k)) := hV 11 (by decide)
              have e12 : x 12 = (.pointer (some ⟨gx, ox + k, none⟩)) := hV 12 (by decide)
              have e13 : x 13 = (.int .i64 (xs[k])) := hV 13 (by decide)
              have e14 : x 14 = (.slice (some ⟨gy, oy, none⟩) (pw n) cy) := hV 14 (by decide)
              have e15 : x 15 = (.int .i64 (j)) := hV 15 (by decide)
              have e16 : x 16 = (.pointer (some ⟨gy, oy + j, none⟩)) := hV 16 (by decide)
              have e17 : x 17 = (.int .i64 (ys[j])) := hV 17 (by decide)
              have e18 : x 18 = (.int .i64 (xs[k] * ys[j])) := hV 18 (by decide)
              have e19 : x 19 = (.pointer (some ⟨w.heap.size, 0, none⟩)) := hV 19 (by decide)
              have e20 : x 20 = (.int .i64 (P)) := hV 20 (by decide)
              have e21 : x 21 = (.int .i64 (xs[k] * ys[j] % P)) := hV 21 (by decide)
              have e22 : x 22 = (.agg #[.int .i64 P, .slice A n c]) := hV 22 (by decide)
              have e23 : x 23 = (.int .i64 (k)) := hV 23 (by decide)
              have e24 : x 24 = (.int .i64 (j)) := hV 24 (by decide)
              have e25 : x 25 = (.int .i64 (fac P sq k j)) := hV 25 (by decide)
              have e26 : x 26 = (.int .i64 (xs[k] * ys[j] % P * fac P sq k j)) := hV 26 (by decide)
              have e27 : x 27 = (.int .i64 (v0 + xs[k] * ys[j] % P * fac P sq k j)) := hV 27 (by decide)
              have e28 : x 28 = (.pointer (some ⟨w.heap.size, 0, none⟩)) := hV 28 (by decide)
              have e29 : x 29 = (.int .i64 (P)) := hV 29 (by decide)
              obtain ⟨q0, q1⟩ := hS.1.two; obtain ⟨hoc, hof⟩ := hAt.out _ hS.2.1; have q2 := hS.2.2.1; have q3 := hS.2.2.2
              go_simp
              exact hK.out _ _ _ rfl rfl rfl (Below.refl _ _)
            simp only [List.setIfInBounds_toArray, List.set_cons_zero, List.set_cons_succ]
            refine obs_step (Eq.trans (by simp only [List.getElem?_toArray, List.getElem?_cons_succ, List.getElem?_cons_zero]; exact rfl) rfl) rfl (fun w' hS hV K hK => ?_) ?_
            · have e0 : x 0 = (.slice (some ⟨g, 0, none⟩) (pw n) (pw n)) := hV 0 (by decide)
              have e1 : x 1 = (.int .i64 (k)) := hV 1 (by decide)
              have e2 : x 2 = (.int .i64 (j)) := hV 2 (by decide)
              have e3 : x 3 = (.int .i64 ((k ^^^ j : Nat))) := hV 3 (by decide)
              obtain ⟨q0, q1⟩ := hS.1.two; obtain ⟨hoc, hof⟩ := hAt.out _ hS.2.1; have q2 := hS.2.2.1; have q3 := hS.2.2.2
              go_simp
              exact hK.out _ _ _ rfl rfl rfl (Below.refl _ _)
            simp only [List.setIfInBounds_toArray, List.set_cons_zero, List.set_cons_succ]
            refine fun w' hS hV => ?_
            have e0 : x 0 = (.slice (some ⟨g, 0, none⟩) (pw n) (pw n)) := hV 0 (by decide)
            have e1 : x 1 = (.int .i64 (k)) := hV 1 (by decide)
            have e2 : x 2 = (.int .i64 (j)) := hV 2 (by decide)
            have e3 : x 3 = (.int .i64 ((k ^^^ j : Nat))) := hV 3 (by decide)
            have e4 : x 4 = (.slice (some ⟨g, 0, none⟩) (pw n) (pw n)) := hV 4 (by decide)
            have e5 : x 5 = (.int .i64 (k)) := hV 5 (by decide)
            have e6 : x 6 = (.int .i64 (j)) := hV 6 (by decide)
            have e7 : x 7 = (.int .i64 ((k ^^^ j : Nat))) := hV 7 (by decide)
            have e8 : x 8 = (.pointer (some ⟨g, k ^^^ j, none⟩)) := hV 8 (by decide)
            have e9 : x 9 = (.int .i64 (v0)) := hV 9 (by decide)
            have e10 : x 10 = (.slice (some ⟨gx, ox, none⟩) (pw n) cx) := hV 10 (by decide)
            have e11 : x 11 = (.int .i64 (k)) := hV 11 (by decide)
            have e12 : x 12 = (.pointer (some ⟨gx, ox + k, none⟩)) := hV 12 (by decide)
            have e13 : x 13 = (.int .i64 (xs[k])) := hV 13 (by decide)
            have e14 : x 14 = (.slice (some ⟨gy, oy, none⟩) (pw n) cy) := hV 14 (by decide)
            have e15 : x 15 = (.int .i64 (j)) := hV 15 (by decide)
            have e16 : x 16 = (.pointer (some ⟨gy, oy + j, none⟩)) := hV 16 (by decide)
            have e17 : x 17 = (.int .i64 (ys[j])) := hV 17 (by decide)
            have e18 : x 18 = (.int .i64 (xs[k] * ys[j])) := hV 18 (by decide)
            have e19 : x 19 = (.pointer (some ⟨w.heap.size, 0, none⟩)) := hV 19 (by decide)
            have e20 : x 20 = (.int .i64 (P)) := hV 20 (by decide)
            have e21 : x 21 = (.int .i64 (xs[k] * ys[j] % P)) := hV 21 (by decide)
            have e22 : x 22 = (.agg #[.int .i64 P, .slice A n c]) := hV 22 (by decide)
            have e23 : x 23 = (.int .i64 (k)) := hV 23 (by decide)
            have e24 : x 24 = (.int .i64 (j)) := hV 24 (by decide)
            have e25 : x 25 = (.int .i64 (fac P sq k j)) := hV 25 (by decide)
            have e26 : x 26 = (.int .i64 (xs[k] * ys[j] % P * fac P sq k j)) := hV 26 (by decide)
            have e27 : x 27 = (.int .i64 (v0 + xs[k] * ys[j] % P * fac P sq k j)) := hV 27 (by decide)
            have e28 : x 28 = (.pointer (some ⟨w.heap.size, 0, none⟩)) := hV 28 (by decide)
            have e29 : x 29 = (.int .i64 (P)) := hV 29 (by decide)
            have e30 : x 30 = (.int .i64 ((v0 + xs[k] * ys[j] % P * fac P sq k j) % P)) := hV 30 (by decide)
            have e31 : x 31 = (.pointer (some ⟨g, k ^^^ j, none⟩)) := hV 31 (by decide)
            simp only [e0, e1, e2, e3, e4, e5, e6, e7, e8, e9, e10, e11, e12, e13, e14, e15, e16, e17, e18, e19, e20, e21, e22, e23, e24, e25, e26, e27, e28, e29, e30, e31]
            clear e0 e1 e2 e3 e4 e5 e6 e7 e8 e9 e10 e11 e12 e13 e14 e15 e16 e17 e18 e19 e20 e21 e22 e23 e24 e25 e26 e27 e28 e29 e30 e31
            obtain ⟨hk4, hO, s3, s4⟩ := hS
            obtain ⟨hoc, hof⟩ := hAt.out _ hO
            refine any_one (j := 32) (by kernel_rfl) (Eq.trans (by simp only [List.getElem?_toArray, List.getElem?_cons_succ, List.getElem?_cons_zero]; exact rfl) rfl) (fun K hK => ?_)
            go_simp
            refine hK.out _ _ (wpAny_done (by kernel_rfl) ?_ _)
            have hset := (hO.set (k ^^^ j) (.int .i64 ((v0 + xs[k] * ys[j] % P * fac P sq k j) % P))).1
            rw [ints_set] at hset
            have hkn := hk4.far (p := ⟨g, k ^^^ j, none⟩) HNE.out.1.symm (.int .i64 ((v0 + xs[k] * ys[j] % P * fac P sq k j) % P))
            clear W1 W2 W3 T1 T2 hoc hof hO hk4
            go_wp2
            go_roundw
            case rel => exact ⟨j + 1, by omega, by go_num, by rw [addRow_succ, ← addPair_all (by omega) HNR.out HF1.out, ← HV0.out, hxn.out, hyn.out, ← mod_mul_add v0 (xs[k] * ys[j]) (fac P sq k j) P]; exact hset, hkn⟩
            case measure => simp [intOf]; omega
        · obtain rfl : j = pw n := by omega
          have HM := Lib.hid hM3
          clear hM3
          go_wp2
          go_roundw
          case rel => exact ⟨k + 1, by omega, by go_num, by rw [addRows_succ, Hy.out, ← HL0.out]; exact HM.out, hk3⟩
          case measure => simp [intOf]; omega
    · obtain rfl : k = pw n := by omega
      go_wp2
      go_ret
      exact ⟨_, _, rfl, by rw [HDL.out]; exact hM2⟩
set_option maxRecDepth 2000 in
set_option maxHeartbeats 3200000 in
theorem l05Kind_1 (P : Int) (A : Option Addr) (n c : Nat) (sq : List Int) (X : Option Addr) (cx : Nat) (xs : List Int) (Y : Option Addr) (cy : Nat) (ys : List Int) (w : World) (hp : 2 ≤ P) (hp2 : P ≤ 13) (hn : n ≤ 6)
    (ha : Rd w A n (ints sq)) (hs : NumsL P sq) (hx : Rd w X (pw n) (ints xs)) (hxs : NumsL P xs) (hy : Rd w Y (pw n) (ints ys)) (hys : NumsL P ys) :
    Calls Tryz.prog 330 #[.agg #[.int .i64 P, .slice A n c], .slice X (pw n) cx, .slice Y (pw n) cy, .int .i64 1] w fun e w' => ∃ A' c', e = .returned (.slice A' (pw n) c') ∧ MkI w w' A' (pw n) c' (contrL P sq xs ys) := by
  have hxl : xs.length = pw n := by have := hx.1; rwa [ints_length] at this
  have hyl : ys.length = pw n := by have := hy.1; rwa [ints_length] at this
  have Hx := Lib.hid hxl; clear hxl
  have Hy := Lib.hid hyl; clear hyl
  obtain ⟨t, ht⟩ : ∃ t : Nat → Nat → Bool, t = fun a b => a &&& b == a := ⟨_, rfl⟩
  have HTK : Hid (∀ a b, t a b = (fun a b => a &&& b == a) a b) := Lib.hid (fun a b => by rw [ht])
  have HDL : Hid (contrL P sq xs ys = addRows P sq t xs ys (List.replicate (pw n) 0) (pw n)) := Lib.hid (by unfold contrL prodL; rw [Hx.out, ht])
  clear ht
  have hpw : pw n ≤ 64 := pw_le hn
  have hmk := make_i (P := Tryz.prog) 24 2 Tryz.underlying24 info_i (pw n) (by omega)
  have hB0 : Below w.heap.size w (w.alloc (.cells #[.int .i64 P, .slice A n c] 26)) := (Below.refl _ w).alloc (Nat.le_refl _) _
  have hM := Mk.made (E := 2) (n := pw n) (z := .int .i64 0) hB0 (by simp only [maxLen]; omega)
  rw [ints_replicate] at hM
  have hk0 : Blk ((w.alloc (.cells #[.int .i64 P, .slice A n c] 26)).alloc (.cells (madeCells #[.int .i64 0] (pw n)) 2)) w.heap.size 26 #[.int .i64 P, .slice A n c] := (Blk.new w _ _).alloc _
  go_enter Tryz.func330, Tryz.ntmps330
  go_wp2
  clear hmk
  obtain ⟨w1, hw1⟩ : ∃ W, W = (w.alloc (.cells #[.int .i64 P, .slice A n c] 26)).alloc (.cells (madeCells #[.int .i64 0] (pw n)) 2) := ⟨_, rfl⟩
  rw [← hw1] at hM hk0 ⊢
  rw [World.size_alloc] at hM
  clear hB0 hw1
  obtain ⟨g, hg⟩ : ∃ g, g = w.heap.size + 1 := ⟨_, rfl⟩
  rw [← hg] at hM ⊢
  have hg1 : w.heap.size + 1 ≤ g := by omega
  clear hg
  go_loopw [10, 11] (fun i _ wr => ∃ k : Nat, k ≤ pw n ∧ i = .int .i64 k ∧ MkI w wr (some ⟨g, 0, none⟩) (pw n) (pw n) (addRows P sq t xs ys (List.replicate (pw n) 0) k) ∧ Blk wr w.heap.size 26 #[.int .i64 P, .slice A n c]) (fun i _ _ => pw n - (intOf i).toNat)
  case atStart => exact ⟨0, by omega, rfl, by simpa [addRows] using hM, hk0⟩
  case round =>
    obtain ⟨k, hk, rfl, hM2, hk2⟩ := hrel
    clear hM hk0
    by_cases hlt : k < pw n
    · obtain ⟨gx, ox, hX, hxk, hcw⟩ := hx.int hlt
      subst hX
      obtain ⟨x1, x2⟩ := hxs _ (List.getElem_mem hxk)
      have hxn : Hid (xs.getD k 0 = xs[k]) := Lib.hid (by rw [List.getD_eq_getElem?_getD, List.getElem?_eq_getElem hxk]; rfl)
      have hgx := World.block_lt_of_cell? _ _ hcw
      have HGX : Hid (g ≠ gx) := Lib.hid (by simp at hgx; omega)
      have HCW := Lib.hid hcw
      clear hcw hgx
      have hR0 : MkI w wr (some ⟨g, 0, none⟩) (pw n) (pw n) (addRow P sq t xs ys k (addRows P sq t xs ys (List.replicate (pw n) 0) k) 0) := by simpa [addRow] using hM2
      have hN0 : NumsL P (addRows P sq t xs ys (List.replicate (pw n) 0) k) := addRows_nums sq _ xs ys k (by omega) (NumsL.replicate (by omega) _)
      obtain ⟨L0, hL0⟩ : ∃ L, L = addRows P sq t xs ys (List.replicate (pw n) 0) k := ⟨_, rfl⟩
      rw [← hL0] at hR0 hN0
      have HL0 := Lib.hid hL0
      have HN0 := Lib.hid hN0
      clear hM2 hL0 hN0
      go_wp2
      go_loopw [11] (fun i wr => ∃ j : Nat, j ≤ pw n ∧ i = .int .i64 j ∧ MkI w wr (some ⟨g, 0, none⟩) (pw n) (pw n) (addRow P sq t xs ys k L0 j) ∧ Blk wr w.heap.size 26 #[.int .i64 P, .slice A n c]) (fun i _ => pw n - (intOf i).toNat)
      case atStart => exact ⟨0, by omega, rfl, hR0, hk2⟩
      case round =>
        clear hR0 hk2
        obtain ⟨j, hj, rfl, hM3, hk3⟩ := hrel
        have hcx : wr.cell? ⟨gx, ox + k, none⟩ = some (.int .i64 xs[k]) := (hM3.b.cell (World.block_lt_of_cell? _ _ HCW.out)).trans HCW.out
        by_cases hlj : j < pw n
        · obtain ⟨gy, oy, hY, hyj, hcyw⟩ := hy.int hlj
          subst hY
          have hgy := World.block_lt_of_cell? _ _ hcyw
          have HGY : Hid (g ≠ gy) := Lib.hid (by simp at hgy; omega)
          have hcy : wr.cell? ⟨gy, oy + j, none⟩ = some (.int .i64 ys[j]) := (hM3.b.cell (World.block_lt_of_cell? _ _ hcyw)).trans hcyw
          clear hcyw hgy
          obtain ⟨y1, y2⟩ := hys _ (List.getElem_mem hyj)
          have hyn : Hid (ys.getD j 0 = ys[j]) := Lib.hid (by rw [List.getD_eq_getElem?_getD, List.getElem?_eq_getElem hyj]; rfl)
          have hxa := and_val k (by omega) j (by omega)
          have HTKJ := Lib.hid (HTK.out k j)
          obtain ⟨cm, hcm⟩ : ∃ cm, cm = k &&& j := ⟨_, rfl⟩
          rw [← hcm] at hxa
          have HCM : Hid (cm = k &&& j) := Lib.hid hcm
          clear hcm
          by_cases hcc : cm = k
          case neg =>
            have HF0 : Hid (t k j = false) := Lib.hid (by rw [HTKJ.out]; show (_ == _) = false; rw [← HCM.out]; simpa using hcc)
            have HM := Lib.hid hM3
            have HK3 := Lib.hid hk3
            clear hM3 hk3
            go_wp2
            go_roundw
            case rel => exact ⟨j + 1, by omega, by go_num, by rw [addRow_succ, addPair_none HF0.out]; exact HM.out, HK3.out⟩
            case measure => simp [intOf]; omega
          case pos =>
            have HF1 : Hid (t k j = true) := Lib.hid (by rw [HTKJ.out]; show (_ == _) = true; rw [← HCM.out]; simpa using hcc)
            have hidx : k ^^^ j < pw n := xor_lt hlt hlj
            have hxo := xor_all k (by omega) j (by omega)
            have HNR := Lib.hid (addRow_nums sq t xs ys k j (by omega) HN0.out)
            have hvb := HNR.out.getD (by omega) (k ^^^ j)
            obtain ⟨hoc, hof⟩ := mkI_at hM3.drew hidx
            obtain ⟨v0, hv0⟩ : ∃ v, v = (addRow P sq t xs ys k L0 j).getD (k ^^^ j) 0 := ⟨_, rfl⟩
            rw [← hv0] at hvb hoc
            obtain ⟨v1, v2⟩ := hvb
            have HV0 := Lib.hid hv0
            have hAt : Hid (∀ w', MkI w w' (some ⟨g, 0, none⟩) (pw n) (pw n) (addRow P sq t xs ys k L0 j) → w'.cell? ⟨g, k ^^^ j, none⟩ = some (.int .i64 v0) ∧ w'.frozen? ⟨g, k ^^^ j, none⟩ = false) :=
              Lib.hid (fun w' h => by rw [HV0.out]; exact mkI_at h hidx)
            clear hv0
            obtain ⟨f1, f2⟩ := fac_bound P sq k j hp
            obtain ⟨m1, m2⟩ := mul_small x1 (show xs[k] ≤ 13 by omega) y1 (show ys[j] ≤ 13 by omega)
            obtain ⟨r1, r2⟩ := emod_small (xs[k] * ys[j]) P (by omega)
            obtain ⟨m3, m4⟩ := mul_small r1 (show xs[k] * ys[j] % P ≤ 13 by omega) f1 (show fac P sq k j ≤ 13 by omega)
            have HNE : Hid (g ≠ w.heap.size ∧ g ≠ w.heap.size ∧ g ≠ gx ∧ g ≠ gy) := Lib.hid ⟨by omega, by omega, HGX.out, HGY.out⟩
            have hF : Hid (∀ w', MkI w w' (some ⟨g, 0, none⟩) (pw n) (pw n) (addRow P sq t xs ys k L0 j) → Calls Tryz.prog 310 #[.agg #[.int .i64 P, .slice A n c], .int .i64 k, .int .i64 j] w' fun e w'' => e = .returned (.int .i64 (fac P sq k j)) ∧ Below w'.heap.size w' w'') :=
              Lib.hid (fun w' h => l04Blades_any P A n c sq k j w' hp hp2 hn (ha.below h.b) hs (by omega) (by omega))
            have W1 := i64_fit (xs[k] * ys[j]) (by omega) (by omega)
            have W2 := i64_fit (xs[k] * ys[j] % P * fac P sq k j) (by omega) (by omega)
            have W3 := i64_fit (v0 + xs[k] * ys[j] % P * fac P sq k j) (by omega) (by omega)
            have T1 := Int.tmod_eq_emod_of_nonneg (b := P) m1
            have T2 := Int.tmod_eq_emod_of_nonneg (a := (v0 + xs[k] * ys[j] % P * fac P sq k j)) (b := P) (by omega)
            obtain ⟨kc0, kc1⟩ := hk3.two
            have hoc2 : wr.cell? ⟨g, k ^^^ j, none⟩ = some (.int .i64 v0) := hoc
            have hof2 : wr.frozen? ⟨g, k ^^^ j, none⟩ = false := hof
            have hP0 : (P == 0) = false := by simp; omega
            have hP1 : (P == -1) = false := by simp; omega
            have hP2 : ¬ P = 0 := by omega
            have hO := hM3.drew
            have hk4 := hk3.drew
            go_wp2
            have i1 : (0 : Int) ≤ ((k ^^^ j : Nat) : Int) := by omega
            have i2 : ((k ^^^ j : Nat) : Int) < ((pw n : Nat) : Int) := by omega
            have i3 : (0 : Int) ≤ (k : Int) := by omega
            have i4 : (k : Int) < ((pw n : Nat) : Int) := by omega
            have i5 : (0 : Int) ≤ (j : Int) := by omega
            have i6 : (j : Int) < ((pw n : Nat) : Int) := by omega
            refine wp_obs 32 [[], [], [], [1, 2], [], [], [], [5, 6], [4, 5, 6, 7], [4, 5, 6, 7, 8], [], [], [10, 11], [10, 11, 12], [], [], [14, 15], [14, 15, 16], [10, 11, 12, 13, 14, 15, 16, 17], [], [19], [10, 11, 12, 13, 14, 15, 16, 17, 18, 19, 20], [], [], [], [22, 23, 24], [10, 11, 12, 13, 14, 15, 16, 17, 18, 19, 20, 21, 22, 23, 24, 25], [4, 5, 6, 7, 8, 9, 10, 11, 12, 13, 14, 15, 16, 17, 18, 19, 20, 21, 22, 23, 24, 25, 26], [], [28], [4, 5, 6, 7, 8, 9, 10, 11, 12, 13, 14, 15, 16, 17, 18, 19, 20, 21, 22, 23, 24, 25, 26, 27, 28, 29], [0, 1, 2, 3], [0, 1, 2, 3, 4, 5, 6, 7, 8, 9, 10, 11, 12, 13, 14, 15, 16, 17, 18, 19, 20, 21, 22, 23, 24, 25, 26, 27, 28, 29, 30, 31]] [VIs (.slice (some ⟨g, 0, none⟩) (pw n) (pw n)), VIs (.int .i64 (k)), VIs (.int .i64 (j)), VIs (.int .i64 ((k ^^^ j : Nat))), VIs (.slice (some ⟨g, 0, none⟩) (pw n) (pw n)), VIs (.int .i64 (k)), VIs (.int .i64 (j)), VIs (.int .i64 ((k ^^^ j : Nat))), VIs (.pointer (some ⟨g, k ^^^ j, none⟩)), VIs (.int .i64 (v0)), VIs (.slice (some ⟨gx, ox, none⟩) (pw n) cx), VIs (.int .i64 (k)), VIs (.pointer (some ⟨gx, ox + k, none⟩)), VIs (.int .i64 (xs[k])), VIs (.slice (some ⟨gy, oy, none⟩) (pw n) cy), VIs (.int .i64 (j)), VIs (.pointer (some ⟨gy, oy + j, none⟩)), VIs (.int .i64 (ys[j])), VIs (.int .i64 (xs[k] * ys[j])), VIs (.pointer (some ⟨w.heap.size, 0, none⟩)), VIs (.int .i64 (P)), VIs (.int .i64 (xs[k] * ys[j] % P)), VIs (.agg #[.int .i64 P, .slice A n c]), VIs (.int .i64 (k)), VIs (.int .i64 (j)), VIs (.int .i64 (fac P sq k j)), VIs (.int .i64 (xs[k] * ys[j] % P * fac P sq k j)), VIs (.int .i64 (v0 + xs[k] * ys[j] % P * fac P sq k j)), VIs (.pointer (some ⟨w.heap.size, 0, none⟩)), VIs (.int .i64 (P)), VIs (.int .i64 ((v0 + xs[k] * ys[j] % P * fac P sq k j) % P)), VIs (.pointer (some ⟨g, k ^^^ j, none⟩))] (fun w' => Blk w' w.heap.size 26 #[.int .i64 P, .slice A n c] ∧ MkI w w' (some ⟨g, 0, none⟩) (pw n) (pw n) (addRow P sq t xs ys k L0 j) ∧ w'.cell? ⟨gx, ox + k, none⟩ = some (.int .i64 xs[k]) ∧ w'.cell? ⟨gy, oy + j, none⟩ = some (.int .i64 ys[j])) (by kernel_rfl) (by kernel_rfl) (fun _ _ h hb => ⟨h.1.below hb h.1.lt, h.2.1.below hb, (hb.cell (World.block_lt_of_cell? _ _ h.2.2.1)).trans h.2.2.1, (hb.cell (World.block_lt_of_cell? _ _ h.2.2.2)).trans h.2.2.2⟩) (⟨hk4, hO, hcx, hcy⟩) (fun x => ?_)
            refine obs_step (Eq.trans (by simp only [List.getElem?_toArray, List.getElem?_cons_zero]; exact rfl) rfl) rfl (fun w' hS hV K hK => ?_) ?_
            · obtain ⟨q0, q1⟩ := hS.1.two; obtain ⟨hoc, hof⟩ := hAt.out _ hS.2.1; have q2 := hS.2.2.1; have q3 := hS.2.2.2
              go_simp
              exact hK.out _ _ _ rfl rfl rfl (Below.refl _ _)
            simp only [List.setIfInBounds_toArray, List.set_cons_zero, List.set_cons_succ]
            refine obs_step (Eq.trans (by simp only [List.getElem?_toArray, List.getElem?_cons_succ, List.getElem?_cons_zero]; exact rfl) rfl) rfl (fun w' hS hV K hK => ?_) ?_
            · obtain ⟨q0, q1⟩ := hS.1.two; obtain ⟨hoc, hof⟩ := hAt.out _ hS.2.1; have q2 := hS.2.2.1; have q3 := hS.2.2.2
              go_simp
              exact hK.out _ _ _ rfl rfl rfl (Below.refl _ _)
            simp only [List.setIfInBounds_toArray, List.set_cons_zero, List.set_cons_succ]
            refine obs_step (Eq.trans (by simp only [List.getElem?_toArray, List.getElem?_cons_succ, List.getElem?_cons_zero]; exact rfl) rfl) rfl (fun w' hS hV K hK => ?_) ?_
            · obtain ⟨q0, q1⟩ := hS.1.two; obtain ⟨hoc, hof⟩ := hAt.out _ hS.2.1; have q2 := hS.2.2.1; have q3 := hS.2.2.2
              go_simp
              exact hK.out _ _ _ rfl rfl rfl (Below.refl _ _)
            simp only [List.setIfInBounds_toArray, List.set_cons_zero, List.set_cons_succ]
            refine obs_step (Eq.trans (by simp only [List.getElem?_toArray, List.getElem?_cons_succ, List.getElem?_cons_zero]; exact rfl) rfl) rfl (fun w' hS hV K hK => ?_) ?_
            · have e1 : x 1 = (.int .i64 (k)) := hV 1 (by decide)
              have e2 : x 2 = (.int .i64 (j)) := hV 2 (by decide)
              obtain ⟨q0, q1⟩ := hS.1.two; obtain ⟨hoc, hof⟩ := hAt.out _ hS.2.1; have q2 := hS.2.2.1; have q3 := hS.2.2.2
              go_simp
              exact hK.out _ _ _ rfl rfl rfl (Below.refl _ _)
            simp only [List.setIfInBounds_toArray, List.set_cons_zero, List.set_cons_succ]
            refine obs_step (Eq.trans (by simp only [List.getElem?_toArray, List.getElem?_cons_succ, List.getElem?_cons_zero]; exact rfl) rfl) rfl (fun w' hS hV K hK => ?_) ?_
            · obtain ⟨q0, q1⟩ := hS.1.two; obtain ⟨hoc, hof⟩ := hAt.out _ hS.2.1; have q2 := hS.2.2.1; have q3 := hS.2.2.2
              go_simp
              exact hK.out _ _ _ rfl rfl rfl (Below.refl _ _)
            simp only [List.setIfInBounds_toArray, List.set_cons_zero, List.set_cons_succ]
            refine obs_step (Eq.trans (by simp only [List.getElem?_toArray, List.getElem?_cons_succ, List.getElem?_cons_zero]; exact rfl) rfl) rfl (fun w' hS hV K hK => ?_) ?_
            · obtain ⟨q0, q1⟩ := hS.1.two; obtain ⟨hoc, hof⟩ := hAt.out _ hS.2.1; have q2 := hS.2.2.1; have q3 := hS.2.2.2
              go_simp
              exact hK.out _ _ _ rfl rfl rfl (Below.refl _ _)
            simp only [List.setIfInBounds_toArray, List.set_cons_zero, List.set_cons_succ]
            refine obs_step (Eq.trans (by simp only [List.getElem?_toArray, List.getElem?_cons_succ, List.getElem?_cons_zero]; exact rfl) rfl) rfl (fun w' hS hV K hK => ?_) ?_
            · obtain ⟨q0, q1⟩ := hS.1.two; obtain ⟨hoc, hof⟩ := hAt.out _ hS.2.1; have q2 := hS.2.2.1; have q3 := hS.2.2.2
              go_simp
              exact hK.out _ _ _ rfl rfl rfl (Below.refl _ _)
            simp only [List.setIfInBounds_toArray, List.set_cons_zero, List.set_cons_succ]
            refine obs_step (Eq.trans (by simp only [List.getElem?_toArray, List.getElem?_cons_succ, List.getElem?_cons_zero]; exact rfl) rfl) rfl (fun w' hS hV K hK => ?_) ?_
            · have e5 : x 5 = (.int .i64 (k)) := hV 5 (by decide)
              have e6 : x 6 = (.int .i64 (j)) := hV 6 (by decide)
              obtain ⟨q0, q1⟩ := hS.1.two; obtain ⟨hoc, hof⟩ := hAt.out _ hS.2.1; have q2 := hS.2.2.1; have q3 := hS.2.2.2
              go_simp
              exact hK.out _ _ _ rfl rfl rfl (Below.refl _ _)
            simp only [List.setIfInBounds_toArray, List.set_cons_zero, List.set_cons_succ]
            refine obs_step (Eq.trans (by simp only [List.getElem?_toArray, List.getElem?_cons_succ, List.getElem?_cons_zero]; exact rfl) rfl) rfl (fun w' hS hV K hK => ?_) ?_
            · have e4 : x 4 = (.slice (some ⟨g, 0, none⟩) (pw n) (pw n)) := hV 4 (by decide)
              have e5 : x 5 = (.int .i64 (k)) := hV 5 (by decide)
              have e6 : x 6 = (.int .i64 (j)) := hV 6 (by decide)
              have e7 : x 7 = (.int .i64 ((k ^^^ j : Nat))) := hV 7 (by decide)
              obtain ⟨q0, q1⟩ := hS.1.two; obtain ⟨hoc, hof⟩ := hAt.out _ hS.2.1; have q2 := hS.2.2.1; have q3 := hS.2.2.2
              go_simp
              exact hK.out _ _ _ rfl rfl rfl (Below.refl _ _)
            simp only [List.setIfInBounds_toArray, List.set_cons_zero, List.set_cons_succ]
            refine obs_step (Eq.trans (by simp only [List.getElem?_toArray, List.getElem?_cons_succ, List.getElem?_cons_zero]; exact rfl) rfl) rfl (fun w' hS hV K hK => ?_) ?_
            · have e4 : x 4 = (.slice (some ⟨g, 0, none⟩) (pw n) (pw n)) := hV 4 (by decide)
              have e5 : x 5 = (.int .i64 (k)) := hV 5 (by decide)
              have e6 : x 6 = (.int .i64 (j)) := hV 6 (by decide)
              have e7 : x 7 = (.int .i64 ((k ^^^ j : Nat))) := hV 7 (by decide)
              have e8 : x 8 = (.pointer (some ⟨g, k ^^^ j, none⟩)) := hV 8 (by decide)
              obtain ⟨q0, q1⟩ := hS.1.two; obtain ⟨hoc, hof⟩ := hAt.out _ hS.2.1; have q2 := hS.2.2.1; have q3 := hS.2.2.2
              go_simp
              exact hK.out _ _ _ rfl rfl rfl (Below.refl _ _)
            simp only [List.setIfInBounds_toArray, List.set_cons_zero, List.set_cons_succ]
            refine obs_step (Eq.trans (by simp only [List.getElem?_toArray, List.getElem?_cons_succ, List.getElem?_cons_zero]; exact rfl) rfl) rfl (fun w' hS hV K hK => ?_) ?_
            · obtain ⟨q0, q1⟩ := hS.1.two; obtain ⟨hoc, hof⟩ := hAt.out _ hS.2.1; have q2 := hS.2.2.1; have q3 := hS.2.2.2
              go_simp
              exact hK.out _ _ _ rfl rfl rfl (Below.refl _ _)
            simp only [List.setIfInBounds_toArray, List.set_cons_zero, List.set_cons_succ]
            refine obs_step (Eq.trans (by simp only [List.getElem?_toArray, List.getElem?_cons_succ, List.getElem?_cons_zero]; exact rfl) rfl) rfl (fun w' hS hV K hK => ?_) ?_
            · obtain ⟨q0, q1⟩ := hS.1.two; obtain ⟨hoc, hof⟩ := hAt.out _ hS.2.1; have q2 := hS.2.2.1; have q3 := hS.2.2.2
              go_simp
              exact hK.out _ _ _ rfl rfl rfl (Below.refl _ _)
            simp only [List.setIfInBounds_toArray, List.set_cons_zero, List.set_cons_succ]
            refine obs_step (Eq.trans (by simp only [List.getElem?_toArray, List.getElem?_cons_succ, List.getElem?_cons_zero]; exact rfl) rfl) rfl (fun w' hS hV K hK => ?_) ?_
            · have e10 : x 10 = (.slice (some ⟨gx, ox, none⟩) (pw n) cx) := hV 10 (by decide)
              have e11 : x 11 = (.int .i64 (k)) := hV 11 (by decide)
              obtain ⟨q0, q1⟩ := hS.1.two; obtain ⟨hoc, hof⟩ := hAt.out _ hS.2.1; have q2 := hS.2.2.1; have q3 := hS.2.2.2
              go_simp
              exact hK.out _ _ _ rfl rfl rfl (Below.refl _ _)
            simp only [List.setIfInBounds_toArray, List.set_cons_zero, List.set_cons_succ]
            refine obs_step (Eq.trans (by simp only [List.getElem?_toArray, List.getElem?_cons_succ, List.getElem?_cons_zero]; exact rfl) rfl) rfl (fun w' hS hV K hK => ?_) ?_
            · have e10 : x 10 = (.slice (some ⟨gx, ox, none⟩) (pw n) cx) := hV 10 (by decide)
              have e11 : x 11 = (.int .i64 (k)) := hV 11 (by decide)
              have e12 : x 12 = (.pointer (some ⟨gx, ox + k, none⟩)) := hV 12 (by decide)
              obtain ⟨q0, q1⟩ := hS.1.two; obtain ⟨hoc, hof⟩ := hAt.out _ hS.2.1; have q2 := hS.2.2.1; have q3 := hS.2.2.2
              go_simp
              exact hK.out _ _ _ rfl rfl rfl (Below.refl _ _)
            simp only [List.setIfInBounds_toArray, List.set_cons_zero, List.set_cons_succ]
            refine obs_step (Eq.trans (by simp only [List.getElem?_toArray, List.getElem?_cons_succ, List.getElem?_cons_zero]; exact rfl) rfl) rfl (fun w' hS hV K hK => ?_) ?_
            · obtain ⟨q0, q1⟩ := hS.1.two; obtain ⟨hoc, hof⟩ := hAt.out _ hS.2.1; have q2 := hS.2.2.1; have q3 := hS.2.2.2
              go_simp
              exact hK.out _ _ _ rfl rfl rfl (Below.refl _ _)
            simp only [List.setIfInBounds_toArray, List.set_cons_zero, List.set_cons_succ]
            refine obs_step (Eq.trans (by simp only [List.getElem?_toArray, List.getElem?_cons_succ, List.getElem?_cons_zero]; exact rfl) rfl) rfl (fun w' hS hV K hK => ?_) ?_
            · obtain ⟨q0, q1⟩ := hS.1.two; obtain ⟨hoc, hof⟩ := hAt.out _ hS.2.1; have q2 := hS.2.2.1; have q3 := hS.2.2.2
              go_simp
              exact hK.out _ _ _ rfl rfl rfl (Below.refl _ _)
            simp only [List.setIfInBounds_toArray, List.set_cons_zero, List.set_cons_succ]
            refine obs_step (Eq.trans (by simp only [List.getElem?_toArray, List.getElem?_cons_succ, List.getElem?_cons_zero]; exact rfl) rfl) rfl (fun w' hS hV K hK => ?_) ?_
            · have e14 : x 14 = (.slice (some ⟨gy, oy, none⟩) (pw n) cy) := hV 14 (by decide)
              have e15 : x 15 = (.int .i64 (j)) := hV 15 (by decide)
              obtain ⟨q0, q1⟩ := hS.1.two; obtain ⟨hoc, hof⟩ := hAt.out _ hS.2.1; have q2 := hS.2.2.1; have q3 := hS.2.2.2
              go_simp
              exact hK.out _ _ _ rfl rfl rfl (Below.refl _ _)
            simp only [List.setIfInBounds_toArray, List.set_cons_zero, List.set_cons_succ]
            refine obs_step (Eq.trans (by simp only [List.getElem?_toArray, List.getElem?_cons_succ, List.getElem?_cons_zero]; exact rfl) rfl) rfl (fun w' hS hV K hK => ?_) ?_
            · have e14 : x 14 = (.slice (some ⟨gy, oy, none⟩) (pw n) cy) := hV 14 (by decide)
              have e15 : x 15 = (.int .i64 (j)) := hV 15 (by decide)
              have e16 : x 16 = (.pointer (some ⟨gy, oy + j, none⟩)) := hV 16 (by decide)
              obtain ⟨q0, q1⟩ := hS.1.two; obtain ⟨hoc, hof⟩ := hAt.out _ hS.2.1; have q2 := hS.2.2.1; have q3 := hS.2.2.2
              go_simp
              exact hK.out _ _ _ rfl rfl rfl (Below.refl _ _)
            simp only [List.setIfInBounds_toArray, List.set_cons_zero, List.set_cons_succ]
            refine obs_step (Eq.trans (by simp only [List.getElem?_toArray, List.getElem?_cons_succ, List.getElem?_cons_zero]; exact rfl) rfl) rfl (fun w' hS hV K hK => ?_) ?_
            · have e10 : x 10 = (.slice (some ⟨gx, ox, none⟩) (pw n) cx) := hV 10 (by decide)
              have e11 : x 11 = (.int .i64 (k)) := hV 11 (by decide)
              have e12 : x 12 = (.pointer (some ⟨gx, ox + k, none⟩)) := hV 12 (by decide)
              have e13 : x 13 = (.int .i64 (xs[k])) := hV 13 (by decide)
              have e14 : x 14 = (.slice (some ⟨gy, oy, none⟩) (pw n) cy) := hV 14 (by decide)
              have e15 : x 15 = (.int .i64 (j)) := hV 15 (by decide)
              have e16 : x 16 = (.pointer (some ⟨gy, oy + j, none⟩)) := hV 16 (by decide)
              have e17 : x 17 = (.int .i64 (ys[j])) := hV 17 (by decide)
              obtain ⟨q0, q1⟩ := hS.1.two; obtain ⟨hoc, hof⟩ := hAt.out _ hS.2.1; have q2 := hS.2.2.1; have q3 := hS.2.2.2
              go_simp
              exact hK.out _ _ _ rfl rfl rfl (Below.refl _ _)
            simp only [List.setIfInBounds_toArray, List.set_cons_zero, List.set_cons_succ]
            refine obs_step (Eq.trans (by simp only [List.getElem?_toArray, List.getElem?_cons_succ, List.getElem?_cons_zero]; exact rfl) rfl) rfl (fun w' hS hV K hK => ?_) ?_
            · obtain ⟨q0, q1⟩ := hS.1.two; obtain ⟨hoc, hof⟩ := hAt.out _ hS.2.1; have q2 := hS.2.2.1; have q3 := hS.2.2.2
              go_simp
              exact hK.out _ _ _ rfl rfl rfl (Below.refl _ _)
            simp only [List.setIfInBounds_toArray, List.set_cons_zero, List.set_cons_succ]
            refine obs_step (Eq.trans (by simp only [List.getElem?_toArray, List.getElem?_cons_succ, List.getElem?_cons_zero]; exact rfl) rfl) rfl (fun w' hS hV K hK => ?_) ?_
            · have e19 : x 19 = (.pointer (some ⟨w.heap.size, 0, none⟩)) := hV 19 (by decide)
              obtain ⟨q0, q1⟩ := hS.1.two; obtain ⟨hoc, hof⟩ := hAt.out _ hS.2.1; have q2 := hS.2.2.1; have q3 := hS.2.2.2
              go_simp
              exact hK.out _ _ _ rfl rfl rfl (Below.refl _ _)
            simp only [List.setIfInBounds_toArray, List.set_cons_zero, List.set_cons_succ]
            refine obs_step (Eq.trans (by simp only [List.getElem?_toArray, List.getElem?_cons_succ, List.getElem?_cons_zero]; exact rfl) rfl) rfl (fun w' hS hV K hK => ?_) ?_
            · have e10 : x 10 = (.slice (some ⟨gx, ox, none⟩) (pw n) cx) := hV 10 (by decide)
              have e11 : x 11 = (.int .i64 (k)) := hV 11 (by decide)
              have e12 : x 12 = (.pointer (some ⟨gx, ox + k, none⟩)) := hV 12 (by decide)
              have e13 : x 13 = (.int .i64 (xs[k])) := hV 13 (by decide)
              have e14 : x 14 = (.slice (some ⟨gy, oy, none⟩) (pw n) cy) := hV 14 (by decide)
              have e15 : x 15 = (.int .i64 (j)) := hV 15 (by decide)
              have e16 : x 16 = (.pointer (some ⟨gy, oy + j, none⟩)) := hV 16 (by decide)
              have e17 : x 17 = (.int .i64 (ys[j])) := hV 17 (by decide)
              have e18 : x 18 = (.int .i64 (xs[k] * ys[j])) := hV 18 (by decide)
              have e19 : x 19 = (.pointer (some ⟨w.heap.size, 0, none⟩)) := hV 19 (by decide)
              have e20 : x 20 = (.int .i64 (P)) := hV 20 (by decide)
              obtain ⟨q0, q1⟩ := hS.1.two; obtain ⟨hoc, hof⟩ := hAt.out _ hS.2.1; have q2 := hS.2.2.1; have q3 := hS.2.2.2
              go_simp
              exact hK.out _ _ _ rfl rfl rfl (Below.refl _ _)
            simp only [List.setIfInBounds_toArray, List.set_cons_zero, List.set_cons_succ]
            refine obs_step (Eq.trans (by simp only [List.getElem?_toArray, List.getElem?_cons_succ, List.getElem?_cons_zero]; exact rfl) rfl) rfl (fun w' hS hV K hK => ?_) ?_
            · obtain ⟨q0, q1⟩ := hS.1.two; obtain ⟨hoc, hof⟩ := hAt.out _ hS.2.1; have q2 := hS.2.2.1; have q3 := hS.2.2.2
              go_simp
              exact hK.out _ _ _ rfl rfl rfl (Below.refl _ _)
            simp only [List.setIfInBounds_toArray, List.set_cons_zero, List.set_cons_succ]
            refine obs_step (Eq.trans (by simp only [List.getElem?_toArray, List.getElem?_cons_succ, List.getElem?_cons_zero]; exact rfl) rfl) rfl (fun w' hS hV K hK => ?_) ?_
            · obtain ⟨q0, q1⟩ := hS.1.two; obtain ⟨hoc, hof⟩ := hAt.out _ hS.2.1; have q2 := hS.2.2.1; have q3 := hS.2.2.2
              go_simp
              exact hK.out _ _ _ rfl rfl rfl (Below.refl _ _)
            simp only [List.setIfInBounds_toArray, List.set_cons_zero, List.set_cons_succ]
            refine obs_step (Eq.trans (by simp only [List.getElem?_toArray, List.getElem?_cons_succ, List.getElem?_cons_zero]; exact rfl) rfl) rfl (fun w' hS hV K hK => ?_) ?_
            · obtain ⟨q0, q1⟩ := hS.1.two; obtain ⟨hoc, hof⟩ := hAt.out _ hS.2.1; have q2 := hS.2.2.1; have q3 := hS.2.2.2
              go_simp
              exact hK.out _ _ _ rfl rfl rfl (Below.refl _ _)
            simp only [List.setIfInBounds_toArray, List.set_cons_zero, List.set_cons_succ]
            refine obs_step (Eq.trans (by simp only [List.getElem?_toArray, List.getElem?_cons_succ, List.getElem?_cons_zero]; exact rfl) rfl) rfl (fun w' hS hV K hK => ?_) ?_
            · have e22 : x 22 = (.agg #[.int .i64 P, .slice A n c]) := hV 22 (by decide)
              have e23 : x 23 = (.int .i64 (k)) := hV 23 (by decide)
              have e24 : x 24 = (.int .i64 (j)) := hV 24 (by decide)
              obtain ⟨q0, q1⟩ := hS.1.two; obtain ⟨hoc, hof⟩ := hAt.out _ hS.2.1; have q2 := hS.2.2.1; have q3 := hS.2.2.2
              go_simp
              refine (hF.out _ hS.2.1).mono ?_
              rintro e v1 ⟨rfl, hb⟩
              exact hK.out _ _ _ rfl rfl rfl hb
            simp only [List.setIfInBounds_toArray, List.set_cons_zero, List.set_cons_succ]
            refine obs_step (Eq.trans (by simp only [List.getElem?_toArray, List.getElem?_cons_succ, List.getElem?_cons_zero]; exact rfl) rfl) rfl (fun w' hS hV K hK => ?_) ?_
            · have e10 : x 10 = (.slice (some ⟨gx, ox, none⟩) (pw n) cx) := hV 10 (by decide)
              have e11 : x 11 = (.int .i64 (k)) := hV 11 (by decide)
              have e12 : x 12 = (.pointer (some ⟨gx, ox + k, none⟩)) := hV 12 (by decide)
              have e13 : x 13 = (.int .i64 (xs[k])) := hV 13 (by decide)
              have e14 : x 14 = (.slice (some ⟨gy, oy, none⟩) (pw n) cy) := hV 14 (by decide)
              have e15 : x 15 = (.int .i64 (j)) := hV 15 (by decide)
              have e16 : x 16 = (.pointer (some ⟨gy, oy + j, none⟩)) := hV 16 (by decide)
              have e17 : x 17 = (.int .i64 (ys[j])) := hV 17 (by decide)
              have e18 : x 18 = (.int .i64 (xs[k] * ys[j])) := hV 18 (by decide)
              have e19 : x 19 = (.pointer (some ⟨w.heap.size, 0, none⟩)) := hV 19 (by decide)
              have e20 : x 20 = (.int .i64 (P)) := hV 20 (by decide)
              have e21 : x 21 = (.int .i64 (xs[k] * ys[j] % P)) := hV 21 (by decide)
              have e22 : x 22 = (.agg #[.int .i64 P, .slice A n c]) := hV 22 (by decide)
              have e23 : x 23 = (.int .i64 (k)) := hV 23 (by decide)
              have e24 : x 24 = (.int .i64 (j)) := hV 24 (by decide)
              have e25 : x 25 = (.int .i64 (fac P sq k j)) := hV 25 (by decide)
              obtain ⟨q0, q1⟩ := hS.1.two; obtain ⟨hoc, hof⟩ := hAt.out _ hS.2.1; have q2 := hS.2.2.1; have q3 := hS.2.2.2
              go_simp
              exact hK.out _ _ _ rfl rfl rfl (Below.refl _ _)
            simp only [List.setIfInBounds_toArray, List.set_cons_zero, List.set_cons_succ]
            refine obs_step (Eq.trans (by simp only [List.getElem?_toArray, List.getElem?_cons_succ, List.getElem?_cons_zero]; exact rfl) rfl) rfl (fun w' hS hV K hK => ?_) ?_
            · have e4 : x 4 = (.slice (some ⟨g, 0, none⟩) (pw n) (pw n)) := hV 4 (by decide)
              have e5 : x 5 = (.int .i64 (k)) := hV 5 (by decide)
              have e6 : x 6 = (.int .i64 (j)) := hV 6 (by decide)
              have e7 : x 7 = (.int .i64 ((k ^^^ j : Nat))) := hV 7 (by decide)
              have e8 : x 8 = (.pointer (some ⟨g, k ^^^ j, none⟩)) := hV 8 (by decide)
              have e9 : x 9 = (.int .i64 (v0)) := hV 9 (by decide)
              have e10 : x 10 = (.slice (some ⟨gx, ox, none⟩) (pw n) cx) := hV 10 (by decide)
              have e11 : x 11 = (.int .i64 (k)) := hV 11 (by decide)
              have e12 : x 12 = (.pointer (some ⟨gx, ox + k, none⟩)) := hV 12 (by decide)
              have e13 : x 13 = (.int .i64 (xs[k])) := hV 13 (by decide)
              have e14 : x 14 = (.slice (some ⟨gy, oy, none⟩) (pw n) cy) := hV 14 (by decide)
              have e15 : x 15 = (.int .i64 (j)) := hV 15 (by decide)
              have e16 : x 16 = (.pointer (some ⟨gy, oy + j, none⟩)) := hV 16 (by decide)
              have e17 : x 17 = (.int .i64 (ys[j])) := hV 17 (by decide)
              have e18 : x 18 = (.int .i64 (xs[k] * ys[j])) := hV 18 (by decide)
              have e19 : x 19 = (.pointer (some ⟨w.heap.size, 0, none⟩)) := hV 19 (by decide)
              have e20 : x 20 = (.int .i64 (P)) := hV 20 (by decide)
              have e21 : x 21 = (.int .i64 (xs[k] * ys[j] % P)) := hV 21 (by decide)
              have e22 : x 22 = (.agg #[.int .i64 P, .slice A n c]) := hV 22 (by decide)
              have e23 : x 23 = (.int .i64 (k)) := hV 23 (by decide)
              have e24 : x 24 = (.int .i64 (j)) := hV 24 (by decide)
              have e25 : x 25 = (.int .i64 (fac P sq k j)) := hV 25 (by decide)
              have e26 : x 26 = (.int .i64 (xs[k] * ys[j] % P * fac P sq k j)) := hV 26 (by decide)
              obtain ⟨q0, q1⟩ := hS.1.two; obtain ⟨hoc, hof⟩ := hAt.out _ hS.2.1; have q2 := hS.2.2.1; have q3 := hS.2.2.2
              go_simp
              exact hK.out _ _ _ rfl rfl rfl (Below.refl _ _)
            simp only [List.setIfInBounds_toArray, List.set_cons_zero, List.set_cons_succ]
            refine obs_step (Eq.trans (by simp only [List.getElem?_toArray, List.getElem?_cons_succ, List.getElem?_cons_zero]; exact rfl) rfl) rfl (fun w' hS hV K hK => ?_) ?_
            · obtain ⟨q0, q1⟩ := hS.1.two; obtain ⟨hoc, hof⟩ := hAt.out _ hS.2.1; have q2 := hS.2.2.1; have q3 := hS.2.2.2
              go_simp
              exact hK.out _ _ _ rfl rfl rfl (Below.refl _ _)
            simp only [List.setIfInBounds_toArray, List.set_cons_zero, List.set_cons_succ]
            refine obs_step (Eq.trans (by simp only [List.getElem?_toArray, List.getElem?_cons_succ, List.getElem?_cons_zero]; exact rfl) rfl) rfl (fun w' hS hV K hK => ?_) ?_
            · have e28 : x 28 = (.pointer (some ⟨w.heap.size, 0, none⟩)) := hV 28 (by decide)
              obtain ⟨q0, q1⟩ := hS.1.two; obtain ⟨hoc, hof⟩ := hAt.out _ hS.2.1; have q2 := hS.2.2.1; have q3 := hS.2.2.2
              go_simp
              exact hK.out _ _ _ rfl rfl rfl (Below.refl _ _)
            simp only [List.setIfInBounds_toArray, List.set_cons_zero, List.set_cons_succ]
            refine obs_step (Eq.trans (by simp only [List.getElem?_toArray, List.getElem?_cons_succ, List.getElem?_cons_zero]; exact rfl) rfl) rfl (fun w' hS hV K hK => ?_) ?_
            · have e4 : x 4 = (.slice (some ⟨g, 0, none⟩) (pw n) (pw n)) := hV 4 (by decide)
              have e5 : x 5 = (.int .i64 (k)) := hV 5 (by decide)
              have e6 : x 6 = (.int .i64 (j)) := hV 6 (by decide)
              have e7 : x 7 = (.int .i64 ((k ^^^ j : Nat))) := hV 7 (by decide)
              have e8 : x 8 = (.pointer (some ⟨g, k ^^^ j, none⟩)) := hV 8 (by decide)
              have e9 : x 9 = (.int .i64 (v0)) := hV 9 (by decide)
              have e10 : x 10 = (.slice (some ⟨gx, ox, none⟩) (pw n) cx) := hV 10 (by decide)
              have e11 : x 11 = (.int .i64 (k)) := hV 11 (by decide)
              have e12 : x 12 = (.pointer (some ⟨gx, ox + k, none⟩)) := hV 12 (by decide)
              have e13 : x 13 = (.int .i64 (xs[k])) := hV 13 (by decide)
              have e14 : x 14 = (.slice (some ⟨gy, oy, none⟩) (pw n) cy) := hV 14 (by decide)
              have e15 : x 15 = (.int .i64 (j)) := hV 15 (by decide)
              have e16 : x 16 = (.pointer (some ⟨gy, oy + j, none⟩)) := hV 16 (by decide)
              have e17 : x 17 = (.int .i64 (ys[j])) := hV 17 (by decide)
              have e18 : x 18 = (.int .i64 (xs[k] * ys[j])) := hV 18 (by decide)
              have e19 : x 19 = (.pointer (some ⟨w.heap.size, 0, none⟩)) := hV 19 (by decide)
              have e20 : x 20 = (.int .i64 (P)) := hV 20 (by decide)
              have e21 : x 21 = (.int .i64 (xs[k] * ys[j] % P)) := hV 21 (by decide)
              have e22 : x 22 = (.agg #[.int .i64 P, .slice A n c]) := hV 22 (by decide)
              have e23 : x 23 = (.int .i64 (k)) := hV 23 (by decide)
              have e24 : x 24 = (.int .i64 (j)) := hV 24 (by decide)
              have e25 : x 25 = (.int .i64 (fac P sq k j)) := hV 25 (by decide)
              have e26 : x 26 = (.int .i64 (xs[k] * ys[j] % P * fac P sq k j)) := hV 26 (by decide)
              have e27 : x 27 = (.int .i64 (v0 + xs[k] * ys[j] % P * fac P sq k j)) := hV 27 (by decide)
              have e28 : x 28 = (.pointer (some ⟨w.heap.size, 0, none⟩)) := hV 28 (by decide)
              have e29 : x 29 = (.int .i64 (P)) := hV 29 (by decide)
              obtain ⟨q0, q1⟩ := hS.1.two; obtain ⟨hoc, hof⟩ := hAt.out _ hS.2.1; have q2 := hS.2.2.1; have q3 := hS.2.2.2
              go_simp
              exact hK.out _ _ _ rfl rfl rfl (Below.refl _ _)
            simp only [List.setIfInBounds_toArray, List.set_cons_zero, List.set_cons_succ]
            refine obs_step (Eq.trans (by simp only [List.getElem?_toArray, List.getElem?_cons_succ, List.getElem?_cons_zero]; exact rfl) rfl) rfl (fun w' hS hV K hK => ?_) ?_
            · have e0 : x 0 = (.slice (some ⟨g, 0, none⟩) (pw n) (pw n)) := hV 0 (by decide)
              have e1 : x 1 = (.int .i64 (k)) := hV 1 (by decide)
              have e2 : x 2 = (.int .i64 (j)) := hV 2 (by decide)
              have e3 : x 3 = (.int .i64 ((k ^^^ j : Nat))) := hV 3 (by decide)
              obtain ⟨q0, q1⟩ := hS.1.two; obtain ⟨hoc, hof⟩ := hAt.out _ hS.2.1; have q2 := hS.2.2.1; have q3 := hS.2.2.2
              go_simp
              exact hK.out _ _ _ rfl rfl rfl (Below.refl _ _)
            simp only [List.setIfInBounds_toArray, List.set_cons_zero, List.set_cons_succ]
            refine fun w' hS hV => ?_
            have e0 : x 0 = (.slice (some ⟨g, 0, none⟩) (pw n) (pw n)) := hV 0 (by decide)
            have e1 : x 1 = (.int .i64 (k)) := hV 1 (by decide)
            have e2 : x 2 = (.int .i64 (j)) := hV 2 (by decide)
            have e3 : x 3 = (.int .i64 ((k ^^^ j : Nat))) := hV 3 (by decide)
            have e4 : x 4 = (.slice (some ⟨g, 0, none⟩) (pw n) (pw n)) := hV 4 (by decide)
            have e5 : x 5 = (.int .i64 (k)) := hV 5 (by decide)
            have e6 : x 6 = (.int .i64 (j)) := hV 6 (by decide)
            have e7 : x 7 = (.int .i64 ((k ^^^ j : Nat))) := hV 7 (by decide)
            have e8 : x 8 = (.pointer (some ⟨g, k ^^^ j, none⟩)) := hV 8 (by decide)
            have e9 : x 9 = (.int .i64 (v0)) := hV 9 (by decide)
            have e10 : x 10 = (.slice (some ⟨gx, ox, none⟩) (pw n) cx) := hV 10 (by decide)
            have e11 : x 11 = (.int .i64 (k)) := hV 11 (by decide)
            have e12 : x 12 = (.pointer (some ⟨gx, ox + k, none⟩)) := hV 12 (by decide)
            have e13 : x 13 = (.int .i64 (xs[k])) := hV 13 (by decide)
            have e14 : x 14 = (.slice (some ⟨gy, oy, none⟩) (pw n) cy) := hV 14 (by decide)
            have e15 : x 15 = (.int .i64 (j)) := hV 15 (by decide)
            have e16 : x 16 = (.pointer (some ⟨gy, oy + j, none⟩)) := hV 16 (by decide)
            have e17 : x 17 = (.int .i64 (ys[j])) := hV 17 (by decide)
            have e18 : x 18 = (.int .i64 (xs[k] * ys[j])) := hV 18 (by decide)
            have e19 : x 19 = (.pointer (some ⟨w.heap.size, 0, none⟩)) := hV 19 (by decide)
            have e20 : x 20 = (.int .i64 (P)) := hV 20 (by decide)
            have e21 : x 21 = (.int .i64 (xs[k] * ys[j] % P)) := hV 21 (by decide)
            have e22 : x 22 = (.agg #[.int .i64 P, .slice A n c]) := hV 22 (by decide)
            have e23 : x 23 = (.int .i64 (k)) := hV 23 (by decide)
            have e24 : x 24 = (.int .i64 (j)) := hV 24 (by decide)
            have e25 : x 25 = (.int .i64 (fac P sq k j)) := hV 25 (by decide)
            have e26 : x 26 = (.int .i64 (xs[k] * ys[j] % P * fac P sq k j)) := hV 26 (by decide)
            have e27 : x 27 = (.int .i64 (v0 + xs[k] * ys[j] % P * fac P sq k j)) := hV 27 (by decide)
            have e28 : x 28 = (.pointer (some ⟨w.heap.size, 0, none⟩)) := hV 28 (by decide)
            have e29 : x 29 = (.int .i64 (P)) := hV 29 (by decide)
            have e30 : x 30 = (.int .i64 ((v0 + xs[k] * ys[j] % P * fac P sq k j) % P)) := hV 30 (by decide)
            have e31 : x 31 = (.pointer (some ⟨g, k ^^^ j, none⟩)) := hV 31 (by decide)
            simp only [e0, e1, e2, e3, e4, e5, e6, e7, e8, e9, e10, e11, e12, e13, e14, e15, e16, e17, e18, e19, e20, e21, e22, e23, e24, e25, e26, e27, e28, e29, e30, e31]
            clear e0 e1 e2 e3 e4 e5 e6 e7 e8 e9 e10 e11 e12 e13 e14 e15 e16 e17 e18 e19 e20 e21 e22 e23 e24 e25 e26 e27 e28 e29 e30 e31
            obtain ⟨hk4, hO, s3, s4⟩ := hS
            obtain ⟨hoc, hof⟩ := hAt.out _ hO
            refine any_one (j := 32) (by kernel_rfl) (Eq.trans (by simp only [List.getElem?_toArray, List.getElem?_cons_succ, List.getElem?_cons_zero]; exact rfl) rfl) (fun K hK => ?_)
            go_simp
            refine hK.out _ _ (wpAny_done (by kernel_rfl) ?_ _)
            have hset := (hO.set (k ^^^ j) (.int .i64 ((v0 + xs[k] * ys[j] % P * fac P sq k j) % P))).1
            rw [ints_set] at hset
            have hkn := hk4.far (p := ⟨g, k ^^^ j, none⟩) HNE.out.1.symm (.int .i64 ((v0 + xs[k] * ys[j] % P * fac P sq k j) % P))
            clear W1 W2 W3 T1 T2 hoc hof hO hk4
            go_wp2
            go_roundw
            case rel => exact ⟨j + 1, by omega, by go_num, by rw [addRow_succ, ← addPair_all (by omega) HNR.out HF1.out, ← HV0.out, hxn.out, hyn.out, ← mod_mul_add v0 (xs[k] * ys[j]) (fac P sq k j) P]; exact hset, hkn⟩
            case measure => simp [intOf]; omega
        · obtain rfl : j = pw n := by omega
          have HM := Lib.hid hM3
          clear hM3
          go_wp2
          go_roundw
          case rel => exact ⟨k + 1, by omega, by go_num, by rw [addRows_succ, Hy.out, ← HL0.out]; exact HM.out, hk3⟩
          case measure => simp [intOf]; omega
    · obtain rfl : k = pw n := by omega
      go_wp2
      go_ret
      exact ⟨_, _, rfl, by rw [HDL.out]; exact hM2⟩
set_option maxRecDepth 8000 in
set_option maxHeartbeats 800000 in
theorem l05Wedge_any (P : Int) (A : Option Addr) (n c : Nat) (sq : List Int) (X : Option Addr) (cx : Nat) (xs : List Int) (Y : Option Addr) (cy : Nat) (ys : List Int) (w : World) (hp : 2 ≤ P) (hp2 : P ≤ 13) (hn : n ≤ 6)
    (ha : Rd w A n (ints sq)) (hs : NumsL P sq) (hx : Rd w X (pw n) (ints xs)) (hxs : NumsL P xs) (hy : Rd w Y (pw n) (ints ys)) (hys : NumsL P ys) :
    Calls Tryz.prog 242 #[.agg #[.int .i64 P, .slice A n c], .slice X (pw n) cx, .slice Y (pw n) cy] w fun e w' => ∃ A' c', e = .returned (.slice A' (pw n) c') ∧ MkI w w' A' (pw n) c' (wedgeL P sq xs ys) := by
  have hcall := fun w' (hb : Below w.heap.size w w') => l05Kind_0 P A n c sq X cx xs Y cy ys w' hp hp2 hn (ha.below hb) hs (hx.below hb) hxs (hy.below hb) hys
  have HC := Lib.hid hcall
  clear hcall
  go_enter Tryz.func242, Tryz.ntmps242
  go_wp2_with (go_at_call 330; first | (refine (HC.out _ (Below.refl _ _)).mono ?_; rintro e w2 ⟨G2, d2, rfl, hM3⟩) | (refine (HC.out _ ((Below.refl _ _).alloc (Nat.le_refl _) _)).mono ?_; rintro e w2 ⟨G2, d2, rfl, hM4⟩; have hM3 := hM4.after ((Below.refl _ w).alloc (Nat.le_refl _) (.cells #[.int .i64 P, .slice A n c] 26)); clear hM4))
  go_ret
  exact ⟨_, _, rfl, hM3⟩
set_option maxRecDepth 8000 in
set_option maxHeartbeats 800000 in
theorem l05Left_any (P : Int) (A : Option Addr) (n c : Nat) (sq : List Int) (X : Option Addr) (cx : Nat) (xs : List Int) (Y : Option Addr) (cy : Nat) (ys : List Int) (w : World) (hp : 2 ≤ P) (hp2 : P ≤ 13) (hn : n ≤ 6)
    (ha : Rd w A n (ints sq)) (hs : NumsL P sq) (hx : Rd w X (pw n) (ints xs)) (hxs : NumsL P xs) (hy : Rd w Y (pw n) (ints ys)) (hys : NumsL P ys) :
    Calls Tryz.prog 333 #[.agg #[.int .i64 P, .slice A n c], .slice X (pw n) cx, .slice Y (pw n) cy] w fun e w' => ∃ A' c', e = .returned (.slice A' (pw n) c') ∧ MkI w w' A' (pw n) c' (contrL P sq xs ys) := by
  have hcall := fun w' (hb : Below w.heap.size w w') => l05Kind_1 P A n c sq X cx xs Y cy ys w' hp hp2 hn (ha.below hb) hs (hx.below hb) hxs (hy.below hb) hys
  have HC := Lib.hid hcall
  clear hcall
  go_enter Tryz.func333, Tryz.ntmps333
  go_wp2_with (go_at_call 330; first | (refine (HC.out _ (Below.refl _ _)).mono ?_; rintro e w2 ⟨G2, d2, rfl, hM3⟩) | (refine (HC.out _ ((Below.refl _ _).alloc (Nat.le_refl _) _)).mono ?_; rintro e w2 ⟨G2, d2, rfl, hM4⟩; have hM3 := hM4.after ((Below.refl _ w).alloc (Nat.le_refl _) (.cells #[.int .i64 P, .slice A n c] 26)); clear hM4))
  go_ret
  exact ⟨_, _, rfl, hM3⟩
end Go.Proofs.YtggigolkncckoaaGreat
namespace Go.Proofs.YtggigolkncckoaaGreat
/-- m after k columns with d rows done; c: the places of the firsts. -/
structure Ech (m : List (List Int)) (k d : Nat) (c : Nat → Nat) : Prop where
  lt : ∀ i, i < d → c i < k
  mono : ∀ i j, i < j → j < d → c i < c j
  one : ∀ i, i < d → ent m i (c i) = 1
  zero : ∀ i, i < d → ∀ r, r < m.length → r ≠ i → ent m r (c i) = 0
  before : ∀ i, i < d → ∀ q, q < c i → ent m i q = 0
  rest : ∀ r, d ≤ r → r < m.length → ∀ q, q < k → ent m r q = 0
theorem ent_set {m : List (List Int)} {d : Nat} {x : List Int} (hd : d < m.length) (r q : Nat) : ent (m.set d x) r q = if r = d then x.getD q 0 else ent m r q := by
  unfold ent
  rw [getD_set]
  by_cases h : r = d
  · rw [if_pos ⟨h.symm, hd⟩, if_pos h]
  · rw [if_neg (fun hh => h hh.1.symm), if_neg h]
theorem ent_swap {m : List (List Int)} {i j : Nat} (hi : i < m.length) (hj : j < m.length) (r q : Nat) : ent (swapL m i j) r q = if r = j then ent m i q else if r = i then ent m j q else ent m r q := by
  unfold swapL
  rw [ent_set (by rw [List.length_set]; exact hj)]
  split
  · rfl
  · rw [ent_set hi]
    split
    · rfl
    · rfl
theorem ent_scaled {p : Int} {m : List (List Int)} {k d v : Nat} (hv : pivOf m k d = v) (hd : d < m.length) (hvl : v < m.length) {n : Nat} (hT : Tab p n m) (r q : Nat) (hq : q < n) :
    ent (scaledAt p m k d) r q = if r = d then ent m v q * invF p (ent m v k) % p else if r = v then ent m d q else ent m r q := by
  unfold scaledAt
  rw [hv, ent_set (by rw [swapL_len]; exact hd)]
  by_cases h : r = d
  · rw [if_pos h, if_pos h, scaleL_getD _ (by rw [(hT.row hvl).1]; exact hq)]; rfl
  · rw [if_neg h, if_neg h, ent_swap hd hvl]
    by_cases h2 : r = v
    · rw [if_pos h2, if_pos h2]
    · rw [if_neg h2, if_neg h2, if_neg h]
theorem ent_cleared {p : Int} {n : Nat} {m : List (List Int)} (hT : Tab p n m) (d k r q : Nat) (hr : r < m.length) (hq : q < n) :
    ent (clearTo p m d k m.length) r q = if r = d then ent m d q else (ent m r q + -(ent m r k) * ent m d q) % p := by
  show ((clearTo p m d k m.length).getD r []).getD q 0 = _
  rw [clearTo_getD hr]
  by_cases h : r = d
  · rw [if_neg (fun hh => hh.2 h), if_pos h, h]; rfl
  · rw [if_pos ⟨hr, h⟩, if_neg h, plusL_getD _ _ (by rw [(hT.row hr).1]; exact hq)]; rfl
theorem Ech.step {p : Int} (hP : isP p = true) {n : Nat} {s : List (List Int) × Nat} {k : Nat} {c : Nat → Nat} (hT : Tab p n s.1) (hd : s.2 ≤ s.1.length) (hk : k < n) (h : Ech s.1 k s.2 c) : ∃ c', Ech (stepB p k s).1 (k + 1) (stepB p k s).2 c' := by
  obtain ⟨m, d⟩ := s
  simp only at hT hd h
  obtain ⟨hb1, hb2⟩ := pivOf_bound m k d hd
  have hp : 2 ≤ p := by have := isP_ge hP; omega
  unfold stepB
  simp only
  by_cases hv : pivOf m k d = m.length
  · rw [if_pos hv]
    refine ⟨c, fun i hi => by have := h.lt i hi; omega, h.mono, h.one, h.zero, h.before, fun r h1 h2 q hq => ?_⟩
    by_cases hqk : q = k
    · subst hqk
      have h2' : r < m.length := h2
      exact piv_before m q (m.length - d) d r h1 (by show r < pivOf m q d; omega)
    · exact h.rest r h1 h2 q (by omega)
  · rw [if_neg hv]
    obtain ⟨v, hvv⟩ : ∃ v, v = pivOf m k d := ⟨_, rfl⟩
    rw [← hvv] at hb1 hb2 hv
    have hvl : v < m.length := by omega
    have hdl : d < m.length := by omega
    have hne : ent m v k ≠ 0 := by rw [hvv]; exact piv_at m k (m.length - d) d (by show pivOf m k d < _; omega)
    have hrange := hT.ent (by omega) v k
    obtain ⟨i1, i2, i3⟩ := inv_spec hP (show 0 < ent m v k by omega) hrange.2
    have hone : ent m v k * invF p (ent m v k) % p = 1 := (i3 _ (by omega) i2).2 rfl
    have hT1 : Tab p n (scaledAt p m k d) := scaledAt_tab (by omega) hT hdl (by omega)
    have hl1 : (scaledAt p m k d).length = m.length := scaledAt_len p m k d
    have e1 := fun r q (hq : q < n) => ent_scaled (p := p) (m := m) (k := k) (d := d) hvv.symm hdl hvl hT r q hq
    have e2 := fun r q (hr : r < m.length) (hq : q < n) => ent_cleared (p := p) hT1 d k r q (by rw [hl1]; exact hr) hq
    rw [hl1] at e2
    have c1 : ∀ i, i < d → c i < n := fun i hi => by have := h.lt i hi; omega
    have z1 : ∀ q, q < k → ent (scaledAt p m k d) d q = 0 := fun q hq => by
      rw [e1 d q (by omega), if_pos rfl, h.rest v hb1 hvl q hq]; simp
    have o1 : ent (scaledAt p m k d) d k = 1 := by rw [e1 d k hk, if_pos rfl, hone]
    refine ⟨fun i => if i = d then k else c i, ?_, ?_, ?_, ?_, ?_, ?_⟩
    · intro i hi
      show (if i = d then k else c i) < k + 1
      split
      · omega
      · have := h.lt i (by omega); omega
    · intro i j hij hj
      show (if i = d then k else c i) < (if j = d then k else c j)
      rw [if_neg (show i ≠ d by omega)]
      split
      · exact h.lt i (by omega)
      · exact h.mono i j hij (by omega)
    · intro i hi
      show ent _ i (if i = d then k else c i) = 1
      by_cases hid : i = d
      · rw [if_pos hid, e2 i k (by omega) hk, if_pos hid, o1]
      · have hi' : i < d := by omega
        rw [if_neg hid, e2 i _ (by omega) (c1 i hi'), if_neg hid, z1 _ (h.lt i hi'), e1 i _ (c1 i hi'), if_neg hid, if_neg (show i ≠ v by omega), h.one i hi', Int.mul_zero]
        exact Int.emod_eq_of_lt (by omega) (by omega)
    · intro i hi r hr hri
      rw [clearTo_len, hl1] at hr
      show ent _ r (if i = d then k else c i) = 0
      by_cases hid : i = d
      · rw [if_pos hid, e2 r k hr hk, if_neg (fun e => hri (e.trans hid.symm)), o1, Int.mul_one]
        rw [Int.add_right_neg]; simp
      · have hi' : i < d := by omega
        rw [if_neg hid, e2 r _ hr (c1 i hi')]
        by_cases hrd : r = d
        · rw [if_pos hrd]; exact z1 _ (h.lt i hi')
        · rw [if_neg hrd, z1 _ (h.lt i hi'), e1 r _ (c1 i hi'), if_neg hrd]
          by_cases hrv : r = v
          · rw [if_pos hrv, h.zero i hi' d hdl (by omega)]; simp
          · rw [if_neg hrv, h.zero i hi' r hr hri]; simp
    · intro i hi q hq
      by_cases hid : i = d
      · have hq' : q < k := by simpa [hid] using hq
        rw [e2 i q (by omega) (by omega), if_pos hid]
        exact z1 q hq'
      · have hq' : q < c i := by simpa [hid] using hq
        have hi' : i < d := by omega
        have := h.lt i hi'
        rw [e2 i q (by omega) (by omega), if_neg hid, z1 q (by omega), e1 i q (by omega), if_neg hid, if_neg (show i ≠ v by omega), h.before i hi' q hq']
        simp
    · intro r h1 h2 q hq
      rw [clearTo_len, hl1] at h2
      rw [e2 r q h2 (by omega), if_neg (show r ≠ d by simp only at h1; omega)]
      by_cases hqk : q = k
      · subst hqk
        rw [o1, Int.mul_one, Int.add_right_neg]; simp
      · have hq' : q < k := by omega
        have h1' : d + 1 ≤ r := h1
        rw [z1 q hq', e1 r q (by omega), if_neg (show r ≠ d by omega)]
        by_cases hrv : r = v
        · rw [if_pos hrv, h.rest d (Nat.le_refl _) hdl q hq']; simp
        · rw [if_neg hrv, h.rest r (by omega) h2 q hq']; simp
theorem Ech.start (m : List (List Int)) (c : Nat → Nat) : Ech m 0 0 c := ⟨fun i hi => absurd hi (by omega), fun i j _ hj => absurd hj (by omega), fun i hi => absurd hi (by omega), fun i hi => absurd hi (by omega), fun i hi => absurd hi (by omega), fun _ _ _ q hq => absurd hq (by omega)⟩
theorem basisTo_ech {p : Int} (hP : isP p = true) {n : Nat} (m : List (List Int)) (hT : Tab p n m) (k : Nat) (hk : k ≤ n) : ∃ c, Ech (basisTo p m k).1 k (basisTo p m k).2 c := by
  have hp : 2 ≤ p := by have := isP_ge hP; omega
  induction k with
  | zero => exact ⟨fun _ => 0, Ech.start _ _⟩
  | succ k ih =>
    obtain ⟨c, hc⟩ := ih (by omega)
    obtain ⟨h1, h2, h3⟩ := basisTo_inv (by omega) m hT k
    exact hc.step hP h1 (by omega) (by omega)
/-- The place of the first number of row i. -/
def ld (B : List (List Int)) (i : Nat) : Nat := leadL (B.getD i [])
/-- A reduced basis of lists of n numbers. -/
structure Red (n : Nat) (B : List (List Int)) : Prop where
  lt : ∀ i, i < B.length → ld B i < n
  one : ∀ i, i < B.length → ent B i (ld B i) = 1
  zero : ∀ i r, i < B.length → r < B.length → r ≠ i → ent B r (ld B i) = 0
  mono : ∀ i j, i < j → j < B.length → ld B i < ld B j
theorem Red.before {n : Nat} {B : List (List Int)} (_h : Red n B) (i q : Nat) (hq : q < ld B i) : ent B i q = 0 := leadL_before _ q hq
theorem Red.inj {n : Nat} {B : List (List Int)} (h : Red n B) {i j : Nat} (hi : i < B.length) (hj : j < B.length) (e : ld B i = ld B j) : i = j := by
  rcases Nat.lt_trichotomy i j with hl | hl | hl
  · have := h.mono i j hl hj; omega
  · exact hl
  · have := h.mono j i hl hi; omega
theorem Red.nil (n : Nat) : Red n [] := ⟨fun i hi => absurd hi (by simp), fun i hi => absurd hi (by simp), fun i r hi => absurd hi (by simp), fun i j _ hj => absurd hj (by simp)⟩
theorem Red.len {n : Nat} {B : List (List Int)} (h : Red n B) : B.length ≤ n := by
  have hle : ∀ j, j < B.length → j ≤ ld B j := by
    intro j
    induction j with
    | zero => intro _; omega
    | succ j ih =>
      intro hj
      have h1 := ih (by omega)
      have h2 := h.mono j (j + 1) (by omega) hj
      omega
  by_cases h0 : B.length = 0
  · omega
  · have h1 := hle (B.length - 1) (by omega)
    have h2 := h.lt (B.length - 1) (by omega)
    omega
theorem row0_len {p : Int} {n : Nat} {m : List (List Int)} (hT : Tab p n m) (h0 : 0 < m.length) : (m.getD 0 []).length = n := (hT.row h0).1
theorem basisL_nil (p : Int) : basisL p [] = [] := by unfold basisL; simp [basisTo]
theorem basisL_red {p : Int} (hP : isP p = true) {n : Nat} (m : List (List Int)) (hT : Tab p n m) : Red n (basisL p m) := by
  have hp : 2 ≤ p := by have := isP_ge hP; omega
  by_cases h0 : 0 < m.length
  · have hl := row0_len hT h0
    obtain ⟨c, hc⟩ := basisTo_ech hP m hT n (Nat.le_refl _)
    obtain ⟨h1, h2, h3⟩ := basisTo_inv (p := p) (by omega) m hT n
    have hlen := (basisL_len (p := p) (by omega) m hT).1
    rw [hl] at hlen
    have hg : ∀ i, i < (basisL p m).length → (basisL p m).getD i [] = (basisTo p m n).1.getD i [] := fun i hi => by
      have hi2 : i < (basisTo p m n).1.length := by omega
      have e : basisL p m = (basisTo p m n).1.take (basisTo p m n).2 := by unfold basisL; rw [hl]
      rw [getD_of_lt [] hi, getD_of_lt [] hi2]
      simp only [e, List.getElem_take]
    have he : ∀ i q, i < (basisL p m).length → ent (basisL p m) i q = ent (basisTo p m n).1 i q := fun i q hi => by unfold ent; rw [hg i hi]
    have hld : ∀ i, i < (basisL p m).length → ld (basisL p m) i = c i := fun i hi => by
      have hi' : i < (basisTo p m n).2 := by omega
      have hr := (h1.row (show i < (basisTo p m n).1.length by omega)).1
      unfold ld
      rw [hg i hi]
      refine leadL_eq _ _ (fun j hj => hc.before i hi' j hj) (.inr ⟨by rw [hr]; exact hc.lt i hi', ?_⟩)
      have := hc.one i hi'
      unfold ent at this
      rw [this]; omega
    refine ⟨fun i hi => ?_, fun i hi => ?_, fun i r hi hr hri => ?_, fun i j hij hj => ?_⟩
    · rw [hld i hi]; exact hc.lt i (by omega)
    · rw [hld i hi, he i _ hi]; exact hc.one i (by omega)
    · rw [hld i hi, he r _ hr]; exact hc.zero i (by omega) r (by omega) hri
    · rw [hld i (by omega), hld j hj]; exact hc.mono i j hij (by omega)
  · obtain rfl : m = [] := List.eq_nil_of_length_eq_zero (by omega)
    rw [basisL_nil]
    exact Red.nil n
/-- The row that has its first number at place k. -/
def ldIdx (B : List (List Int)) (k : Nat) : Option Nat := (List.range B.length).find? fun i => ld B i == k
def isLd (B : List (List Int)) (k : Nat) : Bool := (List.range B.length).any fun i => ld B i == k
theorem ldIdx_some {n : Nat} {B : List (List Int)} (h : Red n B) {i : Nat} (hi : i < B.length) : ldIdx B (ld B i) = some i := by
  unfold ldIdx
  cases e : (List.range B.length).find? fun j => ld B j == ld B i with
  | none =>
    have := List.find?_eq_none.1 e i (by simpa using hi)
    simp at this
  | some j =>
    have h1 := List.find?_some e
    have h2 := List.mem_of_find?_eq_some e
    have hji : j = i := h.inj (by simpa using h2) hi (by simpa using h1)
    rw [hji]
theorem ldIdx_none {B : List (List Int)} {k : Nat} (h : isLd B k = false) : ldIdx B k = none := by
  unfold ldIdx
  rw [List.find?_eq_none]
  intro i hi
  have := List.any_eq_false.1 h i hi
  exact this
theorem isLd_iff {B : List (List Int)} {k : Nat} : isLd B k = true ↔ ∃ i, i < B.length ∧ ld B i = k := by
  unfold isLd
  rw [List.any_eq_true]
  constructor
  · rintro ⟨i, hi, e⟩; exact ⟨i, by simpa using hi, by simpa using e⟩
  · rintro ⟨i, hi, e⟩; exact ⟨i, by simpa using hi, by simpa using e⟩
/-- The vector of the kernel that is 1 at the free place f: what is not left over is set. -/
def freePart (p : Int) (B : List (List Int)) (n f : Nat) (left : Nat → Bool) : List Int :=
  tab n fun k => if k = f then 1 else if left k then 0 else match ldIdx B k with | some i => (-(ent B i f)) % p | none => 0
def freeRow (p : Int) (B : List (List Int)) (n f : Nat) : List Int := freePart p B n f fun _ => false
theorem freePart_len (p : Int) (B : List (List Int)) (n f : Nat) (left : Nat → Bool) : (freePart p B n f left).length = n := tab_len _ _
theorem freePart_nums {p : Int} (hp : 2 ≤ p) (B : List (List Int)) (n f : Nat) (left : Nat → Bool) : NumsL p (freePart p B n f left) := NumsL.tab fun i _ => by
  split
  · omega
  · split
    · omega
    · split
      · exact ⟨Int.emod_nonneg _ (by omega), Int.emod_lt_of_pos _ (by omega)⟩
      · omega
theorem freePart_start (p : Int) (B : List (List Int)) (n f : Nat) (_hf : f < n) (left : Nat → Bool) (h : ∀ k, k < n → isLd B k = true → left k = true) : freePart p B n f left = unitRow n f := by
  apply list_ext_getD 0 (by rw [freePart_len, unitRow_len])
  intro k hk
  rw [freePart_len] at hk
  unfold freePart unitRow
  rw [tab_getD hk, getD_set, List.length_replicate]
  by_cases hkf : k = f
  · subst hkf
    rw [if_pos rfl, if_pos ⟨rfl, hk⟩]
  · have hkf' : ¬ (f = k ∧ f < n) := fun hh => hkf hh.1.symm
    rw [if_neg hkf, if_neg hkf']
    have hz : (List.replicate n (0 : Int)).getD k 0 = 0 := by rw [getD_of_lt 0 (by simpa using hk)]; simp
    rw [hz]
    cases hl : left k with
    | true => rfl
    | false =>
      have hn : isLd B k = false := by
        cases hh : isLd B k with
        | false => rfl
        | true => rw [h k hk hh] at hl; cases hl
      rw [ldIdx_none hn]; rfl
theorem freePart_step {p : Int} {n : Nat} {B : List (List Int)} (h : Red n B) {f i : Nat} (hi : i < B.length) (hf : isLd B f = false) (left : Nat → Bool) :
    (freePart p B n f left).set (ld B i) ((-(ent B i f)) % p) = freePart p B n f fun k => left k && !(k == ld B i) := by
  apply list_ext_getD 0 (by rw [List.length_set, freePart_len, freePart_len])
  intro k hk
  rw [List.length_set, freePart_len] at hk
  rw [getD_set, freePart_len]
  unfold freePart
  rw [tab_getD hk, tab_getD hk]
  by_cases hki : ld B i = k
  · subst hki
    have hne : ld B i ≠ f := fun e => by
      have := isLd_iff.2 ⟨i, hi, e⟩
      rw [hf] at this; cases this
    rw [if_pos ⟨rfl, hk⟩, if_neg hne]
    simp [ldIdx_some h hi]
  · rw [if_neg (fun hh => hki hh.1)]
    by_cases hkf : k = f
    · rw [if_pos hkf, if_pos hkf]
    · rw [if_neg hkf, if_neg hkf]
      have : (k == ld B i) = false := by simp; exact fun e => hki e.symm
      simp only [this, Bool.not_false, Bool.and_true]
theorem freePart_congr (p : Int) (B : List (List Int)) (n f : Nat) {left left' : Nat → Bool} (h : ∀ k, k < n → left k = left' k) : freePart p B n f left = freePart p B n f left' := by
  refine tab_congr fun k hk => ?_
  rw [h k hk]
/-- The vectors of the kernel for the first k places. -/
def freeTo (p : Int) (B : List (List Int)) (n k : Nat) : List (List Int) := ((List.range k).filter fun f => !isLd B f).map (freeRow p B n)
theorem freeTo_skip {p : Int} {B : List (List Int)} {n k : Nat} (h : isLd B k = true) : freeTo p B n (k + 1) = freeTo p B n k := by
  unfold freeTo; rw [List.range_succ, List.filter_append]; simp [h]
theorem freeTo_take {p : Int} {B : List (List Int)} {n k : Nat} (h : isLd B k = false) : freeTo p B n (k + 1) = freeTo p B n k ++ [freeRow p B n k] := by
  unfold freeTo; rw [List.range_succ, List.filter_append]; simp [h]
theorem freeTo_tab {p : Int} (hp : 2 ≤ p) (B : List (List Int)) (n k : Nat) : Tab p n (freeTo p B n k) := fun y hy => by
  obtain ⟨f, _, rfl⟩ := List.mem_map.1 hy
  exact ⟨freePart_len _ _ _ _ _, freePart_nums hp _ _ _ _⟩
/-- The reduced basis of the kernel of rows of n numbers. -/
def kernL (p : Int) (m : List (List Int)) (n : Nat) : List (List Int) := basisL p (freeTo p (basisL p m) n n)
theorem kernL_tab {p : Int} (hp : 2 ≤ p) (m : List (List Int)) (n : Nat) : Tab p n (kernL p m n) := basisL_tab (by omega) _ (freeTo_tab hp _ n n)
theorem kernL_red {p : Int} (hP : isP p = true) (m : List (List Int)) (n : Nat) : Red n (kernL p m n) := basisL_red hP _ (freeTo_tab (by have := isP_ge hP; omega) _ n n)
theorem kernL_len {p : Int} (hP : isP p = true) (m : List (List Int)) (n : Nat) : (kernL p m n).length ≤ n := (kernL_red hP m n).len
end Go.Proofs.YtggigolkncckoaaGreat
namespace Go.Proofs.YtggigolkncckoaaGreat
open Go.RowKit
theorem Nest.setNew {w1 w2 : World} {B : Nat} {rows : List Value} {xss : List (List Int)} {A : Option Addr} {n c : Nat} {xs : List Int} (h : Nest w1 B rows xss) (hr : Mk w1 w2 2 A n c (ints xs)) (hB : B ≤ w1.heap.size) (k : Nat) :
    Nest w2 B (rows.set k (.slice A n c)) (xss.set k xs) := by
  have hn : xs.length = n := by have := hr.2.len; rwa [ints_length] at this
  subst hn
  have hnew : ∀ g, (Value.slice A xs.length c).ownBlock = some g → w1.heap.size ≤ g := fun g hg => (World.ownsRow.lt hr.2 g hg).1
  refine ⟨by simp [h.len], fun j hj => ?_, fun i j g hij hi => ?_⟩
  · have hj' : j < xss.length := by simpa using hj
    by_cases hk : k = j
    · subst hk
      rw [List.getElem_set_self]
      exact ⟨A, c, by rw [List.getElem?_set_self (by rw [h.len]; exact hj')], hr.2.base hB⟩
    · obtain ⟨A', c', e, ho⟩ := h.row j hj'
      rw [List.getElem_set_ne hk]
      exact ⟨A', c', by rw [List.getElem?_set_ne hk]; exact e, ho.below hr.1⟩
  · rw [List.getElem?_set] at hi ⊢
    by_cases hki : k = i
    · subst hki
      rw [if_pos rfl] at hi
      rw [if_neg (by omega)]
      split at hi
      · intro hj
        have h1 := (h.block j g hj).2
        have h2 := hnew g (by simpa using hi)
        omega
      · simp at hi
    · rw [if_neg hki] at hi
      have hgi := (h.block i g hi).2
      by_cases hkj : k = j
      · rw [if_pos hkj]
        split
        · intro hj
          have h2 := hnew g (by simpa using hj)
          omega
        · simp
      · rw [if_neg hkj]
        exact h.apart i j g hij hi
theorem Nest.apart_ne {w : World} {B : Nat} {rows : List Value} {xss : List (List Int)} (h : Nest w B rows xss) (i j g : Nat) (hij : i ≠ j) (hi : (rows[i]?).bind Value.ownBlock = some g) : (rows[j]?).bind Value.ownBlock ≠ some g := by
  rcases Nat.lt_or_gt_of_ne hij with hlt | hgt
  · exact h.apart i j g hlt hi
  · intro hj
    exact h.apart j i g hgt hj hi
/-- The rows in another order. -/
theorem Nest.moved {w : World} {B : Nat} {rows rows' : List Value} {xss xss' : List (List Int)} (h : Nest w B rows xss) (s : Nat → Nat) (hs : ∀ i j, i ≠ j → s i ≠ s j) (hl : rows'.length = xss'.length) (hr : ∀ k, rows'[k]? = rows[s k]?) (hx : ∀ k, xss'[k]? = xss[s k]?) : Nest w B rows' xss' := by
  refine ⟨hl, fun k hk => ?_, fun i j g hij hi => ?_⟩
  · have e := hx k
    rw [List.getElem?_eq_getElem hk] at e
    obtain ⟨hk', e'⟩ := List.getElem?_eq_some_iff.1 e.symm
    obtain ⟨A, c, er, ho⟩ := h.row (s k) hk'
    rw [e'] at er ho
    exact ⟨A, c, by rw [hr k, er], ho⟩
  · rw [hr] at hi ⊢
    exact h.apart_ne _ _ _ (hs i j (by omega)) hi
theorem swapL_get? (m : List (List Int)) {i j : Nat} (hi : i < m.length) (hj : j < m.length) (k : Nat) : (swapL m i j)[k]? = m[if k = j then i else if k = i then j else k]? := by
  unfold swapL
  rw [List.getElem?_set, List.getElem?_set]
  by_cases h1 : j = k
  · subst h1
    rw [if_pos rfl, if_pos rfl, List.length_set, if_pos hj, getD_of_lt [] hi, List.getElem?_eq_getElem hi]
  · have h1' : ¬ k = j := fun e => h1 e.symm
    rw [if_neg h1, if_neg h1']
    by_cases h2 : i = k
    · subst h2
      rw [if_pos rfl, if_pos rfl, if_pos hi, getD_of_lt [] hj, List.getElem?_eq_getElem hj]
    · have h2' : ¬ k = i := fun e => h2 e.symm
      rw [if_neg h2, if_neg h2']
theorem swapV_get? (m : List Value) {i j : Nat} {ri rj : Value} (hi : m[i]? = some ri) (hj : m[j]? = some rj) (k : Nat) : ((m.set i rj).set j ri)[k]? = m[if k = j then i else if k = i then j else k]? := by
  have hil := (List.getElem?_eq_some_iff.1 hi).1
  have hjl := (List.getElem?_eq_some_iff.1 hj).1
  rw [List.getElem?_set, List.getElem?_set]
  by_cases h1 : j = k
  · subst h1
    rw [if_pos rfl, if_pos rfl, List.length_set, if_pos hjl, hi]
  · have h1' : ¬ k = j := fun e => h1 e.symm
    rw [if_neg h1, if_neg h1']
    by_cases h2 : i = k
    · subst h2
      rw [if_pos rfl, if_pos rfl, if_pos hil, hj]
    · have h2' : ¬ k = i := fun e => h2 e.symm
      rw [if_neg h2, if_neg h2']
theorem Nest.swap {w : World} {B : Nat} {rows : List Value} {xss : List (List Int)} (h : Nest w B rows xss) {i j : Nat} {ri rj : Value} (hi : rows[i]? = some ri) (hj : rows[j]? = some rj) : Nest w B ((rows.set i rj).set j ri) (swapL xss i j) := by
  have hil := (List.getElem?_eq_some_iff.1 hi).1
  have hjl := (List.getElem?_eq_some_iff.1 hj).1
  rw [h.len] at hil hjl
  refine h.moved (fun k => if k = j then i else if k = i then j else k) (fun a b hab => ?_) (by simp [swapL, h.len]) (swapV_get? rows hi hj) (swapL_get? xss hil hjl)
  show (if a = j then i else if a = i then j else a) ≠ (if b = j then i else if b = i then j else b)
  split <;> split <;> (try split) <;> (try split) <;> omega
section
variable {w0 w w1 w2 : World} {g n c : Nat} {xss : List (List Int)}
/-- Rows exchanged. -/
theorem MkII.swap (h : MkII w0 w (some ⟨g, 0, none⟩) n c xss) {i j : Nat} (hi : i < n) (hj : j < n) {ri rj : Value} (ci : w.cell? ⟨g, i, none⟩ = some ri) (cj : w.cell? ⟨g, j, none⟩ = some rj) :
    MkII w0 ((w.setCell ⟨g, i, none⟩ rj).setCell ⟨g, j, none⟩ ri) (some ⟨g, 0, none⟩) n c (swapL xss i j) := by
  obtain ⟨rows, hm, hn⟩ := h
  have ei : rows[i]? = some ri := by
    obtain ⟨u, hu, hc⟩ := hm.2.cell_ hi
    rw [hu, ← ci, hc]
  have ej : rows[j]? = some rj := by
    obtain ⟨u, hu, hc⟩ := hm.2.cell_ hj
    rw [hu, ← cj, hc]
  obtain ⟨m1, g1⟩ := hm.set i rj
  obtain ⟨m2, g2⟩ := m1.set j ri
  exact ⟨_, m2, ((hn.grown hm.2 (by decide) g1).grown m1.2 (by decide) g2).swap ei ej⟩
/-- A row replaced by a new one. -/
theorem MkII.setRow (h : MkII w0 w1 (some ⟨g, 0, none⟩) n c xss) {A1 : Option Addr} {m c1 : Nat} {xs : List Int} (hr : Mk w1 w2 2 A1 m c1 (ints xs)) (k : Nat) :
    MkII w0 (w2.setCell ⟨g, k, none⟩ (.slice A1 m c1)) (some ⟨g, 0, none⟩) n c (xss.set k xs) := by
  obtain ⟨rows, hm, hn⟩ := h
  have hm2 := hm.below hr.1
  obtain ⟨m1, g1⟩ := hm2.set k (.slice A1 m c1)
  exact ⟨_, m1, (hn.setNew hr hm.1.size k).grown hm2.2 (by decide) g1⟩
/-- A row of its own stays when a cell of the outer list is written. -/
theorem MkII.rowKept (h : MkII w0 w (some ⟨g, 0, none⟩) n c xss) {B : Nat} {A' : Option Addr} {m c' : Nat} {us : List Value} (ho : Own w B 2 A' m c' us) (k : Nat) (u : Value) : Own (w.setCell ⟨g, k, none⟩ u) B 2 A' m c' us := by
  obtain ⟨rows, hm, hn⟩ := h
  obtain ⟨m1, g1⟩ := hm.set k u
  exact ho.grown g1 (ho.ne hm.2 (by decide))
/-- One row's place is given to another row, which is then replaced by a new one. -/
theorem MkII.swapSet (h : MkII w0 w (some ⟨g, 0, none⟩) n c xss) {f d : Nat} (hf : f < n) (hd : d < n) {rf rd : Value} (cf : w.cell? ⟨g, f, none⟩ = some rf) (cd : w.cell? ⟨g, d, none⟩ = some rd)
    {A1 : Option Addr} {m c1 : Nat} {xs : List Int} (hr : Mk (w.setCell ⟨g, f, none⟩ rd) w2 2 A1 m c1 (ints xs)) :
    MkII w0 (w2.setCell ⟨g, d, none⟩ (.slice A1 m c1)) (some ⟨g, 0, none⟩) n c ((swapL xss d f).set d xs) := by
  obtain ⟨rows, hm, hn⟩ := h
  have ef : rows[f]? = some rf := by
    obtain ⟨u, hu, hc⟩ := hm.2.cell_ hf
    rw [hu, ← cf, hc]
  have ed : rows[d]? = some rd := by
    obtain ⟨u, hu, hc⟩ := hm.2.cell_ hd
    rw [hu, ← cd, hc]
  obtain ⟨m1, g1⟩ := hm.set f rd
  have hm2 := m1.below hr.1
  obtain ⟨m3, g3⟩ := hm2.set d (.slice A1 m c1)
  have hsz : w0.heap.size ≤ (w.setCell ⟨g, f, none⟩ rd).heap.size := m1.1.size
  have hns := ((hn.grown hm.2 (by decide) g1).swap ed ef).setNew hr hsz d
  have e1 : (((rows.set d rf).set f rd).set d (.slice A1 m c1)) = ((rows.set f rd).set d (.slice A1 m c1)) := by
    apply List.ext_getElem?
    intro k
    simp only [List.getElem?_set, List.length_set]
    by_cases h1 : d = k
    · simp [h1]
    · simp only [h1, if_false]
  rw [e1] at hns
  exact ⟨_, m3, hns.grown hm2.2 (by decide) g3⟩
theorem MkII.frozen_ (h : MkII w0 w (some ⟨g, 0, none⟩) n c xss) (k : Nat) : w.frozen? ⟨g, k, none⟩ = false := by
  obtain ⟨rows, hm, _⟩ := h
  exact hm.2.frozen_ k
theorem MkII.cellSet (h : MkII w0 w (some ⟨g, 0, none⟩) n c xss) (k : Nat) {A1 : Option Addr} {m c1 : Nat} {j : Nat} (hj : j < n) : ∃ v, (w.setCell ⟨g, k, none⟩ (.slice A1 m c1)).cell? ⟨g, j, none⟩ = some v := by
  obtain ⟨rows, hm, _⟩ := h
  obtain ⟨m1, _⟩ := hm.set k (.slice A1 m c1)
  obtain ⟨v, _, hv⟩ := m1.2.cell_ hj
  exact ⟨v, hv⟩
theorem MkII.outSet (h : MkII w0 w (some ⟨g, 0, none⟩) n c xss) (k : Nat) (u : Value) : ∃ us, Mk w0 (w.setCell ⟨g, k, none⟩ u) 24 (some ⟨g, 0, none⟩) n c us := by
  obtain ⟨rows, hm, _⟩ := h
  exact ⟨_, (hm.set k u).1⟩
theorem MkII.outer {A : Option Addr} (h : MkII w0 w A n c xss) : ∃ us, Mk w0 w 24 A n c us := by
  obtain ⟨rows, hm, _⟩ := h
  exact ⟨_, hm⟩
/-- The list cut down. -/
theorem MkII.cut {A : Option Addr} {k : Nat} (h : MkII w0 w A n c xss) (hk : k ≤ n) : MkII w0 w A k c (xss.take k) := by
  obtain ⟨rows, hm, hn⟩ := h
  refine ⟨rows.take k, ⟨hm.1, hm.2.cut hk⟩, by rw [List.length_take, List.length_take, hn.len], fun j hj => ?_, fun i j b hij hi => ?_⟩
  · have hj2 : j < k ∧ j < xss.length := by rw [List.length_take] at hj; omega
    obtain ⟨A', c', e, ho⟩ := hn.row j hj2.2
    rw [List.getElem_take]
    exact ⟨A', c', by rw [List.getElem?_take, if_pos hj2.1]; exact e, ho⟩
  · rw [List.getElem?_take] at hi ⊢
    split at hi
    · split
      · exact hn.apart i j b hij hi
      · simp
    · simp at hi
end
theorem ent_at {M : List (List Int)} {i k : Nat} (hi : i < M.length) (hk : k < M[i].length) : ent M i k = M[i][k] := by
  unfold ent
  rw [getD_of_lt [] hi, getD_of_lt 0 hk]
theorem Own.keep {w w' : World} {B : Nat} {E : TypeId} {A : Option Addr} {n c : Nat} {us : List Value} (h : Own w B E A n c us) (hk : ∀ b, B ≤ b → b < w.heap.size → w'.heap[b]? = w.heap[b]?) : Rd w' A n us := by
  refine ⟨h.len, fun hn => ?_⟩
  rcases h.form with ⟨_, h0⟩ | ⟨g, rfl, hg, hg2⟩
  · omega
  · obtain ⟨g', o, e, hc⟩ := h.rd.2 hn
    refine ⟨g', o, e, fun k u hu => ?_⟩
    injection e with e
    injection e with e1 _ _
    subst e1
    exact (World.cell?_of_block (hk g hg hg2)).trans (hc k u hu)
theorem MkII.keep {w0 w w' : World} {A : Option Addr} {n c : Nat} {xss : List (List Int)} (h : MkII w0 w A n c xss) (hk : ∀ b, w0.heap.size ≤ b → b < w.heap.size → w'.heap[b]? = w.heap[b]?) : RdII w' A n xss := by
  obtain ⟨rows, hm, hn⟩ := h
  exact ⟨rows, hm.2.keep hk, hn.len, fun k hk' => by obtain ⟨A', c', e, ho⟩ := hn.row k hk'; exact ⟨A', c', e, ho.keep hk, ho.cap⟩⟩
/-- A new row is appended: what else is said of memory, too. -/
theorem wpList_appRowG {ops : Array Oper} {rest : List Oper} {o : Oper} {a : Act} {Q : Exit → Act → World → Prop} (w0 wr w1 : World)
    (hgd : o.guard = none) (s x : Operand) (ho : o.op = .call { callee := .builtin .append, args := #[s, x], argTypes := #[44, 44] })
    (A : Option Addr) (n c : Nat) (xss : List (List Int)) (A1 : Option Addr) (m c1 : Nat) (xs : List Int) (hM : MkII w0 wr A n c xss) (hr : Mk wr w1 2 A1 m c1 (ints xs)) (hn : n ≤ 1099511627776)
    (hs : a.eval s = .slice A n c) (hx : a.eval x = .slice (some ⟨w1.heap.size, 0, none⟩) 1 1)
    (h : ∀ A' c' w', MkII w0 w' A' (n + 1) c' (xss ++ [xs]) → w1.grownBy w' (Value.slice A n c).ownBlock → (∃ g, A' = some ⟨g, 0, none⟩ ∧ ((Value.slice A n c).ownBlock = some g ∨ w1.heap.size ≤ g)) → wpList Tryz.prog ops Q rest (a.put o.dst (.slice A' (n + 1) c')) w') :
    wpList Tryz.prog ops Q (o :: rest) a (w1.alloc (.cells #[.slice A1 m c1] 24)) := by
  obtain ⟨rows, hm, hnest⟩ := hM
  have hm1 := hm.below hr.1
  have hn1 := hnest.snoc hr hm.1.size
  refine wpList_app1 w0 w1 44 24 (.slice none 0 0) 24 Tryz.underlying44 info_s rfl (by omega) hgd s x ho A n c rows (.slice A1 m c1) hm1 hn rfl hs hx ?_
  intro A' c' w' hM' hg hat
  exact h A' c' w' ⟨_, hM', hn1.grown hm1.2 (by decide) hg⟩ hg hat
/-- What is kept of the blocks between two sizes, and where a list lies that grows. -/
def Keeps (w2 w3 wr : World) (v : Value) : Prop := w3.heap.size ≤ wr.heap.size ∧ (∀ b, w2.heap.size ≤ b → b < w3.heap.size → wr.heap[b]? = w3.heap[b]?) ∧ ∀ gb, v.ownBlock = some gb → gb < w2.heap.size ∨ w3.heap.size ≤ gb
theorem lt_of_own {g gb k n c : Nat} (e : (Value.slice (some ⟨g, 0, none⟩) n c).ownBlock = some gb) (h : g < k) : gb < k := by
  have : g = gb := by simpa [Value.ownBlock] using e
  omega
theorem Keeps.step {w2 w3 wr w5 w6 : World} {A A' : Option Addr} {n c c' n' : Nat} (h : Keeps w2 w3 wr (.slice A n c)) (hb : Below wr.heap.size wr w5) (hg : w5.grownBy w6 (Value.slice A n c).ownBlock)
    (hat : ∃ g, A' = some ⟨g, 0, none⟩ ∧ ((Value.slice A n c).ownBlock = some g ∨ w5.heap.size ≤ g)) : Keeps w2 w3 w6 (.slice A' n' c') := by
  obtain ⟨h1, h2, h3⟩ := h
  have s1 := hb.size
  have s2 := hg.size
  refine ⟨by omega, fun b hb1 hb2 => ?_, fun gb hgb => ?_⟩
  · rw [hg.block b (by omega) (fun e => ?_), hb.block b (by omega), h2 b hb1 hb2]
    rcases h3 b e.symm with h | h <;> omega
  · obtain ⟨g, rfl, hor⟩ := hat
    have : g = gb := by simpa [Value.ownBlock] using hgb
    subst this
    rcases hor with he | he
    · exact h3 g he
    · right; omega
theorem MkII.ne_blk {w0 w : World} {A : Option Addr} {n c g : Nat} {xss : List (List Int)} {t : TypeId} {cs : Array Value} (h : MkII w0 w A n c xss) (hb : Blk w g t cs) (hE : 24 ≠ t) : some g ≠ (Value.slice A n c).ownBlock := by
  obtain ⟨rows, hm, _⟩ := h
  exact hm.2.ne_blk hb hE
theorem RdII.row0 {w : World} {g o n : Nat} {M : List (List Int)} {p : Int} {m : Nat} (h : RdII w (some ⟨g, o, none⟩) n M) (h0 : 0 < n) (hT : Tab p m M) : ∃ A0 c0, w.cell? ⟨g, o, none⟩ = some (.slice A0 m c0) := by
  obtain ⟨g', o', e', hx0, A0, c0, hc, _, _⟩ := h.at_ h0
  injection e' with e'
  injection e' with e1 e2 _
  subst e1; subst e2
  refine ⟨A0, c0, ?_⟩
  rw [Nat.add_zero] at hc
  rw [hc, (hT M[0] (List.getElem_mem hx0)).1]
end Go.Proofs.YtggigolkncckoaaGreat
namespace Go.Proofs.YtggigolkncckoaaGreat
open Go.Shelf
def laysSort_ren : Go.Shelf.Ren := ⟨fun | 5 => 284 | 8 => 350 | 7 => 349 | 19 => 373 | 20 => 374 | 10 => 364 | 11 => 365 | 12 => 366 | 13 => 367 | 14 => 368 | 15 => 369 | 16 => 370 | 17 => 371 | 18 => 372 | 30 => 376 | 31 => 377 | 32 => 378 | 33 => 379 | 34 => 380 | 35 => 381 | 40 => 382 | n => n, fun | 23 => 24 | 25 => 2 | 3 => 3 | 32 => 148 | 22 => 24 | 0 => 0 | 44 => 173 | 46 => 51 | 4 => 4 | 36 => 179 | 35 => 178 | 41 => 159 | 5 => 5 | 9 => 9 | 53 => 186 | 57 => 190 | 63 => 192 | 64 => 193 | n => n, fun | n => n⟩
theorem laysSort : Go.Proofs.SlLaysM.n5 Tryz.prog laysSort_ren := {
  mixed := by kernel_rfl
  f5 := ⟨Tryz.f284.name, by decide, Tryz.func284.trans (congrArg some (by kernel_rfl))⟩
  f7 := ⟨Tryz.f349.name, by decide, Tryz.func349.trans (congrArg some (by kernel_rfl))⟩
  f8 := Tryz.func350.trans (congrArg some (by kernel_rfl))
  f10 := ⟨Tryz.f364.name, by decide, Tryz.func364.trans (congrArg some (by kernel_rfl))⟩
  f11 := ⟨Tryz.f365.name, by decide, Tryz.func365.trans (congrArg some (by kernel_rfl))⟩
  f12 := ⟨Tryz.f366.name, by decide, Tryz.func366.trans (congrArg some (by kernel_rfl))⟩
  f13 := ⟨Tryz.f367.name, by decide, Tryz.func367.trans (congrArg some (by kernel_rfl))⟩
  f14 := ⟨Tryz.f368.name, by decide, Tryz.func368.trans (congrArg some (by kernel_rfl))⟩
  f15 := ⟨Tryz.f369.name, by decide, Tryz.func369.trans (congrArg some (by kernel_rfl))⟩
  f16 := ⟨Tryz.f370.name, by decide, Tryz.func370.trans (congrArg some (by kernel_rfl))⟩
  f17 := ⟨Tryz.f371.name, by decide, Tryz.func371.trans (congrArg some (by kernel_rfl))⟩
  f18 := ⟨Tryz.f372.name, by decide, Tryz.func372.trans (congrArg some (by kernel_rfl))⟩
  f19 := Tryz.func373.trans (congrArg some (by kernel_rfl))
  f20 := Tryz.func374.trans (congrArg some (by kernel_rfl))
  f30 := ⟨Tryz.f376.name, by decide, Tryz.func376.trans (congrArg some (by kernel_rfl))⟩
  f31 := Tryz.func377.trans (congrArg some (by kernel_rfl))
  f32 := Tryz.func378.trans (congrArg some (by kernel_rfl))
  f33 := ⟨Tryz.f379.name, by decide, Tryz.func379.trans (congrArg some (by kernel_rfl))⟩
  f34 := ⟨Tryz.f380.name, by decide, Tryz.func380.trans (congrArg some (by kernel_rfl))⟩
  f35 := ⟨Tryz.f381.name, by decide, Tryz.func381.trans (congrArg some (by kernel_rfl))⟩
  f40 := ⟨Tryz.f382.name, by decide, Tryz.func382.trans (congrArg some (by kernel_rfl))⟩
  t0 := Tryz.underlying0
  a0 := Tryz.isAgg0
  z0 := Tryz.sizeOf0
  v0 := Tryz.zeroValue0
  t3 := Tryz.underlying3
  a3 := Tryz.isAgg3
  z3 := Tryz.sizeOf3
  v3 := Tryz.zeroValue3
  t4 := Tryz.underlying4
  a4 := Tryz.isAgg4
  z4 := Tryz.sizeOf4
  v4 := Tryz.zeroValue4
  t5 := Tryz.underlying5
  a5 := Tryz.isAgg5
  z5 := Tryz.sizeOf5
  v5 := Tryz.zeroValue5
  t9 := Tryz.underlying9
  a9 := Tryz.isAgg9
  z9 := Tryz.sizeOf9
  v9 := Tryz.zeroValue9
  t22 := Tryz.underlying24
  a22 := Tryz.isAgg24
  z22 := Tryz.sizeOf24
  v22 := Tryz.zeroValue24
  t23 := Tryz.underlying24
  a23 := Tryz.isAgg24
  z23 := Tryz.sizeOf24
  v23 := Tryz.zeroValue24
  t25 := Tryz.underlying2
  a25 := Tryz.isAgg2
  z25 := Tryz.sizeOf2
  v25 := Tryz.zeroValue2
  t32 := Tryz.underlying148
  a32 := Tryz.isAgg148
  z32 := Tryz.sizeOf148
  v32 := Tryz.zeroValue148
  t35 := Tryz.underlying178
  a35 := Tryz.isAgg178
  z35 := Tryz.sizeOf178
  v35 := Tryz.zeroValue178
  t36 := Tryz.underlying179
  a36 := Tryz.isAgg179
  z36 := Tryz.sizeOf179
  v36 := Tryz.zeroValue179
  t41 := Tryz.underlying159
  a41 := Tryz.isAgg159
  z41 := Tryz.sizeOf159
  v41 := Tryz.zeroValue159
  t44 := Tryz.underlying173
  a44 := Tryz.isAgg173
  z44 := Tryz.sizeOf173
  v44 := Tryz.zeroValue173
  t46 := Tryz.underlying51
  a46 := Tryz.isAgg51
  z46 := Tryz.sizeOf51
  v46 := Tryz.zeroValue51
  t53 := Tryz.underlying186
  a53 := Tryz.isAgg186
  z53 := Tryz.sizeOf186
  v53 := Tryz.zeroValue186
  t57 := Tryz.underlying190
  a57 := Tryz.isAgg190
  z57 := Tryz.sizeOf190
  v57 := Tryz.zeroValue190
  t63 := Tryz.underlying192
  a63 := Tryz.isAgg192
  z63 := Tryz.sizeOf192
  v63 := Tryz.zeroValue192
  t64 := Tryz.underlying193
  a64 := Tryz.isAgg193
  z64 := Tryz.sizeOf193
  v64 := Tryz.zeroValue193 }
open Go.Sort Go.RowKit in
theorem slices_Sort_int (blk off cap : Nat) (zs : List Int) (w : World) (hH : Holds (Value.int .i64) w blk off zs.toArray) (hblk : blk < w.heap.size) (hsz : zs.length < 4611686018427387904) :
    Calls Tryz.prog 284 #[.slice (some ⟨blk, off, none⟩) zs.length cap] w fun e w' =>
      e = .returned (.tuple #[]) ∧ ∃ n os, w' = grow (putRow (Value.int .i64) (Sort.ahead w n) blk off (zs.mergeSort fun x y => decide (x ≤ y)).toArray) os := AnyM.slices_Sort_int laysSort blk off cap zs w hH hblk hsz
def laysCompact_ren : Go.Shelf.Ren := ⟨fun | 43 => 285 | n => n, fun | 22 => 24 | 23 => 2 | 3 => 3 | 4 => 4 | 0 => 0 | n => n, fun | n => n⟩
theorem laysCompact : Go.Proofs.SlLaysE.n43 Tryz.prog laysCompact_ren := {
  mixed := by kernel_rfl
  f43 := ⟨Tryz.f285.name, by decide, Tryz.func285.trans (congrArg some (by kernel_rfl))⟩
  t0 := Tryz.underlying0
  a0 := Tryz.isAgg0
  z0 := Tryz.sizeOf0
  v0 := Tryz.zeroValue0
  t3 := Tryz.underlying3
  a3 := Tryz.isAgg3
  z3 := Tryz.sizeOf3
  v3 := Tryz.zeroValue3
  t4 := Tryz.underlying4
  a4 := Tryz.isAgg4
  z4 := Tryz.sizeOf4
  v4 := Tryz.zeroValue4
  t22 := Tryz.underlying24
  a22 := Tryz.isAgg24
  z22 := Tryz.sizeOf24
  v22 := Tryz.zeroValue24
  a23 := Tryz.isAgg2
  z23 := Tryz.sizeOf2 }
open Go.Sort Go.RowKit
/-- Sorted. -/
def sortL (zs : List Int) : List Int := zs.mergeSort fun x y => decide (x ≤ y)
theorem sortL_len (zs : List Int) : (sortL zs).length = zs.length := List.length_mergeSort zs
theorem own_sorted {w0 wr : World} {g n c q : Nat} {os : Array Obj} {zs ts : List Int} (h : MkI w0 wr (some ⟨g, 0, none⟩) n c zs) (hl : ts.length = zs.length) :
    MkI w0 (grow (putRow (Value.int .i64) (Sort.ahead wr q) g 0 ts.toArray) os) (some ⟨g, 0, none⟩) n c ts ∧ wr.grownBy (grow (putRow (Value.int .i64) (Sort.ahead wr q) g 0 ts.toArray) os) (some g) := by
  have hn : zs.length = n := by have := h.2.len; rwa [ints_length] at this
  subst hn
  have hg := grownBy_sortedI (w := wr) (g := g) (n := q) (os := os) ts.toArray
  rcases h.2.2 with ⟨he, _⟩ | ⟨g', cap, cur, he, hB, hc, h1, h2, h3, ht⟩
  · cases he
  · cases he
    exact ⟨⟨h.1.grown hg h.1.size (fun k hk => by injection hk with hk; subst hk; exact hB), ownsRow_sortedI hl hB hc h1 h2 h3⟩, hg⟩
theorem holds_own {w0 wr : World} {g n c : Nat} {zs : List Int} (h : MkI w0 wr (some ⟨g, 0, none⟩) n c zs) : Holds (Value.int .i64) wr g 0 zs.toArray ∧ g < wr.heap.size ∧ n ≤ c := by
  have hn : zs.length = n := by have := h.2.len; rwa [ints_length] at this
  subst hn
  rcases h.2.2 with ⟨he, _⟩ | ⟨g', cap, cur, he, hB, hc, h1, h2, h3, ht⟩
  · cases he
  · cases he
    exact ⟨holds_of_blockI hc (by simpa [ints] using ht), (Array.getElem?_eq_some_iff.1 hc).1, h1⟩
theorem sort_own (w0 wr : World) (g n c : Nat) (zs : List Int) (h : MkI w0 wr (some ⟨g, 0, none⟩) n c zs) (hn : n ≤ 1099511627776) :
    Calls Tryz.prog 284 #[.slice (some ⟨g, 0, none⟩) n c] wr fun e w' => e = .returned (.tuple #[]) ∧ MkI w0 w' (some ⟨g, 0, none⟩) n c (sortL zs) ∧ wr.grownBy w' (some g) := by
  have hl : zs.length = n := by have := h.2.len; rwa [ints_length] at this
  obtain ⟨h1, h2, h3⟩ := holds_own h
  have hc := slices_Sort_int g 0 c zs wr h1 h2 (by omega)
  rw [hl] at hc
  refine hc.mono ?_
  rintro e w' ⟨rfl, q, os, rfl⟩
  obtain ⟨h4, h5⟩ := own_sorted (q := q) (os := os) h (sortL_len zs)
  exact ⟨rfl, h4, h5⟩
theorem compact_own (w0 wr : World) (g n c : Nat) (zs : List Int) (h : MkI w0 wr (some ⟨g, 0, none⟩) n c zs) (hn : n ≤ 1099511627776) :
    Calls Tryz.prog 285 #[.slice (some ⟨g, 0, none⟩) n c] wr fun e w' => e = .returned (.slice (some ⟨g, 0, none⟩) (Lib.compact zs).length c) ∧ MkI w0 w' (some ⟨g, 0, none⟩) (Lib.compact zs).length c (Lib.compact zs) := by
  have hl : zs.length = n := by have := h.2.len; rwa [ints_length] at this
  obtain ⟨h1, h2, h3⟩ := holds_own h
  have hc := AnyE.slices_Compact laysCompact (Value.int .i64) (fun _ => rfl) (EqlAt.intD _ _ .i64) (NeqAt.intD _ _ .i64) 0 Tryz.zeroValue2 g 0 c zs.toArray wr h1 (by simp; omega) (by simp; omega)
  have hs : zs.toArray.size = n := by simpa using hl
  have hle : (Lib.compactUpTo zs.toArray n).length ≤ n := by
    unfold Lib.compactUpTo
    rw [List.length_map]
    exact Nat.le_trans (List.length_filter_le _ _) (by simp)
  have he : Lib.compact zs = Lib.compactUpTo zs.toArray n := by unfold Lib.compact; rw [hl]
  rw [hs] at hc
  rw [he]
  refine hc.mono ?_
  rintro e w' ⟨rfl, q, rfl⟩
  obtain ⟨h4, h5⟩ := own_sorted (ts := Lib.compactUpTo zs.toArray n ++ List.replicate (n - (Lib.compactUpTo zs.toArray n).length) 0) (q := q) (os := #[]) h (by simp; omega)
  rw [grow_empty] at h4
  refine ⟨rfl, h4.1, ?_⟩
  have := h4.2.cut hle
  have e2 : (ints (Lib.compactUpTo zs.toArray n ++ List.replicate (n - (Lib.compactUpTo zs.toArray n).length) 0)).take (Lib.compactUpTo zs.toArray n).length = ints (Lib.compactUpTo zs.toArray n) := by
    rw [← ints_append, List.take_left' (by rw [ints_length])]
  rwa [e2] at this
end Go.Proofs.YtggigolkncckoaaGreat
namespace Go.Proofs.YtggigolkncckoaaGreat
open Go.RowKit
set_option maxHeartbeats 400000 in
theorem Index_any (A : Option Addr) (n c : Nat) (xs : List Int) (v : Int) (w : World) (hn : n ≤ 1099511627776) (ha : Rd w A n (ints xs)) :
    Calls Tryz.prog 353 #[.slice A n c, .int .i64 v] w fun e w' => ∃ r : Int, e = .returned (.int .i64 r) ∧ decide (0 ≤ r) = xs.contains v ∧ w = w' := by
  have hxl : xs.length = n := by have := ha.1; rwa [ints_length] at this
  have Hx := Lib.hid hxl; clear hxl
  go_enter Tryz.func353, Tryz.ntmps353
  go_wp2
  go_loop [8] (fun i => ∃ k : Nat, k ≤ n ∧ i = .int .i64 k ∧ (xs.take k).contains v = false) (fun i => n - (intOf i).toNat)
  case atStart => exact ⟨0, by omega, rfl, by simp⟩
  case round =>
    obtain ⟨k, hk, rfl, ht⟩ := hrel
    have H := Lib.hid ht; clear ht
    by_cases hlt : k < n
    · obtain ⟨g, o, rfl, hx, hcx⟩ := ha.int hlt
      clear ha
      cases hi : (v == xs[k])
      all_goals
        have HI := Lib.hid hi
        go_wp2
      · go_round
        case rel =>
          refine ⟨k + 1, by omega, by go_num, ?_⟩
          rw [List.take_succ_eq_append_getElem hx, List.contains_eq_any_beq, List.any_append, ← List.contains_eq_any_beq, H.out]
          simpa using HI.out
        case measure => simp [intOf]; omega
      · go_ret
        refine ⟨_, rfl, ?_, rfl⟩
        have hv : v = xs[k] := by simpa using HI.out
        have : xs.contains v = true := by rw [List.contains_iff_mem, hv]; exact List.getElem_mem hx
        simpa using this
    · go_wp2
      go_ret
      refine ⟨_, rfl, ?_, rfl⟩
      have := H.out
      rw [List.take_of_length_le (by rw [Hx.out]; omega)] at this
      simpa using this
set_option maxHeartbeats 400000 in
theorem Contains_any (A : Option Addr) (n c : Nat) (xs : List Int) (v : Int) (w : World) (hn : n ≤ 1099511627776) (ha : Rd w A n (ints xs)) :
    Calls Tryz.prog 298 #[.slice A n c, .int .i64 v] w fun e w' => e = .returned (.bool (xs.contains v)) ∧ w = w' := by
  go_enter Tryz.func298, Tryz.ntmps298
  go_wp2_with fail
  refine (Index_any _ _ _ _ _ _ hn ha).mono ?_
  rintro e w1 ⟨r, rfl, hr, rfl⟩
  have HR := Lib.hid hr; clear hr
  go_wp2
  go_ret
  exact ⟨ret_bool HR.out, rfl⟩
theorem Contains_b {b : Bool} (A : Option Addr) (n c : Nat) (xs : List Int) (v : Int) (w : World) (hn : n ≤ 1099511627776) (ha : Rd w A n (ints xs)) (h : xs.contains v = b) :
    Calls Tryz.prog 298 #[.slice A n c, .int .i64 v] w fun e w' => e = .returned (.bool b) ∧ w = w' := h ▸ Contains_any A n c xs v w hn ha
/-- A search by a function of one captured pointer that answers of a row what p says and changes nothing that was there. -/
def Tells (f : FuncId) (cap : Array Value) (w : World) (p : List Int → Bool) (ok : List Int → Prop) : Prop :=
  ∀ (w' : World) (A : Option Addr) (m c : Nat) (xs : List Int), Below w.heap.size w w' → Rd w' A m (ints xs) → ok xs →
    Calls Tryz.prog f (#[.slice A m c] ++ cap) w' fun e w'' => e = .returned (.bool (p xs)) ∧ Below w'.heap.size w' w''
set_option maxHeartbeats 800000 in
theorem IndexFunc_any (f : FuncId) (q : Addr) (p : List Int → Bool) (ok : List Int → Prop) (A : Option Addr) (n c : Nat) (xss : List (List Int)) (w : World) (hn : n ≤ 1099511627776) (ha : RdII w A n xss) (hok : ∀ xs ∈ xss, ok xs)
    (hf : Tells f #[.pointer (some q)] w p ok) (hcf : ∀ (args : Array Value) (w : World), (callFunc f args).run Tryz.prog w = .ok (.enter f args) w) :
    Calls Tryz.prog 302 #[.slice A n c, .func (.func f) #[] #[.pointer (some q)]] w fun e w' => ∃ r : Int, e = .returned (.int .i64 r) ∧ decide (0 ≤ r) = xss.any p ∧ Below w.heap.size w w' := by
  have hxl := ha.len
  have Hx := Lib.hid hxl; clear hxl
  go_enter Tryz.func302, Tryz.ntmps302
  go_wp2
  go_loopw [8] (fun i wr => ∃ k : Nat, k ≤ n ∧ i = .int .i64 k ∧ (xss.take k).any p = false ∧ Below w.heap.size w wr) (fun i _ => n - (intOf i).toNat)
  case atStart => exact ⟨0, by omega, rfl, by simp, Below.refl _ _⟩
  case round =>
    obtain ⟨k, hk, rfl, ht, hB⟩ := hrel
    have H := Lib.hid ht; clear ht
    by_cases hlt : k < n
    · obtain ⟨g, o, rfl, hx, A', c', hcx, hr, -⟩ := (ha.below hB).at_ hlt
      have hoki := hok xss[k] (List.getElem_mem hx)
      clear ha
      cases hi : p xss[k]
      all_goals
        have HI := Lib.hid hi; clear hi
        go_wp2_with fail
        refine (hf _ _ _ _ _ hB hr hoki).mono ?_
        rintro e w1 ⟨rfl, hb1⟩
        rw [HI.out]
        go_wp2
      · go_roundw
        case rel =>
          refine ⟨k + 1, by omega, by go_num, ?_, hB.trans (hb1.mono hB.size)⟩
          rw [List.take_succ_eq_append_getElem hx, List.any_append, H.out]
          simpa using HI.out
        case measure => simp [intOf]; omega
      · go_ret
        refine ⟨_, rfl, ?_, hB.trans (hb1.mono hB.size)⟩
        have : xss.any p = true := List.any_eq_true.2 ⟨xss[k], List.getElem_mem hx, HI.out⟩
        rw [this]; simp
    · go_wp2
      go_ret
      refine ⟨_, rfl, ?_, hB⟩
      have := H.out
      rw [List.take_of_length_le (by rw [Hx.out]; omega)] at this
      rw [this]; simp
set_option maxHeartbeats 400000 in
theorem ContainsFunc_any (f : FuncId) (q : Addr) (p : List Int → Bool) (ok : List Int → Prop) (A : Option Addr) (n c : Nat) (xss : List (List Int)) (w : World) (hn : n ≤ 1099511627776) (ha : RdII w A n xss) (hok : ∀ xs ∈ xss, ok xs)
    (hf : Tells f #[.pointer (some q)] w p ok) (hcf : ∀ (args : Array Value) (w : World), (callFunc f args).run Tryz.prog w = .ok (.enter f args) w) :
    Calls Tryz.prog 168 #[.slice A n c, .func (.func f) #[] #[.pointer (some q)]] w fun e w' => e = .returned (.bool (xss.any p)) ∧ Below w.heap.size w w' := by
  go_enter Tryz.func168, Tryz.ntmps168
  go_wp2_with fail
  refine (IndexFunc_any _ _ _ _ _ _ _ _ _ hn ha hok hf hcf).mono ?_
  rintro e w1 ⟨r, rfl, hr, hb⟩
  have HR := Lib.hid hr; clear hr
  go_wp2
  go_ret
  exact ⟨ret_bool HR.out, hb⟩
end Go.Proofs.YtggigolkncckoaaGreat

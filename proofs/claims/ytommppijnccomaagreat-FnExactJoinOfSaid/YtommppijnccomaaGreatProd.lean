/-
  The product of two multivectors: the program's function.
-/
import Derived.Test.YtommppijnccomaaGreatFac
import Derived.Test.YtommppijnccomaaGreatUnit
import Derived.Test.YtommppijnccomaaGreatTasks
import Derived.Deep.RegionHeld3
namespace Go.Proofs.YtommppijnccomaaGreat
open Go.RowKit

theorem xor_all : ∀ x : Nat, x < 64 → ∀ y : Nat, y < 64 → bits BinOp.xor IntKind.i64 (x : Int) (y : Int) = ((x ^^^ y : Nat) : Int) := by decide +kernel
theorem xor_lt {n x y : Nat} (hx : x < pw n) (hy : y < pw n) : x ^^^ y < pw n := Nat.xor_lt_two_pow hx hy
theorem i64_fit (n : Int) (h1 : -1000000000000 ≤ n) (h2 : n ≤ 1000000000000) : IntKind.i64.wrap n = n := by rw [IntWalk.i64_left]; exact wrap_in n h1 h2

/-- A row of numbers of the call's own: place i. -/
theorem mkI_at {w w' : World} {g n c : Nat} {L : List Int} (h : MkI w w' (some ⟨g, 0, none⟩) n c L) {i : Nat} (hi : i < n) : w'.cell? ⟨g, i, none⟩ = some (.int .i64 (L.getD i 0)) ∧ w'.frozen? ⟨g, i, none⟩ = false := by
  have hl : L.length = n := by have := h.2.len; rwa [ints_length] at this
  obtain ⟨g', o, e, hx, hc⟩ := Rd.int h.rd hi
  injection e with e; injection e with e1 e2 _
  subst e1; subst e2
  rw [Nat.zero_add] at hc
  exact ⟨by rw [hc, List.getD_eq_getElem?_getD, List.getElem?_eq_getElem hx]; rfl, h.2.frozen_ i⟩

theorem keepC2 {w1 w2 : World} {p q : Addr} {u v : Value} (h : w1.cell? p = some u ∧ w1.cell? q = some v) (hb : Below w1.heap.size w1 w2) : w2.cell? p = some u ∧ w2.cell? q = some v :=
  ⟨(hb.cell (World.block_lt_of_cell? _ _ h.1)).trans h.1, (hb.cell (World.block_lt_of_cell? _ _ h.2)).trans h.2⟩
theorem keepC2_set {w1 : World} {g b i j k : Nat} {u v x : Value} (h : w1.cell? ⟨b, i, none⟩ = some u ∧ w1.cell? ⟨b, j, none⟩ = some v) (hg : g ≠ b) :
    (w1.setCell ⟨g, k, none⟩ x).cell? ⟨b, i, none⟩ = some u ∧ (w1.setCell ⟨g, k, none⟩ x).cell? ⟨b, j, none⟩ = some v := by
  have h1 : ∀ m : Nat, (w1.setCell ⟨g, k, none⟩ x).cell? ⟨b, m, none⟩ = w1.cell? ⟨b, m, none⟩ := fun m => World.cell?_setCell_far _ _ _ _ hg
  exact ⟨(h1 i).trans h.1, (h1 j).trans h.2⟩

/-- A function of two masks that tells whether their product is taken. -/
def Takes (f : FuncId) (t : Nat → Nat → Bool) : Prop := ∀ (a b : Nat) (w : World), a < 64 → b < 64 → Calls Tryz.prog f #[.int .i64 a, .int .i64 b] w fun e w' => e = .returned (.bool (t a b)) ∧ w = w'

set_option maxRecDepth 2000 in
set_option maxHeartbeats 3200000 in
theorem product_any (f : FuncId) (t : Nat → Nat → Bool) (hf : Takes f t) (hcf : ∀ (args : Array Value) (w : World), (callFunc f args).run Tryz.prog w = .ok (.enter f args) w)
    (P : Int) (A : Option Addr) (n c : Nat) (sq : List Int) (X : Option Addr) (cx : Nat) (xs : List Int) (Y : Option Addr) (cy : Nat) (ys : List Int) (w : World) (hp : 2 ≤ P) (hp2 : P ≤ 13) (hn : n ≤ 6)
    (ha : Rd w A n (ints sq)) (hs : NumsL P sq) (hx : Rd w X (pw n) (ints xs)) (hxs : NumsL P xs) (hy : Rd w Y (pw n) (ints ys)) (hys : NumsL P ys) :
    Calls Tryz.prog 97 #[.agg #[.int .i64 P, .slice A n c], .slice X (pw n) cx, .slice Y (pw n) cy, .func (.func f) #[] #[]] w fun e w' => ∃ A' c', e = .returned (.slice A' (pw n) c') ∧ MkI w w' A' (pw n) c' (prodL P sq t xs ys) := by
  have hxl : xs.length = pw n := by have := hx.1; rwa [ints_length] at this
  have hyl : ys.length = pw n := by have := hy.1; rwa [ints_length] at this
  have Hx := Lib.hid hxl; clear hxl
  have Hy := Lib.hid hyl; clear hyl
  have hpw : pw n ≤ 64 := pw_le hn
  go_enter Tryz.func97, Tryz.ntmps97
  go_wp2_with (go_at_call 99; refine (nothing_any _ _ _ _ _ (by omega)).mono ?_; rintro e w1 ⟨G, c1, rfl, hM1⟩)
  have hB0 : Below w.heap.size w (w.alloc (.cells #[.int .i64 P, .slice A n c] 28)) := (Below.refl _ w).alloc (Nat.le_refl _) _
  have hk0 : Blk w1 w.heap.size 28 #[.int .i64 P, .slice A n c] := (Blk.new w _ _).below hM1.b (by simp)
  have hpos := pw_pos n
  rcases hM1.2.form with ⟨_, h0⟩ | ⟨g, rfl, hg, _⟩
  · omega
  have hg' : w.heap.size + 1 ≤ g := by simpa using hg
  have hM := hM1.after hB0
  clear hM1 hB0 hg hpos
  go_loopw [10, 11, 18] (fun _ _ i wr => ∃ k : Nat, k ≤ pw n ∧ i = .int .i64 k ∧ MkI w wr (some ⟨g, 0, none⟩) (pw n) c1 (addRows P sq t xs ys (List.replicate (pw n) 0) k) ∧ Blk wr w.heap.size 28 #[.int .i64 P, .slice A n c]) (fun _ _ i _ => pw n - (intOf i).toNat)
  case atStart => exact ⟨0, by omega, rfl, by simpa [addRows] using hM, hk0⟩
  case round =>
    obtain ⟨k, hk, rfl, hM2, hk2⟩ := hrel
    clear hM hk0
    have hrx := hx.below hM2.b
    by_cases hlt : k < pw n
    · obtain ⟨gx, ox, hX, hxk, hcx⟩ := hrx.int hlt
      subst hX
      obtain ⟨x1, x2⟩ := hxs _ (List.getElem_mem hxk)
      clear hrx
      cases h0 : (xs[k] == 0)
      · have hxn : Hid (xs.getD k 0 = xs[k]) := Lib.hid (by rw [List.getD_eq_getElem?_getD, List.getElem?_eq_getElem hxk]; rfl)
        have hR0 : MkI w wr (some ⟨g, 0, none⟩) (pw n) c1 (addRow P sq t xs ys k (addRows P sq t xs ys (List.replicate (pw n) 0) k) 0) := by simpa [addRow] using hM2
        have hN0 : NumsL P (addRows P sq t xs ys (List.replicate (pw n) 0) k) := addRows_nums sq t xs ys k (by omega) (NumsL.replicate (by omega) _)
        obtain ⟨L0, hL0⟩ : ∃ L, L = addRows P sq t xs ys (List.replicate (pw n) 0) k := ⟨_, rfl⟩
        rw [← hL0] at hR0 hN0
        have HL0 := Lib.hid hL0
        clear hM2 hL0
        have hcw : w.cell? ⟨gx, ox + k, none⟩ = some (.int .i64 xs[k]) := by
          obtain ⟨g', o', e, hx', hc'⟩ := hx.int hlt
          injection e with e; injection e with e1 e2 _
          subst e1; subst e2; exact hc'
        have HCW := Lib.hid hcw
        clear hcw
        go_wp2
        clear hcx
        go_loopw [12, 13, 27] (fun _ _ i wr => ∃ j : Nat, j ≤ pw n ∧ i = .int .i64 j ∧ MkI w wr (some ⟨g, 0, none⟩) (pw n) c1 (addRow P sq t xs ys k L0 j) ∧ Blk wr w.heap.size 28 #[.int .i64 P, .slice A n c]) (fun _ _ i _ => pw n - (intOf i).toNat)
        case atStart => exact ⟨0, by omega, rfl, hR0, hk2⟩
        case round =>
          clear hR0 hk2
          obtain ⟨j, hj, rfl, hM3, hk3⟩ := hrel
          have hry := hy.below hM3.b
          by_cases hlj : j < pw n
          · obtain ⟨gy, oy, hY, hyj, hcy⟩ := hry.int hlj
            subst hY
            obtain ⟨y1, y2⟩ := hys _ (List.getElem_mem hyj)
            clear hry
            have hyn : Hid (ys.getD j 0 = ys[j]) := Lib.hid (by rw [List.getD_eq_getElem?_getD, List.getElem?_eq_getElem hyj]; rfl)
            cases h1 : (ys[j] != 0)
            · have hz : Hid (ys.getD j 0 = 0) := Lib.hid (by rw [hyn.out]; simpa using h1)
              go_wp2
              go_roundw
              case rel => exact ⟨j + 1, by omega, by go_num, by rw [addRow_succ]; unfold addPair; rw [if_neg (fun hh => hh.2.1 hz.out)]; exact hM3, hk3⟩
              case measure => simp [intOf]; omega
            · cases ht : t k j
              · have HT := Lib.hid ht; clear ht
                go_wp2_with fail
                refine (hf k j _ (by omega) (by omega)).mono ?_
                rintro e w' ⟨rfl, rfl⟩
                rw [HT.out]
                go_wp2
                go_roundw
                case rel => exact ⟨j + 1, by omega, by go_num, by rw [addRow_succ]; unfold addPair; rw [if_neg (fun hh => by rw [HT.out] at hh; exact absurd hh.2.2 (by decide))]; exact hM3, hk3⟩
                case measure => simp [intOf]; omega
              · have HT := Lib.hid ht; clear ht
                have hidx : k ^^^ j < pw n := xor_lt hlt hlj
                have hxo := xor_all k (by omega) j (by omega)
                have hvb := (addRow_nums sq t xs ys k j (by omega) hN0).getD (by omega) (k ^^^ j)
                obtain ⟨hoc, hof⟩ := mkI_at hM3.drew hidx
                obtain ⟨v0, hv0⟩ : ∃ v, v = (addRow P sq t xs ys k L0 j).getD (k ^^^ j) 0 := ⟨_, rfl⟩
                rw [← hv0] at hvb hoc
                obtain ⟨v1, v2⟩ := hvb
                have HV0 := Lib.hid hv0
                have hAt : Hid (∀ w', MkI w w' (some ⟨g, 0, none⟩) (pw n) c1 (addRow P sq t xs ys k L0 j) → w'.cell? ⟨g, k ^^^ j, none⟩ = some (.int .i64 v0) ∧ w'.frozen? ⟨g, k ^^^ j, none⟩ = false) :=
                  Lib.hid (fun w' h => by rw [HV0.out]; exact mkI_at h hidx)
                clear hv0
                obtain ⟨f1, f2⟩ := fac_bound P sq k j hp
                obtain ⟨m1, m2⟩ := mul_small x1 (show xs[k] ≤ 13 by omega) y1 (show ys[j] ≤ 13 by omega)
                obtain ⟨m3, m4⟩ := mul_small m1 (show xs[k] * ys[j] ≤ 169 by omega) f1 (show fac P sq k j ≤ 13 by omega)
                have HNE : Hid (g ≠ w.heap.size) := Lib.hid (by omega)
                have HP : Hid (0 < P) := Lib.hid (by omega)
                have hV : Hid (∀ w', Calls Tryz.prog 69 #[.int .i64 P, .int .i64 (v0 + xs[k] * ys[j] * fac P sq k j)] w' fun e w'' => e = .returned (.int .i64 ((v0 + xs[k] * ys[j] * fac P sq k j) % P)) ∧ w' = w'') :=
                  Lib.hid (fun w' => num_any P _ w' (by omega) hp2 (by omega) (by omega))
                have hF : Hid (∀ w', MkI w w' (some ⟨g, 0, none⟩) (pw n) c1 (addRow P sq t xs ys k L0 j) → Calls Tryz.prog 132 #[.agg #[.int .i64 P, .slice A n c], .int .i64 k, .int .i64 j] w' fun e w'' => e = .returned (.int .i64 (fac P sq k j)) ∧ Below w'.heap.size w' w'') :=
                  Lib.hid (fun w' h => factor_any P A n c sq k j w' hp hp2 hn (ha.below h.b) hs (by omega) (by omega))
                have W1 := i64_fit (xs[k] * ys[j]) (by omega) (by omega)
                have W2 := i64_fit (xs[k] * ys[j] * fac P sq k j) (by omega) (by omega)
                have W3 := i64_fit (v0 + xs[k] * ys[j] * fac P sq k j) (by omega) (by omega)
                obtain ⟨kc0, kc1⟩ := hk3.two
                go_wp2_with fail
                refine (hf k j _ (by omega) (by omega)).mono ?_
                rintro e w' ⟨rfl, rfl⟩
                rw [HT.out]
                have hO := hM3.drew
                have hk4 := hk3.drew
                have HPair : Hid (xs.getD k 0 ≠ 0 ∧ ys.getD j 0 ≠ 0 ∧ t k j = true) := Lib.hid ⟨by rw [hxn.out]; simpa using h0, by rw [hyn.out]; simpa using h1, HT.out⟩
                go_wp2
                have i1 : (0 : Int) ≤ ((k ^^^ j : Nat) : Int) := by omega
                have i2 : ((k ^^^ j : Nat) : Int) < ((pw n : Nat) : Int) := by omega
                refine wp_obs 23 [[], [], [], [1, 2], [], [4], [], [], [], [7, 8], [6, 7, 8, 9], [6, 7, 8, 9, 10], [], [], [12, 13], [], [], [], [15, 16, 17], [12, 13, 14, 15, 16, 17, 18], [6, 7, 8, 9, 10, 11, 12, 13, 14, 15, 16, 17, 18, 19], [4, 5, 6, 7, 8, 9, 10, 11, 12, 13, 14, 15, 16, 17, 18, 19, 20], [0, 1, 2, 3], [0, 1, 2, 3, 4, 5, 6, 7, 8, 9, 10, 11, 12, 13, 14, 15, 16, 17, 18, 19, 20, 21, 22]] [VIs (.slice (some ⟨g, 0, none⟩) (pw n) c1), VIs (.int .i64 (k)), VIs (.int .i64 (j)), VIs (.int .i64 ((k ^^^ j : Nat))), VIs (.agg #[.int .i64 P, .slice A n c]), VIs (.int .i64 (P)), VIs (.slice (some ⟨g, 0, none⟩) (pw n) c1), VIs (.int .i64 (k)), VIs (.int .i64 (j)), VIs (.int .i64 ((k ^^^ j : Nat))), VIs (.pointer (some ⟨g, k ^^^ j, none⟩)), VIs (.int .i64 (v0)), VIs (.int .i64 (xs[k])), VIs (.int .i64 (ys[j])), VIs (.int .i64 (xs[k] * ys[j])), VIs (.agg #[.int .i64 P, .slice A n c]), VIs (.int .i64 (k)), VIs (.int .i64 (j)), VIs (.int .i64 (fac P sq k j)), VIs (.int .i64 (xs[k] * ys[j] * fac P sq k j)), VIs (.int .i64 (v0 + xs[k] * ys[j] * fac P sq k j)), VIs (.int .i64 ((v0 + xs[k] * ys[j] * fac P sq k j) % P)), VIs (.pointer (some ⟨g, k ^^^ j, none⟩))] (fun w' => Blk w' w.heap.size 28 #[.int .i64 P, .slice A n c] ∧ MkI w w' (some ⟨g, 0, none⟩) (pw n) c1 (addRow P sq t xs ys k L0 j)) (by kernel_rfl) (by kernel_rfl) (fun _ _ h hb => ⟨h.1.below hb h.1.lt, h.2.below hb⟩) (⟨hk4, hO⟩) (fun x => ?_)
                refine obs_step (Eq.trans (by simp only [List.getElem?_toArray, List.getElem?_cons_zero]; exact rfl) rfl) rfl (fun w' hS hV K hK => ?_) ?_
                · obtain ⟨q0, q1⟩ := hS.1.two; obtain ⟨hoc, hof⟩ := hAt.out _ hS.2
                  go_simp
                  exact hK.out _ _ _ rfl rfl rfl (Below.refl _ _)
                simp only [List.setIfInBounds_toArray, List.set_cons_zero, List.set_cons_succ]
                refine obs_step (Eq.trans (by simp only [List.getElem?_toArray, List.getElem?_cons_succ, List.getElem?_cons_zero]; exact rfl) rfl) rfl (fun w' hS hV K hK => ?_) ?_
                · obtain ⟨q0, q1⟩ := hS.1.two; obtain ⟨hoc, hof⟩ := hAt.out _ hS.2
                  go_simp
                  exact hK.out _ _ _ rfl rfl rfl (Below.refl _ _)
                simp only [List.setIfInBounds_toArray, List.set_cons_zero, List.set_cons_succ]
                refine obs_step (Eq.trans (by simp only [List.getElem?_toArray, List.getElem?_cons_succ, List.getElem?_cons_zero]; exact rfl) rfl) rfl (fun w' hS hV K hK => ?_) ?_
                · obtain ⟨q0, q1⟩ := hS.1.two; obtain ⟨hoc, hof⟩ := hAt.out _ hS.2
                  go_simp
                  exact hK.out _ _ _ rfl rfl rfl (Below.refl _ _)
                simp only [List.setIfInBounds_toArray, List.set_cons_zero, List.set_cons_succ]
                refine obs_step (Eq.trans (by simp only [List.getElem?_toArray, List.getElem?_cons_succ, List.getElem?_cons_zero]; exact rfl) rfl) rfl (fun w' hS hV K hK => ?_) ?_
                · simp only [List.mem_cons, List.not_mem_nil, or_false, forall_eq_or_imp, forall_eq, List.getD_cons_succ, List.getD_cons_zero, VIs, VAny] at hV
                  obtain ⟨e1, e2⟩ := hV
                  obtain ⟨q0, q1⟩ := hS.1.two; obtain ⟨hoc, hof⟩ := hAt.out _ hS.2
                  go_simp
                  exact hK.out _ _ _ rfl rfl rfl (Below.refl _ _)
                simp only [List.setIfInBounds_toArray, List.set_cons_zero, List.set_cons_succ]
                refine obs_step (Eq.trans (by simp only [List.getElem?_toArray, List.getElem?_cons_succ, List.getElem?_cons_zero]; exact rfl) rfl) rfl (fun w' hS hV K hK => ?_) ?_
                · obtain ⟨q0, q1⟩ := hS.1.two; obtain ⟨hoc, hof⟩ := hAt.out _ hS.2
                  go_simp
                  exact hK.out _ _ _ rfl rfl rfl (Below.refl _ _)
                simp only [List.setIfInBounds_toArray, List.set_cons_zero, List.set_cons_succ]
                refine obs_step (Eq.trans (by simp only [List.getElem?_toArray, List.getElem?_cons_succ, List.getElem?_cons_zero]; exact rfl) rfl) rfl (fun w' hS hV K hK => ?_) ?_
                · simp only [List.mem_cons, List.not_mem_nil, or_false, forall_eq, List.getD_cons_succ, List.getD_cons_zero, VIs, VAny] at hV
                  obtain e4 := hV
                  obtain ⟨q0, q1⟩ := hS.1.two; obtain ⟨hoc, hof⟩ := hAt.out _ hS.2
                  go_simp
                  refine (field_any _ _ _ _ _).mono ?_
                  rintro e v1 ⟨rfl, hb⟩
                  exact hK.out _ _ _ rfl rfl rfl hb
                simp only [List.setIfInBounds_toArray, List.set_cons_zero, List.set_cons_succ]
                refine obs_step (Eq.trans (by simp only [List.getElem?_toArray, List.getElem?_cons_succ, List.getElem?_cons_zero]; exact rfl) rfl) rfl (fun w' hS hV K hK => ?_) ?_
                · obtain ⟨q0, q1⟩ := hS.1.two; obtain ⟨hoc, hof⟩ := hAt.out _ hS.2
                  go_simp
                  exact hK.out _ _ _ rfl rfl rfl (Below.refl _ _)
                simp only [List.setIfInBounds_toArray, List.set_cons_zero, List.set_cons_succ]
                refine obs_step (Eq.trans (by simp only [List.getElem?_toArray, List.getElem?_cons_succ, List.getElem?_cons_zero]; exact rfl) rfl) rfl (fun w' hS hV K hK => ?_) ?_
                · obtain ⟨q0, q1⟩ := hS.1.two; obtain ⟨hoc, hof⟩ := hAt.out _ hS.2
                  go_simp
                  exact hK.out _ _ _ rfl rfl rfl (Below.refl _ _)
                simp only [List.setIfInBounds_toArray, List.set_cons_zero, List.set_cons_succ]
                refine obs_step (Eq.trans (by simp only [List.getElem?_toArray, List.getElem?_cons_succ, List.getElem?_cons_zero]; exact rfl) rfl) rfl (fun w' hS hV K hK => ?_) ?_
                · obtain ⟨q0, q1⟩ := hS.1.two; obtain ⟨hoc, hof⟩ := hAt.out _ hS.2
                  go_simp
                  exact hK.out _ _ _ rfl rfl rfl (Below.refl _ _)
                simp only [List.setIfInBounds_toArray, List.set_cons_zero, List.set_cons_succ]
                refine obs_step (Eq.trans (by simp only [List.getElem?_toArray, List.getElem?_cons_succ, List.getElem?_cons_zero]; exact rfl) rfl) rfl (fun w' hS hV K hK => ?_) ?_
                · simp only [List.mem_cons, List.not_mem_nil, or_false, forall_eq_or_imp, forall_eq, List.getD_cons_succ, List.getD_cons_zero, VIs, VAny] at hV
                  obtain ⟨e7, e8⟩ := hV
                  obtain ⟨q0, q1⟩ := hS.1.two; obtain ⟨hoc, hof⟩ := hAt.out _ hS.2
                  go_simp
                  exact hK.out _ _ _ rfl rfl rfl (Below.refl _ _)
                simp only [List.setIfInBounds_toArray, List.set_cons_zero, List.set_cons_succ]
                refine obs_step (Eq.trans (by simp only [List.getElem?_toArray, List.getElem?_cons_succ, List.getElem?_cons_zero]; exact rfl) rfl) rfl (fun w' hS hV K hK => ?_) ?_
                · simp only [List.mem_cons, List.not_mem_nil, or_false, forall_eq_or_imp, forall_eq, List.getD_cons_succ, List.getD_cons_zero, VIs, VAny] at hV
                  obtain ⟨e6, e7, e8, e9⟩ := hV
                  obtain ⟨q0, q1⟩ := hS.1.two; obtain ⟨hoc, hof⟩ := hAt.out _ hS.2
                  go_simp
                  exact hK.out _ _ _ rfl rfl rfl (Below.refl _ _)
                simp only [List.setIfInBounds_toArray, List.set_cons_zero, List.set_cons_succ]
                refine obs_step (Eq.trans (by simp only [List.getElem?_toArray, List.getElem?_cons_succ, List.getElem?_cons_zero]; exact rfl) rfl) rfl (fun w' hS hV K hK => ?_) ?_
                · simp only [List.mem_cons, List.not_mem_nil, or_false, forall_eq_or_imp, forall_eq, List.getD_cons_succ, List.getD_cons_zero, VIs, VAny] at hV
                  obtain ⟨e6, e7, e8, e9, e10⟩ := hV
                  obtain ⟨q0, q1⟩ := hS.1.two; obtain ⟨hoc, hof⟩ := hAt.out _ hS.2
                  go_simp
                  exact hK.out _ _ _ rfl rfl rfl (Below.refl _ _)
                simp only [List.setIfInBounds_toArray, List.set_cons_zero, List.set_cons_succ]
                refine obs_step (Eq.trans (by simp only [List.getElem?_toArray, List.getElem?_cons_succ, List.getElem?_cons_zero]; exact rfl) rfl) rfl (fun w' hS hV K hK => ?_) ?_
                · obtain ⟨q0, q1⟩ := hS.1.two; obtain ⟨hoc, hof⟩ := hAt.out _ hS.2
                  go_simp
                  exact hK.out _ _ _ rfl rfl rfl (Below.refl _ _)
                simp only [List.setIfInBounds_toArray, List.set_cons_zero, List.set_cons_succ]
                refine obs_step (Eq.trans (by simp only [List.getElem?_toArray, List.getElem?_cons_succ, List.getElem?_cons_zero]; exact rfl) rfl) rfl (fun w' hS hV K hK => ?_) ?_
                · obtain ⟨q0, q1⟩ := hS.1.two; obtain ⟨hoc, hof⟩ := hAt.out _ hS.2
                  go_simp
                  exact hK.out _ _ _ rfl rfl rfl (Below.refl _ _)
                simp only [List.setIfInBounds_toArray, List.set_cons_zero, List.set_cons_succ]
                refine obs_step (Eq.trans (by simp only [List.getElem?_toArray, List.getElem?_cons_succ, List.getElem?_cons_zero]; exact rfl) rfl) rfl (fun w' hS hV K hK => ?_) ?_
                · simp only [List.mem_cons, List.not_mem_nil, or_false, forall_eq_or_imp, forall_eq, List.getD_cons_succ, List.getD_cons_zero, VIs, VAny] at hV
                  obtain ⟨e12, e13⟩ := hV
                  obtain ⟨q0, q1⟩ := hS.1.two; obtain ⟨hoc, hof⟩ := hAt.out _ hS.2
                  go_simp
                  exact hK.out _ _ _ rfl rfl rfl (Below.refl _ _)
                simp only [List.setIfInBounds_toArray, List.set_cons_zero, List.set_cons_succ]
                refine obs_step (Eq.trans (by simp only [List.getElem?_toArray, List.getElem?_cons_succ, List.getElem?_cons_zero]; exact rfl) rfl) rfl (fun w' hS hV K hK => ?_) ?_
                · obtain ⟨q0, q1⟩ := hS.1.two; obtain ⟨hoc, hof⟩ := hAt.out _ hS.2
                  go_simp
                  exact hK.out _ _ _ rfl rfl rfl (Below.refl _ _)
                simp only [List.setIfInBounds_toArray, List.set_cons_zero, List.set_cons_succ]
                refine obs_step (Eq.trans (by simp only [List.getElem?_toArray, List.getElem?_cons_succ, List.getElem?_cons_zero]; exact rfl) rfl) rfl (fun w' hS hV K hK => ?_) ?_
                · obtain ⟨q0, q1⟩ := hS.1.two; obtain ⟨hoc, hof⟩ := hAt.out _ hS.2
                  go_simp
                  exact hK.out _ _ _ rfl rfl rfl (Below.refl _ _)
                simp only [List.setIfInBounds_toArray, List.set_cons_zero, List.set_cons_succ]
                refine obs_step (Eq.trans (by simp only [List.getElem?_toArray, List.getElem?_cons_succ, List.getElem?_cons_zero]; exact rfl) rfl) rfl (fun w' hS hV K hK => ?_) ?_
                · obtain ⟨q0, q1⟩ := hS.1.two; obtain ⟨hoc, hof⟩ := hAt.out _ hS.2
                  go_simp
                  exact hK.out _ _ _ rfl rfl rfl (Below.refl _ _)
                simp only [List.setIfInBounds_toArray, List.set_cons_zero, List.set_cons_succ]
                refine obs_step (Eq.trans (by simp only [List.getElem?_toArray, List.getElem?_cons_succ, List.getElem?_cons_zero]; exact rfl) rfl) rfl (fun w' hS hV K hK => ?_) ?_
                · simp only [List.mem_cons, List.not_mem_nil, or_false, forall_eq_or_imp, forall_eq, List.getD_cons_succ, List.getD_cons_zero, VIs, VAny] at hV
                  obtain ⟨e15, e16, e17⟩ := hV
                  obtain ⟨q0, q1⟩ := hS.1.two; obtain ⟨hoc, hof⟩ := hAt.out _ hS.2
                  go_simp
                  refine (hF.out _ hS.2).mono ?_
                  rintro e v1 ⟨rfl, hb⟩
                  exact hK.out _ _ _ rfl rfl rfl hb
                simp only [List.setIfInBounds_toArray, List.set_cons_zero, List.set_cons_succ]
                refine obs_step (Eq.trans (by simp only [List.getElem?_toArray, List.getElem?_cons_succ, List.getElem?_cons_zero]; exact rfl) rfl) rfl (fun w' hS hV K hK => ?_) ?_
                · simp only [List.mem_cons, List.not_mem_nil, or_false, forall_eq_or_imp, forall_eq, List.getD_cons_succ, List.getD_cons_zero, VIs, VAny] at hV
                  obtain ⟨e12, e13, e14, e15, e16, e17, e18⟩ := hV
                  obtain ⟨q0, q1⟩ := hS.1.two; obtain ⟨hoc, hof⟩ := hAt.out _ hS.2
                  go_simp
                  exact hK.out _ _ _ rfl rfl rfl (Below.refl _ _)
                simp only [List.setIfInBounds_toArray, List.set_cons_zero, List.set_cons_succ]
                refine obs_step (Eq.trans (by simp only [List.getElem?_toArray, List.getElem?_cons_succ, List.getElem?_cons_zero]; exact rfl) rfl) rfl (fun w' hS hV K hK => ?_) ?_
                · simp only [List.mem_cons, List.not_mem_nil, or_false, forall_eq_or_imp, forall_eq, List.getD_cons_succ, List.getD_cons_zero, VIs, VAny] at hV
                  obtain ⟨e6, e7, e8, e9, e10, e11, e12, e13, e14, e15, e16, e17, e18, e19⟩ := hV
                  obtain ⟨q0, q1⟩ := hS.1.two; obtain ⟨hoc, hof⟩ := hAt.out _ hS.2
                  go_simp
                  exact hK.out _ _ _ rfl rfl rfl (Below.refl _ _)
                simp only [List.setIfInBounds_toArray, List.set_cons_zero, List.set_cons_succ]
                refine obs_step (Eq.trans (by simp only [List.getElem?_toArray, List.getElem?_cons_succ, List.getElem?_cons_zero]; exact rfl) rfl) rfl (fun w' hS hV K hK => ?_) ?_
                · simp only [List.mem_cons, List.not_mem_nil, or_false, forall_eq_or_imp, forall_eq, List.getD_cons_succ, List.getD_cons_zero, VIs, VAny] at hV
                  obtain ⟨e4, e5, e6, e7, e8, e9, e10, e11, e12, e13, e14, e15, e16, e17, e18, e19, e20⟩ := hV
                  obtain ⟨q0, q1⟩ := hS.1.two; obtain ⟨hoc, hof⟩ := hAt.out _ hS.2
                  go_simp
                  refine (hV.out _).mono ?_
                  rintro e v1 ⟨rfl, rfl⟩
                  exact hK.out _ _ _ rfl rfl rfl (Below.refl _ _)
                simp only [List.setIfInBounds_toArray, List.set_cons_zero, List.set_cons_succ]
                refine obs_step (Eq.trans (by simp only [List.getElem?_toArray, List.getElem?_cons_succ, List.getElem?_cons_zero]; exact rfl) rfl) rfl (fun w' hS hV K hK => ?_) ?_
                · simp only [List.mem_cons, List.not_mem_nil, or_false, forall_eq_or_imp, forall_eq, List.getD_cons_succ, List.getD_cons_zero, VIs, VAny] at hV
                  obtain ⟨e0, e1, e2, e3⟩ := hV
                  obtain ⟨q0, q1⟩ := hS.1.two; obtain ⟨hoc, hof⟩ := hAt.out _ hS.2
                  go_simp
                  exact hK.out _ _ _ rfl rfl rfl (Below.refl _ _)
                simp only [List.setIfInBounds_toArray, List.set_cons_zero, List.set_cons_succ]
                refine fun w' hS hV => ?_
                have hV := fun i hi => hV i (List.mem_range.1 hi)
                simp only [List.range, List.range.loop, List.mem_cons, List.not_mem_nil, or_false, forall_eq_or_imp, forall_eq, List.getD_cons_succ, List.getD_cons_zero, VIs, VAny] at hV
                obtain ⟨e0, e1, e2, e3, e4, e5, e6, e7, e8, e9, e10, e11, e12, e13, e14, e15, e16, e17, e18, e19, e20, e21, e22⟩ := hV
                simp only [e0, e1, e2, e3, e4, e5, e6, e7, e8, e9, e10, e11, e12, e13, e14, e15, e16, e17, e18, e19, e20, e21, e22]
                clear e0 e1 e2 e3 e4 e5 e6 e7 e8 e9 e10 e11 e12 e13 e14 e15 e16 e17 e18 e19 e20 e21 e22
                obtain ⟨hk4, hO⟩ := hS
                obtain ⟨hoc, hof⟩ := hAt.out _ hO
                refine any_one (j := 23) (by kernel_rfl) (Eq.trans (by simp only [List.getElem?_toArray, List.getElem?_cons_succ, List.getElem?_cons_zero]; exact rfl) rfl) (fun K hK => ?_)
                go_simp
                refine hK.out _ _ (wpAny_done (by kernel_rfl) ?_ _)
                have hset := (hO.set (k ^^^ j) (.int .i64 ((v0 + xs[k] * ys[j] * fac P sq k j) % P))).1
                rw [ints_set] at hset
                have hkn := hk4.far (p := ⟨g, k ^^^ j, none⟩) HNE.out.symm (.int .i64 ((v0 + xs[k] * ys[j] * fac P sq k j) % P))
                clear W1 W2 W3 hoc hof hO hk4
                go_wp2
                go_roundw
                case rel => exact ⟨j + 1, by omega, by go_num, by rw [addRow_succ]; unfold addPair; rw [if_pos HPair.out, ← HV0.out, hxn.out, hyn.out]; exact hset, hkn⟩
                case measure => simp [intOf]; omega
          · obtain rfl : j = pw n := by omega
            have HM := Lib.hid hM3
            clear hry hM3
            go_wp2
            go_roundw
            case rel => exact ⟨k + 1, by omega, by go_num, by rw [addRows_succ, Hy.out, ← HL0.out]; exact HM.out, hk3⟩
            case measure => simp [intOf]; omega
      · have hz : xs.getD k 0 = 0 := by rw [List.getD_eq_getElem?_getD, List.getElem?_eq_getElem hxk]; simpa using h0
        have HM := Lib.hid hM2
        clear hM2
        go_wp2
        go_roundw
        case rel => exact ⟨k + 1, by omega, by go_num, by rw [addRows_succ, addRow_zero _ _ _ _ _ _ _ _ hz]; exact HM.out, hk2⟩
        case measure => simp [intOf]; omega
    · obtain rfl : k = pw n := by omega
      go_wp2
      go_ret
      exact ⟨_, _, rfl, by unfold prodL; rw [Hx.out]; exact hM2⟩

end Go.Proofs.YtommppijnccomaaGreat

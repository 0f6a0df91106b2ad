/-
  LawFnReversals: part 2 of the texts that the proof needs. No condition.
-/
import Derived.Test.YtggigolkncckoaaGreatP1
namespace Go.Proofs.YtggigolkncckoaaGreat
/-- The list of the values of f from 0 on. -/
def tab {α : Type} (n : Nat) (f : Nat → α) : List α := (List.range n).map f
theorem tab_len {α : Type} (n : Nat) (f : Nat → α) : (tab n f).length = n := by simp [tab]
theorem tab_succ {α : Type} (n : Nat) (f : Nat → α) : tab (n + 1) f = tab n f ++ [f n] := by simp [tab, List.range_succ]
theorem tab_get {α : Type} (n : Nat) (f : Nat → α) (i : Nat) (h : i < (tab n f).length) : (tab n f)[i] = f i := by simp [tab]
theorem tab_getD {α : Type} {n : Nat} {f : Nat → α} {i : Nat} (h : i < n) (d : α) : (tab n f).getD i d = f i := by
  rw [List.getD_eq_getElem?_getD, List.getElem?_eq_getElem (by rw [tab_len]; exact h), tab_get]; rfl
theorem tab_congr {α : Type} {n : Nat} {f g : Nat → α} (h : ∀ i, i < n → f i = g i) : tab n f = tab n g := by
  apply List.map_congr_left
  intro i hi
  exact h i (by simpa using hi)
theorem tab_mem {α : Type} {n : Nat} {f : Nat → α} {x : α} (h : x ∈ tab n f) : ∃ i, i < n ∧ x = f i := by
  obtain ⟨i, hi, rfl⟩ := List.mem_map.1 h
  exact ⟨i, by simpa using hi, rfl⟩
theorem list_ext_getD {α : Type} {xs ys : List α} (d : α) (hl : xs.length = ys.length) (h : ∀ i, i < xs.length → xs.getD i d = ys.getD i d) : xs = ys := by
  apply List.ext_getElem hl
  intro i h1 h2
  have := h i h1
  rw [List.getD_eq_getElem?_getD, List.getD_eq_getElem?_getD, List.getElem?_eq_getElem h1, List.getElem?_eq_getElem h2] at this
  exact this
theorem eq_tab {α : Type} {n : Nat} (d : α) {xs : List α} (hl : xs.length = n) : xs = tab n fun i => xs.getD i d := by
  apply list_ext_getD d (by rw [tab_len, hl])
  intro i hi
  rw [tab_getD (by omega)]
theorem getD_of_lt {α : Type} {xs : List α} {i : Nat} (d : α) (h : i < xs.length) : xs.getD i d = xs[i] := by
  rw [List.getD_eq_getElem?_getD, List.getElem?_eq_getElem h]; rfl
theorem getD_set {α : Type} (xs : List α) (i j : Nat) (v d : α) : (xs.set i v).getD j d = if i = j ∧ i < xs.length then v else xs.getD j d := by
  rw [List.getD_eq_getElem?_getD, List.getD_eq_getElem?_getD, List.getElem?_set]
  by_cases h1 : i = j
  · subst h1
    by_cases h2 : i < xs.length
    · simp [h2]
    · simp [h2]
  · simp [h1]
theorem getD_mem {α : Type} {xs : List α} {i : Nat} (d : α) (h : i < xs.length) : xs.getD i d ∈ xs := by
  rw [getD_of_lt d h]; exact List.getElem_mem h
theorem all_one {α : Type} {q : α → Prop} {x : α} (hx : q x) : ∀ z ∈ [x], q z := fun z hz => by
  rcases List.mem_cons.1 hz with rfl | hz
  · exact hx
  · cases hz
theorem all_two {α : Type} {q : α → Prop} {x y : α} (hx : q x) (hy : q y) : ∀ z ∈ [x, y], q z := fun z hz => by
  rcases List.mem_cons.1 hz with rfl | hz
  · exact hx
  · rcases List.mem_cons.1 hz with rfl | hz
    · exact hy
    · cases hz
/-- f 0 + .. + f (n - 1). -/
def sumTo : Nat → (Nat → Int) → Int
  | 0, _ => 0
  | n + 1, f => sumTo n f + f n
theorem sumTo_succ (n : Nat) (f : Nat → Int) : sumTo (n + 1) f = sumTo n f + f n := rfl
theorem sumTo_congr {n : Nat} {f g : Nat → Int} (h : ∀ i, i < n → f i = g i) : sumTo n f = sumTo n g := by
  induction n with
  | zero => rfl
  | succ n ih => rw [sumTo_succ, sumTo_succ, ih (fun i hi => h i (by omega)), h n (by omega)]
theorem sumTo_mod (p : Int) {n : Nat} {f g : Nat → Int} (h : ∀ i, i < n → f i % p = g i % p) : sumTo n f % p = sumTo n g % p := by
  induction n with
  | zero => rfl
  | succ n ih =>
    rw [sumTo_succ, sumTo_succ, Int.add_emod, ih (fun i hi => h i (by omega)), h n (by omega), ← Int.add_emod]
/-- A sum whose parts are reduced at each step. -/
theorem sumTo_step (p : Int) (n : Nat) (f : Nat → Int) : (sumTo n f % p + f n) % p = sumTo (n + 1) f % p := by
  rw [sumTo_succ, Int.emod_add_emod]
/-- A list and a multiple of another one. -/
def plusL (p : Int) (a b : List Int) (k : Int) : List Int := tab a.length fun i => (a.getD i 0 + k * b.getD i 0) % p
theorem plusL_len (p : Int) (a b : List Int) (k : Int) : (plusL p a b k).length = a.length := tab_len _ _
theorem plusL_mod (p : Int) (a b : List Int) {k k' : Int} (h : k % p = k' % p) : plusL p a b k = plusL p a b k' := by
  apply tab_congr
  intro i _
  rw [Int.add_emod, Int.mul_emod, h, ← Int.mul_emod, ← Int.add_emod]
/-- All rows have n numbers. -/
def Tab (p : Int) (n : Nat) (m : List (List Int)) : Prop := ∀ x ∈ m, x.length = n ∧ NumsL p x
theorem Tab.nil (p : Int) (n : Nat) : Tab p n [] := fun x hx => absurd hx (by simp)
theorem Tab.row {p : Int} {n : Nat} {m : List (List Int)} (h : Tab p n m) {i : Nat} (hi : i < m.length) : (m.getD i []).length = n ∧ NumsL p (m.getD i []) := h _ (getD_mem [] hi)
theorem Tab.set {p : Int} {n : Nat} {m : List (List Int)} (h : Tab p n m) (i : Nat) {x : List Int} (hx : x.length = n ∧ NumsL p x) : Tab p n (m.set i x) := fun y hy => by
  rcases List.mem_or_eq_of_mem_set hy with h1 | h1
  · exact h y h1
  · exact h1 ▸ hx
theorem Tab.append {p : Int} {n : Nat} {m m' : List (List Int)} (h : Tab p n m) (h' : Tab p n m') : Tab p n (m ++ m') := fun y hy => by
  rcases List.mem_append.1 hy with h1 | h1
  · exact h y h1
  · exact h' y h1
theorem Tab.take {p : Int} {n : Nat} {m : List (List Int)} (h : Tab p n m) (k : Nat) : Tab p n (m.take k) := fun y hy => h y (List.mem_of_mem_take hy)
theorem Tab.tab {p : Int} {n k : Nat} {f : Nat → List Int} (h : ∀ i, i < k → (f i).length = n ∧ NumsL p (f i)) : Tab p n (tab k f) := fun y hy => by
  obtain ⟨i, hi, rfl⟩ := tab_mem hy
  exact h i hi
theorem unitRow_nums {p : Int} (hp : 2 ≤ p) (n i : Nat) : NumsL p (unitRow n i) := (NumsL.replicate (by omega) n).set i ⟨by omega, by omega⟩
theorem NumsL.tab {p : Int} {n : Nat} {f : Nat → Int} (h : ∀ i, i < n → 0 ≤ f i ∧ f i < p) : NumsL p (tab n f) := fun y hy => by
  obtain ⟨i, hi, rfl⟩ := tab_mem hy
  exact h i hi
/-- The first place with a number other than 0, or the length. -/
def leadL : List Int → Nat
  | [] => 0
  | x :: r => if x = 0 then leadL r + 1 else 0
theorem leadL_le (v : List Int) : leadL v ≤ v.length := by
  induction v with
  | nil => simp [leadL]
  | cons x r ih => simp only [leadL, List.length_cons]; split <;> omega
theorem leadL_before (v : List Int) : ∀ i, i < leadL v → v.getD i 0 = 0 := by
  induction v with
  | nil => intro i hi; simp [leadL] at hi
  | cons x r ih =>
    intro i hi
    simp only [leadL] at hi
    split at hi
    · rename_i hx
      cases i with
      | zero => simpa using hx
      | succ i => simpa using ih i (by omega)
    · omega
theorem leadL_at (v : List Int) (h : leadL v < v.length) : v.getD (leadL v) 0 ≠ 0 := by
  induction v with
  | nil => simp at h
  | cons x r ih =>
    simp only [leadL] at h ⊢
    split
    · rename_i hx
      rw [if_pos hx] at h
      simpa using ih (by simpa using h)
    · rename_i hx; simpa using hx
end Go.Proofs.YtggigolkncckoaaGreat
namespace Go.Proofs.YtggigolkncckoaaGreat
open Go.RowKit
/-- A world of the first B blocks. -/
def cutW (w : World) (B : Nat) : World := { w with heap := w.heap.extract 0 B }
theorem cutW_size {w : World} {B : Nat} (h : B ≤ w.heap.size) : (cutW w B).heap.size = B := by simp [cutW]; omega
theorem cutW_below {w : World} {B : Nat} (h : B ≤ w.heap.size) : Below (cutW w B).heap.size (cutW w B) w := by
  refine ⟨rfl, rfl, rfl, by rw [cutW_size h]; exact h, fun k hk => ?_⟩
  rw [cutW_size h] at hk
  simp [cutW, Array.getElem?_extract, hk]
  intro h2
  omega
theorem Own.mk_ {w : World} {E : TypeId} {B : Nat} {A : Option Addr} {n c : Nat} {us : List Value} (h : Own w B E A n c us) (hB : B ≤ w.heap.size) : Mk (cutW w B) w E A n c us := ⟨cutW_below hB, by rw [cutW_size hB]; exact h⟩
theorem Mk.own_ {w0 w : World} {E : TypeId} {B : Nat} {A : Option Addr} {n c : Nat} {us : List Value} (h : Mk w0 w E A n c us) (hB : w0.heap.size = B) : Own w B E A n c us := by rw [← hB]; exact h.2
set_option maxHeartbeats 1600000 in
set_option maxRecDepth 8000 in
theorem from__any (B : Option Addr) (nb cb : Nat) (bs : List Int) (w : World) (hnb : nb ≤ 4096) (r : Rd w B nb (bs.map (Value.int .u8))) (hbs : ∀ b ∈ bs, 0 ≤ b ∧ b < 256) (hbg : ∀ a, B = some a → a.block < w.heap.size) :
    Calls Tryz.prog 141 #[.slice B nb cb] w fun e w' => ∃ g, e = .returned (.pointer (some ⟨g, 0, none⟩)) ∧ w.heap.size ≤ g ∧ Src w' g 143 ∧ Below w.heap.size w w' := by
  have W0 : wrap64 (nb : Int) = nb := by unfold wrap64; omega
  go_enter Tryz.func141, Tryz.ntmps141
  go_wp2
  go_loopw [4] (fun i wr => ∃ (j : Nat) (h : Int), j ≤ nb ∧ i = .int .i64 j ∧ Blk wr w.heap.size 143 #[.slice B nb cb, .int .i64 0, .int .u64 h] ∧ Below w.heap.size w wr) (fun i _ => nb - (intOf i).toNat)
  case atStart => exact ⟨0, _, by omega, rfl, Blk.new _ _ _, (Below.refl _ _).alloc (Nat.le_refl _) _⟩
  case round =>
    obtain ⟨j, h, hj, rfl, k1, hb1⟩ := hrel
    by_cases hlt : j < nb
    · have d1 : decide ((j : Int) < (nb : Int)) = true := by simp; omega
      have d2 : decide ((j : Int) < 4096) = true := by simp; omega
      obtain ⟨gb, ob, rfl, hc⟩ := (r.below hb1).2 (by omega)
      have hbl : j < bs.length := by have := r.1; rw [List.length_map] at this; omega
      have hcb := hc j (.int .u8 bs[j]) (by simp [hbl])
      obtain ⟨b1, b2⟩ := hbs _ (List.getElem_mem hbl)
      obtain ⟨bb, hbb⟩ : ∃ x, x = bs[j] := ⟨_, rfl⟩
      rw [← hbb] at hcb b1 b2
      have i1 : (0 : Int) ≤ (j : Int) := by omega
      have i2 : (j : Int) < (nb : Int) := by omega
      have W2 : IntKind.u64.wrap bb = bb := IntWalk.u64_in _ ⟨b1, by omega⟩
      clear hc hbb
      go_wp2
      refine wp_obs 15 [[], [], [1], [1, 2], [1, 2, 3], [1, 2, 3, 4], [], [], [6, 7], [6, 7, 8], [6, 7, 8, 9], [1, 2, 3, 4, 5, 6, 7, 8, 9, 10], [1, 2, 3, 4, 5, 6, 7, 8, 9, 10, 11], [0], [0, 13], [0, 1, 2, 3, 4, 5, 6, 7, 8, 9, 10, 11, 12, 13, 14]] [VIs (.pointer (some ⟨w.heap.size, 0, none⟩)), VIs (.pointer (some ⟨w.heap.size, 0, none⟩)), VIs (.pointer (some ⟨w.heap.size, 0, none⟩)), VIs (.pointer (some ⟨w.heap.size, 2, none⟩)), VIs (.int .u64 (h)), VIs (.int .u64 (IntKind.u64.wrap (h * 1099511628211))), VIs (.slice (some ⟨gb, ob, none⟩) nb cb), VIs (.int .i64 (j)), VIs (.pointer (some ⟨gb, ob + j, none⟩)), VIs (.int .u8 bb), VIs (.int .u64 (bb)), VIs (.int .u64 (IntKind.u64.wrap (IntKind.u64.wrap (h * 1099511628211) + bb))), VIs (.int .u64 (IntKind.u64.wrap (IntKind.u64.wrap (IntKind.u64.wrap (h * 1099511628211) + bb) + 11))), VIs (.pointer (some ⟨w.heap.size, 0, none⟩)), VIs (.pointer (some ⟨w.heap.size, 2, none⟩))] (fun w' => Blk w' w.heap.size 143 #[.slice (some ⟨gb, ob, none⟩) nb cb, .int .i64 0, .int .u64 h] ∧ w'.cell? ⟨gb, ob + j, none⟩ = some (.int .u8 bb) ∧ Below wr.heap.size wr w') (by kernel_rfl) (by kernel_rfl) (fun _ _ h hb => ⟨h.1.below hb h.1.lt, (hb.cell (World.block_lt_of_cell? _ _ h.2.1)).trans h.2.1, h.2.2.trans (hb.mono h.2.2.size)⟩) (⟨k1.drew, hcb, (Below.refl _ _).drew⟩) (fun x => ?_)
      refine obs_step (Eq.trans (by simp only [List.getElem?_toArray, List.getElem?_cons_zero]; exact rfl) rfl) rfl (fun w' hS hV K hK => ?_) ?_
      · obtain ⟨q0, q1, q2⟩ := hS.1.three; have qb := hS.2.1
        go_simp
        exact hK.out _ _ _ rfl rfl rfl (Below.refl _ _)
      simp only [List.setIfInBounds_toArray, List.set_cons_zero, List.set_cons_succ]
      refine obs_step (Eq.trans (by simp only [List.getElem?_toArray, List.getElem?_cons_succ, List.getElem?_cons_zero]; exact rfl) rfl) rfl (fun w' hS hV K hK => ?_) ?_
      · obtain ⟨q0, q1, q2⟩ := hS.1.three; have qb := hS.2.1
        go_simp
        exact hK.out _ _ _ rfl rfl rfl (Below.refl _ _)
      simp only [List.setIfInBounds_toArray, List.set_cons_zero, List.set_cons_succ]
      refine obs_step (Eq.trans (by simp only [List.getElem?_toArray, List.getElem?_cons_succ, List.getElem?_cons_zero]; exact rfl) rfl) rfl (fun w' hS hV K hK => ?_) ?_
      · have e1 : x 1 = (.pointer (some ⟨w.heap.size, 0, none⟩)) := hV 1 (by decide)
        obtain ⟨q0, q1, q2⟩ := hS.1.three; have qb := hS.2.1
        go_simp
        exact hK.out _ _ _ rfl rfl rfl (Below.refl _ _)
      simp only [List.setIfInBounds_toArray, List.set_cons_zero, List.set_cons_succ]
      refine obs_step (Eq.trans (by simp only [List.getElem?_toArray, List.getElem?_cons_succ, List.getElem?_cons_zero]; exact rfl) rfl) rfl (fun w' hS hV K hK => ?_) ?_
      · have e1 : x 1 = (.pointer (some ⟨w.heap.size, 0, none⟩)) := hV 1 (by decide)
        have e2 : x 2 = (.pointer (some ⟨w.heap.size, 0, none⟩)) := hV 2 (by decide)
        obtain ⟨q0, q1, q2⟩ := hS.1.three; have qb := hS.2.1
        go_simp
        exact hK.out _ _ _ rfl rfl rfl (Below.refl _ _)
      simp only [List.setIfInBounds_toArray, List.set_cons_zero, List.set_cons_succ]
      refine obs_step (Eq.trans (by simp only [List.getElem?_toArray, List.getElem?_cons_succ, List.getElem?_cons_zero]; exact rfl) rfl) rfl (fun w' hS hV K hK => ?_) ?_
      · have e1 : x 1 = (.pointer (some ⟨w.heap.size, 0, none⟩)) := hV 1 (by decide)
        have e2 : x 2 = (.pointer (some ⟨w.heap.size, 0, none⟩)) := hV 2 (by decide)
        have e3 : x 3 = (.pointer (some ⟨w.heap.size, 2, none⟩)) := hV 3 (by decide)
        obtain ⟨q0, q1, q2⟩ := hS.1.three; have qb := hS.2.1
        go_simp
        exact hK.out _ _ _ rfl rfl rfl (Below.refl _ _)
      simp only [List.setIfInBounds_toArray, List.set_cons_zero, List.set_cons_succ]
      refine obs_step (Eq.trans (by simp only [List.getElem?_toArray, List.getElem?_cons_succ, List.getElem?_cons_zero]; exact rfl) rfl) rfl (fun w' hS hV K hK => ?_) ?_
      · have e1 : x 1 = (.pointer (some ⟨w.heap.size, 0, none⟩)) := hV 1 (by decide)
        have e2 : x 2 = (.pointer (some ⟨w.heap.size, 0, none⟩)) := hV 2 (by decide)
        have e3 : x 3 = (.pointer (some ⟨w.heap.size, 2, none⟩)) := hV 3 (by decide)
        have e4 : x 4 = (.int .u64 (h)) := hV 4 (by decide)
        obtain ⟨q0, q1, q2⟩ := hS.1.three; have qb := hS.2.1
        go_simp
        exact hK.out _ _ _ rfl rfl rfl (Below.refl _ _)
      simp only [List.setIfInBounds_toArray, List.set_cons_zero, List.set_cons_succ]
      refine obs_step (Eq.trans (by simp only [List.getElem?_toArray, List.getElem?_cons_succ, List.getElem?_cons_zero]; exact rfl) rfl) rfl (fun w' hS hV K hK => ?_) ?_
      · obtain ⟨q0, q1, q2⟩ := hS.1.three; have qb := hS.2.1
        go_simp
        exact hK.out _ _ _ rfl rfl rfl (Below.refl _ _)
      simp only [List.setIfInBounds_toArray, List.set_cons_zero, List.set_cons_succ]
      refine obs_step (Eq.trans (by simp only [List.getElem?_toArray, List.getElem?_cons_succ, List.getElem?_cons_zero]; exact rfl) rfl) rfl (fun w' hS hV K hK => ?_) ?_
      · obtain ⟨q0, q1, q2⟩ := hS.1.three; have qb := hS.2.1
        go_simp
        exact hK.out _ _ _ rfl rfl rfl (Below.refl _ _)
      simp only [List.setIfInBounds_toArray, List.set_cons_zero, List.set_cons_succ]
      refine obs_step (Eq.trans (by simp only [List.getElem?_toArray, List.getElem?_cons_succ, List.getElem?_cons_zero]; exact rfl) rfl) rfl (fun w' hS hV K hK => ?_) ?_
      · have e6 : x 6 = (.slice (some ⟨gb, ob, none⟩) nb cb) := hV 6 (by decide)
        have e7 : x 7 = (.int .i64 (j)) := hV 7 (by decide)
        obtain ⟨q0, q1, q2⟩ := hS.1.three; have qb := hS.2.1
        go_simp
        exact hK.out _ _ _ rfl rfl rfl (Below.refl _ _)
      simp only [List.setIfInBounds_toArray, List.set_cons_zero, List.set_cons_succ]
      refine obs_step (Eq.trans (by simp only [List.getElem?_toArray, List.getElem?_cons_succ, List.getElem?_cons_zero]; exact rfl) rfl) rfl (fun w' hS hV K hK => ?_) ?_
      · have e6 : x 6 = (.slice (some ⟨gb, ob, none⟩) nb cb) := hV 6 (by decide)
        have e7 : x 7 = (.int .i64 (j)) := hV 7 (by decide)
        have e8 : x 8 = (.pointer (some ⟨gb, ob + j, none⟩)) := hV 8 (by decide)
        obtain ⟨q0, q1, q2⟩ := hS.1.three; have qb := hS.2.1
        go_simp
        exact hK.out _ _ _ rfl rfl rfl (Below.refl _ _)
      simp only [List.setIfInBounds_toArray, List.set_cons_zero, List.set_cons_succ]
      refine obs_step (Eq.trans (by simp only [List.getElem?_toArray, List.getElem?_cons_succ, List.getElem?_cons_zero]; exact rfl) rfl) rfl (fun w' hS hV K hK => ?_) ?_
      · have e6 : x 6 = (.slice (some ⟨gb, ob, none⟩) nb cb) := hV 6 (by decide)
        have e7 : x 7 = (.int .i64 (j)) := hV 7 (by decide)
        have e8 : x 8 = (.pointer (some ⟨gb, ob + j, none⟩)) := hV 8 (by decide)
        have e9 : x 9 = (.int .u8 bb) := hV 9 (by decide)
        obtain ⟨q0, q1, q2⟩ := hS.1.three; have qb := hS.2.1
        go_simp
        exact hK.out _ _ _ rfl rfl rfl (Below.refl _ _)
      simp only [List.setIfInBounds_toArray, List.set_cons_zero, List.set_cons_succ]
      refine obs_step (Eq.trans (by simp only [List.getElem?_toArray, List.getElem?_cons_succ, List.getElem?_cons_zero]; exact rfl) rfl) rfl (fun w' hS hV K hK => ?_) ?_
      · have e1 : x 1 = (.pointer (some ⟨w.heap.size, 0, none⟩)) := hV 1 (by decide)
        have e2 : x 2 = (.pointer (some ⟨w.heap.size, 0, none⟩)) := hV 2 (by decide)
        have e3 : x 3 = (.pointer (some ⟨w.heap.size, 2, none⟩)) := hV 3 (by decide)
        have e4 : x 4 = (.int .u64 (h)) := hV 4 (by decide)
        have e5 : x 5 = (.int .u64 (IntKind.u64.wrap (h * 1099511628211))) := hV 5 (by decide)
        have e6 : x 6 = (.slice (some ⟨gb, ob, none⟩) nb cb) := hV 6 (by decide)
        have e7 : x 7 = (.int .i64 (j)) := hV 7 (by decide)
        have e8 : x 8 = (.pointer (some ⟨gb, ob + j, none⟩)) := hV 8 (by decide)
        have e9 : x 9 = (.int .u8 bb) := hV 9 (by decide)
        have e10 : x 10 = (.int .u64 (bb)) := hV 10 (by decide)
        obtain ⟨q0, q1, q2⟩ := hS.1.three; have qb := hS.2.1
        go_simp
        exact hK.out _ _ _ rfl rfl rfl (Below.refl _ _)
      simp only [List.setIfInBounds_toArray, List.set_cons_zero, List.set_cons_succ]
      refine obs_step (Eq.trans (by simp only [List.getElem?_toArray, List.getElem?_cons_succ, List.getElem?_cons_zero]; exact rfl) rfl) rfl (fun w' hS hV K hK => ?_) ?_
      · have e1 : x 1 = (.pointer (some ⟨w.heap.size, 0, none⟩)) := hV 1 (by decide)
        have e2 : x 2 = (.pointer (some ⟨w.heap.size, 0, none⟩)) := hV 2 (by decide)
        have e3 : x 3 = (.pointer (some ⟨w.heap.size, 2, none⟩)) := hV 3 (by decide)
        have e4 : x 4 = (.int .u64 (h)) := hV 4 (by decide)
        have e5 : x 5 = (.int .u64 (IntKind.u64.wrap (h * 1099511628211))) := hV 5 (by decide)
        have e6 : x 6 = (.slice (some ⟨gb, ob, none⟩) nb cb) := hV 6 (by decide)
        have e7 : x 7 = (.int .i64 (j)) := hV 7 (by decide)
        have e8 : x 8 = (.pointer (some ⟨gb, ob + j, none⟩)) := hV 8 (by decide)
        have e9 : x 9 = (.int .u8 bb) := hV 9 (by decide)
        have e10 : x 10 = (.int .u64 (bb)) := hV 10 (by decide)
        have e11 : x 11 = (.int .u64 (IntKind.u64.wrap (IntKind.u64.wrap (h * 1099511628211) + bb))) := hV 11 (by decide)
        obtain ⟨q0, q1, q2⟩ := hS.1.three; have qb := hS.2.1
        go_simp
        exact hK.out _ _ _ rfl rfl rfl (Below.refl _ _)
      simp only [List.setIfInBounds_toArray, List.set_cons_zero, List.set_cons_succ]
      refine obs_step (Eq.trans (by simp only [List.getElem?_toArray, List.getElem?_cons_succ, List.getElem?_cons_zero]; exact rfl) rfl) rfl (fun w' hS hV K hK => ?_) ?_
      · have e0 : x 0 = (.pointer (some ⟨w.heap.size, 0, none⟩)) := hV 0 (by decide)
        obtain ⟨q0, q1, q2⟩ := hS.1.three; have qb := hS.2.1
        go_simp
        exact hK.out _ _ _ rfl rfl rfl (Below.refl _ _)
      simp only [List.setIfInBounds_toArray, List.set_cons_zero, List.set_cons_succ]
      refine obs_step (Eq.trans (by simp only [List.getElem?_toArray, List.getElem?_cons_succ, List.getElem?_cons_zero]; exact rfl) rfl) rfl (fun w' hS hV K hK => ?_) ?_
      · have e0 : x 0 = (.pointer (some ⟨w.heap.size, 0, none⟩)) := hV 0 (by decide)
        have e13 : x 13 = (.pointer (some ⟨w.heap.size, 0, none⟩)) := hV 13 (by decide)
        obtain ⟨q0, q1, q2⟩ := hS.1.three; have qb := hS.2.1
        go_simp
        exact hK.out _ _ _ rfl rfl rfl (Below.refl _ _)
      simp only [List.setIfInBounds_toArray, List.set_cons_zero, List.set_cons_succ]
      refine fun w' hS hV => ?_
      have e0 : x 0 = (.pointer (some ⟨w.heap.size, 0, none⟩)) := hV 0 (by decide)
      have e1 : x 1 = (.pointer (some ⟨w.heap.size, 0, none⟩)) := hV 1 (by decide)
      have e2 : x 2 = (.pointer (some ⟨w.heap.size, 0, none⟩)) := hV 2 (by decide)
      have e3 : x 3 = (.pointer (some ⟨w.heap.size, 2, none⟩)) := hV 3 (by decide)
      have e4 : x 4 = (.int .u64 (h)) := hV 4 (by decide)
      have e5 : x 5 = (.int .u64 (IntKind.u64.wrap (h * 1099511628211))) := hV 5 (by decide)
      have e6 : x 6 = (.slice (some ⟨gb, ob, none⟩) nb cb) := hV 6 (by decide)
      have e7 : x 7 = (.int .i64 (j)) := hV 7 (by decide)
      have e8 : x 8 = (.pointer (some ⟨gb, ob + j, none⟩)) := hV 8 (by decide)
      have e9 : x 9 = (.int .u8 bb) := hV 9 (by decide)
      have e10 : x 10 = (.int .u64 (bb)) := hV 10 (by decide)
      have e11 : x 11 = (.int .u64 (IntKind.u64.wrap (IntKind.u64.wrap (h * 1099511628211) + bb))) := hV 11 (by decide)
      have e12 : x 12 = (.int .u64 (IntKind.u64.wrap (IntKind.u64.wrap (IntKind.u64.wrap (h * 1099511628211) + bb) + 11))) := hV 12 (by decide)
      have e13 : x 13 = (.pointer (some ⟨w.heap.size, 0, none⟩)) := hV 13 (by decide)
      have e14 : x 14 = (.pointer (some ⟨w.heap.size, 2, none⟩)) := hV 14 (by decide)
      simp only [e0, e1, e2, e3, e4, e5, e6, e7, e8, e9, e10, e11, e12, e13, e14]
      clear e0 e1 e2 e3 e4 e5 e6 e7 e8 e9 e10 e11 e12 e13 e14
      obtain ⟨k2, _, hb2⟩ := hS
      have q2 := k2.three.2.2
      have f2 := k2.frozen 2
      refine any_one (j := 15) (by kernel_rfl) (Eq.trans (by simp only [List.getElem?_toArray, List.getElem?_cons_succ, List.getElem?_cons_zero]; exact rfl) rfl) (fun K hK => ?_)
      go_simp
      refine hK.out _ _ (wpAny_done (by kernel_rfl) ?_ _)
      have k3 := k2.set_ 2 (.int .u64 (IntKind.u64.wrap (IntKind.u64.wrap (IntKind.u64.wrap (h * 1099511628211) + bb) + 11)))
      simp only [List.setIfInBounds_toArray, List.set_cons_zero, List.set_cons_succ] at k3
      have hb3 := (hb1.trans (hb2.mono hb1.size)).setCell (p := ⟨w.heap.size, 2, none⟩) (Nat.le_refl _) (.int .u64 (IntKind.u64.wrap (IntKind.u64.wrap (IntKind.u64.wrap (h * 1099511628211) + bb) + 11)))
      clear q2 f2 k2 hb2 k1
      go_wp2
      go_roundw
      case rel => exact ⟨j + 1, _, by omega, by go_num, k3, hb3⟩
      case measure => simp [intOf]; omega
    · have d1 : decide ((j : Int) < (nb : Int)) = false := by simp; omega
      go_wp2
      go_ret
      exact ⟨_, rfl, Nat.le_refl _, ⟨B, nb, cb, bs, 0, h, k1, r.below hb1, hbs, by omega, hnb, hbg⟩, hb1⟩
set_option maxHeartbeats 1600000 in
set_option maxRecDepth 8000 in
theorem nextList_any (g : Nat) (p : Int) (n : Nat) (w : World) (hs : Src w g 143) (hp : p ≤ 4611686018427387904) (hn : n ≤ 1048576) :
    Calls Tryz.prog 293 #[.pointer (some ⟨g, 0, none⟩), .int .i64 p, .int .i64 n] w fun e w' => ∃ (A : Option Addr) (c : Nat) (xs : List Int), e = .returned (.slice A n c) ∧ xs.length = n ∧ (∀ x ∈ xs, 0 ≤ x ∧ (1 ≤ p → x < p)) ∧ Own w' w.heap.size 2 A n c (ints xs) ∧ Dr g 143 w w' := by
  have hM0 := Mk.lit (E := 2) (Below.refl w.heap.size w) #[] (by simp)
  have hd0 := (Dr.refl hs).alloc (.cells #[] 2)
  go_enter Tryz.func293, Tryz.ntmps293
  go_wp2
  go_loopw [7, 2] (fun out i wr => ∃ (j : Nat) (A : Option Addr) (c : Nat) (xs : List Int), j ≤ n ∧ i = .int .i64 ((n - j : Nat) : Int) ∧ out = .slice A j c ∧ xs.length = j ∧ (∀ x ∈ xs, 0 ≤ x ∧ (1 ≤ p → x < p)) ∧ Own wr w.heap.size 2 A j c (ints xs) ∧ Dr g 143 w wr) (fun _ i _ => (intOf i).toNat)
  case atStart => exact ⟨0, _, _, [], by omega, by simp, rfl, rfl, fun x hx => (by cases hx), by simpa [ints] using hM0.2, hd0⟩
  case round =>
    obtain ⟨j, A, c, xs, hj, rfl, rfl, hl, hx, hO, hd⟩ := hrel
    clear hM0 hd0
    by_cases hlt : j < n
    · have d1 : decide (0 < ((n - j : Nat) : Int)) = true := by simp; omega
      have W5 : wrap64 (((n - j : Nat) : Int) - 1) = ((n - (j + 1) : Nat) : Int) := by unfold wrap64; omega
      have hnx := next_any g p wr hd.s' hp
      have HX := Lib.hid hx
      have HO := Lib.hid hO
      have HD := Lib.hid hd
      clear hx hO hd
      go_wp2_with (first
        | (go_at_call 147; refine hnx.mono ?_; rintro e w' ⟨r, rfl, hr1, hr2, hd2⟩
           have HO2 := Lib.hid (HO.out.dr hd2 (by decide))
           have HD2 := Lib.hid (HD.out.trans hd2)
           clear hnx hd2)
        | (at_builtin; refine wpList_app1 (cutW w' w.heap.size) w' 24 2 _ _ Tryz.underlying24 info_i rfl (by omega) rfl _ _ rfl A j c _ _ (HO2.out.mk_ HD2.out.size) (by omega) rfl rfl rfl ?_; intro A2 c2 w2 hM2 hg2 _))
      have hO3 := hM2.own_ (cutW_size HD2.out.size)
      have hd3 := HD2.out.grown HO2.out hg2
      clear hM2 hg2
      go_roundw
      case rel => exact ⟨j + 1, A2, c2, xs ++ [r], by omega, by go_num, rfl, by simp [hl], fun x hx => by
        rcases List.mem_append.1 hx with hx | hx
        · exact HX.out x hx
        · rw [List.mem_singleton.1 hx]; exact ⟨hr1, hr2⟩, by simpa [ints] using hO3, hd3⟩
      case measure => simp [intOf]; omega
    · obtain rfl : j = n := by omega
      have d1 : decide (0 < ((j - j : Nat) : Int)) = false := by simp
      go_wp2
      go_ret
      exact ⟨A, c, xs, rfl, hl, hx, hO, hd⟩
end Go.Proofs.YtggigolkncckoaaGreat
namespace Go.Proofs.YtggigolkncckoaaGreat
open Go.RowKit
set_option maxHeartbeats 800000 in
theorem pick_any (g gl : Nat) (xs : List Int) (w : World) (hs : Src w g 143) (kl : Blk w gl 2 (ints xs).toArray) (h0 : 0 < xs.length) (hl : xs.length ≤ 1000) :
    Calls Tryz.prog 288 #[.pointer (some ⟨g, 0, none⟩), .slice (some ⟨gl, 0, none⟩) xs.length xs.length] w fun e w' => ∃ r : Int, r ∈ xs ∧ e = .returned (.int .i64 r) ∧ Dr g 143 w w' := by
  have hnx := next_any g (xs.length : Int) w hs (by omega)
  go_enter Tryz.func288, Tryz.ntmps288
  go_wp2_with fail
  refine hnx.mono ?_
  rintro e w2 ⟨r, rfl, hr1, hr2, hd⟩
  have hr3 := hr2 (by omega)
  obtain ⟨rn, rfl⟩ : ∃ rn : Nat, r = rn := ⟨r.toNat, by omega⟩
  have hlt : rn < xs.length := by omega
  have kl2 := kl.dr hd (by decide)
  have hc : w2.cell? ⟨gl, rn, none⟩ = some (.int .i64 xs[rn]) := by
    rw [kl2.cell]
    simp [ints, hlt]
  have hmem := List.getElem_mem hlt
  obtain ⟨x, hx⟩ : ∃ x, x = xs[rn] := ⟨_, rfl⟩
  rw [← hx] at hc hmem
  clear hnx hx
  go_wp2
  go_ret
  exact ⟨x, hmem, rfl, hd⟩
set_option maxHeartbeats 800000 in
theorem drawPrime_any (g : Nat) (w : World) (hs : Src w g 143) :
    Calls Tryz.prog 351 #[.pointer (some ⟨g, 0, none⟩)] w fun e w' => ∃ r : Int, 3 ≤ r ∧ r ≤ 13 ∧ e = .returned (.int .i64 r) ∧ Dr g 143 w w' := by
  have hd1 := (Dr.refl hs).alloc (.cells #[.int .i64 3, .int .i64 5, .int .i64 7, .int .i64 11, .int .i64 13, .int .i64 3, .int .i64 5, .int .i64 7] 2)
  have hpk := pick_any g w.heap.size [3, 5, 7, 11, 13, 3, 5, 7] _ hd1.s' (Blk.new w 2 _) (by decide) (by decide)
  go_enter Tryz.func351, Tryz.ntmps351
  go_wp2_with fail
  refine hpk.mono ?_
  rintro e w2 ⟨r, hr, rfl, hd⟩
  go_wp2
  go_ret
  refine ⟨r, ?_, ?_, rfl, hd1.trans hd⟩
  · simp at hr; omega
  · simp at hr; omega
theorem ints4 (a b c d : Int) : (ints [a, b, c, d]).toArray = #[.int .i64 a, .int .i64 b, .int .i64 c, .int .i64 d] := rfl
theorem ints2 (a b : Int) : (ints [a, b]).toArray = #[.int .i64 a, .int .i64 b] := rfl
theorem Dr.setNew {w wr : World} {g b : Nat} {T : TypeId} (d : Dr g T w wr) (hb : w.heap.size ≤ b) (i : Nat) (u : Value) : Dr g T w (wr.setCell ⟨b, i, none⟩ u) := by
  have hlt := d.s.lt
  have hfar : ∀ k, k ≠ b → (wr.setCell ⟨b, i, none⟩ u).heap[k]? = wr.heap[k]? := fun k hk => Below.heap_setCell wr ⟨b, i, none⟩ _ k hk
  have hB : Below g wr (wr.setCell ⟨b, i, none⟩ u) := (Below.refl _ _).setCell (p := ⟨b, i, none⟩) (Nat.le_trans (Nat.le_of_lt hlt) hb) _
  exact ⟨d.s, d.s'.keep (hfar g (by omega)) hB, d.b.trans hB, fun k hk hne => (hfar k (by omega)).trans (d.k k hk hne)⟩
set_option maxHeartbeats 3200000 in
set_option maxRecDepth 8000 in
theorem l03Any_any (g : Nat) (most : Nat) (w : World) (hs : Src w g 143) (hm1 : 1 ≤ most) (hm2 : most ≤ 100) :
    Calls Tryz.prog 287 #[.pointer (some ⟨g, 0, none⟩), .int .i64 most] w fun e w' => ∃ (P : Int) (A : Option Addr) (n c : Nat) (xs : List Int), e = .returned (.agg #[.int .i64 P, .slice A n c]) ∧ 3 ≤ P ∧ P ≤ 13 ∧ 1 ≤ n ∧ n ≤ most ∧ Own w' w.heap.size 2 A n c (ints xs) ∧ Dr g 143 w w' := by
  have hd1 := (Dr.refl hs).alloc (.cells #[.int .i64 0, .slice none 0 0] 26)
  have k1 : Blk (w.alloc (.cells #[.int .i64 0, .slice none 0 0] 26)) w.heap.size 26 #[.int .i64 0, .slice none 0 0] := Blk.new _ _ _
  have hdp := drawPrime_any g (w.alloc (.cells #[.int .i64 0, .slice none 0 0] 26)) hd1.s'
  have hsw : (w.alloc (.cells #[.int .i64 0, .slice none 0 0] 26)).heap.size = w.heap.size + 1 := by simp
  go_enter Tryz.func287, Tryz.ntmps287
  go_wp2_with fail
  refine hdp.mono ?_
  rintro e w2 ⟨p, hp1, hp2, rfl, hd2⟩
  have hd2' := hd1.trans hd2
  have k2 := k1.dr hd2 (by decide)
  have hs2 := hd2.size
  have hd3 := hd2'.alloc (.cells #[.int .i64 p, .slice none 0 0] 26)
  have k3 := k2.alloc (.cells #[.int .i64 p, .slice none 0 0] 26)
  have kb3 : Blk (w2.alloc (.cells #[.int .i64 p, .slice none 0 0] 26)) w2.heap.size 26 #[.int .i64 p, .slice none 0 0] := Blk.new _ _ _
  have hnx := fun w' (h : Src w' g 143) => next_any g (most : Int) w' h (by omega)
  have hsw2 : w.heap.size + 1 ≤ w2.heap.size := by omega
  clear hdp hd1 k1 hd2 hd2' k2 hsw hs2
  go_wp2_with fail
  refine (hnx _ hd3.s').mono ?_
  rintro e w3 ⟨r, rfl, hr1, hr2, hd4⟩
  have hr3 := hr2 (by omega)
  obtain ⟨N, hN⟩ : ∃ N : Nat, (N : Int) = 1 + r := ⟨(1 + r).toNat, by omega⟩
  have hd5 := hd3.trans hd4
  have k5 := k3.dr hd4 (by decide)
  have kb5 := kb3.dr hd4 (by decide)
  have WN : wrap64 (1 + r) = (N : Int) := by unfold wrap64; omega
  have WP : wrap64 (p - 1) = p - 1 := by unfold wrap64; omega
  have hnxp := fun w' (h : Src w' g 143) => next_any g (p - 1) w' h (by omega)
  have hnx10 := fun w' (h : Src w' g 143) => next_any g 10 w' h (by omega)
  clear hnx hd3 k3 kb3 hd4
  go_wp2
  go_loopw [7] (fun q wr => ∃ (j m : Nat) (A : Option Addr) (c : Nat) (xs : List Int), j + m = N ∧ q = .int .i64 m ∧ Blk wr w.heap.size 26 #[.int .i64 0, .slice none 0 0] ∧ Blk wr w2.heap.size 26 #[.int .i64 p, .slice A j c] ∧ Own wr w.heap.size 2 A j c (ints xs) ∧ Dr g 143 w wr) (fun q _ => (intOf q).toNat)
  case atStart => exact ⟨0, N, none, 0, [], by omega, by rw [hN], k5, kb5, World.ownsRow_nil _ _ _ _, hd5⟩
  case round =>
    obtain ⟨j, m, A, c, xs, hjm, rfl, k4, k6, hO, hd⟩ := hrel
    clear k5 kb5 hd5
    cases m with
    | zero =>
      have hjN : j = N := by omega
      subst hjN
      obtain ⟨q0, q1⟩ := k6.two
      obtain ⟨p0, p1⟩ := k4.two
      have f0 := k4.frozen 0
      have f1 := k4.frozen 1
      go_wp2
      have kz := k4.set_ 0 (.int .i64 p)
      refine bodyPost_ret (v := .agg #[.int .i64 p, .slice A j c]) (by simp [results, Tryz.results287, go_sem, p0, p1]) rfl ⟨p, A, j, c, xs, rfl, hp1, hp2, by omega, by omega, (hO.far k4 (by decide) 0 _).far kz (by decide) 1 _, (hd.setNew (Nat.le_refl _) 0 _).setNew (Nat.le_refl _) 1 _⟩
    | succ m =>
      have d1 : decide (0 < ((m + 1 : Nat) : Int)) = true := by rw [decide_eq_true_eq]; omega
      have WM : wrap64 (((m + 1 : Nat) : Int) - 1) = (m : Int) := by unfold wrap64; omega
      have HO := Lib.hid hO
      clear hO
      go_wp2_with fail
      refine (hnxp _ hd.s').mono ?_
      rintro e wA ⟨ra, rfl, ra1, ra2, hdA⟩
      have ra3 := ra2 (by omega)
      have WA : wrap64 (1 + ra) = 1 + ra := by unfold wrap64; omega
      have hdA' := (Dr.refl hdA.s').alloc (.cells #[.int .i64 1, .int .i64 (p - 1), .int .i64 (1 + ra), .int .i64 1] 2)
      have hpk := pick_any g wA.heap.size [1, p - 1, 1 + ra, 1] _ hdA'.s' (by rw [ints4]; exact Blk.new wA 2 _) (by simp) (by simp)
      go_wp2_with fail
      refine hpk.mono ?_
      rintro e wB ⟨rb, _, rfl, hdB⟩
      go_wp2_with fail
      refine (hnx10 _ hdB.s').mono ?_
      rintro e wC ⟨rc, rfl, rc1, rc2, hdC⟩
      have hdAC := ((hdA.trans hdA').trans hdB).trans hdC
      have HD2 := Lib.hid (hd.trans hdAC)
      have HO2 := Lib.hid (HO.out.dr hdAC (by decide))
      have k4C := k4.dr hdAC (by decide)
      have k6C := k6.dr hdAC (by decide)
      obtain ⟨q0, q1⟩ := k6C.two
      clear hd hdA hdA' hdB hdC hdAC hpk hnxp hnx10 k4 k6
      by_cases hrc : rc = 0
      · have er : (rc == 0) = true := by simp [hrc]
        go_wp2_with (at_builtin; refine wpList_app1 (cutW wC w.heap.size) wC 24 2 _ _ Tryz.underlying24 info_i rfl (by omega) rfl _ _ rfl A j c _ _ (HO2.out.mk_ HD2.out.size) (by omega) rfl rfl rfl ?_; intro A8 c8 w8 hM8 hg8 _
                     have k4a := k4C.grown hg8 (HO2.out.ne_blk k4C (by decide))
                     have k6a := k6C.grown hg8 (HO2.out.ne_blk k6C (by decide))
                     have hO3 := hM8.own_ (cutW_size HD2.out.size)
                     have hd3 := HD2.out.grown HO2.out hg8
                     have f8 := k6a.frozen 1
                     have f9 := k6a.cell 1
                     simp only [List.getElem?_toArray, List.getElem?_cons_zero, List.getElem?_cons_succ] at f9)
        have k4b := k4a.far (p := ⟨w2.heap.size, 1, none⟩) (show w.heap.size ≠ w2.heap.size by omega) (.slice A8 (j + 1) c8)
        have k6b := k6a.set_ 1 (.slice A8 (j + 1) c8)
        have hO4 := hO3.far k6a (by decide) 1 (.slice A8 (j + 1) c8)
        have hd4 := hd3.setNew (b := w2.heap.size) (by omega) 1 (.slice A8 (j + 1) c8)
        simp only [List.setIfInBounds_toArray, List.set_cons_zero, List.set_cons_succ] at k6b
        clear k4a k6a hO3 hd3 f8 f9 hM8 hg8 k4C k6C
        go_roundw
        case rel => exact ⟨j + 1, m, A8, c8, xs ++ [0], by omega, by go_num, k4b, k6b, by simpa [ints] using hO4, hd4⟩
        case measure => simp [intOf]
      · have er : (rc == 0) = false := by simp [hrc]
        go_wp2_with (at_builtin; refine wpList_app1 (cutW wC w.heap.size) wC 24 2 _ _ Tryz.underlying24 info_i rfl (by omega) rfl _ _ rfl A j c _ _ (HO2.out.mk_ HD2.out.size) (by omega) rfl rfl rfl ?_; intro A8 c8 w8 hM8 hg8 _
                     have k4a := k4C.grown hg8 (HO2.out.ne_blk k4C (by decide))
                     have k6a := k6C.grown hg8 (HO2.out.ne_blk k6C (by decide))
                     have hO3 := hM8.own_ (cutW_size HD2.out.size)
                     have hd3 := HD2.out.grown HO2.out hg8
                     have f8 := k6a.frozen 1
                     have f9 := k6a.cell 1
                     simp only [List.getElem?_toArray, List.getElem?_cons_zero, List.getElem?_cons_succ] at f9)
        have k4b := k4a.far (p := ⟨w2.heap.size, 1, none⟩) (show w.heap.size ≠ w2.heap.size by omega) (.slice A8 (j + 1) c8)
        have k6b := k6a.set_ 1 (.slice A8 (j + 1) c8)
        have hO4 := hO3.far k6a (by decide) 1 (.slice A8 (j + 1) c8)
        have hd4 := hd3.setNew (b := w2.heap.size) (by omega) 1 (.slice A8 (j + 1) c8)
        simp only [List.setIfInBounds_toArray, List.set_cons_zero, List.set_cons_succ] at k6b
        clear k4a k6a hO3 hd3 f8 f9 hM8 hg8 k4C k6C
        go_roundw
        case rel => exact ⟨j + 1, m, A8, c8, xs ++ [rb], by omega, by go_num, k4b, k6b, by simpa [ints] using hO4, hd4⟩
        case measure => simp [intOf]
set_option maxHeartbeats 1600000 in
set_option maxRecDepth 8000 in
theorem l03Draw_any (g : Nat) (w : World) (hs : Src w g 143) :
    Calls Tryz.prog 347 #[.pointer (some ⟨g, 0, none⟩)] w fun e w' => ∃ (P : Int) (A : Option Addr) (n c : Nat) (xs : List Int), e = .returned (.agg #[.int .i64 P, .slice A n c]) ∧ 3 ≤ P ∧ P ≤ 13 ∧ 1 ≤ n ∧ n ≤ 6 ∧ Own w' w.heap.size 2 A n c (ints xs) ∧ Dr g 143 w w' := by
  have hd1 := ((Dr.refl hs).alloc (.cells #[.int .i64 0, .slice none 0 0] 26)).alloc (.cells #[.int .i64 2, .int .i64 3, .int .i64 3, .int .i64 4, .int .i64 6] 2)
  have k1 : Blk ((w.alloc (.cells #[.int .i64 0, .slice none 0 0] 26)).alloc (.cells #[.int .i64 2, .int .i64 3, .int .i64 3, .int .i64 4, .int .i64 6] 2)) w.heap.size 26 #[.int .i64 0, .slice none 0 0] := (Blk.new _ _ _).alloc _
  have hpk := pick_any g (w.alloc (.cells #[.int .i64 0, .slice none 0 0] 26)).heap.size [2, 3, 3, 4, 6] _ hd1.s' (Blk.new _ 2 _) (by decide) (by decide)
  have e1 : (w.alloc (.cells #[.int .i64 0, .slice none 0 0] 26)).heap.size = w.heap.size + 1 := by simp
  rw [e1] at hpk
  go_enter Tryz.func347, Tryz.ntmps347
  go_wp2_with fail
  refine hpk.mono ?_
  rintro e w2 ⟨r, hr, rfl, hd2⟩
  have hr1 : 2 ≤ r ∧ r ≤ 6 := by simp at hr; omega
  obtain ⟨mn, rfl⟩ : ∃ mn : Nat, r = mn := ⟨r.toNat, by omega⟩
  have hd3 := hd1.trans hd2
  have k2 := k1.dr hd2 (by decide)
  have han := l03Any_any g mn w2 hd3.s' (by omega) (by omega)
  clear hpk hd1 hd2 k1 hr
  go_wp2_with fail
  refine han.mono ?_
  rintro e w3 ⟨P, A, n, c, xs, rfl, hP1, hP2, hn1, hn2, hO, hd4⟩
  have k3 := k2.dr hd4 (by decide)
  have hd5 := hd3.trans hd4
  have hO5 := hO.base hd3.size
  obtain ⟨p0, p1⟩ := k3.two
  have f0 := k3.frozen 0
  have f1 := k3.frozen 1
  have kz := k3.set_ 0 (.int .i64 P)
  clear han k2 hd3 hd4 hO
  go_wp2
  exact bodyPost_ret (v := .agg #[.int .i64 P, .slice A n c]) (by simp [results, Tryz.results347, go_sem, p0, p1]) rfl ⟨P, A, n, c, xs, rfl, hP1, hP2, hn1, by omega, (hO5.far k3 (by decide) 0 _).far kz (by decide) 1 _, (hd5.setNew (Nat.le_refl _) 0 _).setNew (Nat.le_refl _) 1 _⟩
/-- What a struct's box is left as, when the space in it is returned. -/
theorem space_back {w wr : World} {g b : Nat} {T : TypeId} {P : Int} {A : Option Addr} {n c : Nat} {xs : List Int} {cs : Array Value} (k : Blk wr b 26 cs) (hb : w.heap.size ≤ b) (hO : Own wr w.heap.size 2 A n c (ints xs)) (hd : Dr g T w wr) :
    Own ((wr.setCell ⟨b, 0, none⟩ (.int .i64 P)).setCell ⟨b, 1, none⟩ (.slice A n c)) w.heap.size 2 A n c (ints xs) ∧ Dr g T w ((wr.setCell ⟨b, 0, none⟩ (.int .i64 P)).setCell ⟨b, 1, none⟩ (.slice A n c)) :=
  ⟨(hO.far k (by decide) 0 _).far (k.set_ 0 (.int .i64 P)) (by decide) 1 _, (hd.setNew hb 0 _).setNew hb 1 _⟩
/-- The value is a number. -/
def VNum : VP := ⟨fun v _ => ∃ r : Int, v = .int .i64 r, fun _ _ _ h _ => h⟩
theorem Own.set_ {w : World} {E : TypeId} {B g : Nat} {n c : Nat} {us : List Value} (h : Own w B E (some ⟨g, 0, none⟩) n c us) (k : Nat) (u : Value) : Own (w.setCell ⟨g, k, none⟩ u) B E (some ⟨g, 0, none⟩) n c (us.set k u) ∧ w.grownBy (w.setCell ⟨g, k, none⟩ u) (some g) := World.ownsRow.stored h k u
set_option maxHeartbeats 3200000 in
set_option maxRecDepth 8000 in
theorem l03Spoil_any (g : Nat) (w : World) (hs : Src w g 143) :
    Calls Tryz.prog 276 #[.pointer (some ⟨g, 0, none⟩)] w fun e w' => ∃ (P : Int) (A : Option Addr) (n c : Nat) (xs : List Int), e = .returned (.agg #[.int .i64 P, .slice A n c]) ∧ P ≤ 17 ∧ n ≤ 7 ∧ Own w' w.heap.size 2 A n c (ints xs) ∧ Dr g 143 w w' := by
  have hd1 := (Dr.refl hs).alloc (.cells #[.int .i64 0, .slice none 0 0] 26)
  have k1 : Blk (w.alloc (.cells #[.int .i64 0, .slice none 0 0] 26)) w.heap.size 26 #[.int .i64 0, .slice none 0 0] := Blk.new _ _ _
  have hdr := l03Draw_any g (w.alloc (.cells #[.int .i64 0, .slice none 0 0] 26)) hd1.s'
  have hsw : (w.alloc (.cells #[.int .i64 0, .slice none 0 0] 26)).heap.size = w.heap.size + 1 := by simp
  go_enter Tryz.func276, Tryz.ntmps276
  go_wp2_with fail
  refine hdr.mono ?_
  rintro e w2 ⟨P, A, n, c, xs, rfl, hP1, hP2, hn1, hn2, hO, hd2⟩
  have hs2 := hd2.size
  have hlt2 : w.heap.size < w2.heap.size := by omega
  have hd3 := (hd1.trans hd2).alloc (.cells #[.int .i64 P, .slice A n c] 26)
  have k3 := (k1.dr hd2 (by decide)).alloc (.cells #[.int .i64 P, .slice A n c] 26)
  have kb3 : Blk (w2.alloc (.cells #[.int .i64 P, .slice A n c] 26)) w2.heap.size 26 #[.int .i64 P, .slice A n c] := Blk.new _ _ _
  have hO3 := (hO.base (B' := w.heap.size) (by omega)).below ((Below.refl _ _).alloc (Nat.le_refl _) (.cells #[.int .i64 P, .slice A n c] 26))
  have hnx := next_any g 40 _ hd3.s' (by omega)
  clear hdr hd1 k1 hsw hd2 hs2 hO
  go_wp2_with fail
  refine hnx.mono ?_
  rintro e w3 ⟨r, rfl, hr1, hr2, hd4⟩
  have hd5 := hd3.trans hd4
  have k5 := k3.dr hd4 (by decide)
  have kb5 := kb3.dr hd4 (by decide)
  have hO5 := hO3.dr hd4 (by decide)
  clear hnx hd3 k3 kb3 hO3 hd4
  by_cases h0 : r = 0
  · have e0 : (r == 0) = true := by simp [h0]
    obtain ⟨q0, q1⟩ := kb5.two
    have hd6 := (Dr.refl hd5.s').alloc (.cells #[.int .i64 4, .int .i64 1, .int .i64 17, .int .i64 0] 2)
    have hpk := pick_any g w3.heap.size [4, 1, 17, 0] _ hd6.s' (Blk.new w3 2 _) (by decide) (by decide)
    go_wp2_with fail
    refine hpk.mono ?_
    rintro e w4 ⟨P2, hP, rfl, hd7⟩
    have hd67 := hd6.trans hd7
    have k7 := k5.dr hd67 (by decide)
    have kb7 := kb5.dr hd67 (by decide)
    have hO7 := hO5.dr hd67 (by decide)
    have hd8 := hd5.trans hd67
    obtain ⟨p0, p1⟩ := k7.two
    have f0 := k7.frozen 0
    have f1 := k7.frozen 1
    have g0 := kb7.frozen 0
    have g1 := kb7.cell 0
    have g2 := kb7.cell 1
    simp only [List.getElem?_toArray, List.getElem?_cons_zero, List.getElem?_cons_succ] at g1 g2
    clear hpk hd6 hd7 hd67 k5 kb5 hO5 hd5 q0 q1
    go_wp2
    have k8 := k7.far (p := ⟨w2.heap.size, 0, none⟩) (show w.heap.size ≠ w2.heap.size by omega) (.int .i64 P2)
    have hO8 := hO7.far kb7 (by decide) 0 (.int .i64 P2)
    have hd9 := hd8.setNew (b := w2.heap.size) (by omega) 0 (.int .i64 P2)
    obtain ⟨w5, hw5⟩ : ∃ W, W = w4.setCell ⟨w2.heap.size, 0, none⟩ (.int .i64 P2) := ⟨_, rfl⟩
    rw [← hw5] at k8 hO8 hd9 ⊢
    obtain ⟨p0, p1⟩ := k8.two
    first | exact bodyPost_ret (v := .agg #[.int .i64 P2, .slice A n c]) (by simp [results, Tryz.results276, go_sem, p0, p1]) rfl ⟨P2, A, n, c, xs, rfl, by simp at hP; omega, by omega, (space_back k8 (Nat.le_refl _) hO8 hd9).1, (space_back k8 (Nat.le_refl _) hO8 hd9).2⟩ | exact bodyPost_ret (v := .agg #[.int .i64 P2, .slice A n c]) (by simp [results, Tryz.results276, go_sem, p0, p1]) rfl ⟨P2, A, n, c, rfl, by simp at hP; omega, by omega, ⟨xs, (space_back k8 (Nat.le_refl _) hO8 hd9).1⟩, (space_back k8 (Nat.le_refl _) hO8 hd9).2⟩
  · have e0 : (r == 0) = false := by simp [h0]
    by_cases h1 : r = 1
    · have e1 : (r == 1) = true := by simp [h1]
      rcases hO5.form with ⟨_, hz⟩ | ⟨gA, rfl, hg1, hg2⟩
      · omega
      obtain ⟨q0, q1⟩ := kb5.two
      have i1 : (0 : Int) < (n : Int) := by omega
      have i2 : 0 < n := by omega
      go_wp2
      refine wp_obsR 8 (Dr g 143) [[], [0], [], [], [3], [3, 4], [2, 3, 4, 5], [0, 1], [0, 1, 2, 3, 4, 5, 6, 7]] [[], [], [], [], [], [], [5], []] (fun x => [VIs (.pointer (some ⟨w2.heap.size, 1, none⟩)), VIs (.slice (some ⟨gA, 0, none⟩) n c), VIs (.pointer (some ⟨g, 0, none⟩)), VIs (.pointer (some ⟨w2.heap.size, 0, none⟩)), VIs (.int .i64 (P)), VBs 2 #[.int .i64 (-1), .int .i64 P], VNum, VIs (.pointer (some ⟨gA, 0, none⟩))]) (fun w' => Blk w' w.heap.size 26 #[.int .i64 0, .slice none 0 0] ∧ Blk w' w2.heap.size 26 #[.int .i64 P, .slice (some ⟨gA, 0, none⟩) n c] ∧ Own w' w.heap.size 2 (some ⟨gA, 0, none⟩) n c (ints xs) ∧ Dr g 143 w w') (by kernel_rfl) (by kernel_rfl) (fun x x' j hx => by
          rcases j with _ | _ | _ | _ | _ | _ | _ | _ | j
          · rfl
          · rfl
          · rfl
          · rfl
          · rfl
          · rfl
          · rfl
          · rfl
          · rfl)
        (weak_ofR [0, 1, 2, 3, 4, 7] (by decide) (fun k hk x v w w' hp hr => by
          simp only [List.mem_cons, List.not_mem_nil, or_false] at hk
          rcases hk with rfl | rfl | rfl | rfl | rfl | rfl
          · exact hp
          · exact hp
          · exact hp
          · exact hp
          · exact hp
          · exact hp)) (fun j _ _ h hb => hb.either (fun hb => ⟨h.1.below hb h.1.lt, h.2.1.below hb h.2.1.lt, h.2.2.1.below hb, h.2.2.2.then hb⟩) (fun hr => ⟨h.1.dr hr (by decide), h.2.1.dr hr (by decide), h.2.2.1.dr hr (by decide), h.2.2.2.trans hr⟩)) (⟨k5.drew, kb5.drew, hO5.below (Below.refl _ _).drew, hd5.then (Below.refl _ _).drew⟩) (fun x => ?_)
      refine obs_stepR (Eq.trans (by simp only [List.getElem?_toArray, List.getElem?_cons_zero]; exact rfl) rfl) rfl (fun w' hS hV K hK => ?_) ?_
      · obtain ⟨q0, q1⟩ := hS.2.1.two
        go_simp
        exact hK.out _ _ _ rfl rfl rfl (Below.refl _ _)
      simp only [List.setIfInBounds_toArray, List.set_cons_zero, List.set_cons_succ]
      refine obs_stepR (Eq.trans (by simp only [List.getElem?_toArray, List.getElem?_cons_succ, List.getElem?_cons_zero]; exact rfl) rfl) rfl (fun w' hS hV K hK => ?_) ?_
      · have e0 : x 0 = (.pointer (some ⟨w2.heap.size, 1, none⟩)) := hV 0 (by decide)
        obtain ⟨q0, q1⟩ := hS.2.1.two
        go_simp
        exact hK.out _ _ _ rfl rfl rfl (Below.refl _ _)
      simp only [List.setIfInBounds_toArray, List.set_cons_zero, List.set_cons_succ]
      refine obs_stepR (Eq.trans (by simp only [List.getElem?_toArray, List.getElem?_cons_succ, List.getElem?_cons_zero]; exact rfl) rfl) rfl (fun w' hS hV K hK => ?_) ?_
      · obtain ⟨q0, q1⟩ := hS.2.1.two
        go_simp
        exact hK.out _ _ _ rfl rfl rfl (Below.refl _ _)
      simp only [List.setIfInBounds_toArray, List.set_cons_zero, List.set_cons_succ]
      refine obs_stepR (Eq.trans (by simp only [List.getElem?_toArray, List.getElem?_cons_succ, List.getElem?_cons_zero]; exact rfl) rfl) rfl (fun w' hS hV K hK => ?_) ?_
      · obtain ⟨q0, q1⟩ := hS.2.1.two
        go_simp
        exact hK.out _ _ _ rfl rfl rfl (Below.refl _ _)
      simp only [List.setIfInBounds_toArray, List.set_cons_zero, List.set_cons_succ]
      refine obs_stepR (Eq.trans (by simp only [List.getElem?_toArray, List.getElem?_cons_succ, List.getElem?_cons_zero]; exact rfl) rfl) rfl (fun w' hS hV K hK => ?_) ?_
      · have e3 : x 3 = (.pointer (some ⟨w2.heap.size, 0, none⟩)) := hV 3 (by decide)
        obtain ⟨q0, q1⟩ := hS.2.1.two
        go_simp
        exact hK.out _ _ _ rfl rfl rfl (Below.refl _ _)
      simp only [List.setIfInBounds_toArray, List.set_cons_zero, List.set_cons_succ]
      refine obs_stepR (Eq.trans (by simp only [List.getElem?_toArray, List.getElem?_cons_succ, List.getElem?_cons_zero]; exact rfl) rfl) rfl (fun w' hS hV K hK => ?_) ?_
      · have e3 : x 3 = (.pointer (some ⟨w2.heap.size, 0, none⟩)) := hV 3 (by decide)
        have e4 : x 4 = (.int .i64 (P)) := hV 4 (by decide)
        obtain ⟨q0, q1⟩ := hS.2.1.two
        go_simp
        exact hK.out _ _ _ rfl rfl ⟨_, rfl, Blk.new _ _ _⟩ ((Below.refl _ _).alloc (Nat.le_refl _) _)
      simp only [List.setIfInBounds_toArray, List.set_cons_zero, List.set_cons_succ]
      refine obs_stepR (Eq.trans (by simp only [List.getElem?_toArray, List.getElem?_cons_succ, List.getElem?_cons_zero]; exact rfl) rfl) rfl (fun w' hS hV K hK => ?_) ?_
      · have e2 : x 2 = (.pointer (some ⟨g, 0, none⟩)) := hV 2 (by decide)
        have e3 : x 3 = (.pointer (some ⟨w2.heap.size, 0, none⟩)) := hV 3 (by decide)
        have e4 : x 4 = (.int .i64 (P)) := hV 4 (by decide)
        obtain ⟨G5, e5, b5⟩ := hV 5 (by decide)
        obtain ⟨q0, q1⟩ := hS.2.1.two
        go_simp
        refine (pick_any g G5 [-1, P] _ hS.2.2.2.s' (by rw [ints2]; exact b5) (by simp) (by simp)).mono ?_
        rintro e v1 ⟨r1, _, rfl, hr⟩
        exact hK.out _ _ _ rfl rfl ⟨_, rfl⟩ hr
      simp only [List.setIfInBounds_toArray, List.set_cons_zero, List.set_cons_succ]
      refine obs_stepR (Eq.trans (by simp only [List.getElem?_toArray, List.getElem?_cons_succ, List.getElem?_cons_zero]; exact rfl) rfl) rfl (fun w' hS hV K hK => ?_) ?_
      · have e0 : x 0 = (.pointer (some ⟨w2.heap.size, 1, none⟩)) := hV 0 (by decide)
        have e1 : x 1 = (.slice (some ⟨gA, 0, none⟩) n c) := hV 1 (by decide)
        obtain ⟨q0, q1⟩ := hS.2.1.two
        go_simp
        exact hK.out _ _ _ rfl rfl rfl (Below.refl _ _)
      simp only [List.setIfInBounds_toArray, List.set_cons_zero, List.set_cons_succ]
      refine fun w' hS hV => ?_
      have e0 : x 0 = (.pointer (some ⟨w2.heap.size, 1, none⟩)) := hV 0 (by decide)
      have e1 : x 1 = (.slice (some ⟨gA, 0, none⟩) n c) := hV 1 (by decide)
      have e2 : x 2 = (.pointer (some ⟨g, 0, none⟩)) := hV 2 (by decide)
      have e3 : x 3 = (.pointer (some ⟨w2.heap.size, 0, none⟩)) := hV 3 (by decide)
      have e4 : x 4 = (.int .i64 (P)) := hV 4 (by decide)
      obtain ⟨rv, e6⟩ := hV 6 (by decide)
      have e7 : x 7 = (.pointer (some ⟨gA, 0, none⟩)) := hV 7 (by decide)
      simp only [e0, e1, e2, e3, e4, e6, e7]
      clear e0 e1 e2 e3 e4 e6 e7
      obtain ⟨k6, kb6, hO6, hd6⟩ := hS
      obtain ⟨w6, rfl⟩ : ∃ W, W = w' := ⟨_, rfl⟩
      obtain ⟨gB, oB, eB, hxB, hcB⟩ := hO6.rd.int (show 0 < n by omega)
      injection eB with eB
      injection eB with eB1 eB2 _
      subst eB1; subst eB2
      rw [Nat.zero_add] at hcB
      have ff := hO6.frozen_ 0
      refine any_one (j := 8) (by kernel_rfl) (Eq.trans (by simp only [List.getElem?_toArray, List.getElem?_cons_succ, List.getElem?_cons_zero]; exact rfl) rfl) (fun K hK => ?_)
      go_simp
      refine hK.out _ _ (wpAny_done (by kernel_rfl) ?_ _)
      obtain ⟨hO7, hg7⟩ := hO6.set_ 0 (.int .i64 rv)
      rw [ints_set] at hO7
      have k7 := k6.grown hg7 (hO6.ne_blk k6 (by decide))
      have kb7 := kb6.grown hg7 (hO6.ne_blk kb6 (by decide))
      have hd7 := hd6.grown hO6 hg7
      obtain ⟨w7, hw7⟩ : ∃ W, W = w6.setCell ⟨gA, 0, none⟩ (.int .i64 rv) := ⟨_, rfl⟩
      rw [← hw7] at hO7 k7 kb7 hd7 ⊢
      obtain ⟨p0, p1⟩ := k7.two
      have f0 := k7.frozen 0
      have f1 := k7.frozen 1
      obtain ⟨g1, g2⟩ := kb7.two
      clear q0 q1 k5 kb5 hO5 hd5 k6 kb6 hO6 hd6 hg7 hw7 hcB ff
      go_wp2
      first | exact bodyPost_ret (v := .agg #[.int .i64 P, .slice (some ⟨gA, 0, none⟩) n c]) (by simp [results, Tryz.results276, go_sem, p0, p1]) rfl ⟨P, (some ⟨gA, 0, none⟩), n, c, (xs.set 0 rv), rfl, by omega, by omega, (space_back k7 (Nat.le_refl _) hO7 hd7).1, (space_back k7 (Nat.le_refl _) hO7 hd7).2⟩ | exact bodyPost_ret (v := .agg #[.int .i64 P, .slice (some ⟨gA, 0, none⟩) n c]) (by simp [results, Tryz.results276, go_sem, p0, p1]) rfl ⟨P, (some ⟨gA, 0, none⟩), n, c, rfl, by omega, by omega, ⟨(xs.set 0 rv), (space_back k7 (Nat.le_refl _) hO7 hd7).1⟩, (space_back k7 (Nat.le_refl _) hO7 hd7).2⟩
    · have e1 : (r == 1) = false := by simp [h1]
      by_cases h2 : r = 2
      · have e2 : (r == 2) = true := by simp [h2]
        have kA := k5.alloc (.cells #[] 2)
        have kbA := kb5.alloc (.cells #[] 2)
        have hdA := hd5.alloc (.cells #[] 2)
        have hOA : Own (w3.alloc (.cells #[] 2)) w.heap.size 2 (some ⟨w3.heap.size, 0, none⟩) 0 0 (ints []) := Own.of_cells (cs := #[]) (Nat.le_trans (Nat.le_of_lt hlt2) (Nat.le_trans (Nat.le_of_lt kb5.lt) (Nat.le_refl _))) (Blk.new w3 2 #[]) (by simp [maxLen])
        obtain ⟨p0, p1⟩ := kA.two
        have f0 := kA.frozen 0
        have f1 := kA.frozen 1
        obtain ⟨g1, g2⟩ := kbA.two
        have g0 := kbA.frozen 1
        go_wp2
        have k8 := kA.far (p := ⟨w2.heap.size, 1, none⟩) (show w.heap.size ≠ w2.heap.size by omega) (.slice (some ⟨w3.heap.size, 0, none⟩) 0 0)
        have hO8 := hOA.far kbA (by decide) 1 (.slice (some ⟨w3.heap.size, 0, none⟩) 0 0)
        have hd9 := hdA.setNew (b := w2.heap.size) (by omega) 1 (.slice (some ⟨w3.heap.size, 0, none⟩) 0 0)
        obtain ⟨w5, hw5⟩ : ∃ W, W = (w3.alloc (.cells #[] 2)).setCell ⟨w2.heap.size, 1, none⟩ (.slice (some ⟨w3.heap.size, 0, none⟩) 0 0) := ⟨_, rfl⟩
        rw [← hw5] at k8 hO8 hd9 ⊢
        obtain ⟨p0, p1⟩ := k8.two
        first | exact bodyPost_ret (v := .agg #[.int .i64 P, .slice (some ⟨w3.heap.size, 0, none⟩) 0 0]) (by simp [results, Tryz.results276, go_sem, p0, p1]) rfl ⟨P, (some ⟨w3.heap.size, 0, none⟩), 0, 0, [], rfl, by omega, by omega, (space_back k8 (Nat.le_refl _) hO8 hd9).1, (space_back k8 (Nat.le_refl _) hO8 hd9).2⟩ | exact bodyPost_ret (v := .agg #[.int .i64 P, .slice (some ⟨w3.heap.size, 0, none⟩) 0 0]) (by simp [results, Tryz.results276, go_sem, p0, p1]) rfl ⟨P, (some ⟨w3.heap.size, 0, none⟩), 0, 0, rfl, by omega, by omega, ⟨[], (space_back k8 (Nat.le_refl _) hO8 hd9).1⟩, (space_back k8 (Nat.le_refl _) hO8 hd9).2⟩
      · have e2 : (r == 2) = false := by simp [h2]
        by_cases h3 : r = 3
        · have e3 : (r == 3) = true := by simp [h3]
          go_wp2
          go_loopw [] (fun wr => ∃ (j : Nat) (A1 : Option Addr) (c1 : Nat) (xs1 : List Int), j ≤ 7 ∧ Blk wr w.heap.size 26 #[.int .i64 0, .slice none 0 0] ∧ Blk wr w2.heap.size 26 #[.int .i64 P, .slice A1 j c1] ∧ Own wr w.heap.size 2 A1 j c1 (ints xs1) ∧ Dr g 143 w wr) (fun wr => 7 - (match wr.cell? ⟨w2.heap.size, 1, none⟩ with | some (.slice _ l _) => l | _ => 0))
          case atStart => exact ⟨n, A, c, xs, by omega, k5, kb5, hO5, hd5⟩
          case round =>
            obtain ⟨j, A1, c1, xs1, hj, k6, kb6, hO6, hd6⟩ := hrel
            clear k5 kb5 hO5 hd5
            obtain ⟨q0, q1⟩ := kb6.two
            by_cases hlt : j < 7
            · have d7 : decide ((j : Int) < 7) = true := by rw [decide_eq_true_eq]; omega
              go_wp2_with (at_builtin; refine wpList_app1 (cutW wr w.heap.size) wr 24 2 _ _ Tryz.underlying24 info_i rfl (by omega) rfl _ _ rfl A1 j c1 _ _ (hO6.mk_ hd6.size) (by omega) rfl rfl rfl ?_; intro A8 c8 w8 hM8 hg8 _
                           have k4a := k6.grown hg8 (hO6.ne_blk k6 (by decide))
                           have k6a := kb6.grown hg8 (hO6.ne_blk kb6 (by decide))
                           have hO7 := hM8.own_ (cutW_size hd6.size)
                           have hd7 := hd6.grown hO6 hg8
                           have f8 := k6a.frozen 1
                           obtain ⟨f9, f10⟩ := k6a.two)
              have k4b := k4a.far (p := ⟨w2.heap.size, 1, none⟩) (show w.heap.size ≠ w2.heap.size by omega) (.slice A8 (j + 1) c8)
              have k6b := k6a.set_ 1 (.slice A8 (j + 1) c8)
              have hO8 := hO7.far k6a (by decide) 1 (.slice A8 (j + 1) c8)
              have hd8 := hd7.setNew (b := w2.heap.size) (by omega) 1 (.slice A8 (j + 1) c8)
              simp only [List.setIfInBounds_toArray, List.set_cons_zero, List.set_cons_succ] at k6b
              have hm2 := k6b.two.2
              clear k4a k6a hO7 hd7 f8 f9 f10 hM8 hg8
              go_roundw
              case rel => exact ⟨j + 1, A8, c8, xs1 ++ [1], by omega, k4b, k6b, by simpa [ints] using hO8, hd8⟩
              case measure =>
                simp only [hm2, q1]
                show 7 - (j + 1) < 7 - j
                omega
            · have d7 : decide ((j : Int) < 7) = false := by rw [decide_eq_false_iff_not]; omega
              obtain ⟨p0, p1⟩ := k6.two
              have f0 := k6.frozen 0
              have f1 := k6.frozen 1
              go_wp2
              first | exact bodyPost_ret (v := .agg #[.int .i64 P, .slice A1 j c1]) (by simp [results, Tryz.results276, go_sem, p0, p1]) rfl ⟨P, A1, j, c1, xs1, rfl, by omega, by omega, (space_back k6 (Nat.le_refl _) hO6 hd6).1, (space_back k6 (Nat.le_refl _) hO6 hd6).2⟩ | exact bodyPost_ret (v := .agg #[.int .i64 P, .slice A1 j c1]) (by simp [results, Tryz.results276, go_sem, p0, p1]) rfl ⟨P, A1, j, c1, rfl, by omega, by omega, ⟨xs1, (space_back k6 (Nat.le_refl _) hO6 hd6).1⟩, (space_back k6 (Nat.le_refl _) hO6 hd6).2⟩
        · have e3 : (r == 3) = false := by simp [h3]
          obtain ⟨p0, p1⟩ := k5.two
          have f0 := k5.frozen 0
          have f1 := k5.frozen 1
          obtain ⟨q0, q1⟩ := kb5.two
          go_wp2
          first | exact bodyPost_ret (v := .agg #[.int .i64 P, .slice A n c]) (by simp [results, Tryz.results276, go_sem, p0, p1]) rfl ⟨P, A, n, c, xs, rfl, by omega, by omega, (space_back k5 (Nat.le_refl _) hO5 hd5).1, (space_back k5 (Nat.le_refl _) hO5 hd5).2⟩ | exact bodyPost_ret (v := .agg #[.int .i64 P, .slice A n c]) (by simp [results, Tryz.results276, go_sem, p0, p1]) rfl ⟨P, A, n, c, rfl, by omega, by omega, ⟨xs, (space_back k5 (Nat.le_refl _) hO5 hd5).1⟩, (space_back k5 (Nat.le_refl _) hO5 hd5).2⟩
end Go.Proofs.YtggigolkncckoaaGreat
namespace Go.Proofs.YtggigolkncckoaaGreat
open Go.RowKit
set_option maxHeartbeats 1600000 in
theorem ones64_any (x : Nat) (w : World) (hx : x < 64) :
    Calls Tryz.prog 358 #[.int .u64 x] w fun e w' => e = .returned (.int .i64 (pc x)) ∧ w = w' := by
  go_enter Tryz.func358, Tryz.ntmps358
  go_wp2
  go_ret
  refine ⟨ret_int ?_, rfl⟩
  revert x
  decide +kernel
set_option maxHeartbeats 400000 in
theorem ones_any (x : Nat) (w : World) (hx : x < 64) :
    Calls Tryz.prog 323 #[.int .u64 x] w fun e w' => e = .returned (.int .i64 (pc x)) ∧ w = w' := by
  go_enter Tryz.func323, Tryz.ntmps323
  go_wp2_with (go_at_call 358; refine (ones64_any x _ hx).mono ?_; rintro e w' ⟨rfl, rfl⟩)
  go_ret
  exact ⟨rfl, rfl⟩
set_option maxHeartbeats 400000 in
theorem gradeOf_any (x : Nat) (w : World) (hx : x < 64) :
    Calls Tryz.prog 211 #[.int .i64 x] w fun e w' => e = .returned (.int .i64 (pc x)) ∧ w = w' := by
  go_enter Tryz.func211, Tryz.ntmps211
  go_wp2_with (go_at_call 323; refine (ones_any x _ hx).mono ?_; rintro e w' ⟨rfl, rfl⟩)
  go_ret
  exact ⟨rfl, rfl⟩
set_option maxHeartbeats 400000 in
theorem l04Grade_any (x : Nat) (w : World) (hx : x < 64) :
    Calls Tryz.prog 215 #[.int .i64 x] w fun e w' => e = .returned (.int .i64 (pc x)) ∧ w = w' := by
  have hp := pc_le 6 x (by omega)
  have HP := Lib.hid hp; clear hp
  go_enter Tryz.func215, Tryz.ntmps215
  go_wp2
  go_loop [0, 3] (fun m n => ∃ (y k : Nat), y < 64 ∧ k < 100 ∧ m = .int .i64 y ∧ n = .int .i64 k ∧ pc x = k + pc y) (fun m _ => (intOf m).toNat)
  case atStart => exact ⟨x, 0, hx, by omega, rfl, rfl, by omega⟩
  case round =>
    obtain ⟨y, k, hy, hk, rfl, rfl, hpc⟩ := hrel
    rw [pc_rec y] at hpc
    have H := Lib.hid hpc; clear hpc
    by_cases hlt : 0 < y
    · go_wp2
      go_round
      case rel => exact ⟨y / 2, k + y % 2, by omega, by have := H.out; have := HP.out; omega, by go_num, by go_num, by have := H.out; omega⟩
      case measure => simp [intOf]; omega
    · go_wp2
      go_ret
      obtain rfl : y = 0 := by omega
      have := H.out
      simp [pc] at this
      exact ⟨ret_int (by omega), rfl⟩
end Go.Proofs.YtggigolkncckoaaGreat
namespace Go.Proofs.YtggigolkncckoaaGreat
open Go.RowKit
theorem swaps_le (a b : Nat) (ha : a < 64) (k : Nat) : swaps a b k ≤ 6 * k := by
  induction k with
  | zero => simp [swaps]
  | succ k ih =>
    have : pc (a / 2 ^ (k + 1)) ≤ 6 := pc_le 6 _ (Nat.lt_of_le_of_lt (Nat.div_le_self _ _) (by omega))
    simp only [swaps]
    split <;> omega
theorem and_bit_all : ∀ k : Nat, k < 6 → ∀ x : Nat, x < 64 → bits BinOp.and IntKind.i64 ((x : Int) / 2 ^ k) 1 = (bit x k : Int) := by decide +kernel
theorem and_bit {x k : Nat} (hk : k < 6) (hx : x < 64) : bits BinOp.and IntKind.i64 ((x : Int) / 2 ^ k) 1 = (bit x k : Int) := and_bit_all k hk x hx
theorem bit_lt (x k : Nat) : bit x k < 2 := Nat.mod_lt _ (by omega)
theorem bit1 {x k : Nat} (hk : k < 6) (hx : x < 64) (h : (bits BinOp.and IntKind.i64 ((x : Int) / 2 ^ k) 1 == 1) = true) : bit x k = 1 := by
  rw [and_bit hk hx] at h; have := beq_iff_eq.1 h; omega
theorem bit0 {x k : Nat} (hk : k < 6) (hx : x < 64) (h : (bits BinOp.and IntKind.i64 ((x : Int) / 2 ^ k) 1 == 1) = false) : ¬ bit x k = 1 := by
  rw [and_bit hk hx] at h; intro hh; rw [hh] at h; simp at h
theorem shr_u64 (x k : Nat) (hx : x < 64) : IntKind.u64.wrap ((x : Int) / 2 ^ k) = ((x / 2 ^ k : Nat) : Int) := by
  have h : x / 2 ^ k ≤ x := Nat.div_le_self _ _
  have he : ((x : Int) / 2 ^ k) = ((x / 2 ^ k : Nat) : Int) := by simp
  rw [he]
  exact IntWalk.u64_in _ ⟨Int.natCast_nonneg _, by omega⟩
theorem keepB3 {B : Nat} {W0 w1 w2 : World} {p q r : Addr} {u v x : Value} (h : w1.cell? p = some u ∧ w1.cell? q = some v ∧ w1.cell? r = some x ∧ Below B W0 w1) (hb : Below w1.heap.size w1 w2) (hB : B ≤ W0.heap.size) :
    w2.cell? p = some u ∧ w2.cell? q = some v ∧ w2.cell? r = some x ∧ Below B W0 w2 :=
  ⟨(hb.cell (World.block_lt_of_cell? _ _ h.1)).trans h.1, (hb.cell (World.block_lt_of_cell? _ _ h.2.1)).trans h.2.1, (hb.cell (World.block_lt_of_cell? _ _ h.2.2.1)).trans h.2.2.1, h.2.2.2.trans (hb.mono (Nat.le_trans hB h.2.2.2.size))⟩
set_option maxRecDepth 2000 in
set_option maxHeartbeats 1600000 in
theorem factor_any (P : Int) (A : Option Addr) (n c : Nat) (sq : List Int) (a b : Nat) (w : World) (hp : 2 ≤ P) (hp2 : P ≤ 13) (hn : n ≤ 6) (ha : Rd w A n (ints sq)) (hs : NumsL P sq) (h1 : a < 64) (h2 : b < 64) :
    Calls Tryz.prog 355 #[.agg #[.int .i64 P, .slice A n c], .int .i64 a, .int .i64 b] w fun e w' => e = .returned (.int .i64 (fac P sq a b)) ∧ Below w.heap.size w w' := by
  have hxl : sq.length = n := by have := ha.1; rwa [ints_length] at this
  have Hx := Lib.hid hxl; clear hxl
  go_enter Tryz.func355, Tryz.ntmps355
  go_wp2_with (go_at_call 139; refine (dim_any _ _ _ _ _).mono ?_; rintro e w1 ⟨rfl, hb1⟩)
  have hk0 : Blk w1 w.heap.size 26 #[.int .i64 P, .slice A n c] := (Blk.new w _ _).below hb1 (by simp)
  have hB1 : Below w.heap.size w w1 := ((Below.refl _ w).alloc (Nat.le_refl _) _).trans (hb1.mono (by simp))
  have ha1 := ha.below hB1
  clear ha hb1
  go_loopw [7, 8, 9, 12] (fun sw out _ i wr => ∃ (k : Nat), k ≤ n ∧ i = .int .i64 k ∧ sw = .int .i64 (swaps a b k) ∧ out = .int .i64 (common P sq a b k) ∧ Below w1.heap.size w1 wr) (fun _ _ _ i _ => n - (intOf i).toNat)
  case atStart => exact ⟨0, by omega, rfl, rfl, rfl, Below.refl _ _⟩
  case round =>
    obtain ⟨k, hk, rfl, rfl, rfl, hM⟩ := hrel
    have hkr := hk0.below hM hk0.lt
    have har := ha1.below hM
    have hsl := swaps_le a b h1 k
    obtain ⟨cb1, cb2⟩ := common_bound P sq a b hp k
    by_cases hlt : k < n
    · cases hb : (bits BinOp.and IntKind.i64 ((b : Int) / 2 ^ k) 1 == 1)
      · have hb' := Lib.hid (bit0 (by omega) h2 hb)
        go_wp2
        go_roundw
        case rel => exact ⟨k + 1, by omega, by go_num, by simp only [swaps, if_neg hb'.out]; rfl, by simp only [common, if_neg (fun hh : bit b k = 1 ∧ bit a k = 1 => hb'.out hh.1)], hM⟩
        case measure => simp [intOf]; omega
      · have hb' := Lib.hid (bit1 (by omega) h2 hb)
        have hv := Lib.hid (shr_u64 a (k + 1) h1)
        have hpc : pc (a / 2 ^ (k + 1)) ≤ 6 := pc_le 6 _ (Nat.lt_of_le_of_lt (Nat.div_le_self _ _) (by omega))
        have hlt2 : a / 2 ^ (k + 1) < 64 := Nat.lt_of_le_of_lt (Nat.div_le_self _ _) h1
        have HL := Lib.hid hlt2; clear hlt2
        cases hba : (bits BinOp.and IntKind.i64 ((a : Int) / 2 ^ k) 1 == 1)
        · have hba' := Lib.hid (bit0 (by omega) h1 hba)
          go_wp2_with (go_at_call 323; rw [hv.out]; refine (ones_any _ _ HL.out).mono ?_; rintro e w' ⟨rfl, rfl⟩)
          go_roundw
          case rel => exact ⟨k + 1, by omega, by go_num, by simp only [swaps, if_pos hb'.out]; rfl, by simp only [common, if_neg (fun hh : bit b k = 1 ∧ bit a k = 1 => hba'.out hh.2)], hM⟩
          case measure => simp [intOf]; omega
        · have hba' := Lib.hid (bit1 (by omega) h1 hba)
          obtain ⟨g, o, rfl, hx, hcx⟩ := har.int hlt
          obtain ⟨sx1, sx2⟩ := hs _ (List.getElem_mem hx)
          obtain ⟨m1, m2⟩ := mul_small cb1 (show common P sq a b k ≤ 13 by omega) sx1 (show sq[k] ≤ 13 by omega)
          obtain ⟨kc0, kc1⟩ := hkr.two
          clear har ha1 hk0
          go_wp2_with (go_at_call 323; rw [hv.out]; refine (ones_any _ _ HL.out).mono ?_; rintro e w' ⟨rfl, rfl⟩)
          go_region_held3 (fun w' => w'.cell? ⟨w.heap.size, 0, none⟩ = some (.int .i64 P) ∧ w'.cell? ⟨w.heap.size, 1, none⟩ = some (.slice (some ⟨g, o, none⟩) n c) ∧ w'.cell? ⟨g, o + k, none⟩ = some (.int .i64 sq[k]) ∧ Below w1.heap.size w1 w')
            (first | with_reducible assumption | with_reducible exact keepB3 (by assumption) hb9 (Nat.le_refl _) | exact ⟨kc0, kc1, hcx, hM.drew⟩)
            (first
              | (go_at_call 152; refine (field_any _ _ _ _ _).mono ?_; rintro e w' ⟨rfl, hb9⟩)
              | (go_at_call 200; refine (num_iw P (common P sq a b k * sq[k]) _ (by omega) hp2 (by omega) (by omega)).mono ?_; rintro e w' ⟨rfl, rfl⟩))
          have hM2 := (by assumption : _ ∧ _ ∧ _ ∧ Below w1.heap.size w1 w').2.2.2
          go_wp2
          go_roundw
          case rel => exact ⟨k + 1, by omega, by go_num, by simp only [swaps, if_pos hb'.out]; rfl, by simp only [common, if_pos (And.intro hb'.out hba'.out)]; rw [List.getD_eq_getElem?_getD, List.getElem?_eq_getElem hx]; rfl, hM2⟩
          case measure => simp [intOf]; omega
    · obtain rfl : k = n := by omega
      have hBB : Below w.heap.size w wr := hB1.trans (hM.mono hB1.size)
      clear har ha1
      cases hsw : ((swaps a b k : Int) % 2 == 1)
      · go_wp2
        go_ret
        refine ⟨ret_int ?_, hBB⟩
        unfold fac
        rw [Hx.out, if_neg (by intro hh; have : (swaps a b k : Int) % 2 = 1 := by omega
                               rw [this] at hsw; simp at hsw)]
      · obtain ⟨kc0, kc1⟩ := hkr.two
        go_wp2_with (first
              | (go_at_call 152; refine (field_any _ _ _ _ _).mono ?_; rintro e w' ⟨rfl, hb9⟩)
              | (go_at_call 200; refine (num_any P (-common P sq a b k) _ (by omega) hp2 (by omega) (by omega)).mono ?_; rintro e w' ⟨rfl, rfl⟩))
        go_ret
        refine ⟨ret_int ?_, hBB.trans (hb9.mono hBB.size)⟩
        unfold fac
        rw [Hx.out, if_pos (by have := beq_iff_eq.1 hsw; omega)]
end Go.Proofs.YtggigolkncckoaaGreat
namespace Go.Proofs.YtggigolkncckoaaGreat
open Go.RowKit
theorem xor_all : ∀ x : Nat, x < 64 → ∀ y : Nat, y < 64 → bits BinOp.xor IntKind.i64 (x : Int) (y : Int) = ((x ^^^ y : Nat) : Int) := by decide +kernel
theorem xor_lt {n x y : Nat} (hx : x < pw n) (hy : y < pw n) : x ^^^ y < pw n := Nat.xor_lt_two_pow hx hy
theorem i64_fit (n : Int) (h1 : -1000000000000 ≤ n) (h2 : n ≤ 1000000000000) : IntKind.i64.wrap n = n := by rw [IntWalk.i64_left]; exact wrap_in n h1 h2
/-- A row of numbers of the call's own: place i. -/
theorem mkI_at {w w' : World} {g n c : Nat} {L : List Int} (h : MkI w w' (some ⟨g, 0, none⟩) n c L) {i : Nat} (hi : i < n) : w'.cell? ⟨g, i, none⟩ = some (.int .i64 (L.getD i 0)) ∧ w'.frozen? ⟨g, i, none⟩ = false := by
  have hl : L.length = n := by have := h.2.len; rwa [ints_length] at this
  obtain ⟨g', o, e, hx, hc⟩ := Rd.int h.rd hi
  injection e with e; injection e with e1 e2 _
  subst e1; subst e2
  rw [Nat.zero_add] at hc
  exact ⟨by rw [hc, List.getD_eq_getElem?_getD, List.getElem?_eq_getElem hx]; rfl, h.2.frozen_ i⟩
/-- A function of two masks that tells whether their product is taken. -/
def Takes (f : FuncId) (t : Nat → Nat → Bool) : Prop := ∀ (a b : Nat) (w : World), a < 64 → b < 64 → Calls Tryz.prog f #[.int .i64 a, .int .i64 b] w fun e w' => e = .returned (.bool (t a b)) ∧ w = w'
set_option maxRecDepth 2000 in
set_option maxHeartbeats 3200000 in
theorem product_any (f : FuncId) (t : Nat → Nat → Bool) (hf : Takes f t) (hcf : ∀ (args : Array Value) (w : World), (callFunc f args).run Tryz.prog w = .ok (.enter f args) w)
    (P : Int) (A : Option Addr) (n c : Nat) (sq : List Int) (X : Option Addr) (cx : Nat) (xs : List Int) (Y : Option Addr) (cy : Nat) (ys : List Int) (w : World) (hp : 2 ≤ P) (hp2 : P ≤ 13) (hn : n ≤ 6)
    (ha : Rd w A n (ints sq)) (hs : NumsL P sq) (hx : Rd w X (pw n) (ints xs)) (hxs : NumsL P xs) (hy : Rd w Y (pw n) (ints ys)) (hys : NumsL P ys) :
    Calls Tryz.prog 306 #[.agg #[.int .i64 P, .slice A n c], .slice X (pw n) cx, .slice Y (pw n) cy, .func (.func f) #[] #[]] w fun e w' => ∃ A' c', e = .returned (.slice A' (pw n) c') ∧ MkI w w' A' (pw n) c' (prodL P sq t xs ys) := by
  have hxl : xs.length = pw n := by have := hx.1; rwa [ints_length] at this
  have hyl : ys.length = pw n := by have := hy.1; rwa [ints_length] at this
  have Hx := Lib.hid hxl; clear hxl
  have Hy := Lib.hid hyl; clear hyl
  have hpw : pw n ≤ 64 := pw_le hn
  go_enter Tryz.func306, Tryz.ntmps306
  go_wp2_with (go_at_call 199; refine (nothing_any _ _ _ _ _ (by omega)).mono ?_; rintro e w1 ⟨G, c1, rfl, hM1⟩)
  have hB0 : Below w.heap.size w (w.alloc (.cells #[.int .i64 P, .slice A n c] 26)) := (Below.refl _ w).alloc (Nat.le_refl _) _
  have hk0 : Blk w1 w.heap.size 26 #[.int .i64 P, .slice A n c] := (Blk.new w _ _).below hM1.b (by simp)
  have hpos := pw_pos n
  rcases hM1.2.form with ⟨_, h0⟩ | ⟨g, rfl, hg, _⟩
  · omega
  have hg' : w.heap.size + 1 ≤ g := by simpa using hg
  have hM := hM1.after hB0
  clear hM1 hB0 hg hpos
  go_loopw [10, 11, 18] (fun _ _ i wr => ∃ k : Nat, k ≤ pw n ∧ i = .int .i64 k ∧ MkI w wr (some ⟨g, 0, none⟩) (pw n) c1 (addRows P sq t xs ys (List.replicate (pw n) 0) k) ∧ Blk wr w.heap.size 26 #[.int .i64 P, .slice A n c]) (fun _ _ i _ => pw n - (intOf i).toNat)
  case atStart => exact ⟨0, by omega, rfl, by simpa [addRows] using hM, hk0⟩
  case round =>
    obtain ⟨k, hk, rfl, hM2, hk2⟩ := hrel
    clear hM hk0
    have hrx := hx.below hM2.b
    by_cases hlt : k < pw n
    · obtain ⟨gx, ox, hX, hxk, hcx⟩ := hrx.int hlt
      subst hX
      obtain ⟨x1, x2⟩ := hxs _ (List.getElem_mem hxk)
      clear hrx
      cases h0 : (xs[k] == 0)
      · have hxn : Hid (xs.getD k 0 = xs[k]) := Lib.hid (by rw [List.getD_eq_getElem?_getD, List.getElem?_eq_getElem hxk]; rfl)
        have hR0 : MkI w wr (some ⟨g, 0, none⟩) (pw n) c1 (addRow P sq t xs ys k (addRows P sq t xs ys (List.replicate (pw n) 0) k) 0) := by simpa [addRow] using hM2
        have hN0 : NumsL P (addRows P sq t xs ys (List.replicate (pw n) 0) k) := addRows_nums sq t xs ys k (by omega) (NumsL.replicate (by omega) _)
        obtain ⟨L0, hL0⟩ : ∃ L, L = addRows P sq t xs ys (List.replicate (pw n) 0) k := ⟨_, rfl⟩
        rw [← hL0] at hR0 hN0
        have HL0 := Lib.hid hL0
        clear hM2 hL0
        have hcw : w.cell? ⟨gx, ox + k, none⟩ = some (.int .i64 xs[k]) := by
          obtain ⟨g', o', e, hx', hc'⟩ := hx.int hlt
          injection e with e; injection e with e1 e2 _
          subst e1; subst e2; exact hc'
        have HCW := Lib.hid hcw
        clear hcw
        go_wp2
        clear hcx
        go_loopw [12, 13, 27] (fun _ _ i wr => ∃ j : Nat, j ≤ pw n ∧ i = .int .i64 j ∧ MkI w wr (some ⟨g, 0, none⟩) (pw n) c1 (addRow P sq t xs ys k L0 j) ∧ Blk wr w.heap.size 26 #[.int .i64 P, .slice A n c]) (fun _ _ i _ => pw n - (intOf i).toNat)
        case atStart => exact ⟨0, by omega, rfl, hR0, hk2⟩
        case round =>
          clear hR0 hk2
          obtain ⟨j, hj, rfl, hM3, hk3⟩ := hrel
          have hry := hy.below hM3.b
          by_cases hlj : j < pw n
          · obtain ⟨gy, oy, hY, hyj, hcy⟩ := hry.int hlj
            subst hY
            obtain ⟨y1, y2⟩ := hys _ (List.getElem_mem hyj)
            clear hry
            have hyn : Hid (ys.getD j 0 = ys[j]) := Lib.hid (by rw [List.getD_eq_getElem?_getD, List.getElem?_eq_getElem hyj]; rfl)
            cases h1 : (ys[j] != 0)
            · have hz : Hid (ys.getD j 0 = 0) := Lib.hid (by rw [hyn.out]; simpa using h1)
              go_wp2
              go_roundw
              case rel => exact ⟨j + 1, by omega, by go_num, by rw [addRow_succ]; unfold addPair; rw [if_neg (fun hh => hh.2.1 hz.out)]; exact hM3, hk3⟩
              case measure => simp [intOf]; omega
            · cases ht : t k j
              · have HT := Lib.hid ht; clear ht
                go_wp2_with fail
                refine (hf k j _ (by omega) (by omega)).mono ?_
                rintro e w' ⟨rfl, rfl⟩
                rw [HT.out]
                go_wp2
                go_roundw
                case rel => exact ⟨j + 1, by omega, by go_num, by rw [addRow_succ]; unfold addPair; rw [if_neg (fun hh => by rw [HT.out] at hh; exact absurd hh.2.2 (by decide))]; exact hM3, hk3⟩
                case measure => simp [intOf]; omega
              · have HT := Lib.hid ht; clear ht
                have hidx : k ^^^ j < pw n := xor_lt hlt hlj
                have hxo := xor_all k (by omega) j (by omega)
                have hvb := (addRow_nums sq t xs ys k j (by omega) hN0).getD (by omega) (k ^^^ j)
                obtain ⟨hoc, hof⟩ := mkI_at hM3.drew hidx
                obtain ⟨v0, hv0⟩ : ∃ v, v = (addRow P sq t xs ys k L0 j).getD (k ^^^ j) 0 := ⟨_, rfl⟩
                rw [← hv0] at hvb hoc
                obtain ⟨v1, v2⟩ := hvb
                have HV0 := Lib.hid hv0
                have hAt : Hid (∀ w', MkI w w' (some ⟨g, 0, none⟩) (pw n) c1 (addRow P sq t xs ys k L0 j) → w'.cell? ⟨g, k ^^^ j, none⟩ = some (.int .i64 v0) ∧ w'.frozen? ⟨g, k ^^^ j, none⟩ = false) :=
                  Lib.hid (fun w' h => by rw [HV0.out]; exact mkI_at h hidx)
                clear hv0
                obtain ⟨f1, f2⟩ := fac_bound P sq k j hp
                obtain ⟨m1, m2⟩ := mul_small x1 (show xs[k] ≤ 13 by omega) y1 (show ys[j] ≤ 13 by omega)
                obtain ⟨m3, m4⟩ := mul_small m1 (show xs[k] * ys[j] ≤ 169 by omega) f1 (show fac P sq k j ≤ 13 by omega)
                have HNE : Hid (g ≠ w.heap.size) := Lib.hid (by omega)
                have HP : Hid (0 < P) := Lib.hid (by omega)
                have hV : Hid (∀ w', Calls Tryz.prog 200 #[.int .i64 P, .int .i64 (v0 + xs[k] * ys[j] * fac P sq k j)] w' fun e w'' => e = .returned (.int .i64 ((v0 + xs[k] * ys[j] * fac P sq k j) % P)) ∧ w' = w'') :=
                  Lib.hid (fun w' => num_any P _ w' (by omega) hp2 (by omega) (by omega))
                have hF : Hid (∀ w', MkI w w' (some ⟨g, 0, none⟩) (pw n) c1 (addRow P sq t xs ys k L0 j) → Calls Tryz.prog 355 #[.agg #[.int .i64 P, .slice A n c], .int .i64 k, .int .i64 j] w' fun e w'' => e = .returned (.int .i64 (fac P sq k j)) ∧ Below w'.heap.size w' w'') :=
                  Lib.hid (fun w' h => factor_any P A n c sq k j w' hp hp2 hn (ha.below h.b) hs (by omega) (by omega))
                have W1 := i64_fit (xs[k] * ys[j]) (by omega) (by omega)
                have W2 := i64_fit (xs[k] * ys[j] * fac P sq k j) (by omega) (by omega)
                have W3 := i64_fit (v0 + xs[k] * ys[j] * fac P sq k j) (by omega) (by omega)
                obtain ⟨kc0, kc1⟩ := hk3.two
                go_wp2_with fail
                refine (hf k j _ (by omega) (by omega)).mono ?_
                rintro e w' ⟨rfl, rfl⟩
                rw [HT.out]
                have hO := hM3.drew
                have hk4 := hk3.drew
                have HPair : Hid (xs.getD k 0 ≠ 0 ∧ ys.getD j 0 ≠ 0 ∧ t k j = true) := Lib.hid ⟨by rw [hxn.out]; simpa using h0, by rw [hyn.out]; simpa using h1, HT.out⟩
                go_wp2
                have i1 : (0 : Int) ≤ ((k ^^^ j : Nat) : Int) := by omega
                have i2 : ((k ^^^ j : Nat) : Int) < ((pw n : Nat) : Int) := by omega
                refine wp_obs 23 [[], [], [], [1, 2], [], [4], [], [], [], [7, 8], [6, 7, 8, 9], [6, 7, 8, 9, 10], [], [], [12, 13], [], [], [], [15, 16, 17], [12, 13, 14, 15, 16, 17, 18], [6, 7, 8, 9, 10, 11, 12, 13, 14, 15, 16, 17, 18, 19], [4, 5, 6, 7, 8, 9, 10, 11, 12, 13, 14, 15, 16, 17, 18, 19, 20], [0, 1, 2, 3], [0, 1, 2, 3, 4, 5, 6, 7, 8, 9, 10, 11, 12, 13, 14, 15, 16, 17, 18, 19, 20, 21, 22]] [VIs (.slice (some ⟨g, 0, none⟩) (pw n) c1), VIs (.int .i64 (k)), VIs (.int .i64 (j)), VIs (.int .i64 ((k ^^^ j : Nat))), VIs (.agg #[.int .i64 P, .slice A n c]), VIs (.int .i64 (P)), VIs (.slice (some ⟨g, 0, none⟩) (pw n) c1), VIs (.int .i64 (k)), VIs (.int .i64 (j)), VIs (.int .i64 ((k ^^^ j : Nat))), VIs (.pointer (some ⟨g, k ^^^ j, none⟩)), VIs (.int .i64 (v0)), VIs (.int .i64 (xs[k])), VIs (.int .i64 (ys[j])), VIs (.int .i64 (xs[k] * ys[j])), VIs (.agg #[.int .i64 P, .slice A n c]), VIs (.int .i64 (k)), VIs (.int .i64 (j)), VIs (.int .i64 (fac P sq k j)), VIs (.int .i64 (xs[k] * ys[j] * fac P sq k j)), VIs (.int .i64 (v0 + xs[k] * ys[j] * fac P sq k j)), VIs (.int .i64 ((v0 + xs[k] * ys[j] * fac P sq k j) % P)), VIs (.pointer (some ⟨g, k ^^^ j, none⟩))] (fun w' => Blk w' w.heap.size 26 #[.int .i64 P, .slice A n c] ∧ MkI w w' (some ⟨g, 0, none⟩) (pw n) c1 (addRow P sq t xs ys k L0 j)) (by kernel_rfl) (by kernel_rfl) (fun _ _ h hb => ⟨h.1.below hb h.1.lt, h.2.below hb⟩) (⟨hk4, hO⟩) (fun x => ?_)
                refine obs_step (Eq.trans (by simp only [List.getElem?_toArray, List.getElem?_cons_zero]; exact rfl) rfl) rfl (fun w' hS hV K hK => ?_) ?_
                · obtain ⟨q0, q1⟩ := hS.1.two; obtain ⟨hoc, hof⟩ := hAt.out _ hS.2
                  go_simp
                  exact hK.out _ _ _ rfl rfl rfl (Below.refl _ _)
                simp only [List.setIfInBounds_toArray, List.set_cons_zero, List.set_cons_succ]
                refine obs_step (Eq.trans (by simp only [List.getElem?_toArray, List.getElem?_cons_succ, List.getElem?_cons_zero]; exact rfl) rfl) rfl (fun w' hS hV K hK => ?_) ?_
                · obtain ⟨q0, q1⟩ := hS.1.two; obtain ⟨hoc, hof⟩ := hAt.out _ hS.2
                  go_simp
                  exact hK.out _ _ _ rfl rfl rfl (Below.refl _ _)
                simp only [List.setIfInBounds_toArray, List.set_cons_zero, List.set_cons_succ]
                refine obs_step (Eq.trans (by simp only [List.getElem?_toArray, List.getElem?_cons_succ, List.getElem?_cons_zero]; exact rfl) rfl) rfl (fun w' hS hV K hK => ?_) ?_
                · obtain ⟨q0, q1⟩ := hS.1.two; obtain ⟨hoc, hof⟩ := hAt.out _ hS.2
                  go_simp
                  exact hK.out _ _ _ rfl rfl rfl (Below.refl _ _)
                simp only [List.setIfInBounds_toArray, List.set_cons_zero, List.set_cons_succ]
                refine obs_step (Eq.trans (by simp only [List.getElem?_toArray, List.getElem?_cons_succ, List.getElem?_cons_zero]; exact rfl) rfl) rfl (fun w' hS hV K hK => ?_) ?_
                · simp only [List.mem_cons, List.not_mem_nil, or_false, forall_eq_or_imp, forall_eq, List.getD_cons_succ, List.getD_cons_zero, VIs, VAny] at hV
                  obtain ⟨e1, e2⟩ := hV
                  obtain ⟨q0, q1⟩ := hS.1.two; obtain ⟨hoc, hof⟩ := hAt.out _ hS.2
                  go_simp
                  exact hK.out _ _ _ rfl rfl rfl (Below.refl _ _)
                simp only [List.setIfInBounds_toArray, List.set_cons_zero, List.set_cons_succ]
                refine obs_step (Eq.trans (by simp only [List.getElem?_toArray, List.getElem?_cons_succ, List.getElem?_cons_zero]; exact rfl) rfl) rfl (fun w' hS hV K hK => ?_) ?_
                · obtain ⟨q0, q1⟩ := hS.1.two; obtain ⟨hoc, hof⟩ := hAt.out _ hS.2
                  go_simp
                  exact hK.out _ _ _ rfl rfl rfl (Below.refl _ _)
                simp only [List.setIfInBounds_toArray, List.set_cons_zero, List.set_cons_succ]
                refine obs_step (Eq.trans (by simp only [List.getElem?_toArray, List.getElem?_cons_succ, List.getElem?_cons_zero]; exact rfl) rfl) rfl (fun w' hS hV K hK => ?_) ?_
                · simp only [List.mem_cons, List.not_mem_nil, or_false, forall_eq, List.getD_cons_succ, List.getD_cons_zero, VIs, VAny] at hV
                  obtain e4 := hV
                  obtain ⟨q0, q1⟩ := hS.1.two; obtain ⟨hoc, hof⟩ := hAt.out _ hS.2
                  go_simp
                  refine (field_any _ _ _ _ _).mono ?_
                  rintro e v1 ⟨rfl, hb⟩
                  exact hK.out _ _ _ rfl rfl rfl hb
                simp only [List.setIfInBounds_toArray, List.set_cons_zero, List.set_cons_succ]
                refine obs_step (Eq.trans (by simp only [List.getElem?_toArray, List.getElem?_cons_succ, List.getElem?_cons_zero]; exact rfl) rfl) rfl (fun w' hS hV K hK => ?_) ?_
                · obtain ⟨q0, q1⟩ := hS.1.two; obtain ⟨hoc, hof⟩ := hAt.out _ hS.2
                  go_simp
                  exact hK.out _ _ _ rfl rfl rfl (Below.refl _ _)
                simp only [List.setIfInBounds_toArray, List.set_cons_zero, List.set_cons_succ]
                refine obs_step (Eq.trans (by simp only [List.getElem?_toArray, List.getElem?_cons_succ, List.getElem?_cons_zero]; exact rfl) rfl) rfl (fun w' hS hV K hK => ?_) ?_
                · obtain ⟨q0, q1⟩ := hS.1.two; obtain ⟨hoc, hof⟩ := hAt.out _ hS.2
                  go_simp
                  exact hK.out _ _ _ rfl rfl rfl (Below.refl _ _)
                simp only [List.setIfInBounds_toArray, List.set_cons_zero, List.set_cons_succ]
                refine obs_step (Eq.trans (by simp only [List.getElem?_toArray, List.getElem?_cons_succ, List.getElem?_cons_zero]; exact rfl) rfl) rfl (fun w' hS hV K hK => ?_) ?_
                · obtain ⟨q0, q1⟩ := hS.1.two; obtain ⟨hoc, hof⟩ := hAt.out _ hS.2
                  go_simp
                  exact hK.out _ _ _ rfl rfl rfl (Below.refl _ _)
                simp only [List.setIfInBounds_toArray, List.set_cons_zero, List.set_cons_succ]
                refine obs_step (Eq.trans (by simp only [List.getElem?_toArray, List.getElem?_cons_succ, List.getElem?_cons_zero]; exact rfl) rfl) rfl (fun w' hS hV K hK => ?_) ?_
                · simp only [List.mem_cons, List.not_mem_nil, or_false, forall_eq_or_imp, forall_eq, List.getD_cons_succ, List.getD_cons_zero, VIs, VAny] at hV
                  obtain ⟨e7, e8⟩ := hV
                  obtain ⟨q0, q1⟩ := hS.1.two; obtain ⟨hoc, hof⟩ := hAt.out _ hS.2
                  go_simp
                  exact hK.out _ _ _ rfl rfl rfl (Below.refl _ _)
                simp only [List.setIfInBounds_toArray, List.set_cons_zero, List.set_cons_succ]
                refine obs_step (Eq.trans (by simp only [List.getElem?_toArray, List.getElem?_cons_succ, List.getElem?_cons_zero]; exact rfl) rfl) rfl (fun w' hS hV K hK => ?_) ?_
                · simp only [List.mem_cons, List.not_mem_nil, or_false, forall_eq_or_imp, forall_eq, List.getD_cons_succ, List.getD_cons_zero, VIs, VAny] at hV
                  obtain ⟨e6, e7, e8, e9⟩ := hV
                  obtain ⟨q0, q1⟩ := hS.1.two; obtain ⟨hoc, hof⟩ := hAt.out _ hS.2
                  go_simp
                  exact hK.out _ _ _ rfl rfl rfl (Below.refl _ _)
                simp only [List.setIfInBounds_toArray, List.set_cons_zero, List.set_cons_succ]
                refine obs_step (Eq.trans (by simp only [List.getElem?_toArray, List.getElem?_cons_succ, List.getElem?_cons_zero]; exact rfl) rfl) rfl (fun w' hS hV K hK => ?_) ?_
                · simp only [List.mem_cons, List.not_mem_nil, or_false, forall_eq_or_imp, forall_eq, List.getD_cons_succ, List.getD_cons_zero, VIs, VAny] at hV
                  obtain ⟨e6, e7, e8, e9, e10⟩ := hV
                  obtain ⟨q0, q1⟩ := hS.1.two; obtain ⟨hoc, hof⟩ := hAt.out _ hS.2
                  go_simp
                  exact hK.out _ _ _ rfl rfl rfl (Below.refl _ _)
                simp only [List.setIfInBounds_toArray, List.set_cons_zero, List.set_cons_succ]
                refine obs_step (Eq.trans (by simp only [List.getElem?_toArray, List.getElem?_cons_succ, List.getElem?_cons_zero]; exact rfl) rfl) rfl (fun w' hS hV K hK => ?_) ?_
                · obtain ⟨q0, q1⟩ := hS.1.two; obtain ⟨hoc, hof⟩ := hAt.out _ hS.2
                  go_simp
                  exact hK.out _ _ _ rfl rfl rfl (Below.refl _ _)
                simp only [List.setIfInBounds_toArray, List.set_cons_zero, List.set_cons_succ]
                refine obs_step (Eq.trans (by simp only [List.getElem?_toArray, List.getElem?_cons_succ, List.getElem?_cons_zero]; exact rfl) rfl) rfl (fun w' hS hV K hK => ?_) ?_
                · obtain ⟨q0, q1⟩ := hS.1.two; obtain ⟨hoc, hof⟩ := hAt.out _ hS.2
                  go_simp
                  exact hK.out _ _ _ rfl rfl rfl (Below.refl _ _)
                simp only [List.setIfInBounds_toArray, List.set_cons_zero, List.set_cons_succ]
                refine obs_step (Eq.trans (by simp only [List.getElem?_toArray, List.getElem?_cons_succ, List.getElem?_cons_zero]; exact rfl) rfl) rfl (fun w' hS hV K hK => ?_) ?_
                · simp only [List.mem_cons, List.not_mem_nil, or_false, forall_eq_or_imp, forall_eq, List.getD_cons_succ, List.getD_cons_zero, VIs, VAny] at hV
                  obtain ⟨e12, e13⟩ := hV
                  obtain ⟨q0, q1⟩ := hS.1.two; obtain ⟨hoc, hof⟩ := hAt.out _ hS.2
                  go_simp
                  exact hK.out _ _ _ rfl rfl rfl (Below.refl _ _)
                simp only [List.setIfInBounds_toArray, List.set_cons_zero, List.set_cons_succ]
                refine obs_step (Eq.trans (by simp only [List.getElem?_toArray, List.getElem?_cons_succ, List.getElem?_cons_zero]; exact rfl) rfl) rfl (fun w' hS hV K hK => ?_) ?_
                · obtain ⟨q0, q1⟩ := hS.1.two; obtain ⟨hoc, hof⟩ := hAt.out _ hS.2
                  go_simp
                  exact hK.out _ _ _ rfl rfl rfl (Below.refl _ _)
                simp only [List.setIfInBounds_toArray, List.set_cons_zero, List.set_cons_succ]
                refine obs_step (Eq.trans (by simp only [List.getElem?_toArray, List.getElem?_cons_succ, List.getElem?_cons_zero]; exact rfl) rfl) rfl (fun w' hS hV K hK => ?_) ?_
                · obtain ⟨q0, q1⟩ := hS.1.two; obtain ⟨hoc, hof⟩ := hAt.out _ hS.2
                  go_simp
                  exact hK.out _ _ _ rfl rfl rfl (Below.refl _ _)
                simp only [List.setIfInBounds_toArray, List.set_cons_zero, List.set_cons_succ]
                refine obs_step (Eq.trans (by simp only [List.getElem?_toArray, List.getElem?_cons_succ, List.getElem?_cons_zero]; exact rfl) rfl) rfl (fun w' hS hV K hK => ?_) ?_
                · obtain ⟨q0, q1⟩ := hS.1.two; obtain ⟨hoc, hof⟩ := hAt.out _ hS.2
                  go_simp
                  exact hK.out _ _ _ rfl rfl rfl (Below.refl _ _)
                simp only [List.setIfInBounds_toArray, List.set_cons_zero, List.set_cons_succ]
                refine obs_step (Eq.trans (by simp only [List.getElem?_toArray, List.getElem?_cons_succ, List.getElem?_cons_zero]; exact rfl) rfl) rfl (fun w' hS hV K hK => ?_) ?_
                · simp only [List.mem_cons, List.not_mem_nil, or_false, forall_eq_or_imp, forall_eq, List.getD_cons_succ, List.getD_cons_zero, VIs, VAny] at hV
                  obtain ⟨e15, e16, e17⟩ := hV
                  obtain ⟨q0, q1⟩ := hS.1.two; obtain ⟨hoc, hof⟩ := hAt.out _ hS.2
                  go_simp
                  refine (hF.out _ hS.2).mono ?_
                  rintro e v1 ⟨rfl, hb⟩
                  exact hK.out _ _ _ rfl rfl rfl hb
                simp only [List.setIfInBounds_toArray, List.set_cons_zero, List.set_cons_succ]
                refine obs_step (Eq.trans (by simp only [List.getElem?_toArray, List.getElem?_cons_succ, List.getElem?_cons_zero]; exact rfl) rfl) rfl (fun w' hS hV K hK => ?_) ?_
                · simp only [List.mem_cons, List.not_mem_nil, or_false, forall_eq_or_imp, forall_eq, List.getD_cons_succ, List.getD_cons_zero, VIs, VAny] at hV
                  obtain ⟨e12, e13, e14, e15, e16, e17, e18⟩ := hV
                  obtain ⟨q0, q1⟩ := hS.1.two; obtain ⟨hoc, hof⟩ := hAt.out _ hS.2
                  go_simp
                  exact hK.out _ _ _ rfl rfl rfl (Below.refl _ _)
                simp only [List.setIfInBounds_toArray, List.set_cons_zero, List.set_cons_succ]
                refine obs_step (Eq.trans (by simp only [List.getElem?_toArray, List.getElem?_cons_succ, List.getElem?_cons_zero]; exact rfl) rfl) rfl (fun w' hS hV K hK => ?_) ?_
                · simp only [List.mem_cons, List.not_mem_nil, or_false, forall_eq_or_imp, forall_eq, List.getD_cons_succ, List.getD_cons_zero, VIs, VAny] at hV
                  obtain ⟨e6, e7, e8, e9, e10, e11, e12, e13, e14, e15, e16, e17, e18, e19⟩ := hV
                  obtain ⟨q0, q1⟩ := hS.1.two; obtain ⟨hoc, hof⟩ := hAt.out _ hS.2
                  go_simp
                  exact hK.out _ _ _ rfl rfl rfl (Below.refl _ _)
                simp only [List.setIfInBounds_toArray, List.set_cons_zero, List.set_cons_succ]
                refine obs_step (Eq.trans (by simp only [List.getElem?_toArray, List.getElem?_cons_succ, List.getElem?_cons_zero]; exact rfl) rfl) rfl (fun w' hS hV K hK => ?_) ?_
                · simp only [List.mem_cons, List.not_mem_nil, or_false, forall_eq_or_imp, forall_eq, List.getD_cons_succ, List.getD_cons_zero, VIs, VAny] at hV
                  obtain ⟨e4, e5, e6, e7, e8, e9, e10, e11, e12, e13, e14, e15, e16, e17, e18, e19, e20⟩ := hV
                  obtain ⟨q0, q1⟩ := hS.1.two; obtain ⟨hoc, hof⟩ := hAt.out _ hS.2
                  go_simp
                  refine (hV.out _).mono ?_
                  rintro e v1 ⟨rfl, rfl⟩
                  exact hK.out _ _ _ rfl rfl rfl (Below.refl _ _)
                simp only [List.setIfInBounds_toArray, List.set_cons_zero, List.set_cons_succ]
                refine obs_step (Eq.trans (by simp only [List.getElem?_toArray, List.getElem?_cons_succ, List.getElem?_cons_zero]; exact rfl) rfl) rfl (fun w' hS hV K hK => ?_) ?_
                · simp only [List.mem_cons, List.not_mem_nil, or_false, forall_eq_or_imp, forall_eq, List.getD_cons_succ, List.getD_cons_zero, VIs, VAny] at hV
                  obtain ⟨e0, e1, e2, e3⟩ := hV
                  obtain ⟨q0, q1⟩ := hS.1.two; obtain ⟨hoc, hof⟩ := hAt.out _ hS.2
                  go_simp
                  exact hK.out _ _ _ rfl rfl rfl (Below.refl _ _)
                simp only [List.setIfInBounds_toArray, List.set_cons_zero, List.set_cons_succ]
                refine fun w' hS hV => ?_
                have hV := fun i hi => hV i (List.mem_range.1 hi)
                simp only [List.range, List.range.loop, List.mem_cons, List.not_mem_nil, or_false, forall_eq_or_imp, forall_eq, List.getD_cons_succ, List.getD_cons_zero, VIs, VAny] at hV
                obtain ⟨e0, e1, e2, e3, e4, e5, e6, e7, e8, e9, e10, e11, e12, e13, e14, e15, e16, e17, e18, e19, e20, e21, e22⟩ := hV
                simp only [e0, e1, e2, e3, e4, e5, e6, e7, e8, e9, e10, e11, e12, e13, e14, e15, e16, e17, e18, e19, e20, e21, e22]
                clear e0 e1 e2 e3 e4 e5 e6 e7 e8 e9 e10 e11 e12 e13 e14 e15 e16 e17 e18 e19 e20 e21 e22
                obtain ⟨hk4, hO⟩ := hS
                obtain ⟨hoc, hof⟩ := hAt.out _ hO
                refine any_one (j := 23) (by kernel_rfl) (Eq.trans (by simp only [List.getElem?_toArray, List.getElem?_cons_succ, List.getElem?_cons_zero]; exact rfl) rfl) (fun K hK => ?_)
                go_simp
                refine hK.out _ _ (wpAny_done (by kernel_rfl) ?_ _)
                have hset := (hO.set (k ^^^ j) (.int .i64 ((v0 + xs[k] * ys[j] * fac P sq k j) % P))).1
                rw [ints_set] at hset
                have hkn := hk4.far (p := ⟨g, k ^^^ j, none⟩) HNE.out.symm (.int .i64 ((v0 + xs[k] * ys[j] * fac P sq k j) % P))
                clear W1 W2 W3 hoc hof hO hk4
                go_wp2
                go_roundw
                case rel => exact ⟨j + 1, by omega, by go_num, by rw [addRow_succ]; unfold addPair; rw [if_pos HPair.out, ← HV0.out, hxn.out, hyn.out]; exact hset, hkn⟩
                case measure => simp [intOf]; omega
          · obtain rfl : j = pw n := by omega
            have HM := Lib.hid hM3
            clear hry hM3
            go_wp2
            go_roundw
            case rel => exact ⟨k + 1, by omega, by go_num, by rw [addRows_succ, Hy.out, ← HL0.out]; exact HM.out, hk3⟩
            case measure => simp [intOf]; omega
      · have hz : xs.getD k 0 = 0 := by rw [List.getD_eq_getElem?_getD, List.getElem?_eq_getElem hxk]; simpa using h0
        have HM := Lib.hid hM2
        clear hM2
        go_wp2
        go_roundw
        case rel => exact ⟨k + 1, by omega, by go_num, by rw [addRows_succ, addRow_zero _ _ _ _ _ _ _ _ hz]; exact HM.out, hk2⟩
        case measure => simp [intOf]; omega
    · obtain rfl : k = pw n := by omega
      go_wp2
      go_ret
      exact ⟨_, _, rfl, by unfold prodL; rw [Hx.out]; exact hM2⟩
end Go.Proofs.YtggigolkncckoaaGreat
namespace Go.Proofs.YtggigolkncckoaaGreat
open Go.RowKit
/-- The blade of a mask. -/
def bladeL (n m : Nat) : List Int := (List.replicate (pw n) 0).set m 1
theorem bladeL_len (n m : Nat) : (bladeL n m).length = pw n := by simp [bladeL]
theorem bladeL_nums {p : Int} (hp : 2 ≤ p) (n m : Nat) : NumsL p (bladeL n m) := (NumsL.replicate (by omega) _).set _ ⟨by omega, by omega⟩
set_option maxHeartbeats 400000 in
theorem blade_any (P : Int) (A : Option Addr) (n c : Nat) (m : Nat) (w : World) (hn : n ≤ 10) (hm : m < pw n) :
    Calls Tryz.prog 352 #[.agg #[.int .i64 P, .slice A n c], .int .i64 m] w fun e w' => ∃ A' c', e = .returned (.slice A' (pw n) c') ∧ MkI w w' A' (pw n) c' (bladeL n m) := by
  have hB0 : Below w.heap.size w (w.alloc (.cells #[.int .i64 P, .slice A n c] 26)) := (Below.refl _ w).alloc (Nat.le_refl _) _
  go_enter Tryz.func352, Tryz.ntmps352
  go_wp2_with (go_at_call 199; refine (nothing_any _ _ _ _ _ hn).mono ?_; rintro e w1 ⟨G, c1, rfl, hM1⟩; have hM := hM1.after hB0; rcases hM.2.form with ⟨_, h0⟩ | ⟨g, rfl, hg, _⟩; (omega); obtain ⟨u1, hc1⟩ := hM.2.cellI hm; have hf1 := hM.2.frozen_ m; have hset := (hM.set m (.int .i64 1)).1; rw [ints_set] at hset; have HS := Lib.hid hset; clear hM hM1 hset)
  go_ret
  exact ⟨_, _, rfl, HS.out⟩
set_option maxHeartbeats 400000 in
theorem one_any (P : Int) (A : Option Addr) (n c : Nat) (w : World) (hn : n ≤ 10) :
    Calls Tryz.prog 295 #[.agg #[.int .i64 P, .slice A n c]] w fun e w' => ∃ A' c', e = .returned (.slice A' (pw n) c') ∧ MkI w w' A' (pw n) c' (bladeL n 0) := by
  have hB0 : Below w.heap.size w (w.alloc (.cells #[.int .i64 P, .slice A n c] 26)) := (Below.refl _ w).alloc (Nat.le_refl _) _
  go_enter Tryz.func295, Tryz.ntmps295
  go_wp2_with (go_at_call 352; refine (blade_any P A n c 0 _ hn (pw_pos n)).mono ?_; rintro e w1 ⟨G, c1, rfl, hM1⟩)
  go_ret
  exact ⟨_, _, rfl, hM1.after hB0⟩
set_option maxHeartbeats 400000 in
theorem anyPair_takes : Takes 307 (fun _ _ => true) := by
  intro a b w h1 h2
  go_enter Tryz.func307, Tryz.ntmps307
  go_wp2
  go_ret
  exact ⟨rfl, rfl⟩
/-- The product of two multivectors. -/
def mulL (p : Int) (sq xs ys : List Int) : List Int := prodL p sq (fun _ _ => true) xs ys
/-- The product of several. -/
def timesL (p : Int) (sq : List Int) (n : Nat) (xss : List (List Int)) : List Int := xss.foldl (mulL p sq) (bladeL n 0)
set_option maxRecDepth 8000 in
set_option maxHeartbeats 1600000 in
theorem times_any (P : Int) (A : Option Addr) (n c : Nat) (sq : List Int) (X : Option Addr) (k cx : Nat) (xss : List (List Int)) (w : World) (hp : 2 ≤ P) (hp2 : P ≤ 13) (hn : n ≤ 6) (hk : k ≤ 1000)
    (ha : Rd w A n (ints sq)) (hs : NumsL P sq) (hx : RdII w X k xss) (hxs : ∀ xs ∈ xss, NumsL P xs ∧ xs.length = pw n) :
    Calls Tryz.prog 177 #[.agg #[.int .i64 P, .slice A n c], .slice X k cx] w fun e w' => ∃ A' c', e = .returned (.slice A' (pw n) c') ∧ MkI w w' A' (pw n) c' (timesL P sq n xss) := by
  have hxl := hx.len
  have Hx := Lib.hid hxl; clear hxl
  have hB0 : Below w.heap.size w (w.alloc (.cells #[.int .i64 P, .slice A n c] 26)) := (Below.refl _ w).alloc (Nat.le_refl _) _
  go_enter Tryz.func177, Tryz.ntmps177
  go_wp2_with (go_at_call 295; refine (one_any P A n c _ (by omega)).mono ?_; rintro e w1 ⟨G, c1, rfl, hM1⟩)
  have hk0 : Blk w1 w.heap.size 26 #[.int .i64 P, .slice A n c] := (Blk.new w _ _).below hM1.b (by simp)
  have hM := hM1.after hB0
  clear hM1 hB0
  go_loopw [5, 7, 12] (fun o _ i wr => ∃ (j : Nat) (G : Option Addr) (d : Nat), j ≤ k ∧ i = .int .i64 j ∧ o = .slice G (pw n) d ∧ MkI w wr G (pw n) d (timesL P sq n (xss.take j)) ∧ NumsL P (timesL P sq n (xss.take j)) ∧ Blk wr w.heap.size 26 #[.int .i64 P, .slice A n c]) (fun _ _ i _ => k - (intOf i).toNat)
  case atStart => exact ⟨0, _, _, by omega, rfl, rfl, by simpa [timesL] using hM, by simpa [timesL] using bladeL_nums hp n 0, hk0⟩
  case round =>
    obtain ⟨j, G, d, hj, rfl, rfl, hM2, hN2, hk2⟩ := hrel
    clear hM hk0
    have hL2 : (timesL P sq n (xss.take j)).length = pw n := by have := hM2.2.len; rwa [ints_length] at this
    by_cases hlt : j < k
    · obtain ⟨g, o, rfl, hxj, A', c', hcx, hr, _⟩ := (hx.below hM2.b).at_ hlt
      obtain ⟨hn1, hl1⟩ := hxs _ (List.getElem_mem hxj)
      rw [hl1] at hcx hr
      have hc1 := hk2.two
      obtain ⟨kc0, kc1⟩ := hc1
      have hcall := product_any 307 (fun _ _ => true) anyPair_takes (fun _ _ => rfl) P A n c sq G d _ A' c' _ wr hp hp2 hn (ha.below hM2.b) hs hM2.rd hN2 hr hn1
      have HC := Lib.hid hcall
      have HT : Hid (timesL P sq n (xss.take (j + 1)) = prodL P sq (fun _ _ => true) (timesL P sq n (xss.take j)) xss[j]) := Lib.hid (by unfold timesL; rw [List.take_succ_eq_append_getElem hxj, List.foldl_append]; rfl)
      have HN := Lib.hid (prodL_nums (p := P) sq (fun _ _ => true) (timesL P sq n (xss.take j)) xss[j] (by omega))
      have HB := Lib.hid hM2.b
      clear hcall hN2 hM2 hn1 hr hL2
      go_wp2_with (go_at_call 306; refine HC.out.mono ?_; rintro e w2 ⟨G2, d2, rfl, hM3⟩)
      have hk3 := hk2.below hM3.b hk2.lt
      go_roundw
      case rel => exact ⟨j + 1, G2, d2, by omega, by go_num, rfl, by rw [HT.out]; exact hM3.after HB.out, by rw [HT.out]; exact HN.out, hk3⟩
      case measure => simp [intOf]; omega
    · obtain rfl : j = k := by omega
      rw [List.take_of_length_le (by rw [Hx.out]; omega)] at hM2
      go_wp2
      go_ret
      exact ⟨_, _, rfl, hM2⟩
/-- A vector as a multivector: its first k places laid. -/
def vecTo (n : Nat) (v : List Int) (k : Nat) : List Int := (List.range k).foldl (fun o i => o.set (2 ^ i) (v.getD i 0)) (List.replicate (pw n) 0)
theorem vecTo_succ (n : Nat) (v : List Int) (k : Nat) : vecTo n v (k + 1) = (vecTo n v k).set (2 ^ k) (v.getD k 0) := by simp [vecTo, List.range_succ]
theorem vecTo_len (n : Nat) (v : List Int) (k : Nat) : (vecTo n v k).length = pw n := by
  induction k with
  | zero => simp [vecTo]
  | succ k ih => rw [vecTo_succ, List.length_set, ih]
theorem vecTo_nums {p : Int} (hp : 0 < p) (n : Nat) (v : List Int) (hv : NumsL p v) (k : Nat) : NumsL p (vecTo n v k) := by
  induction k with
  | zero => simpa [vecTo] using NumsL.replicate hp _
  | succ k ih => rw [vecTo_succ]; exact ih.set _ (hv.getD hp k)
theorem two_lt {n k : Nat} (h : k < n) : 2 ^ k < pw n := Nat.pow_lt_pow_right (by omega) h
end Go.Proofs.YtggigolkncckoaaGreat
namespace Go.Proofs.YtggigolkncckoaaGreat
open Go.RowKit
theorem isP_ge {p : Int} (h : isP p = true) : 3 ≤ p ∧ p ≤ 13 := by
  simp [isP] at h; omega
end Go.Proofs.YtggigolkncckoaaGreat
namespace Go.Proofs.YtggigolkncckoaaGreat
open Go.RowKit
/-- A number with the sign of s. -/
def sgn (p : Int) (s : Nat) (c : Int) : Int := if s % 2 = 1 then (-c) % p else c
theorem sgn_bound {p : Int} {s : Nat} {c : Int} (hp : 2 ≤ p) (h1 : 0 ≤ c) (h2 : c < p) : 0 ≤ sgn p s c ∧ sgn p s c < p := by
  unfold sgn
  split
  · exact emod_small _ _ (by omega)
  · exact ⟨h1, h2⟩
theorem fac_sgn (p : Int) (sq : List Int) (a b : Nat) : fac p sq a b = sgn p (swaps a b sq.length) (common p sq a b sq.length) := rfl
theorem sgn_flip {p : Int} {s : Nat} {c : Int} (k : Nat) (_hp : 2 ≤ p) (h1 : 0 ≤ c) (h2 : c < p) (hk : k % 2 = 1) : (p - sgn p s c) % p = sgn p (s + k) c := by
  unfold sgn
  by_cases hs : s % 2 = 1
  · rw [if_pos hs, if_neg (by omega)]
    have : (p - -c % p) % p = (p - -c) % p := by rw [Int.sub_emod, Int.emod_emod, ← Int.sub_emod]
    rw [this]
    have : p - -c = c + p := by omega
    rw [this, Int.add_emod_right]
    exact Int.emod_eq_of_lt h1 h2
  · rw [if_neg hs, if_pos (by omega)]
    have : p - c = -c + p := by omega
    rw [this, Int.add_emod_right]
theorem sgn_same {p : Int} {s : Nat} {c : Int} (k : Nat) (hk : ¬ k % 2 = 1) : sgn p (s + k) c = sgn p s c := by
  unfold sgn
  have : (s + k) % 2 = s % 2 := by omega
  rw [this]
theorem neg_mod (x p : Int) : (-(x % p)) % p = (-x) % p := by
  rw [← Int.zero_sub, Int.sub_emod, Int.emod_emod, ← Int.sub_emod, Int.zero_sub]
theorem mod_mul (x q p : Int) : x % p * q % p = x * q % p := by
  rw [Int.mul_emod, Int.emod_emod, ← Int.mul_emod]
theorem sgn_mul (p : Int) (s : Nat) (c q : Int) : sgn p s c * q % p = sgn p s (c * q % p) := by
  unfold sgn
  split
  · rw [mod_mul, neg_mod, Int.neg_mul]
  · rfl
theorem and_bit0 {x k : Nat} (hk : k < 6) (hx : x < 64) : (bits BinOp.and IntKind.i64 ((x : Int) / 2 ^ k) 1 == 0) = !(bit x k == 1) := by
  rw [and_bit hk hx]
  have := bit_lt x k
  rcases (by omega : bit x k = 0 ∨ bit x k = 1) with h | h <;> simp [h]
theorem xor_up_all : ∀ k : Nat, k < 6 → ∀ x : Nat, x < 64 → bits BinOp.xor IntKind.i64 (x : Int) (wrap64 (2 ^ k)) = ((x ^^^ 2 ^ k : Nat) : Int) ∧ (x ^^^ 2 ^ k) < 64 ∧ (x ^^^ 2 ^ k) / 2 ^ (k + 1) = x / 2 ^ (k + 1) := by decide +kernel
theorem shr_nat (x k : Nat) : (x : Int) / 2 ^ k = ((x / 2 ^ k : Nat) : Int) := by simp
theorem up_div {x y k : Nat} (h : x / 2 ^ k = y / 2 ^ k) : x / 2 ^ (k + 1) = y / 2 ^ (k + 1) := by
  rw [Nat.pow_succ, ← Nat.div_div_eq_div_mul, ← Nat.div_div_eq_div_mul, h]
theorem par0 {n : Nat} (h : ((n : Int) % 2 == 1) = false) : ¬ n % 2 = 1 := by
  intro hh
  have : (n : Int) % 2 = 1 := by omega
  rw [this] at h; simp at h
theorem par1 {n : Nat} (h : ((n : Int) % 2 == 1) = true) : n % 2 = 1 := by have := beq_iff_eq.1 h; omega
set_option maxRecDepth 2000 in
set_option maxHeartbeats 1600000 in
theorem l04Blades_any (P : Int) (A : Option Addr) (n c : Nat) (sq : List Int) (a b : Nat) (w : World) (hp : 2 ≤ P) (hp2 : P ≤ 13) (hn : n ≤ 6) (ha : Rd w A n (ints sq)) (hs : NumsL P sq) (h1 : a < 64) (h2 : b < 64) :
    Calls Tryz.prog 310 #[.agg #[.int .i64 P, .slice A n c], .int .i64 a, .int .i64 b] w fun e w' => e = .returned (.int .i64 (fac P sq a b)) ∧ Below w.heap.size w w' := by
  have hxl : sq.length = n := by have := ha.1; rwa [ints_length] at this
  have Hx := Lib.hid hxl; clear hxl
  go_enter Tryz.func310, Tryz.ntmps310
  go_wp2
  have hk0 := Blk.new w 26 #[.int .i64 P, .slice A n c]
  have hB1 : Below w.heap.size w (w.alloc (.cells #[.int .i64 P, .slice A n c] 26)) := (Below.refl _ w).alloc (Nat.le_refl _) _
  obtain ⟨w1, hw1⟩ : ∃ W, W = w.alloc (.cells #[.int .i64 P, .slice A n c] 26) := ⟨_, rfl⟩
  rw [← hw1] at hk0 hB1 ⊢
  have ha1 := ha.below hB1
  clear ha hw1
  go_loopw [1, 7, 8] (fun av out i wr => ∃ (k x : Nat), k ≤ n ∧ x < 64 ∧ x / 2 ^ k = a / 2 ^ k ∧ i = .int .i64 k ∧ av = .int .i64 x ∧ out = .int .i64 (sgn P (swaps a b k) (common P sq a b k)) ∧ Below w1.heap.size w1 wr) (fun _ _ i _ => n - (intOf i).toNat)
  case atStart => exact ⟨0, a, by omega, h1, rfl, rfl, rfl, rfl, Below.refl _ _⟩
  case round =>
    obtain ⟨k, x, hk, hx64, hxa, rfl, rfl, rfl, hM⟩ := hrel
    have hkr := hk0.below hM hk0.lt
    obtain ⟨kc0, kc1⟩ := hkr.two
    have har := ha1.below hM
    obtain ⟨cb1, cb2⟩ := common_bound P sq a b hp k
    obtain ⟨sb1, sb2⟩ := sgn_bound (s := swaps a b k) hp cb1 cb2
    by_cases hlt : k < n
    · have hb0 := and_bit0 (k := k) (by omega) h2
      by_cases hb : bit b k = 1
      · simp only [hb, beq_self_eq_true, Bool.not_true] at hb0
        have hxa2 := up_div hxa
        have hbx : bit x k = bit a k := by unfold bit; rw [hxa]
        have ha0 : (bits BinOp.and IntKind.i64 ((x : Int) / 2 ^ k) 1 == 1) = (bit a k == 1) := by
          rw [and_bit (by omega) hx64, hbx]
          have := bit_lt a k
          rcases (by omega : bit a k = 0 ∨ bit a k = 1) with h | h <;> simp [h]
        have hv := Lib.hid (shr_nat x (k + 1))
        obtain ⟨hxo, hxo2, hxo3⟩ := xor_up_all k (by omega) x hx64
        have hp6 : pc (a / 2 ^ (k + 1)) ≤ 6 := pc_le 6 _ (Nat.lt_of_le_of_lt (Nat.div_le_self _ _) (by omega))
        have hxl : x / 2 ^ (k + 1) < 64 := Nat.lt_of_le_of_lt (Nat.div_le_self _ _) hx64
        have HXL := Lib.hid hxl; clear hxl
        have HX2 := Lib.hid hxa2; have HXO := Lib.hid hxo; have HXO2 := Lib.hid hxo2; have HXO3 := Lib.hid hxo3; have HB := Lib.hid hb
        clear hxa2 hxo hxo2 hxo3 hbx hxa hb
        obtain ⟨g, o, rfl, hx, hcx⟩ := har.int hlt
        obtain ⟨sx1, sx2⟩ := hs _ (List.getElem_mem hx)
        have HG : Hid (sq.getD k 0 = sq[k]) := Lib.hid (by rw [List.getD_eq_getElem?_getD, List.getElem?_eq_getElem hx]; rfl)
        clear har ha1 hk0
        cases hpar : ((pc (a / 2 ^ (k + 1)) : Int) % 2 == 1)
        · have hpar' := Lib.hid (par0 hpar)
          cases hba : (bit a k == 1)
          · rw [hba] at ha0
            have hba' : Hid (¬ bit a k = 1) := Lib.hid (by simpa using hba)
            clear hba
            go_wp2_with (go_at_call 215; rw [hv.out]; refine (l04Grade_any _ _ HXL.out).mono ?_; rintro e w' ⟨rfl, rfl⟩; rw [HX2.out])
            go_roundw
            case rel => exact ⟨k + 1, x ^^^ 2 ^ k, by omega, HXO2.out, HXO3.out.trans HX2.out, by go_num, by rw [HXO.out], by simp only [swaps, if_pos HB.out, common, if_neg (fun hh : bit b k = 1 ∧ bit a k = 1 => hba'.out hh.2)]; rw [sgn_same _ hpar'.out], hM⟩
            case measure => simp [intOf]; omega
          · rw [hba] at ha0
            have hba' := Lib.hid (beq_iff_eq.1 hba)
            clear hba
            obtain ⟨m1, m2⟩ := mul_small sb1 (show sgn P (swaps a b k) (common P sq a b k) ≤ 13 by omega) sx1 (show sq[k] ≤ 13 by omega)
            go_wp2_with (go_at_call 215; rw [hv.out]; refine (l04Grade_any _ _ HXL.out).mono ?_; rintro e w' ⟨rfl, rfl⟩; rw [HX2.out])
            go_quiet (fail)
            go_wp2
            go_roundw
            case rel => exact ⟨k + 1, x ^^^ 2 ^ k, by omega, HXO2.out, HXO3.out.trans HX2.out, by go_num, by rw [HXO.out], by simp only [swaps, if_pos HB.out, common, if_pos (And.intro HB.out hba'.out)]; rw [sgn_same _ hpar'.out, HG.out, sgn_mul], below_drewN hM _⟩
            case measure => simp [intOf]; omega
        · have hpar' := par1 hpar
          have hfl := sgn_flip (s := swaps a b k) _ hp cb1 cb2 hpar'
          have HF := Lib.hid hfl
          obtain ⟨fb1, fb2⟩ := sgn_bound (s := swaps a b k + pc (a / 2 ^ (k + 1))) hp cb1 cb2
          clear hfl hpar'
          cases hba : (bit a k == 1)
          · rw [hba] at ha0
            have hba' : Hid (¬ bit a k = 1) := Lib.hid (by simpa using hba)
            clear hba
            go_wp2_with (go_at_call 215; rw [hv.out]; refine (l04Grade_any _ _ HXL.out).mono ?_; rintro e w' ⟨rfl, rfl⟩; rw [HX2.out])
            go_roundw
            case rel => exact ⟨k + 1, x ^^^ 2 ^ k, by omega, HXO2.out, HXO3.out.trans HX2.out, by go_num, by rw [HXO.out], by simp only [swaps, if_pos HB.out, common, if_neg (fun hh : bit b k = 1 ∧ bit a k = 1 => hba'.out hh.2)]; rw [HF.out], hM⟩
            case measure => simp [intOf]; omega
          · rw [hba] at ha0
            have hba' := Lib.hid (beq_iff_eq.1 hba)
            clear hba
            rw [← HF.out] at fb1 fb2
            obtain ⟨m1, m2⟩ := mul_small fb1 (show (P - sgn P (swaps a b k) (common P sq a b k)) % P ≤ 13 by omega) sx1 (show sq[k] ≤ 13 by omega)
            go_wp2_with (go_at_call 215; rw [hv.out]; refine (l04Grade_any _ _ HXL.out).mono ?_; rintro e w' ⟨rfl, rfl⟩; rw [HX2.out])
            go_quiet (fail)
            go_wp2
            go_roundw
            case rel => exact ⟨k + 1, x ^^^ 2 ^ k, by omega, HXO2.out, HXO3.out.trans HX2.out, by go_num, by rw [HXO.out], by simp only [swaps, if_pos HB.out, common, if_pos (And.intro HB.out hba'.out)]; rw [show -sgn P (swaps a b k) (common P sq a b k) % P = (P - sgn P (swaps a b k) (common P sq a b k)) % P by rw [show P - sgn P (swaps a b k) (common P sq a b k) = -sgn P (swaps a b k) (common P sq a b k) + P by omega, Int.add_emod_right], wrap_in _ (by omega) (by omega), Int.tmod_eq_emod_of_nonneg m1, HF.out, HG.out, sgn_mul], below_drewN hM _⟩
            case measure => simp [intOf]; omega
      · simp only [(by simpa using hb : (bit b k == 1) = false), Bool.not_false] at hb0
        have hb' := Lib.hid hb
        go_wp2
        go_roundw
        case rel => exact ⟨k + 1, x, by omega, hx64, up_div hxa, by go_num, rfl, by simp only [swaps, if_neg hb'.out, common, if_neg (fun hh : bit b k = 1 ∧ bit a k = 1 => hb'.out hh.1)]; rfl, hM⟩
        case measure => simp [intOf]; omega
    · obtain rfl : k = n := by omega
      have hBB : Below w.heap.size w wr := hB1.trans (hM.mono hB1.size)
      clear har ha1
      go_wp2
      go_ret
      exact ⟨ret_int (by rw [fac_sgn, Hx.out]), hBB⟩
end Go.Proofs.YtggigolkncckoaaGreat

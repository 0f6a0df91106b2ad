/-
  The new desk, of the program and of the reference.
-/
import Derived.Test.YtnlfaaooocoicaaUnit
import Derived.Test.YtnlfaaooocoicaaStruct
import Derived.Deep.MidRow
namespace Go.Proofs.Ytnlfaaooocoicaa
open Go.RowKit

/-- A desk's value. -/
abbrev deskV (P : Int) (A : Option Addr) (n c : Nat) (B : Option Addr) (m d : Nat) (Q : Int) (C : Option Addr) (k e : Nat) (D : Option Addr) (l f : Nat) : Value :=
  .agg #[.int .i64 P, .slice A n c, .slice B m d, .int .i64 Q, .slice C k e, .slice D l f]

set_option maxHeartbeats 800000 in
theorem l20New_any (w : World) :
    Calls Try.prog 14 #[] w fun e w' => ∃ (g : Nat), e = .returned (.agg #[.int .i64 5, .slice (some ⟨g, 0, none⟩) 2 2, .slice (some ⟨g + 1, 0, none⟩) 4 4, .int .i64 5, .slice (some ⟨g + 2, 0, none⟩) 2 2, .slice (some ⟨g + 3, 0, none⟩) 4 4]) ∧
      MkI w w' (some ⟨g, 0, none⟩) 2 2 [1, 1] ∧ MkI w w' (some ⟨g + 1, 0, none⟩) 4 4 [0, 0, 0, 0] ∧ MkI w w' (some ⟨g + 2, 0, none⟩) 2 2 [4, 4] ∧ MkI w w' (some ⟨g + 3, 0, none⟩) 4 4 [1, 0, 0, 0] := by
  go_enter Try.func14, Try.ntmps14
  go_wp2
  have hB : ∀ o1 o2 o3 o4 o5, Below w.heap.size w (((((w.alloc o1).alloc o2).alloc o3).alloc o4).alloc o5) := fun o1 o2 o3 o4 o5 =>
    (((((Below.refl _ _).alloc (Nat.le_refl _) o1).alloc (by simp) o2).alloc (by simp; omega) o3).alloc (by simp; omega) o4).alloc (by simp; omega) o5
  refine bodyPost_ret (v := .agg #[.int .i64 5, .slice (some ⟨w.heap.size + 1, 0, none⟩) 2 2, .slice (some ⟨w.heap.size + 1 + 1, 0, none⟩) 4 4, .int .i64 5, .slice (some ⟨w.heap.size + 1 + 1 + 1, 0, none⟩) 2 2, .slice (some ⟨w.heap.size + 1 + 1 + 1 + 1, 0, none⟩) 4 4])
    (by simp [results, Try.results14, go_sem]) rfl ⟨w.heap.size + 1, rfl, ?_, ?_, ?_, ?_⟩
  · exact Mk.of_cells (cs := #[.int .i64 1, .int .i64 1]) (hB _ _ _ _ _) (by omega) (heap_past _ _ _ _ (heap_past _ _ _ _ (heap_past _ _ _ _ (heap_lit _ _ _ (by simp))))) (by simp [maxLen])
  · exact Mk.of_cells (cs := #[.int .i64 0, .int .i64 0, .int .i64 0, .int .i64 0]) (hB _ _ _ _ _) (by omega) (heap_past _ _ _ _ (heap_past _ _ _ _ (heap_lit _ _ _ (by simp)))) (by simp [maxLen])
  · exact Mk.of_cells (cs := #[.int .i64 4, .int .i64 4]) (hB _ _ _ _ _) (by omega) (heap_past _ _ _ _ (heap_lit _ _ _ (by simp))) (by simp [maxLen])
  · exact Mk.of_cells (cs := #[.int .i64 1, .int .i64 0, .int .i64 0, .int .i64 0]) (hB _ _ _ _ _) (by omega) (heap_lit _ _ _ (by simp)) (by simp [maxLen])

/-- The new desk's own six cells. -/
def newBox (w' : World) (b : Nat) : Prop := w'.heap[b]? = some (.cells #[.int .i64 0, .slice none 0 0, .slice none 0 0, .int .i64 0, .slice none 0 0, .slice none 0 0] 28 (0, 0))
/-- The heap of the new desk before its parts are made. -/
abbrev newW (w : World) : World := ((((w.alloc (.cells #[.int .i64 0, .slice none 0 0, .slice none 0 0, .int .i64 0, .slice none 0 0, .slice none 0 0] 28)).alloc (.cells #[.int .i64 1, .int .i64 1] 2)).alloc (.cells #[.int .i64 4, .int .i64 4] 2)).alloc
  (.cells #[.int .i64 5, .slice (some ⟨w.heap.size + 1, 0, none⟩) 2 2] 24)).alloc (.cells #[.int .i64 5, .slice (some ⟨w.heap.size + 1 + 1, 0, none⟩) 2 2] 26)

theorem newW_size (w : World) : (newW w).heap.size = w.heap.size + 5 := by simp [newW]
theorem newW_below (w : World) : Below w.heap.size w (newW w) :=
  (((((Below.refl _ _).alloc (Nat.le_refl _) _).alloc (by simp) _).alloc (by simp; omega) _).alloc (by simp; omega) _).alloc (by simp; omega) _
theorem newW_box (w : World) : newBox (newW w) w.heap.size := heap_past _ _ _ _ (heap_past _ _ _ _ (heap_past _ _ _ _ (heap_past _ _ _ _ (heap_lit _ _ _ rfl))))
theorem newW_11 (w : World) : (newW w).heap[w.heap.size + 1]? = some (.cells #[.int .i64 1, .int .i64 1] 2 (0, 0)) := heap_past _ _ _ _ (heap_past _ _ _ _ (heap_past _ _ _ _ (heap_lit _ _ _ (by simp))))
theorem newW_44 (w : World) : (newW w).heap[w.heap.size + 1 + 1]? = some (.cells #[.int .i64 4, .int .i64 4] 2 (0, 0)) := heap_past _ _ _ _ (heap_past _ _ _ _ (heap_lit _ _ _ (by simp)))

theorem newBox_after (w : World) {w1 w2 : World} (h1 : Below (newW w).drew.heap.size (newW w).drew w1) (h2 : Below w1.heap.size w1 w2) : newBox w2 w.heap.size := by
  have hs := newW_size w
  have h1s := h1.size
  have e : (newW w).drew.heap.size = (newW w).heap.size := rfl
  exact heap_below h2 (by omega) (heap_below h1 (by omega) (newW_box w))
theorem newBox.there {w' : World} {b : Nat} (h : newBox w' b) : w'.there b 0 6 := fun j hj => by
  unfold newBox at h
  refine ⟨?_, by simp [World.frozen?, h]⟩
  rw [cell_of_row w' b _ _ _ _ h]
  simpa using hj

theorem keepC4_set {w2 : World} {b c d : Nat} {u v x y : Value} {vs : List Value} (h : w2.cell? ⟨c, 0, none⟩ = some u ∧ w2.cell? ⟨c, 1, none⟩ = some v ∧ w2.cell? ⟨d, 0, none⟩ = some x ∧ w2.cell? ⟨d, 1, none⟩ = some y) (hc : c ≠ b) (hd : d ≠ b) :
    (w2.setCells b 0 vs).cell? ⟨c, 0, none⟩ = some u ∧ (w2.setCells b 0 vs).cell? ⟨c, 1, none⟩ = some v ∧ (w2.setCells b 0 vs).cell? ⟨d, 0, none⟩ = some x ∧ (w2.setCells b 0 vs).cell? ⟨d, 1, none⟩ = some y :=
  ⟨(World.cell?_setCells_out b vs 0 w2 _ (fun e => absurd e hc)).trans h.1, (World.cell?_setCells_out b vs 0 w2 _ (fun e => absurd e hc)).trans h.2.1, (World.cell?_setCells_out b vs 0 w2 _ (fun e => absurd e hd)).trans h.2.2.1, (World.cell?_setCells_out b vs 0 w2 _ (fun e => absurd e hd)).trans h.2.2.2⟩

/-- The six values of the new desk. -/
abbrev newCs (w : World) (B : Option Addr) (d : Nat) (D : Option Addr) (f : Nat) : List Value := [.int .i64 5, .slice (some ⟨w.heap.size + 1, 0, none⟩) 2 2, .slice B 4 d, .int .i64 5, .slice (some ⟨w.heap.size + 1 + 1, 0, none⟩) 2 2, .slice D 4 f]
theorem new_load (w : World) {w1 w2 : World} {B : Option Addr} {d : Nat} {D : Option Addr} {f : Nat} (h1 : Below (newW w).drew.heap.size (newW w).drew w1) (h2 : Below w1.heap.size w1 w2) :
    (loadVar 28 ⟨w.heap.size, 0, none⟩).run Try.prog (w2.setCells w.heap.size 0 (newCs w B d D f)) = .ok (.agg (newCs w B d D f).toArray) (w2.setCells w.heap.size 0 (newCs w B d D f)) :=
  run_loadVar_mid (P := Try.prog) _ w.heap.size 0 28 _ _ (World.rangeAt_setCells_same w2 w.heap.size 0 _ (newBox_after w h1 h2).there) Try.underlying28 rfl (by kernel_rfl)
theorem new_own (w : World) {w1 w2 : World} {B : Option Addr} {d : Nat} {D : Option Addr} {f : Nat} (h1 : MkI (newW w).drew w1 B 4 d [0, 0, 0, 0]) (h2 : MkI w1 w2 D 4 f [1, 0, 0, 0]) (vs : List Value) :
    MkI w (w2.setCells w.heap.size 0 vs) (some ⟨w.heap.size + 1, 0, none⟩) 2 2 [1, 1] ∧ MkI w (w2.setCells w.heap.size 0 vs) B 4 d [0, 0, 0, 0] ∧
    MkI w (w2.setCells w.heap.size 0 vs) (some ⟨w.heap.size + 1 + 1, 0, none⟩) 2 2 [4, 4] ∧ MkI w (w2.setCells w.heap.size 0 vs) D 4 f [1, 0, 0, 0] := by
  have hs := newW_size w
  have e0 : (newW w).drew.heap.size = (newW w).heap.size := rfl
  have hs1 := h1.b.size
  have hB2 : Below w.heap.size w w2 := ((newW_below w).drew.trans (h1.b.mono (by omega))).trans (h2.b.mono (by omega))
  have hB := below_setCells (b := w.heap.size) (Nat.le_refl _) vs 0 w2 hB2
  have k1 : w2.heap[w.heap.size + 1]? = some (.cells #[.int .i64 1, .int .i64 1] 2 (0, 0)) := heap_below h2.b (by omega) (heap_below h1.b (by omega) (newW_11 w))
  have k2 : w2.heap[w.heap.size + 1 + 1]? = some (.cells #[.int .i64 4, .int .i64 4] 2 (0, 0)) := heap_below h2.b (by omega) (heap_below h1.b (by omega) (newW_44 w))
  have o1 : Own w2 (w.heap.size + 1) 2 (some ⟨w.heap.size + 1, 0, none⟩) 2 2 (ints [1, 1]) := (Own.of_cells (cs := #[.int .i64 1, .int .i64 1]) (Nat.le_refl _) k1 (by simp [maxLen]))
  have o2 : Own w2 (w.heap.size + 1) 2 (some ⟨w.heap.size + 1 + 1, 0, none⟩) 2 2 (ints [4, 4]) := (Own.of_cells (cs := #[.int .i64 4, .int .i64 4]) (by omega) k2 (by simp [maxLen]))
  have o3 : Own w2 (w.heap.size + 1) 2 B 4 d (ints [0, 0, 0, 0]) := (h1.2.below h2.b).base (by omega)
  have o4 : Own w2 (w.heap.size + 1) 2 D 4 f (ints [1, 0, 0, 0]) := h2.2.base (by omega)
  exact ⟨⟨hB, (o1.setCells (by omega) vs 0 w2).base (by omega)⟩, ⟨hB, (o3.setCells (by omega) vs 0 w2).base (by omega)⟩, ⟨hB, (o2.setCells (by omega) vs 0 w2).base (by omega)⟩, ⟨hB, (o4.setCells (by omega) vs 0 w2).base (by omega)⟩⟩

theorem apart_lit {g n c B : Nat} {E : TypeId} {A : Option Addr} {m d : Nat} {us : List Value} {w : World} (h : Own w B E A m d us) (hg : g < B) : Apart (.slice (some ⟨g, 0, none⟩) n c) (.slice A m d) := fun k h1 h2 => by
  have b := (World.ownsRow.lt h k h2).1
  simp [Value.ownBlock] at h1
  omega
theorem new_apart (w : World) {w1 w2 : World} {B : Option Addr} {d : Nat} {D : Option Addr} {f : Nat} (h1 : MkI (newW w).drew w1 B 4 d [0, 0, 0, 0]) (h2 : MkI w1 w2 D 4 f [1, 0, 0, 0]) :
    Apart (.slice (some ⟨w.heap.size + 1, 0, none⟩) 2 2) (.slice B 4 d) ∧ Apart (.slice (some ⟨w.heap.size + 1 + 1, 0, none⟩) 2 2) (.slice B 4 d) ∧ Apart (.slice (some ⟨w.heap.size + 1, 0, none⟩) 2 2) (.slice D 4 f) ∧ Apart (.slice (some ⟨w.heap.size + 1 + 1, 0, none⟩) 2 2) (.slice D 4 f) ∧ Apart (.slice B 4 d) (.slice D 4 f) := by
  have hs := newW_size w
  have e0 : (newW w).drew.heap.size = (newW w).heap.size := rfl
  have hs1 := h1.b.size
  exact ⟨apart_lit h1.2 (by omega), apart_lit h1.2 (by omega), apart_lit h2.2 (by omega), apart_lit h2.2 (by omega), h1.2.apart h2.2⟩

theorem newW_s (w : World) : (newW w).drew.cell? ⟨w.heap.size + 1 + 1 + 1, 0, none⟩ = some (.int .i64 5) ∧ (newW w).drew.cell? ⟨w.heap.size + 1 + 1 + 1, 1, none⟩ = some (.slice (some ⟨w.heap.size + 1, 0, none⟩) 2 2) ∧
      (newW w).drew.cell? ⟨w.heap.size + 1 + 1 + 1 + 1, 0, none⟩ = some (.int .i64 5) ∧ (newW w).drew.cell? ⟨w.heap.size + 1 + 1 + 1 + 1, 1, none⟩ = some (.slice (some ⟨w.heap.size + 1 + 1, 0, none⟩) 2 2) := by
  have h1 : (newW w).heap[w.heap.size + 1 + 1 + 1]? = some (.cells #[.int .i64 5, .slice (some ⟨w.heap.size + 1, 0, none⟩) 2 2] 24 (0, 0)) := heap_past _ _ _ _ (heap_lit _ _ _ (by simp))
  have h2 : (newW w).heap[w.heap.size + 1 + 1 + 1 + 1]? = some (.cells #[.int .i64 5, .slice (some ⟨w.heap.size + 1 + 1, 0, none⟩) 2 2] 26 (0, 0)) := heap_lit _ _ _ (by simp)
  exact ⟨cell_of_row (newW w) _ 0 _ _ _ h1, cell_of_row (newW w) _ 1 _ _ _ h1, cell_of_row (newW w) _ 0 _ _ _ h2, cell_of_row (newW w) _ 1 _ _ _ h2⟩

set_option maxHeartbeats 300000 in
theorem NewDesk_any (w : World) :
    Calls Try.prog 6 #[] w fun e w' => ∃ (g : Nat) (B : Option Addr) (d : Nat) (D : Option Addr) (f : Nat), e = .returned (.agg #[.int .i64 5, .slice (some ⟨g, 0, none⟩) 2 2, .slice B 4 d, .int .i64 5, .slice (some ⟨g + 1, 0, none⟩) 2 2, .slice D 4 f]) ∧
      MkI w w' (some ⟨g, 0, none⟩) 2 2 [1, 1] ∧ MkI w w' B 4 d [0, 0, 0, 0] ∧ MkI w w' (some ⟨g + 1, 0, none⟩) 2 2 [4, 4] ∧ MkI w w' D 4 f [1, 0, 0, 0] ∧
      Apart (.slice (some ⟨g, 0, none⟩) 2 2) (.slice B 4 d) ∧ Apart (.slice (some ⟨g + 1, 0, none⟩) 2 2) (.slice B 4 d) ∧ Apart (.slice (some ⟨g, 0, none⟩) 2 2) (.slice D 4 f) ∧ Apart (.slice (some ⟨g + 1, 0, none⟩) 2 2) (.slice D 4 f) ∧ Apart (.slice B 4 d) (.slice D 4 f) := by
  go_enter Try.func6, Try.ntmps6
  go_wp2
  refine wp_region_held_drew (S := fun w' => w'.cell? ⟨w.heap.size + 1 + 1 + 1, 0, none⟩ = some (.int .i64 5) ∧ w'.cell? ⟨w.heap.size + 1 + 1 + 1, 1, none⟩ = some (.slice (some ⟨w.heap.size + 1, 0, none⟩) 2 2) ∧ w'.cell? ⟨w.heap.size + 1 + 1 + 1 + 1, 0, none⟩ = some (.int .i64 5) ∧ w'.cell? ⟨w.heap.size + 1 + 1 + 1 + 1, 1, none⟩ = some (.slice (some ⟨w.heap.size + 1 + 1, 0, none⟩) 2 2)) (by kernel_rfl) (newW_s w) (fun hHeld => ?_)
  refine wpAnyH_take (i := 0) (v := ?_) rfl (by kernel_rfl) (by kernel_rfl) (by kernel_rfl) (fun _ _ _ h => h) (Or.inl ⟨by rfl, ?_⟩) hHeld ?_
  rotate_left
  · intro w hSw; (try dsimp only at hSw); go_simp; try with_reducible rfl
  try simp only [Act.put, List.setIfInBounds_toArray, List.set_cons_zero, List.set_cons_succ]
  refine wpAnyH_take (i := 1) (v := ?_) rfl (by kernel_rfl) (by kernel_rfl) (by kernel_rfl) (fun _ _ _ h => h) (Or.inl ⟨by rfl, ?_⟩) hHeld ?_
  rotate_left
  · intro w hSw; (try dsimp only at hSw); go_simp; try with_reducible rfl
  try simp only [Act.put, List.setIfInBounds_toArray, List.set_cons_zero, List.set_cons_succ]
  refine wpAnyH_take (i := 3) (v := ?_) rfl (by kernel_rfl) (by kernel_rfl) (by kernel_rfl) (fun _ _ _ h => h) (Or.inl ⟨by rfl, ?_⟩) hHeld ?_
  rotate_left
  · intro w hSw; (try dsimp only at hSw); go_simp; try with_reducible rfl
  try simp only [Act.put, List.setIfInBounds_toArray, List.set_cons_zero, List.set_cons_succ]
  refine wpAnyH_take (i := 4) (v := ?_) rfl (by kernel_rfl) (by kernel_rfl) (by kernel_rfl) (fun _ _ _ h => h) (Or.inl ⟨by rfl, ?_⟩) hHeld ?_
  rotate_left
  · intro w hSw; (try dsimp only at hSw); go_simp; try with_reducible rfl
  try simp only [Act.put, List.setIfInBounds_toArray, List.set_cons_zero, List.set_cons_succ]
  refine wpAnyH_ready (rs := [2]) (by kernel_rfl) (by simp) (AllReadyH.cons rfl (fun K hK => ?_) AllReadyH.nil)
  go_simp
  refine (nothing_any _ _ _ _ _ (by omega)).mono ?_
  rintro e w1 ⟨B, d, rfl, hM1⟩
  refine hK.out _ _ (keepC4 hHeld hM1.b) (fun hHeld => ?_)
  clear hK K
  try simp only [Act.put, List.setIfInBounds_toArray, List.set_cons_zero, List.set_cons_succ]
  refine wpAnyH_ready (rs := [5]) (by kernel_rfl) (by simp) (AllReadyH.cons rfl (fun K hK => ?_) AllReadyH.nil)
  go_simp
  refine (element0_any _ _ _ _ _ (by omega)).mono ?_
  rintro e w2 ⟨D, f, rfl, hM2⟩
  refine hK.out _ _ (keepC4 hHeld hM2.b) (fun hHeld => ?_)
  clear hK K
  try simp only [Act.put, List.setIfInBounds_toArray, List.set_cons_zero, List.set_cons_succ]
  refine wpAnyH_take (i := 6) (v := ?_) rfl (by kernel_rfl) (by kernel_rfl) (by kernel_rfl) (fun _ _ _ h => h) (Or.inl ⟨by rfl, ?_⟩) hHeld ?_
  rotate_left
  · intro w hSw; (try dsimp only at hSw); go_simp; try with_reducible rfl
  try simp only [Act.put, List.setIfInBounds_toArray, List.set_cons_zero, List.set_cons_succ]
  refine wpAnyH_ready (rs := [7]) (by kernel_rfl) (by simp) (AllReadyH.cons rfl (fun K hK => ?_) AllReadyH.nil)
  rw [if_pos (by rfl)]
  refine wp_store_mid 28 _ _ rfl w.heap.size 0 #[.int .i64 5, .slice (some ⟨w.heap.size + 1, 0, none⟩) 2 2, .slice B 4 d, .int .i64 5, .slice (some ⟨w.heap.size + 1 + 1, 0, none⟩) 2 2, .slice D 4 f] rfl rfl (newBox_after w hM1.b hM2.b).there (by kernel_rfl) (by simp [Value.oneCell']) ?_
  refine hK.out _ _ (keepC4_set hHeld (by omega) (by omega)) (fun hHeld => ?_)
  clear hK K
  try simp only [Act.put, List.setIfInBounds_toArray, List.set_cons_zero, List.set_cons_succ]
  refine wpAnyH_done (by kernel_rfl) ?_ _
  go_wp2
  have hR := new_load w (B := B) (d := d) (D := D) (f := f) hM1.b hM2.b
  obtain ⟨o1, o2, o3, o4⟩ := new_own w hM1 hM2 (newCs w B d D f)
  obtain ⟨a1, a2, a3, a4, a5⟩ := new_apart w hM1 hM2
  clear hHeld hM1 hM2
  refine bodyPost_ret (v := .agg (newCs w B d D f).toArray) (results_cell rfl _ _ rfl hR) rfl ⟨w.heap.size + 1, B, d, D, f, rfl, o1, o2, o3, o4, a1, a2, a3, a4, a5⟩

end Go.Proofs.Ytnlfaaooocoicaa

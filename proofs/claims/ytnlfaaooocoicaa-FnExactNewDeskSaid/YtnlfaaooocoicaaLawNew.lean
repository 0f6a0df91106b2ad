/-
  FnExactNewDesk: for every start the law returns true. No condition.
-/
import Derived.Test.YtnlfaaooocoicaaNew
import Derived.Test.YtnlfaaooocoicaaDesk
import Derived.Test.YtnlfaaooocoicaaPost
import Derived.ProofKit
import Derived.OpenShut
namespace Go.Proofs.Ytnlfaaooocoicaa
open Go.ChangeShapes Go.WideShapes Go.ChangeAt Go.RowKit

set_option maxHeartbeats 800000 in
theorem specNewDesk_any (w : World) :
    Calls Try.prog 5 #[] w fun e w' => ∃ (g : Nat), e = .returned (.agg #[.int .i64 5, .slice (some ⟨g, 0, none⟩) 2 2, .slice (some ⟨g + 1, 0, none⟩) 4 4, .int .i64 5, .slice (some ⟨g + 2, 0, none⟩) 2 2, .slice (some ⟨g + 3, 0, none⟩) 4 4]) ∧
      MkI w w' (some ⟨g, 0, none⟩) 2 2 [1, 1] ∧ MkI w w' (some ⟨g + 1, 0, none⟩) 4 4 [0, 0, 0, 0] ∧ MkI w w' (some ⟨g + 2, 0, none⟩) 2 2 [4, 4] ∧ MkI w w' (some ⟨g + 3, 0, none⟩) 4 4 [1, 0, 0, 0] := by
  have hB0 : Below w.heap.size w (w.alloc (.cells #[.int .i64 0, .slice none 0 0, .slice none 0 0, .int .i64 0, .slice none 0 0, .slice none 0 0] 28)) := (Below.refl _ _).alloc (Nat.le_refl _) _
  have k0 : Blk (w.alloc (.cells #[.int .i64 0, .slice none 0 0, .slice none 0 0, .int .i64 0, .slice none 0 0, .slice none 0 0] 28)) w.heap.size 28 #[.int .i64 0, .slice none 0 0, .slice none 0 0, .int .i64 0, .slice none 0 0, .slice none 0 0] := Blk.new _ _ _
  go_enter Try.func5, Try.ntmps5
  go_wp2_with fail
  refine (l20New_any _).mono ?_
  rintro e w1 ⟨g, rfl, m1, m2, m3, m4⟩
  have k1 := k0.below m1.b k0.lt
  have hs : ∀ vs, Below w.heap.size w (w1.setCells w.heap.size 0 vs) := fun vs => below_setCells (Nat.le_refl _) vs 0 w1 (hB0.trans (m1.b.mono (by simp)))
  have o1 := fun vs => (m1.2.setCells (b := w.heap.size) (by simp) vs 0 w1).base (B' := w.heap.size) (by simp)
  have o2 := fun vs => (m2.2.setCells (b := w.heap.size) (by simp) vs 0 w1).base (B' := w.heap.size) (by simp)
  have o3 := fun vs => (m3.2.setCells (b := w.heap.size) (by simp) vs 0 w1).base (B' := w.heap.size) (by simp)
  have o4 := fun vs => (m4.2.setCells (b := w.heap.size) (by simp) vs 0 w1).base (B' := w.heap.size) (by simp)
  clear m1 m2 m3 m4 hB0
  go_wp2_with (refine wpList_store_mid rfl 28 _ _ rfl w.heap.size 0 #[.int .i64 5, .slice (some ⟨g, 0, none⟩) 2 2, .slice (some ⟨g + 1, 0, none⟩) 4 4, .int .i64 5, .slice (some ⟨g + 2, 0, none⟩) 2 2, .slice (some ⟨g + 3, 0, none⟩) 4 4] rfl rfl k1.there (by kernel_rfl) (by simp [Value.oneCell']) ?_)
  exact bodyPost_ret (v := .agg #[.int .i64 5, .slice (some ⟨g, 0, none⟩) 2 2, .slice (some ⟨g + 1, 0, none⟩) 4 4, .int .i64 5, .slice (some ⟨g + 2, 0, none⟩) 2 2, .slice (some ⟨g + 3, 0, none⟩) 4 4]) (results_cell rfl _ _ rfl (k1.load_set _ rfl Try.underlying28 rfl (by kernel_rfl))) rfl
    ⟨g, rfl, ⟨hs _, o1 _⟩, ⟨hs _, o2 _⟩, ⟨hs _, o3 _⟩, ⟨hs _, o4 _⟩⟩

set_option maxHeartbeats 1600000 in
theorem newLaw (w : World) : Calls Try.prog 3 #[] w fun e w' => e = .returned (.bool true) ∧ Below w.heap.size w w' := by
  go_enter Try.func3, Try.ntmps3
  go_wp2_with fail
  refine (specNewDesk_any _).mono ?_
  rintro e w1 ⟨g1, rfl, m1, m2, m3, m4⟩
  go_wp2_with fail
  refine (NewDesk_any _).mono ?_
  rintro e w2 ⟨g2, B, d, D, f, rfl, n1, n2, n3, n4, a1, a2, a3, a4, a5⟩
  have a6 : Apart (.slice (some ⟨g2, 0, none⟩) 2 2) (.slice (some ⟨g2 + 1, 0, none⟩) 2 2) := fun k h1 h2 => by simp [Value.ownBlock] at h1 h2; omega
  have hs2 := n1.b.size
  simp only [World.size_alloc] at hs2
  have k1 := (Blk.new w1 28 #[.int .i64 5, .slice (some ⟨g1, 0, none⟩) 2 2, .slice (some ⟨g1 + 1, 0, none⟩) 4 4, .int .i64 5, .slice (some ⟨g1 + 2, 0, none⟩) 2 2, .slice (some ⟨g1 + 3, 0, none⟩) 4 4]).below n1.b (by simp)
  have H2 : Below w1.heap.size w1 w2 := ((Below.refl _ _).alloc (Nat.le_refl _) _).trans (n1.b.mono (by simp))
  have o1 : Own w2 w1.heap.size 2 _ _ _ _ := n1.2.base (by simp)
  have o2 : Own w2 w1.heap.size 2 _ _ _ _ := n2.2.base (by simp)
  have o3 : Own w2 w1.heap.size 2 _ _ _ _ := n3.2.base (by simp)
  have o4 : Own w2 w1.heap.size 2 _ _ _ _ := n4.2.base (by simp)
  clear n1 n2 n3 n4
  have k2 := Blk.new w2 28 #[.int .i64 5, .slice (some ⟨g2, 0, none⟩) 2 2, .slice B 4 d, .int .i64 5, .slice (some ⟨g2 + 1, 0, none⟩) 2 2, .slice D 4 f]
  have k1' := k1.alloc (.cells #[.int .i64 5, .slice (some ⟨g2, 0, none⟩) 2 2, .slice B 4 d, .int .i64 5, .slice (some ⟨g2 + 1, 0, none⟩) 2 2, .slice D 4 f] 28)
  have o1' : Own (w2.alloc (.cells #[.int .i64 5, .slice (some ⟨g2, 0, none⟩) 2 2, .slice B 4 d, .int .i64 5, .slice (some ⟨g2 + 1, 0, none⟩) 2 2, .slice D 4 f] 28)) w1.heap.size 2 _ _ _ _ := World.ownsRow.alloc o1 _
  have o2' : Own (w2.alloc (.cells #[.int .i64 5, .slice (some ⟨g2, 0, none⟩) 2 2, .slice B 4 d, .int .i64 5, .slice (some ⟨g2 + 1, 0, none⟩) 2 2, .slice D 4 f] 28)) w1.heap.size 2 _ _ _ _ := World.ownsRow.alloc o2 _
  have o3' : Own (w2.alloc (.cells #[.int .i64 5, .slice (some ⟨g2, 0, none⟩) 2 2, .slice B 4 d, .int .i64 5, .slice (some ⟨g2 + 1, 0, none⟩) 2 2, .slice D 4 f] 28)) w1.heap.size 2 _ _ _ _ := World.ownsRow.alloc o3 _
  have o4' : Own (w2.alloc (.cells #[.int .i64 5, .slice (some ⟨g2, 0, none⟩) 2 2, .slice B 4 d, .int .i64 5, .slice (some ⟨g2 + 1, 0, none⟩) 2 2, .slice D 4 f] 28)) w1.heap.size 2 _ _ _ _ := World.ownsRow.alloc o4 _
  have H2' := H2.alloc H2.size (.cells #[.int .i64 5, .slice (some ⟨g2, 0, none⟩) 2 2, .slice B 4 d, .int .i64 5, .slice (some ⟨g2 + 1, 0, none⟩) 2 2, .slice D 4 f] 28)
  clear k1 o1 o2 o3 o4 H2 hs2
  -- the first comparison
  obtain ⟨p0, p1, p2, p3, p4, p5⟩ := k1'.six
  go_wp2_with fail
  refine (eqDesk_yes _ _ _ _ _ _ _ _ _ _ _ _ _ _ _ _ _ _ _ _ _ _ _ _ _ _ _ (by omega) (by omega) (by omega) (by omega) o1'.rd (m1.rd.below H2') o2'.rd (m2.rd.below H2') o3'.rd (m3.rd.below H2') o4'.rd (m4.rd.below H2')).mono ?_
  rintro e w3 ⟨rfl, hb3⟩
  have k1 := k1'.below hb3 k1'.lt
  have k2' := k2.below hb3 k2.lt
  have o1 := o1'.below hb3
  have o2 := o2'.below hb3
  have o3 := o3'.below hb3
  have o4 := o4'.below hb3
  have H3 := H2'.trans (hb3.mono H2'.size)
  clear p0 p1 p2 p3 p4 p5 k1' k2 o1' o2' o3' o4' H2' hb3
  -- the marks
  obtain ⟨p0, p1, p2, p3, p4, p5⟩ := k2'.six
  go_wp2_with fail
  refine (markDesk_any w1.heap.size _ _ _ _ _ _ _ _ _ _ _ _ _ _ _ _ _ _ _ _ (by omega) (by omega) (by omega) (by omega) (by omega) (by omega) H3.size o1 o2 o3 o4 a1 a6 a3 a2.symm a5 a4).mono ?_
  rintro e w4 ⟨rfl, hb4, hk4, o1', o2', o3', o4'⟩
  have k1' := hk4 _ _ _ (by decide) k1
  have k2 := hk4 _ _ _ (by decide) k2'
  have H4 := H3.trans hb4
  clear p0 p1 p2 p3 p4 p5 k1 k2' o1 o2 o3 o4 H3 hb4 hk4
  obtain ⟨p0, p1, p2, p3, p4, p5⟩ := k2.six
  go_wp2_with fail
  refine (heldDesk_any _ _ _ _ _ _ _ _ _ _ _ _ _ _ _ _ (by omega) (by omega) (by omega) (by omega) (by omega) (by omega) o1'.rd o2'.rd o3'.rd o4'.rd).mono ?_
  rintro e w5 ⟨rfl, hb5⟩
  have k1 := k1'.below hb5 k1'.lt
  have k2' := k2.below hb5 k2.lt
  have o1 := o1'.below hb5
  have o2 := o2'.below hb5
  have o3 := o3'.below hb5
  have o4 := o4'.below hb5
  have H5 := H4.trans (hb5.mono H4.size)
  clear p0 p1 p2 p3 p4 p5 k1' k2 o1' o2' o3' o4' H4 hb5
  -- the second desk
  go_wp2_with fail
  refine (NewDesk_any _).mono ?_
  rintro e w6 ⟨g3, B3, d3, D3, f3, rfl, n1, n2, n3, n4, -, -, -, -, -⟩
  have hb6 := n1.b
  have k1' := (k1.below hb6 k1.lt).alloc (.cells #[.int .i64 5, .slice (some ⟨g3, 0, none⟩) 2 2, .slice B3 4 d3, .int .i64 5, .slice (some ⟨g3 + 1, 0, none⟩) 2 2, .slice D3 4 f3] 28)
  have k2 := (k2'.below hb6 k2'.lt).alloc (.cells #[.int .i64 5, .slice (some ⟨g3, 0, none⟩) 2 2, .slice B3 4 d3, .int .i64 5, .slice (some ⟨g3 + 1, 0, none⟩) 2 2, .slice D3 4 f3] 28)
  have o1' : Own (w6.alloc (.cells #[.int .i64 5, .slice (some ⟨g3, 0, none⟩) 2 2, .slice B3 4 d3, .int .i64 5, .slice (some ⟨g3 + 1, 0, none⟩) 2 2, .slice D3 4 f3] 28)) w1.heap.size 2 _ _ _ _ := World.ownsRow.alloc (o1.below hb6) _
  have o2' : Own (w6.alloc (.cells #[.int .i64 5, .slice (some ⟨g3, 0, none⟩) 2 2, .slice B3 4 d3, .int .i64 5, .slice (some ⟨g3 + 1, 0, none⟩) 2 2, .slice D3 4 f3] 28)) w1.heap.size 2 _ _ _ _ := World.ownsRow.alloc (o2.below hb6) _
  have o3' : Own (w6.alloc (.cells #[.int .i64 5, .slice (some ⟨g3, 0, none⟩) 2 2, .slice B3 4 d3, .int .i64 5, .slice (some ⟨g3 + 1, 0, none⟩) 2 2, .slice D3 4 f3] 28)) w1.heap.size 2 _ _ _ _ := World.ownsRow.alloc (o3.below hb6) _
  have o4' : Own (w6.alloc (.cells #[.int .i64 5, .slice (some ⟨g3, 0, none⟩) 2 2, .slice B3 4 d3, .int .i64 5, .slice (some ⟨g3 + 1, 0, none⟩) 2 2, .slice D3 4 f3] 28)) w1.heap.size 2 _ _ _ _ := World.ownsRow.alloc (o4.below hb6) _
  have H6 := (H5.trans (hb6.mono H5.size)).alloc (Nat.le_trans H5.size hb6.size) (.cells #[.int .i64 5, .slice (some ⟨g3, 0, none⟩) 2 2, .slice B3 4 d3, .int .i64 5, .slice (some ⟨g3 + 1, 0, none⟩) 2 2, .slice D3 4 f3] 28)
  have N1 := n1.alloc (.cells #[.int .i64 5, .slice (some ⟨g3, 0, none⟩) 2 2, .slice B3 4 d3, .int .i64 5, .slice (some ⟨g3 + 1, 0, none⟩) 2 2, .slice D3 4 f3] 28)
  have N2 := n2.alloc (.cells #[.int .i64 5, .slice (some ⟨g3, 0, none⟩) 2 2, .slice B3 4 d3, .int .i64 5, .slice (some ⟨g3 + 1, 0, none⟩) 2 2, .slice D3 4 f3] 28)
  have N3 := n3.alloc (.cells #[.int .i64 5, .slice (some ⟨g3, 0, none⟩) 2 2, .slice B3 4 d3, .int .i64 5, .slice (some ⟨g3 + 1, 0, none⟩) 2 2, .slice D3 4 f3] 28)
  have N4 := n4.alloc (.cells #[.int .i64 5, .slice (some ⟨g3, 0, none⟩) 2 2, .slice B3 4 d3, .int .i64 5, .slice (some ⟨g3 + 1, 0, none⟩) 2 2, .slice D3 4 f3] 28)
  clear k1 k2' o1 o2 o3 o4 H5 hb6 n1 n2 n3 n4
  obtain ⟨p0, p1, p2, p3, p4, p5⟩ := k1'.six
  go_wp2_with fail
  refine (eqDesk_yes _ _ _ _ _ _ _ _ _ _ _ _ _ _ _ _ _ _ _ _ _ _ _ _ _ _ _ (by omega) (by omega) (by omega) (by omega) N1.rd (m1.rd.below H6) N2.rd (m2.rd.below H6) N3.rd (m3.rd.below H6) N4.rd (m4.rd.below H6)).mono ?_
  rintro e w7 ⟨rfl, hb7⟩
  have k2' := k2.below hb7 k2.lt
  have o1 := o1'.below hb7
  have o2 := o2'.below hb7
  have o3 := o3'.below hb7
  have o4 := o4'.below hb7
  have H7 := H6.trans (hb7.mono H6.size)
  clear p0 p1 p2 p3 p4 p5 k1' k2 o1' o2' o3' o4' H6 hb7 N1 N2 N3 N4
  obtain ⟨p0, p1, p2, p3, p4, p5⟩ := k2'.six
  go_wp2_with fail
  refine (heldDesk_any _ _ _ _ _ _ _ _ _ _ _ _ _ _ _ _ (by omega) (by omega) (by omega) (by omega) (by omega) (by omega) o1.rd o2.rd o3.rd o4.rd).mono ?_
  rintro e w8 ⟨rfl, hb8⟩
  have H8 := m1.b.trans ((H7.trans (hb8.mono H7.size)).mono m1.b.size)
  clear p0 p1 p2 p3 p4 p5 k2' o1 o2 o3 o4 H7 hb8
  go_wp2
  go_ret
  exact ⟨rfl, H8⟩

namespace fnExactNewDesk
theorem own : ownKnob Try.prog.godebug = none := by kernel_rfl

set_option maxRecDepth 100000 in
theorem lifted (os : Os) (started : os.Started) (H : Type) (enc : TypeId × Value → H) :
    ReturnsInHanded {} Try.checked os 3 .any (Rows.fnExactNewDeskSpec.pre6 enc Try.prog Try.f3 Rows.fnExactNewDeskRow.domain false) (Rows.fnExactNewDeskSpec.post enc Try.prog Try.f3 false true false false) := by
  refine returnsInHanded_of_change (C := Try.checked) own started (by kernel_rfl) Try.func3
    (ChangeSpec.witness6 (enc := enc) (C := Try.checked) false ⟨#[], #[], []⟩ 8 (by kernel_rfl) (by kernel_rfl) (by kernel_rfl) (by kernel_rfl)) ?_
  intro W base args ds gs before hval0 hW hcnd _
  have hW' := hW
  obtain ⟨p, q, hA0, hV, rfl, hfz, hnd⟩ := hW
  have hA : DataW.TrodAll enc Try.prog W 0 (fun _ => true) true Try.f3.params.toList args.toList ds p := hA0
  rw [Try.params3] at hA
  obtain ⟨rfl, rfl, rfl⟩ := trodAll_none hA
  obtain ⟨rfl, rfl⟩ := trodVars_none hV
  clear hA0 hval0
  simp only [List.append_nil] at hW'
  refine (newLaw W).mono fun e W' ⟨he, hg⟩ => ?_
  subst he
  exact ⟨_, rfl, post_below (pa := []) (pv := []) hW' (fun _ _ _ => (trodAll_cons_mk (shut_bool Try.underlying4 _) trodAll_mk0)) (fun sp _ => rfl) (fun _ _ => rfl) rfl hg
    (ok_one (by kernel_rfl) rfl (okWide_bool_mk Try.underlying4 _))⟩

theorem over : Rows.fnExactNewDeskRow.holds Try.pinned (OpenSpec.ofChange Rows.fnExactNewDeskSpec) :=
  OpenClaim.holds_of_wide 3 Try.f3 rfl rfl rfl rfl rfl rfl rfl ⟨rfl, rfl, rfl, rfl, rfl⟩ rfl rfl rfl rfl rfl (by kernel_rfl) Try.func3 (by kernel_rfl)
    (of_decide_eq_true (by kernel_rfl)) (by unfold Func.isWrapper; first | (rw [if_pos (by decide +kernel)]; kernel_rfl) | (rw [if_neg (by decide +kernel)]; exact ⟨rfl, rfl⟩))
    (fun os started H enc _ => lifted os started H enc)

theorem proved : Rows.FnExactNewDeskSaid := over
#print axioms proved
end fnExactNewDesk

end Go.Proofs.Ytnlfaaooocoicaa

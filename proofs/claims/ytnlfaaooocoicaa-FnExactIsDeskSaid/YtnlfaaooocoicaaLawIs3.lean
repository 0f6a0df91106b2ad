/-
  FnExactIsDesk: for every desk the law returns true. No condition.
-/
import Derived.Test.YtnlfaaooocoicaaLawIs2
import Derived.Test.YtnlfaaooocoicaaOpen
namespace Go.Proofs.Ytnlfaaooocoicaa
open Go.ChangeShapes Go.WideShapes Go.ChangeAt Go.RowKit

theorem six_cells {cs : List Value} (h : cs.length = 6) : ∃ a b c d e f, cs = [a, b, c, d, e, f] := by
  match cs, h with
  | [a, b, c, d, e, f], _ => exact ⟨a, b, c, d, e, f, rfl⟩
theorem cells_ldk : Try.prog.cellsOf 36 = 6 := by kernel_rfl

theorem openDk {H : Type} {enc : TypeId × Value → H} {w : World} {base : Nat} {spare : Nat → Bool} {held : Bool} {fuel : Nat} {cs : List Value} {x : DataW H × List MemPlace} (h : DataW.trod enc Try.prog w base spare held fuel 36 cs = some x) :
    ∃ (P Q : Int) (A B C D : Option Addr) (n m k l c d e f : Nat) (xs ys zs us : List Int), cs = [.int .i64 P, .slice A n c, .slice B m d, .int .i64 Q, .slice C k e, .slice D l f] ∧
      n ≤ 9223372036854775807 ∧ m ≤ 9223372036854775807 ∧ k ≤ 9223372036854775807 ∧ l ≤ 9223372036854775807 ∧ Rd w A n (ints xs) ∧ Rd w B m (ints ys) ∧ Rd w C k (ints zs) ∧ Rd w D l (ints us) := by
  obtain ⟨y0, y1, y2, y3, n, hl, h0, h1, h2, h3⟩ := trod4 Try.underlying36 h
  obtain ⟨a, b, c, d, e, f, rfl⟩ := six_cells (hl.trans cells_ldk)
  dsimp only at h0 h1 h2 h3
  rw [cells_lsp] at h0
  rw [cells_si64] at h1
  rw [cells_ldb] at h2
  rw [cells_si64] at h3
  simp at h0 h1 h2 h3
  obtain ⟨P, A, n0, c0, xs, e0, _, m0, r0⟩ := openSp h0
  obtain ⟨B, n1, c1, ys', e1, _, m1, r1⟩ := openI h1
  obtain ⟨Q, C, n2, c2, zs, e2, _, m2, r2⟩ := openDb h2
  obtain ⟨D, n3, c3, us, e3, _, m3, r3⟩ := openI h3
  simp at e0 e1 e2 e3
  exact ⟨P, Q, A, B, C, D, n0, n1, n2, n3, c0, c1, c2, c3, xs, ys', zs, us, by rw [e0.1, e0.2, e1, e2.1, e2.2, e3], m0, m1, m2, m3, r0, r1, r2, r3⟩

/-- For every desk. -/
theorem isLaw (P Q : Int) (A B C D : Option Addr) (n m k l c d e f : Nat) (xs ys zs us : List Int) (w : World) (hn : n ≤ 9223372036854775807) (hm : m ≤ 9223372036854775807) (hk : k ≤ 9223372036854775807) (hl : l ≤ 9223372036854775807)
    (ha : Rd w A n (ints xs)) (hb : Rd w B m (ints ys)) (hc : Rd w C k (ints zs)) (hd : Rd w D l (ints us)) :
    Calls Try.prog 4 #[.agg #[.int .i64 P, .slice A n c, .slice B m d, .int .i64 Q, .slice C k e, .slice D l f]] w fun e' w' => e' = .returned (.bool true) ∧ Below w.heap.size w w' := by
  have hB0 : Below w.heap.size w (w.alloc (.cells #[.int .i64 P, .slice A n c, .slice B m d, .int .i64 Q, .slice C k e, .slice D l f] 36)) := (Below.refl _ _).alloc (Nat.le_refl _) _
  by_cases h1 : 0 ≤ 1048576 - (n : Int)
  · by_cases h2 : 0 ≤ 1048576 - (n : Int) - m
    · by_cases h3 : 0 ≤ 1048576 - (n : Int) - m - k
      · by_cases h4 : 0 ≤ 1048576 - (n : Int) - m - k - l
        · exact isLaw_fits P Q A B C D n m k l c d e f xs ys zs us w h1 h2 h3 h4 ha hb hc hd
        · have H := szDesk_no4 P Q A B C D n m k l c d e f (w.alloc (.cells #[.int .i64 P, .slice A n c, .slice B m d, .int .i64 Q, .slice C k e, .slice D l f] 36)) hn hm hk hl h1 h2 h3 (by omega)
          go_enter Try.func4, Try.ntmps4
          go_wp2_with fail
          refine H.mono ?_
          rintro e1 w1 ⟨rfl, hb1⟩
          go_wp2
          go_ret
          exact ⟨rfl, hB0.trans (hb1.mono (by simp))⟩
      · have H := szDesk_no3 P Q A B C D n m k l c d e f (w.alloc (.cells #[.int .i64 P, .slice A n c, .slice B m d, .int .i64 Q, .slice C k e, .slice D l f] 36)) hn hm hk hl h1 h2 (by omega)
        go_enter Try.func4, Try.ntmps4
        go_wp2_with fail
        refine H.mono ?_
        rintro e1 w1 ⟨rfl, hb1⟩
        go_wp2
        go_ret
        exact ⟨rfl, hB0.trans (hb1.mono (by simp))⟩
    · have H := szDesk_no2 P Q A B C D n m k l c d e f (w.alloc (.cells #[.int .i64 P, .slice A n c, .slice B m d, .int .i64 Q, .slice C k e, .slice D l f] 36)) hn hm hk hl h1 (by omega)
      go_enter Try.func4, Try.ntmps4
      go_wp2_with fail
      refine H.mono ?_
      rintro e1 w1 ⟨rfl, hb1⟩
      go_wp2
      go_ret
      exact ⟨rfl, hB0.trans (hb1.mono (by simp))⟩
  · have H := szDesk_no1 P Q A B C D n m k l c d e f (w.alloc (.cells #[.int .i64 P, .slice A n c, .slice B m d, .int .i64 Q, .slice C k e, .slice D l f] 36)) hn hm hk hl (by omega)
    go_enter Try.func4, Try.ntmps4
    go_wp2_with fail
    refine H.mono ?_
    rintro e1 w1 ⟨rfl, hb1⟩
    go_wp2
    go_ret
    exact ⟨rfl, hB0.trans (hb1.mono (by simp))⟩

namespace fnExactIsDesk
theorem own : ownKnob Try.prog.godebug = none := by kernel_rfl

set_option maxRecDepth 100000 in
theorem lifted (os : Os) (started : os.Started) (H : Type) (enc : TypeId × Value → H) :
    ReturnsInHanded {} Try.checked os 4 .any (Rows.fnExactIsDeskSpec.pre6 enc Try.prog Try.f4 Rows.fnExactIsDeskRow.domain false) (Rows.fnExactIsDeskSpec.post enc Try.prog Try.f4 false true false false) := by
  refine returnsInHanded_of_change (C := Try.checked) own started (by kernel_rfl) Try.func4
    (ChangeSpec.witness6 (enc := enc) (C := Try.checked) false ⟨#[], #[.agg #[.int .i64 0, .slice none 0 0, .slice none 0 0, .int .i64 0, .slice none 0 0, .slice none 0 0]], []⟩ 8 (by kernel_rfl) (by kernel_rfl) (by kernel_rfl) (by kernel_rfl)) ?_
  intro W base args ds gs before hval0 hW hcnd _
  have hval : ∀ (j : Nat) t v, Try.f4.params[j]? = some t → args[j]? = some v → Value.okWide Try.prog W .any base t v := hval0
  have hW' := hW
  obtain ⟨p, q, hA0, hV, rfl, hfz, hnd⟩ := hW
  have hA : DataW.TrodAll enc Try.prog W 0 (fun _ => true) true Try.f4.params.toList args.toList ds p := hA0
  rw [Try.params4] at hA hval
  obtain ⟨v0, d0, rfl, rfl, h0⟩ := trodAll_one hA
  obtain ⟨rfl, rfl⟩ := trodVars_none hV
  obtain ⟨cs, rfl, hsz⟩ := okWide_struct Try.underlying36 (hval 0 36 v0 rfl rfl)
  clear hA0 hval0
  simp only [List.append_nil] at hW'
  obtain ⟨fuel, hf⟩ := id h0
  obtain ⟨P, Q, A, B, C, D, n, m, k, l, c, d, e, f, xs, ys, zs, us, hcs, hn, hm, hk, hl, ra, rb, rc, rd⟩ := openDk hf
  have hagg : cs = #[.int .i64 P, .slice A n c, .slice B m d, .int .i64 Q, .slice C k e, .slice D l f] := by
    simp [Value.cells] at hcs; cases cs; simp at hcs; rw [hcs]
  subst hagg
  refine (isLaw P Q A B C D n m k l c d e f xs ys zs us W hn hm hk hl ra rb rc rd).mono fun e' W' ⟨he, hg⟩ => ?_
  subst he
  exact ⟨_, rfl, post_below (pa := p) (pv := []) hW' (fun _ _ _ => (trodAll_cons_mk (shut_bool Try.underlying4 _) trodAll_mk0))
    (fun sp hs => trodAll_mk1 (WideElems.Trod_stays (by kernel_rfl) (by kernel_rfl) (of_decide_eq_true (by kernel_rfl)) h0 (fun x hx => hg.same (hW'.lt x hx)) (fun x hx => hs x hx))) (fun _ _ => rfl) (by simp) hg
    (ok_one (by kernel_rfl) rfl (okWide_bool_mk Try.underlying4 _))⟩

theorem over : Rows.fnExactIsDeskRow.holds Try.pinned (OpenSpec.ofChange Rows.fnExactIsDeskSpec) :=
  OpenClaim.holds_of_wide 4 Try.f4 rfl rfl rfl rfl rfl rfl rfl ⟨rfl, rfl, rfl, rfl, rfl⟩ rfl rfl rfl rfl rfl (by kernel_rfl) Try.func4 (by kernel_rfl)
    (of_decide_eq_true (by kernel_rfl)) (by unfold Func.isWrapper; first | (rw [if_pos (by decide +kernel)]; kernel_rfl) | (rw [if_neg (by decide +kernel)]; exact ⟨rfl, rfl⟩))
    (fun os started H enc _ => lifted os started H enc)

theorem proved : Rows.FnExactIsDeskSaid := over
#print axioms proved
end fnExactIsDesk
end Go.Proofs.Ytnlfaaooocoicaa

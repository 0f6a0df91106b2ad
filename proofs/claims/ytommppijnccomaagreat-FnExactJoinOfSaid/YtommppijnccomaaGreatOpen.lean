/-
  Opening the arguments of laws: lists of numbers, structs of a number and a list. No condition.
-/
import Derived.Test.YtommppijnccomaaGreatPost
import Derived.Lib.SmallJoins
import Derived.Deep.Strs
namespace Go.Proofs.YtommppijnccomaaGreat
open Go.ChangeShapes Go.WideShapes Go.ChangeAt Go.RowKit

theorem cells_i64 : Tryz.prog.cellsOf 2 = 1 := by kernel_rfl
theorem cells_si64 : Tryz.prog.cellsOf 22 = 1 := by kernel_rfl

section
variable {H : Type} {enc : TypeId × Value → H} {w : World} {base : Nat} {spare : Nat → Bool} {held : Bool}

/-- A list of numbers, out of its one cell. -/
theorem openI {fuel : Nat} {cs : List Value} {x : DataW H × List MemPlace} (h : DataW.trod enc Tryz.prog w base spare held fuel 22 cs = some x) :
    ∃ (A : Option Addr) (n c : Nat) (xs : List Int), cs = [.slice A n c] ∧ n ≤ c ∧ n ≤ 9223372036854775807 ∧ Rd w A n (ints xs) := by
  rcases open_ints Tryz.underlying22 Tryz.underlying2 cells_i64 h with ⟨hcs, hx⟩ | ⟨a, len, cap, zs, hcs, _, hl, hm, hz, hx, hcell, hwz⟩
  · exact ⟨none, 0, 0, [], hcs, Nat.le_refl _, by omega, Rd.nil _ _⟩
  · have hlz : len ≤ zs.length := by rw [hz]; split <;> omega
    have hm' : cap ≤ 9223372036854775807 := by simpa [maxLen] using hm
    refine ⟨some a, len, cap, zs.take len, hcs, hl, by omega, by rw [ints_length, List.length_take]; omega, fun hp => ?_⟩
    obtain ⟨b, off, rfl, hc⟩ := ints_at hcell (by omega)
    refine ⟨b, off, rfl, fun k u hu => ?_⟩
    have hk : k < len := by
      have := (List.getElem?_eq_some_iff.1 hu).1
      rw [ints_length, List.length_take] at this
      omega
    rw [hc k (by omega)]
    rw [ints_get _ k (by rw [List.length_take]; omega)] at hu
    rw [← hu]
    simp [List.getD, show k < zs.length by omega]

/-- A number, out of its one cell. -/
theorem openN {fuel : Nat} {cs : List Value} {x : DataW H × List MemPlace} (h : DataW.trod enc Tryz.prog w base spare held fuel 2 cs = some x) : ∃ n : Int, cs = [.int .i64 n] := by
  obtain ⟨m, hc, _⟩ := DataW.trod_int Tryz.underlying2 h
  exact ⟨m, hc⟩

theorem trod4 {t : TypeId} {f0 f1 f2 f3 : Field} {P : Program} {fuel : Nat} {cs : List Value} {x : DataW H × List MemPlace} (ht : P.underlying t = some (.struct #[f0, f1, f2, f3])) (h : DataW.trod enc P w base spare held fuel t cs = some x) :
    ∃ y0 y1 y2 y3 n, cs.length = P.cellsOf t ∧ DataW.trod enc P w base spare held n f0.type ((cs.drop f0.offset).take (P.cellsOf f0.type)) = some y0 ∧
      DataW.trod enc P w base spare held n f1.type ((cs.drop f1.offset).take (P.cellsOf f1.type)) = some y1 ∧ DataW.trod enc P w base spare held n f2.type ((cs.drop f2.offset).take (P.cellsOf f2.type)) = some y2 ∧
      DataW.trod enc P w base spare held n f3.type ((cs.drop f3.offset).take (P.cellsOf f3.type)) = some y3 := by
  obtain ⟨xs, n, _, rfl, hl, hlen, hf⟩ := DataW.trod_struct ht h
  match xs, hlen with
  | [y0, y1, y2, y3], _ => exact ⟨y0, y1, y2, y3, n, hl, by simpa using hf 0 f0 rfl, by simpa using hf 1 f1 rfl, by simpa using hf 2 f2 rfl, by simpa using hf 3 f3 rfl⟩
theorem two_cells {cs : List Value} (h : cs.length = 2) : ∃ a b, cs = [a, b] := by
  match cs, h with
  | [a, b], _ => exact ⟨a, b, rfl⟩
theorem cells_lsp : Tryz.prog.cellsOf 24 = 2 := by kernel_rfl
/-- A struct of a number and a list of numbers, out of its cells. -/
theorem openSp {fuel : Nat} {cs : List Value} {x : DataW H × List MemPlace} (h : DataW.trod enc Tryz.prog w base spare held fuel 24 cs = some x) :
    ∃ (P : Int) (A : Option Addr) (n c : Nat) (xs : List Int), cs = [.int .i64 P, .slice A n c] ∧ n ≤ c ∧ n ≤ 9223372036854775807 ∧ Rd w A n (ints xs) := by
  obtain ⟨y0, y1, m, _, hl, h0, h1⟩ := trod_struct2 Tryz.underlying24 h
  obtain ⟨a, b, rfl⟩ := two_cells (hl.trans cells_lsp)
  obtain ⟨P, e0⟩ := openN h0
  obtain ⟨A, n, c, xs, e1, hn, hm, hr⟩ := openI h1
  simp only [cells_i64, cells_si64] at e0 e1
  simp at e0 e1
  exact ⟨P, A, n, c, xs, by rw [e0, e1], hn, hm, hr⟩
end
end Go.Proofs.YtommppijnccomaaGreat

/-
  The product of two multivectors: the specification's function.
-/
import Derived.Test.YtommppijnccomaaProd
import Derived.Test.YtommppijnccomaaFac2
namespace Go.Proofs.Ytommppijnccomaa
open Go.RowKit

theorem keepD4 {w1 w2 : World} {p q r s : Addr} {u v x y : Value} (h : w1.cell? p = some u ∧ w1.cell? q = some v ∧ w1.cell? r = some x ∧ w1.cell? s = some y) (hb : Below w1.heap.size w1 w2) :
    w2.cell? p = some u ∧ w2.cell? q = some v ∧ w2.cell? r = some x ∧ w2.cell? s = some y :=
  ⟨(hb.cell (World.block_lt_of_cell? _ _ h.1)).trans h.1, (hb.cell (World.block_lt_of_cell? _ _ h.2.1)).trans h.2.1, (hb.cell (World.block_lt_of_cell? _ _ h.2.2.1)).trans h.2.2.1, (hb.cell (World.block_lt_of_cell? _ _ h.2.2.2)).trans h.2.2.2⟩
theorem keepD4_set {w1 : World} {g k a b c d i j l m : Nat} {u v x y z : Value} (h : w1.cell? ⟨a, i, none⟩ = some u ∧ w1.cell? ⟨b, j, none⟩ = some v ∧ w1.cell? ⟨c, l, none⟩ = some x ∧ w1.cell? ⟨d, m, none⟩ = some y) (hg : g ≠ a ∧ g ≠ b ∧ g ≠ c ∧ g ≠ d) :
    (w1.setCell ⟨g, k, none⟩ z).cell? ⟨a, i, none⟩ = some u ∧ (w1.setCell ⟨g, k, none⟩ z).cell? ⟨b, j, none⟩ = some v ∧ (w1.setCell ⟨g, k, none⟩ z).cell? ⟨c, l, none⟩ = some x ∧ (w1.setCell ⟨g, k, none⟩ z).cell? ⟨d, m, none⟩ = some y :=
  ⟨(World.cell?_setCell_far _ _ _ _ hg.1).trans h.1, (World.cell?_setCell_far _ _ _ _ hg.2.1).trans h.2.1, (World.cell?_setCell_far _ _ _ _ hg.2.2.1).trans h.2.2.1, (World.cell?_setCell_far _ _ _ _ hg.2.2.2).trans h.2.2.2⟩

theorem mod_mul_add (v a f p : Int) : (v + a % p * f) % p = (v + a * f) % p := by
  rw [Int.add_emod, mod_mul, ← Int.add_emod]


end Go.Proofs.Ytommppijnccomaa

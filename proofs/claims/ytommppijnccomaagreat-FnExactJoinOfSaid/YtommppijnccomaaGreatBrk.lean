/-
  Brackets and halves of multivectors: the program's functions.
-/
import Derived.Test.YtommppijnccomaaGreatPlus
import Derived.Test.YtommppijnccomaaGreatMul
namespace Go.Proofs.YtommppijnccomaaGreat
open Go.RowKit

theorem timesL_nums {p : Int} (hp : 2 ≤ p) (sq : List Int) (n : Nat) (xss : List (List Int)) : NumsL p (timesL p sq n xss) := by
  unfold timesL
  suffices h : ∀ (xss : List (List Int)) (o : List Int), NumsL p o → NumsL p (xss.foldl (mulL p sq) o) from h xss _ (bladeL_nums hp n 0)
  intro xss
  induction xss with
  | nil => intro o h; exact h
  | cons x r ih => intro o _; exact ih _ (prodL_nums sq _ _ _ (by omega))
theorem timesL_len (p : Int) (sq : List Int) (n : Nat) (xss : List (List Int)) : (timesL p sq n xss).length = pw n := by
  unfold timesL
  suffices h : ∀ (xss : List (List Int)) (o : List Int), (xss.foldl (mulL p sq) o).length = o.length from by rw [h, bladeL_len]
  intro xss
  induction xss with
  | nil => intro o; rfl
  | cons x r ih => intro o; rw [List.foldl_cons, ih]; exact prodL_len _ _ _ _ _

/-- The bracket. -/
def brkL (p : Int) (sq : List Int) (n : Nat) (xs ys : List Int) : List Int := plusL p (timesL p sq n [xs, ys]) (timesL p sq n [ys, xs]) (-1)


end Go.Proofs.YtommppijnccomaaGreat

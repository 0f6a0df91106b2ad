/-
  Spinor norms, inverses and sandwiches of versors: both sides.
-/
import Derived.Test.YtommppijnccomaaGreatSigns2
import Derived.Test.YtommppijnccomaaGreatCodes
import Derived.Test.YtommppijnccomaaGreatCoef
import Derived.Test.YtommppijnccomaaGreatMul2
import Derived.Test.YtommppijnccomaaGreatPart
namespace Go.Proofs.YtommppijnccomaaGreat
open Go.RowKit

/-- The spinor norm. -/
def nrmL (P : Int) (sq xs : List Int) : Int := (mulL P sq xs (revL P xs)).getD 0 0
theorem nrmL_small {P : Int} (hp : 2 ≤ P) (sq xs : List Int) : 0 ≤ nrmL P sq xs ∧ nrmL P sq xs < P := (mulL_nums (by omega) sq xs _).getD (by omega) 0
/-- The inverse of a versor. -/
def vinvL (P : Int) (sq xs : List Int) : List Int := scaleL P (revL P xs) (invF P (nrmL P sq xs))
theorem vinvL_nums {P : Int} (hp : 2 ≤ P) (sq xs : List Int) : NumsL P (vinvL P sq xs) := scaleL_nums (by omega) _ _
/-- The sandwich of a versor. -/
def sandL (P : Int) (sq : List Int) (n : Nat) (xs v : List Int) : List Int := partL n (mulL P sq (mulL P sq (invoL P xs) (vecTo n v n)) (vinvL P sq xs))
theorem sandL_nums {P : Int} (hp : 2 ≤ P) (sq : List Int) (n : Nat) (xs v : List Int) : NumsL P (sandL P sq n xs v) := partL_nums (by omega) n _ (mulL_nums (by omega) sq _ _)







end Go.Proofs.YtommppijnccomaaGreat

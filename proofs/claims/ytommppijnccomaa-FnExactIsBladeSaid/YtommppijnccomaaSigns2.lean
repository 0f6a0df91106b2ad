/-
  Signs by grades: the reference's function, as a reverse and as an involute.
-/
import Derived.Test.YtommppijnccomaaSigns
import Derived.Test.YtommppijnccomaaTasks
namespace Go.Proofs.Ytommppijnccomaa
open Go.RowKit




end Go.Proofs.Ytommppijnccomaa

/-
  Signs by grades: the reference's function, as a reverse and as an involute.
-/
import Derived.Test.YtommppijnccomaaGreatSigns
import Derived.Test.YtommppijnccomaaGreatTasks
namespace Go.Proofs.YtommppijnccomaaGreat
open Go.RowKit




end Go.Proofs.YtommppijnccomaaGreat

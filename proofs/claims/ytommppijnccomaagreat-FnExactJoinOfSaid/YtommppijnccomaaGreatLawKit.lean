/-
  What every exact law needs: two lists that are the same are found to be, the pieces of memory of the law's own.
-/
import Derived.Test.YtommppijnccomaaGreatStruct
import Derived.Test.YtommppijnccomaaGreatEq
import Derived.Test.YtommppijnccomaaGreatPost
import Derived.Test.YtommppijnccomaaGreatOpen
import Derived.Test.YtommppijnccomaaGreatTasks
import Derived.ProofKit
import Derived.OpenShut
namespace Go.Proofs.YtommppijnccomaaGreat
open Go.RowKit

theorem eqInt64S_same (A B : Option Addr) (n m c d : Nat) (xs : List Int) (w : World) (hn : n ≤ 1099511627776) (hm : m ≤ 1099511627776) (ha : Rd w A n (ints xs)) (hb : Rd w B m (ints xs)) :
    Calls Tryz.prog 20 #[.slice A n c, .slice B m d] w fun e w' => e = .returned (.bool true) ∧ Below w.heap.size w w' := by
  refine (eqInt64S_any A B n m c d xs xs w hn hm ha hb).mono ?_
  rintro e w' ⟨rfl, j, rfl⟩
  exact ⟨by simp, below_drewN (Below.refl _ _) j⟩
theorem eqSpace_same (P : Int) (A B : Option Addr) (n m c d : Nat) (xs : List Int) (w : World) (hn : n ≤ 1099511627776) (hm : m ≤ 1099511627776) (ha : Rd w A n (ints xs)) (hb : Rd w B m (ints xs)) :
    Calls Tryz.prog 19 #[.agg #[.int .i64 P, .slice A n c], .agg #[.int .i64 P, .slice B m d]] w fun e w' => e = .returned (.bool true) ∧ Below w.heap.size w w' := by
  refine (eqSpace_any P P A B n m c d xs xs w hn hm ha hb).mono ?_
  rintro e w' ⟨rfl, hb⟩
  exact ⟨by simp, hb⟩
/-- The value is a new space with the squares sq. -/
def VSp (w0 : World) (P : Int) (n : Nat) (sq : List Int) : VP := ⟨fun v w => ∃ A c, v = .agg #[.int .i64 P, .slice A n c] ∧ MkI w0 w A n c sq, fun _ _ _ ⟨A, c, e, h⟩ hb => ⟨A, c, e, h.below hb⟩⟩
end Go.Proofs.YtommppijnccomaaGreat

/-
  No cell of these rows narrows 'for every input' (looked for: loops, veiled, ifaces, maps, wideKeys, modest, calm, conditions, laid).
  DERIVED. THE GIVEN ROWS OF THIS SEAT. 10 by the template 'for every input the law returns true; each argument reads behind the call as it read before'; 0 by the template 'total and deterministic' (their statements: YtgfgnpdnppggeaaGreatTotals.lean).
  GIVEN WITH THE SEED: the statements are not yours to turn. If you find one false, say at which input.
  Laid BY PROGRAM, IN A SANDBOX (cutbox-rows.mjs): the forced cells as the released guide's own fill.sh prints them over the translation b1a2b51a8c848ac8… (all of the seat's roots in one cut). By AI agents, Wed Nov 11 2026. No macro, syntax, notation, axiom, sorry.
-/
import Derived.Test.YtgfgnpdnppggeaaGreatChecked
import GoSem.Claim
import GoSem.ClaimJoined
import GoSem.ClaimMapViews
import Derived.JoinedTies
import Derived.KernelRfl
namespace Go.Proofs.YtgfgnpdnppggeaaGreat
/- THE CELL 'sum', in the pinned program and in every row, IS THE sha256 OF THE DUMP (.gsa) THAT YtgfgnpdnppggeaaGreatProg.lean LOADS. Nothing in Lean hashes anything: it is a label: what it is worth is what the hold of that sum in a sandbox is worth. -/
noncomputable def Tryz.pinned : Pinned := { name := "ytgfgnpdnppggeaagreat", sum := "b1a2b51a8c848ac825e7ac8bc2691658faf65ec1c13cf98c94d4b22164046993", checked := Tryz.checked }
namespace Rows
def none {H : Type} : Left H := { results := [], args := [] }

/-- 'laws.FnExactIsVersor': WHATEVER THE INPUT: true; the input reads as it did. -/
def fnExactIsVersorSpec : ChangeSpec := { name := "fnExactIsVersor", fn := fun _ => fun
  | [d1, d2] => { results := [.lit (.bool true)], args := [d1, d2] }
  | _ => none }
def fnExactIsVersorRow : OpenClaim := { program := "ytgfgnpdnppggeaagreat", sum := "b1a2b51a8c848ac825e7ac8bc2691658faf65ec1c13cf98c94d4b22164046993", func := "loop.example/g01124/laws.FnExactIsVersor", spec := "fnExactIsVersor", unfollowed := true, recurses := true, apart := false }
def FnExactIsVersorSaid : Prop := fnExactIsVersorRow.holds Tryz.pinned (OpenSpec.ofChange fnExactIsVersorSpec)

/-- ITS FALSE NEIGHBOUR: 'it returns false'. Refute it at one input. -/
def fnExactIsVersorWrong : ChangeSpec := { name := "fnExactIsVersor", fn := fun _ => fun
  | [d1, d2] => { results := [.lit (.bool false)], args := [d1, d2] }
  | _ => none }
def FnExactIsVersorWrongFalsely : Prop := fnExactIsVersorRow.holds Tryz.pinned (OpenSpec.ofChange fnExactIsVersorWrong)

/-- 'laws.FnExactIsRotor': WHATEVER THE INPUT: true; the input reads as it did. -/
def fnExactIsRotorSpec : ChangeSpec := { name := "fnExactIsRotor", fn := fun _ => fun
  | [d1, d2] => { results := [.lit (.bool true)], args := [d1, d2] }
  | _ => none }
def fnExactIsRotorRow : OpenClaim := { program := "ytgfgnpdnppggeaagreat", sum := "b1a2b51a8c848ac825e7ac8bc2691658faf65ec1c13cf98c94d4b22164046993", func := "loop.example/g01124/laws.FnExactIsRotor", spec := "fnExactIsRotor", unfollowed := true, recurses := true, apart := false }
def FnExactIsRotorSaid : Prop := fnExactIsRotorRow.holds Tryz.pinned (OpenSpec.ofChange fnExactIsRotorSpec)

/-- ITS FALSE NEIGHBOUR: 'it returns false'. Refute it at one input. -/
def fnExactIsRotorWrong : ChangeSpec := { name := "fnExactIsRotor", fn := fun _ => fun
  | [d1, d2] => { results := [.lit (.bool false)], args := [d1, d2] }
  | _ => none }
def FnExactIsRotorWrongFalsely : Prop := fnExactIsRotorRow.holds Tryz.pinned (OpenSpec.ofChange fnExactIsRotorWrong)

/-- 'laws.FnExactTurnVector': WHATEVER THE INPUT: true; the input reads as it did. -/
def fnExactTurnVectorSpec : ChangeSpec := { name := "fnExactTurnVector", fn := fun _ => fun
  | [d1, d2, d3] => { results := [.lit (.bool true)], args := [d1, d2, d3] }
  | _ => none }
def fnExactTurnVectorRow : OpenClaim := { program := "ytgfgnpdnppggeaagreat", sum := "b1a2b51a8c848ac825e7ac8bc2691658faf65ec1c13cf98c94d4b22164046993", func := "loop.example/g01124/laws.FnExactTurnVector", spec := "fnExactTurnVector", unfollowed := true, recurses := true, apart := false }
def FnExactTurnVectorSaid : Prop := fnExactTurnVectorRow.holds Tryz.pinned (OpenSpec.ofChange fnExactTurnVectorSpec)

/-- ITS FALSE NEIGHBOUR: 'it returns false'. Refute it at one input. -/
def fnExactTurnVectorWrong : ChangeSpec := { name := "fnExactTurnVector", fn := fun _ => fun
  | [d1, d2, d3] => { results := [.lit (.bool false)], args := [d1, d2, d3] }
  | _ => none }
def FnExactTurnVectorWrongFalsely : Prop := fnExactTurnVectorRow.holds Tryz.pinned (OpenSpec.ofChange fnExactTurnVectorWrong)

/-- 'laws.FnExactMatrixOfBivector': WHATEVER THE INPUT: true; the input reads as it did. -/
def fnExactMatrixOfBivectorSpec : ChangeSpec := { name := "fnExactMatrixOfBivector", fn := fun _ => fun
  | [d1, d2] => { results := [.lit (.bool true)], args := [d1, d2] }
  | _ => none }
def fnExactMatrixOfBivectorRow : OpenClaim := { program := "ytgfgnpdnppggeaagreat", sum := "b1a2b51a8c848ac825e7ac8bc2691658faf65ec1c13cf98c94d4b22164046993", func := "loop.example/g01124/laws.FnExactMatrixOfBivector", spec := "fnExactMatrixOfBivector", unfollowed := true, recurses := true, apart := false }
def FnExactMatrixOfBivectorSaid : Prop := fnExactMatrixOfBivectorRow.holds Tryz.pinned (OpenSpec.ofChange fnExactMatrixOfBivectorSpec)

/-- ITS FALSE NEIGHBOUR: 'it returns false'. Refute it at one input. -/
def fnExactMatrixOfBivectorWrong : ChangeSpec := { name := "fnExactMatrixOfBivector", fn := fun _ => fun
  | [d1, d2] => { results := [.lit (.bool false)], args := [d1, d2] }
  | _ => none }
def FnExactMatrixOfBivectorWrongFalsely : Prop := fnExactMatrixOfBivectorRow.holds Tryz.pinned (OpenSpec.ofChange fnExactMatrixOfBivectorWrong)

/-- 'laws.FnExactKillingForm': WHATEVER THE INPUT: true; the input reads as it did. -/
def fnExactKillingFormSpec : ChangeSpec := { name := "fnExactKillingForm", fn := fun _ => fun
  | [d1, d2, d3] => { results := [.lit (.bool true)], args := [d1, d2, d3] }
  | _ => none }
def fnExactKillingFormRow : OpenClaim := { program := "ytgfgnpdnppggeaagreat", sum := "b1a2b51a8c848ac825e7ac8bc2691658faf65ec1c13cf98c94d4b22164046993", func := "loop.example/g01124/laws.FnExactKillingForm", spec := "fnExactKillingForm", unfollowed := true, recurses := true, apart := false }
def FnExactKillingFormSaid : Prop := fnExactKillingFormRow.holds Tryz.pinned (OpenSpec.ofChange fnExactKillingFormSpec)

/-- ITS FALSE NEIGHBOUR: 'it returns false'. Refute it at one input. -/
def fnExactKillingFormWrong : ChangeSpec := { name := "fnExactKillingForm", fn := fun _ => fun
  | [d1, d2, d3] => { results := [.lit (.bool false)], args := [d1, d2, d3] }
  | _ => none }
def FnExactKillingFormWrongFalsely : Prop := fnExactKillingFormRow.holds Tryz.pinned (OpenSpec.ofChange fnExactKillingFormWrong)

/-- 'laws.FnExactVersorInverse': WHATEVER THE INPUT: true; the input reads as it did. -/
def fnExactVersorInverseSpec : ChangeSpec := { name := "fnExactVersorInverse", fn := fun _ => fun
  | [d1, d2] => { results := [.lit (.bool true)], args := [d1, d2] }
  | _ => none }
def fnExactVersorInverseRow : OpenClaim := { program := "ytgfgnpdnppggeaagreat", sum := "b1a2b51a8c848ac825e7ac8bc2691658faf65ec1c13cf98c94d4b22164046993", func := "loop.example/g01124/laws.FnExactVersorInverse", spec := "fnExactVersorInverse", unfollowed := true, recurses := true, apart := false }
def FnExactVersorInverseSaid : Prop := fnExactVersorInverseRow.holds Tryz.pinned (OpenSpec.ofChange fnExactVersorInverseSpec)

/-- ITS FALSE NEIGHBOUR: 'it returns false'. Refute it at one input. -/
def fnExactVersorInverseWrong : ChangeSpec := { name := "fnExactVersorInverse", fn := fun _ => fun
  | [d1, d2] => { results := [.lit (.bool false)], args := [d1, d2] }
  | _ => none }
def FnExactVersorInverseWrongFalsely : Prop := fnExactVersorInverseRow.holds Tryz.pinned (OpenSpec.ofChange fnExactVersorInverseWrong)

/-- 'laws.FnExactBladeContains': WHATEVER THE INPUT: true; the input reads as it did. -/
def fnExactBladeContainsSpec : ChangeSpec := { name := "fnExactBladeContains", fn := fun _ => fun
  | [d1, d2, d3] => { results := [.lit (.bool true)], args := [d1, d2, d3] }
  | _ => none }
def fnExactBladeContainsRow : OpenClaim := { program := "ytgfgnpdnppggeaagreat", sum := "b1a2b51a8c848ac825e7ac8bc2691658faf65ec1c13cf98c94d4b22164046993", func := "loop.example/g01124/laws.FnExactBladeContains", spec := "fnExactBladeContains", unfollowed := true, recurses := true, apart := false }
def FnExactBladeContainsSaid : Prop := fnExactBladeContainsRow.holds Tryz.pinned (OpenSpec.ofChange fnExactBladeContainsSpec)

/-- ITS FALSE NEIGHBOUR: 'it returns false'. Refute it at one input. -/
def fnExactBladeContainsWrong : ChangeSpec := { name := "fnExactBladeContains", fn := fun _ => fun
  | [d1, d2, d3] => { results := [.lit (.bool false)], args := [d1, d2, d3] }
  | _ => none }
def FnExactBladeContainsWrongFalsely : Prop := fnExactBladeContainsRow.holds Tryz.pinned (OpenSpec.ofChange fnExactBladeContainsWrong)

/-- 'laws.FnExactSandwichOfMultivector': WHATEVER THE INPUT: true; the input reads as it did. -/
def fnExactSandwichOfMultivectorSpec : ChangeSpec := { name := "fnExactSandwichOfMultivector", fn := fun _ => fun
  | [d1, d2, d3] => { results := [.lit (.bool true)], args := [d1, d2, d3] }
  | _ => none }
def fnExactSandwichOfMultivectorRow : OpenClaim := { program := "ytgfgnpdnppggeaagreat", sum := "b1a2b51a8c848ac825e7ac8bc2691658faf65ec1c13cf98c94d4b22164046993", func := "loop.example/g01124/laws.FnExactSandwichOfMultivector", spec := "fnExactSandwichOfMultivector", unfollowed := true, recurses := true, apart := false }
def FnExactSandwichOfMultivectorSaid : Prop := fnExactSandwichOfMultivectorRow.holds Tryz.pinned (OpenSpec.ofChange fnExactSandwichOfMultivectorSpec)

/-- ITS FALSE NEIGHBOUR: 'it returns false'. Refute it at one input. -/
def fnExactSandwichOfMultivectorWrong : ChangeSpec := { name := "fnExactSandwichOfMultivector", fn := fun _ => fun
  | [d1, d2, d3] => { results := [.lit (.bool false)], args := [d1, d2, d3] }
  | _ => none }
def FnExactSandwichOfMultivectorWrongFalsely : Prop := fnExactSandwichOfMultivectorRow.holds Tryz.pinned (OpenSpec.ofChange fnExactSandwichOfMultivectorWrong)

/-- 'laws.FnExactUnitVersor': WHATEVER THE INPUT: true; the input reads as it did. -/
def fnExactUnitVersorSpec : ChangeSpec := { name := "fnExactUnitVersor", fn := fun _ => fun
  | [d1, d2] => { results := [.lit (.bool true)], args := [d1, d2] }
  | _ => none }
def fnExactUnitVersorRow : OpenClaim := { program := "ytgfgnpdnppggeaagreat", sum := "b1a2b51a8c848ac825e7ac8bc2691658faf65ec1c13cf98c94d4b22164046993", func := "loop.example/g01124/laws.FnExactUnitVersor", spec := "fnExactUnitVersor", unfollowed := true, recurses := true, apart := false }
def FnExactUnitVersorSaid : Prop := fnExactUnitVersorRow.holds Tryz.pinned (OpenSpec.ofChange fnExactUnitVersorSpec)

/-- ITS FALSE NEIGHBOUR: 'it returns false'. Refute it at one input. -/
def fnExactUnitVersorWrong : ChangeSpec := { name := "fnExactUnitVersor", fn := fun _ => fun
  | [d1, d2] => { results := [.lit (.bool false)], args := [d1, d2] }
  | _ => none }
def FnExactUnitVersorWrongFalsely : Prop := fnExactUnitVersorRow.holds Tryz.pinned (OpenSpec.ofChange fnExactUnitVersorWrong)

/-- 'laws.FnExactSandwichOf': WHATEVER THE INPUT: true; the input reads as it did. -/
def fnExactSandwichOfSpec : ChangeSpec := { name := "fnExactSandwichOf", fn := fun _ => fun
  | [d1, d2, d3] => { results := [.lit (.bool true)], args := [d1, d2, d3] }
  | _ => none }
def fnExactSandwichOfRow : OpenClaim := { program := "ytgfgnpdnppggeaagreat", sum := "b1a2b51a8c848ac825e7ac8bc2691658faf65ec1c13cf98c94d4b22164046993", func := "loop.example/g01124/laws.FnExactSandwichOf", spec := "fnExactSandwichOf", unfollowed := true, recurses := true, apart := false }
def FnExactSandwichOfSaid : Prop := fnExactSandwichOfRow.holds Tryz.pinned (OpenSpec.ofChange fnExactSandwichOfSpec)

/-- ITS FALSE NEIGHBOUR: 'it returns false'. Refute it at one input. -/
def fnExactSandwichOfWrong : ChangeSpec := { name := "fnExactSandwichOf", fn := fun _ => fun
  | [d1, d2, d3] => { results := [.lit (.bool false)], args := [d1, d2, d3] }
  | _ => none }
def FnExactSandwichOfWrongFalsely : Prop := fnExactSandwichOfRow.holds Tryz.pinned (OpenSpec.ofChange fnExactSandwichOfWrong)

/- THE SECOND FORM. 'bulk': how many values and letters a reading holds, each counted each time it is reached (what is shared counts as often as it is met; a slice's spare places count too). A statement '..UptoSaid' is the law's where the arguments, and the package variables that the reading takes, are together of bulk at most 1048576: NARROWER than '..Said'. Prove '..Said' where nothing that the law and all that it calls make is longer than what came in: it says more and counts as full. Else prove '..UptoSaid'. A law counts once. -/
mutual
def uptoBulk {H : Type} : DataW H → Nat
  | .lit (.string bytes) => bytes.length + 1
  | .lit _ => 1
  | .nil => 1
  | .ptr d => uptoBulk d + 1
  | .slice elems spare => uptoBulkAll elems + uptoBulkAll spare + 1
  | .agg parts => uptoBulkAll parts + 1
  | .iface _ d => uptoBulk d + 1
  | .map entries => uptoBulkEntries entries + 1
  | .held _ => 1
def uptoBulkAll {H : Type} : List (DataW H) → Nat
  | [] => 0
  | d :: r => uptoBulk d + uptoBulkAll r
def uptoBulkEntries {H : Type} : List (Lit × DataW H) → Nat
  | [] => 0
  | x :: r => uptoBulkEntry x + uptoBulkEntries r
def uptoBulkEntry {H : Type} : Lit × DataW H → Nat
  | (.string bytes, d) => bytes.length + uptoBulk d + 1
  | (_, d) => uptoBulk d + 1
 end
def uptoSmall : (H : Type) → List (DataW H) → Bool := fun _ ds => decide (uptoBulkAll ds ≤ 1048576)
def OpenSpec.upto (s : _root_.Go.ChangeSpec) : _root_.Go.OpenSpec := { _root_.Go.OpenSpec.ofChange s with cond := some uptoSmall }

/-- 'laws.FnExactIsVersor', WHERE WHAT IT READS IS OF BULK AT MOST 1048576: true; the input reads as it did. -/
def fnExactIsVersorUptoRow : OpenClaim := { program := "ytgfgnpdnppggeaagreat", sum := "b1a2b51a8c848ac825e7ac8bc2691658faf65ec1c13cf98c94d4b22164046993", func := "loop.example/g01124/laws.FnExactIsVersor", spec := "fnExactIsVersor", unfollowed := true, recurses := true, apart := false, narrowed := true }
def FnExactIsVersorUptoSaid : Prop := fnExactIsVersorUptoRow.holds Tryz.pinned (OpenSpec.upto fnExactIsVersorSpec)

/-- 'laws.FnExactIsRotor', WHERE WHAT IT READS IS OF BULK AT MOST 1048576: true; the input reads as it did. -/
def fnExactIsRotorUptoRow : OpenClaim := { program := "ytgfgnpdnppggeaagreat", sum := "b1a2b51a8c848ac825e7ac8bc2691658faf65ec1c13cf98c94d4b22164046993", func := "loop.example/g01124/laws.FnExactIsRotor", spec := "fnExactIsRotor", unfollowed := true, recurses := true, apart := false, narrowed := true }
def FnExactIsRotorUptoSaid : Prop := fnExactIsRotorUptoRow.holds Tryz.pinned (OpenSpec.upto fnExactIsRotorSpec)

/-- 'laws.FnExactTurnVector', WHERE WHAT IT READS IS OF BULK AT MOST 1048576: true; the input reads as it did. -/
def fnExactTurnVectorUptoRow : OpenClaim := { program := "ytgfgnpdnppggeaagreat", sum := "b1a2b51a8c848ac825e7ac8bc2691658faf65ec1c13cf98c94d4b22164046993", func := "loop.example/g01124/laws.FnExactTurnVector", spec := "fnExactTurnVector", unfollowed := true, recurses := true, apart := false, narrowed := true }
def FnExactTurnVectorUptoSaid : Prop := fnExactTurnVectorUptoRow.holds Tryz.pinned (OpenSpec.upto fnExactTurnVectorSpec)

/-- 'laws.FnExactMatrixOfBivector', WHERE WHAT IT READS IS OF BULK AT MOST 1048576: true; the input reads as it did. -/
def fnExactMatrixOfBivectorUptoRow : OpenClaim := { program := "ytgfgnpdnppggeaagreat", sum := "b1a2b51a8c848ac825e7ac8bc2691658faf65ec1c13cf98c94d4b22164046993", func := "loop.example/g01124/laws.FnExactMatrixOfBivector", spec := "fnExactMatrixOfBivector", unfollowed := true, recurses := true, apart := false, narrowed := true }
def FnExactMatrixOfBivectorUptoSaid : Prop := fnExactMatrixOfBivectorUptoRow.holds Tryz.pinned (OpenSpec.upto fnExactMatrixOfBivectorSpec)

/-- 'laws.FnExactKillingForm', WHERE WHAT IT READS IS OF BULK AT MOST 1048576: true; the input reads as it did. -/
def fnExactKillingFormUptoRow : OpenClaim := { program := "ytgfgnpdnppggeaagreat", sum := "b1a2b51a8c848ac825e7ac8bc2691658faf65ec1c13cf98c94d4b22164046993", func := "loop.example/g01124/laws.FnExactKillingForm", spec := "fnExactKillingForm", unfollowed := true, recurses := true, apart := false, narrowed := true }
def FnExactKillingFormUptoSaid : Prop := fnExactKillingFormUptoRow.holds Tryz.pinned (OpenSpec.upto fnExactKillingFormSpec)

/-- 'laws.FnExactVersorInverse', WHERE WHAT IT READS IS OF BULK AT MOST 1048576: true; the input reads as it did. -/
def fnExactVersorInverseUptoRow : OpenClaim := { program := "ytgfgnpdnppggeaagreat", sum := "b1a2b51a8c848ac825e7ac8bc2691658faf65ec1c13cf98c94d4b22164046993", func := "loop.example/g01124/laws.FnExactVersorInverse", spec := "fnExactVersorInverse", unfollowed := true, recurses := true, apart := false, narrowed := true }
def FnExactVersorInverseUptoSaid : Prop := fnExactVersorInverseUptoRow.holds Tryz.pinned (OpenSpec.upto fnExactVersorInverseSpec)

/-- 'laws.FnExactBladeContains', WHERE WHAT IT READS IS OF BULK AT MOST 1048576: true; the input reads as it did. -/
def fnExactBladeContainsUptoRow : OpenClaim := { program := "ytgfgnpdnppggeaagreat", sum := "b1a2b51a8c848ac825e7ac8bc2691658faf65ec1c13cf98c94d4b22164046993", func := "loop.example/g01124/laws.FnExactBladeContains", spec := "fnExactBladeContains", unfollowed := true, recurses := true, apart := false, narrowed := true }
def FnExactBladeContainsUptoSaid : Prop := fnExactBladeContainsUptoRow.holds Tryz.pinned (OpenSpec.upto fnExactBladeContainsSpec)

/-- 'laws.FnExactSandwichOfMultivector', WHERE WHAT IT READS IS OF BULK AT MOST 1048576: true; the input reads as it did. -/
def fnExactSandwichOfMultivectorUptoRow : OpenClaim := { program := "ytgfgnpdnppggeaagreat", sum := "b1a2b51a8c848ac825e7ac8bc2691658faf65ec1c13cf98c94d4b22164046993", func := "loop.example/g01124/laws.FnExactSandwichOfMultivector", spec := "fnExactSandwichOfMultivector", unfollowed := true, recurses := true, apart := false, narrowed := true }
def FnExactSandwichOfMultivectorUptoSaid : Prop := fnExactSandwichOfMultivectorUptoRow.holds Tryz.pinned (OpenSpec.upto fnExactSandwichOfMultivectorSpec)

/-- 'laws.FnExactUnitVersor', WHERE WHAT IT READS IS OF BULK AT MOST 1048576: true; the input reads as it did. -/
def fnExactUnitVersorUptoRow : OpenClaim := { program := "ytgfgnpdnppggeaagreat", sum := "b1a2b51a8c848ac825e7ac8bc2691658faf65ec1c13cf98c94d4b22164046993", func := "loop.example/g01124/laws.FnExactUnitVersor", spec := "fnExactUnitVersor", unfollowed := true, recurses := true, apart := false, narrowed := true }
def FnExactUnitVersorUptoSaid : Prop := fnExactUnitVersorUptoRow.holds Tryz.pinned (OpenSpec.upto fnExactUnitVersorSpec)

/-- 'laws.FnExactSandwichOf', WHERE WHAT IT READS IS OF BULK AT MOST 1048576: true; the input reads as it did. -/
def fnExactSandwichOfUptoRow : OpenClaim := { program := "ytgfgnpdnppggeaagreat", sum := "b1a2b51a8c848ac825e7ac8bc2691658faf65ec1c13cf98c94d4b22164046993", func := "loop.example/g01124/laws.FnExactSandwichOf", spec := "fnExactSandwichOf", unfollowed := true, recurses := true, apart := false, narrowed := true }
def FnExactSandwichOfUptoSaid : Prop := fnExactSandwichOfUptoRow.holds Tryz.pinned (OpenSpec.upto fnExactSandwichOfSpec)

end Rows
end Go.Proofs.YtgfgnpdnppggeaaGreat

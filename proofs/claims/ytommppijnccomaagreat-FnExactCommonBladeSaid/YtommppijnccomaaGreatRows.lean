/-
  No cell of these rows narrows 'for every input' (looked for: loops, veiled, ifaces, maps, wideKeys, modest, calm, conditions, laid).
  DERIVED. THE GIVEN ROWS OF THIS SEAT. 11 by the template 'for every input the law returns true; each argument reads behind the call as it read before'; 0 by the template 'total and deterministic' (their statements: YtommppijnccomaaGreatTotals.lean).
  GIVEN WITH THE SEED: the statements are not yours to turn. If you find one false, say at which input.
  Laid BY PROGRAM, IN A SANDBOX (cutbox-rows.mjs): the forced cells as the released guide's own fill.sh prints them over the translation d50b6603acbbb0fc… (all of the seat's roots in one cut). By AI agents, Wed Nov 11 2026. No macro, syntax, notation, axiom, sorry.
-/
import Derived.Test.YtommppijnccomaaGreatChecked
import GoSem.Claim
import GoSem.ClaimJoined
import GoSem.ClaimMapViews
import Derived.JoinedTies
import Derived.KernelRfl
namespace Go.Proofs.YtommppijnccomaaGreat
/- THE CELL 'sum', in the pinned program and in every row, IS THE sha256 OF THE DUMP (.gsa) THAT YtommppijnccomaaGreatProg.lean LOADS. Nothing in Lean hashes anything: it is a label: what it is worth is what the hold of that sum in a sandbox is worth. -/
noncomputable def Tryz.pinned : Pinned := { name := "ytommppijnccomaagreat", sum := "d50b6603acbbb0fc736df57a251a8953cbb4939615c90e9fdf43d40df8444090", checked := Tryz.checked }
namespace Rows
def none {H : Type} : Left H := { results := [], args := [] }

/-- 'laws.FnExactBladeContains': WHATEVER THE INPUT: true; the input reads as it did. -/
def fnExactBladeContainsSpec : ChangeSpec := { name := "fnExactBladeContains", fn := fun _ => fun
  | [d1, d2, d3] => { results := [.lit (.bool true)], args := [d1, d2, d3] }
  | _ => none }
def fnExactBladeContainsRow : OpenClaim := { program := "ytommppijnccomaagreat", sum := "d50b6603acbbb0fc736df57a251a8953cbb4939615c90e9fdf43d40df8444090", func := "loop.example/g01124/laws.FnExactBladeContains", spec := "fnExactBladeContains", unfollowed := true, recurses := true, apart := false }
def FnExactBladeContainsSaid : Prop := fnExactBladeContainsRow.holds Tryz.pinned (OpenSpec.ofChange fnExactBladeContainsSpec)

/-- ITS FALSE NEIGHBOUR: 'it returns false'. Refute it at one input. -/
def fnExactBladeContainsWrong : ChangeSpec := { name := "fnExactBladeContains", fn := fun _ => fun
  | [d1, d2, d3] => { results := [.lit (.bool false)], args := [d1, d2, d3] }
  | _ => none }
def FnExactBladeContainsWrongFalsely : Prop := fnExactBladeContainsRow.holds Tryz.pinned (OpenSpec.ofChange fnExactBladeContainsWrong)

/-- 'laws.FnExactBladeSquare': WHATEVER THE INPUT: true; the input reads as it did. -/
def fnExactBladeSquareSpec : ChangeSpec := { name := "fnExactBladeSquare", fn := fun _ => fun
  | [d1, d2] => { results := [.lit (.bool true)], args := [d1, d2] }
  | _ => none }
def fnExactBladeSquareRow : OpenClaim := { program := "ytommppijnccomaagreat", sum := "d50b6603acbbb0fc736df57a251a8953cbb4939615c90e9fdf43d40df8444090", func := "loop.example/g01124/laws.FnExactBladeSquare", spec := "fnExactBladeSquare", unfollowed := true, recurses := true, apart := false }
def FnExactBladeSquareSaid : Prop := fnExactBladeSquareRow.holds Tryz.pinned (OpenSpec.ofChange fnExactBladeSquareSpec)

/-- ITS FALSE NEIGHBOUR: 'it returns false'. Refute it at one input. -/
def fnExactBladeSquareWrong : ChangeSpec := { name := "fnExactBladeSquare", fn := fun _ => fun
  | [d1, d2] => { results := [.lit (.bool false)], args := [d1, d2] }
  | _ => none }
def FnExactBladeSquareWrongFalsely : Prop := fnExactBladeSquareRow.holds Tryz.pinned (OpenSpec.ofChange fnExactBladeSquareWrong)

/-- 'laws.FnExactFactorOf': WHATEVER THE INPUT: true; the input reads as it did. -/
def fnExactFactorOfSpec : ChangeSpec := { name := "fnExactFactorOf", fn := fun _ => fun
  | [d1, d2] => { results := [.lit (.bool true)], args := [d1, d2] }
  | _ => none }
def fnExactFactorOfRow : OpenClaim := { program := "ytommppijnccomaagreat", sum := "d50b6603acbbb0fc736df57a251a8953cbb4939615c90e9fdf43d40df8444090", func := "loop.example/g01124/laws.FnExactFactorOf", spec := "fnExactFactorOf", unfollowed := true, recurses := true, apart := false }
def FnExactFactorOfSaid : Prop := fnExactFactorOfRow.holds Tryz.pinned (OpenSpec.ofChange fnExactFactorOfSpec)

/-- ITS FALSE NEIGHBOUR: 'it returns false'. Refute it at one input. -/
def fnExactFactorOfWrong : ChangeSpec := { name := "fnExactFactorOf", fn := fun _ => fun
  | [d1, d2] => { results := [.lit (.bool false)], args := [d1, d2] }
  | _ => none }
def FnExactFactorOfWrongFalsely : Prop := fnExactFactorOfRow.holds Tryz.pinned (OpenSpec.ofChange fnExactFactorOfWrong)

/-- 'laws.FnExactAreOrthogonalBlades': WHATEVER THE INPUT: true; the input reads as it did. -/
def fnExactAreOrthogonalBladesSpec : ChangeSpec := { name := "fnExactAreOrthogonalBlades", fn := fun _ => fun
  | [d1, d2, d3] => { results := [.lit (.bool true)], args := [d1, d2, d3] }
  | _ => none }
def fnExactAreOrthogonalBladesRow : OpenClaim := { program := "ytommppijnccomaagreat", sum := "d50b6603acbbb0fc736df57a251a8953cbb4939615c90e9fdf43d40df8444090", func := "loop.example/g01124/laws.FnExactAreOrthogonalBlades", spec := "fnExactAreOrthogonalBlades", unfollowed := true, recurses := true, apart := false }
def FnExactAreOrthogonalBladesSaid : Prop := fnExactAreOrthogonalBladesRow.holds Tryz.pinned (OpenSpec.ofChange fnExactAreOrthogonalBladesSpec)

/-- ITS FALSE NEIGHBOUR: 'it returns false'. Refute it at one input. -/
def fnExactAreOrthogonalBladesWrong : ChangeSpec := { name := "fnExactAreOrthogonalBlades", fn := fun _ => fun
  | [d1, d2, d3] => { results := [.lit (.bool false)], args := [d1, d2, d3] }
  | _ => none }
def FnExactAreOrthogonalBladesWrongFalsely : Prop := fnExactAreOrthogonalBladesRow.holds Tryz.pinned (OpenSpec.ofChange fnExactAreOrthogonalBladesWrong)

/-- 'laws.FnExactSubspaceOf': WHATEVER THE INPUT: true; the input reads as it did. -/
def fnExactSubspaceOfSpec : ChangeSpec := { name := "fnExactSubspaceOf", fn := fun _ => fun
  | [d1, d2] => { results := [.lit (.bool true)], args := [d1, d2] }
  | _ => none }
def fnExactSubspaceOfRow : OpenClaim := { program := "ytommppijnccomaagreat", sum := "d50b6603acbbb0fc736df57a251a8953cbb4939615c90e9fdf43d40df8444090", func := "loop.example/g01124/laws.FnExactSubspaceOf", spec := "fnExactSubspaceOf", unfollowed := true, recurses := true, apart := false }
def FnExactSubspaceOfSaid : Prop := fnExactSubspaceOfRow.holds Tryz.pinned (OpenSpec.ofChange fnExactSubspaceOfSpec)

/-- ITS FALSE NEIGHBOUR: 'it returns false'. Refute it at one input. -/
def fnExactSubspaceOfWrong : ChangeSpec := { name := "fnExactSubspaceOf", fn := fun _ => fun
  | [d1, d2] => { results := [.lit (.bool false)], args := [d1, d2] }
  | _ => none }
def FnExactSubspaceOfWrongFalsely : Prop := fnExactSubspaceOfRow.holds Tryz.pinned (OpenSpec.ofChange fnExactSubspaceOfWrong)

/-- 'laws.FnExactJoinOf': WHATEVER THE INPUT: true; the input reads as it did. -/
def fnExactJoinOfSpec : ChangeSpec := { name := "fnExactJoinOf", fn := fun _ => fun
  | [d1, d2, d3] => { results := [.lit (.bool true)], args := [d1, d2, d3] }
  | _ => none }
def fnExactJoinOfRow : OpenClaim := { program := "ytommppijnccomaagreat", sum := "d50b6603acbbb0fc736df57a251a8953cbb4939615c90e9fdf43d40df8444090", func := "loop.example/g01124/laws.FnExactJoinOf", spec := "fnExactJoinOf", unfollowed := true, recurses := true, apart := false }
def FnExactJoinOfSaid : Prop := fnExactJoinOfRow.holds Tryz.pinned (OpenSpec.ofChange fnExactJoinOfSpec)

/-- ITS FALSE NEIGHBOUR: 'it returns false'. Refute it at one input. -/
def fnExactJoinOfWrong : ChangeSpec := { name := "fnExactJoinOf", fn := fun _ => fun
  | [d1, d2, d3] => { results := [.lit (.bool false)], args := [d1, d2, d3] }
  | _ => none }
def FnExactJoinOfWrongFalsely : Prop := fnExactJoinOfRow.holds Tryz.pinned (OpenSpec.ofChange fnExactJoinOfWrong)

/-- 'laws.FnExactProjectOnto': WHATEVER THE INPUT: true; the input reads as it did. -/
def fnExactProjectOntoSpec : ChangeSpec := { name := "fnExactProjectOnto", fn := fun _ => fun
  | [d1, d2, d3] => { results := [.lit (.bool true)], args := [d1, d2, d3] }
  | _ => none }
def fnExactProjectOntoRow : OpenClaim := { program := "ytommppijnccomaagreat", sum := "d50b6603acbbb0fc736df57a251a8953cbb4939615c90e9fdf43d40df8444090", func := "loop.example/g01124/laws.FnExactProjectOnto", spec := "fnExactProjectOnto", unfollowed := true, recurses := true, apart := false }
def FnExactProjectOntoSaid : Prop := fnExactProjectOntoRow.holds Tryz.pinned (OpenSpec.ofChange fnExactProjectOntoSpec)

/-- ITS FALSE NEIGHBOUR: 'it returns false'. Refute it at one input. -/
def fnExactProjectOntoWrong : ChangeSpec := { name := "fnExactProjectOnto", fn := fun _ => fun
  | [d1, d2, d3] => { results := [.lit (.bool false)], args := [d1, d2, d3] }
  | _ => none }
def FnExactProjectOntoWrongFalsely : Prop := fnExactProjectOntoRow.holds Tryz.pinned (OpenSpec.ofChange fnExactProjectOntoWrong)

/-- 'laws.FnExactCommonBlade': WHATEVER THE INPUT: true; the input reads as it did. -/
def fnExactCommonBladeSpec : ChangeSpec := { name := "fnExactCommonBlade", fn := fun _ => fun
  | [d1, d2, d3] => { results := [.lit (.bool true)], args := [d1, d2, d3] }
  | _ => none }
def fnExactCommonBladeRow : OpenClaim := { program := "ytommppijnccomaagreat", sum := "d50b6603acbbb0fc736df57a251a8953cbb4939615c90e9fdf43d40df8444090", func := "loop.example/g01124/laws.FnExactCommonBlade", spec := "fnExactCommonBlade", unfollowed := true, recurses := true, apart := false }
def FnExactCommonBladeSaid : Prop := fnExactCommonBladeRow.holds Tryz.pinned (OpenSpec.ofChange fnExactCommonBladeSpec)

/-- ITS FALSE NEIGHBOUR: 'it returns false'. Refute it at one input. -/
def fnExactCommonBladeWrong : ChangeSpec := { name := "fnExactCommonBlade", fn := fun _ => fun
  | [d1, d2, d3] => { results := [.lit (.bool false)], args := [d1, d2, d3] }
  | _ => none }
def FnExactCommonBladeWrongFalsely : Prop := fnExactCommonBladeRow.holds Tryz.pinned (OpenSpec.ofChange fnExactCommonBladeWrong)

/-- 'laws.FnExactOrthogonalBlade': WHATEVER THE INPUT: true; the input reads as it did. -/
def fnExactOrthogonalBladeSpec : ChangeSpec := { name := "fnExactOrthogonalBlade", fn := fun _ => fun
  | [d1, d2] => { results := [.lit (.bool true)], args := [d1, d2] }
  | _ => none }
def fnExactOrthogonalBladeRow : OpenClaim := { program := "ytommppijnccomaagreat", sum := "d50b6603acbbb0fc736df57a251a8953cbb4939615c90e9fdf43d40df8444090", func := "loop.example/g01124/laws.FnExactOrthogonalBlade", spec := "fnExactOrthogonalBlade", unfollowed := true, recurses := true, apart := false }
def FnExactOrthogonalBladeSaid : Prop := fnExactOrthogonalBladeRow.holds Tryz.pinned (OpenSpec.ofChange fnExactOrthogonalBladeSpec)

/-- ITS FALSE NEIGHBOUR: 'it returns false'. Refute it at one input. -/
def fnExactOrthogonalBladeWrong : ChangeSpec := { name := "fnExactOrthogonalBlade", fn := fun _ => fun
  | [d1, d2] => { results := [.lit (.bool false)], args := [d1, d2] }
  | _ => none }
def FnExactOrthogonalBladeWrongFalsely : Prop := fnExactOrthogonalBladeRow.holds Tryz.pinned (OpenSpec.ofChange fnExactOrthogonalBladeWrong)

/-- 'laws.FnExactRejectFrom': WHATEVER THE INPUT: true; the input reads as it did. -/
def fnExactRejectFromSpec : ChangeSpec := { name := "fnExactRejectFrom", fn := fun _ => fun
  | [d1, d2, d3] => { results := [.lit (.bool true)], args := [d1, d2, d3] }
  | _ => none }
def fnExactRejectFromRow : OpenClaim := { program := "ytommppijnccomaagreat", sum := "d50b6603acbbb0fc736df57a251a8953cbb4939615c90e9fdf43d40df8444090", func := "loop.example/g01124/laws.FnExactRejectFrom", spec := "fnExactRejectFrom", unfollowed := true, recurses := true, apart := false }
def FnExactRejectFromSaid : Prop := fnExactRejectFromRow.holds Tryz.pinned (OpenSpec.ofChange fnExactRejectFromSpec)

/-- ITS FALSE NEIGHBOUR: 'it returns false'. Refute it at one input. -/
def fnExactRejectFromWrong : ChangeSpec := { name := "fnExactRejectFrom", fn := fun _ => fun
  | [d1, d2, d3] => { results := [.lit (.bool false)], args := [d1, d2, d3] }
  | _ => none }
def FnExactRejectFromWrongFalsely : Prop := fnExactRejectFromRow.holds Tryz.pinned (OpenSpec.ofChange fnExactRejectFromWrong)

/-- 'laws.FnExactReflectInBlade': WHATEVER THE INPUT: true; the input reads as it did. -/
def fnExactReflectInBladeSpec : ChangeSpec := { name := "fnExactReflectInBlade", fn := fun _ => fun
  | [d1, d2, d3] => { results := [.lit (.bool true)], args := [d1, d2, d3] }
  | _ => none }
def fnExactReflectInBladeRow : OpenClaim := { program := "ytommppijnccomaagreat", sum := "d50b6603acbbb0fc736df57a251a8953cbb4939615c90e9fdf43d40df8444090", func := "loop.example/g01124/laws.FnExactReflectInBlade", spec := "fnExactReflectInBlade", unfollowed := true, recurses := true, apart := false }
def FnExactReflectInBladeSaid : Prop := fnExactReflectInBladeRow.holds Tryz.pinned (OpenSpec.ofChange fnExactReflectInBladeSpec)

/-- ITS FALSE NEIGHBOUR: 'it returns false'. Refute it at one input. -/
def fnExactReflectInBladeWrong : ChangeSpec := { name := "fnExactReflectInBlade", fn := fun _ => fun
  | [d1, d2, d3] => { results := [.lit (.bool false)], args := [d1, d2, d3] }
  | _ => none }
def FnExactReflectInBladeWrongFalsely : Prop := fnExactReflectInBladeRow.holds Tryz.pinned (OpenSpec.ofChange fnExactReflectInBladeWrong)

/- THE SECOND FORM. 'bulk': how many values and letters a reading holds, each counted each time it is reached (what is shared counts as often as it is met; a slice's spare places count too). A statement '..UptoSaid' is the law's where the arguments, and the package variables that the reading takes, are together of bulk at most 1048576: NARROWER than '..Said'. Prove '..Said' where nothing that the law and all that it calls make is longer than what came in: it says more and counts as full. Else prove '..UptoSaid'. A law counts once. -/
mutual
def uptoBulk {H : Type} : DataW H → Nat
  | .lit (.string bytes) => bytes.length + 1
  | .lit _ => 1
  | .nil => 1
  | .ptr d => uptoBulk d + 1
  | .slice elems spare => uptoBulkAll elems + uptoBulkAll spare + 1
  | .agg parts => uptoBulkAll parts + 1
  | .iface _ d => uptoBulk d + 1
  | .map entries => uptoBulkEntries entries + 1
  | .held _ => 1
def uptoBulkAll {H : Type} : List (DataW H) → Nat
  | [] => 0
  | d :: r => uptoBulk d + uptoBulkAll r
def uptoBulkEntries {H : Type} : List (Lit × DataW H) → Nat
  | [] => 0
  | x :: r => uptoBulkEntry x + uptoBulkEntries r
def uptoBulkEntry {H : Type} : Lit × DataW H → Nat
  | (.string bytes, d) => bytes.length + uptoBulk d + 1
  | (_, d) => uptoBulk d + 1
 end
def uptoSmall : (H : Type) → List (DataW H) → Bool := fun _ ds => decide (uptoBulkAll ds ≤ 1048576)
def OpenSpec.upto (s : _root_.Go.ChangeSpec) : _root_.Go.OpenSpec := { _root_.Go.OpenSpec.ofChange s with cond := some uptoSmall }

/-- 'laws.FnExactBladeContains', WHERE WHAT IT READS IS OF BULK AT MOST 1048576: true; the input reads as it did. -/
def fnExactBladeContainsUptoRow : OpenClaim := { program := "ytommppijnccomaagreat", sum := "d50b6603acbbb0fc736df57a251a8953cbb4939615c90e9fdf43d40df8444090", func := "loop.example/g01124/laws.FnExactBladeContains", spec := "fnExactBladeContains", unfollowed := true, recurses := true, apart := false, narrowed := true }
def FnExactBladeContainsUptoSaid : Prop := fnExactBladeContainsUptoRow.holds Tryz.pinned (OpenSpec.upto fnExactBladeContainsSpec)

/-- 'laws.FnExactBladeSquare', WHERE WHAT IT READS IS OF BULK AT MOST 1048576: true; the input reads as it did. -/
def fnExactBladeSquareUptoRow : OpenClaim := { program := "ytommppijnccomaagreat", sum := "d50b6603acbbb0fc736df57a251a8953cbb4939615c90e9fdf43d40df8444090", func := "loop.example/g01124/laws.FnExactBladeSquare", spec := "fnExactBladeSquare", unfollowed := true, recurses := true, apart := false, narrowed := true }
def FnExactBladeSquareUptoSaid : Prop := fnExactBladeSquareUptoRow.holds Tryz.pinned (OpenSpec.upto fnExactBladeSquareSpec)

/-- 'laws.FnExactFactorOf', WHERE WHAT IT READS IS OF BULK AT MOST 1048576: true; the input reads as it did. -/
def fnExactFactorOfUptoRow : OpenClaim := { program := "ytommppijnccomaagreat", sum := "d50b6603acbbb0fc736df57a251a8953cbb4939615c90e9fdf43d40df8444090", func := "loop.example/g01124/laws.FnExactFactorOf", spec := "fnExactFactorOf", unfollowed := true, recurses := true, apart := false, narrowed := true }
def FnExactFactorOfUptoSaid : Prop := fnExactFactorOfUptoRow.holds Tryz.pinned (OpenSpec.upto fnExactFactorOfSpec)

/-- 'laws.FnExactAreOrthogonalBlades', WHERE WHAT IT READS IS OF BULK AT MOST 1048576: true; the input reads as it did. -/
def fnExactAreOrthogonalBladesUptoRow : OpenClaim := { program := "ytommppijnccomaagreat", sum := "d50b6603acbbb0fc736df57a251a8953cbb4939615c90e9fdf43d40df8444090", func := "loop.example/g01124/laws.FnExactAreOrthogonalBlades", spec := "fnExactAreOrthogonalBlades", unfollowed := true, recurses := true, apart := false, narrowed := true }
def FnExactAreOrthogonalBladesUptoSaid : Prop := fnExactAreOrthogonalBladesUptoRow.holds Tryz.pinned (OpenSpec.upto fnExactAreOrthogonalBladesSpec)

/-- 'laws.FnExactSubspaceOf', WHERE WHAT IT READS IS OF BULK AT MOST 1048576: true; the input reads as it did. -/
def fnExactSubspaceOfUptoRow : OpenClaim := { program := "ytommppijnccomaagreat", sum := "d50b6603acbbb0fc736df57a251a8953cbb4939615c90e9fdf43d40df8444090", func := "loop.example/g01124/laws.FnExactSubspaceOf", spec := "fnExactSubspaceOf", unfollowed := true, recurses := true, apart := false, narrowed := true }
def FnExactSubspaceOfUptoSaid : Prop := fnExactSubspaceOfUptoRow.holds Tryz.pinned (OpenSpec.upto fnExactSubspaceOfSpec)

/-- 'laws.FnExactJoinOf', WHERE WHAT IT READS IS OF BULK AT MOST 1048576: true; the input reads as it did. -/
def fnExactJoinOfUptoRow : OpenClaim := { program := "ytommppijnccomaagreat", sum := "d50b6603acbbb0fc736df57a251a8953cbb4939615c90e9fdf43d40df8444090", func := "loop.example/g01124/laws.FnExactJoinOf", spec := "fnExactJoinOf", unfollowed := true, recurses := true, apart := false, narrowed := true }
def FnExactJoinOfUptoSaid : Prop := fnExactJoinOfUptoRow.holds Tryz.pinned (OpenSpec.upto fnExactJoinOfSpec)

/-- 'laws.FnExactProjectOnto', WHERE WHAT IT READS IS OF BULK AT MOST 1048576: true; the input reads as it did. -/
def fnExactProjectOntoUptoRow : OpenClaim := { program := "ytommppijnccomaagreat", sum := "d50b6603acbbb0fc736df57a251a8953cbb4939615c90e9fdf43d40df8444090", func := "loop.example/g01124/laws.FnExactProjectOnto", spec := "fnExactProjectOnto", unfollowed := true, recurses := true, apart := false, narrowed := true }
def FnExactProjectOntoUptoSaid : Prop := fnExactProjectOntoUptoRow.holds Tryz.pinned (OpenSpec.upto fnExactProjectOntoSpec)

/-- 'laws.FnExactCommonBlade', WHERE WHAT IT READS IS OF BULK AT MOST 1048576: true; the input reads as it did. -/
def fnExactCommonBladeUptoRow : OpenClaim := { program := "ytommppijnccomaagreat", sum := "d50b6603acbbb0fc736df57a251a8953cbb4939615c90e9fdf43d40df8444090", func := "loop.example/g01124/laws.FnExactCommonBlade", spec := "fnExactCommonBlade", unfollowed := true, recurses := true, apart := false, narrowed := true }
def FnExactCommonBladeUptoSaid : Prop := fnExactCommonBladeUptoRow.holds Tryz.pinned (OpenSpec.upto fnExactCommonBladeSpec)

/-- 'laws.FnExactOrthogonalBlade', WHERE WHAT IT READS IS OF BULK AT MOST 1048576: true; the input reads as it did. -/
def fnExactOrthogonalBladeUptoRow : OpenClaim := { program := "ytommppijnccomaagreat", sum := "d50b6603acbbb0fc736df57a251a8953cbb4939615c90e9fdf43d40df8444090", func := "loop.example/g01124/laws.FnExactOrthogonalBlade", spec := "fnExactOrthogonalBlade", unfollowed := true, recurses := true, apart := false, narrowed := true }
def FnExactOrthogonalBladeUptoSaid : Prop := fnExactOrthogonalBladeUptoRow.holds Tryz.pinned (OpenSpec.upto fnExactOrthogonalBladeSpec)

/-- 'laws.FnExactRejectFrom', WHERE WHAT IT READS IS OF BULK AT MOST 1048576: true; the input reads as it did. -/
def fnExactRejectFromUptoRow : OpenClaim := { program := "ytommppijnccomaagreat", sum := "d50b6603acbbb0fc736df57a251a8953cbb4939615c90e9fdf43d40df8444090", func := "loop.example/g01124/laws.FnExactRejectFrom", spec := "fnExactRejectFrom", unfollowed := true, recurses := true, apart := false, narrowed := true }
def FnExactRejectFromUptoSaid : Prop := fnExactRejectFromUptoRow.holds Tryz.pinned (OpenSpec.upto fnExactRejectFromSpec)

/-- 'laws.FnExactReflectInBlade', WHERE WHAT IT READS IS OF BULK AT MOST 1048576: true; the input reads as it did. -/
def fnExactReflectInBladeUptoRow : OpenClaim := { program := "ytommppijnccomaagreat", sum := "d50b6603acbbb0fc736df57a251a8953cbb4939615c90e9fdf43d40df8444090", func := "loop.example/g01124/laws.FnExactReflectInBlade", spec := "fnExactReflectInBlade", unfollowed := true, recurses := true, apart := false, narrowed := true }
def FnExactReflectInBladeUptoSaid : Prop := fnExactReflectInBladeUptoRow.holds Tryz.pinned (OpenSpec.upto fnExactReflectInBladeSpec)

end Rows
end Go.Proofs.YtommppijnccomaaGreat

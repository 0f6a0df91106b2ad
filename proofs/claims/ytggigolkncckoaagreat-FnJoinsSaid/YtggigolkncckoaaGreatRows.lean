/-
  No cell of these rows narrows 'for every input' (looked for: loops, veiled, ifaces, maps, wideKeys, modest, calm, conditions, laid).
  DERIVED. THE GIVEN ROWS OF THIS SEAT. 12 by the template 'for every input the law returns true; each argument reads behind the call as it read before'; 0 by the template 'total and deterministic' (their statements: YtggigolkncckoaaGreatTotals.lean).
  GIVEN WITH THE SEED: the statements are not yours to turn. If you find one false, say at which input.
  Laid BY PROGRAM, IN A SANDBOX (cutbox-rows.mjs): the forced cells as the released guide's own fill.sh prints them over the translation d152866461035a54… (all of the seat's roots in one cut). By AI agents, Wed Nov 11 2026. No macro, syntax, notation, axiom, sorry.
-/
import Derived.Test.YtggigolkncckoaaGreatChecked
import GoSem.Claim
import GoSem.ClaimJoined
import GoSem.ClaimMapViews
import Derived.JoinedTies
import Derived.KernelRfl
namespace Go.Proofs.YtggigolkncckoaaGreat
/- THE CELL 'sum', in the pinned program and in every row, IS THE sha256 OF THE DUMP (.gsa) THAT YtggigolkncckoaaGreatProg.lean LOADS. Nothing in Lean hashes anything: it is a label: what it is worth is what the hold of that sum in a sandbox is worth. -/
noncomputable def Tryz.pinned : Pinned := { name := "ytggigolkncckoaagreat", sum := "d152866461035a54ccd6864d321c0e21d407b20877ebc7a7dee122e411a76cc5", checked := Tryz.checked }
namespace Rows
def none {H : Type} : Left H := { results := [], args := [] }

/-- 'laws.FnReversals': WHATEVER THE INPUT: true; the input reads as it did. -/
def fnReversalsSpec : ChangeSpec := { name := "fnReversals", fn := fun _ => fun
  | [d] => { results := [.lit (.bool true)], args := [d] }
  | _ => none }
def fnReversalsRow : OpenClaim := { program := "ytggigolkncckoaagreat", sum := "d152866461035a54ccd6864d321c0e21d407b20877ebc7a7dee122e411a76cc5", func := "loop.example/g01124/laws.FnReversals", spec := "fnReversals", unfollowed := true, recurses := true, apart := false }
def FnReversalsSaid : Prop := fnReversalsRow.holds Tryz.pinned (OpenSpec.ofChange fnReversalsSpec)

/-- ITS FALSE NEIGHBOUR: 'it returns false'. Refute it at one input. -/
def fnReversalsWrong : ChangeSpec := { name := "fnReversals", fn := fun _ => fun
  | [d] => { results := [.lit (.bool false)], args := [d] }
  | _ => none }
def FnReversalsWrongFalsely : Prop := fnReversalsRow.holds Tryz.pinned (OpenSpec.ofChange fnReversalsWrong)

/-- 'laws.FnVersorsBetween': WHATEVER THE INPUT: true; the input reads as it did. -/
def fnVersorsBetweenSpec : ChangeSpec := { name := "fnVersorsBetween", fn := fun _ => fun
  | [d] => { results := [.lit (.bool true)], args := [d] }
  | _ => none }
def fnVersorsBetweenRow : OpenClaim := { program := "ytggigolkncckoaagreat", sum := "d152866461035a54ccd6864d321c0e21d407b20877ebc7a7dee122e411a76cc5", func := "loop.example/g01124/laws.FnVersorsBetween", spec := "fnVersorsBetween", unfollowed := true, recurses := true, apart := false }
def FnVersorsBetweenSaid : Prop := fnVersorsBetweenRow.holds Tryz.pinned (OpenSpec.ofChange fnVersorsBetweenSpec)

/-- ITS FALSE NEIGHBOUR: 'it returns false'. Refute it at one input. -/
def fnVersorsBetweenWrong : ChangeSpec := { name := "fnVersorsBetween", fn := fun _ => fun
  | [d] => { results := [.lit (.bool false)], args := [d] }
  | _ => none }
def FnVersorsBetweenWrongFalsely : Prop := fnVersorsBetweenRow.holds Tryz.pinned (OpenSpec.ofChange fnVersorsBetweenWrong)

/-- 'laws.FnVersors': WHATEVER THE INPUT: true; the input reads as it did. -/
def fnVersorsSpec : ChangeSpec := { name := "fnVersors", fn := fun _ => fun
  | [d] => { results := [.lit (.bool true)], args := [d] }
  | _ => none }
def fnVersorsRow : OpenClaim := { program := "ytggigolkncckoaagreat", sum := "d152866461035a54ccd6864d321c0e21d407b20877ebc7a7dee122e411a76cc5", func := "loop.example/g01124/laws.FnVersors", spec := "fnVersors", unfollowed := true, recurses := true, apart := false }
def FnVersorsSaid : Prop := fnVersorsRow.holds Tryz.pinned (OpenSpec.ofChange fnVersorsSpec)

/-- ITS FALSE NEIGHBOUR: 'it returns false'. Refute it at one input. -/
def fnVersorsWrong : ChangeSpec := { name := "fnVersors", fn := fun _ => fun
  | [d] => { results := [.lit (.bool false)], args := [d] }
  | _ => none }
def FnVersorsWrongFalsely : Prop := fnVersorsRow.holds Tryz.pinned (OpenSpec.ofChange fnVersorsWrong)

/-- 'laws.FnSandwiches': WHATEVER THE INPUT: true; the input reads as it did. -/
def fnSandwichesSpec : ChangeSpec := { name := "fnSandwiches", fn := fun _ => fun
  | [d] => { results := [.lit (.bool true)], args := [d] }
  | _ => none }
def fnSandwichesRow : OpenClaim := { program := "ytggigolkncckoaagreat", sum := "d152866461035a54ccd6864d321c0e21d407b20877ebc7a7dee122e411a76cc5", func := "loop.example/g01124/laws.FnSandwiches", spec := "fnSandwiches", unfollowed := true, recurses := true, apart := false }
def FnSandwichesSaid : Prop := fnSandwichesRow.holds Tryz.pinned (OpenSpec.ofChange fnSandwichesSpec)

/-- ITS FALSE NEIGHBOUR: 'it returns false'. Refute it at one input. -/
def fnSandwichesWrong : ChangeSpec := { name := "fnSandwiches", fn := fun _ => fun
  | [d] => { results := [.lit (.bool false)], args := [d] }
  | _ => none }
def FnSandwichesWrongFalsely : Prop := fnSandwichesRow.holds Tryz.pinned (OpenSpec.ofChange fnSandwichesWrong)

/-- 'laws.FnBivectors': WHATEVER THE INPUT: true; the input reads as it did. -/
def fnBivectorsSpec : ChangeSpec := { name := "fnBivectors", fn := fun _ => fun
  | [d] => { results := [.lit (.bool true)], args := [d] }
  | _ => none }
def fnBivectorsRow : OpenClaim := { program := "ytggigolkncckoaagreat", sum := "d152866461035a54ccd6864d321c0e21d407b20877ebc7a7dee122e411a76cc5", func := "loop.example/g01124/laws.FnBivectors", spec := "fnBivectors", unfollowed := true, recurses := true, apart := false }
def FnBivectorsSaid : Prop := fnBivectorsRow.holds Tryz.pinned (OpenSpec.ofChange fnBivectorsSpec)

/-- ITS FALSE NEIGHBOUR: 'it returns false'. Refute it at one input. -/
def fnBivectorsWrong : ChangeSpec := { name := "fnBivectors", fn := fun _ => fun
  | [d] => { results := [.lit (.bool false)], args := [d] }
  | _ => none }
def FnBivectorsWrongFalsely : Prop := fnBivectorsRow.holds Tryz.pinned (OpenSpec.ofChange fnBivectorsWrong)

/-- 'laws.FnCentralizers': WHATEVER THE INPUT: true; the input reads as it did. -/
def fnCentralizersSpec : ChangeSpec := { name := "fnCentralizers", fn := fun _ => fun
  | [d] => { results := [.lit (.bool true)], args := [d] }
  | _ => none }
def fnCentralizersRow : OpenClaim := { program := "ytggigolkncckoaagreat", sum := "d152866461035a54ccd6864d321c0e21d407b20877ebc7a7dee122e411a76cc5", func := "loop.example/g01124/laws.FnCentralizers", spec := "fnCentralizers", unfollowed := true, recurses := true, apart := false }
def FnCentralizersSaid : Prop := fnCentralizersRow.holds Tryz.pinned (OpenSpec.ofChange fnCentralizersSpec)

/-- ITS FALSE NEIGHBOUR: 'it returns false'. Refute it at one input. -/
def fnCentralizersWrong : ChangeSpec := { name := "fnCentralizers", fn := fun _ => fun
  | [d] => { results := [.lit (.bool false)], args := [d] }
  | _ => none }
def FnCentralizersWrongFalsely : Prop := fnCentralizersRow.holds Tryz.pinned (OpenSpec.ofChange fnCentralizersWrong)

/-- 'laws.FnJoins': WHATEVER THE INPUT: true; the input reads as it did. -/
def fnJoinsSpec : ChangeSpec := { name := "fnJoins", fn := fun _ => fun
  | [d] => { results := [.lit (.bool true)], args := [d] }
  | _ => none }
def fnJoinsRow : OpenClaim := { program := "ytggigolkncckoaagreat", sum := "d152866461035a54ccd6864d321c0e21d407b20877ebc7a7dee122e411a76cc5", func := "loop.example/g01124/laws.FnJoins", spec := "fnJoins", unfollowed := true, recurses := true, apart := false }
def FnJoinsSaid : Prop := fnJoinsRow.holds Tryz.pinned (OpenSpec.ofChange fnJoinsSpec)

/-- ITS FALSE NEIGHBOUR: 'it returns false'. Refute it at one input. -/
def fnJoinsWrong : ChangeSpec := { name := "fnJoins", fn := fun _ => fun
  | [d] => { results := [.lit (.bool false)], args := [d] }
  | _ => none }
def FnJoinsWrongFalsely : Prop := fnJoinsRow.holds Tryz.pinned (OpenSpec.ofChange fnJoinsWrong)

/-- 'laws.FnBlades': WHATEVER THE INPUT: true; the input reads as it did. -/
def fnBladesSpec : ChangeSpec := { name := "fnBlades", fn := fun _ => fun
  | [d] => { results := [.lit (.bool true)], args := [d] }
  | _ => none }
def fnBladesRow : OpenClaim := { program := "ytggigolkncckoaagreat", sum := "d152866461035a54ccd6864d321c0e21d407b20877ebc7a7dee122e411a76cc5", func := "loop.example/g01124/laws.FnBlades", spec := "fnBlades", unfollowed := true, recurses := true, apart := false }
def FnBladesSaid : Prop := fnBladesRow.holds Tryz.pinned (OpenSpec.ofChange fnBladesSpec)

/-- ITS FALSE NEIGHBOUR: 'it returns false'. Refute it at one input. -/
def fnBladesWrong : ChangeSpec := { name := "fnBlades", fn := fun _ => fun
  | [d] => { results := [.lit (.bool false)], args := [d] }
  | _ => none }
def FnBladesWrongFalsely : Prop := fnBladesRow.holds Tryz.pinned (OpenSpec.ofChange fnBladesWrong)

/-- 'laws.FnProjections': WHATEVER THE INPUT: true; the input reads as it did. -/
def fnProjectionsSpec : ChangeSpec := { name := "fnProjections", fn := fun _ => fun
  | [d] => { results := [.lit (.bool true)], args := [d] }
  | _ => none }
def fnProjectionsRow : OpenClaim := { program := "ytggigolkncckoaagreat", sum := "d152866461035a54ccd6864d321c0e21d407b20877ebc7a7dee122e411a76cc5", func := "loop.example/g01124/laws.FnProjections", spec := "fnProjections", unfollowed := true, recurses := true, apart := false }
def FnProjectionsSaid : Prop := fnProjectionsRow.holds Tryz.pinned (OpenSpec.ofChange fnProjectionsSpec)

/-- ITS FALSE NEIGHBOUR: 'it returns false'. Refute it at one input. -/
def fnProjectionsWrong : ChangeSpec := { name := "fnProjections", fn := fun _ => fun
  | [d] => { results := [.lit (.bool false)], args := [d] }
  | _ => none }
def FnProjectionsWrongFalsely : Prop := fnProjectionsRow.holds Tryz.pinned (OpenSpec.ofChange fnProjectionsWrong)

/-- 'laws.FnCayleys': WHATEVER THE INPUT: true; the input reads as it did. -/
def fnCayleysSpec : ChangeSpec := { name := "fnCayleys", fn := fun _ => fun
  | [d] => { results := [.lit (.bool true)], args := [d] }
  | _ => none }
def fnCayleysRow : OpenClaim := { program := "ytggigolkncckoaagreat", sum := "d152866461035a54ccd6864d321c0e21d407b20877ebc7a7dee122e411a76cc5", func := "loop.example/g01124/laws.FnCayleys", spec := "fnCayleys", apart := false }
def FnCayleysSaid : Prop := fnCayleysRow.holds Tryz.pinned (OpenSpec.ofChange fnCayleysSpec)

/-- ITS FALSE NEIGHBOUR: 'it returns false'. Refute it at one input. -/
def fnCayleysWrong : ChangeSpec := { name := "fnCayleys", fn := fun _ => fun
  | [d] => { results := [.lit (.bool false)], args := [d] }
  | _ => none }
def FnCayleysWrongFalsely : Prop := fnCayleysRow.holds Tryz.pinned (OpenSpec.ofChange fnCayleysWrong)

/-- 'laws.FnDecompositions': WHATEVER THE INPUT: true; the input reads as it did. -/
def fnDecompositionsSpec : ChangeSpec := { name := "fnDecompositions", fn := fun _ => fun
  | [d] => { results := [.lit (.bool true)], args := [d] }
  | _ => none }
def fnDecompositionsRow : OpenClaim := { program := "ytggigolkncckoaagreat", sum := "d152866461035a54ccd6864d321c0e21d407b20877ebc7a7dee122e411a76cc5", func := "loop.example/g01124/laws.FnDecompositions", spec := "fnDecompositions", unfollowed := true, recurses := true, apart := false }
def FnDecompositionsSaid : Prop := fnDecompositionsRow.holds Tryz.pinned (OpenSpec.ofChange fnDecompositionsSpec)

/-- ITS FALSE NEIGHBOUR: 'it returns false'. Refute it at one input. -/
def fnDecompositionsWrong : ChangeSpec := { name := "fnDecompositions", fn := fun _ => fun
  | [d] => { results := [.lit (.bool false)], args := [d] }
  | _ => none }
def FnDecompositionsWrongFalsely : Prop := fnDecompositionsRow.holds Tryz.pinned (OpenSpec.ofChange fnDecompositionsWrong)

/-- 'laws.FnOrthogonalOrders': WHATEVER THE INPUT: true; the input reads as it did. -/
def fnOrthogonalOrdersSpec : ChangeSpec := { name := "fnOrthogonalOrders", fn := fun _ => fun
  | [d] => { results := [.lit (.bool true)], args := [d] }
  | _ => none }
def fnOrthogonalOrdersRow : OpenClaim := { program := "ytggigolkncckoaagreat", sum := "d152866461035a54ccd6864d321c0e21d407b20877ebc7a7dee122e411a76cc5", func := "loop.example/g01124/laws.FnOrthogonalOrders", spec := "fnOrthogonalOrders", unfollowed := true, recurses := true, apart := false }
def FnOrthogonalOrdersSaid : Prop := fnOrthogonalOrdersRow.holds Tryz.pinned (OpenSpec.ofChange fnOrthogonalOrdersSpec)

/-- ITS FALSE NEIGHBOUR: 'it returns false'. Refute it at one input. -/
def fnOrthogonalOrdersWrong : ChangeSpec := { name := "fnOrthogonalOrders", fn := fun _ => fun
  | [d] => { results := [.lit (.bool false)], args := [d] }
  | _ => none }
def FnOrthogonalOrdersWrongFalsely : Prop := fnOrthogonalOrdersRow.holds Tryz.pinned (OpenSpec.ofChange fnOrthogonalOrdersWrong)

/- THE SECOND FORM. 'bulk': how many values and letters a reading holds, each counted each time it is reached (what is shared counts as often as it is met; a slice's spare places count too). A statement '..UptoSaid' is the law's where the arguments, and the package variables that the reading takes, are together of bulk at most 1048576: NARROWER than '..Said'. Prove '..Said' where nothing that the law and all that it calls make is longer than what came in: it says more and counts as full. Else prove '..UptoSaid'. A law counts once. -/
mutual
def uptoBulk {H : Type} : DataW H → Nat
  | .lit (.string bytes) => bytes.length + 1
  | .lit _ => 1
  | .nil => 1
  | .ptr d => uptoBulk d + 1
  | .slice elems spare => uptoBulkAll elems + uptoBulkAll spare + 1
  | .agg parts => uptoBulkAll parts + 1
  | .iface _ d => uptoBulk d + 1
  | .map entries => uptoBulkEntries entries + 1
  | .held _ => 1
def uptoBulkAll {H : Type} : List (DataW H) → Nat
  | [] => 0
  | d :: r => uptoBulk d + uptoBulkAll r
def uptoBulkEntries {H : Type} : List (Lit × DataW H) → Nat
  | [] => 0
  | x :: r => uptoBulkEntry x + uptoBulkEntries r
def uptoBulkEntry {H : Type} : Lit × DataW H → Nat
  | (.string bytes, d) => bytes.length + uptoBulk d + 1
  | (_, d) => uptoBulk d + 1
 end
def uptoSmall : (H : Type) → List (DataW H) → Bool := fun _ ds => decide (uptoBulkAll ds ≤ 1048576)
def OpenSpec.upto (s : _root_.Go.ChangeSpec) : _root_.Go.OpenSpec := { _root_.Go.OpenSpec.ofChange s with cond := some uptoSmall }

/-- 'laws.FnReversals', WHERE WHAT IT READS IS OF BULK AT MOST 1048576: true; the input reads as it did. -/
def fnReversalsUptoRow : OpenClaim := { program := "ytggigolkncckoaagreat", sum := "d152866461035a54ccd6864d321c0e21d407b20877ebc7a7dee122e411a76cc5", func := "loop.example/g01124/laws.FnReversals", spec := "fnReversals", unfollowed := true, recurses := true, apart := false, narrowed := true }
def FnReversalsUptoSaid : Prop := fnReversalsUptoRow.holds Tryz.pinned (OpenSpec.upto fnReversalsSpec)

/-- 'laws.FnVersorsBetween', WHERE WHAT IT READS IS OF BULK AT MOST 1048576: true; the input reads as it did. -/
def fnVersorsBetweenUptoRow : OpenClaim := { program := "ytggigolkncckoaagreat", sum := "d152866461035a54ccd6864d321c0e21d407b20877ebc7a7dee122e411a76cc5", func := "loop.example/g01124/laws.FnVersorsBetween", spec := "fnVersorsBetween", unfollowed := true, recurses := true, apart := false, narrowed := true }
def FnVersorsBetweenUptoSaid : Prop := fnVersorsBetweenUptoRow.holds Tryz.pinned (OpenSpec.upto fnVersorsBetweenSpec)

/-- 'laws.FnVersors', WHERE WHAT IT READS IS OF BULK AT MOST 1048576: true; the input reads as it did. -/
def fnVersorsUptoRow : OpenClaim := { program := "ytggigolkncckoaagreat", sum := "d152866461035a54ccd6864d321c0e21d407b20877ebc7a7dee122e411a76cc5", func := "loop.example/g01124/laws.FnVersors", spec := "fnVersors", unfollowed := true, recurses := true, apart := false, narrowed := true }
def FnVersorsUptoSaid : Prop := fnVersorsUptoRow.holds Tryz.pinned (OpenSpec.upto fnVersorsSpec)

/-- 'laws.FnSandwiches', WHERE WHAT IT READS IS OF BULK AT MOST 1048576: true; the input reads as it did. -/
def fnSandwichesUptoRow : OpenClaim := { program := "ytggigolkncckoaagreat", sum := "d152866461035a54ccd6864d321c0e21d407b20877ebc7a7dee122e411a76cc5", func := "loop.example/g01124/laws.FnSandwiches", spec := "fnSandwiches", unfollowed := true, recurses := true, apart := false, narrowed := true }
def FnSandwichesUptoSaid : Prop := fnSandwichesUptoRow.holds Tryz.pinned (OpenSpec.upto fnSandwichesSpec)

/-- 'laws.FnBivectors', WHERE WHAT IT READS IS OF BULK AT MOST 1048576: true; the input reads as it did. -/
def fnBivectorsUptoRow : OpenClaim := { program := "ytggigolkncckoaagreat", sum := "d152866461035a54ccd6864d321c0e21d407b20877ebc7a7dee122e411a76cc5", func := "loop.example/g01124/laws.FnBivectors", spec := "fnBivectors", unfollowed := true, recurses := true, apart := false, narrowed := true }
def FnBivectorsUptoSaid : Prop := fnBivectorsUptoRow.holds Tryz.pinned (OpenSpec.upto fnBivectorsSpec)

/-- 'laws.FnCentralizers', WHERE WHAT IT READS IS OF BULK AT MOST 1048576: true; the input reads as it did. -/
def fnCentralizersUptoRow : OpenClaim := { program := "ytggigolkncckoaagreat", sum := "d152866461035a54ccd6864d321c0e21d407b20877ebc7a7dee122e411a76cc5", func := "loop.example/g01124/laws.FnCentralizers", spec := "fnCentralizers", unfollowed := true, recurses := true, apart := false, narrowed := true }
def FnCentralizersUptoSaid : Prop := fnCentralizersUptoRow.holds Tryz.pinned (OpenSpec.upto fnCentralizersSpec)

/-- 'laws.FnJoins', WHERE WHAT IT READS IS OF BULK AT MOST 1048576: true; the input reads as it did. -/
def fnJoinsUptoRow : OpenClaim := { program := "ytggigolkncckoaagreat", sum := "d152866461035a54ccd6864d321c0e21d407b20877ebc7a7dee122e411a76cc5", func := "loop.example/g01124/laws.FnJoins", spec := "fnJoins", unfollowed := true, recurses := true, apart := false, narrowed := true }
def FnJoinsUptoSaid : Prop := fnJoinsUptoRow.holds Tryz.pinned (OpenSpec.upto fnJoinsSpec)

/-- 'laws.FnBlades', WHERE WHAT IT READS IS OF BULK AT MOST 1048576: true; the input reads as it did. -/
def fnBladesUptoRow : OpenClaim := { program := "ytggigolkncckoaagreat", sum := "d152866461035a54ccd6864d321c0e21d407b20877ebc7a7dee122e411a76cc5", func := "loop.example/g01124/laws.FnBlades", spec := "fnBlades", unfollowed := true, recurses := true, apart := false, narrowed := true }
def FnBladesUptoSaid : Prop := fnBladesUptoRow.holds Tryz.pinned (OpenSpec.upto fnBladesSpec)

/-- 'laws.FnProjections', WHERE WHAT IT READS IS OF BULK AT MOST 1048576: true; the input reads as it did. -/
def fnProjectionsUptoRow : OpenClaim := { program := "ytggigolkncckoaagreat", sum := "d152866461035a54ccd6864d321c0e21d407b20877ebc7a7dee122e411a76cc5", func := "loop.example/g01124/laws.FnProjections", spec := "fnProjections", unfollowed := true, recurses := true, apart := false, narrowed := true }
def FnProjectionsUptoSaid : Prop := fnProjectionsUptoRow.holds Tryz.pinned (OpenSpec.upto fnProjectionsSpec)

/-- 'laws.FnCayleys', WHERE WHAT IT READS IS OF BULK AT MOST 1048576: true; the input reads as it did. -/
def fnCayleysUptoRow : OpenClaim := { program := "ytggigolkncckoaagreat", sum := "d152866461035a54ccd6864d321c0e21d407b20877ebc7a7dee122e411a76cc5", func := "loop.example/g01124/laws.FnCayleys", spec := "fnCayleys", apart := false, narrowed := true }
def FnCayleysUptoSaid : Prop := fnCayleysUptoRow.holds Tryz.pinned (OpenSpec.upto fnCayleysSpec)

/-- 'laws.FnDecompositions', WHERE WHAT IT READS IS OF BULK AT MOST 1048576: true; the input reads as it did. -/
def fnDecompositionsUptoRow : OpenClaim := { program := "ytggigolkncckoaagreat", sum := "d152866461035a54ccd6864d321c0e21d407b20877ebc7a7dee122e411a76cc5", func := "loop.example/g01124/laws.FnDecompositions", spec := "fnDecompositions", unfollowed := true, recurses := true, apart := false, narrowed := true }
def FnDecompositionsUptoSaid : Prop := fnDecompositionsUptoRow.holds Tryz.pinned (OpenSpec.upto fnDecompositionsSpec)

/-- 'laws.FnOrthogonalOrders', WHERE WHAT IT READS IS OF BULK AT MOST 1048576: true; the input reads as it did. -/
def fnOrthogonalOrdersUptoRow : OpenClaim := { program := "ytggigolkncckoaagreat", sum := "d152866461035a54ccd6864d321c0e21d407b20877ebc7a7dee122e411a76cc5", func := "loop.example/g01124/laws.FnOrthogonalOrders", spec := "fnOrthogonalOrders", unfollowed := true, recurses := true, apart := false, narrowed := true }
def FnOrthogonalOrdersUptoSaid : Prop := fnOrthogonalOrdersUptoRow.holds Tryz.pinned (OpenSpec.upto fnOrthogonalOrdersSpec)

end Rows
end Go.Proofs.YtggigolkncckoaaGreat

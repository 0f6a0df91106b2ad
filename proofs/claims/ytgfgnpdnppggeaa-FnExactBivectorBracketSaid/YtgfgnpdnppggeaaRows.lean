/-
  No cell of these rows narrows 'for every input' (looked for: loops, veiled, ifaces, maps, wideKeys, modest, calm, conditions, laid).
  DERIVED. THE GIVEN ROWS OF THIS SEAT. 2 by the template 'for every input the law returns true; each argument reads behind the call as it read before'; 0 by the template 'total and deterministic' (their statements: YtgfgnpdnppggeaaTotals.lean).
  GIVEN WITH THE SEED: the statements are not yours to turn. If you find one false, say at which input.
  Laid BY PROGRAM, IN A SANDBOX (cutbox-rows.mjs): the forced cells as the released guide's own fill.sh prints them over the translation b665c2d087d74c25… (all of the seat's roots in one cut). By AI agents, Wed Nov 11 2026. No macro, syntax, notation, axiom, sorry.
-/
import Derived.Test.YtgfgnpdnppggeaaChecked
import GoSem.Claim
import GoSem.ClaimJoined
import GoSem.ClaimMapViews
import Derived.JoinedTies
import Derived.KernelRfl
namespace Go.Proofs.Ytgfgnpdnppggeaa
/- THE CELL 'sum', in the pinned program and in every row, IS THE sha256 OF THE DUMP (.gsa) THAT YtgfgnpdnppggeaaProg.lean LOADS. Nothing in Lean hashes anything: it is a label: what it is worth is what the hold of that sum in a sandbox is worth. -/
noncomputable def Try.pinned : Pinned := { name := "ytgfgnpdnppggeaa", sum := "b665c2d087d74c25657751c6a80d5facc126bb77d345ec9d5e87e00a55f9eab5", checked := Try.checked }
namespace Rows
def none {H : Type} : Left H := { results := [], args := [] }

/-- 'laws.FnExactBivectorBracket': WHATEVER THE INPUT: true; the input reads as it did. -/
def fnExactBivectorBracketSpec : ChangeSpec := { name := "fnExactBivectorBracket", fn := fun _ => fun
  | [d1, d2, d3] => { results := [.lit (.bool true)], args := [d1, d2, d3] }
  | _ => none }
def fnExactBivectorBracketRow : OpenClaim := { program := "ytgfgnpdnppggeaa", sum := "b665c2d087d74c25657751c6a80d5facc126bb77d345ec9d5e87e00a55f9eab5", func := "loop.example/g01124/laws.FnExactBivectorBracket", spec := "fnExactBivectorBracket", unfollowed := true, recurses := true, apart := false }
def FnExactBivectorBracketSaid : Prop := fnExactBivectorBracketRow.holds Try.pinned (OpenSpec.ofChange fnExactBivectorBracketSpec)

/-- ITS FALSE NEIGHBOUR: 'it returns false'. Refute it at one input. -/
def fnExactBivectorBracketWrong : ChangeSpec := { name := "fnExactBivectorBracket", fn := fun _ => fun
  | [d1, d2, d3] => { results := [.lit (.bool false)], args := [d1, d2, d3] }
  | _ => none }
def FnExactBivectorBracketWrongFalsely : Prop := fnExactBivectorBracketRow.holds Try.pinned (OpenSpec.ofChange fnExactBivectorBracketWrong)

/-- 'laws.FnExactIsBlade': WHATEVER THE INPUT: true; the input reads as it did. -/
def fnExactIsBladeSpec : ChangeSpec := { name := "fnExactIsBlade", fn := fun _ => fun
  | [d1, d2] => { results := [.lit (.bool true)], args := [d1, d2] }
  | _ => none }
def fnExactIsBladeRow : OpenClaim := { program := "ytgfgnpdnppggeaa", sum := "b665c2d087d74c25657751c6a80d5facc126bb77d345ec9d5e87e00a55f9eab5", func := "loop.example/g01124/laws.FnExactIsBlade", spec := "fnExactIsBlade", unfollowed := true, recurses := true, apart := false }
def FnExactIsBladeSaid : Prop := fnExactIsBladeRow.holds Try.pinned (OpenSpec.ofChange fnExactIsBladeSpec)

/-- ITS FALSE NEIGHBOUR: 'it returns false'. Refute it at one input. -/
def fnExactIsBladeWrong : ChangeSpec := { name := "fnExactIsBlade", fn := fun _ => fun
  | [d1, d2] => { results := [.lit (.bool false)], args := [d1, d2] }
  | _ => none }
def FnExactIsBladeWrongFalsely : Prop := fnExactIsBladeRow.holds Try.pinned (OpenSpec.ofChange fnExactIsBladeWrong)

/- THE SECOND FORM. 'bulk': how many values and letters a reading holds, each counted each time it is reached (what is shared counts as often as it is met; a slice's spare places count too). A statement '..UptoSaid' is the law's where the arguments, and the package variables that the reading takes, are together of bulk at most 1048576: NARROWER than '..Said'. Prove '..Said' where nothing that the law and all that it calls make is longer than what came in: it says more and counts as full. Else prove '..UptoSaid'. A law counts once. -/
mutual
def uptoBulk {H : Type} : DataW H → Nat
  | .lit (.string bytes) => bytes.length + 1
  | .lit _ => 1
  | .nil => 1
  | .ptr d => uptoBulk d + 1
  | .slice elems spare => uptoBulkAll elems + uptoBulkAll spare + 1
  | .agg parts => uptoBulkAll parts + 1
  | .iface _ d => uptoBulk d + 1
  | .map entries => uptoBulkEntries entries + 1
  | .held _ => 1
def uptoBulkAll {H : Type} : List (DataW H) → Nat
  | [] => 0
  | d :: r => uptoBulk d + uptoBulkAll r
def uptoBulkEntries {H : Type} : List (Lit × DataW H) → Nat
  | [] => 0
  | x :: r => uptoBulkEntry x + uptoBulkEntries r
def uptoBulkEntry {H : Type} : Lit × DataW H → Nat
  | (.string bytes, d) => bytes.length + uptoBulk d + 1
  | (_, d) => uptoBulk d + 1
 end
def uptoSmall : (H : Type) → List (DataW H) → Bool := fun _ ds => decide (uptoBulkAll ds ≤ 1048576)
def OpenSpec.upto (s : _root_.Go.ChangeSpec) : _root_.Go.OpenSpec := { _root_.Go.OpenSpec.ofChange s with cond := some uptoSmall }

/-- 'laws.FnExactBivectorBracket', WHERE WHAT IT READS IS OF BULK AT MOST 1048576: true; the input reads as it did. -/
def fnExactBivectorBracketUptoRow : OpenClaim := { program := "ytgfgnpdnppggeaa", sum := "b665c2d087d74c25657751c6a80d5facc126bb77d345ec9d5e87e00a55f9eab5", func := "loop.example/g01124/laws.FnExactBivectorBracket", spec := "fnExactBivectorBracket", unfollowed := true, recurses := true, apart := false, narrowed := true }
def FnExactBivectorBracketUptoSaid : Prop := fnExactBivectorBracketUptoRow.holds Try.pinned (OpenSpec.upto fnExactBivectorBracketSpec)

/-- 'laws.FnExactIsBlade', WHERE WHAT IT READS IS OF BULK AT MOST 1048576: true; the input reads as it did. -/
def fnExactIsBladeUptoRow : OpenClaim := { program := "ytgfgnpdnppggeaa", sum := "b665c2d087d74c25657751c6a80d5facc126bb77d345ec9d5e87e00a55f9eab5", func := "loop.example/g01124/laws.FnExactIsBlade", spec := "fnExactIsBlade", unfollowed := true, recurses := true, apart := false, narrowed := true }
def FnExactIsBladeUptoSaid : Prop := fnExactIsBladeUptoRow.holds Try.pinned (OpenSpec.upto fnExactIsBladeSpec)

end Rows
end Go.Proofs.Ytgfgnpdnppggeaa

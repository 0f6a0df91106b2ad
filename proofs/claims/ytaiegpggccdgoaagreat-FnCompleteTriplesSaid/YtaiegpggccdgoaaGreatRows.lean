/-
  No cell of these rows narrows 'for every input' (looked for: loops, veiled, ifaces, maps, wideKeys, modest, calm, conditions, laid).
  DERIVED. THE GIVEN ROWS OF THIS SEAT. 3 by the template 'for every input the law returns true; each argument reads behind the call as it read before'; 0 by the template 'total and deterministic' (their statements: YtaiegpggccdgoaaGreatTotals.lean).
  GIVEN WITH THE SEED: the statements are not yours to turn. If you find one false, say at which input.
  Laid BY PROGRAM, IN A SANDBOX (cutbox-rows.mjs): the forced cells as the released guide's own fill.sh prints them over the translation ce292d9cc159b3e2… (all of the seat's roots in one cut). By AI agents, Wed Nov 11 2026. No macro, syntax, notation, axiom, sorry.
-/
import Derived.Test.YtaiegpggccdgoaaGreatChecked
import GoSem.Claim
import GoSem.ClaimJoined
import GoSem.ClaimMapViews
import Derived.JoinedTies
import Derived.KernelRfl
namespace Go.Proofs.YtaiegpggccdgoaaGreat
/- THE CELL 'sum', in the pinned program and in every row, IS THE sha256 OF THE DUMP (.gsa) THAT YtaiegpggccdgoaaGreatProg.lean LOADS. Nothing in Lean hashes anything: it is a label: what it is worth is what the hold of that sum in a sandbox is worth. -/
noncomputable def Tryz.pinned : Pinned := { name := "ytaiegpggccdgoaagreat", sum := "ce292d9cc159b3e2f9176b3cf9934db95b85b384a9727cfd001923f453e3097b", checked := Tryz.checked }
namespace Rows
def none {H : Type} : Left H := { results := [], args := [] }

/-- 'laws.FnTriality': WHATEVER THE INPUT: true; the input reads as it did. -/
def fnTrialitySpec : ChangeSpec := { name := "fnTriality", fn := fun _ => fun
  | [d] => { results := [.lit (.bool true)], args := [d] }
  | _ => none }
def fnTrialityRow : OpenClaim := { program := "ytaiegpggccdgoaagreat", sum := "ce292d9cc159b3e2f9176b3cf9934db95b85b384a9727cfd001923f453e3097b", func := "loop.example/g01124/laws.FnTriality", spec := "fnTriality", unfollowed := true, recurses := true, apart := false }
def FnTrialitySaid : Prop := fnTrialityRow.holds Tryz.pinned (OpenSpec.ofChange fnTrialitySpec)

/-- ITS FALSE NEIGHBOUR: 'it returns false'. Refute it at one input. -/
def fnTrialityWrong : ChangeSpec := { name := "fnTriality", fn := fun _ => fun
  | [d] => { results := [.lit (.bool false)], args := [d] }
  | _ => none }
def FnTrialityWrongFalsely : Prop := fnTrialityRow.holds Tryz.pinned (OpenSpec.ofChange fnTrialityWrong)

/-- 'laws.FnDerivations': WHATEVER THE INPUT: true; the input reads as it did. -/
def fnDerivationsSpec : ChangeSpec := { name := "fnDerivations", fn := fun _ => fun
  | [d] => { results := [.lit (.bool true)], args := [d] }
  | _ => none }
def fnDerivationsRow : OpenClaim := { program := "ytaiegpggccdgoaagreat", sum := "ce292d9cc159b3e2f9176b3cf9934db95b85b384a9727cfd001923f453e3097b", func := "loop.example/g01124/laws.FnDerivations", spec := "fnDerivations", unfollowed := true, recurses := true, apart := false }
def FnDerivationsSaid : Prop := fnDerivationsRow.holds Tryz.pinned (OpenSpec.ofChange fnDerivationsSpec)

/-- ITS FALSE NEIGHBOUR: 'it returns false'. Refute it at one input. -/
def fnDerivationsWrong : ChangeSpec := { name := "fnDerivations", fn := fun _ => fun
  | [d] => { results := [.lit (.bool false)], args := [d] }
  | _ => none }
def FnDerivationsWrongFalsely : Prop := fnDerivationsRow.holds Tryz.pinned (OpenSpec.ofChange fnDerivationsWrong)

/-- 'laws.FnCompleteTriples': WHATEVER THE INPUT: true; the input reads as it did. -/
def fnCompleteTriplesSpec : ChangeSpec := { name := "fnCompleteTriples", fn := fun _ => fun
  | [d] => { results := [.lit (.bool true)], args := [d] }
  | _ => none }
def fnCompleteTriplesRow : OpenClaim := { program := "ytaiegpggccdgoaagreat", sum := "ce292d9cc159b3e2f9176b3cf9934db95b85b384a9727cfd001923f453e3097b", func := "loop.example/g01124/laws.FnCompleteTriples", spec := "fnCompleteTriples", unfollowed := true, recurses := true, apart := false }
def FnCompleteTriplesSaid : Prop := fnCompleteTriplesRow.holds Tryz.pinned (OpenSpec.ofChange fnCompleteTriplesSpec)

/-- ITS FALSE NEIGHBOUR: 'it returns false'. Refute it at one input. -/
def fnCompleteTriplesWrong : ChangeSpec := { name := "fnCompleteTriples", fn := fun _ => fun
  | [d] => { results := [.lit (.bool false)], args := [d] }
  | _ => none }
def FnCompleteTriplesWrongFalsely : Prop := fnCompleteTriplesRow.holds Tryz.pinned (OpenSpec.ofChange fnCompleteTriplesWrong)

/- THE SECOND FORM. 'bulk': how many values and letters a reading holds, each counted each time it is reached (what is shared counts as often as it is met; a slice's spare places count too). A statement '..UptoSaid' is the law's where the arguments, and the package variables that the reading takes, are together of bulk at most 1048576: NARROWER than '..Said'. Prove '..Said' where nothing that the law and all that it calls make is longer than what came in: it says more and counts as full. Else prove '..UptoSaid'. A law counts once. -/
mutual
def uptoBulk {H : Type} : DataW H → Nat
  | .lit (.string bytes) => bytes.length + 1
  | .lit _ => 1
  | .nil => 1
  | .ptr d => uptoBulk d + 1
  | .slice elems spare => uptoBulkAll elems + uptoBulkAll spare + 1
  | .agg parts => uptoBulkAll parts + 1
  | .iface _ d => uptoBulk d + 1
  | .map entries => uptoBulkEntries entries + 1
  | .held _ => 1
def uptoBulkAll {H : Type} : List (DataW H) → Nat
  | [] => 0
  | d :: r => uptoBulk d + uptoBulkAll r
def uptoBulkEntries {H : Type} : List (Lit × DataW H) → Nat
  | [] => 0
  | x :: r => uptoBulkEntry x + uptoBulkEntries r
def uptoBulkEntry {H : Type} : Lit × DataW H → Nat
  | (.string bytes, d) => bytes.length + uptoBulk d + 1
  | (_, d) => uptoBulk d + 1
 end
def uptoSmall : (H : Type) → List (DataW H) → Bool := fun _ ds => decide (uptoBulkAll ds ≤ 1048576)
def OpenSpec.upto (s : _root_.Go.ChangeSpec) : _root_.Go.OpenSpec := { _root_.Go.OpenSpec.ofChange s with cond := some uptoSmall }

/-- 'laws.FnTriality', WHERE WHAT IT READS IS OF BULK AT MOST 1048576: true; the input reads as it did. -/
def fnTrialityUptoRow : OpenClaim := { program := "ytaiegpggccdgoaagreat", sum := "ce292d9cc159b3e2f9176b3cf9934db95b85b384a9727cfd001923f453e3097b", func := "loop.example/g01124/laws.FnTriality", spec := "fnTriality", unfollowed := true, recurses := true, apart := false, narrowed := true }
def FnTrialityUptoSaid : Prop := fnTrialityUptoRow.holds Tryz.pinned (OpenSpec.upto fnTrialitySpec)

/-- 'laws.FnDerivations', WHERE WHAT IT READS IS OF BULK AT MOST 1048576: true; the input reads as it did. -/
def fnDerivationsUptoRow : OpenClaim := { program := "ytaiegpggccdgoaagreat", sum := "ce292d9cc159b3e2f9176b3cf9934db95b85b384a9727cfd001923f453e3097b", func := "loop.example/g01124/laws.FnDerivations", spec := "fnDerivations", unfollowed := true, recurses := true, apart := false, narrowed := true }
def FnDerivationsUptoSaid : Prop := fnDerivationsUptoRow.holds Tryz.pinned (OpenSpec.upto fnDerivationsSpec)

/-- 'laws.FnCompleteTriples', WHERE WHAT IT READS IS OF BULK AT MOST 1048576: true; the input reads as it did. -/
def fnCompleteTriplesUptoRow : OpenClaim := { program := "ytaiegpggccdgoaagreat", sum := "ce292d9cc159b3e2f9176b3cf9934db95b85b384a9727cfd001923f453e3097b", func := "loop.example/g01124/laws.FnCompleteTriples", spec := "fnCompleteTriples", unfollowed := true, recurses := true, apart := false, narrowed := true }
def FnCompleteTriplesUptoSaid : Prop := fnCompleteTriplesUptoRow.holds Tryz.pinned (OpenSpec.upto fnCompleteTriplesSpec)

end Rows
end Go.Proofs.YtaiegpggccdgoaaGreat

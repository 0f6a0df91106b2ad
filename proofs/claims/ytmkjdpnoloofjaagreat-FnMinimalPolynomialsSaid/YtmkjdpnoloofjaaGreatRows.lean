/-
  No cell of these rows narrows 'for every input' (looked for: loops, veiled, ifaces, maps, wideKeys, modest, calm, conditions, laid).
  DERIVED. THE GIVEN ROWS OF THIS SEAT. 5 by the template 'for every input the law returns true; each argument reads behind the call as it read before'; 0 by the template 'total and deterministic' (their statements: YtmkjdpnoloofjaaGreatTotals.lean).
  GIVEN WITH THE SEED: the statements are not yours to turn. If you find one false, say at which input.
  Laid BY PROGRAM, IN A SANDBOX (cutbox-rows.mjs): the forced cells as the released guide's own fill.sh prints them over the translation f0fae91450052d76… (all of the seat's roots in one cut). By AI agents, Wed Nov 11 2026. No macro, syntax, notation, axiom, sorry.
-/
import Derived.Test.YtmkjdpnoloofjaaGreatChecked
import GoSem.Claim
import GoSem.ClaimJoined
import GoSem.ClaimMapViews
import Derived.JoinedTies
import Derived.KernelRfl
namespace Go.Proofs.YtmkjdpnoloofjaaGreat
/- THE CELL 'sum', in the pinned program and in every row, IS THE sha256 OF THE DUMP (.gsa) THAT YtmkjdpnoloofjaaGreatProg.lean LOADS. Nothing in Lean hashes anything: it is a label: what it is worth is what the hold of that sum in a sandbox is worth. -/
noncomputable def Tryz.pinned : Pinned := { name := "ytmkjdpnoloofjaagreat", sum := "f0fae91450052d76e5b2cc9eb02261b1c0dd295122453219d2b5be325b462f75", checked := Tryz.checked }
namespace Rows
def none {H : Type} : Left H := { results := [], args := [] }

/-- 'laws.FnOrthogonalOrders': WHATEVER THE INPUT: true; the input reads as it did. -/
def fnOrthogonalOrdersSpec : ChangeSpec := { name := "fnOrthogonalOrders", fn := fun _ => fun
  | [d] => { results := [.lit (.bool true)], args := [d] }
  | _ => none }
def fnOrthogonalOrdersRow : OpenClaim := { program := "ytmkjdpnoloofjaagreat", sum := "f0fae91450052d76e5b2cc9eb02261b1c0dd295122453219d2b5be325b462f75", func := "loop.example/g01124/laws.FnOrthogonalOrders", spec := "fnOrthogonalOrders", unfollowed := true, recurses := true, apart := false }
def FnOrthogonalOrdersSaid : Prop := fnOrthogonalOrdersRow.holds Tryz.pinned (OpenSpec.ofChange fnOrthogonalOrdersSpec)

/-- ITS FALSE NEIGHBOUR: 'it returns false'. Refute it at one input. -/
def fnOrthogonalOrdersWrong : ChangeSpec := { name := "fnOrthogonalOrders", fn := fun _ => fun
  | [d] => { results := [.lit (.bool false)], args := [d] }
  | _ => none }
def FnOrthogonalOrdersWrongFalsely : Prop := fnOrthogonalOrdersRow.holds Tryz.pinned (OpenSpec.ofChange fnOrthogonalOrdersWrong)

/-- 'laws.FnTop': WHATEVER THE INPUT: true; the input reads as it did. -/
def fnTopSpec : ChangeSpec := { name := "fnTop", fn := fun _ => fun
  | [d] => { results := [.lit (.bool true)], args := [d] }
  | _ => none }
def fnTopRow : OpenClaim := { program := "ytmkjdpnoloofjaagreat", sum := "f0fae91450052d76e5b2cc9eb02261b1c0dd295122453219d2b5be325b462f75", func := "loop.example/g01124/laws.FnTop", spec := "fnTop", unfollowed := true, recurses := true, apart := false }
def FnTopSaid : Prop := fnTopRow.holds Tryz.pinned (OpenSpec.ofChange fnTopSpec)

/-- ITS FALSE NEIGHBOUR: 'it returns false'. Refute it at one input. -/
def fnTopWrong : ChangeSpec := { name := "fnTop", fn := fun _ => fun
  | [d] => { results := [.lit (.bool false)], args := [d] }
  | _ => none }
def FnTopWrongFalsely : Prop := fnTopRow.holds Tryz.pinned (OpenSpec.ofChange fnTopWrong)

/-- 'laws.FnCentres': WHATEVER THE INPUT: true; the input reads as it did. -/
def fnCentresSpec : ChangeSpec := { name := "fnCentres", fn := fun _ => fun
  | [d] => { results := [.lit (.bool true)], args := [d] }
  | _ => none }
def fnCentresRow : OpenClaim := { program := "ytmkjdpnoloofjaagreat", sum := "f0fae91450052d76e5b2cc9eb02261b1c0dd295122453219d2b5be325b462f75", func := "loop.example/g01124/laws.FnCentres", spec := "fnCentres", unfollowed := true, recurses := true, apart := false }
def FnCentresSaid : Prop := fnCentresRow.holds Tryz.pinned (OpenSpec.ofChange fnCentresSpec)

/-- ITS FALSE NEIGHBOUR: 'it returns false'. Refute it at one input. -/
def fnCentresWrong : ChangeSpec := { name := "fnCentres", fn := fun _ => fun
  | [d] => { results := [.lit (.bool false)], args := [d] }
  | _ => none }
def FnCentresWrongFalsely : Prop := fnCentresRow.holds Tryz.pinned (OpenSpec.ofChange fnCentresWrong)

/-- 'laws.FnLeftIdeals': WHATEVER THE INPUT: true; the input reads as it did. -/
def fnLeftIdealsSpec : ChangeSpec := { name := "fnLeftIdeals", fn := fun _ => fun
  | [d] => { results := [.lit (.bool true)], args := [d] }
  | _ => none }
def fnLeftIdealsRow : OpenClaim := { program := "ytmkjdpnoloofjaagreat", sum := "f0fae91450052d76e5b2cc9eb02261b1c0dd295122453219d2b5be325b462f75", func := "loop.example/g01124/laws.FnLeftIdeals", spec := "fnLeftIdeals", unfollowed := true, recurses := true, apart := false }
def FnLeftIdealsSaid : Prop := fnLeftIdealsRow.holds Tryz.pinned (OpenSpec.ofChange fnLeftIdealsSpec)

/-- ITS FALSE NEIGHBOUR: 'it returns false'. Refute it at one input. -/
def fnLeftIdealsWrong : ChangeSpec := { name := "fnLeftIdeals", fn := fun _ => fun
  | [d] => { results := [.lit (.bool false)], args := [d] }
  | _ => none }
def FnLeftIdealsWrongFalsely : Prop := fnLeftIdealsRow.holds Tryz.pinned (OpenSpec.ofChange fnLeftIdealsWrong)

/-- 'laws.FnMinimalPolynomials': WHATEVER THE INPUT: true; the input reads as it did. -/
def fnMinimalPolynomialsSpec : ChangeSpec := { name := "fnMinimalPolynomials", fn := fun _ => fun
  | [d] => { results := [.lit (.bool true)], args := [d] }
  | _ => none }
def fnMinimalPolynomialsRow : OpenClaim := { program := "ytmkjdpnoloofjaagreat", sum := "f0fae91450052d76e5b2cc9eb02261b1c0dd295122453219d2b5be325b462f75", func := "loop.example/g01124/laws.FnMinimalPolynomials", spec := "fnMinimalPolynomials", unfollowed := true, recurses := true, apart := false }
def FnMinimalPolynomialsSaid : Prop := fnMinimalPolynomialsRow.holds Tryz.pinned (OpenSpec.ofChange fnMinimalPolynomialsSpec)

/-- ITS FALSE NEIGHBOUR: 'it returns false'. Refute it at one input. -/
def fnMinimalPolynomialsWrong : ChangeSpec := { name := "fnMinimalPolynomials", fn := fun _ => fun
  | [d] => { results := [.lit (.bool false)], args := [d] }
  | _ => none }
def FnMinimalPolynomialsWrongFalsely : Prop := fnMinimalPolynomialsRow.holds Tryz.pinned (OpenSpec.ofChange fnMinimalPolynomialsWrong)

/- THE SECOND FORM. 'bulk': how many values and letters a reading holds, each counted each time it is reached (what is shared counts as often as it is met; a slice's spare places count too). A statement '..UptoSaid' is the law's where the arguments, and the package variables that the reading takes, are together of bulk at most 1048576: NARROWER than '..Said'. Prove '..Said' where nothing that the law and all that it calls make is longer than what came in: it says more and counts as full. Else prove '..UptoSaid'. A law counts once. -/
mutual
def uptoBulk {H : Type} : DataW H → Nat
  | .lit (.string bytes) => bytes.length + 1
  | .lit _ => 1
  | .nil => 1
  | .ptr d => uptoBulk d + 1
  | .slice elems spare => uptoBulkAll elems + uptoBulkAll spare + 1
  | .agg parts => uptoBulkAll parts + 1
  | .iface _ d => uptoBulk d + 1
  | .map entries => uptoBulkEntries entries + 1
  | .held _ => 1
def uptoBulkAll {H : Type} : List (DataW H) → Nat
  | [] => 0
  | d :: r => uptoBulk d + uptoBulkAll r
def uptoBulkEntries {H : Type} : List (Lit × DataW H) → Nat
  | [] => 0
  | x :: r => uptoBulkEntry x + uptoBulkEntries r
def uptoBulkEntry {H : Type} : Lit × DataW H → Nat
  | (.string bytes, d) => bytes.length + uptoBulk d + 1
  | (_, d) => uptoBulk d + 1
 end
def uptoSmall : (H : Type) → List (DataW H) → Bool := fun _ ds => decide (uptoBulkAll ds ≤ 1048576)
def OpenSpec.upto (s : _root_.Go.ChangeSpec) : _root_.Go.OpenSpec := { _root_.Go.OpenSpec.ofChange s with cond := some uptoSmall }

/-- 'laws.FnOrthogonalOrders', WHERE WHAT IT READS IS OF BULK AT MOST 1048576: true; the input reads as it did. -/
def fnOrthogonalOrdersUptoRow : OpenClaim := { program := "ytmkjdpnoloofjaagreat", sum := "f0fae91450052d76e5b2cc9eb02261b1c0dd295122453219d2b5be325b462f75", func := "loop.example/g01124/laws.FnOrthogonalOrders", spec := "fnOrthogonalOrders", unfollowed := true, recurses := true, apart := false, narrowed := true }
def FnOrthogonalOrdersUptoSaid : Prop := fnOrthogonalOrdersUptoRow.holds Tryz.pinned (OpenSpec.upto fnOrthogonalOrdersSpec)

/-- 'laws.FnTop', WHERE WHAT IT READS IS OF BULK AT MOST 1048576: true; the input reads as it did. -/
def fnTopUptoRow : OpenClaim := { program := "ytmkjdpnoloofjaagreat", sum := "f0fae91450052d76e5b2cc9eb02261b1c0dd295122453219d2b5be325b462f75", func := "loop.example/g01124/laws.FnTop", spec := "fnTop", unfollowed := true, recurses := true, apart := false, narrowed := true }
def FnTopUptoSaid : Prop := fnTopUptoRow.holds Tryz.pinned (OpenSpec.upto fnTopSpec)

/-- 'laws.FnCentres', WHERE WHAT IT READS IS OF BULK AT MOST 1048576: true; the input reads as it did. -/
def fnCentresUptoRow : OpenClaim := { program := "ytmkjdpnoloofjaagreat", sum := "f0fae91450052d76e5b2cc9eb02261b1c0dd295122453219d2b5be325b462f75", func := "loop.example/g01124/laws.FnCentres", spec := "fnCentres", unfollowed := true, recurses := true, apart := false, narrowed := true }
def FnCentresUptoSaid : Prop := fnCentresUptoRow.holds Tryz.pinned (OpenSpec.upto fnCentresSpec)

/-- 'laws.FnLeftIdeals', WHERE WHAT IT READS IS OF BULK AT MOST 1048576: true; the input reads as it did. -/
def fnLeftIdealsUptoRow : OpenClaim := { program := "ytmkjdpnoloofjaagreat", sum := "f0fae91450052d76e5b2cc9eb02261b1c0dd295122453219d2b5be325b462f75", func := "loop.example/g01124/laws.FnLeftIdeals", spec := "fnLeftIdeals", unfollowed := true, recurses := true, apart := false, narrowed := true }
def FnLeftIdealsUptoSaid : Prop := fnLeftIdealsUptoRow.holds Tryz.pinned (OpenSpec.upto fnLeftIdealsSpec)

/-- 'laws.FnMinimalPolynomials', WHERE WHAT IT READS IS OF BULK AT MOST 1048576: true; the input reads as it did. -/
def fnMinimalPolynomialsUptoRow : OpenClaim := { program := "ytmkjdpnoloofjaagreat", sum := "f0fae91450052d76e5b2cc9eb02261b1c0dd295122453219d2b5be325b462f75", func := "loop.example/g01124/laws.FnMinimalPolynomials", spec := "fnMinimalPolynomials", unfollowed := true, recurses := true, apart := false, narrowed := true }
def FnMinimalPolynomialsUptoSaid : Prop := fnMinimalPolynomialsUptoRow.holds Tryz.pinned (OpenSpec.upto fnMinimalPolynomialsSpec)

end Rows
end Go.Proofs.YtmkjdpnoloofjaaGreat

/-
  DERIVED. GIVEN WITH THE SEED: THE CARDS: each row of YticofgmmjecleaaDoorRows.lean that lists a variable, with what it lists TIED to the program's text (the seventh form; the later family's looks); each row that meets fmt, with fmt's text TOLD by the authors' own Lean function (tested against real Go, not proved from fmt's source: count such statements apart). THE CARD IS WHAT COUNTS. Prove the row's statement (the work); the ties are given (YticofgmmjecleaaDoorTie.lean); close each card by the builder's one call (the guide's Derived/Test/ToyasCard.lean, 'card_holds'). Laid BY PROGRAM, IN A SANDBOX (cutbox-door.mjs). By AI agents, Wed Nov 11 2026. No macro, syntax, notation, axiom, sorry.
-/
import Derived.Test.YticofgmmjecleaaDoorRows
import GoSem.ClaimSeven
namespace Go.Proofs.YticofgmmjecleaaDoor
namespace Rows

/-- THE TIED CARD OF 'laws.FnExactParseMultivector'. -/
def fnExactParseMultivectorCard : Claim7 := { stood := { row := fnExactParseMultivectorRow, standIns := [], harness := (true, "c9ba8bb2aa79e86da907cbce162bd53cc3e03b9333e9c5c0962fec61436349f1"), looks := false }, kinds := [], alts := [], laidByText := true, laidKinds := [.data, .data, .data, .data, .pinned], laidTests := true, laidLooks := .later }
def FnExactParseMultivectorCardSaid : Prop := Claim7.holds Tryd.pinned (.plain (OpenSpec.ofChange fnExactParseMultivectorSpec)) fnExactParseMultivectorCard

/-- THE SECOND FORM's CARD OF 'laws.FnExactParseMultivector'. -/
def fnExactParseMultivectorUptoCard : Claim7 := { stood := { row := fnExactParseMultivectorUptoRow, standIns := [], harness := (true, "c9ba8bb2aa79e86da907cbce162bd53cc3e03b9333e9c5c0962fec61436349f1"), looks := false }, kinds := [], alts := [], laidByText := true, laidKinds := [.data, .data, .data, .data, .pinned], laidTests := true, laidLooks := .later }
def FnExactParseMultivectorUptoCardSaid : Prop := Claim7.holds Tryd.pinned (.plain (OpenSpec.upto fnExactParseMultivectorSpec)) fnExactParseMultivectorUptoCard
end Rows
end Go.Proofs.YticofgmmjecleaaDoor

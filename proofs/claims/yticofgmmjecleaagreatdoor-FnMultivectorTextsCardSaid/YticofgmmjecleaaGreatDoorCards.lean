/-
  DERIVED. GIVEN WITH THE SEED: THE CARDS: each row of YticofgmmjecleaaGreatDoorRows.lean that lists a variable, with what it lists TIED to the program's text (the seventh form; the later family's looks); each row that meets fmt, with fmt's text TOLD by the authors' own Lean function (tested against real Go, not proved from fmt's source: count such statements apart). THE CARD IS WHAT COUNTS. Prove the row's statement (the work); the ties are given (YticofgmmjecleaaGreatDoorTie.lean); close each card by the builder's one call (the guide's Derived/Test/ToyasCard.lean, 'card_holds'). Laid BY PROGRAM, IN A SANDBOX (cutbox-door.mjs). By AI agents, Wed Nov 11 2026. No macro, syntax, notation, axiom, sorry.
-/
import Derived.Test.YticofgmmjecleaaGreatDoorRows
import GoSem.ClaimSeven
namespace Go.Proofs.YticofgmmjecleaaGreatDoor
namespace Rows

/-- THE TIED CARD OF 'laws.FnExactIsExpression'. -/
def fnExactIsExpressionCard : Claim7 := { stood := { row := fnExactIsExpressionRow, standIns := [], harness := (true, "5cd77a9a08a84708cddebefb7e660631a992c31ac6ed7f200179c9a4402d0cbe"), looks := true }, kinds := [], alts := [], laidByText := true, laidKinds := [.data, .data, .data, .data, .sentinel, .sentinel, .pinned], laidTests := true, laidLooks := .later }
def FnExactIsExpressionCardSaid : Prop := Claim7.holds Tryz.pinned (.plain (OpenSpec.ofChange fnExactIsExpressionSpec)) fnExactIsExpressionCard

/-- THE TIED CARD OF 'laws.FnExactEvaluateText'. -/
def fnExactEvaluateTextCard : Claim7 := { stood := { row := fnExactEvaluateTextRow, standIns := [], harness := (true, "5cd77a9a08a84708cddebefb7e660631a992c31ac6ed7f200179c9a4402d0cbe"), looks := true }, kinds := [], alts := [], laidByText := true, laidKinds := [.data, .data, .data, .data, .sentinel, .sentinel, .pinned], laidTests := true, laidLooks := .later }
def FnExactEvaluateTextCardSaid : Prop := Claim7.holds Tryz.pinned (.plain (OpenSpec.ofChange fnExactEvaluateTextSpec)) fnExactEvaluateTextCard

/-- THE TIED CARD OF 'laws.FnExactSumOfTexts'. -/
def fnExactSumOfTextsCard : Claim7 := { stood := { row := fnExactSumOfTextsRow, standIns := [], harness := (true, "5cd77a9a08a84708cddebefb7e660631a992c31ac6ed7f200179c9a4402d0cbe"), looks := true }, kinds := [], alts := [], laidByText := true, laidKinds := [.data, .data, .data, .data, .sentinel, .sentinel, .pinned], laidTests := true, laidLooks := .later }
def FnExactSumOfTextsCardSaid : Prop := Claim7.holds Tryz.pinned (.plain (OpenSpec.ofChange fnExactSumOfTextsSpec)) fnExactSumOfTextsCard

/-- THE TIED CARD OF 'laws.FnMultivectorTexts'. -/
def fnMultivectorTextsCard : Claim7 := { stood := { row := fnMultivectorTextsRow, standIns := [], harness := (true, "5cd77a9a08a84708cddebefb7e660631a992c31ac6ed7f200179c9a4402d0cbe"), looks := true }, kinds := [], alts := [], laidByText := true, laidKinds := [.data, .data, .data, .data, .pinned], laidTests := true, laidLooks := .later }
def FnMultivectorTextsCardSaid : Prop := Claim7.holds Tryz.pinned (.plain (OpenSpec.ofChange fnMultivectorTextsSpec)) fnMultivectorTextsCard

/-- THE TIED CARD OF 'laws.FnExpressions'. -/
def fnExpressionsCard : Claim7 := { stood := { row := fnExpressionsRow, standIns := [], harness := (true, "5cd77a9a08a84708cddebefb7e660631a992c31ac6ed7f200179c9a4402d0cbe"), looks := true }, kinds := [], alts := [], laidByText := true, laidKinds := [.data, .data, .data, .data, .sentinel, .sentinel, .pinned], laidTests := true, laidLooks := .later }
def FnExpressionsCardSaid : Prop := Claim7.holds Tryz.pinned (.plain (OpenSpec.ofChange fnExpressionsSpec)) fnExpressionsCard

/-- THE SECOND FORM's CARD OF 'laws.FnExactIsExpression'. -/
def fnExactIsExpressionUptoCard : Claim7 := { stood := { row := fnExactIsExpressionUptoRow, standIns := [], harness := (true, "5cd77a9a08a84708cddebefb7e660631a992c31ac6ed7f200179c9a4402d0cbe"), looks := true }, kinds := [], alts := [], laidByText := true, laidKinds := [.data, .data, .data, .data, .sentinel, .sentinel, .pinned], laidTests := true, laidLooks := .later }
def FnExactIsExpressionUptoCardSaid : Prop := Claim7.holds Tryz.pinned (.plain (OpenSpec.upto fnExactIsExpressionSpec)) fnExactIsExpressionUptoCard

/-- THE SECOND FORM's CARD OF 'laws.FnExactEvaluateText'. -/
def fnExactEvaluateTextUptoCard : Claim7 := { stood := { row := fnExactEvaluateTextUptoRow, standIns := [], harness := (true, "5cd77a9a08a84708cddebefb7e660631a992c31ac6ed7f200179c9a4402d0cbe"), looks := true }, kinds := [], alts := [], laidByText := true, laidKinds := [.data, .data, .data, .data, .sentinel, .sentinel, .pinned], laidTests := true, laidLooks := .later }
def FnExactEvaluateTextUptoCardSaid : Prop := Claim7.holds Tryz.pinned (.plain (OpenSpec.upto fnExactEvaluateTextSpec)) fnExactEvaluateTextUptoCard

/-- THE SECOND FORM's CARD OF 'laws.FnExactSumOfTexts'. -/
def fnExactSumOfTextsUptoCard : Claim7 := { stood := { row := fnExactSumOfTextsUptoRow, standIns := [], harness := (true, "5cd77a9a08a84708cddebefb7e660631a992c31ac6ed7f200179c9a4402d0cbe"), looks := true }, kinds := [], alts := [], laidByText := true, laidKinds := [.data, .data, .data, .data, .sentinel, .sentinel, .pinned], laidTests := true, laidLooks := .later }
def FnExactSumOfTextsUptoCardSaid : Prop := Claim7.holds Tryz.pinned (.plain (OpenSpec.upto fnExactSumOfTextsSpec)) fnExactSumOfTextsUptoCard

/-- THE SECOND FORM's CARD OF 'laws.FnMultivectorTexts'. -/
def fnMultivectorTextsUptoCard : Claim7 := { stood := { row := fnMultivectorTextsUptoRow, standIns := [], harness := (true, "5cd77a9a08a84708cddebefb7e660631a992c31ac6ed7f200179c9a4402d0cbe"), looks := true }, kinds := [], alts := [], laidByText := true, laidKinds := [.data, .data, .data, .data, .pinned], laidTests := true, laidLooks := .later }
def FnMultivectorTextsUptoCardSaid : Prop := Claim7.holds Tryz.pinned (.plain (OpenSpec.upto fnMultivectorTextsSpec)) fnMultivectorTextsUptoCard

/-- THE SECOND FORM's CARD OF 'laws.FnExpressions'. -/
def fnExpressionsUptoCard : Claim7 := { stood := { row := fnExpressionsUptoRow, standIns := [], harness := (true, "5cd77a9a08a84708cddebefb7e660631a992c31ac6ed7f200179c9a4402d0cbe"), looks := true }, kinds := [], alts := [], laidByText := true, laidKinds := [.data, .data, .data, .data, .sentinel, .sentinel, .pinned], laidTests := true, laidLooks := .later }
def FnExpressionsUptoCardSaid : Prop := Claim7.holds Tryz.pinned (.plain (OpenSpec.upto fnExpressionsSpec)) fnExpressionsUptoCard
end Rows
end Go.Proofs.YticofgmmjecleaaGreatDoor

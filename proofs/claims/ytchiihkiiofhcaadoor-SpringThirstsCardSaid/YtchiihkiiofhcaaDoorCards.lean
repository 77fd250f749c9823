/-
  DERIVED. GIVEN WITH THE SEED: THE CARDS: each row of YtchiihkiiofhcaaDoorRows.lean that lists a variable, with what it lists TIED to the program's text (the seventh form; the later family's looks); each row that meets fmt, with fmt's text TOLD by the authors' own Lean function (tested against real Go, not proved from fmt's source: count such statements apart). THE CARD IS WHAT COUNTS. Prove the row's statement (the work); the ties are given (YtchiihkiiofhcaaDoorTie.lean); close each card by the builder's one call (the guide's Derived/Test/ToyasCard.lean, 'card_holds'). Laid BY PROGRAM, IN A SANDBOX (cutbox-door.mjs). By AI agents, Wed Nov 11 2026. No macro, syntax, notation, axiom, sorry.
-/
import Derived.Test.YtchiihkiiofhcaaDoorRows
import GoSem.ClaimSeven
namespace Go.Proofs.YtchiihkiiofhcaaDoor
namespace Rows

/-- THE TIED CARD OF 'cofferlaw06.SpringNews'. -/
def springNewsCard : Claim7 := { stood := { row := springNewsRow, standIns := [], harness := (true, "d5f1c072ef41f54ed5230cdbd95db0eeb1d7c97bdf88404eadea7b4b1862fef1"), looks := false }, kinds := [], alts := [], laidByText := true, laidKinds := [.data, .data, .data, .data], laidTests := true, laidLooks := .later }
def SpringNewsCardSaid : Prop := Claim7.holds Tryd.pinned (.plain (OpenSpec.ofChange springNewsSpec)) springNewsCard

/-- THE TIED CARD OF 'cofferlaw06.SpringPrefixes'. -/
def springPrefixesCard : Claim7 := { stood := { row := springPrefixesRow, standIns := [], harness := (true, "d5f1c072ef41f54ed5230cdbd95db0eeb1d7c97bdf88404eadea7b4b1862fef1"), looks := false }, kinds := [], alts := [], laidByText := true, laidKinds := [.data, .data], laidTests := true, laidLooks := .later }
def SpringPrefixesCardSaid : Prop := Claim7.holds Tryd.pinned (.plain (OpenSpec.ofChange springPrefixesSpec)) springPrefixesCard

/-- THE TIED CARD OF 'cofferlaw06.SpringThirsts'. -/
def springThirstsCard : Claim7 := { stood := { row := springThirstsRow, standIns := [], harness := (true, "d5f1c072ef41f54ed5230cdbd95db0eeb1d7c97bdf88404eadea7b4b1862fef1"), looks := false }, kinds := [], alts := [], laidByText := true, laidKinds := [.data, .data], laidTests := true, laidLooks := .later }
def SpringThirstsCardSaid : Prop := Claim7.holds Tryd.pinned (.plain (OpenSpec.ofChange springThirstsSpec)) springThirstsCard

/-- THE SECOND FORM's CARD OF 'cofferlaw06.SpringNews'. -/
def springNewsUptoCard : Claim7 := { stood := { row := springNewsUptoRow, standIns := [], harness := (true, "d5f1c072ef41f54ed5230cdbd95db0eeb1d7c97bdf88404eadea7b4b1862fef1"), looks := false }, kinds := [], alts := [], laidByText := true, laidKinds := [.data, .data, .data, .data], laidTests := true, laidLooks := .later }
def SpringNewsUptoCardSaid : Prop := Claim7.holds Tryd.pinned (.plain (OpenSpec.upto springNewsSpec)) springNewsUptoCard

/-- THE SECOND FORM's CARD OF 'cofferlaw06.SpringPrefixes'. -/
def springPrefixesUptoCard : Claim7 := { stood := { row := springPrefixesUptoRow, standIns := [], harness := (true, "d5f1c072ef41f54ed5230cdbd95db0eeb1d7c97bdf88404eadea7b4b1862fef1"), looks := false }, kinds := [], alts := [], laidByText := true, laidKinds := [.data, .data], laidTests := true, laidLooks := .later }
def SpringPrefixesUptoCardSaid : Prop := Claim7.holds Tryd.pinned (.plain (OpenSpec.upto springPrefixesSpec)) springPrefixesUptoCard

/-- THE SECOND FORM's CARD OF 'cofferlaw06.SpringThirsts'. -/
def springThirstsUptoCard : Claim7 := { stood := { row := springThirstsUptoRow, standIns := [], harness := (true, "d5f1c072ef41f54ed5230cdbd95db0eeb1d7c97bdf88404eadea7b4b1862fef1"), looks := false }, kinds := [], alts := [], laidByText := true, laidKinds := [.data, .data], laidTests := true, laidLooks := .later }
def SpringThirstsUptoCardSaid : Prop := Claim7.holds Tryd.pinned (.plain (OpenSpec.upto springThirstsSpec)) springThirstsUptoCard
end Rows
end Go.Proofs.YtchiihkiiofhcaaDoor

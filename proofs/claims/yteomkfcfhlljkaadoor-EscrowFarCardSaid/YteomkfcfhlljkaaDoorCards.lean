/-
  DERIVED. GIVEN WITH THE SEED: THE CARDS: each row of YteomkfcfhlljkaaDoorRows.lean that lists a variable, with what it lists TIED to the program's text (the seventh form; the later family's looks); each row that meets fmt, with fmt's text TOLD by the authors' own Lean function (tested against real Go, not proved from fmt's source: count such statements apart). THE CARD IS WHAT COUNTS. Prove the row's statement (the work); the ties are given (YteomkfcfhlljkaaDoorTie.lean); close each card by the builder's one call (the guide's Derived/Test/ToyasCard.lean, 'card_holds'). Laid BY PROGRAM, IN A SANDBOX (cutbox-door.mjs). By AI agents, Wed Nov 11 2026. No macro, syntax, notation, axiom, sorry.
-/
import Derived.Test.YteomkfcfhlljkaaDoorRows
import GoSem.ClaimSeven
namespace Go.Proofs.YteomkfcfhlljkaaDoor
namespace Rows

/-- THE TIED CARD OF 'cofferlaw11.EscrowDeals'. -/
def escrowDealsCard : Claim7 := { stood := { row := escrowDealsRow, standIns := [], harness := (true, "770879708690fed52f29bbb358dee6452f095a89bdbca0d81c71810b82b2a775"), looks := false }, kinds := [], alts := [], laidByText := true, laidKinds := [.data, .data, .data, .data], laidTests := true, laidLooks := .later }
def EscrowDealsCardSaid : Prop := Claim7.holds Tryd.pinned (.plain (OpenSpec.ofChange escrowDealsSpec)) escrowDealsCard

/-- THE TIED CARD OF 'cofferlaw11.EscrowJoins'. -/
def escrowJoinsCard : Claim7 := { stood := { row := escrowJoinsRow, standIns := [], harness := (true, "770879708690fed52f29bbb358dee6452f095a89bdbca0d81c71810b82b2a775"), looks := false }, kinds := [], alts := [], laidByText := true, laidKinds := [.data, .data, .data, .data], laidTests := true, laidLooks := .later }
def EscrowJoinsCardSaid : Prop := Claim7.holds Tryd.pinned (.plain (OpenSpec.ofChange escrowJoinsSpec)) escrowJoinsCard

/-- THE TIED CARD OF 'cofferlaw11.EscrowAny'. -/
def escrowAnyCard : Claim7 := { stood := { row := escrowAnyRow, standIns := [], harness := (true, "770879708690fed52f29bbb358dee6452f095a89bdbca0d81c71810b82b2a775"), looks := false }, kinds := [], alts := [], laidByText := true, laidKinds := [.data, .data], laidTests := true, laidLooks := .later }
def EscrowAnyCardSaid : Prop := Claim7.holds Tryd.pinned (.plain (OpenSpec.ofChange escrowAnySpec)) escrowAnyCard

/-- THE TIED CARD OF 'cofferlaw11.EscrowFar'. -/
def escrowFarCard : Claim7 := { stood := { row := escrowFarRow, standIns := [], harness := (true, "770879708690fed52f29bbb358dee6452f095a89bdbca0d81c71810b82b2a775"), looks := false }, kinds := [], alts := [], laidByText := true, laidKinds := [.data, .data], laidTests := true, laidLooks := .later }
def EscrowFarCardSaid : Prop := Claim7.holds Tryd.pinned (.plain (OpenSpec.ofChange escrowFarSpec)) escrowFarCard

/-- THE TIED CARD OF 'cofferlaw11.EscrowHides'. -/
def escrowHidesCard : Claim7 := { stood := { row := escrowHidesRow, standIns := [], harness := (true, "770879708690fed52f29bbb358dee6452f095a89bdbca0d81c71810b82b2a775"), looks := false }, kinds := [], alts := [], laidByText := true, laidKinds := [.data, .data], laidTests := true, laidLooks := .later }
def EscrowHidesCardSaid : Prop := Claim7.holds Tryd.pinned (.plain (OpenSpec.ofChange escrowHidesSpec)) escrowHidesCard

/-- THE TIED CARD OF 'cofferlaw11.EscrowSplits'. -/
def escrowSplitsCard : Claim7 := { stood := { row := escrowSplitsRow, standIns := [], harness := (true, "770879708690fed52f29bbb358dee6452f095a89bdbca0d81c71810b82b2a775"), looks := false }, kinds := [], alts := [], laidByText := true, laidKinds := [.data, .data, .data, .data], laidTests := true, laidLooks := .later }
def EscrowSplitsCardSaid : Prop := Claim7.holds Tryd.pinned (.plain (OpenSpec.ofChange escrowSplitsSpec)) escrowSplitsCard

/-- THE TIED CARD OF 'cofferlaw11.EscrowMended'. -/
def escrowMendedCard : Claim7 := { stood := { row := escrowMendedRow, standIns := [], harness := (true, "770879708690fed52f29bbb358dee6452f095a89bdbca0d81c71810b82b2a775"), looks := false }, kinds := [], alts := [], laidByText := true, laidKinds := [.data, .data], laidTests := true, laidLooks := .later }
def EscrowMendedCardSaid : Prop := Claim7.holds Tryd.pinned (.plain (OpenSpec.ofChange escrowMendedSpec)) escrowMendedCard

/-- THE TIED CARD OF 'cofferlaw11.EscrowExtends'. -/
def escrowExtendsCard : Claim7 := { stood := { row := escrowExtendsRow, standIns := [], harness := (true, "770879708690fed52f29bbb358dee6452f095a89bdbca0d81c71810b82b2a775"), looks := false }, kinds := [], alts := [], laidByText := true, laidKinds := [.data, .data], laidTests := true, laidLooks := .later }
def EscrowExtendsCardSaid : Prop := Claim7.holds Tryd.pinned (.plain (OpenSpec.ofChange escrowExtendsSpec)) escrowExtendsCard

/-- THE TIED CARD OF 'cofferlaw11.EscrowDrawn'. -/
def escrowDrawnCard : Claim7 := { stood := { row := escrowDrawnRow, standIns := [], harness := (true, "770879708690fed52f29bbb358dee6452f095a89bdbca0d81c71810b82b2a775"), looks := false }, kinds := [], alts := [], laidByText := true, laidKinds := [.data, .data], laidTests := true, laidLooks := .later }
def EscrowDrawnCardSaid : Prop := Claim7.holds Tryd.pinned (.plain (OpenSpec.ofChange escrowDrawnSpec)) escrowDrawnCard

/-- THE SECOND FORM's CARD OF 'cofferlaw11.EscrowDeals'. -/
def escrowDealsUptoCard : Claim7 := { stood := { row := escrowDealsUptoRow, standIns := [], harness := (true, "770879708690fed52f29bbb358dee6452f095a89bdbca0d81c71810b82b2a775"), looks := false }, kinds := [], alts := [], laidByText := true, laidKinds := [.data, .data, .data, .data], laidTests := true, laidLooks := .later }
def EscrowDealsUptoCardSaid : Prop := Claim7.holds Tryd.pinned (.plain (OpenSpec.upto escrowDealsSpec)) escrowDealsUptoCard

/-- THE SECOND FORM's CARD OF 'cofferlaw11.EscrowJoins'. -/
def escrowJoinsUptoCard : Claim7 := { stood := { row := escrowJoinsUptoRow, standIns := [], harness := (true, "770879708690fed52f29bbb358dee6452f095a89bdbca0d81c71810b82b2a775"), looks := false }, kinds := [], alts := [], laidByText := true, laidKinds := [.data, .data, .data, .data], laidTests := true, laidLooks := .later }
def EscrowJoinsUptoCardSaid : Prop := Claim7.holds Tryd.pinned (.plain (OpenSpec.upto escrowJoinsSpec)) escrowJoinsUptoCard

/-- THE SECOND FORM's CARD OF 'cofferlaw11.EscrowAny'. -/
def escrowAnyUptoCard : Claim7 := { stood := { row := escrowAnyUptoRow, standIns := [], harness := (true, "770879708690fed52f29bbb358dee6452f095a89bdbca0d81c71810b82b2a775"), looks := false }, kinds := [], alts := [], laidByText := true, laidKinds := [.data, .data], laidTests := true, laidLooks := .later }
def EscrowAnyUptoCardSaid : Prop := Claim7.holds Tryd.pinned (.plain (OpenSpec.upto escrowAnySpec)) escrowAnyUptoCard

/-- THE SECOND FORM's CARD OF 'cofferlaw11.EscrowFar'. -/
def escrowFarUptoCard : Claim7 := { stood := { row := escrowFarUptoRow, standIns := [], harness := (true, "770879708690fed52f29bbb358dee6452f095a89bdbca0d81c71810b82b2a775"), looks := false }, kinds := [], alts := [], laidByText := true, laidKinds := [.data, .data], laidTests := true, laidLooks := .later }
def EscrowFarUptoCardSaid : Prop := Claim7.holds Tryd.pinned (.plain (OpenSpec.upto escrowFarSpec)) escrowFarUptoCard

/-- THE SECOND FORM's CARD OF 'cofferlaw11.EscrowHides'. -/
def escrowHidesUptoCard : Claim7 := { stood := { row := escrowHidesUptoRow, standIns := [], harness := (true, "770879708690fed52f29bbb358dee6452f095a89bdbca0d81c71810b82b2a775"), looks := false }, kinds := [], alts := [], laidByText := true, laidKinds := [.data, .data], laidTests := true, laidLooks := .later }
def EscrowHidesUptoCardSaid : Prop := Claim7.holds Tryd.pinned (.plain (OpenSpec.upto escrowHidesSpec)) escrowHidesUptoCard

/-- THE SECOND FORM's CARD OF 'cofferlaw11.EscrowSplits'. -/
def escrowSplitsUptoCard : Claim7 := { stood := { row := escrowSplitsUptoRow, standIns := [], harness := (true, "770879708690fed52f29bbb358dee6452f095a89bdbca0d81c71810b82b2a775"), looks := false }, kinds := [], alts := [], laidByText := true, laidKinds := [.data, .data, .data, .data], laidTests := true, laidLooks := .later }
def EscrowSplitsUptoCardSaid : Prop := Claim7.holds Tryd.pinned (.plain (OpenSpec.upto escrowSplitsSpec)) escrowSplitsUptoCard

/-- THE SECOND FORM's CARD OF 'cofferlaw11.EscrowMended'. -/
def escrowMendedUptoCard : Claim7 := { stood := { row := escrowMendedUptoRow, standIns := [], harness := (true, "770879708690fed52f29bbb358dee6452f095a89bdbca0d81c71810b82b2a775"), looks := false }, kinds := [], alts := [], laidByText := true, laidKinds := [.data, .data], laidTests := true, laidLooks := .later }
def EscrowMendedUptoCardSaid : Prop := Claim7.holds Tryd.pinned (.plain (OpenSpec.upto escrowMendedSpec)) escrowMendedUptoCard

/-- THE SECOND FORM's CARD OF 'cofferlaw11.EscrowExtends'. -/
def escrowExtendsUptoCard : Claim7 := { stood := { row := escrowExtendsUptoRow, standIns := [], harness := (true, "770879708690fed52f29bbb358dee6452f095a89bdbca0d81c71810b82b2a775"), looks := false }, kinds := [], alts := [], laidByText := true, laidKinds := [.data, .data], laidTests := true, laidLooks := .later }
def EscrowExtendsUptoCardSaid : Prop := Claim7.holds Tryd.pinned (.plain (OpenSpec.upto escrowExtendsSpec)) escrowExtendsUptoCard

/-- THE SECOND FORM's CARD OF 'cofferlaw11.EscrowDrawn'. -/
def escrowDrawnUptoCard : Claim7 := { stood := { row := escrowDrawnUptoRow, standIns := [], harness := (true, "770879708690fed52f29bbb358dee6452f095a89bdbca0d81c71810b82b2a775"), looks := false }, kinds := [], alts := [], laidByText := true, laidKinds := [.data, .data], laidTests := true, laidLooks := .later }
def EscrowDrawnUptoCardSaid : Prop := Claim7.holds Tryd.pinned (.plain (OpenSpec.upto escrowDrawnSpec)) escrowDrawnUptoCard
end Rows
end Go.Proofs.YteomkfcfhlljkaaDoor

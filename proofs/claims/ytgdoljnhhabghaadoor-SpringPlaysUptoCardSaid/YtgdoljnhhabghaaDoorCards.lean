/-
  DERIVED. GIVEN WITH THE SEED: THE CARDS: each row of YtgdoljnhhabghaaDoorRows.lean that lists a variable, with what it lists TIED to the program's text (the seventh form; the later family's looks); each row that meets fmt, with fmt's text TOLD by the authors' own Lean function (tested against real Go, not proved from fmt's source: count such statements apart). THE CARD IS WHAT COUNTS. Prove the row's statement (the work); the ties are given (YtgdoljnhhabghaaDoorTie.lean); close each card by the builder's one call (the guide's Derived/Test/ToyasCard.lean, 'card_holds'). Laid BY PROGRAM, IN A SANDBOX (cutbox-door.mjs). By AI agents, Wed Nov 11 2026. No macro, syntax, notation, axiom, sorry.
-/
import Derived.Test.YtgdoljnhhabghaaDoorRows
import GoSem.ClaimSeven
namespace Go.Proofs.YtgdoljnhhabghaaDoor
namespace Rows

/-- THE TIED CARD OF 'cofferlaw06.SpringRepeats'. -/
def springRepeatsCard : Claim7 := { stood := { row := springRepeatsRow, standIns := [], harness := (true, "0cd06caa68a62ac13e0bf8a3100e5c1b61d0505d06987ba797fc2a25e147c429"), looks := false }, kinds := [], alts := [], laidByText := true, laidKinds := [.data, .data], laidTests := true, laidLooks := .later }
def SpringRepeatsCardSaid : Prop := Claim7.holds Tryd.pinned (.plain (OpenSpec.ofChange springRepeatsSpec)) springRepeatsCard

/-- THE TIED CARD OF 'cofferlaw06.SpringPlays'. -/
def springPlaysCard : Claim7 := { stood := { row := springPlaysRow, standIns := [], harness := (true, "0cd06caa68a62ac13e0bf8a3100e5c1b61d0505d06987ba797fc2a25e147c429"), looks := false }, kinds := [], alts := [], laidByText := true, laidKinds := [.data, .data, .data, .data], laidTests := true, laidLooks := .later }
def SpringPlaysCardSaid : Prop := Claim7.holds Tryd.pinned (.plain (OpenSpec.ofChange springPlaysSpec)) springPlaysCard

/-- THE SECOND FORM's CARD OF 'cofferlaw06.SpringRepeats'. -/
def springRepeatsUptoCard : Claim7 := { stood := { row := springRepeatsUptoRow, standIns := [], harness := (true, "0cd06caa68a62ac13e0bf8a3100e5c1b61d0505d06987ba797fc2a25e147c429"), looks := false }, kinds := [], alts := [], laidByText := true, laidKinds := [.data, .data], laidTests := true, laidLooks := .later }
def SpringRepeatsUptoCardSaid : Prop := Claim7.holds Tryd.pinned (.plain (OpenSpec.upto springRepeatsSpec)) springRepeatsUptoCard

/-- THE SECOND FORM's CARD OF 'cofferlaw06.SpringPlays'. -/
def springPlaysUptoCard : Claim7 := { stood := { row := springPlaysUptoRow, standIns := [], harness := (true, "0cd06caa68a62ac13e0bf8a3100e5c1b61d0505d06987ba797fc2a25e147c429"), looks := false }, kinds := [], alts := [], laidByText := true, laidKinds := [.data, .data, .data, .data], laidTests := true, laidLooks := .later }
def SpringPlaysUptoCardSaid : Prop := Claim7.holds Tryd.pinned (.plain (OpenSpec.upto springPlaysSpec)) springPlaysUptoCard
end Rows
end Go.Proofs.YtgdoljnhhabghaaDoor

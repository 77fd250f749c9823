/-
  DERIVED. GIVEN WITH THE SEED: THE CARDS: each row of YtcfolhdacolbjaaDoorRows.lean that lists a variable, with what it lists TIED to the program's text (the seventh form; the later family's looks); each row that meets fmt, with fmt's text TOLD by the authors' own Lean function (tested against real Go, not proved from fmt's source: count such statements apart). THE CARD IS WHAT COUNTS. Prove the row's statement (the work); the ties are given (YtcfolhdacolbjaaDoorTie.lean); close each card by the builder's one call (the guide's Derived/Test/ToyasCard.lean, 'card_holds'). Laid BY PROGRAM, IN A SANDBOX (cutbox-door.mjs). By AI agents, Wed Nov 11 2026. No macro, syntax, notation, axiom, sorry.
-/
import Derived.Test.YtcfolhdacolbjaaDoorRows
import GoSem.ClaimSeven
namespace Go.Proofs.YtcfolhdacolbjaaDoor
namespace Rows

/-- THE TIED CARD OF 'cofferlaw04.ShredDiffuses'. -/
def shredDiffusesCard : Claim7 := { stood := { row := shredDiffusesRow, standIns := [], harness := (true, "ab20038dd1674f49d5ebc67ddd9c411c8f9c6e4ac52731047d4e16167293c758"), looks := false }, kinds := [], alts := [], laidByText := true, laidKinds := [.data, .data, .data, .data], laidTests := true, laidLooks := .later }
def ShredDiffusesCardSaid : Prop := Claim7.holds Tryd.pinned (.plain (OpenSpec.ofChange shredDiffusesSpec)) shredDiffusesCard

/-- THE TIED CARD OF 'cofferlaw04.ShredMerges'. -/
def shredMergesCard : Claim7 := { stood := { row := shredMergesRow, standIns := [], harness := (true, "ab20038dd1674f49d5ebc67ddd9c411c8f9c6e4ac52731047d4e16167293c758"), looks := false }, kinds := [], alts := [], laidByText := true, laidKinds := [.data, .data, .data, .data], laidTests := true, laidLooks := .later }
def ShredMergesCardSaid : Prop := Claim7.holds Tryd.pinned (.plain (OpenSpec.ofChange shredMergesSpec)) shredMergesCard

/-- THE TIED CARD OF 'cofferlaw04.ShredSplits'. -/
def shredSplitsCard : Claim7 := { stood := { row := shredSplitsRow, standIns := [], harness := (true, "ab20038dd1674f49d5ebc67ddd9c411c8f9c6e4ac52731047d4e16167293c758"), looks := false }, kinds := [], alts := [], laidByText := true, laidKinds := [.data, .data, .data, .data], laidTests := true, laidLooks := .later }
def ShredSplitsCardSaid : Prop := Claim7.holds Tryd.pinned (.plain (OpenSpec.ofChange shredSplitsSpec)) shredSplitsCard

/-- THE TIED CARD OF 'cofferlaw04.ShredBack'. -/
def shredBackCard : Claim7 := { stood := { row := shredBackRow, standIns := [], harness := (true, "ab20038dd1674f49d5ebc67ddd9c411c8f9c6e4ac52731047d4e16167293c758"), looks := false }, kinds := [], alts := [], laidByText := true, laidKinds := [.data, .data], laidTests := true, laidLooks := .later }
def ShredBackCardSaid : Prop := Claim7.holds Tryd.pinned (.plain (OpenSpec.ofChange shredBackSpec)) shredBackCard

/-- THE TIED CARD OF 'cofferlaw04.ShredOne'. -/
def shredOneCard : Claim7 := { stood := { row := shredOneRow, standIns := [], harness := (true, "ab20038dd1674f49d5ebc67ddd9c411c8f9c6e4ac52731047d4e16167293c758"), looks := false }, kinds := [], alts := [], laidByText := true, laidKinds := [.data, .data], laidTests := true, laidLooks := .later }
def ShredOneCardSaid : Prop := Claim7.holds Tryd.pinned (.plain (OpenSpec.ofChange shredOneSpec)) shredOneCard

/-- THE SECOND FORM's CARD OF 'cofferlaw04.ShredDiffuses'. -/
def shredDiffusesUptoCard : Claim7 := { stood := { row := shredDiffusesUptoRow, standIns := [], harness := (true, "ab20038dd1674f49d5ebc67ddd9c411c8f9c6e4ac52731047d4e16167293c758"), looks := false }, kinds := [], alts := [], laidByText := true, laidKinds := [.data, .data, .data, .data], laidTests := true, laidLooks := .later }
def ShredDiffusesUptoCardSaid : Prop := Claim7.holds Tryd.pinned (.plain (OpenSpec.upto shredDiffusesSpec)) shredDiffusesUptoCard

/-- THE SECOND FORM's CARD OF 'cofferlaw04.ShredMerges'. -/
def shredMergesUptoCard : Claim7 := { stood := { row := shredMergesUptoRow, standIns := [], harness := (true, "ab20038dd1674f49d5ebc67ddd9c411c8f9c6e4ac52731047d4e16167293c758"), looks := false }, kinds := [], alts := [], laidByText := true, laidKinds := [.data, .data, .data, .data], laidTests := true, laidLooks := .later }
def ShredMergesUptoCardSaid : Prop := Claim7.holds Tryd.pinned (.plain (OpenSpec.upto shredMergesSpec)) shredMergesUptoCard

/-- THE SECOND FORM's CARD OF 'cofferlaw04.ShredSplits'. -/
def shredSplitsUptoCard : Claim7 := { stood := { row := shredSplitsUptoRow, standIns := [], harness := (true, "ab20038dd1674f49d5ebc67ddd9c411c8f9c6e4ac52731047d4e16167293c758"), looks := false }, kinds := [], alts := [], laidByText := true, laidKinds := [.data, .data, .data, .data], laidTests := true, laidLooks := .later }
def ShredSplitsUptoCardSaid : Prop := Claim7.holds Tryd.pinned (.plain (OpenSpec.upto shredSplitsSpec)) shredSplitsUptoCard

/-- THE SECOND FORM's CARD OF 'cofferlaw04.ShredBack'. -/
def shredBackUptoCard : Claim7 := { stood := { row := shredBackUptoRow, standIns := [], harness := (true, "ab20038dd1674f49d5ebc67ddd9c411c8f9c6e4ac52731047d4e16167293c758"), looks := false }, kinds := [], alts := [], laidByText := true, laidKinds := [.data, .data], laidTests := true, laidLooks := .later }
def ShredBackUptoCardSaid : Prop := Claim7.holds Tryd.pinned (.plain (OpenSpec.upto shredBackSpec)) shredBackUptoCard

/-- THE SECOND FORM's CARD OF 'cofferlaw04.ShredOne'. -/
def shredOneUptoCard : Claim7 := { stood := { row := shredOneUptoRow, standIns := [], harness := (true, "ab20038dd1674f49d5ebc67ddd9c411c8f9c6e4ac52731047d4e16167293c758"), looks := false }, kinds := [], alts := [], laidByText := true, laidKinds := [.data, .data], laidTests := true, laidLooks := .later }
def ShredOneUptoCardSaid : Prop := Claim7.holds Tryd.pinned (.plain (OpenSpec.upto shredOneSpec)) shredOneUptoCard
end Rows
end Go.Proofs.YtcfolhdacolbjaaDoor

/-
  DERIVED. GIVEN WITH THE SEED: THE CARDS: each row of YtfilmbfijaeclaaDoorRows.lean that lists a variable, with what it lists TIED to the program's text (the seventh form; the later family's looks); each row that meets fmt, with fmt's text TOLD by the authors' own Lean function (tested against real Go, not proved from fmt's source: count such statements apart). THE CARD IS WHAT COUNTS. Prove the row's statement (the work); the ties are given (YtfilmbfijaeclaaDoorTie.lean); close each card by the builder's one call (the guide's Derived/Test/ToyasCard.lean, 'card_holds'). Laid BY PROGRAM, IN A SANDBOX (cutbox-door.mjs). By AI agents, Wed Nov 11 2026. No macro, syntax, notation, axiom, sorry.
-/
import Derived.Test.YtfilmbfijaeclaaDoorRows
import GoSem.ClaimSeven
namespace Go.Proofs.YtfilmbfijaeclaaDoor
namespace Rows

/-- THE TIED CARD OF 'cofferlaw02.RijndaelKeys'. -/
def rijndaelKeysCard : Claim7 := { stood := { row := rijndaelKeysRow, standIns := [], harness := (true, "6458f5702f1eb73bcc1252bb6267b077b34d8aadf3e509a3b28fc4abfda1e64a"), looks := false }, kinds := [], alts := [], laidByText := true, laidKinds := [.data], laidTests := true, laidLooks := .later }
def RijndaelKeysCardSaid : Prop := Claim7.holds Tryd.pinned (.plain (OpenSpec.ofChange rijndaelKeysSpec)) rijndaelKeysCard

/-- THE TIED CARD OF 'cofferlaw02.RijndaelBlocks'. -/
def rijndaelBlocksCard : Claim7 := { stood := { row := rijndaelBlocksRow, standIns := [], harness := (true, "6458f5702f1eb73bcc1252bb6267b077b34d8aadf3e509a3b28fc4abfda1e64a"), looks := false }, kinds := [], alts := [], laidByText := true, laidKinds := [.data], laidTests := true, laidLooks := .later }
def RijndaelBlocksCardSaid : Prop := Claim7.holds Tryd.pinned (.plain (OpenSpec.ofChange rijndaelBlocksSpec)) rijndaelBlocksCard

/-- THE TIED CARD OF 'cofferlaw02.RijndaelVectors'. -/
def rijndaelVectorsCard : Claim7 := { stood := { row := rijndaelVectorsRow, standIns := [], harness := (true, "6458f5702f1eb73bcc1252bb6267b077b34d8aadf3e509a3b28fc4abfda1e64a"), looks := false }, kinds := [], alts := [], laidByText := true, laidKinds := [.data], laidTests := true, laidLooks := .later }
def RijndaelVectorsCardSaid : Prop := Claim7.holds Tryd.pinned (.plain (OpenSpec.ofChange rijndaelVectorsSpec)) rijndaelVectorsCard

/-- THE TIED CARD OF 'cofferlaw02.RijndaelPieces'. -/
def rijndaelPiecesCard : Claim7 := { stood := { row := rijndaelPiecesRow, standIns := [], harness := (true, "6458f5702f1eb73bcc1252bb6267b077b34d8aadf3e509a3b28fc4abfda1e64a"), looks := false }, kinds := [], alts := [], laidByText := true, laidKinds := [.data], laidTests := true, laidLooks := .later }
def RijndaelPiecesCardSaid : Prop := Claim7.holds Tryd.pinned (.plain (OpenSpec.ofChange rijndaelPiecesSpec)) rijndaelPiecesCard

/-- THE TIED CARD OF 'cofferlaw02.RijndaelBack'. -/
def rijndaelBackCard : Claim7 := { stood := { row := rijndaelBackRow, standIns := [], harness := (true, "6458f5702f1eb73bcc1252bb6267b077b34d8aadf3e509a3b28fc4abfda1e64a"), looks := false }, kinds := [], alts := [], laidByText := true, laidKinds := [.data], laidTests := true, laidLooks := .later }
def RijndaelBackCardSaid : Prop := Claim7.holds Tryd.pinned (.plain (OpenSpec.ofChange rijndaelBackSpec)) rijndaelBackCard

/-- THE TIED CARD OF 'cofferlaw02.RijndaelPlays'. -/
def rijndaelPlaysCard : Claim7 := { stood := { row := rijndaelPlaysRow, standIns := [], harness := (true, "6458f5702f1eb73bcc1252bb6267b077b34d8aadf3e509a3b28fc4abfda1e64a"), looks := false }, kinds := [], alts := [], laidByText := true, laidKinds := [.data], laidTests := true, laidLooks := .later }
def RijndaelPlaysCardSaid : Prop := Claim7.holds Tryd.pinned (.plain (OpenSpec.ofChange rijndaelPlaysSpec)) rijndaelPlaysCard

/-- THE SECOND FORM's CARD OF 'cofferlaw02.RijndaelKeys'. -/
def rijndaelKeysUptoCard : Claim7 := { stood := { row := rijndaelKeysUptoRow, standIns := [], harness := (true, "6458f5702f1eb73bcc1252bb6267b077b34d8aadf3e509a3b28fc4abfda1e64a"), looks := false }, kinds := [], alts := [], laidByText := true, laidKinds := [.data], laidTests := true, laidLooks := .later }
def RijndaelKeysUptoCardSaid : Prop := Claim7.holds Tryd.pinned (.plain (OpenSpec.upto rijndaelKeysSpec)) rijndaelKeysUptoCard

/-- THE SECOND FORM's CARD OF 'cofferlaw02.RijndaelBlocks'. -/
def rijndaelBlocksUptoCard : Claim7 := { stood := { row := rijndaelBlocksUptoRow, standIns := [], harness := (true, "6458f5702f1eb73bcc1252bb6267b077b34d8aadf3e509a3b28fc4abfda1e64a"), looks := false }, kinds := [], alts := [], laidByText := true, laidKinds := [.data], laidTests := true, laidLooks := .later }
def RijndaelBlocksUptoCardSaid : Prop := Claim7.holds Tryd.pinned (.plain (OpenSpec.upto rijndaelBlocksSpec)) rijndaelBlocksUptoCard

/-- THE SECOND FORM's CARD OF 'cofferlaw02.RijndaelVectors'. -/
def rijndaelVectorsUptoCard : Claim7 := { stood := { row := rijndaelVectorsUptoRow, standIns := [], harness := (true, "6458f5702f1eb73bcc1252bb6267b077b34d8aadf3e509a3b28fc4abfda1e64a"), looks := false }, kinds := [], alts := [], laidByText := true, laidKinds := [.data], laidTests := true, laidLooks := .later }
def RijndaelVectorsUptoCardSaid : Prop := Claim7.holds Tryd.pinned (.plain (OpenSpec.upto rijndaelVectorsSpec)) rijndaelVectorsUptoCard

/-- THE SECOND FORM's CARD OF 'cofferlaw02.RijndaelPieces'. -/
def rijndaelPiecesUptoCard : Claim7 := { stood := { row := rijndaelPiecesUptoRow, standIns := [], harness := (true, "6458f5702f1eb73bcc1252bb6267b077b34d8aadf3e509a3b28fc4abfda1e64a"), looks := false }, kinds := [], alts := [], laidByText := true, laidKinds := [.data], laidTests := true, laidLooks := .later }
def RijndaelPiecesUptoCardSaid : Prop := Claim7.holds Tryd.pinned (.plain (OpenSpec.upto rijndaelPiecesSpec)) rijndaelPiecesUptoCard

/-- THE SECOND FORM's CARD OF 'cofferlaw02.RijndaelBack'. -/
def rijndaelBackUptoCard : Claim7 := { stood := { row := rijndaelBackUptoRow, standIns := [], harness := (true, "6458f5702f1eb73bcc1252bb6267b077b34d8aadf3e509a3b28fc4abfda1e64a"), looks := false }, kinds := [], alts := [], laidByText := true, laidKinds := [.data], laidTests := true, laidLooks := .later }
def RijndaelBackUptoCardSaid : Prop := Claim7.holds Tryd.pinned (.plain (OpenSpec.upto rijndaelBackSpec)) rijndaelBackUptoCard

/-- THE SECOND FORM's CARD OF 'cofferlaw02.RijndaelPlays'. -/
def rijndaelPlaysUptoCard : Claim7 := { stood := { row := rijndaelPlaysUptoRow, standIns := [], harness := (true, "6458f5702f1eb73bcc1252bb6267b077b34d8aadf3e509a3b28fc4abfda1e64a"), looks := false }, kinds := [], alts := [], laidByText := true, laidKinds := [.data], laidTests := true, laidLooks := .later }
def RijndaelPlaysUptoCardSaid : Prop := Claim7.holds Tryd.pinned (.plain (OpenSpec.upto rijndaelPlaysSpec)) rijndaelPlaysUptoCard
end Rows
end Go.Proofs.YtfilmbfijaeclaaDoor

/-
  DERIVED. GIVEN WITH THE SEED: THE CARDS: each row of YtgmdbhckccmhjaaDoorRows.lean that lists a variable, with what it lists TIED to the program's text (the seventh form; the later family's looks); each row that meets fmt, with fmt's text TOLD by the authors' own Lean function (tested against real Go, not proved from fmt's source: count such statements apart). THE CARD IS WHAT COUNTS. Prove the row's statement (the work); the ties are given (YtgmdbhckccmhjaaDoorTie.lean); close each card by the builder's one call (the guide's Derived/Test/ToyasCard.lean, 'card_holds'). Laid BY PROGRAM, IN A SANDBOX (cutbox-door.mjs). By AI agents, Wed Nov 11 2026. No macro, syntax, notation, axiom, sorry.
-/
import Derived.Test.YtgmdbhckccmhjaaDoorRows
import GoSem.ClaimSeven
namespace Go.Proofs.YtgmdbhckccmhjaaDoor
namespace Rows

/-- THE TIED CARD OF 'cofferlaw01.DigestSizes'. -/
def digestSizesCard : Claim7 := { stood := { row := digestSizesRow, standIns := [], harness := (true, "7dd68c1cd8acf1e318dff283db383a79832e0b8f05df07e058c7878c8ccdea05"), looks := false }, kinds := [], alts := [], laidByText := true, laidKinds := [.data], laidTests := true, laidLooks := .later }
def DigestSizesCardSaid : Prop := Claim7.holds Tryd.pinned (.plain (OpenSpec.ofChange digestSizesSpec)) digestSizesCard

/-- THE TIED CARD OF 'cofferlaw01.DigestSums'. -/
def digestSumsCard : Claim7 := { stood := { row := digestSumsRow, standIns := [], harness := (true, "7dd68c1cd8acf1e318dff283db383a79832e0b8f05df07e058c7878c8ccdea05"), looks := false }, kinds := [], alts := [], laidByText := true, laidKinds := [.data, .data, .data, .data], laidTests := true, laidLooks := .later }
def DigestSumsCardSaid : Prop := Claim7.holds Tryd.pinned (.plain (OpenSpec.ofChange digestSumsSpec)) digestSumsCard

/-- THE TIED CARD OF 'cofferlaw01.DigestCodes'. -/
def digestCodesCard : Claim7 := { stood := { row := digestCodesRow, standIns := [], harness := (true, "7dd68c1cd8acf1e318dff283db383a79832e0b8f05df07e058c7878c8ccdea05"), looks := false }, kinds := [], alts := [], laidByText := true, laidKinds := [.data, .data, .data, .data], laidTests := true, laidLooks := .later }
def DigestCodesCardSaid : Prop := Claim7.holds Tryd.pinned (.plain (OpenSpec.ofChange digestCodesSpec)) digestCodesCard

/-- THE TIED CARD OF 'cofferlaw01.DigestStretches'. -/
def digestStretchesCard : Claim7 := { stood := { row := digestStretchesRow, standIns := [], harness := (true, "7dd68c1cd8acf1e318dff283db383a79832e0b8f05df07e058c7878c8ccdea05"), looks := false }, kinds := [], alts := [], laidByText := true, laidKinds := [.data, .data, .data, .data], laidTests := true, laidLooks := .later }
def DigestStretchesCardSaid : Prop := Claim7.holds Tryd.pinned (.plain (OpenSpec.ofChange digestStretchesSpec)) digestStretchesCard

/-- THE TIED CARD OF 'cofferlaw01.DigestExpands'. -/
def digestExpandsCard : Claim7 := { stood := { row := digestExpandsRow, standIns := [], harness := (true, "7dd68c1cd8acf1e318dff283db383a79832e0b8f05df07e058c7878c8ccdea05"), looks := false }, kinds := [], alts := [], laidByText := true, laidKinds := [.data, .data, .data, .data], laidTests := true, laidLooks := .later }
def DigestExpandsCardSaid : Prop := Claim7.holds Tryd.pinned (.plain (OpenSpec.ofChange digestExpandsSpec)) digestExpandsCard

/-- THE TIED CARD OF 'cofferlaw01.DigestFull'. -/
def digestFullCard : Claim7 := { stood := { row := digestFullRow, standIns := [], harness := (true, "7dd68c1cd8acf1e318dff283db383a79832e0b8f05df07e058c7878c8ccdea05"), looks := false }, kinds := [], alts := [], laidByText := true, laidKinds := [.data, .data], laidTests := true, laidLooks := .later }
def DigestFullCardSaid : Prop := Claim7.holds Tryd.pinned (.plain (OpenSpec.ofChange digestFullSpec)) digestFullCard

/-- THE TIED CARD OF 'cofferlaw01.DigestMost'. -/
def digestMostCard : Claim7 := { stood := { row := digestMostRow, standIns := [], harness := (true, "7dd68c1cd8acf1e318dff283db383a79832e0b8f05df07e058c7878c8ccdea05"), looks := false }, kinds := [], alts := [], laidByText := true, laidKinds := [.data, .data], laidTests := true, laidLooks := .later }
def DigestMostCardSaid : Prop := Claim7.holds Tryd.pinned (.plain (OpenSpec.ofChange digestMostSpec)) digestMostCard

/-- THE TIED CARD OF 'cofferlaw01.DigestKeys'. -/
def digestKeysCard : Claim7 := { stood := { row := digestKeysRow, standIns := [], harness := (true, "7dd68c1cd8acf1e318dff283db383a79832e0b8f05df07e058c7878c8ccdea05"), looks := false }, kinds := [], alts := [], laidByText := true, laidKinds := [.data, .data], laidTests := true, laidLooks := .later }
def DigestKeysCardSaid : Prop := Claim7.holds Tryd.pinned (.plain (OpenSpec.ofChange digestKeysSpec)) digestKeysCard

/-- THE TIED CARD OF 'cofferlaw01.DigestCuts'. -/
def digestCutsCard : Claim7 := { stood := { row := digestCutsRow, standIns := [], harness := (true, "7dd68c1cd8acf1e318dff283db383a79832e0b8f05df07e058c7878c8ccdea05"), looks := false }, kinds := [], alts := [], laidByText := true, laidKinds := [.data, .data], laidTests := true, laidLooks := .later }
def DigestCutsCardSaid : Prop := Claim7.holds Tryd.pinned (.plain (OpenSpec.ofChange digestCutsSpec)) digestCutsCard

/-- THE TIED CARD OF 'cofferlaw01.DigestPrefixes'. -/
def digestPrefixesCard : Claim7 := { stood := { row := digestPrefixesRow, standIns := [], harness := (true, "7dd68c1cd8acf1e318dff283db383a79832e0b8f05df07e058c7878c8ccdea05"), looks := false }, kinds := [], alts := [], laidByText := true, laidKinds := [.data, .data], laidTests := true, laidLooks := .later }
def DigestPrefixesCardSaid : Prop := Claim7.holds Tryd.pinned (.plain (OpenSpec.ofChange digestPrefixesSpec)) digestPrefixesCard

/-- THE TIED CARD OF 'cofferlaw01.DigestNone'. -/
def digestNoneCard : Claim7 := { stood := { row := digestNoneRow, standIns := [], harness := (true, "7dd68c1cd8acf1e318dff283db383a79832e0b8f05df07e058c7878c8ccdea05"), looks := false }, kinds := [], alts := [], laidByText := true, laidKinds := [.data, .data], laidTests := true, laidLooks := .later }
def DigestNoneCardSaid : Prop := Claim7.holds Tryd.pinned (.plain (OpenSpec.ofChange digestNoneSpec)) digestNoneCard

/-- THE TIED CARD OF 'cofferlaw01.DigestStreams'. -/
def digestStreamsCard : Claim7 := { stood := { row := digestStreamsRow, standIns := [], harness := (true, "7dd68c1cd8acf1e318dff283db383a79832e0b8f05df07e058c7878c8ccdea05"), looks := false }, kinds := [], alts := [], laidByText := true, laidKinds := [.data, .data, .data, .data], laidTests := true, laidLooks := .later }
def DigestStreamsCardSaid : Prop := Claim7.holds Tryd.pinned (.plain (OpenSpec.ofChange digestStreamsSpec)) digestStreamsCard

/-- THE TIED CARD OF 'cofferlaw01.DigestMacs'. -/
def digestMacsCard : Claim7 := { stood := { row := digestMacsRow, standIns := [], harness := (true, "7dd68c1cd8acf1e318dff283db383a79832e0b8f05df07e058c7878c8ccdea05"), looks := false }, kinds := [], alts := [], laidByText := true, laidKinds := [.data, .data, .data, .data], laidTests := true, laidLooks := .later }
def DigestMacsCardSaid : Prop := Claim7.holds Tryd.pinned (.plain (OpenSpec.ofChange digestMacsSpec)) digestMacsCard

/-- THE TIED CARD OF 'cofferlaw01.DigestLimits'. -/
def digestLimitsCard : Claim7 := { stood := { row := digestLimitsRow, standIns := [], harness := (true, "7dd68c1cd8acf1e318dff283db383a79832e0b8f05df07e058c7878c8ccdea05"), looks := false }, kinds := [], alts := [], laidByText := true, laidKinds := [.data, .data], laidTests := true, laidLooks := .later }
def DigestLimitsCardSaid : Prop := Claim7.holds Tryd.pinned (.plain (OpenSpec.ofChange digestLimitsSpec)) digestLimitsCard

/-- THE TIED CARD OF 'cofferlaw01.DigestVectors'. -/
def digestVectorsCard : Claim7 := { stood := { row := digestVectorsRow, standIns := [], harness := (true, "7dd68c1cd8acf1e318dff283db383a79832e0b8f05df07e058c7878c8ccdea05"), looks := false }, kinds := [], alts := [], laidByText := true, laidKinds := [.data, .data], laidTests := true, laidLooks := .later }
def DigestVectorsCardSaid : Prop := Claim7.holds Tryd.pinned (.plain (OpenSpec.ofChange digestVectorsSpec)) digestVectorsCard

/-- THE SECOND FORM's CARD OF 'cofferlaw01.DigestSizes'. -/
def digestSizesUptoCard : Claim7 := { stood := { row := digestSizesUptoRow, standIns := [], harness := (true, "7dd68c1cd8acf1e318dff283db383a79832e0b8f05df07e058c7878c8ccdea05"), looks := false }, kinds := [], alts := [], laidByText := true, laidKinds := [.data], laidTests := true, laidLooks := .later }
def DigestSizesUptoCardSaid : Prop := Claim7.holds Tryd.pinned (.plain (OpenSpec.upto digestSizesSpec)) digestSizesUptoCard

/-- THE SECOND FORM's CARD OF 'cofferlaw01.DigestSums'. -/
def digestSumsUptoCard : Claim7 := { stood := { row := digestSumsUptoRow, standIns := [], harness := (true, "7dd68c1cd8acf1e318dff283db383a79832e0b8f05df07e058c7878c8ccdea05"), looks := false }, kinds := [], alts := [], laidByText := true, laidKinds := [.data, .data, .data, .data], laidTests := true, laidLooks := .later }
def DigestSumsUptoCardSaid : Prop := Claim7.holds Tryd.pinned (.plain (OpenSpec.upto digestSumsSpec)) digestSumsUptoCard

/-- THE SECOND FORM's CARD OF 'cofferlaw01.DigestCodes'. -/
def digestCodesUptoCard : Claim7 := { stood := { row := digestCodesUptoRow, standIns := [], harness := (true, "7dd68c1cd8acf1e318dff283db383a79832e0b8f05df07e058c7878c8ccdea05"), looks := false }, kinds := [], alts := [], laidByText := true, laidKinds := [.data, .data, .data, .data], laidTests := true, laidLooks := .later }
def DigestCodesUptoCardSaid : Prop := Claim7.holds Tryd.pinned (.plain (OpenSpec.upto digestCodesSpec)) digestCodesUptoCard

/-- THE SECOND FORM's CARD OF 'cofferlaw01.DigestStretches'. -/
def digestStretchesUptoCard : Claim7 := { stood := { row := digestStretchesUptoRow, standIns := [], harness := (true, "7dd68c1cd8acf1e318dff283db383a79832e0b8f05df07e058c7878c8ccdea05"), looks := false }, kinds := [], alts := [], laidByText := true, laidKinds := [.data, .data, .data, .data], laidTests := true, laidLooks := .later }
def DigestStretchesUptoCardSaid : Prop := Claim7.holds Tryd.pinned (.plain (OpenSpec.upto digestStretchesSpec)) digestStretchesUptoCard

/-- THE SECOND FORM's CARD OF 'cofferlaw01.DigestExpands'. -/
def digestExpandsUptoCard : Claim7 := { stood := { row := digestExpandsUptoRow, standIns := [], harness := (true, "7dd68c1cd8acf1e318dff283db383a79832e0b8f05df07e058c7878c8ccdea05"), looks := false }, kinds := [], alts := [], laidByText := true, laidKinds := [.data, .data, .data, .data], laidTests := true, laidLooks := .later }
def DigestExpandsUptoCardSaid : Prop := Claim7.holds Tryd.pinned (.plain (OpenSpec.upto digestExpandsSpec)) digestExpandsUptoCard

/-- THE SECOND FORM's CARD OF 'cofferlaw01.DigestFull'. -/
def digestFullUptoCard : Claim7 := { stood := { row := digestFullUptoRow, standIns := [], harness := (true, "7dd68c1cd8acf1e318dff283db383a79832e0b8f05df07e058c7878c8ccdea05"), looks := false }, kinds := [], alts := [], laidByText := true, laidKinds := [.data, .data], laidTests := true, laidLooks := .later }
def DigestFullUptoCardSaid : Prop := Claim7.holds Tryd.pinned (.plain (OpenSpec.upto digestFullSpec)) digestFullUptoCard

/-- THE SECOND FORM's CARD OF 'cofferlaw01.DigestMost'. -/
def digestMostUptoCard : Claim7 := { stood := { row := digestMostUptoRow, standIns := [], harness := (true, "7dd68c1cd8acf1e318dff283db383a79832e0b8f05df07e058c7878c8ccdea05"), looks := false }, kinds := [], alts := [], laidByText := true, laidKinds := [.data, .data], laidTests := true, laidLooks := .later }
def DigestMostUptoCardSaid : Prop := Claim7.holds Tryd.pinned (.plain (OpenSpec.upto digestMostSpec)) digestMostUptoCard

/-- THE SECOND FORM's CARD OF 'cofferlaw01.DigestKeys'. -/
def digestKeysUptoCard : Claim7 := { stood := { row := digestKeysUptoRow, standIns := [], harness := (true, "7dd68c1cd8acf1e318dff283db383a79832e0b8f05df07e058c7878c8ccdea05"), looks := false }, kinds := [], alts := [], laidByText := true, laidKinds := [.data, .data], laidTests := true, laidLooks := .later }
def DigestKeysUptoCardSaid : Prop := Claim7.holds Tryd.pinned (.plain (OpenSpec.upto digestKeysSpec)) digestKeysUptoCard

/-- THE SECOND FORM's CARD OF 'cofferlaw01.DigestCuts'. -/
def digestCutsUptoCard : Claim7 := { stood := { row := digestCutsUptoRow, standIns := [], harness := (true, "7dd68c1cd8acf1e318dff283db383a79832e0b8f05df07e058c7878c8ccdea05"), looks := false }, kinds := [], alts := [], laidByText := true, laidKinds := [.data, .data], laidTests := true, laidLooks := .later }
def DigestCutsUptoCardSaid : Prop := Claim7.holds Tryd.pinned (.plain (OpenSpec.upto digestCutsSpec)) digestCutsUptoCard

/-- THE SECOND FORM's CARD OF 'cofferlaw01.DigestPrefixes'. -/
def digestPrefixesUptoCard : Claim7 := { stood := { row := digestPrefixesUptoRow, standIns := [], harness := (true, "7dd68c1cd8acf1e318dff283db383a79832e0b8f05df07e058c7878c8ccdea05"), looks := false }, kinds := [], alts := [], laidByText := true, laidKinds := [.data, .data], laidTests := true, laidLooks := .later }
def DigestPrefixesUptoCardSaid : Prop := Claim7.holds Tryd.pinned (.plain (OpenSpec.upto digestPrefixesSpec)) digestPrefixesUptoCard

/-- THE SECOND FORM's CARD OF 'cofferlaw01.DigestNone'. -/
def digestNoneUptoCard : Claim7 := { stood := { row := digestNoneUptoRow, standIns := [], harness := (true, "7dd68c1cd8acf1e318dff283db383a79832e0b8f05df07e058c7878c8ccdea05"), looks := false }, kinds := [], alts := [], laidByText := true, laidKinds := [.data, .data], laidTests := true, laidLooks := .later }
def DigestNoneUptoCardSaid : Prop := Claim7.holds Tryd.pinned (.plain (OpenSpec.upto digestNoneSpec)) digestNoneUptoCard

/-- THE SECOND FORM's CARD OF 'cofferlaw01.DigestStreams'. -/
def digestStreamsUptoCard : Claim7 := { stood := { row := digestStreamsUptoRow, standIns := [], harness := (true, "7dd68c1cd8acf1e318dff283db383a79832e0b8f05df07e058c7878c8ccdea05"), looks := false }, kinds := [], alts := [], laidByText := true, laidKinds := [.data, .data, .data, .data], laidTests := true, laidLooks := .later }
def DigestStreamsUptoCardSaid : Prop := Claim7.holds Tryd.pinned (.plain (OpenSpec.upto digestStreamsSpec)) digestStreamsUptoCard

/-- THE SECOND FORM's CARD OF 'cofferlaw01.DigestMacs'. -/
def digestMacsUptoCard : Claim7 := { stood := { row := digestMacsUptoRow, standIns := [], harness := (true, "7dd68c1cd8acf1e318dff283db383a79832e0b8f05df07e058c7878c8ccdea05"), looks := false }, kinds := [], alts := [], laidByText := true, laidKinds := [.data, .data, .data, .data], laidTests := true, laidLooks := .later }
def DigestMacsUptoCardSaid : Prop := Claim7.holds Tryd.pinned (.plain (OpenSpec.upto digestMacsSpec)) digestMacsUptoCard

/-- THE SECOND FORM's CARD OF 'cofferlaw01.DigestLimits'. -/
def digestLimitsUptoCard : Claim7 := { stood := { row := digestLimitsUptoRow, standIns := [], harness := (true, "7dd68c1cd8acf1e318dff283db383a79832e0b8f05df07e058c7878c8ccdea05"), looks := false }, kinds := [], alts := [], laidByText := true, laidKinds := [.data, .data], laidTests := true, laidLooks := .later }
def DigestLimitsUptoCardSaid : Prop := Claim7.holds Tryd.pinned (.plain (OpenSpec.upto digestLimitsSpec)) digestLimitsUptoCard

/-- THE SECOND FORM's CARD OF 'cofferlaw01.DigestVectors'. -/
def digestVectorsUptoCard : Claim7 := { stood := { row := digestVectorsUptoRow, standIns := [], harness := (true, "7dd68c1cd8acf1e318dff283db383a79832e0b8f05df07e058c7878c8ccdea05"), looks := false }, kinds := [], alts := [], laidByText := true, laidKinds := [.data, .data], laidTests := true, laidLooks := .later }
def DigestVectorsUptoCardSaid : Prop := Claim7.holds Tryd.pinned (.plain (OpenSpec.upto digestVectorsSpec)) digestVectorsUptoCard
end Rows
end Go.Proofs.YtgmdbhckccmhjaaDoor

/-
  No cell of these rows narrows 'for every input' (looked for: loops, veiled, ifaces, maps, wideKeys, modest, calm, conditions, laid).
  DERIVED. THE GIVEN ROWS OF THIS SEAT. 4 by the template 'for every input the law returns true; each argument reads behind the call as it read before'; 0 by the template 'total and deterministic' (their statements: YtgmdbhckccmhjaaTotals.lean).
  GIVEN WITH THE SEED: the statements are not yours to turn. If you find one false, say at which input.
  Laid BY PROGRAM, IN A SANDBOX (cutbox-rows.mjs): the forced cells as the released guide's own fill.sh prints them over the translation c2a1f1d022706369… (all of the seat's roots in one cut). By AI agents, Wed Nov 11 2026. No macro, syntax, notation, axiom, sorry.
-/
import Derived.Test.YtgmdbhckccmhjaaChecked
import GoSem.Claim
import GoSem.ClaimJoined
import GoSem.ClaimMapViews
import Derived.JoinedTies
import Derived.KernelRfl
namespace Go.Proofs.Ytgmdbhckccmhjaa
/- THE CELL 'sum', in the pinned program and in every row, IS THE sha256 OF THE DUMP (.gsa) THAT YtgmdbhckccmhjaaProg.lean LOADS. Nothing in Lean hashes anything: it is a label: what it is worth is what the hold of that sum in a sandbox is worth. -/
noncomputable def Try.pinned : Pinned := { name := "ytgmdbhckccmhjaa", sum := "c2a1f1d022706369ea4d25857185915de1743fdda923e5a84749cd59fbf26ab3", checked := Try.checked }
namespace Rows
def none {H : Type} : Left H := { results := [], args := [] }

/-- 'cofferlaw01.DigestNames': WHATEVER THE INPUT: true; the input reads as it did. -/
def digestNamesSpec : ChangeSpec := { name := "digestNames", fn := fun _ => fun
  | [] => { results := [.lit (.bool true)], args := [] }
  | _ => none }
def digestNamesRow : OpenClaim := { program := "ytgmdbhckccmhjaa", sum := "c2a1f1d022706369ea4d25857185915de1743fdda923e5a84749cd59fbf26ab3", func := "coffer/cofferlaw01.DigestNames", spec := "digestNames", apart := false }
def DigestNamesSaid : Prop := digestNamesRow.holds Try.pinned (OpenSpec.ofChange digestNamesSpec)

/-- ITS FALSE NEIGHBOUR: 'it returns false'. Refute it at one input. -/
def digestNamesWrong : ChangeSpec := { name := "digestNames", fn := fun _ => fun
  | [] => { results := [.lit (.bool false)], args := [] }
  | _ => none }
def DigestNamesWrongFalsely : Prop := digestNamesRow.holds Try.pinned (OpenSpec.ofChange digestNamesWrong)

/-- 'cofferlaw01.DigestEquals': WHATEVER THE INPUT: true; the input reads as it did. -/
def digestEqualsSpec : ChangeSpec := { name := "digestEquals", fn := fun _ => fun
  | [d1, d2] => { results := [.lit (.bool true)], args := [d1, d2] }
  | _ => none }
def digestEqualsRow : OpenClaim := { program := "ytgmdbhckccmhjaa", sum := "c2a1f1d022706369ea4d25857185915de1743fdda923e5a84749cd59fbf26ab3", func := "coffer/cofferlaw01.DigestEquals", spec := "digestEquals", apart := false }
def DigestEqualsSaid : Prop := digestEqualsRow.holds Try.pinned (OpenSpec.ofChange digestEqualsSpec)

/-- ITS FALSE NEIGHBOUR: 'it returns false'. Refute it at one input. -/
def digestEqualsWrong : ChangeSpec := { name := "digestEquals", fn := fun _ => fun
  | [d1, d2] => { results := [.lit (.bool false)], args := [d1, d2] }
  | _ => none }
def DigestEqualsWrongFalsely : Prop := digestEqualsRow.holds Try.pinned (OpenSpec.ofChange digestEqualsWrong)

/-- 'cofferlaw01.DigestTextBack': WHATEVER THE INPUT: true; the input reads as it did. -/
def digestTextBackSpec : ChangeSpec := { name := "digestTextBack", fn := fun _ => fun
  | [d1, d2] => { results := [.lit (.bool true)], args := [d1, d2] }
  | _ => none }
def digestTextBackRow : OpenClaim := { program := "ytgmdbhckccmhjaa", sum := "c2a1f1d022706369ea4d25857185915de1743fdda923e5a84749cd59fbf26ab3", func := "coffer/cofferlaw01.DigestTextBack", spec := "digestTextBack", inPlace := ["internal/abi.NoEscape", "internal/bytealg.IndexByteString"], apart := false }
def DigestTextBackSaid : Prop := digestTextBackRow.holds Try.pinned (OpenSpec.ofChange digestTextBackSpec)

/-- ITS FALSE NEIGHBOUR: 'it returns false'. Refute it at one input. -/
def digestTextBackWrong : ChangeSpec := { name := "digestTextBack", fn := fun _ => fun
  | [d1, d2] => { results := [.lit (.bool false)], args := [d1, d2] }
  | _ => none }
def DigestTextBackWrongFalsely : Prop := digestTextBackRow.holds Try.pinned (OpenSpec.ofChange digestTextBackWrong)

/-- 'cofferlaw01.DigestTexts': WHATEVER THE INPUT: true; the input reads as it did. -/
def digestTextsSpec : ChangeSpec := { name := "digestTexts", fn := fun _ => fun
  | [d1, d2] => { results := [.lit (.bool true)], args := [d1, d2] }
  | _ => none }
def digestTextsRow : OpenClaim := { program := "ytgmdbhckccmhjaa", sum := "c2a1f1d022706369ea4d25857185915de1743fdda923e5a84749cd59fbf26ab3", func := "coffer/cofferlaw01.DigestTexts", spec := "digestTexts", inPlace := ["internal/abi.NoEscape", "internal/bytealg.IndexByteString"], unfollowed := true, recurses := true, apart := false }
def DigestTextsSaid : Prop := digestTextsRow.holds Try.pinned (OpenSpec.ofChange digestTextsSpec)

/-- ITS FALSE NEIGHBOUR: 'it returns false'. Refute it at one input. -/
def digestTextsWrong : ChangeSpec := { name := "digestTexts", fn := fun _ => fun
  | [d1, d2] => { results := [.lit (.bool false)], args := [d1, d2] }
  | _ => none }
def DigestTextsWrongFalsely : Prop := digestTextsRow.holds Try.pinned (OpenSpec.ofChange digestTextsWrong)

/- THE SECOND FORM. 'bulk': how many values and letters a reading holds, each counted each time it is reached (what is shared counts as often as it is met; a slice's spare places count too). A statement '..UptoSaid' is the law's where the arguments, and the package variables that the reading takes, are together of bulk at most 1048576: NARROWER than '..Said'. Prove '..Said' where nothing that the law and all that it calls make is longer than what came in: it says more and counts as full. Else prove '..UptoSaid'. A law counts once. -/
mutual
def uptoBulk {H : Type} : DataW H → Nat
  | .lit (.string bytes) => bytes.length + 1
  | .lit _ => 1
  | .nil => 1
  | .ptr d => uptoBulk d + 1
  | .slice elems spare => uptoBulkAll elems + uptoBulkAll spare + 1
  | .agg parts => uptoBulkAll parts + 1
  | .iface _ d => uptoBulk d + 1
  | .map entries => uptoBulkEntries entries + 1
  | .held _ => 1
def uptoBulkAll {H : Type} : List (DataW H) → Nat
  | [] => 0
  | d :: r => uptoBulk d + uptoBulkAll r
def uptoBulkEntries {H : Type} : List (Lit × DataW H) → Nat
  | [] => 0
  | x :: r => uptoBulkEntry x + uptoBulkEntries r
def uptoBulkEntry {H : Type} : Lit × DataW H → Nat
  | (.string bytes, d) => bytes.length + uptoBulk d + 1
  | (_, d) => uptoBulk d + 1
 end
def uptoSmall : (H : Type) → List (DataW H) → Bool := fun _ ds => decide (uptoBulkAll ds ≤ 1048576)
def OpenSpec.upto (s : _root_.Go.ChangeSpec) : _root_.Go.OpenSpec := { _root_.Go.OpenSpec.ofChange s with cond := some uptoSmall }

/-- 'cofferlaw01.DigestNames', WHERE WHAT IT READS IS OF BULK AT MOST 1048576: true; the input reads as it did. -/
def digestNamesUptoRow : OpenClaim := { program := "ytgmdbhckccmhjaa", sum := "c2a1f1d022706369ea4d25857185915de1743fdda923e5a84749cd59fbf26ab3", func := "coffer/cofferlaw01.DigestNames", spec := "digestNames", apart := false, narrowed := true }
def DigestNamesUptoSaid : Prop := digestNamesUptoRow.holds Try.pinned (OpenSpec.upto digestNamesSpec)

/-- 'cofferlaw01.DigestEquals', WHERE WHAT IT READS IS OF BULK AT MOST 1048576: true; the input reads as it did. -/
def digestEqualsUptoRow : OpenClaim := { program := "ytgmdbhckccmhjaa", sum := "c2a1f1d022706369ea4d25857185915de1743fdda923e5a84749cd59fbf26ab3", func := "coffer/cofferlaw01.DigestEquals", spec := "digestEquals", apart := false, narrowed := true }
def DigestEqualsUptoSaid : Prop := digestEqualsUptoRow.holds Try.pinned (OpenSpec.upto digestEqualsSpec)

/-- 'cofferlaw01.DigestTextBack', WHERE WHAT IT READS IS OF BULK AT MOST 1048576: true; the input reads as it did. -/
def digestTextBackUptoRow : OpenClaim := { program := "ytgmdbhckccmhjaa", sum := "c2a1f1d022706369ea4d25857185915de1743fdda923e5a84749cd59fbf26ab3", func := "coffer/cofferlaw01.DigestTextBack", spec := "digestTextBack", inPlace := ["internal/abi.NoEscape", "internal/bytealg.IndexByteString"], apart := false, narrowed := true }
def DigestTextBackUptoSaid : Prop := digestTextBackUptoRow.holds Try.pinned (OpenSpec.upto digestTextBackSpec)

/-- 'cofferlaw01.DigestTexts', WHERE WHAT IT READS IS OF BULK AT MOST 1048576: true; the input reads as it did. -/
def digestTextsUptoRow : OpenClaim := { program := "ytgmdbhckccmhjaa", sum := "c2a1f1d022706369ea4d25857185915de1743fdda923e5a84749cd59fbf26ab3", func := "coffer/cofferlaw01.DigestTexts", spec := "digestTexts", inPlace := ["internal/abi.NoEscape", "internal/bytealg.IndexByteString"], unfollowed := true, recurses := true, apart := false, narrowed := true }
def DigestTextsUptoSaid : Prop := digestTextsUptoRow.holds Try.pinned (OpenSpec.upto digestTextsSpec)

end Rows
end Go.Proofs.Ytgmdbhckccmhjaa

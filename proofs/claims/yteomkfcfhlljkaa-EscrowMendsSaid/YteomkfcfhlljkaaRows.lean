/-
  No cell of these rows narrows 'for every input' (looked for: loops, veiled, ifaces, maps, wideKeys, modest, calm, conditions, laid).
  DERIVED. THE GIVEN ROWS OF THIS SEAT. 4 by the template 'for every input the law returns true; each argument reads behind the call as it read before'; 0 by the template 'total and deterministic' (their statements: YteomkfcfhlljkaaTotals.lean).
  GIVEN WITH THE SEED: the statements are not yours to turn. If you find one false, say at which input.
  Laid BY PROGRAM, IN A SANDBOX (cutbox-rows.mjs): the forced cells as the released guide's own fill.sh prints them over the translation dac3f29403f14d59… (all of the seat's roots in one cut). By AI agents, Wed Nov 11 2026. No macro, syntax, notation, axiom, sorry.
-/
import Derived.Test.YteomkfcfhlljkaaChecked
import GoSem.Claim
import GoSem.ClaimJoined
import GoSem.ClaimMapViews
import Derived.JoinedTies
import Derived.KernelRfl
namespace Go.Proofs.Yteomkfcfhlljkaa
/- THE CELL 'sum', in the pinned program and in every row, IS THE sha256 OF THE DUMP (.gsa) THAT YteomkfcfhlljkaaProg.lean LOADS. Nothing in Lean hashes anything: it is a label: what it is worth is what the hold of that sum in a sandbox is worth. -/
noncomputable def Try.pinned : Pinned := { name := "yteomkfcfhlljkaa", sum := "dac3f29403f14d59d7b3343fe1f43acdc8cb93962f90e99c517f681b9e197ce5", checked := Try.checked }
namespace Rows
def none {H : Type} : Left H := { results := [], args := [] }

/-- 'cofferlaw11.EscrowNames': WHATEVER THE INPUT: true; the input reads as it did. -/
def escrowNamesSpec : ChangeSpec := { name := "escrowNames", fn := fun _ => fun
  | [] => { results := [.lit (.bool true)], args := [] }
  | _ => none }
def escrowNamesRow : OpenClaim := { program := "yteomkfcfhlljkaa", sum := "dac3f29403f14d59d7b3343fe1f43acdc8cb93962f90e99c517f681b9e197ce5", func := "coffer/cofferlaw11.EscrowNames", spec := "escrowNames", apart := false }
def EscrowNamesSaid : Prop := escrowNamesRow.holds Try.pinned (OpenSpec.ofChange escrowNamesSpec)

/-- ITS FALSE NEIGHBOUR: 'it returns false'. Refute it at one input. -/
def escrowNamesWrong : ChangeSpec := { name := "escrowNames", fn := fun _ => fun
  | [] => { results := [.lit (.bool false)], args := [] }
  | _ => none }
def EscrowNamesWrongFalsely : Prop := escrowNamesRow.holds Try.pinned (OpenSpec.ofChange escrowNamesWrong)

/-- 'cofferlaw11.EscrowRandoms': WHATEVER THE INPUT: true; the input reads as it did. -/
def escrowRandomsSpec : ChangeSpec := { name := "escrowRandoms", fn := fun _ => fun
  | [d1, d2] => { results := [.lit (.bool true)], args := [d1, d2] }
  | _ => none }
def escrowRandomsRow : OpenClaim := { program := "yteomkfcfhlljkaa", sum := "dac3f29403f14d59d7b3343fe1f43acdc8cb93962f90e99c517f681b9e197ce5", func := "coffer/cofferlaw11.EscrowRandoms", spec := "escrowRandoms", apart := false }
def EscrowRandomsSaid : Prop := escrowRandomsRow.holds Try.pinned (OpenSpec.ofChange escrowRandomsSpec)

/-- ITS FALSE NEIGHBOUR: 'it returns false'. Refute it at one input. -/
def escrowRandomsWrong : ChangeSpec := { name := "escrowRandoms", fn := fun _ => fun
  | [d1, d2] => { results := [.lit (.bool false)], args := [d1, d2] }
  | _ => none }
def EscrowRandomsWrongFalsely : Prop := escrowRandomsRow.holds Try.pinned (OpenSpec.ofChange escrowRandomsWrong)

/-- 'cofferlaw11.EscrowWords': WHATEVER THE INPUT: true; the input reads as it did. -/
def escrowWordsSpec : ChangeSpec := { name := "escrowWords", fn := fun _ => fun
  | [d] => { results := [.lit (.bool true)], args := [d] }
  | _ => none }
def escrowWordsRow : OpenClaim := { program := "yteomkfcfhlljkaa", sum := "dac3f29403f14d59d7b3343fe1f43acdc8cb93962f90e99c517f681b9e197ce5", func := "coffer/cofferlaw11.EscrowWords", spec := "escrowWords", apart := false }
def EscrowWordsSaid : Prop := escrowWordsRow.holds Try.pinned (OpenSpec.ofChange escrowWordsSpec)

/-- ITS FALSE NEIGHBOUR: 'it returns false'. Refute it at one input. -/
def escrowWordsWrong : ChangeSpec := { name := "escrowWords", fn := fun _ => fun
  | [d] => { results := [.lit (.bool false)], args := [d] }
  | _ => none }
def EscrowWordsWrongFalsely : Prop := escrowWordsRow.holds Try.pinned (OpenSpec.ofChange escrowWordsWrong)

/-- 'cofferlaw11.EscrowMends': WHATEVER THE INPUT: true; the input reads as it did. -/
def escrowMendsSpec : ChangeSpec := { name := "escrowMends", fn := fun _ => fun
  | [d] => { results := [.lit (.bool true)], args := [d] }
  | _ => none }
def escrowMendsRow : OpenClaim := { program := "yteomkfcfhlljkaa", sum := "dac3f29403f14d59d7b3343fe1f43acdc8cb93962f90e99c517f681b9e197ce5", func := "coffer/cofferlaw11.EscrowMends", spec := "escrowMends", unfollowed := true, recurses := true, apart := false }
def EscrowMendsSaid : Prop := escrowMendsRow.holds Try.pinned (OpenSpec.ofChange escrowMendsSpec)

/-- ITS FALSE NEIGHBOUR: 'it returns false'. Refute it at one input. -/
def escrowMendsWrong : ChangeSpec := { name := "escrowMends", fn := fun _ => fun
  | [d] => { results := [.lit (.bool false)], args := [d] }
  | _ => none }
def EscrowMendsWrongFalsely : Prop := escrowMendsRow.holds Try.pinned (OpenSpec.ofChange escrowMendsWrong)

/- THE SECOND FORM. 'bulk': how many values and letters a reading holds, each counted each time it is reached (what is shared counts as often as it is met; a slice's spare places count too). A statement '..UptoSaid' is the law's where the arguments, and the package variables that the reading takes, are together of bulk at most 1048576: NARROWER than '..Said'. Prove '..Said' where nothing that the law and all that it calls make is longer than what came in: it says more and counts as full. Else prove '..UptoSaid'. A law counts once. -/
mutual
def uptoBulk {H : Type} : DataW H → Nat
  | .lit (.string bytes) => bytes.length + 1
  | .lit _ => 1
  | .nil => 1
  | .ptr d => uptoBulk d + 1
  | .slice elems spare => uptoBulkAll elems + uptoBulkAll spare + 1
  | .agg parts => uptoBulkAll parts + 1
  | .iface _ d => uptoBulk d + 1
  | .map entries => uptoBulkEntries entries + 1
  | .held _ => 1
def uptoBulkAll {H : Type} : List (DataW H) → Nat
  | [] => 0
  | d :: r => uptoBulk d + uptoBulkAll r
def uptoBulkEntries {H : Type} : List (Lit × DataW H) → Nat
  | [] => 0
  | x :: r => uptoBulkEntry x + uptoBulkEntries r
def uptoBulkEntry {H : Type} : Lit × DataW H → Nat
  | (.string bytes, d) => bytes.length + uptoBulk d + 1
  | (_, d) => uptoBulk d + 1
 end
def uptoSmall : (H : Type) → List (DataW H) → Bool := fun _ ds => decide (uptoBulkAll ds ≤ 1048576)
def OpenSpec.upto (s : _root_.Go.ChangeSpec) : _root_.Go.OpenSpec := { _root_.Go.OpenSpec.ofChange s with cond := some uptoSmall }

/-- 'cofferlaw11.EscrowNames', WHERE WHAT IT READS IS OF BULK AT MOST 1048576: true; the input reads as it did. -/
def escrowNamesUptoRow : OpenClaim := { program := "yteomkfcfhlljkaa", sum := "dac3f29403f14d59d7b3343fe1f43acdc8cb93962f90e99c517f681b9e197ce5", func := "coffer/cofferlaw11.EscrowNames", spec := "escrowNames", apart := false, narrowed := true }
def EscrowNamesUptoSaid : Prop := escrowNamesUptoRow.holds Try.pinned (OpenSpec.upto escrowNamesSpec)

/-- 'cofferlaw11.EscrowRandoms', WHERE WHAT IT READS IS OF BULK AT MOST 1048576: true; the input reads as it did. -/
def escrowRandomsUptoRow : OpenClaim := { program := "yteomkfcfhlljkaa", sum := "dac3f29403f14d59d7b3343fe1f43acdc8cb93962f90e99c517f681b9e197ce5", func := "coffer/cofferlaw11.EscrowRandoms", spec := "escrowRandoms", apart := false, narrowed := true }
def EscrowRandomsUptoSaid : Prop := escrowRandomsUptoRow.holds Try.pinned (OpenSpec.upto escrowRandomsSpec)

/-- 'cofferlaw11.EscrowWords', WHERE WHAT IT READS IS OF BULK AT MOST 1048576: true; the input reads as it did. -/
def escrowWordsUptoRow : OpenClaim := { program := "yteomkfcfhlljkaa", sum := "dac3f29403f14d59d7b3343fe1f43acdc8cb93962f90e99c517f681b9e197ce5", func := "coffer/cofferlaw11.EscrowWords", spec := "escrowWords", apart := false, narrowed := true }
def EscrowWordsUptoSaid : Prop := escrowWordsUptoRow.holds Try.pinned (OpenSpec.upto escrowWordsSpec)

/-- 'cofferlaw11.EscrowMends', WHERE WHAT IT READS IS OF BULK AT MOST 1048576: true; the input reads as it did. -/
def escrowMendsUptoRow : OpenClaim := { program := "yteomkfcfhlljkaa", sum := "dac3f29403f14d59d7b3343fe1f43acdc8cb93962f90e99c517f681b9e197ce5", func := "coffer/cofferlaw11.EscrowMends", spec := "escrowMends", unfollowed := true, recurses := true, apart := false, narrowed := true }
def EscrowMendsUptoSaid : Prop := escrowMendsUptoRow.holds Try.pinned (OpenSpec.upto escrowMendsSpec)

end Rows
end Go.Proofs.Yteomkfcfhlljkaa

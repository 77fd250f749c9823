/-
  No cell of these rows narrows 'for every input' (looked for: loops, veiled, ifaces, maps, wideKeys, modest, calm, conditions, laid).
  DERIVED. THE GIVEN ROWS OF THIS SEAT. 3 by the template 'for every input the law returns true; each argument reads behind the call as it read before'; 0 by the template 'total and deterministic' (their statements: YtcfolhdacolbjaaTotals.lean).
  GIVEN WITH THE SEED: the statements are not yours to turn. If you find one false, say at which input.
  Laid BY PROGRAM, IN A SANDBOX (cutbox-rows.mjs): the forced cells as the released guide's own fill.sh prints them over the translation 8f8dfed11077464b… (all of the seat's roots in one cut). By AI agents, Wed Nov 11 2026. No macro, syntax, notation, axiom, sorry.
-/
import Derived.Test.YtcfolhdacolbjaaChecked
import GoSem.Claim
import GoSem.ClaimJoined
import GoSem.ClaimMapViews
import Derived.JoinedTies
import Derived.KernelRfl
namespace Go.Proofs.Ytcfolhdacolbjaa
/- THE CELL 'sum', in the pinned program and in every row, IS THE sha256 OF THE DUMP (.gsa) THAT YtcfolhdacolbjaaProg.lean LOADS. Nothing in Lean hashes anything: it is a label: what it is worth is what the hold of that sum in a sandbox is worth. -/
noncomputable def Try.pinned : Pinned := { name := "ytcfolhdacolbjaa", sum := "8f8dfed11077464b0c64277bbac0295bad96169a1d34f0cbfee77b54006b40ad", checked := Try.checked }
namespace Rows
def none {H : Type} : Left H := { results := [], args := [] }

/-- 'cofferlaw04.ShredNames': WHATEVER THE INPUT: true; the input reads as it did. -/
def shredNamesSpec : ChangeSpec := { name := "shredNames", fn := fun _ => fun
  | [] => { results := [.lit (.bool true)], args := [] }
  | _ => none }
def shredNamesRow : OpenClaim := { program := "ytcfolhdacolbjaa", sum := "8f8dfed11077464b0c64277bbac0295bad96169a1d34f0cbfee77b54006b40ad", func := "coffer/cofferlaw04.ShredNames", spec := "shredNames", apart := false }
def ShredNamesSaid : Prop := shredNamesRow.holds Try.pinned (OpenSpec.ofChange shredNamesSpec)

/-- ITS FALSE NEIGHBOUR: 'it returns false'. Refute it at one input. -/
def shredNamesWrong : ChangeSpec := { name := "shredNames", fn := fun _ => fun
  | [] => { results := [.lit (.bool false)], args := [] }
  | _ => none }
def ShredNamesWrongFalsely : Prop := shredNamesRow.holds Try.pinned (OpenSpec.ofChange shredNamesWrong)

/-- 'cofferlaw04.ShredWipes': WHATEVER THE INPUT: true; the input reads as it did. -/
def shredWipesSpec : ChangeSpec := { name := "shredWipes", fn := fun _ => fun
  | [d1, d2] => { results := [.lit (.bool true)], args := [d1, d2] }
  | _ => none }
def shredWipesRow : OpenClaim := { program := "ytcfolhdacolbjaa", sum := "8f8dfed11077464b0c64277bbac0295bad96169a1d34f0cbfee77b54006b40ad", func := "coffer/cofferlaw04.ShredWipes", spec := "shredWipes", apart := false }
def ShredWipesSaid : Prop := shredWipesRow.holds Try.pinned (OpenSpec.ofChange shredWipesSpec)

/-- ITS FALSE NEIGHBOUR: 'it returns false'. Refute it at one input. -/
def shredWipesWrong : ChangeSpec := { name := "shredWipes", fn := fun _ => fun
  | [d1, d2] => { results := [.lit (.bool false)], args := [d1, d2] }
  | _ => none }
def ShredWipesWrongFalsely : Prop := shredWipesRow.holds Try.pinned (OpenSpec.ofChange shredWipesWrong)

/-- 'cofferlaw04.ShredRandoms': WHATEVER THE INPUT: true; the input reads as it did. -/
def shredRandomsSpec : ChangeSpec := { name := "shredRandoms", fn := fun _ => fun
  | [d1, d2] => { results := [.lit (.bool true)], args := [d1, d2] }
  | _ => none }
def shredRandomsRow : OpenClaim := { program := "ytcfolhdacolbjaa", sum := "8f8dfed11077464b0c64277bbac0295bad96169a1d34f0cbfee77b54006b40ad", func := "coffer/cofferlaw04.ShredRandoms", spec := "shredRandoms", apart := false }
def ShredRandomsSaid : Prop := shredRandomsRow.holds Try.pinned (OpenSpec.ofChange shredRandomsSpec)

/-- ITS FALSE NEIGHBOUR: 'it returns false'. Refute it at one input. -/
def shredRandomsWrong : ChangeSpec := { name := "shredRandoms", fn := fun _ => fun
  | [d1, d2] => { results := [.lit (.bool false)], args := [d1, d2] }
  | _ => none }
def ShredRandomsWrongFalsely : Prop := shredRandomsRow.holds Try.pinned (OpenSpec.ofChange shredRandomsWrong)

/- THE SECOND FORM. 'bulk': how many values and letters a reading holds, each counted each time it is reached (what is shared counts as often as it is met; a slice's spare places count too). A statement '..UptoSaid' is the law's where the arguments, and the package variables that the reading takes, are together of bulk at most 1048576: NARROWER than '..Said'. Prove '..Said' where nothing that the law and all that it calls make is longer than what came in: it says more and counts as full. Else prove '..UptoSaid'. A law counts once. -/
mutual
def uptoBulk {H : Type} : DataW H → Nat
  | .lit (.string bytes) => bytes.length + 1
  | .lit _ => 1
  | .nil => 1
  | .ptr d => uptoBulk d + 1
  | .slice elems spare => uptoBulkAll elems + uptoBulkAll spare + 1
  | .agg parts => uptoBulkAll parts + 1
  | .iface _ d => uptoBulk d + 1
  | .map entries => uptoBulkEntries entries + 1
  | .held _ => 1
def uptoBulkAll {H : Type} : List (DataW H) → Nat
  | [] => 0
  | d :: r => uptoBulk d + uptoBulkAll r
def uptoBulkEntries {H : Type} : List (Lit × DataW H) → Nat
  | [] => 0
  | x :: r => uptoBulkEntry x + uptoBulkEntries r
def uptoBulkEntry {H : Type} : Lit × DataW H → Nat
  | (.string bytes, d) => bytes.length + uptoBulk d + 1
  | (_, d) => uptoBulk d + 1
 end
def uptoSmall : (H : Type) → List (DataW H) → Bool := fun _ ds => decide (uptoBulkAll ds ≤ 1048576)
def OpenSpec.upto (s : _root_.Go.ChangeSpec) : _root_.Go.OpenSpec := { _root_.Go.OpenSpec.ofChange s with cond := some uptoSmall }

/-- 'cofferlaw04.ShredNames', WHERE WHAT IT READS IS OF BULK AT MOST 1048576: true; the input reads as it did. -/
def shredNamesUptoRow : OpenClaim := { program := "ytcfolhdacolbjaa", sum := "8f8dfed11077464b0c64277bbac0295bad96169a1d34f0cbfee77b54006b40ad", func := "coffer/cofferlaw04.ShredNames", spec := "shredNames", apart := false, narrowed := true }
def ShredNamesUptoSaid : Prop := shredNamesUptoRow.holds Try.pinned (OpenSpec.upto shredNamesSpec)

/-- 'cofferlaw04.ShredWipes', WHERE WHAT IT READS IS OF BULK AT MOST 1048576: true; the input reads as it did. -/
def shredWipesUptoRow : OpenClaim := { program := "ytcfolhdacolbjaa", sum := "8f8dfed11077464b0c64277bbac0295bad96169a1d34f0cbfee77b54006b40ad", func := "coffer/cofferlaw04.ShredWipes", spec := "shredWipes", apart := false, narrowed := true }
def ShredWipesUptoSaid : Prop := shredWipesUptoRow.holds Try.pinned (OpenSpec.upto shredWipesSpec)

/-- 'cofferlaw04.ShredRandoms', WHERE WHAT IT READS IS OF BULK AT MOST 1048576: true; the input reads as it did. -/
def shredRandomsUptoRow : OpenClaim := { program := "ytcfolhdacolbjaa", sum := "8f8dfed11077464b0c64277bbac0295bad96169a1d34f0cbfee77b54006b40ad", func := "coffer/cofferlaw04.ShredRandoms", spec := "shredRandoms", apart := false, narrowed := true }
def ShredRandomsUptoSaid : Prop := shredRandomsUptoRow.holds Try.pinned (OpenSpec.upto shredRandomsSpec)

end Rows
end Go.Proofs.Ytcfolhdacolbjaa

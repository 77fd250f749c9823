/-
  No cell of these rows narrows 'for every input' (looked for: loops, veiled, ifaces, maps, wideKeys, modest, calm, conditions, laid).
  DERIVED. THE GIVEN ROWS OF THIS SEAT. 4 by the template 'for every input the law returns true; each argument reads behind the call as it read before'; 0 by the template 'total and deterministic' (their statements: YtgojmapgkofkmaaTotals.lean).
  GIVEN WITH THE SEED: the statements are not yours to turn. If you find one false, say at which input.
  Laid BY PROGRAM, IN A SANDBOX (cutbox-rows.mjs): the forced cells as the released guide's own fill.sh prints them over the translation caba6053aca8c98d… (all of the seat's roots in one cut). By AI agents, Wed Nov 11 2026. No macro, syntax, notation, axiom, sorry.
-/
import Derived.Test.YtgojmapgkofkmaaChecked
import GoSem.Claim
import GoSem.ClaimJoined
import GoSem.ClaimMapViews
import Derived.JoinedTies
import Derived.KernelRfl
namespace Go.Proofs.Ytgojmapgkofkmaa
/- THE CELL 'sum', in the pinned program and in every row, IS THE sha256 OF THE DUMP (.gsa) THAT YtgojmapgkofkmaaProg.lean LOADS. Nothing in Lean hashes anything: it is a label: what it is worth is what the hold of that sum in a sandbox is worth. -/
noncomputable def Try.pinned : Pinned := { name := "ytgojmapgkofkmaa", sum := "caba6053aca8c98dd0424a3eab3eac6b5fca76b3cc233c2558aaa03a7f697cf8", checked := Try.checked }
namespace Rows
def none {H : Type} : Left H := { results := [], args := [] }

/-- 'cofferlaw06.SpringNames': WHATEVER THE INPUT: true; the input reads as it did. -/
def springNamesSpec : ChangeSpec := { name := "springNames", fn := fun _ => fun
  | [] => { results := [.lit (.bool true)], args := [] }
  | _ => none }
def springNamesRow : OpenClaim := { program := "ytgojmapgkofkmaa", sum := "caba6053aca8c98dd0424a3eab3eac6b5fca76b3cc233c2558aaa03a7f697cf8", func := "coffer/cofferlaw06.SpringNames", spec := "springNames", apart := false }
def SpringNamesSaid : Prop := springNamesRow.holds Try.pinned (OpenSpec.ofChange springNamesSpec)

/-- ITS FALSE NEIGHBOUR: 'it returns false'. Refute it at one input. -/
def springNamesWrong : ChangeSpec := { name := "springNames", fn := fun _ => fun
  | [] => { results := [.lit (.bool false)], args := [] }
  | _ => none }
def SpringNamesWrongFalsely : Prop := springNamesRow.holds Try.pinned (OpenSpec.ofChange springNamesWrong)

/-- 'cofferlaw06.SpringJudges': WHATEVER THE INPUT: true; the input reads as it did. -/
def springJudgesSpec : ChangeSpec := { name := "springJudges", fn := fun _ => fun
  | [d] => { results := [.lit (.bool true)], args := [d] }
  | _ => none }
def springJudgesRow : OpenClaim := { program := "ytgojmapgkofkmaa", sum := "caba6053aca8c98dd0424a3eab3eac6b5fca76b3cc233c2558aaa03a7f697cf8", func := "coffer/cofferlaw06.SpringJudges", spec := "springJudges", apart := false }
def SpringJudgesSaid : Prop := springJudgesRow.holds Try.pinned (OpenSpec.ofChange springJudgesSpec)

/-- ITS FALSE NEIGHBOUR: 'it returns false'. Refute it at one input. -/
def springJudgesWrong : ChangeSpec := { name := "springJudges", fn := fun _ => fun
  | [d] => { results := [.lit (.bool false)], args := [d] }
  | _ => none }
def SpringJudgesWrongFalsely : Prop := springJudgesRow.holds Try.pinned (OpenSpec.ofChange springJudgesWrong)

/-- 'cofferlaw06.SpringWalks': WHATEVER THE INPUT: true; the input reads as it did. -/
def springWalksSpec : ChangeSpec := { name := "springWalks", fn := fun _ => fun
  | [d1, d2] => { results := [.lit (.bool true)], args := [d1, d2] }
  | _ => none }
def springWalksRow : OpenClaim := { program := "ytgojmapgkofkmaa", sum := "caba6053aca8c98dd0424a3eab3eac6b5fca76b3cc233c2558aaa03a7f697cf8", func := "coffer/cofferlaw06.SpringWalks", spec := "springWalks", unfollowed := true, recurses := true, apart := false }
def SpringWalksSaid : Prop := springWalksRow.holds Try.pinned (OpenSpec.ofChange springWalksSpec)

/-- ITS FALSE NEIGHBOUR: 'it returns false'. Refute it at one input. -/
def springWalksWrong : ChangeSpec := { name := "springWalks", fn := fun _ => fun
  | [d1, d2] => { results := [.lit (.bool false)], args := [d1, d2] }
  | _ => none }
def SpringWalksWrongFalsely : Prop := springWalksRow.holds Try.pinned (OpenSpec.ofChange springWalksWrong)

/-- 'cofferlaw06.SpringTests': WHATEVER THE INPUT: true; the input reads as it did. -/
def springTestsSpec : ChangeSpec := { name := "springTests", fn := fun _ => fun
  | [d1, d2] => { results := [.lit (.bool true)], args := [d1, d2] }
  | _ => none }
def springTestsRow : OpenClaim := { program := "ytgojmapgkofkmaa", sum := "caba6053aca8c98dd0424a3eab3eac6b5fca76b3cc233c2558aaa03a7f697cf8", func := "coffer/cofferlaw06.SpringTests", spec := "springTests", unfollowed := true, recurses := true, apart := false }
def SpringTestsSaid : Prop := springTestsRow.holds Try.pinned (OpenSpec.ofChange springTestsSpec)

/-- ITS FALSE NEIGHBOUR: 'it returns false'. Refute it at one input. -/
def springTestsWrong : ChangeSpec := { name := "springTests", fn := fun _ => fun
  | [d1, d2] => { results := [.lit (.bool false)], args := [d1, d2] }
  | _ => none }
def SpringTestsWrongFalsely : Prop := springTestsRow.holds Try.pinned (OpenSpec.ofChange springTestsWrong)

/- THE SECOND FORM. 'bulk': how many values and letters a reading holds, each counted each time it is reached (what is shared counts as often as it is met; a slice's spare places count too). A statement '..UptoSaid' is the law's where the arguments, and the package variables that the reading takes, are together of bulk at most 1048576: NARROWER than '..Said'. Prove '..Said' where nothing that the law and all that it calls make is longer than what came in: it says more and counts as full. Else prove '..UptoSaid'. A law counts once. -/
mutual
def uptoBulk {H : Type} : DataW H → Nat
  | .lit (.string bytes) => bytes.length + 1
  | .lit _ => 1
  | .nil => 1
  | .ptr d => uptoBulk d + 1
  | .slice elems spare => uptoBulkAll elems + uptoBulkAll spare + 1
  | .agg parts => uptoBulkAll parts + 1
  | .iface _ d => uptoBulk d + 1
  | .map entries => uptoBulkEntries entries + 1
  | .held _ => 1
def uptoBulkAll {H : Type} : List (DataW H) → Nat
  | [] => 0
  | d :: r => uptoBulk d + uptoBulkAll r
def uptoBulkEntries {H : Type} : List (Lit × DataW H) → Nat
  | [] => 0
  | x :: r => uptoBulkEntry x + uptoBulkEntries r
def uptoBulkEntry {H : Type} : Lit × DataW H → Nat
  | (.string bytes, d) => bytes.length + uptoBulk d + 1
  | (_, d) => uptoBulk d + 1
 end
def uptoSmall : (H : Type) → List (DataW H) → Bool := fun _ ds => decide (uptoBulkAll ds ≤ 1048576)
def OpenSpec.upto (s : _root_.Go.ChangeSpec) : _root_.Go.OpenSpec := { _root_.Go.OpenSpec.ofChange s with cond := some uptoSmall }

/-- 'cofferlaw06.SpringNames', WHERE WHAT IT READS IS OF BULK AT MOST 1048576: true; the input reads as it did. -/
def springNamesUptoRow : OpenClaim := { program := "ytgojmapgkofkmaa", sum := "caba6053aca8c98dd0424a3eab3eac6b5fca76b3cc233c2558aaa03a7f697cf8", func := "coffer/cofferlaw06.SpringNames", spec := "springNames", apart := false, narrowed := true }
def SpringNamesUptoSaid : Prop := springNamesUptoRow.holds Try.pinned (OpenSpec.upto springNamesSpec)

/-- 'cofferlaw06.SpringJudges', WHERE WHAT IT READS IS OF BULK AT MOST 1048576: true; the input reads as it did. -/
def springJudgesUptoRow : OpenClaim := { program := "ytgojmapgkofkmaa", sum := "caba6053aca8c98dd0424a3eab3eac6b5fca76b3cc233c2558aaa03a7f697cf8", func := "coffer/cofferlaw06.SpringJudges", spec := "springJudges", apart := false, narrowed := true }
def SpringJudgesUptoSaid : Prop := springJudgesUptoRow.holds Try.pinned (OpenSpec.upto springJudgesSpec)

/-- 'cofferlaw06.SpringWalks', WHERE WHAT IT READS IS OF BULK AT MOST 1048576: true; the input reads as it did. -/
def springWalksUptoRow : OpenClaim := { program := "ytgojmapgkofkmaa", sum := "caba6053aca8c98dd0424a3eab3eac6b5fca76b3cc233c2558aaa03a7f697cf8", func := "coffer/cofferlaw06.SpringWalks", spec := "springWalks", unfollowed := true, recurses := true, apart := false, narrowed := true }
def SpringWalksUptoSaid : Prop := springWalksUptoRow.holds Try.pinned (OpenSpec.upto springWalksSpec)

/-- 'cofferlaw06.SpringTests', WHERE WHAT IT READS IS OF BULK AT MOST 1048576: true; the input reads as it did. -/
def springTestsUptoRow : OpenClaim := { program := "ytgojmapgkofkmaa", sum := "caba6053aca8c98dd0424a3eab3eac6b5fca76b3cc233c2558aaa03a7f697cf8", func := "coffer/cofferlaw06.SpringTests", spec := "springTests", unfollowed := true, recurses := true, apart := false, narrowed := true }
def SpringTestsUptoSaid : Prop := springTestsUptoRow.holds Try.pinned (OpenSpec.upto springTestsSpec)

end Rows
end Go.Proofs.Ytgojmapgkofkmaa

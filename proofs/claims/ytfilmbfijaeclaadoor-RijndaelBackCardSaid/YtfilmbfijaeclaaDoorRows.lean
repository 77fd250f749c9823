/-
  NARROWER THAN 'FOR EVERY INPUT', by the rows' own cells (each row's printed sentence says how): RijndaelKeys: laid · RijndaelBlocks: laid · RijndaelVectors: laid · RijndaelPieces: laid · RijndaelBack: laid · RijndaelPlays: laid.
  DERIVED. THE GIVEN ROWS OF THIS SEAT. 6 by the template 'for every input the law returns true; each argument reads behind the call as it read before'; 0 by the template 'total and deterministic' (their statements: YtfilmbfijaeclaaDoorTotals.lean).
  GIVEN WITH THE SEED: the statements are not yours to turn. If you find one false, say at which input.
  Laid BY PROGRAM, IN A SANDBOX (cutbox-rows.mjs): the forced cells as the released guide's own fill.sh prints them over the translation 3a03b6b0f071d529… (all of the seat's roots in one cut). By AI agents, Wed Nov 11 2026. No macro, syntax, notation, axiom, sorry.
-/
import Derived.Test.YtfilmbfijaeclaaDoorChecked
import GoSem.Claim
import GoSem.ClaimJoined
import GoSem.ClaimMapViews
import Derived.JoinedTies
import Derived.KernelRfl
namespace Go.Proofs.YtfilmbfijaeclaaDoor
/- THE CELL 'sum', in the pinned program and in every row, IS THE sha256 OF THE DUMP (.gsa) THAT YtfilmbfijaeclaaDoorProg.lean LOADS. Nothing in Lean hashes anything: it is a label: what it is worth is what the hold of that sum in a sandbox is worth. -/
noncomputable def Tryd.pinned : Pinned := { name := "ytfilmbfijaeclaadoor", sum := "3a03b6b0f071d529528a0460076b804d4e3a2c59a628ba75a2632ba2a8006ba4", checked := Tryd.checked }
namespace Rows
def none {H : Type} : Left H := { results := [], args := [] }

/- WHAT THE LISTED PACKAGE-LEVEL VARIABLES READ AS WHEN THE CALL BEGINS. Each datum BY PROGRAM (the guide's laid-datum.mjs) off the statement by which the dump's own 'gosem.cut.vars' lays the variable. In a bare row this is a premise. The card (YtfilmbfijaeclaaDoorCards.lean) ties it to the program's text. -/
def laid_coffer_rijndael_rcon {H : Type} : DataW H := .agg [.lit (.int .u8 1), .lit (.int .u8 2), .lit (.int .u8 4), .lit (.int .u8 8), .lit (.int .u8 16), .lit (.int .u8 32), .lit (.int .u8 64), .lit (.int .u8 128), .lit (.int .u8 27), .lit (.int .u8 54)]

/-- 'cofferlaw02.RijndaelKeys': WHATEVER THE INPUT: true; the input reads as it did. -/
def rijndaelKeysSpec : ChangeSpec := { name := "rijndaelKeys", fn := fun _ => fun
  | [d] => { results := [.lit (.bool true)], args := [d] }
  | _ => none }
def rijndaelKeysRow : OpenClaim := { program := "ytfilmbfijaeclaadoor", sum := "3a03b6b0f071d529528a0460076b804d4e3a2c59a628ba75a2632ba2a8006ba4", func := "coffer/cofferlaw02.RijndaelKeys", spec := "rijndaelKeys", inPlace := ["(*sync.RWMutex).RLock", "internal/race.Read", "internal/race.Disable", "sync/atomic.AddInt32", "sync.runtime_SemacquireRWMutexR", "internal/race.Enable", "internal/race.Acquire", "(*sync.RWMutex).RUnlock", "internal/race.ReleaseMerge", "(*sync.RWMutex).rUnlockSlow", "sync.fatal", "sync.runtime_Semrelease"], named := ["coffer/rijndael.rcon"], apart := false, laid := [("coffer/rijndael.rcon", laid_coffer_rijndael_rcon)] }
def RijndaelKeysSaid : Prop := rijndaelKeysRow.holds Tryd.pinned (OpenSpec.ofChange rijndaelKeysSpec)

/-- ITS FALSE NEIGHBOUR: 'it returns false'. Refute it at one input. -/
def rijndaelKeysWrong : ChangeSpec := { name := "rijndaelKeys", fn := fun _ => fun
  | [d] => { results := [.lit (.bool false)], args := [d] }
  | _ => none }
def RijndaelKeysWrongFalsely : Prop := rijndaelKeysRow.holds Tryd.pinned (OpenSpec.ofChange rijndaelKeysWrong)

/-- 'cofferlaw02.RijndaelBlocks': WHATEVER THE INPUT: true; the input reads as it did. -/
def rijndaelBlocksSpec : ChangeSpec := { name := "rijndaelBlocks", fn := fun _ => fun
  | [d1, d2] => { results := [.lit (.bool true)], args := [d1, d2] }
  | _ => none }
def rijndaelBlocksRow : OpenClaim := { program := "ytfilmbfijaeclaadoor", sum := "3a03b6b0f071d529528a0460076b804d4e3a2c59a628ba75a2632ba2a8006ba4", func := "coffer/cofferlaw02.RijndaelBlocks", spec := "rijndaelBlocks", inPlace := ["(*sync.RWMutex).RLock", "internal/race.Read", "internal/race.Disable", "sync/atomic.AddInt32", "sync.runtime_SemacquireRWMutexR", "internal/race.Enable", "internal/race.Acquire", "(*sync.RWMutex).RUnlock", "internal/race.ReleaseMerge", "(*sync.RWMutex).rUnlockSlow", "sync.fatal", "sync.runtime_Semrelease"], named := ["coffer/rijndael.rcon"], apart := false, laid := [("coffer/rijndael.rcon", laid_coffer_rijndael_rcon)] }
def RijndaelBlocksSaid : Prop := rijndaelBlocksRow.holds Tryd.pinned (OpenSpec.ofChange rijndaelBlocksSpec)

/-- ITS FALSE NEIGHBOUR: 'it returns false'. Refute it at one input. -/
def rijndaelBlocksWrong : ChangeSpec := { name := "rijndaelBlocks", fn := fun _ => fun
  | [d1, d2] => { results := [.lit (.bool false)], args := [d1, d2] }
  | _ => none }
def RijndaelBlocksWrongFalsely : Prop := rijndaelBlocksRow.holds Tryd.pinned (OpenSpec.ofChange rijndaelBlocksWrong)

/-- 'cofferlaw02.RijndaelVectors': WHATEVER THE INPUT: true; the input reads as it did. -/
def rijndaelVectorsSpec : ChangeSpec := { name := "rijndaelVectors", fn := fun _ => fun
  | [] => { results := [.lit (.bool true)], args := [] }
  | _ => none }
def rijndaelVectorsRow : OpenClaim := { program := "ytfilmbfijaeclaadoor", sum := "3a03b6b0f071d529528a0460076b804d4e3a2c59a628ba75a2632ba2a8006ba4", func := "coffer/cofferlaw02.RijndaelVectors", spec := "rijndaelVectors", inPlace := ["(*sync.RWMutex).RLock", "internal/race.Read", "internal/race.Disable", "sync/atomic.AddInt32", "sync.runtime_SemacquireRWMutexR", "internal/race.Enable", "internal/race.Acquire", "(*sync.RWMutex).RUnlock", "internal/race.ReleaseMerge", "(*sync.RWMutex).rUnlockSlow", "sync.fatal", "sync.runtime_Semrelease"], named := ["coffer/rijndael.rcon"], apart := false, laid := [("coffer/rijndael.rcon", laid_coffer_rijndael_rcon)] }
def RijndaelVectorsSaid : Prop := rijndaelVectorsRow.holds Tryd.pinned (OpenSpec.ofChange rijndaelVectorsSpec)

/-- ITS FALSE NEIGHBOUR: 'it returns false'. Refute it at one input. -/
def rijndaelVectorsWrong : ChangeSpec := { name := "rijndaelVectors", fn := fun _ => fun
  | [] => { results := [.lit (.bool false)], args := [] }
  | _ => none }
def RijndaelVectorsWrongFalsely : Prop := rijndaelVectorsRow.holds Tryd.pinned (OpenSpec.ofChange rijndaelVectorsWrong)

/-- 'cofferlaw02.RijndaelPieces': WHATEVER THE INPUT: true; the input reads as it did. -/
def rijndaelPiecesSpec : ChangeSpec := { name := "rijndaelPieces", fn := fun _ => fun
  | [d1, d2, d3] => { results := [.lit (.bool true)], args := [d1, d2, d3] }
  | _ => none }
def rijndaelPiecesRow : OpenClaim := { program := "ytfilmbfijaeclaadoor", sum := "3a03b6b0f071d529528a0460076b804d4e3a2c59a628ba75a2632ba2a8006ba4", func := "coffer/cofferlaw02.RijndaelPieces", spec := "rijndaelPieces", inPlace := ["(*sync.RWMutex).RLock", "internal/race.Read", "internal/race.Disable", "sync/atomic.AddInt32", "sync.runtime_SemacquireRWMutexR", "internal/race.Enable", "internal/race.Acquire", "(*sync.RWMutex).RUnlock", "internal/race.ReleaseMerge", "(*sync.RWMutex).rUnlockSlow", "sync.fatal", "sync.runtime_Semrelease"], named := ["coffer/rijndael.rcon"], apart := false, laid := [("coffer/rijndael.rcon", laid_coffer_rijndael_rcon)] }
def RijndaelPiecesSaid : Prop := rijndaelPiecesRow.holds Tryd.pinned (OpenSpec.ofChange rijndaelPiecesSpec)

/-- ITS FALSE NEIGHBOUR: 'it returns false'. Refute it at one input. -/
def rijndaelPiecesWrong : ChangeSpec := { name := "rijndaelPieces", fn := fun _ => fun
  | [d1, d2, d3] => { results := [.lit (.bool false)], args := [d1, d2, d3] }
  | _ => none }
def RijndaelPiecesWrongFalsely : Prop := rijndaelPiecesRow.holds Tryd.pinned (OpenSpec.ofChange rijndaelPiecesWrong)

/-- 'cofferlaw02.RijndaelBack': WHATEVER THE INPUT: true; the input reads as it did. -/
def rijndaelBackSpec : ChangeSpec := { name := "rijndaelBack", fn := fun _ => fun
  | [d1, d2, d3] => { results := [.lit (.bool true)], args := [d1, d2, d3] }
  | _ => none }
def rijndaelBackRow : OpenClaim := { program := "ytfilmbfijaeclaadoor", sum := "3a03b6b0f071d529528a0460076b804d4e3a2c59a628ba75a2632ba2a8006ba4", func := "coffer/cofferlaw02.RijndaelBack", spec := "rijndaelBack", inPlace := ["(*sync.RWMutex).RLock", "internal/race.Read", "internal/race.Disable", "sync/atomic.AddInt32", "sync.runtime_SemacquireRWMutexR", "internal/race.Enable", "internal/race.Acquire", "(*sync.RWMutex).RUnlock", "internal/race.ReleaseMerge", "(*sync.RWMutex).rUnlockSlow", "sync.fatal", "sync.runtime_Semrelease"], named := ["coffer/rijndael.rcon"], apart := false, laid := [("coffer/rijndael.rcon", laid_coffer_rijndael_rcon)] }
def RijndaelBackSaid : Prop := rijndaelBackRow.holds Tryd.pinned (OpenSpec.ofChange rijndaelBackSpec)

/-- ITS FALSE NEIGHBOUR: 'it returns false'. Refute it at one input. -/
def rijndaelBackWrong : ChangeSpec := { name := "rijndaelBack", fn := fun _ => fun
  | [d1, d2, d3] => { results := [.lit (.bool false)], args := [d1, d2, d3] }
  | _ => none }
def RijndaelBackWrongFalsely : Prop := rijndaelBackRow.holds Tryd.pinned (OpenSpec.ofChange rijndaelBackWrong)

/-- 'cofferlaw02.RijndaelPlays': WHATEVER THE INPUT: true; the input reads as it did. -/
def rijndaelPlaysSpec : ChangeSpec := { name := "rijndaelPlays", fn := fun _ => fun
  | [d1, d2] => { results := [.lit (.bool true)], args := [d1, d2] }
  | _ => none }
def rijndaelPlaysRow : OpenClaim := { program := "ytfilmbfijaeclaadoor", sum := "3a03b6b0f071d529528a0460076b804d4e3a2c59a628ba75a2632ba2a8006ba4", func := "coffer/cofferlaw02.RijndaelPlays", spec := "rijndaelPlays", inPlace := ["(*sync.RWMutex).RLock", "internal/race.Read", "internal/race.Disable", "sync/atomic.AddInt32", "sync.runtime_SemacquireRWMutexR", "internal/race.Enable", "internal/race.Acquire", "(*sync.RWMutex).RUnlock", "internal/race.ReleaseMerge", "(*sync.RWMutex).rUnlockSlow", "sync.fatal", "sync.runtime_Semrelease", "(*sync.RWMutex).Lock", "(*internal/sync.Mutex).Lock", "sync/atomic.CompareAndSwapInt32", "(*internal/sync.Mutex).lockSlow", "internal/sync.runtime_canSpin", "internal/sync.runtime_doSpin", "internal/sync.throw", "internal/sync.runtime_nanotime", "internal/sync.runtime_SemacquireMutex", "sync.runtime_SemacquireRWMutex", "(*sync.RWMutex).Unlock", "internal/race.Release", "(*internal/sync.Mutex).Unlock", "(*internal/sync.Mutex).unlockSlow", "internal/sync.fatal", "internal/sync.runtime_Semrelease"], named := ["coffer/rijndael.rcon"], apart := false, laid := [("coffer/rijndael.rcon", laid_coffer_rijndael_rcon)] }
def RijndaelPlaysSaid : Prop := rijndaelPlaysRow.holds Tryd.pinned (OpenSpec.ofChange rijndaelPlaysSpec)

/-- ITS FALSE NEIGHBOUR: 'it returns false'. Refute it at one input. -/
def rijndaelPlaysWrong : ChangeSpec := { name := "rijndaelPlays", fn := fun _ => fun
  | [d1, d2] => { results := [.lit (.bool false)], args := [d1, d2] }
  | _ => none }
def RijndaelPlaysWrongFalsely : Prop := rijndaelPlaysRow.holds Tryd.pinned (OpenSpec.ofChange rijndaelPlaysWrong)

/- THE SECOND FORM. 'bulk': how many values and letters a reading holds, each counted each time it is reached (what is shared counts as often as it is met; a slice's spare places count too). A statement '..UptoSaid' is the law's where the arguments, and the package variables that the reading takes, are together of bulk at most 1048576: NARROWER than '..Said'. Prove '..Said' where nothing that the law and all that it calls make is longer than what came in: it says more and counts as full. Else prove '..UptoSaid'. A law counts once. -/
mutual
def uptoBulk {H : Type} : DataW H → Nat
  | .lit (.string bytes) => bytes.length + 1
  | .lit _ => 1
  | .nil => 1
  | .ptr d => uptoBulk d + 1
  | .slice elems spare => uptoBulkAll elems + uptoBulkAll spare + 1
  | .agg parts => uptoBulkAll parts + 1
  | .iface _ d => uptoBulk d + 1
  | .map entries => uptoBulkEntries entries + 1
  | .held _ => 1
def uptoBulkAll {H : Type} : List (DataW H) → Nat
  | [] => 0
  | d :: r => uptoBulk d + uptoBulkAll r
def uptoBulkEntries {H : Type} : List (Lit × DataW H) → Nat
  | [] => 0
  | x :: r => uptoBulkEntry x + uptoBulkEntries r
def uptoBulkEntry {H : Type} : Lit × DataW H → Nat
  | (.string bytes, d) => bytes.length + uptoBulk d + 1
  | (_, d) => uptoBulk d + 1
 end
def uptoSmall : (H : Type) → List (DataW H) → Bool := fun _ ds => decide (uptoBulkAll ds ≤ 1048576)
def OpenSpec.upto (s : _root_.Go.ChangeSpec) : _root_.Go.OpenSpec := { _root_.Go.OpenSpec.ofChange s with cond := some uptoSmall }

/-- 'cofferlaw02.RijndaelKeys', WHERE WHAT IT READS IS OF BULK AT MOST 1048576: true; the input reads as it did. -/
def rijndaelKeysUptoRow : OpenClaim := { program := "ytfilmbfijaeclaadoor", sum := "3a03b6b0f071d529528a0460076b804d4e3a2c59a628ba75a2632ba2a8006ba4", func := "coffer/cofferlaw02.RijndaelKeys", spec := "rijndaelKeys", inPlace := ["(*sync.RWMutex).RLock", "internal/race.Read", "internal/race.Disable", "sync/atomic.AddInt32", "sync.runtime_SemacquireRWMutexR", "internal/race.Enable", "internal/race.Acquire", "(*sync.RWMutex).RUnlock", "internal/race.ReleaseMerge", "(*sync.RWMutex).rUnlockSlow", "sync.fatal", "sync.runtime_Semrelease"], named := ["coffer/rijndael.rcon"], apart := false, laid := [("coffer/rijndael.rcon", laid_coffer_rijndael_rcon)], narrowed := true }
def RijndaelKeysUptoSaid : Prop := rijndaelKeysUptoRow.holds Tryd.pinned (OpenSpec.upto rijndaelKeysSpec)

/-- 'cofferlaw02.RijndaelBlocks', WHERE WHAT IT READS IS OF BULK AT MOST 1048576: true; the input reads as it did. -/
def rijndaelBlocksUptoRow : OpenClaim := { program := "ytfilmbfijaeclaadoor", sum := "3a03b6b0f071d529528a0460076b804d4e3a2c59a628ba75a2632ba2a8006ba4", func := "coffer/cofferlaw02.RijndaelBlocks", spec := "rijndaelBlocks", inPlace := ["(*sync.RWMutex).RLock", "internal/race.Read", "internal/race.Disable", "sync/atomic.AddInt32", "sync.runtime_SemacquireRWMutexR", "internal/race.Enable", "internal/race.Acquire", "(*sync.RWMutex).RUnlock", "internal/race.ReleaseMerge", "(*sync.RWMutex).rUnlockSlow", "sync.fatal", "sync.runtime_Semrelease"], named := ["coffer/rijndael.rcon"], apart := false, laid := [("coffer/rijndael.rcon", laid_coffer_rijndael_rcon)], narrowed := true }
def RijndaelBlocksUptoSaid : Prop := rijndaelBlocksUptoRow.holds Tryd.pinned (OpenSpec.upto rijndaelBlocksSpec)

/-- 'cofferlaw02.RijndaelVectors', WHERE WHAT IT READS IS OF BULK AT MOST 1048576: true; the input reads as it did. -/
def rijndaelVectorsUptoRow : OpenClaim := { program := "ytfilmbfijaeclaadoor", sum := "3a03b6b0f071d529528a0460076b804d4e3a2c59a628ba75a2632ba2a8006ba4", func := "coffer/cofferlaw02.RijndaelVectors", spec := "rijndaelVectors", inPlace := ["(*sync.RWMutex).RLock", "internal/race.Read", "internal/race.Disable", "sync/atomic.AddInt32", "sync.runtime_SemacquireRWMutexR", "internal/race.Enable", "internal/race.Acquire", "(*sync.RWMutex).RUnlock", "internal/race.ReleaseMerge", "(*sync.RWMutex).rUnlockSlow", "sync.fatal", "sync.runtime_Semrelease"], named := ["coffer/rijndael.rcon"], apart := false, laid := [("coffer/rijndael.rcon", laid_coffer_rijndael_rcon)], narrowed := true }
def RijndaelVectorsUptoSaid : Prop := rijndaelVectorsUptoRow.holds Tryd.pinned (OpenSpec.upto rijndaelVectorsSpec)

/-- 'cofferlaw02.RijndaelPieces', WHERE WHAT IT READS IS OF BULK AT MOST 1048576: true; the input reads as it did. -/
def rijndaelPiecesUptoRow : OpenClaim := { program := "ytfilmbfijaeclaadoor", sum := "3a03b6b0f071d529528a0460076b804d4e3a2c59a628ba75a2632ba2a8006ba4", func := "coffer/cofferlaw02.RijndaelPieces", spec := "rijndaelPieces", inPlace := ["(*sync.RWMutex).RLock", "internal/race.Read", "internal/race.Disable", "sync/atomic.AddInt32", "sync.runtime_SemacquireRWMutexR", "internal/race.Enable", "internal/race.Acquire", "(*sync.RWMutex).RUnlock", "internal/race.ReleaseMerge", "(*sync.RWMutex).rUnlockSlow", "sync.fatal", "sync.runtime_Semrelease"], named := ["coffer/rijndael.rcon"], apart := false, laid := [("coffer/rijndael.rcon", laid_coffer_rijndael_rcon)], narrowed := true }
def RijndaelPiecesUptoSaid : Prop := rijndaelPiecesUptoRow.holds Tryd.pinned (OpenSpec.upto rijndaelPiecesSpec)

/-- 'cofferlaw02.RijndaelBack', WHERE WHAT IT READS IS OF BULK AT MOST 1048576: true; the input reads as it did. -/
def rijndaelBackUptoRow : OpenClaim := { program := "ytfilmbfijaeclaadoor", sum := "3a03b6b0f071d529528a0460076b804d4e3a2c59a628ba75a2632ba2a8006ba4", func := "coffer/cofferlaw02.RijndaelBack", spec := "rijndaelBack", inPlace := ["(*sync.RWMutex).RLock", "internal/race.Read", "internal/race.Disable", "sync/atomic.AddInt32", "sync.runtime_SemacquireRWMutexR", "internal/race.Enable", "internal/race.Acquire", "(*sync.RWMutex).RUnlock", "internal/race.ReleaseMerge", "(*sync.RWMutex).rUnlockSlow", "sync.fatal", "sync.runtime_Semrelease"], named := ["coffer/rijndael.rcon"], apart := false, laid := [("coffer/rijndael.rcon", laid_coffer_rijndael_rcon)], narrowed := true }
def RijndaelBackUptoSaid : Prop := rijndaelBackUptoRow.holds Tryd.pinned (OpenSpec.upto rijndaelBackSpec)

/-- 'cofferlaw02.RijndaelPlays', WHERE WHAT IT READS IS OF BULK AT MOST 1048576: true; the input reads as it did. -/
def rijndaelPlaysUptoRow : OpenClaim := { program := "ytfilmbfijaeclaadoor", sum := "3a03b6b0f071d529528a0460076b804d4e3a2c59a628ba75a2632ba2a8006ba4", func := "coffer/cofferlaw02.RijndaelPlays", spec := "rijndaelPlays", inPlace := ["(*sync.RWMutex).RLock", "internal/race.Read", "internal/race.Disable", "sync/atomic.AddInt32", "sync.runtime_SemacquireRWMutexR", "internal/race.Enable", "internal/race.Acquire", "(*sync.RWMutex).RUnlock", "internal/race.ReleaseMerge", "(*sync.RWMutex).rUnlockSlow", "sync.fatal", "sync.runtime_Semrelease", "(*sync.RWMutex).Lock", "(*internal/sync.Mutex).Lock", "sync/atomic.CompareAndSwapInt32", "(*internal/sync.Mutex).lockSlow", "internal/sync.runtime_canSpin", "internal/sync.runtime_doSpin", "internal/sync.throw", "internal/sync.runtime_nanotime", "internal/sync.runtime_SemacquireMutex", "sync.runtime_SemacquireRWMutex", "(*sync.RWMutex).Unlock", "internal/race.Release", "(*internal/sync.Mutex).Unlock", "(*internal/sync.Mutex).unlockSlow", "internal/sync.fatal", "internal/sync.runtime_Semrelease"], named := ["coffer/rijndael.rcon"], apart := false, laid := [("coffer/rijndael.rcon", laid_coffer_rijndael_rcon)], narrowed := true }
def RijndaelPlaysUptoSaid : Prop := rijndaelPlaysUptoRow.holds Tryd.pinned (OpenSpec.upto rijndaelPlaysSpec)

end Rows
end Go.Proofs.YtfilmbfijaeclaaDoor

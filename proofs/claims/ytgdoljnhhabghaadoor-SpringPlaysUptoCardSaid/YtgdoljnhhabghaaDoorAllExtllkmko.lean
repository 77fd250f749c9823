/- Texts of this claim, put together: Ext -/
import Derived.Lib.MakeNoZero
import Derived.WalkKit
import Derived.Test.YtgdoljnhhabghaaDoorProg
import Derived.Test.YtgdoljnhhabghaaDoorAllFwnonhfd
/- Go's library, met by the machine's own text: internal/bytealg.MakeNoZero, which has no body. -/
namespace Go.Sh
open Go.Fw Go.Proofs.Tryd Go.Proofs
set_option maxRecDepth 100000

/-- a part of a tuple -/
def tupX {β : Type} (x : Value) (i : Nat) (K : Value → Option β) : Option β := match x with
  | .tuple vs => match vs[i]? with
    | some v => K v
    | none => none
  | _ => none

/-- a function that leaves the world as it is, as one that may not -/
def ceR (c : RE) : CE := ⟨fun args w K => c.run args w fun v => K v w⟩
theorem ceR_ok {P : Program} {f : FuncId} {c : RE} (h : c.Ok P f) : (ceR c).Ok P f := by
  intro β args w K r hrun
  obtain ⟨v, hv, hd⟩ := h args w (fun v => K v w) r hrun
  exact CallDoes.comes (v := v) (w' := w) (hd.imp id fun h => ⟨w, h⟩) hv

/-- internal/bytealg.MakeNoZero -/
noncomputable def bytealg_MakeNoZero (n : Int) (w : World) : Option ((Sl × Unit) × World) :=
  match (Extern.BytealgMakeNoZero.makeNoZero #[3] #[22] #[.int .i64 n]).run prog w with
  | .ok (.slice a l c) w' => some ((⟨a, l, c⟩, ()), w')
  | _ => none
noncomputable def bytealg_MakeNoZero_ce : CE := funE [(0, .int .i64)] [.sl] (fun x w => bytealg_MakeNoZero x.1 w)
theorem bytealg_MakeNoZero_ok : bytealg_MakeNoZero_ce.Ok prog 38 := by
  intro β args w K r hrun
  simp only [bytealg_MakeNoZero_ce, funE] at hrun
  obtain ⟨x, hrun, hx⟩ := decA_some hrun
  obtain ⟨y, w1, h1, hrun⟩ := bnd_some hrun
  refine CallDoes.comes (v := resV (encR [.sl] y)) (w' := w1) (.inl ?_) hrun
  rw [hx]
  obtain ⟨n, u⟩ := x
  have h1 : bytealg_MakeNoZero n w = some (y, w1) := h1
  show (callFunc 38 #[.int .i64 n]).run prog w = _
  rw [run_callFunc_extern func38 (by kernel_rfl) (by kernel_rfl) (by kernel_rfl) (e := Extern.BytealgMakeNoZero.makeNoZero #[3] #[22]) (by kernel_rfl)]
  unfold bytealg_MakeNoZero at h1
  cases hr : (Extern.BytealgMakeNoZero.makeNoZero #[3] #[22] #[.int .i64 n]).run prog w with
  | ok v w2 =>
    rw [hr] at h1
    cases v <;> first | (cases h1; done) | skip
    case slice a l c =>
      have h1 := Option.some.inj h1
      obtain ⟨h2, rfl⟩ := Prod.mk.inj h1
      subst h2
      rfl
  | halt s => rw [hr] at h1; cases h1
end Go.Sh

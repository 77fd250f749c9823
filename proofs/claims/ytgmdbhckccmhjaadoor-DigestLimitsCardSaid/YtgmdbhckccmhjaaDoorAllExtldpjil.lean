/- Texts of this claim, put together: Ext -/
import Derived.Lib.Builder
import Derived.WalkKit
import Derived.Test.YtgmdbhckccmhjaaDoorProg
import Derived.Test.YtgmdbhckccmhjaaDoorAllFwnapiji
/- Go's library, met by its contracts: IndexByte, Builder.copyCheck. -/
namespace Go.Proofs
open Go.RowKit

theorem Tryd.sizeBuilder : (Tryd.prog.info? 105).map (·.size) = some 2 := by kernel_rfl

set_option maxHeartbeats 1000000 in
set_option maxRecDepth 100000 in
theorem Tryd.copyCheck_used (b : Nat) (w : World) (h0 : w.cell? ⟨b, 0, none⟩ = some (.pointer (some ⟨b, 0, none⟩))) :
    Calls Tryd.prog 84 #[.pointer (some ⟨b, 0, none⟩)] w fun e w' => e = .returned (.tuple #[]) ∧ w' = w := by
  obtain ⟨j, hj, _⟩ := Option.map_eq_some_iff.1 Tryd.sizeBuilder
  go_enter Tryd.func84, Tryd.ntmps84
  go_wp2
  rw [Lib.run_neq_ptr_same w _ Tryd.underlying103 hj]
  go_wp2
  go_end0
  exact ⟨rfl, rfl⟩

set_option maxHeartbeats 1000000 in
set_option maxRecDepth 100000 in
theorem Tryd.copyCheck_fresh (b : Nat) (w : World) (h0 : w.cell? ⟨b, 0, none⟩ = some (.pointer none)) (hsh : w.shape? b = some (105, 2)) (hfz : w.frozen? ⟨b, 0, none⟩ = false) :
    Calls Tryd.prog 84 #[.pointer (some ⟨b, 0, none⟩)] w fun e w' => e = .returned (.tuple #[]) ∧ w' = w.setCell ⟨b, 0, none⟩ (.pointer (some ⟨b, 0, none⟩)) := by
  obtain ⟨j, hj, hjs⟩ := Option.map_eq_some_iff.1 Tryd.sizeBuilder
  go_enter Tryd.func84, Tryd.ntmps84
  go_wp2
  rw [Lib.run_to_unsafe w ⟨b, 0, none⟩ Tryd.underlying103 Tryd.underlying140 hj (by rw [hjs]; decide) hsh (Nat.zero_lt_succ 1)]
  simp only [Result.andThen]
  rw [Oper.upon_value]
  go_wp2
  rw [run_callFunc_extern Tryd.func94 (by kernel_rfl) (by kernel_rfl) (by kernel_rfl) (e := Extern.AbiNoEscape.same) (by kernel_rfl)]
  rw [Lib.run_noEscape]
  simp only [Result.andThen]
  rw [Oper.upon_value]
  go_wp2
  rw [Lib.run_from_unsafe w ⟨b, 0, none⟩ Tryd.underlying140 Tryd.underlying103 hj hsh (by kernel_rfl)]
  simp only [Result.andThen]
  rw [Oper.upon_value]
  go_wp2
  go_end0
  exact ⟨rfl, rfl⟩
end Go.Proofs

namespace Go.Sh
open Go.Fw Go.Proofs.Tryd Go.Proofs
set_option maxRecDepth 100000

/-- a part of a tuple -/
def tupX {β : Type} (x : Value) (i : Nat) (K : Value → Option β) : Option β := match x with
  | .tuple vs => match vs[i]? with
    | some v => K v
    | none => none
  | _ => none

/-- (*strings.Builder).copyCheck -/
noncomputable def strings_Builder_copyCheck (p : Option Addr) (w : World) : Option (Unit × World) :=
  p.bind fun a => if a.off = 0 ∧ a.spot = none ∧ w.shape? a.block = some (105, 2) ∧ w.frozen? a = false then
    (if ldP a w = some none then some ((), w.setCell a (.pointer (some a))) else if ldP a w = some (some a) then some ((), w) else none) else none
theorem ldP_cell {a : Addr} {w : World} {q : Option Addr} (h : ldP a w = some q) : w.cell? a = some (.pointer q) := by
  unfold ldP at h
  cases hc : w.cell? a with
  | none => rw [hc] at h; cases h
  | some v => rw [hc] at h; exact congrArg some (asP_eq h)
theorem strings_Builder_copyCheck_facts : FunFacts prog 84 f84 (bodyOf f84) [(0, .ptr)] [(0, 20)] := ⟨func84, by kernel_rfl, by kernel_rfl, by kernel_rfl, by kernel_rfl, by kernel_rfl⟩
theorem strings_Builder_copyCheck_calls (x : TT [(0, .ptr)]) (w : World) (y : TR []) (w2 : World) (h : strings_Builder_copyCheck x.1 w = some (y, w2)) : Calls prog 84 (encA [(0, .ptr)] x).toArray w (fun e w3 => e = .returned (resV (encR [] y)) ∧ w3 = w2) := by
  obtain ⟨p, u⟩ := x
  unfold strings_Builder_copyCheck at h
  cases p with
  | none => cases h
  | some a =>
    simp only [Option.bind_some] at h
    split at h
    · rename_i hc
      obtain ⟨h1, h2, h3, h4⟩ := hc
      obtain ⟨b, o, sp⟩ := a
      have h1 : o = 0 := h1
      have h2 : sp = none := h2
      subst h1 h2
      split at h
      · rename_i hn
        have h := (Prod.mk.inj (Option.some.inj h)).2
        subst h
        exact Tryd.copyCheck_fresh b w (ldP_cell hn) h3 h4
      · split at h
        · rename_i hn
          have h := (Prod.mk.inj (Option.some.inj h)).2
          subst h
          exact Tryd.copyCheck_used b w (ldP_cell hn)
        · cases h
    · cases h
noncomputable def strings_Builder_copyCheck_ce : CE := funE [(0, .ptr)] [] (fun x w => strings_Builder_copyCheck x.1 w)
theorem strings_Builder_copyCheck_ok : strings_Builder_copyCheck_ce.Ok prog 84 := funE_ok (Rt := []) (S := (fun x w => strings_Builder_copyCheck x.1 w)) strings_Builder_copyCheck_facts fun x w y w2 h => strings_Builder_copyCheck_calls x w y w2 h

end Go.Sh

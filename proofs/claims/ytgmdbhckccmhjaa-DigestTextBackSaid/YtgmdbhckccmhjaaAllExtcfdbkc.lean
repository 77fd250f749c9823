/- Texts of this claim, put together: Ext -/
import Derived.Shelf.Strings.Search1
import Derived.Lib.Builder
import Derived.WalkKit
import Derived.Test.YtgmdbhckccmhjaaProg
import Derived.Test.YtgmdbhckccmhjaaAllFwcobdco
/- Go's library, met by its contracts: IndexByte, Builder.copyCheck. -/
namespace Go.Proofs
open Go.Shelf Go.RowKit
def Try.lays217_ren : Go.Shelf.Ren := ⟨fun | 217 => 33 | 266 => 35 | n => n, fun n => n, fun n => n⟩
theorem Try.lays217 : Lays.n217 Try.prog Try.lays217_ren where
  mixed := by kernel_rfl
  f217 := Try.func33.trans (congrArg some (by kernel_rfl))
  f266 := Try.func35.trans (congrArg some (by kernel_rfl))
  t3 := Try.underlying3
  a3 := Try.isAgg3
  z3 := Try.sizeOf3
  v3 := Try.zeroValue3
  t5 := Try.underlying5
  a5 := Try.isAgg5
  z5 := Try.sizeOf5
  v5 := Try.zeroValue5
  t9 := Try.underlying9
  a9 := Try.isAgg9
  z9 := Try.sizeOf9
  v9 := Try.zeroValue9

theorem Try.sizeBuilder : (Try.prog.info? 39).map (·.size) = some 2 := by kernel_rfl

set_option maxHeartbeats 1000000 in
set_option maxRecDepth 100000 in
theorem Try.copyCheck_used (b : Nat) (w : World) (h0 : w.cell? ⟨b, 0, none⟩ = some (.pointer (some ⟨b, 0, none⟩))) :
    Calls Try.prog 32 #[.pointer (some ⟨b, 0, none⟩)] w fun e w' => e = .returned (.tuple #[]) ∧ w' = w := by
  obtain ⟨j, hj, _⟩ := Option.map_eq_some_iff.1 Try.sizeBuilder
  go_enter Try.func32, Try.ntmps32
  go_wp2
  rw [Lib.run_neq_ptr_same w _ Try.underlying37 hj]
  go_wp2
  go_end0
  exact ⟨rfl, rfl⟩

set_option maxHeartbeats 1000000 in
set_option maxRecDepth 100000 in
theorem Try.copyCheck_fresh (b : Nat) (w : World) (h0 : w.cell? ⟨b, 0, none⟩ = some (.pointer none)) (hsh : w.shape? b = some (39, 2)) (hfz : w.frozen? ⟨b, 0, none⟩ = false) :
    Calls Try.prog 32 #[.pointer (some ⟨b, 0, none⟩)] w fun e w' => e = .returned (.tuple #[]) ∧ w' = w.setCell ⟨b, 0, none⟩ (.pointer (some ⟨b, 0, none⟩)) := by
  obtain ⟨j, hj, hjs⟩ := Option.map_eq_some_iff.1 Try.sizeBuilder
  go_enter Try.func32, Try.ntmps32
  go_wp2
  rw [Lib.run_to_unsafe w ⟨b, 0, none⟩ Try.underlying37 Try.underlying54 hj (by rw [hjs]; decide) hsh (Nat.zero_lt_succ 1)]
  simp only [Result.andThen]
  rw [Oper.upon_value]
  go_wp2
  rw [run_callFunc_extern Try.func34 (by kernel_rfl) (by kernel_rfl) (by kernel_rfl) (e := Extern.AbiNoEscape.same) (by kernel_rfl)]
  rw [Lib.run_noEscape]
  simp only [Result.andThen]
  rw [Oper.upon_value]
  go_wp2
  rw [Lib.run_from_unsafe w ⟨b, 0, none⟩ Try.underlying54 Try.underlying37 hj hsh (by kernel_rfl)]
  simp only [Result.andThen]
  rw [Oper.upon_value]
  go_wp2
  go_end0
  exact ⟨rfl, rfl⟩
end Go.Proofs

namespace Go.Sh
open Go.Fw Go.Proofs.Try Go.Proofs
set_option maxRecDepth 100000

/-- a part of a tuple -/
def tupX {β : Type} (x : Value) (i : Nat) (K : Value → Option β) : Option β := match x with
  | .tuple vs => match vs[i]? with
    | some v => K v
    | none => none
  | _ => none

/-- (*strings.Builder).copyCheck -/
noncomputable def strings_Builder_copyCheck (p : Option Addr) (w : World) : Option (Unit × World) :=
  p.bind fun a => if a.off = 0 ∧ a.spot = none ∧ w.shape? a.block = some (39, 2) ∧ w.frozen? a = false then
    (if ldP a w = some none then some ((), w.setCell a (.pointer (some a))) else if ldP a w = some (some a) then some ((), w) else none) else none
theorem ldP_cell {a : Addr} {w : World} {q : Option Addr} (h : ldP a w = some q) : w.cell? a = some (.pointer q) := by
  unfold ldP at h
  cases hc : w.cell? a with
  | none => rw [hc] at h; cases h
  | some v => rw [hc] at h; exact congrArg some (asP_eq h)
theorem strings_Builder_copyCheck_facts : FunFacts prog 32 f32 (bodyOf f32) [(0, .ptr)] [(0, 20)] := ⟨func32, by kernel_rfl, by kernel_rfl, by kernel_rfl, by kernel_rfl, by kernel_rfl⟩
theorem strings_Builder_copyCheck_calls (x : TT [(0, .ptr)]) (w : World) (y : TR []) (w2 : World) (h : strings_Builder_copyCheck x.1 w = some (y, w2)) : Calls prog 32 (encA [(0, .ptr)] x).toArray w (fun e w3 => e = .returned (resV (encR [] y)) ∧ w3 = w2) := by
  obtain ⟨p, u⟩ := x
  unfold strings_Builder_copyCheck at h
  cases p with
  | none => cases h
  | some a =>
    simp only [Option.bind_some] at h
    split at h
    · rename_i hc
      obtain ⟨h1, h2, h3, h4⟩ := hc
      obtain ⟨b, o, sp⟩ := a
      have h1 : o = 0 := h1
      have h2 : sp = none := h2
      subst h1 h2
      split at h
      · rename_i hn
        have h := (Prod.mk.inj (Option.some.inj h)).2
        subst h
        exact Try.copyCheck_fresh b w (ldP_cell hn) h3 h4
      · split at h
        · rename_i hn
          have h := (Prod.mk.inj (Option.some.inj h)).2
          subst h
          exact Try.copyCheck_used b w (ldP_cell hn)
        · cases h
    · cases h
noncomputable def strings_Builder_copyCheck_ce : CE := funE [(0, .ptr)] [] (fun x w => strings_Builder_copyCheck x.1 w)
theorem strings_Builder_copyCheck_ok : strings_Builder_copyCheck_ce.Ok prog 32 := funE_ok (Rt := []) (S := (fun x w => strings_Builder_copyCheck x.1 w)) strings_Builder_copyCheck_facts fun x w y w2 h => strings_Builder_copyCheck_calls x w y w2 h

/-- internal/stringslite.IndexByte -/
noncomputable def stringslite_IndexByte (s : ByteArray) (c : Int) : Option (Int × Unit) := some (Lib.indexByte s.data.toList c.toNat.toUInt8, ())
theorem stringslite_IndexByte_facts : FunFacts prog 33 f33 (bodyOf f33) [(0, .str), (1, .int .u8)] [(0, 8)] := ⟨func33, by kernel_rfl, by kernel_rfl, by kernel_rfl, by kernel_rfl, by kernel_rfl⟩
theorem stringslite_IndexByte_calls (x : TT [(0, .str), (1, .int .u8)]) (w : World) (y : TR [.int .i64]) (h : stringslite_IndexByte x.1 x.2.1 = some y) : Calls prog 33 (encA [(0, .str), (1, .int .u8)] x).toArray w (fun e w3 => e = .returned (resV (encR [.int .i64] y)) ∧ w3 = w) := by
  obtain ⟨s, c, u⟩ := x
  have h := Option.some.inj h
  subst h
  exact Any.stringslite_IndexByte Try.lays217 s c w
noncomputable def stringslite_IndexByte_re : RE := funR [(0, .str), (1, .int .u8)] [.int .i64] (fun x w => stringslite_IndexByte x.1 x.2.1)
theorem stringslite_IndexByte_ok : stringslite_IndexByte_re.Ok prog 33 := funR_ok (Rt := [.int .i64]) (S := (fun x w => stringslite_IndexByte x.1 x.2.1)) stringslite_IndexByte_facts fun x w y h => stringslite_IndexByte_calls x w y h
end Go.Sh

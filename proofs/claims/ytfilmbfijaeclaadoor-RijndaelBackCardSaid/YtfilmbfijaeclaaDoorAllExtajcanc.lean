/- Texts of this claim, put together: Locks, Ext -/
import Derived.Test.YtfilmbfijaeclaaDoorProg
import Derived.Conc.RwLib
import Derived.KernelRfl
import Derived.Conc.RwLoneW
import Derived.WalkKit
import Derived.WalkSpells
import Derived.Test.YtfilmbfijaeclaaDoorAllFwhohjab
/- The numbers under which this seat holds the library's locks. -/
namespace Go.Proofs
abbrev Tryd.muLink : Go.Conc.Locks.MuLink := { lock := 85, unlock := 90, ilock := 92, iunlock := 93, lockSlow := 95, unlockSlow := 96, disable := 78, enable := 81, acquire := 82, relMerge := 83, cas32 := 94, add32 := 91, tMutex := 85, tIMutex := 83, tPMutex := 149, tPIMutex := 158, tPI32 := 157, tUP := 148, tNoCopy := 81, tU32 := 50 }
theorem Tryd.muLib : Go.Conc.Locks.MuLib Tryd.prog Tryd.muLink :=
  ⟨Tryd.func85, Tryd.func90, Tryd.func92, Tryd.func93, Tryd.func78, Tryd.func81, Tryd.func82, Tryd.func83, Tryd.func94, Tryd.func91, Tryd.underlying83, Tryd.runUnderlying83, Tryd.sizeOf83, Tryd.isAgg83, Tryd.zeroValue83, Tryd.underlying85, Tryd.runUnderlying85, Tryd.sizeOf85, Tryd.isAgg85, Tryd.zeroValue85, Tryd.underlying149, Tryd.runUnderlying149, Tryd.sizeOf149, Tryd.isAgg149, Tryd.zeroValue149, Tryd.underlying158, Tryd.runUnderlying158, Tryd.sizeOf158, Tryd.isAgg158, Tryd.zeroValue158, Tryd.underlying157, Tryd.runUnderlying157, Tryd.sizeOf157, Tryd.isAgg157, Tryd.zeroValue157, Tryd.underlying148, Tryd.runUnderlying148, Tryd.sizeOf148, Tryd.isAgg148, Tryd.zeroValue148, Tryd.underlying81, Tryd.runUnderlying81, Tryd.sizeOf81, Tryd.isAgg81, Tryd.zeroValue81, Tryd.underlying21, Tryd.runUnderlying21, Tryd.sizeOf21, Tryd.isAgg21, Tryd.zeroValue21, (by kernel_rfl)⟩
abbrev Tryd.rwLink : Go.Conc.Locks.RwLink := { lock := 85, unlock := 90, ilock := 92, iunlock := 93, lockSlow := 95, unlockSlow := 96, disable := 78, enable := 81, acquire := 82, relMerge := 83, cas32 := 94, add32 := 91, tMutex := 85, tIMutex := 83, tPMutex := 149, tPIMutex := 158, tPI32 := 157, tUP := 148, tNoCopy := 81, tU32 := 50, rlock := 65, runlock := 66, wlock := 71, wunlock := 72, i32add := 79, raceRead := 77, release := 87, rUnlockSlow := 84, semacqR := 80, semacqW := 86, semrel := 89, sfatal := 88, tRW := 90, tPRW := 146, tAI32 := 88, tPAI32 := 155, tPU32 := 152, tANoCopy := 86 }
theorem Tryd.rwCore : Go.Conc.Locks.RwCore Tryd.prog Tryd.rwLink :=
  ⟨Tryd.func79, Tryd.func77, Tryd.func78, Tryd.func81, Tryd.func82, Tryd.func83, Tryd.func91, Tryd.underlying90, Tryd.runUnderlying90, Tryd.sizeOf90, Tryd.isAgg90, Tryd.zeroValue90, Tryd.underlying88, Tryd.runUnderlying88, Tryd.sizeOf88, Tryd.isAgg88, Tryd.zeroValue88, Tryd.underlying146, Tryd.runUnderlying146, Tryd.sizeOf146, Tryd.isAgg146, Tryd.zeroValue146, Tryd.underlying155, Tryd.runUnderlying155, Tryd.sizeOf155, Tryd.isAgg155, Tryd.zeroValue155, Tryd.underlying152, Tryd.runUnderlying152, Tryd.sizeOf152, Tryd.isAgg152, Tryd.zeroValue152, Tryd.underlying86, Tryd.runUnderlying86, Tryd.sizeOf86, Tryd.isAgg86, Tryd.zeroValue86, Tryd.underlying50, Tryd.runUnderlying50, Tryd.sizeOf50, Tryd.isAgg50, Tryd.zeroValue50, Tryd.underlying85, Tryd.runUnderlying85, Tryd.sizeOf85, Tryd.isAgg85, Tryd.zeroValue85, Tryd.underlying149, Tryd.runUnderlying149, Tryd.sizeOf149, Tryd.isAgg149, Tryd.zeroValue149, Tryd.underlying157, Tryd.runUnderlying157, Tryd.sizeOf157, Tryd.isAgg157, Tryd.zeroValue157, Tryd.underlying148, Tryd.runUnderlying148, Tryd.sizeOf148, Tryd.isAgg148, Tryd.zeroValue148, Tryd.underlying21, Tryd.runUnderlying21, Tryd.sizeOf21, Tryd.isAgg21, Tryd.zeroValue21, (by kernel_rfl), (by kernel_rfl)⟩
theorem Tryd.rwRLib : Go.Conc.Locks.RwRLib Tryd.prog Tryd.rwLink := ⟨Tryd.rwCore, Tryd.func65, Tryd.func66⟩
theorem Tryd.rwWLib : Go.Conc.Locks.RwWLib Tryd.prog Tryd.rwLink := ⟨Tryd.rwCore, Tryd.muLib, Tryd.func71, Tryd.func72, Tryd.func87, Tryd.underlying3, Tryd.runUnderlying3, Tryd.sizeOf3, Tryd.isAgg3, Tryd.zeroValue3⟩
end Go.Proofs


/- A method that reads under a lock: (*rijndael.Key).schedule, by the machine's own text and the library's contracts of the lock. -/
namespace Go.Sh
open Go.Fw Go.Proofs.Tryd Go.Proofs Go.RwLone
open Go.RowKit (wrap32 wrap64)
set_option maxRecDepth 100000
set_option linter.unusedVariables false

theorem set_back {cs : Array Value} {o : Nat} {v u : Value} (h : cs[o]? = some v) : (cs.setIfInBounds o u).setIfInBounds o v = cs := by
  apply Array.ext_getElem?
  intro j
  by_cases hj : o = j
  · subst hj
    have := (Array.getElem?_eq_some_iff.1 h).1
    rw [Array.getElem?_setIfInBounds_self_of_lt (by simpa using this), h]
  · rw [Array.getElem?_setIfInBounds_ne hj, Array.getElem?_setIfInBounds_ne hj]

theorem setCell_back {w : World} {b o : Nat} {v u : Value} (h : w.cell? ⟨b, o, none⟩ = some v) : (w.setCell ⟨b, o, none⟩ u).setCell ⟨b, o, none⟩ v = w := by
  have key : ((w.setCell ⟨b, o, none⟩ u).setCell ⟨b, o, none⟩ v).heap = w.heap := by
    unfold World.cell? at h
    apply Array.ext
    · simp [World.setCell]
    · intro i h1 h2
      simp only [World.setCell, Array.getElem_modify]
      by_cases hi : b = i
      · subst hi
        have hb : w.heap[b]? = some w.heap[b] := Array.getElem?_eq_getElem h2
        rw [hb] at h
        simp only [if_true]
        cases ho : w.heap[b] with
        | cells cs e fz =>
          rw [ho] at h
          simp at h
          simp only
          simp only [Option.isSome_none, Bool.false_eq_true, if_false]
          rw [set_back h]
        | _ => rfl
      · simp [hi]
  have e : ∀ (w2 : World), w2.heap = w.heap → { w2 with heap := w.heap } = w2 := fun w2 h => by rw [← h]
  show { ((w.setCell ⟨b, o, none⟩ u).setCell ⟨b, o, none⟩ v) with heap := ((w.setCell ⟨b, o, none⟩ u).setCell ⟨b, o, none⟩ v).heap } = w
  rw [key]
  rfl

open Classical in
/-- (*coffer/rijndael.Key).schedule, where the lock is free -/
noncomputable def rijndael_Key_schedule (k : Option Addr) (back : Bool) (w : World) : Option ((Sl × Int × Unit) × World) :=
  match k with
  | none => some ((⟨none, 0, 0⟩, 1, ()), w)
  | some p =>
    if p.spot = none ∧ (w.cell? p).isSome = true ∧ (w.cell? (p.add 2)).isSome = true ∧ (w.cell? (p.add 3)).isSome = true ∧ w.cell? (p.add 4) = some (.int .i32 0) ∧ w.frozen? (p.add 4) = false then
      (ldS (p.add 8) w).bind fun ws =>
        if ws.a.isNone = true then some ((⟨none, 0, 0⟩, 21, ()), w) else if back = true then (ldS (p.add 9) w).bind fun b => some ((b, 0, ()), w) else some ((ws, 0, ()), w)
    else none

theorem ldS_cell {p : Addr} {w : World} {s : Sl} (h : ldS p w = some s) : w.cell? p = some (.slice s.a s.len s.cap) := by
  unfold ldS at h
  cases hc : w.cell? p with
  | none => rw [hc] at h; cases h
  | some v =>
    rw [hc] at h
    cases v <;> first | (simp [asS] at h; done) | skip
    simp [asS] at h; rw [← h]

set_option maxHeartbeats 4000000 in
theorem schedule_nil (back : Bool) (w : World) : Calls prog 44 #[.pointer none, .bool back] w fun e w' => e = .returned (.tuple #[.slice none 0 0, .int .i64 1]) ∧ w' = w := by
  go_enter_defers func44, ntmps44
  go_wp2
  exact ⟨_, results_tmp2 rfl _ _ _, rfl, rfl⟩


theorem sch_leave (b off : Nat) (x0 x2 : Value) (w : World) (c0 : w.cell? ⟨b, off, none⟩ = some x0) (c2 : w.cell? ⟨b, off + 2, none⟩ = some x2) (hc : w.cell? ⟨b, off + 4, none⟩ = some (.int .i32 0)) (hz : w.frozen? ⟨b, off + 4, none⟩ = false) {fn : Func} {tmps : Array Value} {R : Ending → World → Prop} {v : Value} (hv : ∀ w, (results fn tmps).run prog w = .ok v w) (hR : R (.returned v) w) :
    Leaves prog fn tmps R [{ target := .fn (.func 66) #[], args := #[.pointer (some ⟨b, off, none⟩)] }] .returning (w.setCell ⟨b, off + 4, none⟩ (.int .i32 (wrap32 (0 + 1)))) := by
  refine leaves_cons (f := 66) (args := #[.pointer (some ⟨b, off, none⟩)]) (by simp) (by simp [go_sem]) ?_
  refine (runlock_deferred Tryd.rwRLib b off (wrap32 (0 + 1)) x0 x2 .returning _ ((World.cell?_setCell_other _ ⟨b, off + 4, none⟩ ⟨b, off, none⟩ _ (by simp)).trans c0) ((World.cell?_setCell_other _ ⟨b, off + 4, none⟩ ⟨b, off + 2, none⟩ _ (by simp)).trans c2) (World.cell?_setCell_same w _ _ hc) (by simp [hz]) (by decide +kernel)).mono ?_
  rintro e u' w'' ⟨rfl, rfl, rfl⟩
  have e0 : wrap32 (wrap32 (0 + 1) + -1) = 0 := by decide +kernel
  rw [e0, setCell_back hc]
  exact ⟨v, hv w, hR⟩

set_option maxHeartbeats 4000000 in
theorem schedule_wiped (b off : Nat) (back : Bool) (x0 x2 x3 : Value) (w : World) (c0 : w.cell? ⟨b, off, none⟩ = some x0) (c2 : w.cell? ⟨b, off + 2, none⟩ = some x2) (c3 : w.cell? ⟨b, off + 3, none⟩ = some x3) (hc : w.cell? ⟨b, off + 4, none⟩ = some (.int .i32 0)) (hz : w.frozen? ⟨b, off + 4, none⟩ = false) (l c : Nat) (c8 : w.cell? ⟨b, off + 8, none⟩ = some (.slice none l c)) : Calls prog 44 #[.pointer (some ⟨b, off, none⟩), .bool back] w fun e w' => e = .returned (.tuple #[.slice none 0 0, .int .i64 21]) ∧ w' = w := by
  have hn' : (w.setCell ⟨b, off + 4, none⟩ (.int .i32 (wrap32 (0 + 1)))).cell? ⟨b, off + 8, none⟩ = some (.slice none l c) := (World.cell?_setCell_other _ ⟨b, off + 4, none⟩ ⟨b, off + 8, none⟩ _ (by simp)).trans c8
  have hnil := fun (w : World) (a : Option Addr) (n c n' c' : Nat) => Lib.run_eql_slice_nil (P := prog) w 34 50 a n c n' c' underlying34
  go_enter_defers func44, ntmps44
  go_wp2_with (go_at_call 65; refine (rlock_open Tryd.rwRLib b off 0 x0 x3 _ c0 c3 hc hz (by decide +kernel)).mono ?_; rintro e w' ⟨rfl, rfl⟩)
  refine sch_leave b off x0 x2 w c0 c2 hc hz (v := .tuple #[.slice none 0 0, .int .i64 21]) ?_ ?_
  · exact fun w => results_tmp2 (t := 4) (u := 5) rfl _ _ _
  · exact ⟨rfl, rfl⟩

set_option maxHeartbeats 4000000 in
theorem schedule_words (b off : Nat) (x0 x2 x3 : Value) (w : World) (c0 : w.cell? ⟨b, off, none⟩ = some x0) (c2 : w.cell? ⟨b, off + 2, none⟩ = some x2) (c3 : w.cell? ⟨b, off + 3, none⟩ = some x3) (hc : w.cell? ⟨b, off + 4, none⟩ = some (.int .i32 0)) (hz : w.frozen? ⟨b, off + 4, none⟩ = false) (g : Addr) (l c : Nat) (c8 : w.cell? ⟨b, off + 8, none⟩ = some (.slice (some g) l c)) : Calls prog 44 #[.pointer (some ⟨b, off, none⟩), .bool false] w fun e w' => e = .returned (.tuple #[.slice (some g) l c, .int .i64 0]) ∧ w' = w := by
  have hn' : (w.setCell ⟨b, off + 4, none⟩ (.int .i32 (wrap32 (0 + 1)))).cell? ⟨b, off + 8, none⟩ = some (.slice (some g) l c) := (World.cell?_setCell_other _ ⟨b, off + 4, none⟩ ⟨b, off + 8, none⟩ _ (by simp)).trans c8
  have hnil := fun (w : World) (a : Option Addr) (n c n' c' : Nat) => Lib.run_eql_slice_nil (P := prog) w 34 50 a n c n' c' underlying34
  go_enter_defers func44, ntmps44
  go_wp2_with (go_at_call 65; refine (rlock_open Tryd.rwRLib b off 0 x0 x3 _ c0 c3 hc hz (by decide +kernel)).mono ?_; rintro e w' ⟨rfl, rfl⟩)
  refine sch_leave b off x0 x2 w c0 c2 hc hz (v := .tuple #[.slice (some g) l c, .int .i64 0]) ?_ ?_
  · exact fun w => results_tmp2 (t := 4) (u := 5) rfl _ _ _
  · exact ⟨rfl, rfl⟩

set_option maxHeartbeats 4000000 in
theorem schedule_back (b off : Nat) (x0 x2 x3 : Value) (w : World) (c0 : w.cell? ⟨b, off, none⟩ = some x0) (c2 : w.cell? ⟨b, off + 2, none⟩ = some x2) (c3 : w.cell? ⟨b, off + 3, none⟩ = some x3) (hc : w.cell? ⟨b, off + 4, none⟩ = some (.int .i32 0)) (hz : w.frozen? ⟨b, off + 4, none⟩ = false) (g : Addr) (l c : Nat) (c8 : w.cell? ⟨b, off + 8, none⟩ = some (.slice (some g) l c)) (a' : Option Addr) (l' c' : Nat) (c9 : w.cell? ⟨b, off + 9, none⟩ = some (.slice a' l' c')) : Calls prog 44 #[.pointer (some ⟨b, off, none⟩), .bool true] w fun e w' => e = .returned (.tuple #[.slice a' l' c', .int .i64 0]) ∧ w' = w := by
  have hn' : (w.setCell ⟨b, off + 4, none⟩ (.int .i32 (wrap32 (0 + 1)))).cell? ⟨b, off + 8, none⟩ = some (.slice (some g) l c) := (World.cell?_setCell_other _ ⟨b, off + 4, none⟩ ⟨b, off + 8, none⟩ _ (by simp)).trans c8
  have hn9 : (w.setCell ⟨b, off + 4, none⟩ (.int .i32 (wrap32 (0 + 1)))).cell? ⟨b, off + 9, none⟩ = some (.slice a' l' c') := (World.cell?_setCell_other _ ⟨b, off + 4, none⟩ ⟨b, off + 9, none⟩ _ (by simp)).trans c9
  have hnil := fun (w : World) (a : Option Addr) (n c n' c' : Nat) => Lib.run_eql_slice_nil (P := prog) w 34 50 a n c n' c' underlying34
  go_enter_defers func44, ntmps44
  go_wp2_with (go_at_call 65; refine (rlock_open Tryd.rwRLib b off 0 x0 x3 _ c0 c3 hc hz (by decide +kernel)).mono ?_; rintro e w' ⟨rfl, rfl⟩)
  refine sch_leave b off x0 x2 w c0 c2 hc hz (v := .tuple #[.slice a' l' c', .int .i64 0]) ?_ ?_
  · exact fun w => results_tmp2 (t := 4) (u := 5) rfl _ _ _
  · exact ⟨rfl, rfl⟩


theorem rijndael_Key_schedule_calls (x : TT [(0, .ptr), (1, .bool)]) (w : World) (y : TR [.sl, .int .i64]) (w2 : World) (h : rijndael_Key_schedule x.1 x.2.1 w = some (y, w2)) : Calls prog 44 (encA [(0, .ptr), (1, .bool)] x).toArray w (fun e w3 => e = .returned (resV (encR [.sl, .int .i64] y)) ∧ w3 = w2) := by
  obtain ⟨k, back, u⟩ := x
  show Calls prog 44 #[.pointer k, .bool back] w _
  have h : rijndael_Key_schedule k back w = some (y, w2) := h
  cases k with
  | none =>
    have h := Option.some.inj h
    obtain ⟨rfl, rfl⟩ := Prod.mk.inj h
    exact schedule_nil back w
  | some p =>
    obtain ⟨b, off, sp⟩ := p
    unfold rijndael_Key_schedule at h
    simp only at h
    split at h
    case isFalse => cases h
    rename_i hh
    obtain ⟨hs, h0, h2, h3, h4, h5⟩ := hh
    have hs : sp = none := hs
    subst hs
    simp only [add_lit] at h2 h3 h4 h5 h
    obtain ⟨x0, h0⟩ := Option.isSome_iff_exists.1 h0
    obtain ⟨x2, h2⟩ := Option.isSome_iff_exists.1 h2
    obtain ⟨x3, h3⟩ := Option.isSome_iff_exists.1 h3
    cases h8 : ldS ⟨b, off + 8, none⟩ w with
    | none => rw [h8] at h; cases h
    | some ws =>
      rw [h8, Option.bind_some] at h
      have c8 := ldS_cell h8
      obtain ⟨a, l, c⟩ := ws
      cases a with
      | none =>
        rw [if_pos (show (none : Option Addr).isNone = true from rfl)] at h
        obtain ⟨rfl, rfl⟩ := Prod.mk.inj (Option.some.inj h)
        exact schedule_wiped b off back x0 x2 x3 w h0 h2 h3 h4 h5 l c c8
      | some g =>
        rw [if_neg (show ¬ (some g).isNone = true from Bool.noConfusion)] at h
        cases back with
        | false =>
          rw [if_neg (show ¬ false = true by decide)] at h
          obtain ⟨rfl, rfl⟩ := Prod.mk.inj (Option.some.inj h)
          exact schedule_words b off x0 x2 x3 w h0 h2 h3 h4 h5 g l c c8
        | true =>
          rw [if_pos (show true = true from rfl)] at h
          cases h9 : ldS ⟨b, off + 9, none⟩ w with
          | none => rw [h9] at h; cases h
          | some ws =>
            rw [h9, Option.bind_some] at h
            obtain ⟨rfl, rfl⟩ := Prod.mk.inj (Option.some.inj h)
            exact schedule_back b off x0 x2 x3 w h0 h2 h3 h4 h5 g l c c8 ws.a ws.len ws.cap (ldS_cell h9)

theorem rijndael_Key_schedule_facts : FunFacts prog 44 f44 (bodyOf f44) [(0, .ptr), (1, .bool)] [(0, 29)] := ⟨func44, by kernel_rfl, by kernel_rfl, by kernel_rfl, by kernel_rfl, by kernel_rfl⟩
noncomputable def rijndael_Key_schedule_ce : CE := funE [(0, .ptr), (1, .bool)] [.sl, .int .i64] (fun x w => rijndael_Key_schedule x.1 x.2.1 w)
theorem rijndael_Key_schedule_ok : rijndael_Key_schedule_ce.Ok prog 44 := funE_ok (Rt := [.sl, .int .i64]) (S := (fun x w => rijndael_Key_schedule x.1 x.2.1 w)) rijndael_Key_schedule_facts fun x w y w2 h => rijndael_Key_schedule_calls x w y w2 h
end Go.Sh

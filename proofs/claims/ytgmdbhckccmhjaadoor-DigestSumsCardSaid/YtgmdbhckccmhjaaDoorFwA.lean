/- What the operations of the machine do to a frame of which some slots are known, as Lean functions; nothing of a program stands here. -/
import Derived.Tactics
import Derived.OrdersHeld
import Derived.Laws.Entries
import Derived.Laws.Cells
import Derived.Laws.NewBlocks
import Derived.KernelRfl
import Derived.Below
namespace Go.Fw

/-- A known slot, or a stretch of slots of which nothing is known. -/
inductive FE where
  | v (t : Nat) (x : Value)
  | m (lo hi : Nat)
abbrev Fr := List FE

def get : Fr → Nat → Option Value
  | [], _ => none
  | .v u x :: r, t => bif Nat.beq u t then some x else get r t
  | .m lo hi :: r, t => bif (Nat.ble lo t && Nat.ble (t + 1) hi) then none else get r t

def Agree (φ : Fr) (a : Act) : Prop := ∀ t x, get φ t = some x → a.tmps[t]? = some x

def opd (φ : Fr) : Operand → Option Value
  | .tmp t => get φ t
  | .const v => some v
  | .global g => some (.pointer (some ⟨g, 0, none⟩))
  | .func f => some (.func (.func f) #[] #[])

theorem opd_eval {φ : Fr} {a : Act} {x : Operand} {v : Value} (h : Agree φ a) (hx : opd φ x = some v) : a.eval x = v := by
  cases x with
  | tmp t => simp only [opd] at hx; simp [Act.eval, Array.getD_eq_getD_getElem?, h t v hx]
  | const c => simpa [opd, Act.eval] using hx
  | global g => simpa [opd, Act.eval] using hx
  | func f => simpa [opd, Act.eval] using hx

/-- A slice as its three parts. -/
structure Sl where
  a : Option Addr
  len : Nat
  cap : Nat

def bnd {α β : Type} (m : Option (α × World)) (f : α → World → Option β) : Option β :=
  match m with
  | none => none
  | some x => f x.1 x.2

theorem bnd_some {α β : Type} {m : Option (α × World)} {f : α → World → Option β} {r : β} (h : bnd m f = some r) :
    ∃ x w, m = some (x, w) ∧ f x w = some r := by
  cases m with
  | none => simp [bnd] at h
  | some x => exact ⟨x.1, x.2, rfl, h⟩

theorem bind_some {α β : Type} {m : Option α} {f : α → Option β} {r : β} (h : m.bind f = some r) : ∃ x, m = some x ∧ f x = some r := by
  cases m with
  | none => simp at h
  | some x => exact ⟨x, rfl, h⟩

theorem ite_some {β : Type} {c : Prop} [Decidable c] {x : Option β} {r : β} (h : (if c then x else none) = some r) : c ∧ x = some r := by
  by_cases hc : c
  · exact ⟨hc, by simpa [hc] using h⟩
  · simp [hc] at h

/-! ### Values by their kind -/

def asI (κ : IntKind) : Value → Option Int
  | .int k n => if k = κ then some n else none
  | _ => none
def asB : Value → Option Bool
  | .bool b => some b
  | _ => none
def asStr : Value → Option ByteArray
  | .string s => some s
  | _ => none
def asP : Value → Option (Option Addr)
  | .pointer p => some p
  | _ => none
def asS : Value → Option Sl
  | .slice a l c => some ⟨a, l, c⟩
  | _ => none
def asA : Value → Option (Array Value)
  | .agg cs => some cs
  | _ => none

theorem asI_eq {κ : IntKind} {v : Value} {n : Int} (h : asI κ v = some n) : v = .int κ n := by
  cases v <;> simp [asI] at h
  obtain ⟨rfl, rfl⟩ := h; rfl
theorem asB_eq {v : Value} {b : Bool} (h : asB v = some b) : v = .bool b := by cases v <;> simp [asB] at h; subst h; rfl
theorem asStr_eq {v : Value} {b : ByteArray} (h : asStr v = some b) : v = .string b := by cases v <;> simp [asStr] at h; subst h; rfl
theorem asP_eq {v : Value} {b : Option Addr} (h : asP v = some b) : v = .pointer b := by cases v <;> simp [asP] at h; subst h; rfl
theorem asS_eq {v : Value} {b : Sl} (h : asS v = some b) : v = .slice b.a b.len b.cap := by cases v <;> simp [asS] at h; subst h; rfl
theorem asA_eq {v : Value} {b : Array Value} (h : asA v = some b) : v = .agg b := by cases v <;> simp [asA] at h; subst h; rfl

/-- A value, looked at by its type. -/
def asK {β : Type} (d : Option TypeDesc) (v : Value) (K : Value → Option β) : Option β :=
  match d with
  | some (.int κ) => (asI κ v).bind fun n => K (.int κ n)
  | some .bool => (asB v).bind fun b => K (.bool b)
  | some .string => (asStr v).bind fun s => K (.string s)
  | some (.pointer _) => (asP v).bind fun p => K (.pointer p)
  | some (.slice _) => (asS v).bind fun s => K (.slice s.a s.len s.cap)
  | some (.struct _) => (asA v).bind fun cs => K (.agg cs)
  | some (.array _ _) => (asA v).bind fun cs => K (.agg cs)
  | _ => K v

theorem asK_some {β : Type} {d : Option TypeDesc} {v : Value} {K : Value → Option β} {r : β} (h : asK d v K = some r) : K v = some r := by
  unfold asK at h
  split at h
  · obtain ⟨n, hn, h⟩ := bind_some h; rw [asI_eq hn]; exact h
  · obtain ⟨n, hn, h⟩ := bind_some h; rw [asB_eq hn]; exact h
  · obtain ⟨n, hn, h⟩ := bind_some h; rw [asStr_eq hn]; exact h
  · obtain ⟨n, hn, h⟩ := bind_some h; rw [asP_eq hn]; exact h
  · obtain ⟨n, hn, h⟩ := bind_some h; rw [asS_eq hn]; exact h
  · obtain ⟨n, hn, h⟩ := bind_some h; rw [asA_eq hn]; exact h
  · obtain ⟨n, hn, h⟩ := bind_some h; rw [asA_eq hn]; exact h
  · exact h

/-! ### Memory -/

def ldV (p : Addr) (w : World) : Option Value := w.cell? p
def ldI (κ : IntKind) (p : Addr) (w : World) : Option Int := (w.cell? p).bind (asI κ)
def ldB (p : Addr) (w : World) : Option Bool := (w.cell? p).bind asB
def ldStr (p : Addr) (w : World) : Option ByteArray := (w.cell? p).bind asStr
def ldP (p : Addr) (w : World) : Option (Option Addr) := (w.cell? p).bind asP
def ldS (p : Addr) (w : World) : Option Sl := (w.cell? p).bind asS
/-- n cells from p on. -/
def ldA (n : Nat) (p : Addr) (w : World) : Option (Array Value) :=
  match w.heap[p.block]? with
  | some (.cells c _ _) => if p.spot = none ∧ p.off + n ≤ c.size then some (c.extract p.off (p.off + n)) else none
  | _ => none

def ldK {β : Type} (d : Option TypeDesc) (sz : Nat) (p : Addr) (w : World) (K : Value → Option β) : Option β :=
  match d with
  | some (.int κ) => (ldI κ p w).bind fun n => K (.int κ n)
  | some .bool => (ldB p w).bind fun b => K (.bool b)
  | some .string => (ldStr p w).bind fun s => K (.string s)
  | some (.pointer _) => (ldP p w).bind fun q => K (.pointer q)
  | some (.slice _) => (ldS p w).bind fun s => K (.slice s.a s.len s.cap)
  | some (.struct _) => (ldA sz p w).bind fun cs => K (.agg cs)
  | some (.array _ _) => (ldA sz p w).bind fun cs => K (.agg cs)
  | some (.func _ _ _) => (ldV p w).bind fun v => K v
  | some (.map _ _) => (ldV p w).bind fun v => K v
  | some (.interface _) => (ldV p w).bind fun v => K v
  | some (.float _) => (ldV p w).bind fun v => K v
  | some (.complex _) => (ldV p w).bind fun v => K v
  | _ => none

theorem cell_run {P : Program} {p : Addr} {w : World} {v : Value} (h : w.cell? p = some v) : (load p).run P w = .ok v w := by
  simp [h]

theorem ldA_run {P : Program} {p : Addr} {w : World} {n : Nat} {cs : Array Value} (h : ldA n p w = some cs) : (loadCells p n).run P w = .ok cs w := by
  unfold ldA at h
  split at h
  · rename_i c e fz hb
    obtain ⟨⟨hs, hle⟩, h⟩ := ite_some h
    have hsz : cs.size = n := by
      have := Option.some.inj h; subst this; simp; omega
    have hl := run_loadCells_list (P := P) w p cs.toList (fun j v hj => by
      have hcs := Option.some.inj h; subst hcs
      have hjn : j < n := by
        have := (List.getElem?_eq_some_iff.1 hj).1
        simp at this; omega
      have hadd : p.add j = ⟨p.block, p.off + j, none⟩ := by
        cases p with
        | mk b o s => simp at hs; subst hs; exact Addr.add_lit b o j
      rw [hadd]
      simp only [World.cell?, hb]
      rw [List.getElem?_eq_getElem (by simp; omega)] at hj
      simp at hj
      simp
      rw [Array.getElem?_eq_getElem (by omega)]
      exact congrArg some hj)
    rw [show n = cs.toList.length by simp [hsz]]
    simpa using hl
  · simp at h

def aggD : TypeDesc → Bool
  | .struct _ => true
  | .array _ _ => true
  | _ => false

theorem isAgg_run {P : Program} {t : TypeId} {d : TypeDesc} (h : P.underlying t = some d) (w : World) :
    (isAgg t).run P w = .ok (aggD d) w := by
  unfold isAgg
  simp only [Sem.run_bind, run_underlying h, Result.andThen_ok]
  cases d <;> rfl

theorem underlying_info {P : Program} {t : TypeId} {d : TypeDesc} (h : P.underlying t = some d) : ∃ i, P.info? t = some i := by
  unfold Program.underlying at h
  cases hi : P.info? t with
  | none => simp [hi] at h
  | some i => exact ⟨i, rfl⟩

theorem sizeOf_run {P : Program} {t : TypeId} {i : TypeInfo} (h : P.info? t = some i) (w : World) : (sizeOf t).run P w = .ok (P.cellsOf t) w := by
  simp [sizeOf, typeInfo, h, Program.cellsOf]

theorem ldK_run {β : Type} {P : Program} {t : TypeId} {p : Addr} {w : World} {K : Value → Option β} {r : β}
    (h : ldK (P.underlying t) (P.cellsOf t) p w K = some r) : ∃ v, K v = some r ∧ (loadVar t p).run P w = .ok v w := by
  cases hd : P.underlying t with
  | none => simp [hd, ldK] at h
  | some d =>
    obtain ⟨i, hi⟩ := underlying_info hd
    have one : ∀ v, w.cell? p = some v → aggD d = false → (loadVar t p).run P w = .ok v w := by
      intro v hv hag
      unfold loadVar
      simp only [Sem.run_bind, isAgg_run hd, Result.andThen_ok, hag, Bool.false_eq_true, if_false]
      exact cell_run hv
    have many : ∀ cs, ldA (P.cellsOf t) p w = some cs → aggD d = true → (loadVar t p).run P w = .ok (.agg cs) w := by
      intro cs hcs hag
      unfold loadVar
      simp only [Sem.run_bind, isAgg_run hd, Result.andThen_ok, hag, if_true, sizeOf_run hi, ldA_run hcs, Sem.run_pure]
    rw [hd] at h
    unfold ldK at h
    split at h <;> (try (rename_i heq; have heq := Option.some.inj heq; subst heq))
    · obtain ⟨n, hn, h⟩ := bind_some h; obtain ⟨v, hv, hn⟩ := bind_some hn; exact ⟨_, h, asI_eq hn ▸ one _ hv rfl⟩
    · obtain ⟨n, hn, h⟩ := bind_some h; obtain ⟨v, hv, hn⟩ := bind_some hn; exact ⟨_, h, asB_eq hn ▸ one _ hv rfl⟩
    · obtain ⟨n, hn, h⟩ := bind_some h; obtain ⟨v, hv, hn⟩ := bind_some hn; exact ⟨_, h, asStr_eq hn ▸ one _ hv rfl⟩
    · obtain ⟨n, hn, h⟩ := bind_some h; obtain ⟨v, hv, hn⟩ := bind_some hn; exact ⟨_, h, asP_eq hn ▸ one _ hv rfl⟩
    · obtain ⟨n, hn, h⟩ := bind_some h; obtain ⟨v, hv, hn⟩ := bind_some hn; exact ⟨_, h, asS_eq hn ▸ one _ hv rfl⟩
    · obtain ⟨n, hn, h⟩ := bind_some h; exact ⟨_, h, many _ hn rfl⟩
    · obtain ⟨n, hn, h⟩ := bind_some h; exact ⟨_, h, many _ hn rfl⟩
    · obtain ⟨n, hn, h⟩ := bind_some h; exact ⟨_, h, one _ hn rfl⟩
    · obtain ⟨n, hn, h⟩ := bind_some h; exact ⟨_, h, one _ hn rfl⟩
    · obtain ⟨n, hn, h⟩ := bind_some h; exact ⟨_, h, one _ hn rfl⟩
    · obtain ⟨n, hn, h⟩ := bind_some h; exact ⟨_, h, one _ hn rfl⟩
    · obtain ⟨n, hn, h⟩ := bind_some h; exact ⟨_, h, one _ hn rfl⟩
    · simp at h

/-- A store of one cell. -/
def stC (p : Addr) (v : Value) (w : World) : Option World :=
  if (w.cell? p).isSome = true ∧ w.frozen? p = false then some (w.setCell p v) else none

theorem stC_run {P : Program} {p : Addr} {v : Value} {w w' : World} (hv : v.oneCell' = true) (h : stC p v w = some w') : (store p v).run P w = .ok () w' := by
  unfold stC at h
  obtain ⟨⟨h1, h2⟩, h⟩ := ite_some h
  rw [run_store P w p v .plain hv]
  obtain ⟨u, hu⟩ := Option.isSome_iff_exists.1 h1
  simp only [hu, h2, Bool.false_eq_true, if_false]
  rw [Option.some.inj h]

/-- A store of many cells, one behind the other. -/
def stL (p : Addr) : List Value → Nat → World → Option World
  | [], _, w => some w
  | v :: r, i, w => if v.oneCell' = true then (stC (p.add i) v w).bind (stL p r (i + 1)) else none
def stA (p : Addr) (cs : Array Value) (w : World) : Option World := stL p cs.toList 0 w

theorem stL_run {P : Program} {p : Addr} : ∀ (vs : List Value) (i : Nat) (w w' : World), stL p vs i w = some w' → (storeCells p vs i).run P w = .ok () w'
  | [], i, w, w', h => by simp [stL] at h; subst h; simp [storeCells]
  | v :: r, i, w, w', h => by
    simp only [stL] at h
    obtain ⟨hv, h⟩ := ite_some h
    obtain ⟨w1, h1, h⟩ := bind_some h
    simp only [storeCells, Sem.run_bind, stC_run (P := P) hv h1, Result.andThen_ok]
    exact stL_run r (i + 1) w1 w' h

def stK {β : Type} (sz : Nat) (p : Addr) (v : Value) (w : World) (K : World → Option β) : Option β :=
  match v with
  | .agg cs => if cs.size = sz then (stA p cs w).bind K else none
  | .tuple _ => none
  | v => if sz = 1 then (stC p v w).bind K else none

theorem stK_run {β : Type} {P : Program} {t : TypeId} {i : TypeInfo} (hi : P.info? t = some i) {p : Addr} {v : Value} {w : World} {K : World → Option β} {r : β}
    (h : stK (P.cellsOf t) p v w K = some r) : ∃ w', K w' = some r ∧ (storeVar t p v).run P w = .ok () w' := by
  have one : ∀ u : Value, u.oneCell' = true → (if P.cellsOf t = 1 then (stC p u w).bind K else none) = some r → ∃ w', K w' = some r ∧ (storeVar t p u).run P w = .ok () w' := by
    intro u hu h
    obtain ⟨hs, h⟩ := ite_some h
    obtain ⟨w', h1, h⟩ := bind_some h
    refine ⟨w', h, ?_⟩
    have hc : u.cells = #[u] := by cases u <;> first | rfl | simp [Value.oneCell'] at hu
    unfold storeVar
    simp only [Sem.run_bind, sizeOf_run hi, Result.andThen_ok, hc, hs]
    simp [storeCells, Addr.add_zero', stC_run (P := P) hu h1]
  unfold stK at h
  split at h
  · rename_i cs
    obtain ⟨hs, h⟩ := ite_some h
    obtain ⟨w', h1, h⟩ := bind_some h
    refine ⟨w', h, ?_⟩
    unfold storeVar
    simp only [Sem.run_bind, sizeOf_run hi, Result.andThen_ok, Value.cells, hs]
    simpa using stL_run (P := P) cs.toList 0 w w' h1
  · simp at h
  · rename_i u hu1 hu2
    refine one _ ?_ h
    cases v <;> first | rfl | (exfalso; exact hu1 _ rfl) | (exfalso; exact hu2 _ rfl)

/-- A new row of cells. -/
def newB (cs : Array Value) (e : TypeId) (w : World) : Option (Addr × World) := some (⟨w.heap.size, 0, none⟩, w.alloc (.cells cs e))

theorem newB_run {P : Program} {cs : Array Value} {e : TypeId} {w w' : World} {p : Addr} (h : newB cs e w = some (p, w')) : (newRow e cs).run P w = .ok p w' := by
  simp only [newB, Option.some.injEq, Prod.mk.injEq] at h
  obtain ⟨rfl, rfl⟩ := h
  simp [newRow]

end Go.Fw

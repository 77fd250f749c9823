/- One operation of the machine on a frame of which some slots are known: as a Lean function, and that the machine does just that. -/
import Derived.Test.YtgmdbhckccmhjaaDoorFwA
namespace Go.Fw

/-! ### Calls -/

def CallDoes (P : Program) (f : FuncId) (args : Array Value) (w : World) (v : Value) (w' : World) : Prop :=
  (callFunc f args).run P w = .ok (.value v) w' ∨
  (∃ w1, (callFunc f args).run P w = .ok (.enter f args) w1 ∧ Calls P f args w1 (fun e w2 => e = .returned v ∧ w2 = w'))

/-- What is known of a function that is called. -/
structure CE where
  run : {β : Type} → List Value → World → (Value → World → Option β) → Option β

def CE.Ok (P : Program) (f : FuncId) (c : CE) : Prop :=
  ∀ {β : Type} (args : List Value) (w : World) (K : Value → World → Option β) (r : β), c.run args w K = some r →
    ∃ v w', K v w' = some r ∧ CallDoes P f args.toArray w v w'

abbrev Env := Nat → Option CE
def Env.Ok (P : Program) (E : Env) : Prop := ∀ f c, E f = some c → c.Ok P f

def callK {β : Type} (E : Env) (f : Nat) (args : List Value) (w : World) (K : Value → World → Option β) : Option β :=
  match E f with
  | some c => c.run args w K
  | none => none

theorem callK_some {β : Type} {P : Program} {E : Env} (hE : E.Ok P) {f : Nat} {args : List Value} {w : World} {K : Value → World → Option β} {r : β}
    (h : callK E f args w K = some r) : ∃ v w', K v w' = some r ∧ CallDoes P f args.toArray w v w' := by
  unfold callK at h
  split at h
  · rename_i c hc; exact hE f c hc args w K r h
  · simp at h

/-- A function that leaves the world as it is. -/
def CallReads (P : Program) (f : FuncId) (args : Array Value) (w : World) (v : Value) : Prop :=
  (callFunc f args).run P w = .ok (.value v) w ∨
  ((callFunc f args).run P w = .ok (.enter f args) w ∧ Calls P f args w (fun e w2 => e = .returned v ∧ w2 = w))

structure RE where
  run : {β : Type} → List Value → World → (Value → Option β) → Option β

def RE.Ok (P : Program) (f : FuncId) (c : RE) : Prop :=
  ∀ {β : Type} (args : List Value) (w : World) (K : Value → Option β) (r : β), c.run args w K = some r →
    ∃ v, K v = some r ∧ CallReads P f args.toArray w v

abbrev REnv := Nat → Option RE
def REnv.Ok (P : Program) (E : REnv) : Prop := ∀ f c, E f = some c → c.Ok P f

/-- A call of a function value. -/
def dyn {β : Type} (E : Env) (fv : Value) (args : List Value) (w : World) (K : Value → World → Option β) : Option β :=
  match fv with
  | .func (.func f) first captured => callK E f ((first.toList ++ args) ++ captured.toList) w K
  | _ => none

def opds (φ : Fr) : List Operand → Option (List Value)
  | [] => some []
  | x :: r => match opd φ x with
    | none => none
    | some v => match opds φ r with
      | none => none
      | some vs => some (v :: vs)

theorem opds_eval {φ : Fr} {a : Act} (h : Agree φ a) : ∀ {xs : List Operand} {vs : List Value}, opds φ xs = some vs → xs.map a.eval = vs
  | [], vs, hx => by simp [opds] at hx; subst hx; rfl
  | x :: r, vs, hx => by
    simp only [opds] at hx
    split at hx
    · simp at hx
    · rename_i v hv
      split at hx
      · simp at hx
      · rename_i us hus
        have := Option.some.inj hx; subst this
        simp [opd_eval h hv, opds_eval h hus]

/-! ### The built-in functions and other operations that go by the machine's own text -/

def apd (P : Program) (sT xT : TypeId) (s x : Value) (w : World) : Option (Sl × World) :=
  match (Builtin.append_ #[sT, xT] 0 #[s, x]).run P w with
  | .ok (.slice a l c) w' => some (⟨a, l, c⟩, w')
  | _ => none
def cpy (P : Program) (dT sT : TypeId) (d s : Value) (w : World) : Option (Int × World) :=
  match (Builtin.copy_ #[dT, sT] 0 #[d, s]).run P w with
  | .ok (.int .i64 n) w' => some (n, w')
  | _ => none
def clr (P : Program) (t : TypeId) (x : Value) (w : World) : Option (Unit × World) :=
  match (Builtin.clear_ #[t] 0 #[x]).run P w with
  | .ok v w' => match v with
    | .tuple vs => if vs.size = 0 then some ((), w') else none
    | _ => none
  | _ => none
def mkS (P : Program) (t : TypeId) (l c : Value) (w : World) : Option (Sl × World) :=
  match (Instr.makeSlice t l c).run P w with
  | .ok (.slice a l c) w' => some (⟨a, l, c⟩, w')
  | _ => none
def s2b (P : Program) (e : TypeId) (s : ByteArray) (w : World) : Option (Sl × World) :=
  match (Conv.stringToBytes e s).run P w with
  | .ok (.slice a l c) w' => some (⟨a, l, c⟩, w')
  | _ => none
def b2s (P : Program) (a : Option Addr) (l c : Nat) (w : World) : Option (ByteArray × World) :=
  match (Conv.bytesToString (.slice a l c)).run P w with
  | .ok (.string s) w' => some (s, w')
  | _ => none
/-- An operator by the machine's own text. -/
def bop (P : Program) (op : BinOp) (t : TypeId) (ox oy : Operand) (x y : Value) (w : World) : Option (Value × World) :=
  match (do eqGuard op t ox oy x y; binOp op t x y : Sem Value).run P w with
  | .ok v w' => some (v, w')
  | _ => none
def cnv (P : Program) (src dst : TypeId) (x : Value) (w : World) : Option (Value × World) :=
  match (convert src dst x).run P w with
  | .ok v w' => some (v, w')
  | _ => none
/-- A value of a struct's or an array's type, put together. -/
def bldV (P : Program) (t : TypeId) (parts : List (Nat × Value)) (w : World) : Option (Array Value × World) :=
  match (Instr.build t parts.toArray).run P w with
  | .ok (.agg cs) w' => some (cs, w')
  | _ => none
def bldS (P : Program) (t : TypeId) (len : Nat) (parts : Array (Nat × Value)) (w : World) : Option (Sl × World) :=
  match (Instr.buildSlice t len parts).run P w with
  | .ok (.slice a l c) w' => some (⟨a, l, c⟩, w')
  | _ => none
def lkp (P : Program) (t : TypeId) (m k : Value) (ok : Bool) (w : World) : Option (Value × World) :=
  match (Instr.lookup t m k ok).run P w with
  | .ok v w' => some (v, w')
  | _ => none
def mput (P : Program) (t : TypeId) (m k v : Value) (w : World) : Option (Unit × World) :=
  match (Instr.mapUpdate t m k v).run P w with
  | .ok _ w' => some ((), w')
  | _ => none
def mmk (P : Program) (t : TypeId) (r : Option Value) (w : World) : Option (Value × World) :=
  match (Instr.makeMap t r).run P w with
  | .ok v w' => some (v, w')
  | _ => none
def usSD (P : Program) (ts : Array TypeId) (ty : TypeId) (vs : Array Value) (w : World) : Option (Value × World) :=
  match (Builtin.unsafeSliceData_ ts ty vs).run P w with
  | .ok v w' => some (v, w')
  | _ => none
def usS (P : Program) (ts : Array TypeId) (ty : TypeId) (vs : Array Value) (w : World) : Option (ByteArray × World) :=
  match (Builtin.unsafeString_ ts ty vs).run P w with
  | .ok (.string s) w' => some (s, w')
  | _ => none

/-- the part of a slice's array from l on -/
def sla (a : Option Addr) (l m size : Nat) : Option Addr := if m = l then a else a.map (·.add (l * size))

def bitsK (op : BinOp) (k : IntKind) (x y : Int) : Int := bits op k x y

/-! ### One operation -/

def ptrT (P : Program) (t : TypeId) : Bool := match P.underlying t with
  | some (.pointer _) => true
  | _ => false
def slT (P : Program) (t : TypeId) : Bool := match P.underlying t with
  | some (.slice _) => true
  | _ => false
def boT (P : Program) (t : TypeId) : Bool := match P.underlying t with
  | some .bool => true
  | _ => false
def u8T (P : Program) (t : TypeId) : Bool := match P.underlying t with
  | some (.int .u8) => true
  | _ => false
def strT (P : Program) (t : TypeId) : Bool := match P.underlying t with
  | some .string => true
  | _ => false

section
variable {β : Type} (P : Program) (E : Env)

def binQ (op : BinOp) (t : TypeId) (x y : Value) (K : Value → Option β) (F : Option β) : Option β :=
  match op, x, y with
  | .add, .int k a, .int k' b => if k = k' then K (.int k (k.wrap (a + b))) else none
  | .sub, .int k a, .int k' b => if k = k' then K (.int k (k.wrap (a - b))) else none
  | .mul, .int k a, .int k' b => if k = k' then K (.int k (k.wrap (a * b))) else none
  | .quo, .int k a, .int k' b => if k = k' then (if b ≠ 0 then K (.int k (k.wrap (a.tdiv b))) else none) else none
  | .rem, .int k a, .int k' b => if k = k' then (if b ≠ 0 then K (.int k (a.tmod b)) else none) else none
  | .and, .int k a, .int k' b => if k = k' then K (.int k (bits .and k a b)) else none
  | .or, .int k a, .int k' b => if k = k' then K (.int k (bits .or k a b)) else none
  | .xor, .int k a, .int k' b => if k = k' then K (.int k (bits .xor k a b)) else none
  | .andNot, .int k a, .int k' b => if k = k' then K (.int k (bits .andNot k a b)) else none
  | .eql, .int k a, .int k' b => if k = k' then K (.bool (a == b)) else none
  | .neq, .int k a, .int k' b => if k = k' then K (.bool (a != b)) else none
  | .lss, .int k a, .int k' b => if k = k' then K (.bool (decide (a < b))) else none
  | .leq, .int k a, .int k' b => if k = k' then K (.bool (decide (a ≤ b))) else none
  | .gtr, .int k a, .int k' b => if k = k' then K (.bool (decide (a > b))) else none
  | .geq, .int k a, .int k' b => if k = k' then K (.bool (decide (a ≥ b))) else none
  | .shl, .int k a, .int _ b => if 0 ≤ b then K (.int k (k.wrap (a * 2 ^ (min b.toNat k.bits)))) else none
  | .shr, .int k a, .int _ b => if 0 ≤ b then K (.int k (a.fdiv (2 ^ (min b.toNat k.bits)))) else none
  | .eql, .pointer q, .pointer none => if ptrT P t = true then K (.bool q.isNone) else none
  | .neq, .pointer q, .pointer none => if ptrT P t = true then K (.bool (!q.isNone)) else none
  | .eql, .slice q _ _, .slice none _ _ => if slT P t = true then K (.bool q.isNone) else none
  | .neq, .slice q _ _, .slice none _ _ => if slT P t = true then K (.bool (!q.isNone)) else none
  | .eql, .string a, .string b => K (.bool (a.toList == b.toList))
  | .neq, .string a, .string b => K (.bool (!(a.toList == b.toList)))
  | .eql, .bool a, .bool b => if boT P t = true then K (.bool (a == b)) else none
  | .neq, .bool a, .bool b => if boT P t = true then K (.bool (!(a == b))) else none
  | _, _, _ => F

theorem ptrT_runD {P : Program} {t : TypeId} (h : ptrT P t = true) (d : Nat) (q : Option Addr) (w : World) : (Op.equalIn (d + 1) t (.pointer q) (.pointer none)).run P w = .ok q.isNone w := by
  unfold ptrT at h
  split at h
  · rename_i e he
    cases q <;> simp [Op.equalIn, run_underlying he]
  · simp at h
theorem ptrT_run {P : Program} {t : TypeId} (h : ptrT P t = true) (q : Option Addr) (w : World) : (Op.equal t (.pointer q) (.pointer none)).run P w = .ok q.isNone w :=
  ptrT_runD h 9999 q w
theorem slT_runD {P : Program} {t : TypeId} (h : slT P t = true) (d : Nat) (q : Option Addr) (n m n' m' : Nat) (w : World) : (Op.equalIn (d + 1) t (.slice q n m) (.slice none n' m')).run P w = .ok q.isNone w := by
  unfold slT at h
  split at h
  · rename_i e he
    cases q <;> simp [Op.equalIn, run_underlying he]
  · simp at h
theorem slT_run {P : Program} {t : TypeId} (h : slT P t = true) (q : Option Addr) (n m n' m' : Nat) (w : World) : (Op.equal t (.slice q n m) (.slice none n' m')).run P w = .ok q.isNone w :=
  slT_runD h 9999 q n m n' m' w
theorem boT_runD {P : Program} {t : TypeId} (h : boT P t = true) (d : Nat) (a b : Bool) (w : World) : (Op.equalIn (d + 1) t (.bool a) (.bool b)).run P w = .ok (a == b) w := by
  unfold boT at h
  split at h
  · rename_i he
    simp [Op.equalIn, run_underlying he]
  · simp at h
theorem boT_run {P : Program} {t : TypeId} (h : boT P t = true) (a b : Bool) (w : World) : (Op.equal t (.bool a) (.bool b)).run P w = .ok (a == b) w :=
  boT_runD h 9999 a b w

theorem binQ_some {op : BinOp} {t : TypeId} {x y : Value} {K : Value → Option β} {F : Option β} {r : β}
    (h : binQ P op t x y K F = some r) : (∃ v, K v = some r ∧ ∀ (ox oy : Operand) w, (do eqGuard op t ox oy x y; binOp op t x y : Sem Value).run P w = .ok v w) ∨ F = some r := by
  unfold binQ at h
  split at h
  · obtain ⟨hk, h1⟩ := ite_some h; subst hk; exact .inl ⟨_, h1, fun ox oy w => by simp [go_sem, Op.intArith]⟩
  · obtain ⟨hk, h1⟩ := ite_some h; subst hk; exact .inl ⟨_, h1, fun ox oy w => by simp [go_sem, Op.intArith]⟩
  · obtain ⟨hk, h1⟩ := ite_some h; subst hk; exact .inl ⟨_, h1, fun ox oy w => by simp [go_sem, Op.intArith]⟩
  · obtain ⟨hk, h1⟩ := ite_some h; subst hk; obtain ⟨hb, h2⟩ := ite_some h1; exact .inl ⟨_, h2, fun ox oy w => by simp [go_sem, Op.intDiv, hb]⟩
  · obtain ⟨hk, h1⟩ := ite_some h; subst hk; obtain ⟨hb, h2⟩ := ite_some h1; exact .inl ⟨_, h2, fun ox oy w => by simp [go_sem, Op.intDiv, hb]⟩
  · obtain ⟨hk, h1⟩ := ite_some h; subst hk; exact .inl ⟨_, h1, fun ox oy w => by simp [go_sem, Op.intArith]⟩
  · obtain ⟨hk, h1⟩ := ite_some h; subst hk; exact .inl ⟨_, h1, fun ox oy w => by simp [go_sem, Op.intArith]⟩
  · obtain ⟨hk, h1⟩ := ite_some h; subst hk; exact .inl ⟨_, h1, fun ox oy w => by simp [go_sem, Op.intArith]⟩
  · obtain ⟨hk, h1⟩ := ite_some h; subst hk; exact .inl ⟨_, h1, fun ox oy w => by simp [go_sem, Op.intArith]⟩
  · obtain ⟨hk, h1⟩ := ite_some h; subst hk; exact .inl ⟨_, h1, fun ox oy w => by simp [go_sem, Op.intArith]⟩
  · obtain ⟨hk, h1⟩ := ite_some h; subst hk; exact .inl ⟨_, h1, fun ox oy w => by simp [go_sem, Op.intArith]⟩
  · obtain ⟨hk, h1⟩ := ite_some h; subst hk; exact .inl ⟨_, h1, fun ox oy w => by simp [go_sem, Op.intArith]⟩
  · obtain ⟨hk, h1⟩ := ite_some h; subst hk; exact .inl ⟨_, h1, fun ox oy w => by simp [go_sem, Op.intArith]⟩
  · obtain ⟨hk, h1⟩ := ite_some h; subst hk; exact .inl ⟨_, h1, fun ox oy w => by simp [go_sem, Op.intArith]⟩
  · obtain ⟨hk, h1⟩ := ite_some h; subst hk; exact .inl ⟨_, h1, fun ox oy w => by simp [go_sem, Op.intArith]⟩
  · obtain ⟨hb, h1⟩ := ite_some h; have hb2 := Int.not_lt.2 hb; exact .inl ⟨_, h1, fun ox oy w => by simp [go_sem, Op.shift, hb2]⟩
  · obtain ⟨hb, h1⟩ := ite_some h; have hb2 := Int.not_lt.2 hb; exact .inl ⟨_, h1, fun ox oy w => by simp [go_sem, Op.shift, hb2]⟩
  · obtain ⟨hk, h1⟩ := ite_some h; exact .inl ⟨_, h1, fun ox oy w => by simp [go_sem, binOp, ptrT_run hk]⟩
  · obtain ⟨hk, h1⟩ := ite_some h; exact .inl ⟨_, h1, fun ox oy w => by simp [go_sem, binOp, ptrT_run hk]⟩
  · obtain ⟨hk, h1⟩ := ite_some h; exact .inl ⟨_, h1, fun ox oy w => by simp [go_sem, binOp, slT_run hk]⟩
  · obtain ⟨hk, h1⟩ := ite_some h; exact .inl ⟨_, h1, fun ox oy w => by simp [go_sem, binOp, slT_run hk]⟩
  · exact .inl ⟨_, h, fun ox oy w => by simp [go_sem, binOp, Op.stringOp]⟩
  · exact .inl ⟨_, h, fun ox oy w => by simp [go_sem, binOp, Op.stringOp]⟩
  · obtain ⟨hk, h1⟩ := ite_some h; exact .inl ⟨_, h1, fun ox oy w => by simp [go_sem, binOp, boT_run hk]⟩
  · obtain ⟨hk, h1⟩ := ite_some h; exact .inl ⟨_, h1, fun ox oy w => by simp [go_sem, binOp, boT_run hk]⟩
  · exact .inr h

/-- an operator by the machine's own text, its value looked at by its type -/
def bopK (op : BinOp) (t : TypeId) (rt : TypeId) (ox oy : Operand) (x y : Value) (w : World) (K : Value → World → Option β) : Option β :=
  bnd (bop P op t ox oy x y w) fun v w' => asK (P.underlying rt) v fun v => K v w'

theorem bopK_some {op : BinOp} {t rt : TypeId} {ox oy : Operand} {x y : Value} {w : World} {K : Value → World → Option β} {r : β}
    (h : bopK P op t rt ox oy x y w K = some r) : ∃ v w', K v w' = some r ∧ (do eqGuard op t ox oy x y; binOp op t x y : Sem Value).run P w = .ok v w' := by
  obtain ⟨v, w', hv, h⟩ := bnd_some h
  refine ⟨v, w', asK_some h, ?_⟩
  unfold bop at hv
  split at hv
  · rename_i v2 w2 he
    simp only [Option.some.injEq, Prod.mk.injEq] at hv
    rw [he, hv.1, hv.2]
  · simp at hv

def unK (op : UnOp) (x : Value) (K : Value → Option β) : Option β :=
  match op, x with
  | .neg, .int k n => K (.int k (k.wrap (0 - n)))
  | .xor, .int k n => K (.int k (bits .xor k (if k.signed then -1 else k.max) n))
  | .not, .bool b => K (.bool !b)
  | .neg, .float k b => K (.float k (Op.negFloat k b))
  | .neg, .complex k a b => K (.complex k (Op.negFloat k a) (Op.negFloat k b))
  | _, _ => none

theorem unK_some {op : UnOp} {x : Value} {K : Value → Option β} {r : β} (h : unK op x K = some r) :
    ∃ v, K v = some r ∧ ∀ w, (Op.unary op x : Sem Value).run P w = .ok v w := by
  unfold unK at h
  split at h
  · exact ⟨_, h, fun w => by simp [Op.unary, Op.intArith]⟩
  · exact ⟨_, h, fun w => by simp only [Op.unary]; rfl⟩
  · exact ⟨_, h, fun w => by simp [Op.unary]⟩
  · exact ⟨_, h, fun w => by simp [Op.unary]⟩
  · exact ⟨_, h, fun w => by simp [Op.unary]⟩
  · simp at h

/-- a conversion -/
def cnvQ (src dst : TypeId) (x : Value) (K : Value → Option β) (F : Option β) : Option β :=
  match P.underlying src, P.underlying dst, x with
  | some _, some (.int k), .int _ n => K (.int k (k.wrap n))
  | some _, some .string, .string s => K (.string s)
  | _, _, _ => F

theorem cnvQ_some {src dst : TypeId} {x : Value} {K : Value → Option β} {F : Option β} {r : β} (h : cnvQ P src dst x K F = some r) :
    (∃ v, K v = some r ∧ ∀ w, (convert src dst x : Sem Value).run P w = .ok v w) ∨ F = some r := by
  unfold cnvQ at h
  split at h
  · rename_i d k k' n hs hd
    exact .inl ⟨_, h, fun w => by simp [convert, run_underlying hs, run_underlying hd, Conv.intToInt]⟩
  · rename_i d s hs hd
    exact .inl ⟨_, h, fun w => by simp [convert, run_underlying hs, run_underlying hd]⟩
  · exact .inr h

def cnvK (src dst : TypeId) (x : Value) (w : World) (K : Value → World → Option β) : Option β :=
  match P.underlying src, P.underlying dst, x with
  | some (.slice e), some .string, .slice a l c => if u8T P e = true then bnd (b2s P a l c w) fun s w' => K (.string s) w' else none
  | some _, some (.slice e), .string s => if u8T P e = true then bnd (s2b P e s w) fun s w' => K (.slice s.a s.len s.cap) w' else none
  | _, _, _ => bnd (cnv P src dst x w) fun v w' => asK (P.underlying dst) v fun v => K v w'

theorem cnvK_some {src dst : TypeId} {x : Value} {w : World} {K : Value → World → Option β} {r : β} (h : cnvK P src dst x w K = some r) :
    ∃ v w', K v w' = some r ∧ (convert src dst x : Sem Value).run P w = .ok v w' := by
  unfold cnvK at h
  split at h
  · rename_i e a l c hs hd
    obtain ⟨he, h⟩ := ite_some h
    obtain ⟨s, w', h1, h⟩ := bnd_some h
    refine ⟨_, _, h, ?_⟩
    unfold u8T at he
    split at he
    · rename_i hu
      simp only [convert, Sem.run_bind, run_underlying hs, run_underlying hd, Result.andThen_ok, run_underlying hu]
      unfold b2s at h1
      split at h1
      · rename_i s2 w2 hr; simp only [Option.some.injEq, Prod.mk.injEq] at h1; rw [hr, h1.1, h1.2]
      · simp at h1
    · simp at he
  · rename_i d e s hs hd
    obtain ⟨he, h⟩ := ite_some h
    obtain ⟨s', w', h1, h⟩ := bnd_some h
    refine ⟨_, _, h, ?_⟩
    unfold u8T at he
    split at he
    · rename_i hu
      simp only [convert, Sem.run_bind, run_underlying hs, run_underlying hd, Result.andThen_ok, run_underlying hu]
      unfold s2b at h1
      split at h1
      · rename_i a2 l2 c2 w2 hr; simp only [Option.some.injEq, Prod.mk.injEq] at h1; rw [hr, ← h1.1, h1.2]
      · simp at h1
    · simp at he
  · obtain ⟨v, w', h1, h⟩ := bnd_some h
    refine ⟨v, w', asK_some h, ?_⟩
    unfold cnv at h1
    split at h1
    · rename_i v2 w2 hr; simp only [Option.some.injEq, Prod.mk.injEq] at h1; rw [hr, h1.1, h1.2]
    · simp at h1

theorem sizeOf_elem {P : Program} {e : TypeId} (h : (P.info? e).isSome = true) (w : World) : (sizeOf e).run P w = .ok (P.cellsOf e) w := by
  obtain ⟨i, hi⟩ := Option.isSome_iff_exists.1 h
  exact sizeOf_run hi w

/-- an element's address -/
def ixaK (t : TypeId) (x i : Value) (K : Value → Option β) : Option β :=
  match P.underlying t, x, i with
  | some (.slice e), .slice a len _, .int _ i => if (P.info? e).isSome = true then a.bind fun a => if 0 ≤ i ∧ i < len then K (.pointer (some (a.add (i.toNat * P.cellsOf e)))) else none else none
  | some (.array n e), .pointer q, .int _ i => if (P.info? e).isSome = true then q.bind fun a => if 0 ≤ i ∧ i < n then K (.pointer (some (a.add (i.toNat * P.cellsOf e)))) else none else none
  | _, _, _ => none

theorem ixaK_some {t : TypeId} {x i : Value} {K : Value → Option β} {r : β} (h : ixaK P t x i K = some r) :
    ∃ v, K v = some r ∧ ∀ w, (Instr.indexAt t x i).run P w = .ok v w := by
  unfold ixaK at h
  split at h
  · rename_i e a len cap k i hu
    obtain ⟨he, h⟩ := ite_some h
    obtain ⟨a, ha, h⟩ := bind_some h; subst ha
    obtain ⟨hb, h⟩ := ite_some h
    exact ⟨_, h, fun w => by simp [Instr.indexAt, asIntOf, run_underlying hu, hb, sizeOf_elem he]⟩
  · rename_i n e q k i hu
    obtain ⟨he, h⟩ := ite_some h
    obtain ⟨a, ha, h⟩ := bind_some h; subst ha
    obtain ⟨hb, h⟩ := ite_some h
    exact ⟨_, h, fun w => by simp [Instr.indexAt, asIntOf, run_underlying hu, hb, sizeOf_elem he, Instr.sureAddr]⟩
  · simp at h

/-- a part of a value of a struct's or an array's type -/
def partK (t : TypeId) (cs : Array Value) (off : Nat) (K : Value → Option β) : Option β :=
  match P.underlying t with
  | some (.struct _) => if (P.info? t).isSome = true then K (.agg (cs.extract off (off + P.cellsOf t))) else none
  | some (.array _ _) => if (P.info? t).isSome = true then K (.agg (cs.extract off (off + P.cellsOf t))) else none
  | some d => (cs[off]?).bind fun v => asK (some d) v K
  | none => none

theorem partK_some {t : TypeId} {cs : Array Value} {off : Nat} {K : Value → Option β} {r : β} (h : partK P t cs off K = some r) :
    ∃ v, K v = some r ∧ ∀ w, (part t cs off).run P w = .ok v w := by
  unfold partK at h
  split at h
  · rename_i fs hu
    obtain ⟨he, h⟩ := ite_some h
    exact ⟨_, h, fun w => by simp [part, isAgg_run hu, aggD, sizeOf_elem he]⟩
  · rename_i n e hu
    obtain ⟨he, h⟩ := ite_some h
    exact ⟨_, h, fun w => by simp [part, isAgg_run hu, aggD, sizeOf_elem he]⟩
  · rename_i d hs ha hu
    obtain ⟨v, hv, h⟩ := bind_some h
    have hag : aggD d = false := by
      cases d <;> first | rfl | (exfalso; exact hs _ rfl) | (exfalso; exact ha _ _ rfl)
    exact ⟨v, asK_some h, fun w => by simp [part, isAgg_run hu, hag, hv]⟩
  · simp at h

def ixK (t : TypeId) (x i : Value) (K : Value → Option β) : Option β :=
  match P.underlying t, x, i with
  | some (.array n e), .agg cs, .int _ i => if (P.info? e).isSome = true then (if 0 ≤ i ∧ i < n then partK P e cs (i.toNat * P.cellsOf e) K else none) else none
  | some .string, .string s, .int _ i => if 0 ≤ i then (s[i.toNat]?).bind fun b => K (.int .u8 b.toNat) else none
  | _, _, _ => none

theorem ixK_some {t : TypeId} {x i : Value} {K : Value → Option β} {r : β} (h : ixK P t x i K = some r) :
    ∃ v, K v = some r ∧ ∀ w, (Instr.index t x i).run P w = .ok v w := by
  unfold ixK at h
  split at h
  · rename_i n e cs k i hu
    obtain ⟨he, h⟩ := ite_some h
    obtain ⟨hb, h⟩ := ite_some h
    obtain ⟨v, hv, hr⟩ := partK_some P h
    exact ⟨v, hv, fun w => by simp [Instr.index, asIntOf, run_underlying hu, hb, sizeOf_elem he, hr]⟩
  · rename_i s k i hu
    obtain ⟨hb, h⟩ := ite_some h
    obtain ⟨v, hv, h⟩ := bind_some h
    exact ⟨_, h, fun w => by simp [Instr.index, asIntOf, run_underlying hu, hb, hv]⟩
  · simp at h

def fldAK (t : TypeId) (x : Value) (f : Nat) (K : Value → Option β) : Option β :=
  match P.underlying t, x with
  | some (.struct fs), .pointer q => (fs[f]?).bind fun fd => if (P.info? fd.type).isSome = true ∧ P.cellsOf fd.type ≠ 0 then q.bind fun a => K (.pointer (some (a.add fd.offset))) else none
  | _, _ => none

theorem fldAK_some {t : TypeId} {x : Value} {f : Nat} {K : Value → Option β} {r : β} (h : fldAK P t x f K = some r) :
    ∃ v, K v = some r ∧ ∀ w, (Instr.fieldAt t x f).run P w = .ok v w := by
  unfold fldAK at h
  split at h
  · rename_i fs q hu
    obtain ⟨fd, hf, h⟩ := bind_some h
    obtain ⟨⟨he, hz⟩, h⟩ := ite_some h
    obtain ⟨a, ha, h⟩ := bind_some h; subst ha
    exact ⟨_, h, fun w => by simp [Instr.fieldAt, run_underlying hu, hf, Instr.sureAddr, fieldPlace, sizeOf_elem he, hz]⟩
  · simp at h

def fldK (t : TypeId) (x : Value) (f : Nat) (K : Value → Option β) : Option β :=
  match P.underlying t, x with
  | some (.struct fs), .agg cs => (fs[f]?).bind fun fd => partK P fd.type cs fd.offset K
  | _, _ => none

theorem fldK_some {t : TypeId} {x : Value} {f : Nat} {K : Value → Option β} {r : β} (h : fldK P t x f K = some r) :
    ∃ v, K v = some r ∧ ∀ w, (Instr.field t x f).run P w = .ok v w := by
  unfold fldK at h
  split at h
  · rename_i fs cs hu
    obtain ⟨fd, hf, h⟩ := bind_some h
    obtain ⟨v, hv, hr⟩ := partK_some P h
    exact ⟨v, hv, fun w => by simp [Instr.field, run_underlying hu, hf, asAgg, hr]⟩
  · simp at h

/-- the bounds of a slice expression -/
def bnd1K (cap : Nat) (mx : Option Value) (K : Nat → Option β) : Option β :=
  match mx with
  | none => K cap
  | some (.int _ m) => if 0 ≤ m ∧ m ≤ cap then K m.toNat else none
  | _ => none
def bnd2K (len m : Nat) (hi : Option Value) (mx : Bool) (K : Nat → Option β) : Option β :=
  match hi with
  | some (.int _ h) => if 0 ≤ h ∧ h ≤ m then K h.toNat else none
  | none => bif mx then none else K len
  | _ => none
def bnd3K (h : Nat) (lo : Option Value) (K : Nat → Option β) : Option β :=
  match lo with
  | none => K 0
  | some (.int _ l) => if 0 ≤ l ∧ l ≤ h then K l.toNat else none
  | _ => none
def bndsK (len cap : Nat) (lo hi mx : Option Value) (K : Nat → Nat → Nat → Option β) : Option β :=
  bnd1K cap mx fun m => bnd2K len m hi mx.isSome fun h => bnd3K h lo fun l => K l h m

theorem bnd1K_some {P : Program} {cap : Nat} {mx : Option Value} {K : Nat → Option β} {r : β} (h : bnd1K cap mx K = some r) :
    ∃ m, K m = some r ∧ ∀ c w, ((match mx with | some v => Instr.sliceBound v cap c | none => pure cap) : Sem Nat).run P w = .ok m w := by
  unfold bnd1K at h
  split at h
  · exact ⟨_, h, fun c w => by simp⟩
  · obtain ⟨hb, h⟩ := ite_some h
    exact ⟨_, h, fun c w => by simp [Instr.sliceBound, asIntOf, hb]⟩
  · simp at h

theorem bnd2K_some {P : Program} {len m : Nat} {hi mx : Option Value} {K : Nat → Option β} {r : β} (h : bnd2K len m hi mx.isSome K = some r) :
    ∃ hv, K hv = some r ∧ ∀ c c' w, ((match hi, mx with
        | some v, some _ => Instr.sliceBound v m c
        | some v, none => Instr.sliceBound v m c'
        | none, none => pure len
        | none, some _ => stuck "Slice: max without high") : Sem Nat).run P w = .ok hv w := by
  unfold bnd2K at h
  split at h
  · obtain ⟨hb, h⟩ := ite_some h
    exact ⟨_, h, fun c c' w => by cases mx <;> simp [Instr.sliceBound, asIntOf, hb]⟩
  · cases mx with
    | none => exact ⟨_, h, fun c c' w => by simp⟩
    | some v => simp at h
  · simp at h

theorem bnd3K_some {P : Program} {hv : Nat} {lo : Option Value} {K : Nat → Option β} {r : β} (h : bnd3K hv lo K = some r) :
    ∃ l, K l = some r ∧ ∀ c w, ((match lo with | some v => Instr.sliceBound v hv c | none => pure 0) : Sem Nat).run P w = .ok l w := by
  unfold bnd3K at h
  split at h
  · exact ⟨_, h, fun c w => by simp⟩
  · obtain ⟨hb, h⟩ := ite_some h
    exact ⟨_, h, fun c w => by simp [Instr.sliceBound, asIntOf, hb]⟩
  · simp at h

theorem bndsK_some {len cap : Nat} {lo hi mx : Option Value} {K : Nat → Nat → Nat → Option β} {r : β} (h : bndsK len cap lo hi mx K = some r) (b : Bool) :
    ∃ l h m, K l h m = some r ∧ ∀ w, (Instr.sliceBounds b len cap lo hi mx).run P w = .ok (l, h, m) w := by
  unfold bndsK at h
  obtain ⟨m, h, hm⟩ := bnd1K_some (P := P) h
  obtain ⟨hv, h, hh⟩ := bnd2K_some (P := P) h
  obtain ⟨l, h, hl⟩ := bnd3K_some (P := P) h
  refine ⟨l, hv, m, h, fun w => ?_⟩
  have hh' := fun c w => hh c c w
  have hm0 := hm .index
  have hl0 := hl .index
  have hh0 := hh .index .index
  unfold Instr.sliceBounds
  cases mx <;> cases hi <;> cases lo <;> simp only [Sem.run_pure, Result.ok.injEq, and_true, run_stuck, reduceCtorEq, forall_const] at hm hh' hl hm0 hl0 hh0 <;>
    (try subst hm0) <;> (try subst hl0) <;> (try subst hh0) <;> simp [*]

def slK (t : TypeId) (x : Value) (lo hi mx : Option Value) (K : Value → Option β) : Option β :=
  match P.underlying t, x with
  | some (.array n e), .pointer q => if (P.info? e).isSome = true then q.bind fun a => bndsK n n lo hi mx fun l h m => K (.slice (sla (some a) l m (P.cellsOf e)) (h - l) (m - l)) else none
  | some (.slice e), .slice a len cap => if (P.info? e).isSome = true then bndsK len cap lo hi mx fun l h m => K (.slice (sla a l m (P.cellsOf e)) (h - l) (m - l)) else none
  | some .string, .string s => match mx with
    | none => bndsK s.size s.size lo hi none fun l h _ => K (.string (s.extract l h))
    | some _ => none
  | _, _ => none

theorem slK_some {t : TypeId} {x : Value} {lo hi mx : Option Value} {K : Value → Option β} {r : β} (h : slK P t x lo hi mx K = some r) :
    ∃ v, K v = some r ∧ ∀ w, (Instr.sliceAt t x lo hi mx).run P w = .ok v w := by
  unfold slK at h
  split at h
  · rename_i n e q hu
    obtain ⟨he, h⟩ := ite_some h
    obtain ⟨a, ha, h⟩ := bind_some h; subst ha
    obtain ⟨l, hv, m, h, hr⟩ := bndsK_some P h false
    refine ⟨_, h, fun w => ?_⟩
    simp only [Instr.sliceAt, Sem.run_bind, run_underlying hu, Result.andThen_ok, Instr.sureAddr, Sem.run_pure, hr, sizeOf_elem he, sla]
    split <;> rfl
  · rename_i e a len cap hu
    obtain ⟨he, h⟩ := ite_some h
    obtain ⟨l, hv, m, h, hr⟩ := bndsK_some P h true
    refine ⟨_, h, fun w => ?_⟩
    simp only [Instr.sliceAt, Instr.slice, Sem.run_bind, run_underlying hu, Result.andThen_ok, Sem.run_pure, hr, sizeOf_elem he, sla]
  · rename_i s hu
    split at h
    · obtain ⟨l, hv, m, h, hr⟩ := bndsK_some P h false
      refine ⟨_, h, fun w => ?_⟩
      simp only [Instr.sliceAt, Instr.slice, Sem.run_bind, run_underlying hu, Result.andThen_ok, Sem.run_pure, hr, Option.isSome_none, Bool.false_eq_true, if_false]
    · simp at h
  · simp at h

end
end Go.Fw

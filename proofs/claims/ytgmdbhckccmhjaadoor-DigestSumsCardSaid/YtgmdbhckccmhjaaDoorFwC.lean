/- One operation of a region, by its kind; and that the machine does just that. -/
import Derived.Test.YtgmdbhckccmhjaaDoorFwB
import Derived.Laws.Tables
namespace Go.Fw

/-- What an operation comes to on every frame that has the known slots. -/
def Does (P : Program) (o : Oper) (φ : Fr) (w : World) (v : Value) (w' : World) : Prop :=
  ∀ a, Agree φ a →
    (execOp a.eval o).run P w = .ok (.value v) w' ∨
    (v = undef ∧ (execOp a.eval o).run P w = .ok .skip w') ∨
    ∃ f args w1, (execOp a.eval o).run P w = .ok (.enter f args) w1 ∧ Calls P f args w1 (fun e w2 => e = .returned v ∧ w2 = w')

section
variable {β : Type} (P : Program) (E : Env)

def partsV (φ : Fr) : List (Nat × Operand) → Option (List (Nat × Value))
  | [] => some []
  | (i, x) :: r => match opd φ x with
    | none => none
    | some v => match partsV φ r with
      | none => none
      | some vs => some ((i, v) :: vs)

theorem partsV_eval {φ : Fr} {a : Act} (h : Agree φ a) : ∀ {xs : List (Nat × Operand)} {vs : List (Nat × Value)}, partsV φ xs = some vs → xs.map (fun p => (p.1, a.eval p.2)) = vs
  | [], vs, hx => by simp [partsV] at hx; subst hx; rfl
  | (i, x) :: r, vs, hx => by
    simp only [partsV] at hx
    split at hx
    · simp at hx
    · rename_i v hv
      split at hx
      · simp at hx
      · rename_i us hus
        have := Option.some.inj hx; subst this
        simp [opd_eval h hv, partsV_eval h hus]

/-- an operand that may be lacking -/
def opdO (φ : Fr) : Option Operand → Option (Option Value)
  | none => some none
  | some x => match opd φ x with
    | none => none
    | some v => some (some v)

theorem opdO_eval {φ : Fr} {a : Act} (h : Agree φ a) {x : Option Operand} {v : Option Value} (hx : opdO φ x = some v) : x.map a.eval = v := by
  cases x with
  | none => simp [opdO] at hx; subst hx; rfl
  | some y =>
    simp only [opdO] at hx
    split at hx
    · simp at hx
    · rename_i u hu
      have := Option.some.inj hx; subst this
      simp [opd_eval h hu]

/-- a built-in function -/
def builtQ (b : Builtin) (ts : Array TypeId) (args : List Value) (K : Value → Option β) (F : Option β) : Option β :=
  match b, ts.toList, args with
  | .len, [t], [.slice _ n _] => if slT P t = true then K (.int .i64 n) else none
  | .len, [t], [.string s] => if strT P t = true then K (.int .i64 s.size) else none
  | .cap, [t], [.slice _ _ c] => if slT P t = true then K (.int .i64 c) else none
  | .max, [_, _], [.int k x, .int _ y] => K (.int k (if y > x then y else x))
  | .min, [_, _], [.int k x, .int _ y] => K (.int k (if y < x then y else x))
  | _, _, _ => F

theorem builtQ_some {b : Builtin} {ts : Array TypeId} {args : List Value} {K : Value → Option β} {F : Option β} {r : β}
    (h : builtQ P b ts args K F = some r) : (∃ v, K v = some r ∧ ∀ ty cs w, (builtin b ts ty cs args.toArray).run P w = .ok (.value v) w) ∨ F = some r := by
  unfold builtQ at h
  split at h
  · rename_i t a n c hts
    obtain ⟨ht, h⟩ := ite_some h
    have hts' : ts = #[t] := by cases ts; simp at hts; subst hts; rfl
    subst hts'
    unfold slT at ht
    split at ht
    · rename_i e he; exact .inl ⟨_, h, fun ty cs w => by simp [builtin, Builtin.len_, run_underlying he, goInt]⟩
    · simp at ht
  · rename_i t s hts
    obtain ⟨ht, h⟩ := ite_some h
    have hts' : ts = #[t] := by cases ts; simp at hts; subst hts; rfl
    subst hts'
    unfold strT at ht
    split at ht
    · rename_i he; exact .inl ⟨_, h, fun ty cs w => by simp [builtin, Builtin.len_, run_underlying he, goInt]⟩
    · simp at ht
  · rename_i t a n c hts
    obtain ⟨ht, h⟩ := ite_some h
    have hts' : ts = #[t] := by cases ts; simp at hts; subst hts; rfl
    subst hts'
    unfold slT at ht
    split at ht
    · rename_i e he; exact .inl ⟨_, h, fun ty cs w => by simp [builtin, Builtin.cap_, run_underlying he, goInt]⟩
    · simp at ht
  · exact .inl ⟨_, h, fun ty cs w => by simp [builtin, Builtin.max_, Builtin.max2]⟩
  · exact .inl ⟨_, h, fun ty cs w => by simp [builtin, Builtin.min_, Builtin.min2]⟩
  · exact .inr h

def builtK (b : Builtin) (ts : Array TypeId) (ty : TypeId) (args : List Value) (w : World) (K : Value → World → Option β) : Option β :=
  match b, ts.toList, args with
  | .append, [t, u], [s, x] => bnd (apd P t u s x w) fun s w' => K (.slice s.a s.len s.cap) w'
  | .copy, [t, u], [d, s] => bnd (cpy P t u d s w) fun n w' => K (.int .i64 n) w'
  | .clear, [t], [x] => bnd (clr P t x w) fun _ w' => K (.tuple #[]) w'
  | .unsafeSliceData, _, vs => bnd (usSD P ts ty vs.toArray w) fun v w' => K v w'
  | .unsafeString, _, vs => bnd (usS P ts ty vs.toArray w) fun s w' => K (.string s) w'
  | _, _, _ => none

theorem builtK_some {b : Builtin} {ts : Array TypeId} {ty : TypeId} {cs : Array Bool} {args : List Value} {w : World} {K : Value → World → Option β} {r : β}
    (h : builtK P b ts ty args w K = some r) : ∃ v w', K v w' = some r ∧ (builtin b ts ty cs args.toArray).run P w = .ok (.value v) w' := by
  unfold builtK at h
  split at h
  · rename_i t u s x hts
    have hts' : ts = #[t, u] := by cases ts; simp at hts; subst hts; rfl
    subst hts'
    obtain ⟨s2, w', h1, h⟩ := bnd_some h
    refine ⟨_, _, h, ?_⟩
    unfold apd at h1
    split at h1
    · rename_i a2 l2 c2 w2 hr
      simp only [Option.some.injEq, Prod.mk.injEq] at h1
      obtain ⟨rfl, rfl⟩ := h1
      have hr2 : (Builtin.append_ #[t, u] ty #[s, x]).run P w = .ok (.slice a2 l2 c2) w2 := hr
      simp [builtin, hr2]
    · simp at h1
  · rename_i t u s x hts
    have hts' : ts = #[t, u] := by cases ts; simp at hts; subst hts; rfl
    subst hts'
    obtain ⟨s2, w', h1, h⟩ := bnd_some h
    refine ⟨_, _, h, ?_⟩
    unfold cpy at h1
    split at h1
    · rename_i n2 w2 hr
      simp only [Option.some.injEq, Prod.mk.injEq] at h1
      obtain ⟨rfl, rfl⟩ := h1
      have hr2 : (Builtin.copy_ #[t, u] ty #[s, x]).run P w = .ok (.int .i64 n2) w2 := hr
      simp [builtin, hr2]
    · simp at h1
  · rename_i t x hts
    have hts' : ts = #[t] := by cases ts; simp at hts; subst hts; rfl
    subst hts'
    obtain ⟨s2, w', h1, h⟩ := bnd_some h
    refine ⟨_, _, h, ?_⟩
    unfold clr at h1
    split at h1
    · rename_i v2 w2 hr
      split at h1
      · rename_i vs
        obtain ⟨hz, h1⟩ := ite_some h1
        simp only [Option.some.injEq, Prod.mk.injEq] at h1
        obtain ⟨_, rfl⟩ := h1
        have hv : vs = #[] := Array.eq_empty_of_size_eq_zero hz
        subst hv
        have hr2 : (Builtin.clear_ #[t] ty #[x]).run P w = .ok (.tuple #[]) w2 := hr
        simp [builtin, hr2]
      · simp at h1
    · simp at h1
  · rename_i vs
    obtain ⟨v, w', h1, h⟩ := bnd_some h
    refine ⟨_, _, h, ?_⟩
    unfold usSD at h1
    split at h1
    · rename_i v2 w2 hr
      simp only [Option.some.injEq, Prod.mk.injEq] at h1
      obtain ⟨rfl, rfl⟩ := h1
      have hr2 : (Builtin.unsafeSliceData_ ts ty _).run P w = .ok v2 w2 := hr
      simp [builtin, hr2]
    · simp at h1
  · rename_i vs
    obtain ⟨v, w', h1, h⟩ := bnd_some h
    refine ⟨_, _, h, ?_⟩
    unfold usS at h1
    split at h1
    · rename_i v2 w2 hr
      simp only [Option.some.injEq, Prod.mk.injEq] at h1
      obtain ⟨rfl, rfl⟩ := h1
      have hr2 : (Builtin.unsafeString_ ts ty _).run P w = .ok (.string v2) w2 := hr
      simp [builtin, hr2]
    · simp at h1
  · simp at h

/-! ### One operation -/

/-- An operation that leaves the world as it is; F: what is asked where it is none. -/
def stepQ (EQ : REnv) (o : Oper) (φ : Fr) (w : World) (K : Value → Option β) (F : Option β) : Option β :=
  match o.op with
  | .move x => match opd φ x with
    | some v => K v
    | none => none
  | .assign x => match opd φ x with
    | some v => K v
    | none => none
  | .pick c a b => match opd φ c, opd φ a, opd φ b with
    | some (.bool c), some a, some b => if c = true then K a else K b
    | _, _, _ => none
  | .load t a => match opd φ a with
    | some (.pointer q) => q.bind fun p => ldK (P.underlying t) (P.cellsOf t) p w K
    | _ => none
  | .nilCheck x => match opd φ x with
    | some (.pointer q) => q.bind fun p => K (.pointer (some p))
    | _ => none
  | .binOp op t x y _ => match opd φ x, opd φ y with
    | some u, some v => binQ P op t u v K F
    | _, _ => none
  | .unOp op _ x => match opd φ x with
    | some u => unK op u K
    | none => none
  | .convert s d x => match opd φ x with
    | some u => cnvQ P s d u K F
    | none => none
  | .makeFunc fn first captured => match opds φ first.toList, opds φ captured.toList with
    | some f, some c => K (.func fn f.toArray c.toArray)
    | _, _ => none
  | .slice t x lo hi mx => match opd φ x, opdO φ lo, opdO φ hi, opdO φ mx with
    | some x, some lo, some hi, some mx => slK P t x lo hi mx K
    | _, _, _, _ => none
  | .fieldAddr t x f => match opd φ x with
    | some x => fldAK P t x f K
    | none => none
  | .field t x f => match opd φ x with
    | some x => fldK P t x f K
    | none => none
  | .indexAddr t x i => match opd φ x, opd φ i with
    | some x, some i => ixaK P t x i K
    | _, _ => none
  | .index t x i => match opd φ x, opd φ i with
    | some x, some i => ixK P t x i K
    | _, _ => none
  | .extract t i => match opd φ t with
    | some (.tuple vs) => match vs[i]? with
      | some v => asK (P.underlying o.type) v K
      | none => none
    | _ => none
  | .build t parts => match partsV φ parts.toList with
    | some vs => (P.built t vs).bind fun cs => K (.agg cs)
    | none => none
  | .call c => match c.callee with
    | .builtin b => match opds φ c.args.toList with
      | some args => builtQ P b c.argTypes args K F
      | none => none
    | .value (.func f) => match EQ f with
      | some e => match opds φ c.args.toList with
        | some args => e.run args w K
        | none => none
      | none => F
    | _ => F
  | _ => F

/-- the other operations -/
def stepE (o : Oper) (φ : Fr) (w : World) (K : Value → World → Option β) : Option β :=
  match o.op with
  | .alloc e => match (P.info? e).bind (·.zero) with
    | some z => bnd (newB z.cells e w) fun p w' => K (.pointer (some p)) w'
    | none => none
  | .box e x => match opd φ x with
    | some v => bnd (newB v.cells e w) fun p w' => K (.pointer (some p)) w'
    | none => none
  | .build t parts => match partsV φ parts.toList with
    | some vs => bnd (bldV P t vs w) fun cs w' => K (.agg cs) w'
    | none => none
  | .buildSlice t n parts => match partsV φ parts.toList with
    | some vs => bnd (bldS P t n vs.toArray w) fun s w' => K (.slice s.a s.len s.cap) w'
    | none => none
  | .store t a x => match opd φ a, opd φ x with
    | some (.pointer q), some v => if (P.info? t).isSome = true then q.bind fun p => stK (P.cellsOf t) p v w fun w' => K undef w' else none
    | _, _ => none
  | .binOp op t x y _ => match opd φ x, opd φ y with
    | some u, some v => bopK P op t o.type x y u v w K
    | _, _ => none
  | .convert s d x => match opd φ x with
    | some u => cnvK P s d u w K
    | none => none
  | .makeMap t r => match opdO φ r with
    | some r => bnd (mmk P t r w) fun v w' => K v w'
    | none => none
  | .makeSlice t l c => match opd φ l, opd φ c with
    | some l, some c => bnd (mkS P t l c w) fun s w' => K (.slice s.a s.len s.cap) w'
    | _, _ => none
  | .lookup t x i ok => match opd φ x, opd φ i with
    | some x, some i => bnd (lkp P t x i ok w) fun v w' => K v w'
    | _, _ => none
  | .mapUpdate t m k x => match opd φ m, opd φ k, opd φ x with
    | some m, some k, some x => bnd (mput P t m k x w) fun _ w' => K undef w'
    | _, _, _ => none
  | .call c => match c.callee with
    | .builtin b => match opds φ c.args.toList with
      | some args => builtK P b c.argTypes o.type args w K
      | none => none
    | .value (.func f) => match opds φ c.args.toList with
      | some args => callK E f args w K
      | none => none
    | .value f => match opd φ f, opds φ c.args.toList with
      | some fv, some args => dyn E fv args w fun v w' => asK (P.underlying o.type) v fun v => K v w'
      | _, _ => none
    | .invoke _ _ => none
  | _ => none

/-- as 'Does', of an operation that leaves the world as it is -/
def DoesQ (P : Program) (o : Oper) (φ : Fr) (w : World) (v : Value) : Prop :=
  ∀ a, Agree φ a →
    (execOp a.eval o).run P w = .ok (.value v) w ∨
    ∃ f args, (execOp a.eval o).run P w = .ok (.enter f args) w ∧ Calls P f args w (fun e w2 => e = .returned v ∧ w2 = w)

/-- an operation whose value hangs on no memory -/
def pureK (o : Op) : Bool :=
  match o with
  | .move _ => true
  | .assign _ => true
  | .pick _ _ _ => true
  | .nilCheck _ => true
  | .binOp _ _ _ _ _ => true
  | .unOp _ _ _ => true
  | .convert _ _ _ => true
  | .makeFunc _ _ _ => true
  | .slice _ _ _ _ _ => true
  | .fieldAddr _ _ _ => true
  | .field _ _ _ => true
  | .indexAddr _ _ _ => true
  | .index _ _ _ => true
  | .extract _ _ => true
  | .build _ _ => true
  | .call c => match c.callee with
    | .builtin .len => true
    | .builtin .cap => true
    | .builtin .max => true
    | .builtin .min => true
    | _ => false
  | _ => false

def DoesP (P : Program) (o : Oper) (φ : Fr) (v : Value) : Prop := ∀ a, Agree φ a → ∀ w, (execOp a.eval o).run P w = .ok (.value v) w

theorem doesP_both {P : Program} {o : Oper} {φ : Fr} {v : Value} (w : World) (h : DoesP P o φ v) : DoesQ P o φ w v ∧ (pureK o.op = true → DoesP P o φ v) :=
  ⟨fun a ha => .inl (h a ha w), fun _ => h⟩

theorem stepQ_some {EQ : REnv} (hE : EQ.Ok P) {o : Oper} {φ : Fr} {w : World} {K : Value → Option β} {F : Option β} {r : β} (h : stepQ P EQ o φ w K F = some r) :
    (∃ v, K v = some r ∧ DoesQ P o φ w v ∧ (pureK o.op = true → DoesP P o φ v)) ∨ F = some r := by
  unfold stepQ at h
  split at h
  · rename_i x hop
    split at h
    · rename_i v hv; exact .inl ⟨v, h, doesP_both w fun a ha w => (by simp [execOp, hop, opd_eval ha hv])⟩
    · simp at h
  · rename_i x hop
    split at h
    · rename_i v hv; exact .inl ⟨v, h, doesP_both w fun a ha w => (by simp [execOp, hop, opd_eval ha hv])⟩
    · simp at h
  · rename_i c a b hop
    split at h
    · rename_i cv av bv hc ha hb
      cases cv with
      | true => exact .inl ⟨av, h, doesP_both w fun f hf w => (by simp [execOp, hop, opd_eval hf hc, opd_eval hf ha, asBool])⟩
      | false => exact .inl ⟨bv, h, doesP_both w fun f hf w => (by simp [execOp, hop, opd_eval hf hc, opd_eval hf hb, asBool])⟩
    · simp at h
  · rename_i t ad hop
    split at h
    · rename_i q hq
      obtain ⟨p, hp, h2⟩ := bind_some h
      subst hp
      obtain ⟨v, hv, hr⟩ := ldK_run h2
      exact .inl ⟨v, hv, fun a ha => .inl (by simp [execOp, hop, Instr.loadAt, opd_eval ha hq, Instr.sureAddr, hr]), fun hp => by rw [hop] at hp; cases hp⟩
    · simp at h
  · rename_i x hop
    split at h
    · rename_i q hq
      obtain ⟨p, hp, h2⟩ := bind_some h
      subst hp
      exact .inl ⟨_, h2, doesP_both w fun a ha w => (by simp [execOp, hop, opd_eval ha hq])⟩
    · simp at h
  · rename_i op t x y yt hop
    split at h
    · rename_i u v hu hv
      rcases binQ_some P h with ⟨v', h, hr⟩ | h
      · exact .inl ⟨v', h, doesP_both w fun a ha w => (by simp only [execOp, hop, opd_eval ha hu, opd_eval ha hv, Sem.run_bind, hr]; rfl)⟩
      · exact .inr h
    · simp at h
  · rename_i op t x hop
    split at h
    · rename_i u hu
      obtain ⟨v', h, hr⟩ := unK_some (P := P) h
      exact .inl ⟨v', h, doesP_both w fun a ha w => (by simp [execOp, hop, opd_eval ha hu, hr])⟩
    · simp at h
  · rename_i s d x hop
    split at h
    · rename_i u hu
      rcases cnvQ_some P h with ⟨v', h, hr⟩ | h
      · exact .inl ⟨v', h, doesP_both w fun a ha w => (by simp [execOp, hop, opd_eval ha hu, hr])⟩
      · exact .inr h
    · simp at h
  · rename_i fn first captured hop
    split at h
    · rename_i f c hf hc
      refine .inl ⟨_, h, doesP_both w fun a ha w => ?_⟩
      have h1 := opds_eval ha hf
      have h2 := opds_eval ha hc
      have h1' : first.map a.eval = f.toArray := by apply Array.ext'; simpa using h1
      have h2' : captured.map a.eval = c.toArray := by apply Array.ext'; simpa using h2
      simp [execOp, hop, Instr.makeFunc, h1', h2']
    · simp at h
  · rename_i t x lo hi mx hop
    split at h
    · rename_i xv lov hiv mxv hx hlo hhi hmx
      obtain ⟨v, h, hr⟩ := slK_some P h
      exact .inl ⟨v, h, doesP_both w fun a ha w => (by simp [execOp, hop, opd_eval ha hx, opdO_eval ha hlo, opdO_eval ha hhi, opdO_eval ha hmx, hr])⟩
    · simp at h
  · rename_i t x f hop
    split at h
    · rename_i xv hx
      obtain ⟨v, h, hr⟩ := fldAK_some P h
      exact .inl ⟨v, h, doesP_both w fun a ha w => (by simp [execOp, hop, opd_eval ha hx, hr])⟩
    · simp at h
  · rename_i t x f hop
    split at h
    · rename_i xv hx
      obtain ⟨v, h, hr⟩ := fldK_some P h
      exact .inl ⟨v, h, doesP_both w fun a ha w => (by simp [execOp, hop, opd_eval ha hx, hr])⟩
    · simp at h
  · rename_i t x i hop
    split at h
    · rename_i xv iv hx hi
      obtain ⟨v, h, hr⟩ := ixaK_some P h
      exact .inl ⟨v, h, doesP_both w fun a ha w => (by simp [execOp, hop, opd_eval ha hx, opd_eval ha hi, hr])⟩
    · simp at h
  · rename_i t x i hop
    split at h
    · rename_i xv iv hx hi
      obtain ⟨v, h, hr⟩ := ixK_some P h
      exact .inl ⟨v, h, doesP_both w fun a ha w => (by simp [execOp, hop, opd_eval ha hx, opd_eval ha hi, hr])⟩
    · simp at h
  · rename_i t i hop
    split at h
    · rename_i vs hvs
      split at h
      · rename_i v hv
        exact .inl ⟨v, asK_some h, doesP_both w fun a ha w => (by simp [execOp, hop, opd_eval ha hvs, Instr.extract, hv])⟩
      · simp at h
    · simp at h
  · rename_i t parts hop
    split at h
    · rename_i vs hvs
      obtain ⟨cs, h1, h⟩ := bind_some h
      refine .inl ⟨_, h, doesP_both w fun a ha w => ?_⟩
      have hp := partsV_eval ha hvs
      have hp' : parts.map (fun x => (x.1, a.eval x.2)) = vs.toArray := by apply Array.ext'; simpa using hp
      have hr := run_build (P := P) w t vs.toArray cs (by simpa using h1)
      simp [execOp, hop, hp', hr]
    · cases h
  · rename_i c hop
    split at h
    · rename_i b hb
      split at h
      · rename_i args hargs
        rcases builtQ_some P h with ⟨v, h, hr⟩ | h
        · refine .inl ⟨v, h, doesP_both w fun a ha w => ?_⟩
          have h1 := opds_eval ha hargs
          have h1' : c.args.map a.eval = args.toArray := by apply Array.ext'; simpa using h1
          simp only [execOp, hop, resolve, hb, h1', Sem.run_bind, Sem.run_pure, Result.andThen_ok, invoke]
          exact hr _ _ _
        · exact .inr h
      · simp at h
    · rename_i f hf
      split at h
      · rename_i e he
        split at h
        · rename_i args hargs
          obtain ⟨v, h, hc⟩ := hE f e he args w K r h
          refine .inl ⟨v, h, fun a ha => ?_, fun hp => by rw [hop] at hp; simp [pureK, hf] at hp⟩
          have h1 := opds_eval ha hargs
          have h1' : c.args.map a.eval = args.toArray := by apply Array.ext'; simpa using h1
          have hx : (execOp a.eval o).run P w = (callFunc f args.toArray).run P w := by
            simp only [execOp, hop, resolve, hf, h1', Sem.run_bind, Sem.run_pure, Result.andThen_ok, Act.eval, Deferred.ofValue, invoke]
            simp
          rw [hx]
          rcases hc with hc | ⟨hc1, hc2⟩
          · exact .inl hc
          · exact .inr ⟨f, args.toArray, hc1, hc2⟩
        · simp at h
      · exact .inr h
    · exact .inr h
  · exact .inr h

theorem stepE_some (hE : E.Ok P) {o : Oper} {φ : Fr} {w : World} {K : Value → World → Option β} {r : β} (h : stepE P E o φ w K = some r) :
    ∃ v w', K v w' = some r ∧ Does P o φ w v w' := by
  unfold stepE at h
  split at h
  · rename_i e hop
    split at h
    · rename_i z hz
      obtain ⟨p, w', h1, h⟩ := bnd_some h
      refine ⟨_, _, h, fun a ha => .inl ?_⟩
      obtain ⟨i, hi, hz⟩ := Option.bind_eq_some_iff.1 hz
      have hn := newB_run (P := P) h1
      simp [execOp, hop, Instr.alloc, zeroValue, typeInfo, hi, hz, newVar, hn]
    · simp at h
  · rename_i e x hop
    split at h
    · rename_i v hv
      obtain ⟨p, w', h1, h⟩ := bnd_some h
      refine ⟨_, _, h, fun a ha => .inl ?_⟩
      have hn := newB_run (P := P) h1
      simp [execOp, hop, Instr.box, opd_eval ha hv, newVar, hn]
    · simp at h
  · rename_i t parts hop
    split at h
    · rename_i vs hvs
      obtain ⟨cs, w', h1, h⟩ := bnd_some h
      refine ⟨_, _, h, fun a ha => .inl ?_⟩
      have hp := partsV_eval ha hvs
      have hp' : parts.map (fun x => (x.1, a.eval x.2)) = vs.toArray := by apply Array.ext'; simpa using hp
      unfold bldV at h1
      split at h1
      · rename_i cs2 w2 hr
        simp only [Option.some.injEq, Prod.mk.injEq] at h1
        simp [execOp, hop, hp', hr, h1.1, h1.2]
      · simp at h1
    · simp at h
  · rename_i t n parts hop
    split at h
    · rename_i vs hvs
      obtain ⟨cs, w', h1, h⟩ := bnd_some h
      refine ⟨_, _, h, fun a ha => .inl ?_⟩
      have hp := partsV_eval ha hvs
      have hp' : parts.map (fun x => (x.1, a.eval x.2)) = vs.toArray := by apply Array.ext'; simpa using hp
      unfold bldS at h1
      split at h1
      · rename_i a2 l2 c2 w2 hr
        simp only [Option.some.injEq, Prod.mk.injEq] at h1
        simp [execOp, hop, hp', hr, ← h1.1, h1.2]
      · simp at h1
    · simp at h
  · rename_i t ad x hop
    split at h
    · rename_i q v hq hv
      obtain ⟨hi, h⟩ := ite_some h
      obtain ⟨p, hp, h2⟩ := bind_some h
      subst hp
      obtain ⟨i, hi⟩ := Option.isSome_iff_exists.1 hi
      obtain ⟨w', hw, hr⟩ := stK_run hi h2
      exact ⟨_, w', hw, fun a ha => .inr (.inl ⟨rfl, by simp [execOp, hop, Instr.storeAt, opd_eval ha hq, opd_eval ha hv, Instr.sureAddr, hr]⟩)⟩
    · simp at h
  · rename_i op t x y yt hop
    split at h
    · rename_i u v hu hv
      obtain ⟨v', w', h, hr⟩ := bopK_some P h
      exact ⟨v', w', h, fun a ha => .inl (by simp only [execOp, hop, opd_eval ha hu, opd_eval ha hv, Sem.run_bind, hr]; rfl)⟩
    · simp at h
  · rename_i s d x hop
    split at h
    · rename_i u hu
      obtain ⟨v', w', h, hr⟩ := cnvK_some P h
      exact ⟨v', w', h, fun a ha => .inl (by simp [execOp, hop, opd_eval ha hu, hr])⟩
    · simp at h
  · rename_i t x hop
    split at h
    · rename_i u hu
      obtain ⟨v, w', h1, h⟩ := bnd_some h
      refine ⟨_, _, h, fun a ha => .inl ?_⟩
      unfold mmk at h1
      split at h1
      · rename_i v2 w2 hr
        simp only [Option.some.injEq, Prod.mk.injEq] at h1
        simp [execOp, hop, opdO_eval ha hu, hr, h1.1, h1.2]
      · simp at h1
    · simp at h
  · rename_i t l c hop
    split at h
    · rename_i lv cv hl hc
      obtain ⟨v, w', h1, h⟩ := bnd_some h
      refine ⟨_, _, h, fun a ha => .inl ?_⟩
      unfold mkS at h1
      split at h1
      · rename_i a2 l2 c2 w2 hr
        simp only [Option.some.injEq, Prod.mk.injEq] at h1
        simp [execOp, hop, opd_eval ha hl, opd_eval ha hc, hr, ← h1.1, h1.2]
      · simp at h1
    · simp at h
  · rename_i t x i ok hop
    split at h
    · rename_i xv iv hx hi
      obtain ⟨v, w', h1, h⟩ := bnd_some h
      refine ⟨_, _, h, fun a ha => .inl ?_⟩
      unfold lkp at h1
      split at h1
      · rename_i v2 w2 hr
        simp only [Option.some.injEq, Prod.mk.injEq] at h1
        simp [execOp, hop, opd_eval ha hx, opd_eval ha hi, hr, h1.1, h1.2]
      · simp at h1
    · simp at h
  · rename_i t m k x hop
    split at h
    · rename_i mv kv xv hm hk hx
      obtain ⟨v, w', h1, h⟩ := bnd_some h
      refine ⟨_, _, h, fun a ha => .inr (.inl ⟨rfl, ?_⟩)⟩
      unfold mput at h1
      split at h1
      · rename_i v2 w2 hr
        simp only [Option.some.injEq, Prod.mk.injEq] at h1
        simp [execOp, hop, opd_eval ha hm, opd_eval ha hk, opd_eval ha hx, hr, h1.2]
      · simp at h1
    · simp at h
  · rename_i c hop
    split at h
    · rename_i b hb
      split at h
      · rename_i args hargs
        obtain ⟨v, w', h, hr⟩ := builtK_some P (ty := o.type) (cs := c.args.map fun | .const _ => true | _ => false) h
        refine ⟨v, w', h, fun a ha => .inl ?_⟩
        have h1 := opds_eval ha hargs
        have h1' : c.args.map a.eval = args.toArray := by apply Array.ext'; simpa using h1
        simp only [execOp, hop, resolve, hb, h1', Sem.run_bind, Sem.run_pure, Result.andThen_ok, invoke]
        exact hr
      · simp at h
    · rename_i f hf
      split at h
      · rename_i args hargs
        obtain ⟨v, w', h, hc⟩ := callK_some hE h
        refine ⟨v, w', h, fun a ha => ?_⟩
        have h1 := opds_eval ha hargs
        have h1' : c.args.map a.eval = args.toArray := by apply Array.ext'; simpa using h1
        have hx : (execOp a.eval o).run P w = (callFunc f args.toArray).run P w := by
          simp only [execOp, hop, resolve, hf, h1', Sem.run_bind, Sem.run_pure, Result.andThen_ok, Act.eval, Deferred.ofValue, invoke]
          simp
        rw [hx]
        rcases hc with hc | ⟨w1, hc1, hc2⟩
        · exact .inl hc
        · exact .inr (.inr ⟨f, args.toArray, w1, hc1, hc2⟩)
      · simp at h
    · rename_i f hnf hf
      split at h
      · rename_i fv args hfv hargs
        unfold dyn at h
        split at h
        · rename_i n first captured
          obtain ⟨v, w', h, hc⟩ := callK_some hE h
          refine ⟨v, w', asK_some h, fun a ha => ?_⟩
          have h1 := opds_eval ha hargs
          have h1' : c.args.map a.eval = args.toArray := by apply Array.ext'; simpa using h1
          have hx : (execOp a.eval o).run P w = (callFunc n ((first.toList ++ args) ++ captured.toList).toArray).run P w := by
            simp only [execOp, hop, resolve, hf, h1', opd_eval ha hfv, Sem.run_bind, Sem.run_pure, Result.andThen_ok, Deferred.ofValue, invoke]
            congr 2
            simp
          rw [hx]
          rcases hc with hc | ⟨w1, hc1, hc2⟩
          · exact .inl hc
          · exact .inr (.inr ⟨_, _, w1, hc1, hc2⟩)
        · simp at h
      · simp at h
    · simp at h
  · simp at h

theorem DoesQ.does {P : Program} {o : Oper} {φ : Fr} {w : World} {v : Value} (h : DoesQ P o φ w v) : Does P o φ w v w := fun a ha =>
  (h a ha).imp id fun ⟨f, args, h1, h2⟩ => .inr ⟨f, args, w, h1, h2⟩

def stepOp (EQ : REnv) (o : Oper) (φ : Fr) (w : World) (K : Value → World → Option β) : Option β :=
  stepQ P EQ o φ w (fun v => K v w) (stepE P E o φ w K)

theorem stepOp_some {EQ : REnv} (hQ : EQ.Ok P) (hE : E.Ok P) {o : Oper} {φ : Fr} {w : World} {K : Value → World → Option β} {r : β} (h : stepOp P E EQ o φ w K = some r) :
    ∃ v w', K v w' = some r ∧ Does P o φ w v w' := by
  rcases stepQ_some P hQ h with ⟨v, h, hd, _⟩ | h
  · exact ⟨v, w, h, hd.does⟩
  · exact stepE_some P E hE h

end
end Go.Fw

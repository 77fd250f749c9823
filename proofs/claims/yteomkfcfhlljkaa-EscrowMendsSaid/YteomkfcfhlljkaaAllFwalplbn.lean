/- Texts of this claim, put together: FwV, FwX -/
import Derived.Test.YteomkfcfhlljkaaAllFwdhgkco
/- Functions that defer one call. -/
namespace Go.Fw

/-- the first pieces of a row of pieces -/
def chainOf : Nat → Code → Code
  | n + 1, .seq a b => .seq a (chainOf n b)
  | _, _ => .skip
/-- what stands behind them -/
def restOf : Nat → Code → Code
  | n + 1, .seq _ b => restOf n b
  | _, c => c
def deepB : Nat → Code → Bool
  | 0, _ => true
  | n + 1, .seq _ b => deepB n b
  | _, _ => false

theorem chain_exec {P : Program} {E : Env} {EQ : REnv} (hE : E.Ok P) (hQ : EQ.Ok P) (hm : P.follows .mixedOrders = true) {R : Rg} {O : List Nat → Option SE} {root : Code} (hO : Orc P R root O) {β : Type} {K : Exit → Fr → World → Option β} {r : β} {a0 : Act} {Qf : Exit → Act → World → Prop} :
    ∀ (n : Nat) (c : Code) (π : List Nat) (φ : Fr) (w : World) (a : Act), deepB n c = true → subC root π = some (chainOf n c) → exec P E EQ R O (chainOf n c) π φ w K = some r →
      (∀ φ w a, K .normal φ w = some r → Agree φ a → Room R a → Kept R a0 a → (restOf n c).wp P Qf a w) →
      (∀ e φ w a, e ≠ .normal → K e φ w = some r → Agree φ a → Kept R a0 a → Qf e a w) →
      Agree φ a → Room R a → Kept R a0 a → c.wp P Qf a w
  | 0, c, π, φ, w, a, _, _, h, hX, _, ha, hr, hk => by
    have h : K .normal φ w = some r := h
    exact hX φ w a h ha hr hk
  | n + 1, .seq x y, π, φ, w, a, hd, hc, h, hX, hK, ha, hr, hk => by
    have hc : subC root π = some (.seq x (chainOf n y)) := hc
    have h : exec P E EQ R O x (π ++ [0]) φ w (seqK K fun φ' w' => exec P E EQ R O (chainOf n y) (π ++ [1]) φ' w' K) = some r := h
    have hx := exec_sound P E EQ hE hQ hm hO x (π ++ [0]) φ w _ r (by rw [subC_append, hc]; exact subC_seq0 x _) h
    refine wp_seq (wp_mono (hx a ha hr) fun e a' w' ⟨hk', φ', hφ, hq⟩ => ?_)
    cases e with
    | normal => exact chain_exec hE hQ hm hO n y (π ++ [1]) φ' w' a' hd (by rw [subC_append, hc]; exact subC_seq1 x _) hq hX hK hφ (hk'.room hr) (hk.trans hk')
    | exit id => exact hK _ φ' w' a' (by simp) hq hφ (hk.trans hk')
    | goto l => exact hK _ φ' w' a' (by simp) hq hφ (hk.trans hk')
    | ret => exact hK _ φ' w' a' (by simp) hq hφ (hk.trans hk')
    | panic c => exact hK _ φ' w' a' (by simp) hq hφ (hk.trans hk')
    | outgrown => exact hK _ φ' w' a' (by simp) hq hφ (hk.trans hk')
  | n + 1, .skip, _, _, _, _, hd, _, _, _, _, _, _, _ => by cases hd
  | n + 1, .region _ _ _, _, _, _, _, hd, _, _, _, _, _, _, _ => by cases hd
  | n + 1, .cond _ _ _, _, _, _, _, hd, _, _, _, _, _, _, _ => by cases hd
  | n + 1, .block _ _, _, _, _, _, hd, _, _, _, _, _, _, _ => by cases hd
  | n + 1, .loop _, _, _, _, _, hd, _, _, _, _, _, _, _ => by cases hd
  | n + 1, .rangeFunc _ _ _ _, _, _, _, _, hd, _, _, _, _, _, _, _ => by cases hd
  | n + 1, .exit _, _, _, _, _, hd, _, _, _, _, _, _, _ => by cases hd
  | n + 1, .scope _, _, _, _, _, hd, _, _, _, _, _, _, _ => by cases hd
  | n + 1, .label _, _, _, _, _, hd, _, _, _, _, _, _, _ => by cases hd
  | n + 1, .goto _, _, _, _, _, hd, _, _, _, _, _, _, _ => by cases hd
  | n + 1, .ret, _, _, _, _, hd, _, _, _, _, _, _, _ => by cases hd
  | n + 1, .refuse _, _, _, _, _, hd, _, _, _, _, _, _, _ => by cases hd

/-- what is called when a function is left -/
theorem FunFacts.callsD {P : Program} {f : FuncId} {fn : Func} {body : Code} {Lp : Vars} {R : Rg} (h : FunFacts P f fn body Lp R) {x : TT Lp} {u : FrameMode} {w : World} {Q : Exit → Fr → World → Prop}
    (hW : W P R body Q (encs Lp x []) w) {Rt : Ending → World → Prop}
    (hq : ∀ e φ w', Q e φ w' → (e = .normal ∨ e = .ret) ∧ ∀ a, Agree φ a → ∃ v, (results fn a.tmps).run P w' = .ok v w' ∧ Rt (.returned v) w') :
    CallsD P f (encA Lp x).toArray u w fun e u' w' => u' = u ∧ Rt e w' := by
  refine callsD_of_wp h.at_ h.body ?_
  have hp := Nat.le_of_ble_eq_true h.params
  have hlen : (encA Lp x).toArray.size = Lp.length := by simp [encA_length]
  have hsz : ((encA Lp x).toArray ++ Array.replicate (fn.ntmps - (encA Lp x).toArray.size) undef).size = fn.ntmps := by
    rw [Array.size_append, Array.size_replicate, hlen]; omega
  refine wp_mono (hW _ ?_ ?_) fun e a' w' ⟨hk, φ', hφ, hx⟩ => ?_
  · intro t v ht
    obtain ⟨_, h2⟩ := encs_args h.slots x t v ht
    simp only [Nat.sub_zero] at h2
    have hlt : t < (encA Lp x).length := (List.getElem?_eq_some_iff.1 h2).1
    show ((encA Lp x).toArray ++ _)[t]? = some v
    rw [Array.getElem?_append_left (by simpa using hlt)]
    simpa using h2
  · intro t ht
    rw [hsz]; exact room_of h.room ht
  · obtain ⟨he, hr⟩ := hq e φ' w' hx
    obtain ⟨v, hv, hR⟩ := hr a' hφ
    rcases he with rfl | rfl
    · exact ⟨hk.defers, v, hv, hR⟩
    · exact ⟨hk.defers, v, hv, hR⟩

theorem fun_callsD {P : Program} {f : FuncId} {fn : Func} {body : Code} {Lp : Vars} {R : Rg} (h : FunFacts P f fn body Lp R) {Rt : List Ty} {x : TT Lp} {u : FrameMode} {w : World} {y : TR Rt} {w' : World}
    (hW : W P R body (fun e φ' w2 => funK P fn.results.toList Rt e φ' w2 = some (y, w')) (encs Lp x []) w) :
    CallsD P f (encA Lp x).toArray u w (fun e u' w2 => u' = u ∧ (e = .returned (resV (encR Rt y)) ∧ w2 = w')) := by
  refine h.callsD hW fun e φ w2 hq => ?_
  have key : resK P φ w2 fn.results.toList Rt (fun y => some (y, w2)) = some (y, w') → ∀ a, Agree φ a → ∃ v, (results fn a.tmps).run P w2 = .ok v w2 ∧ .returned v = Ending.returned (resV (encR Rt y)) ∧ w2 = w' := by
    intro hq a ha
    obtain ⟨y', hy, hr⟩ := resK_some P hq
    simp only [Option.some.injEq, Prod.mk.injEq] at hy
    obtain ⟨rfl, rfl⟩ := hy
    exact ⟨_, results_run P (hr a ha), rfl, rfl⟩
  cases e with
  | normal => exact ⟨.inl rfl, key hq⟩
  | ret => exact ⟨.inr rfl, key hq⟩
  | exit i => cases hq
  | goto l => cases hq
  | panic c => cases hq
  | outgrown => cases hq

theorem mk_funD {P : Program} {E : Env} {EQ : REnv} (hE : E.Ok P) (hQ : EQ.Ok P) (hm : P.follows .mixedOrders = true) {R : Rg} {O : List Nat → Option SE} {f : FuncId} {fn : Func} {body : Code} {Lp : Vars} (hf : FunFacts P f fn body Lp R) (hO : Orc P R body O) {Rt : List Ty} {S : TT Lp → World → Option (TR Rt × World)}
    (h : ∀ x w, exec P E EQ R O body [] (encs Lp x []) w (funK P fn.results.toList Rt) = S x w) (x : TT Lp) (u : FrameMode) (w : World) (y : TR Rt) (w2 : World) (hS : S x w = some (y, w2)) :
    CallsD P f (encA Lp x).toArray u w (fun e u' w3 => u' = u ∧ (e = .returned (resV (encR Rt y)) ∧ w3 = w2)) :=
  fun_callsD hf (exec_sound P E EQ hE hQ hm hO body [] _ w _ _ (subC_nil body) ((h x w).trans hS))

/-- a region that defers one call: ahead of it operations that leave the world as it is -/
def DefOk (P : Program) (Li : Vars) (R : Rg) (g : FuncId) (args : TT Li → List Value) (c : Code) : Prop :=
  ∀ (x : TT Li) (w : World) (a : Act), Agree (encs Li x []) a → Room R a →
    c.wp P (fun e a' w' => e = .normal ∧ w' = w ∧ ∃ b, a' = { b with defers := { target := .fn (.func g) #[], args := (args x).toArray } :: b.defers } ∧ Kept R a b ∧ Agree (encs Li x []) b) a w

theorem list_app0 {P : Program} {ops : Array Oper} {Q Q' : Exit → Act → World → Prop} (hl : ¬ LetsOut Q) (hp : ∀ c a w, ¬ Q (.panic c) a w) {rest : List Oper} (hn : ∀ a w, Q .normal a w → wpList P ops Q' rest a w) :
    ∀ (os : List Oper) (a : Act) (w : World), wpList P ops Q os a w → wpList P ops Q' (os ++ rest) a w
  | [], a, w, h => hn a w h
  | o :: os, a, w, h => by
    unfold wpList at h
    rw [List.cons_append]
    unfold wpList
    split
    · rename_i hw
      rw [if_pos hw] at h
      rcases h with h | h
      · refine .inl ?_
        unfold Oper.wp at h ⊢
        generalize (execOp a.eval o).run P w = r at h ⊢
        cases r with
        | ok x w' =>
          cases x <;> simp only [Oper.upon] at h ⊢ <;>
            first
              | exact list_app0 hl hp hn os _ _ h
              | exact Calls.mono h (fun e w'' he => by
                  cases e with
                  | returned v => exact list_app0 hl hp hn os _ _ he
                  | panicked c => exact absurd he (hp _ _ _)
                  | outgrown => exact absurd he hl)
              | exact Rows.mono h (fun _ _ he => list_app0 hl hp hn os _ _ he)
              | exact h
        | halt x w' => cases x <;> simp only [Oper.upon] at h ⊢ <;> first | exact absurd h (hp _ _ _) | exact h
      · exact absurd h.2 hl
    · rename_i hw
      rw [if_neg hw] at h
      exact list_app0 hl hp hn os _ w h

theorem mk_def {P : Program} {E : Env} {EQ : REnv} (hE : E.Ok P) (hQ : EQ.Ok P) {R : Rg} {Li : Vars} {g : FuncId} {ras : List Operand} {args : TT Li → List Value} {c : Code} {os : List Oper} {o : Oper} {ts : Array TypeId} (hc : regB false c = true) (ho : (opsOf c).toList = os ++ [o]) (hop : o.op = .defer { callee := .value (.func g), args := ras.toArray, argTypes := ts }) (hdst : o.dst = none) (hgd : o.guard = none)
    (h : ∀ x w, runOps P E EQ (opsOf c) R os (encs Li x []) w (fun φ w => match opds φ ras with | some vs => decsK Li φ fun y => some (vs, y, w) | none => none) = some (args x, x, w)) : DefOk P Li R g args c := by
  obtain ⟨id, hc⟩ := reg_eq hc
  intro x w a ha hr
  rw [hc]
  refine wp_region_list ?_
  rw [ho]
  have h1 := runOps_sound P E EQ hE hQ (ops := opsOf c) (R := R) (r := (args x, x, w)) (a0 := a) (Q := fun e φ w' => e = .normal ∧ opds φ ras = some (args x) ∧ (∀ a', Agree φ a' → Agree (encs Li x []) a') ∧ w' = w)
    (fun φ w' hh => by
      split at hh
      · rename_i vs hvs
        obtain ⟨y, hy, hy2⟩ := decsK_some hh
        have hy := Option.some.inj hy
        simp only [Prod.mk.injEq] at hy
        obtain ⟨rfl, rfl, rfl⟩ := hy
        exact ⟨rfl, hvs, hy2, rfl⟩
      · cases hh) os (encs Li x []) w a (h x w) ha hr (.refl R a)
  refine list_app0 (fun ⟨_, _, hh⟩ => by obtain ⟨_, _, _, h5, _⟩ := hh; cases h5) (fun _ _ _ hh => by obtain ⟨_, _, _, h5, _⟩ := hh; cases h5) (fun a' w' hp => ?_) os a w h1
  obtain ⟨hk, φ', hφ, _, hv, hag, rfl⟩ := hp
  obtain ⟨dst, op, ty, pos, aft, gd⟩ := o
  simp only at hop hdst hgd
  subst hop; subst hdst; subst hgd
  unfold wpList
  rw [if_pos (show Region.wanted _ _ = true from rfl)]
  refine .inl ?_
  have hargs : ras.toArray.map a'.eval = (args x).toArray := by
    apply Array.ext'
    rw [Array.toList_map, List.toList_toArray, opds_eval hφ hv]
  unfold Oper.wp
  have hx : (execOp a'.eval { dst := none, op := .defer { callee := .value (.func g), args := ras.toArray, argTypes := ts }, type := ty, pos := pos, after := aft, guard := none }).run P w' = .ok (.defer { target := .fn (.func g) #[], args := (args x).toArray }) w' := by
    rw [← hargs]
    simp [execOp, resolve, Deferred.ofValue, Act.eval]
  rw [hx, Oper.upon_defer]
  exact ⟨rfl, rfl, a', rfl, hk, hag a' hφ⟩

/-- what stands behind the front: the rest, the call that was deferred -/
def deferK {α ζ β : Type} (S2 : ζ → World → (Out Unit α → World → Option β) → Option β) (T : ζ → World → Option (Unit × World)) (k : α → World → Option β) : Out ζ α → World → Option β
  | .ret y, w1 => k y w1
  | .norm z, w1 => S2 z w1 fun o2 w2 => match o2 with
    | .ret y => bnd (T z w2) fun _ w3 => k y w3
    | .norm _ => none

/-- **a function that defers one call**: what stands ahead of it (S1), what stands behind it (S2), the call (T) -/
theorem mk_funDefer {P : Program} {E : Env} {EQ : REnv} (hE : E.Ok P) (hQ : EQ.Ok P) (hm : P.follows .mixedOrders = true) {R R2 R3 : Rg} {O : List Nat → Option SE} {n : Nat} {f : FuncId} {fn : Func} {body : Code} {Lp Lo Lr : Vars} (hf : FunFacts P f fn body Lp R) (hdeep : deepB n body = true) (hO : Orc P R (chainOf n body) O)
    {β : Type} {S1 : TT Lp → World → (Out (TT Lo) (TT Lr) → World → Option β) → Option β}
    (h1 : ∀ x w k, exec P E EQ R O (chainOf n body) [] (encs Lp x []) w (outCO Lo Lr k) = S1 x w k)
    {D B : Code} (hrest : restOf n body = .seq D B) {g : FuncId} {dargs : TT Lo → List Value} (hD : DefOk P Lo R2 g dargs D) (hR2 : ∀ t, inR R2 t = true → inR R t = true)
    {S2 : {β : Type} → TT Lo → World → (Out Unit (TT Lr) → World → Option β) → Option β} (h2 : StmtCOOk P Lo [] Lr R3 S2 B) (hR3 : ∀ t, inR R3 t = true → inR R t = true)
    {T : TT Lo → World → Option (Unit × World)} (hg : ∀ args w, (callFunc g args).run P w = .ok (.enter g args) w) (hT : ∀ x w w2, T x w = some ((), w2) → CallsD P g (dargs x).toArray .returning w fun e u' w3 => u' = .returning ∧ ((∃ v, e = .returned v) ∧ w3 = w2))
    {Rt : List Ty} {toR : TT Lr → TR Rt} (hres : ∀ y w, resK P (encs Lr y []) w fn.results.toList Rt some = some (toR y))
    (x : TT Lp) (w : World) (k : TR Rt → World → Option β) (r : β)
    (hS : S1 x w (deferK S2 T fun y w => k (toR y) w) = some r) :
    Calls P f (encA Lp x).toArray w (fun e w2 => ∃ y, e = .returned (resV (encR Rt y)) ∧ k y w2 = some r) := by
  refine calls_of_wp_defers hf.at_ hf.body ?_
  have hp := Nat.le_of_ble_eq_true hf.params
  have hlen : (encA Lp x).toArray.size = Lp.length := by simp [encA_length]
  have hsz : ((encA Lp x).toArray ++ Array.replicate (fn.ntmps - (encA Lp x).toArray.size) undef).size = fn.ntmps := by
    rw [Array.size_append, Array.size_replicate, hlen]; omega
  obtain ⟨a0, ha0⟩ : ∃ a0 : Act, ({ tmps := (encA Lp x).toArray ++ Array.replicate (fn.ntmps - (encA Lp x).toArray.size) undef, defers := [] } : Act) = a0 := ⟨_, rfl⟩
  have hag : Agree (encs Lp x []) a0 := by
    intro t v ht
    obtain ⟨_, h2⟩ := encs_args hf.slots x t v ht
    simp only [Nat.sub_zero] at h2
    have hlt : t < (encA Lp x).length := (List.getElem?_eq_some_iff.1 h2).1
    rw [← ha0]
    show ((encA Lp x).toArray ++ _)[t]? = some v
    rw [Array.getElem?_append_left (by simpa using hlt)]
    simpa using h2
  have hroom : Room R a0 := by
    intro t ht
    rw [← ha0]
    show t < _
    rw [hsz]; exact room_of hf.room ht
  have hd0 : a0.defers = [] := by rw [← ha0]
  rw [ha0]
  have hresults : ∀ (a : Act) (y : TT Lr) (w : World), Agree (encs Lr y []) a → (results fn a.tmps).run P w = .ok (resV (encR Rt (toR y))) w := fun a y w ha => by
    obtain ⟨y', hy, hr⟩ := resK_some P (hres y w)
    rw [← Option.some.inj hy]
    exact results_run P (hr a ha)
  refine chain_exec hE hQ hm hO n body [] (encs Lp x []) w a0 hdeep (subC_nil _) ((h1 x w _).trans hS) (Qf := bodyPostD P fn _) ?_ ?_ hag hroom (.refl R a0)
  · intro φ w1 a hk ha hr hkp
    obtain ⟨z, hz, hz2⟩ := decsK_some hk
    rw [hrest]
    have haz := hz2 a ha
    refine wp_seq (wp_mono (hD z w1 a haz fun t ht => hr t (hR2 t ht)) ?_)
    rintro e a' w' ⟨rfl, rfl, b, rfl, hkb, hab⟩
    simp only [Exit.then]
    have hb0 : b.defers = [] := by rw [hkb.defers, hkp.defers, hd0]
    refine wp_mono (h2 z w' _ r hz { b with defers := _ } hab fun t ht => ?_) ?_
    · have := hr t (hR3 t ht)
      show t < b.tmps.size
      rw [hkb.size]; exact this
    rintro e a2 w2 ⟨hk2, φ2, hφ2, hq2⟩
    have hds : a2.defers = [{ target := .fn (.func g) #[], args := (dargs z).toArray }] := by rw [hk2.defers, hb0]
    cases e with
    | ret =>
      obtain ⟨y, hy, hy2⟩ := decsK_some hq2
      obtain ⟨u, w3, hT1, hk3⟩ := bnd_some hy
      show Leaves P fn a2.tmps _ a2.defers .returning w2
      rw [hds]
      refine leaves_cons (f := g) (args := (dargs z).toArray) (by simp) (by simp [invoke, hg]) ?_
      refine (hT z w2 w3 hT1).mono ?_
      rintro e u' w4 ⟨rfl, ⟨v, rfl⟩, rfl⟩
      exact ⟨_, hresults a2 y w4 (hy2 a2 hφ2), toR y, rfl, hk3⟩
    | normal =>
      obtain ⟨y, hy, _⟩ := decsK_some hq2
      cases hy
    | exit id => cases hq2
    | goto l => cases hq2
    | panic c => cases hq2
    | outgrown => cases hq2
  · intro e φ w1 a hne hk ha hkp
    cases e with
    | normal => exact absurd rfl hne
    | ret =>
      obtain ⟨y, hy, hy2⟩ := decsK_some hk
      show Leaves P fn a.tmps _ a.defers .returning w1
      rw [hkp.defers, hd0]
      exact ⟨_, hresults a y w1 (hy2 a ha), toR y, rfl, hy⟩
    | exit id => cases hk
    | goto l => cases hk
    | panic c => cases hk
    | outgrown => cases hk

end Go.Fw

/- Pieces and loops with a way out of an outer block. -/
namespace Go.Fw

def outE (m : Nat) (Lo Lx : Vars) : Exit → Fr → World → Option (Out (TT Lo) (TT Lx) × World)
  | .normal, φ, w => decsK Lo φ fun y => some (.norm y, w)
  | .exit i, φ, w => bif Nat.beq i m then decsK Lx φ fun y => some (.ret y, w) else none
  | _, _, _ => none

def stmtE (m : Nat) (Li Lo Lx : Vars) (R : Rg) (S : TT Li → World → Option (Out (TT Lo) (TT Lx) × World)) : SE :=
  ⟨fun φ w K => decsK Li φ fun x => bnd (S x w) fun o w' => match o with
    | .norm y => K .normal (encs Lo y (mask R φ)) w'
    | .ret y => K (.exit m) (encs Lx y (mask R φ)) w'⟩

def StmtEOk (P : Program) (m : Nat) (Li Lo Lx : Vars) (R : Rg) (S : TT Li → World → Option (Out (TT Lo) (TT Lx) × World)) (c : Code) : Prop :=
  ∀ x w o w', S x w = some (o, w') → W P R c (fun e φ' w2 => outE m Lo Lx e φ' w2 = some (o, w')) (encs Li x []) w

theorem stmtE_ok {P : Program} {m : Nat} {Li Lo Lx : Vars} {R R' : Rg} {S : TT Li → World → Option (Out (TT Lo) (TT Lx) × World)} {c : Code} (h : StmtEOk P m Li Lo Lx R S c)
    (hR : ∀ t, inR R t = true → inR R' t = true) : (stmtE m Li Lo Lx R S).Ok P R' c := by
  intro β φ w K r hrun
  simp only [stmtE] at hrun
  obtain ⟨x, hrun, hx⟩ := decsK_some hrun
  obtain ⟨o, w1, hS, hrun⟩ := bnd_some hrun
  refine W.sub (R := R) ?_ hR
  intro a ha hr
  refine wp_mono (h x w o w1 hS a (hx a ha) hr) fun e a' w' ⟨hk, φ', hφ, hq⟩ => ?_
  cases e with
  | normal =>
    obtain ⟨y, hy, hy2⟩ := decsK_some hq
    simp only [Option.some.injEq, Prod.mk.injEq] at hy
    obtain ⟨rfl, rfl⟩ := hy
    exact ⟨hk, _, encs_mask (hy2 a' hφ) hk ha, hrun⟩
  | exit i =>
    simp only [outE] at hq
    by_cases hi : i = m
    · subst hi
      simp only [Nat.beq_refl, cond_true] at hq
      obtain ⟨y, hy, hy2⟩ := decsK_some hq
      simp only [Option.some.injEq, Prod.mk.injEq] at hy
      obtain ⟨rfl, rfl⟩ := hy
      exact ⟨hk, _, encs_mask (hy2 a' hφ) hk ha, hrun⟩
    · rw [beq_false_of_ne hi] at hq; cases hq
  | ret => cases hq
  | goto l => cases hq
  | panic c => cases hq
  | outgrown => cases hq

def loopE (id m : Nat) (Li Lo Lx : Vars) (rec : TT Li → World → Option (Out (TT Lo) (TT Lx) × World)) : Exit → Fr → World → Option (Out (TT Lo) (TT Lx) × World)
  | .normal, φ, w => decsK Li φ fun x => rec x w
  | .exit i, φ, w => bif Nat.beq i id then decsK Lo φ fun y => some (.norm y, w) else bif Nat.beq i m then decsK Lx φ fun y => some (.ret y, w) else none
  | _, _, _ => none

theorem loopE_ok {P : Program} {id m : Nat} {Li Lo Lx : Vars} {R : Rg} {body : Code} {S : Nat → TT Li → World → Option (Out (TT Lo) (TT Lx) × World)}
    (h0 : ∀ x w, S 0 x w = none)
    (h1 : ∀ k x w o w', S (k + 1) x w = some (o, w') → W P R body (fun e φ' w2 => loopE id m Li Lo Lx (S k) e φ' w2 = some (o, w')) (encs Li x []) w) (k : Nat) :
    StmtEOk P m Li Lo Lx R (S k) (.block id (.loop body)) := by
  intro x w o w' hS a ha hr
  refine wp_block ?_
  refine wp_loop_num (fun n b w1 => ∃ x, Agree (encs Li x []) b ∧ Kept R a b ∧ S n x w1 = some (o, w')) ?_ k a w ⟨x, ha, .refl R a, hS⟩
  rintro n b w1 ⟨x, hb, hk, hS⟩
  cases n with
  | zero => rw [h0] at hS; cases hS
  | succ n =>
    refine wp_mono (h1 n x w1 o w' hS b hb (hk.room hr)) fun e a' w2 ⟨hk', φ', hφ, hq⟩ => ?_
    cases e with
    | normal =>
      obtain ⟨y, hy, hy2⟩ := decsK_some hq
      exact ⟨n, Nat.lt_succ_self n, y, hy2 a' hφ, hk.trans hk', hy⟩
    | exit i =>
      simp only [loopE] at hq
      by_cases hi : i = id
      · subst hi
        simp only [Exit.then, Exit.inBlock, if_true]
        simp only [Nat.beq_refl, cond_true] at hq
        exact ⟨hk.trans hk', φ', hφ, by simpa [outE] using hq⟩
      · rw [beq_false_of_ne hi] at hq
        simp only [cond_false] at hq
        simp only [Exit.then, Exit.inBlock]
        rw [if_neg hi]
        exact ⟨hk.trans hk', φ', hφ, by simpa [outE] using hq⟩
    | ret => cases hq
    | goto l => cases hq
    | panic c => cases hq
    | outgrown => cases hq

theorem mk_loopE {P : Program} {E : Env} {EQ : REnv} (hE : E.Ok P) (hQ : EQ.Ok P) (hm : P.follows .mixedOrders = true) {R : Rg} {O : List Nat → Option SE} {root : Code} (hO : Orc P R root O) {id m : Nat} {Li Lo Lx : Vars} {S : Nat → TT Li → World → Option (Out (TT Lo) (TT Lx) × World)} {body : Code} {π : List Nat} (hc : subC root π = some body)
    (h0 : ∀ x w, S 0 x w = none) (h : ∀ k x w, exec P E EQ R O body π (encs Li x []) w (loopE id m Li Lo Lx (S k)) = S (k + 1) x w) (k : Nat) : StmtEOk P m Li Lo Lx R (S k) (.block id (.loop body)) :=
  loopE_ok h0 (fun k x w _ _ hS => exec_sound P E EQ hE hQ hm hO body π _ w _ _ hc ((h k x w).trans hS)) k

/-- a part of a tuple that some operation gave -/
def tupX {β : Type} (v : Value) (i : Nat) (K : Value → Option β) : Option β :=
  match v with
  | .tuple vs => match vs[i]? with
    | some x => K x
    | none => none
  | _ => none

/-- a function that leaves the world as it is, where any function is asked -/
def ceR (x : RE) : CE := ⟨fun args w K => x.run args w fun v => K v w⟩
theorem ceR_ok {P : Program} {f : FuncId} {x : RE} (h : x.Ok P f) : (ceR x).Ok P f := by
  intro β args w K r hrun
  obtain ⟨v, hk, hc⟩ := h args w _ r hrun
  rcases hc with hc | ⟨he, hc⟩
  · exact .inl ⟨v, w, hc, hk⟩
  · exact .inr ⟨w, he, hc.mono fun e w2 ⟨h1, h2⟩ => ⟨v, h1, by rw [h2]; exact hk⟩⟩

end Go.Fw

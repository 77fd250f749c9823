/- Functions: from the code's Lean function to what a call does; functions that leave the world as it is. -/
import Derived.Test.YtgmdbhckccmhjaaDoorFwF
namespace Go.Fw

abbrev TR : List Ty → Type
  | [] => Unit
  | t :: r => t.T × TR r

def encR : (l : List Ty) → TR l → List Value
  | [], _ => []
  | t :: r, x => t.enc x.1 :: encR r x.2

/-- what a call with these results hands back -/
def resV : List Value → Value
  | [v] => v
  | vs => .tuple vs.toArray

def encA : (l : Vars) → TT l → List Value
  | [], _ => []
  | p :: r, x => p.2.enc x.1 :: encA r x.2

def decA {β : Type} : (l : Vars) → List Value → (TT l → Option β) → Option β
  | [], [], k => k ()
  | p :: r, v :: vs, k => match p.2.dec v with
    | none => none
    | some x => decA r vs fun y => k (x, y)
  | _, _, _ => none

theorem decA_some {β : Type} : ∀ {l : Vars} {vs : List Value} {k : TT l → Option β} {r : β}, decA l vs k = some r → ∃ y, k y = some r ∧ vs = encA l y
  | [], [], k, r, h => ⟨(), h, rfl⟩
  | [], v :: vs, k, r, h => by simp [decA] at h
  | p :: l, [], k, r, h => by simp [decA] at h
  | p :: l, v :: vs, k, r, h => by
    simp only [decA] at h
    split at h
    · cases h
    · rename_i x hx
      obtain ⟨y, hk, hy⟩ := decA_some h
      exact ⟨(x, y), hk, by rw [hy, Ty.dec_eq hx]; rfl⟩

/-- one result -/
def resOne (tmps : Array Value) : ResultVar → Sem Value
  | .tmp t => pure (tmps.getD t undef)
  | .cell x t => do loadVar t (← asAddr (tmps.getD x undef))

theorem results_eq (fn : Func) (tmps : Array Value) : results fn tmps = (do
    let vs ← fn.results.mapM (resOne tmps)
    pure (if h : vs.size = 1 then vs[0] else .tuple vs)) := by
  unfold results
  congr 2

section
variable {β : Type} (P : Program)

/-- the results at a function's end -/
def resK (φ : Fr) (w : World) : List ResultVar → (l : List Ty) → (TR l → Option β) → Option β
  | [], [], k => k ()
  | .tmp t :: rs, ty :: ts, k => match get φ t with
    | none => none
    | some v => match ty.dec v with
      | none => none
      | some x => resK φ w rs ts fun y => k (x, y)
  | .cell a t :: rs, ty :: ts, k => match get φ a with
    | some (.pointer q) => q.bind fun p => ldK (P.underlying t) (P.cellsOf t) p w fun v => match ty.dec v with
      | none => none
      | some x => resK φ w rs ts fun y => k (x, y)
    | _ => none
  | _, _, _ => none

theorem resK_some {φ : Fr} {w : World} : ∀ {rs : List ResultVar} {l : List Ty} {k : TR l → Option β} {r : β}, resK P φ w rs l k = some r →
    ∃ y, k y = some r ∧ ∀ a, Agree φ a → (rs.mapM (resOne a.tmps)).run P w = .ok (encR l y) w
  | [], [], k, r, h => ⟨(), h, fun a ha => by simp [encR]⟩
  | [], _ :: _, k, r, h => by simp [resK] at h
  | .tmp _ :: _, [], k, r, h => by simp [resK] at h
  | .cell _ _ :: _, [], k, r, h => by simp [resK] at h
  | .tmp t :: rs, ty :: ts, k, r, h => by
    simp only [resK] at h
    split at h
    · cases h
    · rename_i v hv
      split at h
      · cases h
      · rename_i x hx
        obtain ⟨y, hk, hy⟩ := resK_some h
        refine ⟨(x, y), hk, fun a ha => ?_⟩
        have h1 : a.tmps.getD t undef = v := by simp [Array.getD_eq_getD_getElem?, ha t v hv]
        have h2 := hy a ha
        simp only [List.mapM_cons, Sem.run_bind, resOne, Sem.run_pure, Result.andThen_ok, h1, encR]
        rw [h2]
        simp [← Ty.dec_eq hx]
  | .cell c t :: rs, ty :: ts, k, r, h => by
    simp only [resK] at h
    split at h
    · rename_i q hq
      obtain ⟨p, hp, h2⟩ := bind_some h
      subst hp
      obtain ⟨v, h3, hr⟩ := ldK_run h2
      split at h3
      · cases h3
      · rename_i x hx
        obtain ⟨y, hk, hy⟩ := resK_some h3
        refine ⟨(x, y), hk, fun a ha => ?_⟩
        have h1 : a.tmps.getD c undef = .pointer (some p) := by simp [Array.getD_eq_getD_getElem?, ha c _ hq]
        have h2 := hy a ha
        have h4 : (asAddr (.pointer (some p))).run P w = .ok p w := rfl
        simp only [List.mapM_cons, Sem.run_bind, resOne, Sem.run_pure, Result.andThen_ok, h1, encR, h4, hr]
        rw [h2]
        simp [← Ty.dec_eq hx]
    · cases h

theorem results_run {fn : Func} {tmps : Array Value} {w : World} {vs : List Value}
    (h : (fn.results.toList.mapM (resOne tmps)).run P w = .ok vs w) :
    (results fn tmps).run P w = .ok (resV vs) w := by
  rw [results_eq, Array.mapM_eq_mapM_toList]
  simp only [Sem.run_bind, Sem.run_map]
  rw [h]
  simp only [Result.andThen_ok, Sem.run_pure]
  match vs with
  | [] => rfl
  | [v] => rfl
  | v :: u :: r => rfl

def funK (rs : List ResultVar) (l : List Ty) : Exit → Fr → World → Option (TR l × World)
  | .normal, φ, w => resK P φ w rs l fun y => some (y, w)
  | .ret, φ, w => resK P φ w rs l fun y => some (y, w)
  | _, _, _ => none

end

/-- the parameters lie in the first slots -/
def slotsB : Nat → Vars → Bool
  | _, [] => true
  | k, p :: r => Nat.beq p.1 k && slotsB (k + 1) r

theorem encs_args : ∀ {l : Vars} {k : Nat} (_ : slotsB k l = true) (x : TT l) (t : Nat) (v : Value), get (encs l x []) t = some v → k ≤ t ∧ (encA l x)[t - k]? = some v
  | [], k, _, x, t, v, h => by simp [encs, get] at h
  | p :: r, k, hs, x, t, v, h => by
    simp only [slotsB, Bool.and_eq_true] at hs
    have hp := Nat.eq_of_beq_eq_true hs.1
    simp only [encs] at h
    rw [get_v] at h
    by_cases e : p.1 = t
    · rw [if_pos e] at h
      have := Option.some.inj h; subst this
      exact ⟨by omega, by simp [encA, show t - k = 0 by omega]⟩
    · rw [if_neg e] at h
      obtain ⟨h1, h2⟩ := encs_args hs.2 x.2 t v h
      refine ⟨by omega, ?_⟩
      rw [show t - k = (t - (k + 1)) + 1 by omega]
      simpa [encA] using h2

def roomB (R : Rg) (n : Nat) : Bool := R.all fun p => Nat.ble p.2 n

theorem room_of {R : Rg} {n : Nat} (h : roomB R n = true) {t : Nat} (ht : inR R t = true) : t < n := by
  induction R with
  | nil => simp [inR] at ht
  | cons p r ih =>
    simp only [roomB, List.all_cons, Bool.and_eq_true] at h
    simp only [inR, Bool.or_eq_true, Bool.and_eq_true] at ht
    rcases ht with ht | ht
    · have h1 := Nat.le_of_ble_eq_true h.1
      have h2 := Nat.le_of_ble_eq_true ht.2
      omega
    · exact ih h.2 ht

/-- What is to be shown, once a function: the closed facts on its text. -/
structure FunFacts (P : Program) (f : FuncId) (fn : Func) (body : Code) (Lp : Vars) (R : Rg) : Prop where
  at_ : P.funcs[f]? = some fn
  body : fn.body = some body
  name : (fn.name == "runtime.NumGoroutine") = false
  slots : slotsB 0 Lp = true
  room : roomB R fn.ntmps = true
  params : Nat.ble Lp.length fn.ntmps = true

theorem FunFacts.enter {P : Program} {f : FuncId} {fn : Func} {body : Code} {Lp : Vars} {R : Rg} (h : FunFacts P f fn body Lp R) (args : Array Value) (w : World) :
    (callFunc f args).run P w = .ok (.enter f args) w := by
  have hn : ¬ fn.name = "runtime.NumGoroutine" := by simpa using h.name
  simp [callFunc, h.at_, hn, h.body]

theorem encA_length : ∀ {l : Vars} (x : TT l), (encA l x).length = l.length
  | [], _ => rfl
  | _ :: _, x => by simp [encA, encA_length x.2]

theorem FunFacts.calls {P : Program} {f : FuncId} {fn : Func} {body : Code} {Lp : Vars} {R : Rg} (h : FunFacts P f fn body Lp R) {x : TT Lp} {w : World} {Q : Exit → Fr → World → Prop}
    (hW : W P R body Q (encs Lp x []) w) {Rt : Ending → World → Prop}
    (hq : ∀ e φ w', Q e φ w' → (e = .normal ∨ e = .ret) ∧ ∀ a, Agree φ a → ∃ v, (results fn a.tmps).run P w' = .ok v w' ∧ Rt (.returned v) w') :
    Calls P f (encA Lp x).toArray w Rt := by
  refine calls_of_wp h.at_ h.body ?_
  have hp := Nat.le_of_ble_eq_true h.params
  have hlen : (encA Lp x).toArray.size = Lp.length := by simp [encA_length]
  have hsz : ((encA Lp x).toArray ++ Array.replicate (fn.ntmps - (encA Lp x).toArray.size) undef).size = fn.ntmps := by
    rw [Array.size_append, Array.size_replicate, hlen]; omega
  refine wp_mono (hW _ ?_ ?_) fun e a' w' ⟨hk, φ', hφ, hx⟩ => ?_
  · intro t v ht
    obtain ⟨_, h2⟩ := encs_args h.slots x t v ht
    simp only [Nat.sub_zero] at h2
    have hlt : t < (encA Lp x).length := (List.getElem?_eq_some_iff.1 h2).1
    show ((encA Lp x).toArray ++ _)[t]? = some v
    rw [Array.getElem?_append_left (by simpa using hlt)]
    simpa using h2
  · intro t ht
    rw [hsz]; exact room_of h.room ht
  · obtain ⟨he, hr⟩ := hq e φ' w' hx
    obtain ⟨v, hv, hR⟩ := hr a' hφ
    rcases he with rfl | rfl
    · exact ⟨hk.defers, v, hv, hR⟩
    · exact ⟨hk.defers, v, hv, hR⟩

/-- A function, by the Lean function of its parameters. -/
theorem fun_calls {P : Program} {f : FuncId} {fn : Func} {body : Code} {Lp : Vars} {R : Rg} (h : FunFacts P f fn body Lp R) {Rt : List Ty} {x : TT Lp} {w : World} {y : TR Rt} {w' : World}
    (hW : W P R body (fun e φ' w2 => funK P fn.results.toList Rt e φ' w2 = some (y, w')) (encs Lp x []) w) :
    Calls P f (encA Lp x).toArray w (fun e w2 => e = .returned (resV (encR Rt y)) ∧ w2 = w') := by
  refine h.calls hW fun e φ w2 hq => ?_
  have key : resK P φ w2 fn.results.toList Rt (fun y => some (y, w2)) = some (y, w') → ∀ a, Agree φ a → ∃ v, (results fn a.tmps).run P w2 = .ok v w2 ∧ .returned v = Ending.returned (resV (encR Rt y)) ∧ w2 = w' := by
    intro hq a ha
    obtain ⟨y', hy, hr⟩ := resK_some P hq
    simp only [Option.some.injEq, Prod.mk.injEq] at hy
    obtain ⟨rfl, rfl⟩ := hy
    exact ⟨_, results_run P (hr a ha), rfl, rfl⟩
  cases e with
  | normal => exact ⟨.inl rfl, key hq⟩
  | ret => exact ⟨.inr rfl, key hq⟩
  | exit i => cases hq
  | goto l => cases hq
  | panic c => cases hq
  | outgrown => cases hq

def funE (Lp : Vars) (Rt : List Ty) (S : TT Lp → World → Option (TR Rt × World)) : CE :=
  ⟨fun args w K => decA Lp args fun x => bnd (S x w) fun y w' => K (resV (encR Rt y)) w'⟩

theorem funE_ok {P : Program} {f : FuncId} {fn : Func} {body : Code} {Lp : Vars} {R : Rg} (h : FunFacts P f fn body Lp R) {Rt : List Ty} {S : TT Lp → World → Option (TR Rt × World)}
    (hS : ∀ x w y w', S x w = some (y, w') → Calls P f (encA Lp x).toArray w (fun e w2 => e = .returned (resV (encR Rt y)) ∧ w2 = w')) : (funE Lp Rt S).Ok P f := by
  intro β args w K r hrun
  simp only [funE] at hrun
  obtain ⟨x, hrun, hx⟩ := decA_some hrun
  obtain ⟨y, w1, h1, hrun⟩ := bnd_some hrun
  refine ⟨_, w1, hrun, .inr ⟨w, h.enter _ w, ?_⟩⟩
  rw [hx]
  exact hS x w y w1 h1

/-! ### Functions that leave the world as it is -/

structure SQ where
  run : {β : Type} → Fr → World → (Exit → Fr → Option β) → Option β

def SQ.Ok (P : Program) (R : Rg) (s : SQ) (c : Code) : Prop :=
  ∀ {β : Type} (φ : Fr) (w : World) (K : Exit → Fr → Option β) (r : β), s.run φ w K = some r → W P R c (fun e φ' w' => w' = w ∧ K e φ' = some r) φ w

section
variable {β : Type} (P : Program) (EQ : REnv)

def runQ (ops : Array Oper) (R : Rg) (w : World) : List Oper → Fr → (Fr → Option β) → Option β
  | [], φ, K => K φ
  | o :: rest, φ, K => guardK ops o.guard φ fun b φ => bif b then stepQ P EQ o φ w (fun v => putK R o.dst v φ fun φ' => runQ ops R w rest φ' K) none else putK R o.dst undef φ fun φ' => runQ ops R w rest φ' K

theorem DoesQ.wp {P : Program} {o : Oper} {φ : Fr} {w : World} {v : Value} (h : DoesQ P o φ w v) {a : Act} (ha : Agree φ a) {next : Act → World → Prop} {Q : Exit → Act → World → Prop}
    (hn : next (a.put o.dst v) w) : o.wp P a w next Q := h.does.wp ha hn

theorem runQ_sound (hQ : EQ.Ok P) {ops : Array Oper} {R : Rg} {w : World} {K : Fr → Option β} {r : β} {a0 : Act} {Q : Exit → Fr → World → Prop}
    (hK : ∀ φ, K φ = some r → Q .normal φ w) :
    ∀ (l : List Oper) (φ : Fr) (a : Act), runQ P EQ ops R w l φ K = some r → Agree φ a → Room R a → Kept R a0 a → wpList P ops (Post R a0 Q) l a w
  | [], φ, a, h, ha, _, hk => ⟨hk, φ, ha, hK φ h⟩
  | o :: rest, φ, a, h, ha, hr, hk => by
    refine wpList_step fun K' hK' => ?_
    simp only [runQ] at h
    obtain ⟨b, φ1, h, hb⟩ := guardK_some h
    obtain ⟨ha1, hw⟩ := hb a ha
    rw [hw]
    cases b with
    | true =>
      simp only [cond_true] at h
      rcases stepQ_some P hQ h with ⟨v, h, hd, _⟩ | h
      · obtain ⟨φ2, h, h2⟩ := putK_some h
        obtain ⟨h3, h4⟩ := h2 a ha1 hr
        simp only [if_true]
        exact hd.wp ha1 (hK' _ _ (runQ_sound hQ hK rest φ2 _ h h3 (h4.room hr) (hk.trans h4)))
      · cases h
    | false =>
      simp only [cond_false] at h
      obtain ⟨φ2, h, h2⟩ := putK_some h
      obtain ⟨h3, h4⟩ := h2 a ha1 hr
      simp only [Bool.false_eq_true, if_false]
      exact hK' _ _ (runQ_sound hQ hK rest φ2 _ h h3 (h4.room hr) (hk.trans h4))

def seqQ (K : Exit → Fr → Option β) (k : Fr → Option β) : Exit → Fr → Option β
  | .normal, φ => k φ
  | e, φ => K e φ

def blkQ (id : Nat) (K : Exit → Fr → Option β) : Exit → Fr → Option β
  | .exit i, φ => bif Nat.beq i id then K .normal φ else K (.exit i) φ
  | e, φ => K e φ

def execQ (R : Rg) (O : List Nat → Option SQ) (w : World) : Code → List Nat → Fr → (Exit → Fr → Option β) → Option β
  | .skip, _, φ, K => K .normal φ
  | .region _ ops draw, π, φ, K => match O π with
    | some s => s.run φ w K
    | none => bif draw then none else runQ P EQ ops R w ops.toList φ (K .normal)
  | .seq x y, π, φ, K => execQ R O w x (π ++ [0]) φ (seqQ K fun φ' => execQ R O w y (π ++ [1]) φ' K)
  | .cond c x y, π, φ, K => match O π with
    | some s => s.run φ w K
    | none => match opd φ c with
      | some (.bool b) => if b = true then execQ R O w x (π ++ [0]) (markB c true φ) K else execQ R O w y (π ++ [1]) (markB c false φ) K
      | _ => none
  | .block id c, π, φ, K => match O π with
    | some s => s.run φ w K
    | none => execQ R O w c (π ++ [0]) φ (blkQ id K)
  | .loop _, π, φ, K => match O π with
    | some s => s.run φ w K
    | none => none
  | .exit id, _, φ, K => K (.exit id) φ
  | .ret, _, φ, K => K .ret φ
  | _, _, _, _ => none

theorem execQ_sound (hQ : EQ.Ok P) {R : Rg} {O : List Nat → Option SQ} {root : Code} {w : World}
    (hO : ∀ π s, O π = some s → ∃ c, subC root π = some c ∧ s.Ok P R c) :
    ∀ (c : Code) (π : List Nat) (φ : Fr) (K : Exit → Fr → Option β) (r : β), subC root π = some c → execQ P EQ R O w c π φ K = some r →
      W P R c (fun e φ' w' => w' = w ∧ K e φ' = some r) φ w := by
  intro c
  have orc : ∀ {c : Code} {π : List Nat} {s : SQ}, subC root π = some c → O π = some s → s.Ok P R c := fun hc hs => by
    obtain ⟨c', h1, h2⟩ := hO _ _ hs
    rw [hc] at h1; rw [Option.some.inj h1]; exact h2
  induction c with
  | skip => intro π φ K r _ h; exact .skip ⟨rfl, h⟩
  | region id ops draw =>
    intro π φ K r hc h
    simp only [execQ] at h
    split at h
    · rename_i s hs; exact orc hc hs φ w K r h
    · cases draw with
      | true => simp at h
      | false =>
        simp only [cond_false] at h
        exact fun a ha hr => wp_region_list (runQ_sound P EQ hQ (fun φ h => ⟨rfl, h⟩) ops.toList φ a h ha hr (.refl R a))
  | seq x y ihx ihy =>
    intro π φ K r hc h
    simp only [execQ] at h
    have hx := ihx (π ++ [0]) φ _ r (by rw [subC_append, hc]; exact subC_seq0 x y) h
    refine .seq (hx.mono fun e φ' w' ⟨hw, hk⟩ => ?_)
    subst hw
    cases e with
    | normal => exact ihy (π ++ [1]) φ' K r (by rw [subC_append, hc]; exact subC_seq1 x y) hk
    | exit id => exact ⟨rfl, hk⟩
    | goto l => exact ⟨rfl, hk⟩
    | ret => exact ⟨rfl, hk⟩
    | panic c => exact ⟨rfl, hk⟩
    | outgrown => exact ⟨rfl, hk⟩
  | cond c x y ihx ihy =>
    intro π φ K r hc h
    simp only [execQ] at h
    split at h
    · rename_i s hs; exact orc hc hs φ w K r h
    · split at h
      · rename_i b hb
        refine .cond hb ?_
        cases b with
        | true => exact (ihx (π ++ [0]) _ K r (by rw [subC_append, hc]; exact subC_cond0 c x y) h).agree fun a ha => markB_agree ha hb
        | false => exact (ihy (π ++ [1]) _ K r (by rw [subC_append, hc]; exact subC_cond1 c x y) h).agree fun a ha => markB_agree ha hb
      · cases h
  | block id c ih =>
    intro π φ K r hc h
    simp only [execQ] at h
    split at h
    · rename_i s hs; exact orc hc hs φ w K r h
    · refine .block ((ih (π ++ [0]) φ _ r (by rw [subC_append, hc]; exact subC_block0 id c) h).mono fun e φ' w' ⟨hw, hk⟩ => ?_)
      cases e with
      | exit i =>
        simp only [blkQ] at hk
        simp only [blockQ]
        by_cases hi : i = id
        · subst hi; rw [if_pos rfl]; exact ⟨hw, by simpa [Nat.beq_refl] using hk⟩
        · rw [if_neg hi]; rw [beq_false_of_ne hi] at hk; exact ⟨hw, hk⟩
      | normal => exact ⟨hw, hk⟩
      | goto l => exact ⟨hw, hk⟩
      | ret => exact ⟨hw, hk⟩
      | panic c => exact ⟨hw, hk⟩
      | outgrown => exact ⟨hw, hk⟩
  | loop c _ =>
    intro π φ K r hc h
    simp only [execQ] at h
    split at h
    · rename_i s hs; exact orc hc hs φ w K r h
    · cases h
  | exit id => intro π φ K r _ h; exact .exit ⟨rfl, h⟩
  | ret => intro π φ K r _ h; exact .ret ⟨rfl, h⟩
  | rangeFunc _ _ _ _ _ _ => intro π φ K r _ h; simp [execQ] at h
  | scope _ _ => intro π φ K r _ h; simp [execQ] at h
  | label _ => intro π φ K r _ h; simp [execQ] at h
  | goto _ => intro π φ K r _ h; simp [execQ] at h
  | refuse _ => intro π φ K r _ h; simp [execQ] at h

end

def stmtQ (Li Lo Lr : Vars) (R : Rg) (S : TT Li → World → Option (Out (TT Lo) (TT Lr))) : SQ :=
  ⟨fun φ w K => decsK Li φ fun x => (S x w).bind fun o => match o with
    | .norm y => K .normal (encs Lo y (mask R φ))
    | .ret y => K .ret (encs Lr y (mask R φ))⟩

def outQ (Lo Lr : Vars) : Exit → Fr → Option (Out (TT Lo) (TT Lr))
  | .normal, φ => decsK Lo φ fun y => some (.norm y)
  | .ret, φ => decsK Lr φ fun y => some (.ret y)
  | _, _ => none

def StmtQOk (P : Program) (Li Lo Lr : Vars) (R : Rg) (S : TT Li → World → Option (Out (TT Lo) (TT Lr))) (c : Code) : Prop :=
  ∀ x w o, S x w = some o → W P R c (fun e φ' w2 => w2 = w ∧ outQ Lo Lr e φ' = some o) (encs Li x []) w

theorem stmtQ_ok {P : Program} {Li Lo Lr : Vars} {R R' : Rg} {S : TT Li → World → Option (Out (TT Lo) (TT Lr))} {c : Code} (h : StmtQOk P Li Lo Lr R S c)
    (hR : ∀ t, inR R t = true → inR R' t = true) : (stmtQ Li Lo Lr R S).Ok P R' c := by
  intro β φ w K r hrun
  simp only [stmtQ] at hrun
  obtain ⟨x, hrun, hx⟩ := decsK_some hrun
  obtain ⟨o, hS, hrun⟩ := bind_some hrun
  refine W.sub (R := R) ?_ hR
  intro a ha hr
  refine wp_mono (h x w o hS a (hx a ha) hr) fun e a' w' ⟨hk, φ', hφ, hw, hq⟩ => ?_
  cases e with
  | normal =>
    obtain ⟨y, hy, hy2⟩ := decsK_some hq
    have := Option.some.inj hy; subst this
    exact ⟨hk, _, encs_mask (hy2 a' hφ) hk ha, hw, hrun⟩
  | ret =>
    obtain ⟨y, hy, hy2⟩ := decsK_some hq
    have := Option.some.inj hy; subst this
    exact ⟨hk, _, encs_mask (hy2 a' hφ) hk ha, hw, hrun⟩
  | exit id => cases hq
  | goto l => cases hq
  | panic c => cases hq
  | outgrown => cases hq

def loopQ (id : Nat) (Li Lo Lr : Vars) (rec : TT Li → Option (Out (TT Lo) (TT Lr))) : Exit → Fr → Option (Out (TT Lo) (TT Lr))
  | .normal, φ => decsK Li φ fun x => rec x
  | .ret, φ => decsK Lr φ fun y => some (.ret y)
  | .exit i, φ => bif Nat.beq i id then decsK Lo φ fun y => some (.norm y) else none
  | _, _ => none

theorem loopQ_ok {P : Program} {id : Nat} {Li Lo Lr : Vars} {R : Rg} {body : Code} {S : Nat → TT Li → World → Option (Out (TT Lo) (TT Lr))}
    (h0 : ∀ x w, S 0 x w = none)
    (h1 : ∀ k x w o, S (k + 1) x w = some o → W P R body (fun e φ' w2 => w2 = w ∧ loopQ id Li Lo Lr (fun x => S k x w) e φ' = some o) (encs Li x []) w) (k : Nat) :
    StmtQOk P Li Lo Lr R (S k) (.block id (.loop body)) := by
  intro x w o hS a ha hr
  refine wp_block ?_
  refine wp_loop_num (fun n b w1 => w1 = w ∧ ∃ x, Agree (encs Li x []) b ∧ Kept R a b ∧ S n x w = some o) ?_ k a w ⟨rfl, x, ha, .refl R a, hS⟩
  rintro n b w1 ⟨rfl, x, hb, hk, hS⟩
  cases n with
  | zero => rw [h0] at hS; cases hS
  | succ n =>
    refine wp_mono (h1 n x w1 o hS b hb (hk.room hr)) fun e a' w2 ⟨hk', φ', hφ, hw, hq⟩ => ?_
    cases e with
    | normal =>
      obtain ⟨y, hy, hy2⟩ := decsK_some hq
      exact ⟨n, Nat.lt_succ_self n, hw, y, hy2 a' hφ, hk.trans hk', hy⟩
    | ret => exact ⟨hk.trans hk', φ', hφ, hw, hq⟩
    | exit i =>
      simp only [loopQ] at hq
      by_cases hi : i = id
      · subst hi
        simp only [Exit.then, Exit.inBlock, if_true]
        simp only [Nat.beq_refl, cond_true] at hq
        exact ⟨hk.trans hk', φ', hφ, hw, by simpa [outQ] using hq⟩
      · rw [beq_false_of_ne hi] at hq; cases hq
    | goto l => cases hq
    | panic c => cases hq
    | outgrown => cases hq

def funQK (P : Program) (w : World) (rs : List ResultVar) (l : List Ty) : Exit → Fr → Option (TR l)
  | .normal, φ => resK P φ w rs l fun y => some y
  | .ret, φ => resK P φ w rs l fun y => some y
  | _, _ => none

theorem funQ_calls {P : Program} {f : FuncId} {fn : Func} {body : Code} {Lp : Vars} {R : Rg} (h : FunFacts P f fn body Lp R) {Rt : List Ty} {x : TT Lp} {w : World} {y : TR Rt}
    (hW : W P R body (fun e φ' w2 => w2 = w ∧ funQK P w fn.results.toList Rt e φ' = some y) (encs Lp x []) w) :
    Calls P f (encA Lp x).toArray w (fun e w2 => e = .returned (resV (encR Rt y)) ∧ w2 = w) := by
  refine h.calls hW fun e φ w2 ⟨hw, hq⟩ => ?_
  subst hw
  have key : resK P φ w2 fn.results.toList Rt (fun y => some y) = some y → ∀ a, Agree φ a → ∃ v, (results fn a.tmps).run P w2 = .ok v w2 ∧ .returned v = Ending.returned (resV (encR Rt y)) ∧ w2 = w2 := by
    intro hq a ha
    obtain ⟨y', hy, hr⟩ := resK_some P hq
    have := Option.some.inj hy; subst this
    exact ⟨_, results_run P (hr a ha), rfl, rfl⟩
  cases e with
  | normal => exact ⟨.inl rfl, key hq⟩
  | ret => exact ⟨.inr rfl, key hq⟩
  | exit i => cases hq
  | goto l => cases hq
  | panic c => cases hq
  | outgrown => cases hq

def funR (Lp : Vars) (Rt : List Ty) (S : TT Lp → World → Option (TR Rt)) : RE :=
  ⟨fun args w K => decA Lp args fun x => (S x w).bind fun y => K (resV (encR Rt y))⟩

theorem funR_ok {P : Program} {f : FuncId} {fn : Func} {body : Code} {Lp : Vars} {R : Rg} (h : FunFacts P f fn body Lp R) {Rt : List Ty} {S : TT Lp → World → Option (TR Rt)}
    (hS : ∀ x w y, S x w = some y → Calls P f (encA Lp x).toArray w (fun e w2 => e = .returned (resV (encR Rt y)) ∧ w2 = w)) : (funR Lp Rt S).Ok P f := by
  intro β args w K r hrun
  simp only [funR] at hrun
  obtain ⟨x, hrun, hx⟩ := decA_some hrun
  obtain ⟨y, h1, hrun⟩ := bind_some hrun
  refine ⟨_, hrun, .inr ⟨h.enter _ w, ?_⟩⟩
  rw [hx]
  exact hS x w y h1

/-! ### Tables of what is known -/

/-- a table by number -/
def tab.{u} {α : Type u} : List (Nat × α) → Nat → Option α
  | [], _ => none
  | p :: r, n => bif Nat.beq p.1 n then some p.2 else tab r n

theorem tab_some.{u} {α : Type u} {Q : Nat → α → Prop} : ∀ {l : List (Nat × α)} (_ : ∀ p ∈ l, Q p.1 p.2) {n : Nat} {x : α}, tab l n = some x → Q n x
  | p :: r, h, n, x, hx => by
    simp only [tab] at hx
    cases hb : Nat.beq p.1 n with
    | true =>
      rw [hb] at hx
      simp only [cond_true] at hx
      rw [← Nat.eq_of_beq_eq_true hb, ← Option.some.inj hx]
      exact h p (by simp)
    | false =>
      rw [hb] at hx
      simp only [cond_false] at hx
      exact tab_some (fun q hq => h q (by simp [hq])) hx

/-- a table by place -/
def beqL : List Nat → List Nat → Bool
  | [], [] => true
  | a :: r, b :: s => Nat.beq a b && beqL r s
  | _, _ => false
theorem beqL_eq : ∀ {a b : List Nat}, beqL a b = true → a = b
  | [], [], _ => rfl
  | [], _ :: _, h => by cases h
  | _ :: _, [], h => by cases h
  | x :: r, y :: s, h => by
    simp only [beqL, Bool.and_eq_true] at h
    rw [Nat.eq_of_beq_eq_true h.1, beqL_eq h.2]
def tabL.{u} {α : Type u} : List (List Nat × α) → List Nat → Option α
  | [], _ => none
  | p :: r, n => bif beqL p.1 n then some p.2 else tabL r n

theorem tabL_some.{u} {α : Type u} {Q : List Nat → α → Prop} : ∀ {l : List (List Nat × α)} (_ : ∀ p ∈ l, Q p.1 p.2) {n : List Nat} {x : α}, tabL l n = some x → Q n x
  | p :: r, h, n, x, hx => by
    simp only [tabL] at hx
    cases hb : beqL p.1 n with
    | true =>
      rw [hb] at hx
      simp only [cond_true] at hx
      rw [← beqL_eq hb, ← Option.some.inj hx]
      exact h p (by simp)
    | false =>
      rw [hb] at hx
      simp only [cond_false] at hx
      exact tabL_some (fun q hq => h q (by simp [hq])) hx

/-- every stretch of R lies in one of R' -/
def subRB (R R' : Rg) : Bool := R.all fun p => R'.any fun q => Nat.ble q.1 p.1 && Nat.ble p.2 q.2
theorem subR_of {R R' : Rg} (h : subRB R R' = true) : ∀ t, inR R t = true → inR R' t = true := by
  intro t ht
  induction R with
  | nil => simp [inR] at ht
  | cons p r ih =>
    simp only [subRB, List.all_cons, Bool.and_eq_true] at h
    simp only [inR, Bool.or_eq_true, Bool.and_eq_true] at ht
    rcases ht with ht | ht
    · have h1 := h.1
      clear ih h
      induction R' with
      | nil => simp at h1
      | cons q s ih2 =>
        simp only [List.any_cons, Bool.or_eq_true, Bool.and_eq_true] at h1
        simp only [inR, Bool.or_eq_true, Bool.and_eq_true]
        rcases h1 with h1 | h1
        · refine .inl ⟨?_, ?_⟩
          · exact Nat.ble_eq_true_of_le (Nat.le_trans (Nat.le_of_ble_eq_true h1.1) (Nat.le_of_ble_eq_true ht.1))
          · exact Nat.ble_eq_true_of_le (Nat.le_trans (Nat.le_of_ble_eq_true ht.2) (Nat.le_of_ble_eq_true h1.2))
        · exact .inr (ih2 h1)
    · exact ih h.2 ht

/-! ### The tables' own lemmas -/

theorem Env.nil (P : Program) : Env.Ok P (tab []) := fun f c h => by simp [tab] at h
theorem Env.cons {P : Program} {f : Nat} {c : CE} {l : List (Nat × CE)} (h : c.Ok P f) (hl : Env.Ok P (tab l)) : Env.Ok P (tab ((f, c) :: l)) := fun g d hd => by
  simp only [tab] at hd
  cases hb : Nat.beq f g with
  | true => rw [hb] at hd; rw [← Nat.eq_of_beq_eq_true hb, ← Option.some.inj hd]; exact h
  | false => rw [hb] at hd; exact hl g d hd
theorem REnv.nil (P : Program) : REnv.Ok P (tab []) := fun f c h => by simp [tab] at h
theorem REnv.cons {P : Program} {f : Nat} {c : RE} {l : List (Nat × RE)} (h : c.Ok P f) (hl : REnv.Ok P (tab l)) : REnv.Ok P (tab ((f, c) :: l)) := fun g d hd => by
  simp only [tab] at hd
  cases hb : Nat.beq f g with
  | true => rw [hb] at hd; rw [← Nat.eq_of_beq_eq_true hb, ← Option.some.inj hd]; exact h
  | false => rw [hb] at hd; exact hl g d hd

def Orc (P : Program) (R : Rg) (root : Code) (O : List Nat → Option SE) : Prop := ∀ π s, O π = some s → ∃ c, subC root π = some c ∧ s.Ok P R c
theorem Orc.nil (P : Program) (R : Rg) (root : Code) : Orc P R root (tabL []) := fun f c h => by simp [tabL] at h
theorem Orc.cons {P : Program} {R : Rg} {root : Code} {π : List Nat} {s : SE} {c : Code} {l : List (List Nat × SE)} (hc : subC root π = some c) (h : s.Ok P R c) (hl : Orc P R root (tabL l)) :
    Orc P R root (tabL ((π, s) :: l)) := fun g d hd => by
  simp only [tabL] at hd
  cases hb : beqL π g with
  | true => rw [hb] at hd; rw [← beqL_eq hb, ← Option.some.inj hd]; exact ⟨c, hc, h⟩
  | false => rw [hb] at hd; exact hl g d hd

def OrcQ (P : Program) (R : Rg) (root : Code) (O : List Nat → Option SQ) : Prop := ∀ π s, O π = some s → ∃ c, subC root π = some c ∧ s.Ok P R c
theorem OrcQ.nil (P : Program) (R : Rg) (root : Code) : OrcQ P R root (tabL []) := fun f c h => by simp [tabL] at h
theorem OrcQ.cons {P : Program} {R : Rg} {root : Code} {π : List Nat} {s : SQ} {c : Code} {l : List (List Nat × SQ)} (hc : subC root π = some c) (h : s.Ok P R c) (hl : OrcQ P R root (tabL l)) :
    OrcQ P R root (tabL ((π, s) :: l)) := fun g d hd => by
  simp only [tabL] at hd
  cases hb : beqL π g with
  | true => rw [hb] at hd; rw [← beqL_eq hb, ← Option.some.inj hd]; exact ⟨c, hc, h⟩
  | false => rw [hb] at hd; exact hl g d hd

/-- the code at a place -/
def cd (c : Code) (π : List Nat) : Code := (subC c π).getD .skip
def bodyOf (fn : Func) : Code := fn.body.getD .skip

/-! ### The theorems that a printed text calls -/


theorem mk_stmtN {P : Program} {E : Env} {EQ : REnv} (hE : E.Ok P) (hQ : EQ.Ok P) (hm : P.follows .mixedOrders = true) {R : Rg} {O : List Nat → Option SE} {root : Code} (hO : Orc P R root O) {Li Lo : Vars} {S : TT Li → World → Option (TT Lo × World)} {c : Code} {π : List Nat} (hc : subC root π = some c)
    (h : ∀ x w, exec P E EQ R O c π (encs Li x []) w (outN Lo) = S x w) : StmtNOk P Li Lo R S c := fun x w o w' hS =>
  exec_sound P E EQ hE hQ hm hO c π _ w _ _ hc ((h x w).trans hS)

theorem mk_stmt {P : Program} {E : Env} {EQ : REnv} (hE : E.Ok P) (hQ : EQ.Ok P) (hm : P.follows .mixedOrders = true) {R : Rg} {O : List Nat → Option SE} {root : Code} (hO : Orc P R root O) {Li Lo Lr : Vars} {S : TT Li → World → Option (Out (TT Lo) (TT Lr) × World)} {c : Code} {π : List Nat} (hc : subC root π = some c)
    (h : ∀ x w, exec P E EQ R O c π (encs Li x []) w (outK Lo Lr) = S x w) : StmtOk P Li Lo Lr R S c := fun x w o w' hS =>
  exec_sound P E EQ hE hQ hm hO c π _ w _ _ hc ((h x w).trans hS)

theorem mk_loopN {P : Program} {E : Env} {EQ : REnv} (hE : E.Ok P) (hQ : EQ.Ok P) (hm : P.follows .mixedOrders = true) {R : Rg} {O : List Nat → Option SE} {root : Code} (hO : Orc P R root O) {id : Nat} {Li Lo : Vars} {S : Nat → TT Li → World → Option (TT Lo × World)} {body : Code} {π : List Nat} (hc : subC root π = some body)
    (h0 : ∀ x w, S 0 x w = none) (h : ∀ k x w, exec P E EQ R O body π (encs Li x []) w (loopN id Li Lo (S k)) = S (k + 1) x w) (k : Nat) : StmtNOk P Li Lo R (S k) (.block id (.loop body)) :=
  loopN_ok h0 (fun k x w _ _ hS => exec_sound P E EQ hE hQ hm hO body π _ w _ _ hc ((h k x w).trans hS)) k

theorem mk_loop {P : Program} {E : Env} {EQ : REnv} (hE : E.Ok P) (hQ : EQ.Ok P) (hm : P.follows .mixedOrders = true) {R : Rg} {O : List Nat → Option SE} {root : Code} (hO : Orc P R root O) {id : Nat} {Li Lo Lr : Vars} {S : Nat → TT Li → World → Option (Out (TT Lo) (TT Lr) × World)} {body : Code} {π : List Nat} (hc : subC root π = some body)
    (h0 : ∀ x w, S 0 x w = none) (h : ∀ k x w, exec P E EQ R O body π (encs Li x []) w (loopK id Li Lo Lr (S k)) = S (k + 1) x w) (k : Nat) : StmtOk P Li Lo Lr R (S k) (.block id (.loop body)) :=
  loop_ok h0 (fun k x w _ _ hS => exec_sound P E EQ hE hQ hm hO body π _ w _ _ hc ((h k x w).trans hS)) k

theorem mk_fun {P : Program} {E : Env} {EQ : REnv} (hE : E.Ok P) (hQ : EQ.Ok P) (hm : P.follows .mixedOrders = true) {R : Rg} {O : List Nat → Option SE} {f : FuncId} {fn : Func} {body : Code} {Lp : Vars} (hf : FunFacts P f fn body Lp R) (hO : Orc P R body O) {Rt : List Ty} {S : TT Lp → World → Option (TR Rt × World)}
    (h : ∀ x w, exec P E EQ R O body [] (encs Lp x []) w (funK P fn.results.toList Rt) = S x w) (x : TT Lp) (w : World) (y : TR Rt) (w' : World) (hS : S x w = some (y, w')) :
    Calls P f (encA Lp x).toArray w (fun e w2 => e = .returned (resV (encR Rt y)) ∧ w2 = w') :=
  fun_calls hf (exec_sound P E EQ hE hQ hm hO body [] _ w _ _ (subC_nil body) ((h x w).trans hS))

theorem mk_loopQ {P : Program} {EQ : REnv} (hQ : EQ.Ok P) {R : Rg} {root : Code} {id : Nat} {Li Lo Lr : Vars} {S : Nat → TT Li → World → Option (Out (TT Lo) (TT Lr))} {body : Code} {π : List Nat} {O : List Nat → Option SQ} (hO : OrcQ P R root O) (hc : subC root π = some body)
    (h0 : ∀ x w, S 0 x w = none) (h : ∀ k x w, execQ P EQ R O w body π (encs Li x []) (loopQ id Li Lo Lr (fun x => S k x w)) = S (k + 1) x w) (k : Nat) : StmtQOk P Li Lo Lr R (S k) (.block id (.loop body)) :=
  loopQ_ok h0 (fun k x w _ hS => execQ_sound P EQ hQ hO body π _ _ _ hc ((h k x w).trans hS)) k

theorem mk_stmtQ {P : Program} {EQ : REnv} (hQ : EQ.Ok P) {R : Rg} {root : Code} {Li Lo Lr : Vars} {S : TT Li → World → Option (Out (TT Lo) (TT Lr))} {c : Code} {π : List Nat} {O : List Nat → Option SQ} (hO : OrcQ P R root O) (hc : subC root π = some c)
    (h : ∀ x w, execQ P EQ R O w c π (encs Li x []) (outQ Lo Lr) = S x w) : StmtQOk P Li Lo Lr R S c := fun x w _ hS =>
  execQ_sound P EQ hQ hO c π _ _ _ hc ((h x w).trans hS)

theorem mk_funQ {P : Program} {EQ : REnv} (hQ : EQ.Ok P) {R : Rg} {O : List Nat → Option SQ} {f : FuncId} {fn : Func} {body : Code} {Lp : Vars} (hf : FunFacts P f fn body Lp R) (hO : OrcQ P R body O) {Rt : List Ty} {S : TT Lp → World → Option (TR Rt)}
    (h : ∀ x w, execQ P EQ R O w body [] (encs Lp x []) (funQK P w fn.results.toList Rt) = S x w) (x : TT Lp) (w : World) (y : TR Rt) (hS : S x w = some y) :
    Calls P f (encA Lp x).toArray w (fun e w2 => e = .returned (resV (encR Rt y)) ∧ w2 = w) :=
  funQ_calls hf (execQ_sound P EQ hQ hO body [] _ _ _ (subC_nil body) ((h x w).trans hS))

end Go.Fw

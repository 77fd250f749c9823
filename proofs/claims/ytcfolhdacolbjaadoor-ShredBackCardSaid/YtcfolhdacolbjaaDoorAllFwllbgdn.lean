/- Texts of this claim, put together: FwU, FwV -/
import Derived.Test.YtcfolhdacolbjaaDoorAllFwfmlfdo
import Derived.RangeFuncNested
import Derived.RangeFuncLeaves
import Derived.RangeFuncCalls
import Derived.OwnWalkIn
/- Regions within a round of a range over a function: what the framework finds of a region holds of it there too. -/
namespace Go.Fw

/-- what a round of a range over a function does -/
def roundOf : Code → Code
  | .rangeFunc _ _ _ b => b
  | _ => .skip

/-- what it does with what it is handed -/
def assignOf : Code → Code
  | .rangeFunc _ _ a _ => a
  | _ => .skip

/-- the wide fence, in a round or in none -/
def fen (ro : Option Nat) : Fence := { Fence.wide with round := ro }
theorem fen_round (l : Nat) : Fence.wide.inRound l = fen (some l) := rfl
theorem fen_none : Fence.wide = fen none := rfl

theorem fen_room (ro : Option Nat) (n : Nat) : (fen ro).room n := room_wide n
theorem callsIn_fen {ro : Option Nat} {n : Nat} {P : Program} {f : FuncId} {args : Array Value} {w : World} {R : Ending → World → Prop} : CallsIn (fen ro) n P f args w R ↔ Calls P f args w R := callsIn_wide (n := n)

theorem rowsIn_fen {ro : Option Nat} {n : Nat} {P : Program} {row : String} {args : Array Value} {w : World} {R : Value → World → Prop} (h : Rows P row args w R) : RowsIn (fen ro) n P row args w R := fun c cs _ => by
  obtain ⟨v, w', r, s⟩ := h c cs
  exact ⟨v, w', r, stepsIn_wide.2 s⟩

theorem upon_in {P : Program} {o : Oper} {a : Act} {next : Act → World → Prop} {Q : Exit → Act → World → Prop} {n : Nat} {ro : Option Nat} {r : Result Next} (h : o.upon P a next Q r) : o.uponIn (fen ro) n P a next Q r := by
  cases r with
  | ok x w' =>
    cases x <;> simp only [Oper.upon, Oper.uponIn] at h ⊢ <;>
      first
        | exact h
        | exact ⟨fun h => (by cases h), callsIn_fen.2 h⟩
        | exact ⟨fun h => (by cases h), rowsIn_fen h⟩
        | exact h.elim
  | halt x w' => cases x <;> simp only [Oper.upon, Oper.uponIn] at h ⊢ <;> exact h

theorem wp_in {P : Program} {o : Oper} {a : Act} {w : World} {next : Act → World → Prop} {Q : Exit → Act → World → Prop} {n : Nat} {ro : Option Nat} (hd : ∀ c, o.op ≠ .defer c) (h : o.wp P a w next Q) : o.wpIn (fen ro) n P a w next Q := by
  refine ⟨fun _ _ => trivial, ?_⟩
  rw [Oper.semAt_eq _ _ _ hd]
  exact upon_in h

theorem list_in {P : Program} {ops : Array Oper} {Q : Exit → Act → World → Prop} {n : Nat} {ro : Option Nat} (hl : ¬ LetsOut Q) : ∀ (os : List Oper) (a : Act) (w : World), (∀ o ∈ os, ∀ c, o.op ≠ .defer c) → wpList P ops Q os a w → wpListIn (fen ro) n P ops Q os a w
  | [], _, _, _, h => h
  | o :: os, a, w, hd, h => by
    unfold wpList at h
    unfold wpListIn
    have hd' : ∀ o ∈ os, ∀ c, o.op ≠ .defer c := fun o ho => hd o (by simp [ho])
    split
    · rename_i hw
      rw [if_pos hw] at h
      rcases h with h | h
      · refine Oper.wpIn_mono (fun a w h => list_in hl os a w hd' h) (wp_in (hd o (by simp)) h)
      · exact absurd h.2 hl
    · rename_i hw
      rw [if_neg hw] at h
      exact ⟨fun _ _ => trivial, list_in hl os _ w hd' h⟩

/-- the front of a list, and what stands behind it -/
theorem list_app {P : Program} {ops : Array Oper} {Q Q' : Exit → Act → World → Prop} {n : Nat} {ro : Option Nat} (hl : ¬ LetsOut Q') (hp : ∀ c a w, ¬ Q' (.panic c) a w) {rest : List Oper} (hn : ∀ a w, Q' .normal a w → wpListIn (fen ro) n P ops Q rest a w) :
    ∀ (os : List Oper) (a : Act) (w : World), (∀ o ∈ os, ∀ c, o.op ≠ .defer c) → wpList P ops Q' os a w → wpListIn (fen ro) n P ops Q (os ++ rest) a w
  | [], a, w, _, h => hn a w h
  | o :: os, a, w, hd, h => by
    unfold wpList at h
    rw [List.cons_append]
    unfold wpListIn
    have hd' : ∀ o ∈ os, ∀ c, o.op ≠ .defer c := fun o ho => hd o (by simp [ho])
    split
    · rename_i hw
      rw [if_pos hw] at h
      rcases h with h | h
      · refine ⟨fun _ _ => trivial, ?_⟩
        rw [Oper.semAt_eq _ _ _ (hd o (by simp))]
        have h2 := upon_in (n := n) (ro := ro) h
        generalize (execOp a.eval o).run P w = r at h2 ⊢
        cases r with
        | ok x w' =>
          cases x <;> simp only [Oper.uponIn] at h2 ⊢ <;>
            first
              | exact list_app hl hp hn os _ _ hd' h2
              | exact ⟨h2.1, CallsIn.mono h2.2 (fun e w'' he => by
                  cases e with
                  | returned v => exact list_app hl hp hn os _ _ hd' he
                  | panicked c => exact absurd he (hp _ _ _)
                  | outgrown => exact absurd he hl)⟩
              | exact ⟨h2.1, RowsIn.mono h2.2 (fun _ _ he => list_app hl hp hn os _ _ hd' he)⟩
              | exact ⟨h2.1, RoundIn.mono h2.2 (fun e w'' he => by
                  cases e with
                  | returned v => exact list_app hl hp hn os _ _ hd' he
                  | panicked c => exact absurd he (hp _ _ _)
                  | outgrown => exact absurd he hl)⟩
              | exact h2
        | halt x w' =>
          cases x <;> simp only [Oper.uponIn] at h2 ⊢ <;> first | exact absurd h2 (hp _ _ _) | exact h2
      · exact absurd h.2 hl
    · rename_i hw
      rw [if_neg hw] at h
      exact ⟨fun _ _ => trivial, list_app hl hp hn os _ w hd' h⟩

theorem op_in {P : Program} {ops : Array Oper} {Q : Exit → Act → World → Prop} {n : Nat} {ro : Option Nat} (hl : ¬ LetsOut Q) (hd : ∀ (i : Nat) (o : Oper), ops[i]? = some o → ∀ c, o.op ≠ .defer c) {i : Nat} {K K' : Act → World → Prop} (hK : ∀ a w, K a w → K' a w) {a : Act} {w : World} (h : wpOp P ops Q i K a w) : wpOpIn (fen ro) n P ops Q i K' a w := by
  unfold wpOp at h
  unfold wpOpIn
  cases ho : ops[i]? with
  | none => rw [ho] at h; exact hK _ _ h
  | some o =>
    rw [ho] at h
    simp only at h ⊢
    split
    · rename_i hw
      rw [if_pos hw] at h
      rcases h with h | h
      · exact Oper.wpIn_mono hK (wp_in (hd i o ho) h)
      · exact absurd h.2 hl
    · rename_i hw
      rw [if_neg hw] at h
      exact ⟨fun _ _ => trivial, hK _ _ h⟩

theorem any_in {P : Program} {ops : Array Oper} {md : Region.Mode} {Q : Exit → Act → World → Prop} {n : Nat} {ro : Option Nat} (hl : ¬ LetsOut Q) (hd : ∀ (i : Nat) (o : Oper), ops[i]? = some o → ∀ c, o.op ≠ .defer c) : ∀ (f : Nat) (listed : Array Bool) (a : Act) (w : World), wpAny P md ops Q f listed a w → wpAnyIn (fen ro) n P md ops Q f listed a w
  | 0, _, _, _, h => h
  | f + 1, listed, a, w, h => ⟨h.1, fun i hi => op_in hl hd (fun a w h => any_in hl hd f _ a w h) (h.2 i hi)⟩

def deferB : Op → Bool
  | .defer _ => true
  | _ => false
def noDefer (ops : Array Oper) : Bool := ops.toList.all fun o => !deferB o.op
theorem noDefer_list {ops : Array Oper} (h : noDefer ops = true) : ∀ o ∈ ops.toList, ∀ c, o.op ≠ .defer c := fun o ho c e => by
  have := List.all_eq_true.1 h o ho
  rw [e] at this; cases this
theorem noDefer_at {ops : Array Oper} (h : noDefer ops = true) (i : Nat) (o : Oper) (ho : ops[i]? = some o) : ∀ c, o.op ≠ .defer c :=
  noDefer_list h o (by
    obtain ⟨hi, e⟩ := Array.getElem?_eq_some_iff.1 ho
    rw [← e]
    exact Array.mem_toList_iff.2 (Array.getElem_mem hi))

/-- what is asked behind a region: that it ends so -/
def PostN (R : Rg) (a : Act) (Q : Fr → World → Prop) : Exit → Act → World → Prop
  | .normal, a', w' => Kept R a a' ∧ ∃ φ', Agree φ' a' ∧ Q φ' w'
  | _, _, _ => False

theorem postN_out {R : Rg} {a : Act} {Q : Fr → World → Prop} : ¬ LetsOut (PostN R a Q) := fun ⟨_, _, h⟩ => h
theorem postN_of {R : Rg} {a : Act} {Q : Fr → World → Prop} (e : Exit) (a' : Act) (w' : World) (h : Post R a (fun e φ w => e = .normal ∧ Q φ w) e a' w') : PostN R a Q e a' w' := by
  obtain ⟨hk, φ', hφ, he, hq⟩ := h
  subst he
  exact ⟨hk, φ', hφ, hq⟩

theorem wpOp_monoQ {P : Program} {ops : Array Oper} {Q Q' : Exit → Act → World → Prop} (hq : ∀ e a w, Q e a w → Q' e a w) {i : Nat} {K K' : Act → World → Prop} (hK : ∀ a w, K a w → K' a w) {a : Act} {w : World} (h : wpOp P ops Q i K a w) : wpOp P ops Q' i K' a w := by
  have hup : ∀ (o : Oper) (r : Result Next), o.upon P a K Q r → o.upon P a K' Q' r := fun o r h => by
    cases r with
    | ok x w' =>
      cases x <;> simp only [Oper.upon] at h ⊢ <;>
        first
          | exact hK _ _ h
          | exact Calls.mono h (fun e w'' he => by cases e <;> first | exact hK _ _ he | exact hq _ _ _ he | exact he.imp fun _ h => h.imp fun _ h => hq _ _ _ h)
          | exact Rows.mono h (fun _ _ he => hK _ _ he)
          | exact h
    | halt x w' => cases x <;> simp only [Oper.upon] at h ⊢ <;> first | exact hq _ _ _ h | exact h
  unfold wpOp at h ⊢
  split
  · rename_i ho; rw [ho] at h; exact hK _ _ h
  · rename_i o ho
    rw [ho] at h
    simp only at h
    split
    · rename_i hw
      rw [if_pos hw] at h
      rcases h with h | ⟨h1, h2⟩
      · exact .inl (hup o _ h)
      · exact .inr ⟨h1, h2.imp fun _ h => h.imp fun _ h => hq _ _ _ h⟩
    · rename_i hw
      rw [if_neg hw] at h
      exact hK _ _ h

theorem wpAny_monoQ {P : Program} {md : Region.Mode} {ops : Array Oper} {Q Q' : Exit → Act → World → Prop} (hq : ∀ e a w, Q e a w → Q' e a w) : ∀ (f : Nat) (listed : Array Bool) (a : Act) (w : World), wpAny P md ops Q f listed a w → wpAny P md ops Q' f listed a w
  | 0, _, _, _, h => ⟨h.1, hq _ _ _ h.2⟩
  | f + 1, listed, a, w, h => ⟨fun h0 => hq _ _ _ (h.1 h0), fun i hi => wpOp_monoQ hq (fun a w h => wpAny_monoQ hq f _ a w h) (h.2 i hi)⟩

/-- a region in the text's order, in a round -/
def StmtNIn (P : Program) (Li Lo : Vars) (R : Rg) (S : TT Li → World → Option (TT Lo × World)) (c : Code) : Prop :=
  ∀ (x : TT Li) (w : World) (y : TT Lo) (w2 : World), S x w = some (y, w2) → ∀ (ro : Option Nat) (n : Nat) (a : Act), Agree (encs Li x []) a → Room R a →
    c.wpIn (fen ro) n P (PostN R a fun φ' w' => (∀ a', Agree φ' a' → Agree (encs Lo y []) a') ∧ w' = w2) a w

theorem outN_normal {Lo : Vars} {φ : Fr} {w w2 : World} {y : TT Lo} (h : outN Lo .normal φ w = some (y, w2)) : (∀ a', Agree φ a' → Agree (encs Lo y []) a') ∧ w = w2 := by
  unfold outN at h
  obtain ⟨y', h1, h2⟩ := decsK_some h
  have h1 := Option.some.inj h1
  obtain ⟨rfl, rfl⟩ := Prod.mk.inj h1
  exact ⟨h2, rfl⟩

theorem agree_nil (a : Act) : Agree [] a := fun t x h => by simp [get] at h
theorem agree_cons {φ : Fr} {a : Act} {t : Nat} {v : Value} (hv : a.tmps[t]? = some v) (h : Agree φ a) : Agree (.v t v :: φ) a := by
  intro u x hu
  rw [get_v] at hu
  by_cases e : t = u
  · subst e; rw [if_pos rfl] at hu; rw [← Option.some.inj hu]; exact hv
  · rw [if_neg e] at hu; exact h u x hu

def opsOf : Code → Array Oper
  | .region _ ops _ => ops
  | _ => #[]
def regB (d : Bool) : Code → Bool
  | .region _ _ b => b == d
  | _ => false
theorem reg_eq {d : Bool} {c : Code} (h : regB d c = true) : ∃ id, c = .region id (opsOf c) d := by
  cases c <;> simp only [regB, beq_iff_eq] at h <;> first | cases h; exact ⟨_, rfl⟩ | cases h

theorem mk_regIn {P : Program} {E : Env} {EQ : REnv} (hE : E.Ok P) (hQ : EQ.Ok P) {R : Rg} {Li Lo : Vars} {S : TT Li → World → Option (TT Lo × World)} {c : Code} (hc : regB false c = true) (hd : noDefer (opsOf c) = true)
    (h : ∀ x w, runOps P E EQ (opsOf c) R (opsOf c).toList (encs Li x []) w (outN Lo .normal) = S x w) : StmtNIn P Li Lo R S c := by
  obtain ⟨id, hc⟩ := reg_eq hc
  intro x w y w2 hS ro n a ha hr
  rw [hc]
  refine wpIn_region_list (list_in postN_out _ a w (noDefer_list hd) ?_)
  have h1 := runOps_sound P E EQ hE hQ (ops := opsOf c) (R := R) (K := outN Lo .normal) (r := (y, w2)) (a0 := a) (Q := fun e φ w => e = .normal ∧ ((∀ a', Agree φ a' → Agree (encs Lo y []) a') ∧ w = w2))
    (fun φ w hh => ⟨rfl, outN_normal hh⟩) (opsOf c).toList (encs Li x []) w a ((h x w).trans hS) ha hr (.refl R a)
  exact wpList_monoQ (fun e a' w' hh => postN_of e a' w' hh) _ a w h1
where
  wpList_monoQ {P : Program} {ops : Array Oper} {Q Q' : Exit → Act → World → Prop} (hq : ∀ e a w, Q e a w → Q' e a w) : ∀ (l : List Oper) (a : Act) (w : World), wpList P ops Q l a w → wpList P ops Q' l a w
    | [], _, _, h => hq _ _ _ h
    | o :: l, a, w, h => by
      have hh : wpOp P #[o] Q 0 (wpList P ops Q l) a w ∨ True := .inr trivial
      have hup : ∀ (r : Result Next), o.upon P a (wpList P ops Q l) Q r → o.upon P a (wpList P ops Q' l) Q' r := fun r h => by
        cases r with
        | ok x w' =>
          cases x <;> simp only [Oper.upon] at h ⊢ <;>
            first
              | exact wpList_monoQ hq l _ _ h
              | exact Calls.mono h (fun e w'' he => by cases e <;> first | exact wpList_monoQ hq l _ _ he | exact hq _ _ _ he | exact he.imp fun _ h => h.imp fun _ h => hq _ _ _ h)
              | exact Rows.mono h (fun _ _ he => wpList_monoQ hq l _ _ he)
              | exact h
        | halt x w' => cases x <;> simp only [Oper.upon] at h ⊢ <;> first | exact hq _ _ _ h | exact h
      unfold wpList at h ⊢
      split
      · rename_i hw
        rw [if_pos hw] at h
        rcases h with h | ⟨h1, h2⟩
        · exact .inl (hup _ h)
        · exact .inr ⟨h1, h2.imp fun _ h => h.imp fun _ h => hq _ _ _ h⟩
      · rename_i hw
        rw [if_neg hw] at h
        exact wpList_monoQ hq l _ _ h

/-- the front of a region: so many operations -/
def FrontIn (P : Program) (Li Lo : Vars) (R : Rg) (S : TT Li → World → Option (TT Lo × World)) (c : Code) (k : Nat) : Prop :=
  ∀ (x : TT Li) (w : World) (y : TT Lo) (w2 : World), S x w = some (y, w2) → ∀ (ro : Option Nat) (n : Nat) (a : Act), Agree (encs Li x []) a → Room R a → ∀ (Q : Exit → Act → World → Prop),
    (∀ a', Kept R a a' → Agree (encs Lo y []) a' → wpListIn (fen ro) n P (opsOf c) Q ((opsOf c).toList.drop k) a' w2) → c.wpIn (fen ro) n P Q a w

theorem mk_frontIn {P : Program} {E : Env} {EQ : REnv} (hE : E.Ok P) (hQ : EQ.Ok P) {R : Rg} {Li Lo : Vars} {S : TT Li → World → Option (TT Lo × World)} {c : Code} {k : Nat} (hc : regB false c = true) (hd : noDefer (opsOf c) = true)
    (h : ∀ x w, runOps P E EQ (opsOf c) R ((opsOf c).toList.take k) (encs Li x []) w (outN Lo .normal) = S x w) : FrontIn P Li Lo R S c k := by
  obtain ⟨id, hc⟩ := reg_eq hc
  intro x w y w2 hS ro n a ha hr Q hn
  rw [hc]
  refine wpIn_region_list ?_
  have h1 := runOps_sound P E EQ hE hQ (ops := opsOf c) (R := R) (K := outN Lo .normal) (r := (y, w2)) (a0 := a) (Q := fun e φ w => e = .normal ∧ ((∀ a', Agree φ a' → Agree (encs Lo y []) a') ∧ w = w2))
    (fun φ w hh => ⟨rfl, outN_normal hh⟩) ((opsOf c).toList.take k) (encs Li x []) w a ((h x w).trans hS) ha hr (.refl R a)
  have h2 := list_app (n := n) (ro := ro) (Q := Q) (fun ⟨_, _, hh⟩ => by obtain ⟨_, _, _, h5, _⟩ := hh; cases h5) (fun _ _ _ hh => by obtain ⟨_, _, _, h5, _⟩ := hh; cases h5) (rest := (opsOf c).toList.drop k) (fun a' w' hp => by
    obtain ⟨hk, φ', hφ, _, hag, rfl⟩ := hp
    exact hn a' hk (hag a' hφ)) _ a w (fun o ho => noDefer_list hd o (List.mem_of_mem_take ho)) h1
  rwa [List.take_append_drop] at h2

theorem mk_drawIn {P : Program} {E : Env} {EQ : REnv} (hE : E.Ok P) (hQ : EQ.Ok P) (hm : P.follows .mixedOrders = true) {R : Rg} {Li Lo : Vars} {S : TT Li → World → Option (TT Lo × World)} {c : Code} (hc : regB true c = true) (hd : noDefer (opsOf c) = true) (hs : Region.noSelect (opsOf c) = true)
    (h : ∀ x w, drawK P E EQ (opsOf c) R (opsOf c).size (Array.replicate (opsOf c).size false) (encs Li x []) w.drew (outN Lo .normal) = S x w) : StmtNIn P Li Lo R S c := by
  obtain ⟨id, hc⟩ := reg_eq hc
  intro x w y w2 hS ro n a ha hr
  rw [hc]
  refine wpIn_region_any hm (any_in postN_out (noDefer_at hd) _ _ a _ ?_)
  have h1 := AnyQ.any P EQ _ _ _ (drawK_sound P E EQ hE hQ hs (R := R) (K := outN Lo .normal) (r := (y, w2)) (a0 := a) (Q := fun e φ w => e = .normal ∧ ((∀ a', Agree φ a' → Agree (encs Lo y []) a') ∧ w = w2))
    (fun φ w hh => ⟨rfl, outN_normal hh⟩) (fun c φ w hh => by cases hh.1) (opsOf c).size _ (encs Li x []) w.drew a (by simp) ((h x w).trans hS) ha hr (.refl R a))
  exact wpAny_monoQ (fun e a' w' hh => postN_of e a' w' hh) _ _ a _ h1

end Go.Fw

/- Functions that defer one call. -/
namespace Go.Fw

/-- the first pieces of a row of pieces -/
def chainOf : Nat → Code → Code
  | n + 1, .seq a b => .seq a (chainOf n b)
  | _, _ => .skip
/-- what stands behind them -/
def restOf : Nat → Code → Code
  | n + 1, .seq _ b => restOf n b
  | _, c => c
def deepB : Nat → Code → Bool
  | 0, _ => true
  | n + 1, .seq _ b => deepB n b
  | _, _ => false

theorem chain_exec {P : Program} {E : Env} {EQ : REnv} (hE : E.Ok P) (hQ : EQ.Ok P) (hm : P.follows .mixedOrders = true) {R : Rg} {O : List Nat → Option SE} {root : Code} (hO : Orc P R root O) {β : Type} {K : Exit → Fr → World → Option β} {r : β} {a0 : Act} {Qf : Exit → Act → World → Prop} :
    ∀ (n : Nat) (c : Code) (π : List Nat) (φ : Fr) (w : World) (a : Act), deepB n c = true → subC root π = some (chainOf n c) → exec P E EQ R O (chainOf n c) π φ w K = some r →
      (∀ φ w a, K .normal φ w = some r → Agree φ a → Room R a → Kept R a0 a → (restOf n c).wp P Qf a w) →
      (∀ e φ w a, e ≠ .normal → K e φ w = some r → Agree φ a → Kept R a0 a → Qf e a w) →
      Agree φ a → Room R a → Kept R a0 a → c.wp P Qf a w
  | 0, c, π, φ, w, a, _, _, h, hX, _, ha, hr, hk => by
    have h : K .normal φ w = some r := h
    exact hX φ w a h ha hr hk
  | n + 1, .seq x y, π, φ, w, a, hd, hc, h, hX, hK, ha, hr, hk => by
    have hc : subC root π = some (.seq x (chainOf n y)) := hc
    have h : exec P E EQ R O x (π ++ [0]) φ w (seqK K fun φ' w' => exec P E EQ R O (chainOf n y) (π ++ [1]) φ' w' K) = some r := h
    have hx := exec_sound P E EQ hE hQ hm hO x (π ++ [0]) φ w _ r (by rw [subC_append, hc]; exact subC_seq0 x _) h
    refine wp_seq (wp_mono (hx a ha hr) fun e a' w' ⟨hk', φ', hφ, hq⟩ => ?_)
    cases e with
    | normal => exact chain_exec hE hQ hm hO n y (π ++ [1]) φ' w' a' hd (by rw [subC_append, hc]; exact subC_seq1 x _) hq hX hK hφ (hk'.room hr) (hk.trans hk')
    | exit id => exact hK _ φ' w' a' (by simp) hq hφ (hk.trans hk')
    | goto l => exact hK _ φ' w' a' (by simp) hq hφ (hk.trans hk')
    | ret => exact hK _ φ' w' a' (by simp) hq hφ (hk.trans hk')
    | panic c => exact hK _ φ' w' a' (by simp) hq hφ (hk.trans hk')
    | outgrown => exact hK _ φ' w' a' (by simp) hq hφ (hk.trans hk')
  | n + 1, .skip, _, _, _, _, hd, _, _, _, _, _, _, _ => by cases hd
  | n + 1, .region _ _ _, _, _, _, _, hd, _, _, _, _, _, _, _ => by cases hd
  | n + 1, .cond _ _ _, _, _, _, _, hd, _, _, _, _, _, _, _ => by cases hd
  | n + 1, .block _ _, _, _, _, _, hd, _, _, _, _, _, _, _ => by cases hd
  | n + 1, .loop _, _, _, _, _, hd, _, _, _, _, _, _, _ => by cases hd
  | n + 1, .rangeFunc _ _ _ _, _, _, _, _, hd, _, _, _, _, _, _, _ => by cases hd
  | n + 1, .exit _, _, _, _, _, hd, _, _, _, _, _, _, _ => by cases hd
  | n + 1, .scope _, _, _, _, _, hd, _, _, _, _, _, _, _ => by cases hd
  | n + 1, .label _, _, _, _, _, hd, _, _, _, _, _, _, _ => by cases hd
  | n + 1, .goto _, _, _, _, _, hd, _, _, _, _, _, _, _ => by cases hd
  | n + 1, .ret, _, _, _, _, hd, _, _, _, _, _, _, _ => by cases hd
  | n + 1, .refuse _, _, _, _, _, hd, _, _, _, _, _, _, _ => by cases hd

/-- what is called when a function is left -/
theorem FunFacts.callsD {P : Program} {f : FuncId} {fn : Func} {body : Code} {Lp : Vars} {R : Rg} (h : FunFacts P f fn body Lp R) {x : TT Lp} {u : FrameMode} {w : World} {Q : Exit → Fr → World → Prop}
    (hW : W P R body Q (encs Lp x []) w) {Rt : Ending → World → Prop}
    (hq : ∀ e φ w', Q e φ w' → (e = .normal ∨ e = .ret) ∧ ∀ a, Agree φ a → ∃ v, (results fn a.tmps).run P w' = .ok v w' ∧ Rt (.returned v) w') :
    CallsD P f (encA Lp x).toArray u w fun e u' w' => u' = u ∧ Rt e w' := by
  refine callsD_of_wp h.at_ h.body ?_
  have hp := Nat.le_of_ble_eq_true h.params
  have hlen : (encA Lp x).toArray.size = Lp.length := by simp [encA_length]
  have hsz : ((encA Lp x).toArray ++ Array.replicate (fn.ntmps - (encA Lp x).toArray.size) undef).size = fn.ntmps := by
    rw [Array.size_append, Array.size_replicate, hlen]; omega
  refine wp_mono (hW _ ?_ ?_) fun e a' w' ⟨hk, φ', hφ, hx⟩ => ?_
  · intro t v ht
    obtain ⟨_, h2⟩ := encs_args h.slots x t v ht
    simp only [Nat.sub_zero] at h2
    have hlt : t < (encA Lp x).length := (List.getElem?_eq_some_iff.1 h2).1
    show ((encA Lp x).toArray ++ _)[t]? = some v
    rw [Array.getElem?_append_left (by simpa using hlt)]
    simpa using h2
  · intro t ht
    rw [hsz]; exact room_of h.room ht
  · obtain ⟨he, hr⟩ := hq e φ' w' hx
    obtain ⟨v, hv, hR⟩ := hr a' hφ
    rcases he with rfl | rfl
    · exact ⟨hk.defers, v, hv, hR⟩
    · exact ⟨hk.defers, v, hv, hR⟩

theorem fun_callsD {P : Program} {f : FuncId} {fn : Func} {body : Code} {Lp : Vars} {R : Rg} (h : FunFacts P f fn body Lp R) {Rt : List Ty} {x : TT Lp} {u : FrameMode} {w : World} {y : TR Rt} {w' : World}
    (hW : W P R body (fun e φ' w2 => funK P fn.results.toList Rt e φ' w2 = some (y, w')) (encs Lp x []) w) :
    CallsD P f (encA Lp x).toArray u w (fun e u' w2 => u' = u ∧ (e = .returned (resV (encR Rt y)) ∧ w2 = w')) := by
  refine h.callsD hW fun e φ w2 hq => ?_
  have key : resK P φ w2 fn.results.toList Rt (fun y => some (y, w2)) = some (y, w') → ∀ a, Agree φ a → ∃ v, (results fn a.tmps).run P w2 = .ok v w2 ∧ .returned v = Ending.returned (resV (encR Rt y)) ∧ w2 = w' := by
    intro hq a ha
    obtain ⟨y', hy, hr⟩ := resK_some P hq
    simp only [Option.some.injEq, Prod.mk.injEq] at hy
    obtain ⟨rfl, rfl⟩ := hy
    exact ⟨_, results_run P (hr a ha), rfl, rfl⟩
  cases e with
  | normal => exact ⟨.inl rfl, key hq⟩
  | ret => exact ⟨.inr rfl, key hq⟩
  | exit i => cases hq
  | goto l => cases hq
  | panic c => cases hq
  | outgrown => cases hq

theorem mk_funD {P : Program} {E : Env} {EQ : REnv} (hE : E.Ok P) (hQ : EQ.Ok P) (hm : P.follows .mixedOrders = true) {R : Rg} {O : List Nat → Option SE} {f : FuncId} {fn : Func} {body : Code} {Lp : Vars} (hf : FunFacts P f fn body Lp R) (hO : Orc P R body O) {Rt : List Ty} {S : TT Lp → World → Option (TR Rt × World)}
    (h : ∀ x w, exec P E EQ R O body [] (encs Lp x []) w (funK P fn.results.toList Rt) = S x w) (x : TT Lp) (u : FrameMode) (w : World) (y : TR Rt) (w2 : World) (hS : S x w = some (y, w2)) :
    CallsD P f (encA Lp x).toArray u w (fun e u' w3 => u' = u ∧ (e = .returned (resV (encR Rt y)) ∧ w3 = w2)) :=
  fun_callsD hf (exec_sound P E EQ hE hQ hm hO body [] _ w _ _ (subC_nil body) ((h x w).trans hS))

/-- a region that defers one call: ahead of it operations that leave the world as it is -/
def DefOk (P : Program) (Li : Vars) (R : Rg) (g : FuncId) (args : TT Li → List Value) (c : Code) : Prop :=
  ∀ (x : TT Li) (w : World) (a : Act), Agree (encs Li x []) a → Room R a →
    c.wp P (fun e a' w' => e = .normal ∧ w' = w ∧ ∃ b, a' = { b with defers := { target := .fn (.func g) #[], args := (args x).toArray } :: b.defers } ∧ Kept R a b ∧ Agree (encs Li x []) b) a w

theorem list_app0 {P : Program} {ops : Array Oper} {Q Q' : Exit → Act → World → Prop} (hl : ¬ LetsOut Q) (hp : ∀ c a w, ¬ Q (.panic c) a w) {rest : List Oper} (hn : ∀ a w, Q .normal a w → wpList P ops Q' rest a w) :
    ∀ (os : List Oper) (a : Act) (w : World), wpList P ops Q os a w → wpList P ops Q' (os ++ rest) a w
  | [], a, w, h => hn a w h
  | o :: os, a, w, h => by
    unfold wpList at h
    rw [List.cons_append]
    unfold wpList
    split
    · rename_i hw
      rw [if_pos hw] at h
      rcases h with h | h
      · refine .inl ?_
        unfold Oper.wp at h ⊢
        generalize (execOp a.eval o).run P w = r at h ⊢
        cases r with
        | ok x w' =>
          cases x <;> simp only [Oper.upon] at h ⊢ <;>
            first
              | exact list_app0 hl hp hn os _ _ h
              | exact Calls.mono h (fun e w'' he => by
                  cases e with
                  | returned v => exact list_app0 hl hp hn os _ _ he
                  | panicked c => exact absurd he (hp _ _ _)
                  | outgrown => exact absurd he hl)
              | exact Rows.mono h (fun _ _ he => list_app0 hl hp hn os _ _ he)
              | exact h
        | halt x w' => cases x <;> simp only [Oper.upon] at h ⊢ <;> first | exact absurd h (hp _ _ _) | exact h
      · exact absurd h.2 hl
    · rename_i hw
      rw [if_neg hw] at h
      exact list_app0 hl hp hn os _ w h

theorem mk_def {P : Program} {E : Env} {EQ : REnv} (hE : E.Ok P) (hQ : EQ.Ok P) {R : Rg} {Li : Vars} {g : FuncId} {ras : List Operand} {args : TT Li → List Value} {c : Code} {os : List Oper} {o : Oper} {ts : Array TypeId} (hc : regB false c = true) (ho : (opsOf c).toList = os ++ [o]) (hop : o.op = .defer { callee := .value (.func g), args := ras.toArray, argTypes := ts }) (hdst : o.dst = none) (hgd : o.guard = none)
    (h : ∀ x w, runOps P E EQ (opsOf c) R os (encs Li x []) w (fun φ w => match opds φ ras with | some vs => decsK Li φ fun y => some (vs, y, w) | none => none) = some (args x, x, w)) : DefOk P Li R g args c := by
  obtain ⟨id, hc⟩ := reg_eq hc
  intro x w a ha hr
  rw [hc]
  refine wp_region_list ?_
  rw [ho]
  have h1 := runOps_sound P E EQ hE hQ (ops := opsOf c) (R := R) (r := (args x, x, w)) (a0 := a) (Q := fun e φ w' => e = .normal ∧ opds φ ras = some (args x) ∧ (∀ a', Agree φ a' → Agree (encs Li x []) a') ∧ w' = w)
    (fun φ w' hh => by
      split at hh
      · rename_i vs hvs
        obtain ⟨y, hy, hy2⟩ := decsK_some hh
        have hy := Option.some.inj hy
        simp only [Prod.mk.injEq] at hy
        obtain ⟨rfl, rfl, rfl⟩ := hy
        exact ⟨rfl, hvs, hy2, rfl⟩
      · cases hh) os (encs Li x []) w a (h x w) ha hr (.refl R a)
  refine list_app0 (fun ⟨_, _, hh⟩ => by obtain ⟨_, _, _, h5, _⟩ := hh; cases h5) (fun _ _ _ hh => by obtain ⟨_, _, _, h5, _⟩ := hh; cases h5) (fun a' w' hp => ?_) os a w h1
  obtain ⟨hk, φ', hφ, _, hv, hag, rfl⟩ := hp
  obtain ⟨dst, op, ty, pos, aft, gd⟩ := o
  simp only at hop hdst hgd
  subst hop; subst hdst; subst hgd
  unfold wpList
  rw [if_pos (show Region.wanted _ _ = true from rfl)]
  refine .inl ?_
  have hargs : ras.toArray.map a'.eval = (args x).toArray := by
    apply Array.ext'
    rw [Array.toList_map, List.toList_toArray, opds_eval hφ hv]
  unfold Oper.wp
  have hx : (execOp a'.eval { dst := none, op := .defer { callee := .value (.func g), args := ras.toArray, argTypes := ts }, type := ty, pos := pos, after := aft, guard := none }).run P w' = .ok (.defer { target := .fn (.func g) #[], args := (args x).toArray }) w' := by
    rw [← hargs]
    simp [execOp, resolve, Deferred.ofValue, Act.eval]
  rw [hx, Oper.upon_defer]
  exact ⟨rfl, rfl, a', rfl, hk, hag a' hφ⟩

/-- what stands behind the front: the rest, the call that was deferred -/
def deferK {α ζ β : Type} (S2 : ζ → World → (Out Unit α → World → Option β) → Option β) (T : ζ → World → Option (Unit × World)) (k : α → World → Option β) : Out ζ α → World → Option β
  | .ret y, w1 => k y w1
  | .norm z, w1 => S2 z w1 fun o2 w2 => match o2 with
    | .ret y => bnd (T z w2) fun _ w3 => k y w3
    | .norm _ => none

/-- **a function that defers one call**: what stands ahead of it (S1), what stands behind it (S2), the call (T) -/
theorem mk_funDefer {P : Program} {E : Env} {EQ : REnv} (hE : E.Ok P) (hQ : EQ.Ok P) (hm : P.follows .mixedOrders = true) {R R2 R3 : Rg} {O : List Nat → Option SE} {n : Nat} {f : FuncId} {fn : Func} {body : Code} {Lp Lo Lr : Vars} (hf : FunFacts P f fn body Lp R) (hdeep : deepB n body = true) (hO : Orc P R (chainOf n body) O)
    {β : Type} {S1 : TT Lp → World → (Out (TT Lo) (TT Lr) → World → Option β) → Option β}
    (h1 : ∀ x w k, exec P E EQ R O (chainOf n body) [] (encs Lp x []) w (outCO Lo Lr k) = S1 x w k)
    {D B : Code} (hrest : restOf n body = .seq D B) {g : FuncId} {dargs : TT Lo → List Value} (hD : DefOk P Lo R2 g dargs D) (hR2 : ∀ t, inR R2 t = true → inR R t = true)
    {S2 : {β : Type} → TT Lo → World → (Out Unit (TT Lr) → World → Option β) → Option β} (h2 : StmtCOOk P Lo [] Lr R3 S2 B) (hR3 : ∀ t, inR R3 t = true → inR R t = true)
    {T : TT Lo → World → Option (Unit × World)} (hg : ∀ args w, (callFunc g args).run P w = .ok (.enter g args) w) (hT : ∀ x w w2, T x w = some ((), w2) → CallsD P g (dargs x).toArray .returning w fun e u' w3 => u' = .returning ∧ ((∃ v, e = .returned v) ∧ w3 = w2))
    {Rt : List Ty} {toR : TT Lr → TR Rt} (hres : ∀ y w, resK P (encs Lr y []) w fn.results.toList Rt some = some (toR y))
    (x : TT Lp) (w : World) (k : TR Rt → World → Option β) (r : β)
    (hS : S1 x w (deferK S2 T fun y w => k (toR y) w) = some r) :
    Calls P f (encA Lp x).toArray w (fun e w2 => ∃ y, e = .returned (resV (encR Rt y)) ∧ k y w2 = some r) := by
  refine calls_of_wp_defers hf.at_ hf.body ?_
  have hp := Nat.le_of_ble_eq_true hf.params
  have hlen : (encA Lp x).toArray.size = Lp.length := by simp [encA_length]
  have hsz : ((encA Lp x).toArray ++ Array.replicate (fn.ntmps - (encA Lp x).toArray.size) undef).size = fn.ntmps := by
    rw [Array.size_append, Array.size_replicate, hlen]; omega
  obtain ⟨a0, ha0⟩ : ∃ a0 : Act, ({ tmps := (encA Lp x).toArray ++ Array.replicate (fn.ntmps - (encA Lp x).toArray.size) undef, defers := [] } : Act) = a0 := ⟨_, rfl⟩
  have hag : Agree (encs Lp x []) a0 := by
    intro t v ht
    obtain ⟨_, h2⟩ := encs_args hf.slots x t v ht
    simp only [Nat.sub_zero] at h2
    have hlt : t < (encA Lp x).length := (List.getElem?_eq_some_iff.1 h2).1
    rw [← ha0]
    show ((encA Lp x).toArray ++ _)[t]? = some v
    rw [Array.getElem?_append_left (by simpa using hlt)]
    simpa using h2
  have hroom : Room R a0 := by
    intro t ht
    rw [← ha0]
    show t < _
    rw [hsz]; exact room_of hf.room ht
  have hd0 : a0.defers = [] := by rw [← ha0]
  rw [ha0]
  have hresults : ∀ (a : Act) (y : TT Lr) (w : World), Agree (encs Lr y []) a → (results fn a.tmps).run P w = .ok (resV (encR Rt (toR y))) w := fun a y w ha => by
    obtain ⟨y', hy, hr⟩ := resK_some P (hres y w)
    rw [← Option.some.inj hy]
    exact results_run P (hr a ha)
  refine chain_exec hE hQ hm hO n body [] (encs Lp x []) w a0 hdeep (subC_nil _) ((h1 x w _).trans hS) (Qf := bodyPostD P fn _) ?_ ?_ hag hroom (.refl R a0)
  · intro φ w1 a hk ha hr hkp
    obtain ⟨z, hz, hz2⟩ := decsK_some hk
    rw [hrest]
    have haz := hz2 a ha
    refine wp_seq (wp_mono (hD z w1 a haz fun t ht => hr t (hR2 t ht)) ?_)
    rintro e a' w' ⟨rfl, rfl, b, rfl, hkb, hab⟩
    simp only [Exit.then]
    have hb0 : b.defers = [] := by rw [hkb.defers, hkp.defers, hd0]
    refine wp_mono (h2 z w' _ r hz { b with defers := _ } hab fun t ht => ?_) ?_
    · have := hr t (hR3 t ht)
      show t < b.tmps.size
      rw [hkb.size]; exact this
    rintro e a2 w2 ⟨hk2, φ2, hφ2, hq2⟩
    have hds : a2.defers = [{ target := .fn (.func g) #[], args := (dargs z).toArray }] := by rw [hk2.defers, hb0]
    cases e with
    | ret =>
      obtain ⟨y, hy, hy2⟩ := decsK_some hq2
      obtain ⟨u, w3, hT1, hk3⟩ := bnd_some hy
      show Leaves P fn a2.tmps _ a2.defers .returning w2
      rw [hds]
      refine leaves_cons (f := g) (args := (dargs z).toArray) (by simp) (by simp [invoke, hg]) ?_
      refine (hT z w2 w3 hT1).mono ?_
      rintro e u' w4 ⟨rfl, ⟨v, rfl⟩, rfl⟩
      exact ⟨_, hresults a2 y w4 (hy2 a2 hφ2), toR y, rfl, hk3⟩
    | normal =>
      obtain ⟨y, hy, _⟩ := decsK_some hq2
      cases hy
    | exit id => cases hq2
    | goto l => cases hq2
    | panic c => cases hq2
    | outgrown => cases hq2
  · intro e φ w1 a hne hk ha hkp
    cases e with
    | normal => exact absurd rfl hne
    | ret =>
      obtain ⟨y, hy, hy2⟩ := decsK_some hk
      show Leaves P fn a.tmps _ a.defers .returning w1
      rw [hkp.defers, hd0]
      exact ⟨_, hresults a y w1 (hy2 a ha), toR y, rfl, hy⟩
    | exit id => cases hk
    | goto l => cases hk
    | panic c => cases hk
    | outgrown => cases hk

end Go.Fw

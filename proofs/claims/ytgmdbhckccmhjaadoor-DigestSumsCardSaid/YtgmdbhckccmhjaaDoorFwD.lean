/- Code on a frame of which some slots are known: regions (in the text's order; and those that draw their order), what stands behind what. -/
import Derived.Test.YtgmdbhckccmhjaaDoorFwC
import Derived.Deep.Quiet
namespace Go.Fw

/-! ### Which slots a piece of code may write -/

abbrev Rg := List (Nat × Nat)
def inR : Rg → Nat → Bool
  | [], _ => false
  | (lo, hi) :: r, t => (Nat.ble lo t && Nat.ble (t + 1) hi) || inR r t

def Room (R : Rg) (a : Act) : Prop := ∀ t, inR R t = true → t < a.tmps.size

structure Kept (R : Rg) (a a' : Act) : Prop where
  defers : a'.defers = a.defers
  size : a'.tmps.size = a.tmps.size
  slots : ∀ t, inR R t = false → a'.tmps[t]? = a.tmps[t]?

theorem Kept.refl (R : Rg) (a : Act) : Kept R a a := ⟨rfl, rfl, fun _ _ => rfl⟩
theorem Kept.trans {R : Rg} {a b c : Act} (h : Kept R a b) (k : Kept R b c) : Kept R a c :=
  ⟨k.defers.trans h.defers, k.size.trans h.size, fun t ht => (k.slots t ht).trans (h.slots t ht)⟩
theorem Kept.room {R R' : Rg} {a b : Act} (h : Kept R a b) (hr : Room R' a) : Room R' b := fun t ht => h.size ▸ hr t ht
theorem Kept.put {R : Rg} {a : Act} {dst : Option Tmp} (v : Value) (h : ∀ d, dst = some d → inR R d = true) : Kept R a (a.put dst v) := by
  cases dst with
  | none => exact .refl R a
  | some d =>
    refine ⟨rfl, by simp [Act.put], fun t ht => ?_⟩
    have : d ≠ t := fun e => by rw [← e, h d rfl] at ht; cases ht
    simp [Act.put, Array.getElem?_setIfInBounds_ne this]

theorem get_v (u t : Nat) (x : Value) (r : Fr) : get (.v u x :: r) t = if u = t then some x else get r t := by
  simp only [get]
  by_cases h : u = t
  · subst h; simp [Nat.beq_refl]
  · have : Nat.beq u t = false := by
      cases hb : Nat.beq u t with
      | false => rfl
      | true => exact absurd (Nat.eq_of_beq_eq_true hb) h
    simp [this, h]

theorem Agree.put {φ : Fr} {a : Act} (h : Agree φ a) {d : Nat} (hd : d < a.tmps.size) (v : Value) : Agree (.v d v :: φ) (a.put (some d) v) := by
  intro t x ht
  rw [get_v] at ht
  by_cases e : d = t
  · subst e
    rw [if_pos rfl] at ht
    have := Option.some.inj ht; subst this
    simp [Act.put, hd]
  · rw [if_neg e] at ht
    simp only [Act.put]
    rw [Array.getElem?_setIfInBounds_ne e]
    exact h t x ht

/-- A slot's value may be written down once more. -/
theorem Agree.again {φ : Fr} {a : Act} (h : Agree φ a) {d : Nat} {v : Value} (hv : get φ d = some v) : Agree (.v d v :: φ) a := by
  intro t x ht
  rw [get_v] at ht
  by_cases e : d = t
  · subst e
    rw [if_pos rfl] at ht
    have := Option.some.inj ht; subst this
    exact h _ _ hv
  · rw [if_neg e] at ht
    exact h t x ht

/-! ### One operation of a region -/

section
variable {β : Type} (P : Program) (E : Env) (EQ : REnv)

def putK (R : Rg) (dst : Option Tmp) (v : Value) (φ : Fr) (k : Fr → Option β) : Option β :=
  match dst with
  | none => k φ
  | some d => bif inR R d then k (.v d v :: φ) else none

theorem putK_some {R : Rg} {dst : Option Tmp} {v : Value} {φ : Fr} {k : Fr → Option β} {r : β} (h : putK R dst v φ k = some r) :
    ∃ φ', k φ' = some r ∧ ∀ a, Agree φ a → Room R a → Agree φ' (a.put dst v) ∧ Kept R a (a.put dst v) := by
  unfold putK at h
  split at h
  · exact ⟨φ, h, fun a ha _ => ⟨ha, .refl R a⟩⟩
  · rename_i d
    cases hd : inR R d with
    | false => simp [hd] at h
    | true =>
      simp only [hd, cond_true] at h
      exact ⟨_, h, fun a ha hr => ⟨ha.put (hr d hd) v, .put v fun _ he => by cases he; exact hd⟩⟩

def guardK (ops : Array Oper) (g : Option (Nat × Bool)) (φ : Fr) (k : Bool → Fr → Option β) : Option β :=
  match g with
  | none => k true φ
  | some (j, want) => match (ops[j]?).bind (·.dst) with
    | some d => match get φ d with
      | some (.bool b) => if b = true then k want (.v d (.bool true) :: φ) else k (!want) (.v d (.bool false) :: φ)
      | some (.tuple _) => k false φ
      | _ => none
    | none => none

theorem guardK_some {ops : Array Oper} {o : Oper} {φ : Fr} {k : Bool → Fr → Option β} {r : β} (h : guardK ops o.guard φ k = some r) :
    ∃ b φ', k b φ' = some r ∧ ∀ a, Agree φ a → Agree φ' a ∧ Region.wanted o (yielded ops a.tmps) = b := by
  unfold guardK at h
  split at h
  · rename_i hg
    exact ⟨true, φ, h, fun a ha => ⟨ha, by simp [Region.wanted, hg]⟩⟩
  · rename_i j want hg
    split at h
    · rename_i d hd
      split at h
      · rename_i b hb
        cases b with
        | true =>
          refine ⟨want, _, h, fun a ha => ⟨ha.again hb, ?_⟩⟩
          simp only [Region.wanted, hg, yielded, hd, Option.bind_some, ha d _ hb]
          cases want <;> rfl
        | false =>
          refine ⟨!want, _, h, fun a ha => ⟨ha.again hb, ?_⟩⟩
          simp only [Region.wanted, hg, yielded, hd, Option.bind_some, ha d _ hb]
          cases want <;> rfl
      · rename_i vs hb
        exact ⟨false, φ, h, fun a ha => ⟨ha, by simp only [Region.wanted, hg, yielded, hd, Option.bind_some, ha d _ hb]; rfl⟩⟩
      · simp at h
    · simp at h

def opK (ops : Array Oper) (R : Rg) (o : Oper) (φ : Fr) (w : World) (k : Fr → World → Option β) : Option β :=
  guardK ops o.guard φ fun b φ => bif b then stepOp P E EQ o φ w fun v w' => putK R o.dst v φ fun φ' => k φ' w' else putK R o.dst undef φ fun φ' => k φ' w

theorem Does.wp {P : Program} {o : Oper} {φ : Fr} {w w' : World} {v : Value} (h : Does P o φ w v w') {a : Act} (ha : Agree φ a) {next : Act → World → Prop} {Q : Exit → Act → World → Prop}
    (hn : next (a.put o.dst v) w') : o.wp P a w next Q := by
  unfold Oper.wp
  rcases h a ha with h1 | ⟨hv, h1⟩ | ⟨f, args, w1, h1, hc⟩
  · rw [h1]; exact hn
  · rw [h1]; subst hv; exact hn
  · rw [h1]
    exact hc.mono fun e w2 ⟨he, hw⟩ => by subst he; subst hw; exact hn

theorem opK_sound (hE : E.Ok P) (hQ : EQ.Ok P) {ops : Array Oper} {R : Rg} {o : Oper} {φ : Fr} {w : World} {k : Fr → World → Option β} {r : β} (h : opK P E EQ ops R o φ w k = some r)
    {a : Act} (ha : Agree φ a) (hr : Room R a) {next : Act → World → Prop} {Q : Exit → Act → World → Prop}
    (hnext : ∀ φ' w' a', k φ' w' = some r → Agree φ' a' → Kept R a a' → next a' w') :
    if Region.wanted o (yielded ops a.tmps) then o.wp P a w next Q else next (a.put o.dst undef) w := by
  unfold opK at h
  obtain ⟨b, φ1, h, hb⟩ := guardK_some h
  obtain ⟨ha1, hw⟩ := hb a ha
  rw [hw]
  cases b with
  | true =>
    simp only [cond_true] at h
    obtain ⟨v, w', h, hd⟩ := stepOp_some P E hQ hE h
    obtain ⟨φ2, h, h2⟩ := putK_some h
    obtain ⟨h3, h4⟩ := h2 a ha1 hr
    simp only [if_true]
    exact hd.wp ha1 (hnext _ _ _ h h3 h4)
  | false =>
    simp only [cond_false] at h
    obtain ⟨φ2, h, h2⟩ := putK_some h
    obtain ⟨h3, h4⟩ := h2 a ha1 hr
    simp only [Bool.false_eq_true, if_false]
    exact hnext _ _ _ h h3 h4

/-! ### A region in the text's order -/

def runOps (ops : Array Oper) (R : Rg) : List Oper → Fr → World → (Fr → World → Option β) → Option β
  | [], φ, w, K => K φ w
  | o :: rest, φ, w, K => opK P E EQ ops R o φ w fun φ' w' => runOps ops R rest φ' w' K

/-- what is asked behind a piece of code -/
def Post (R : Rg) (a : Act) (Q : Exit → Fr → World → Prop) (e : Exit) (a' : Act) (w' : World) : Prop := Kept R a a' ∧ ∃ φ', Agree φ' a' ∧ Q e φ' w'

theorem Post.of_kept {R : Rg} {a b : Act} {Q : Exit → Fr → World → Prop} (h : Kept R a b) {e : Exit} {a' : Act} {w' : World} (hp : Post R b Q e a' w') : Post R a Q e a' w' :=
  ⟨h.trans hp.1, hp.2⟩

theorem runOps_sound (hE : E.Ok P) (hQ : EQ.Ok P) {ops : Array Oper} {R : Rg} {K : Fr → World → Option β} {r : β} {a0 : Act} {Q : Exit → Fr → World → Prop}
    (hK : ∀ φ w, K φ w = some r → Q .normal φ w) :
    ∀ (l : List Oper) (φ : Fr) (w : World) (a : Act), runOps P E EQ ops R l φ w K = some r → Agree φ a → Room R a → Kept R a0 a → wpList P ops (Post R a0 Q) l a w
  | [], φ, w, a, h, ha, _, hk => ⟨hk, φ, ha, hK φ w h⟩
  | o :: rest, φ, w, a, h, ha, hr, hk => by
    refine wpList_step fun K' hK' => ?_
    refine opK_sound P E EQ hE hQ h ha hr fun φ' w' a' h' ha' hk' => hK' a' w' ?_
    exact runOps_sound hE hQ hK rest φ' w' a' h' ha' (hk'.room hr) (hk.trans hk')

end

/-! ### What a piece of code does from a frame with known slots -/

def W (P : Program) (R : Rg) (c : Code) (Q : Exit → Fr → World → Prop) (φ : Fr) (w : World) : Prop :=
  ∀ a, Agree φ a → Room R a → c.wp P (Post R a Q) a w

theorem W.mono {P : Program} {R : Rg} {c : Code} {Q Q' : Exit → Fr → World → Prop} {φ : Fr} {w : World} (h : W P R c Q φ w) (hq : ∀ e φ w, Q e φ w → Q' e φ w) : W P R c Q' φ w :=
  fun a ha hr => wp_mono (h a ha hr) fun e a' w' ⟨hk, φ', hφ, hx⟩ => ⟨hk, φ', hφ, hq _ _ _ hx⟩

theorem W.sub {P : Program} {R R' : Rg} {c : Code} {Q : Exit → Fr → World → Prop} {φ : Fr} {w : World} (h : W P R c Q φ w) (hR : ∀ t, inR R t = true → inR R' t = true) : W P R' c Q φ w :=
  fun a ha hr => wp_mono (h a ha fun t ht => hr t (hR t ht)) fun e a' w' ⟨hk, φ', hφ, hx⟩ =>
    ⟨⟨hk.defers, hk.size, fun t ht => hk.slots t (by
      cases hx : inR R t with
      | false => rfl
      | true => rw [hR t hx] at ht; cases ht)⟩, φ', hφ, hx⟩

theorem W.seq {P : Program} {R : Rg} {x y : Code} {Q : Exit → Fr → World → Prop} {φ : Fr} {w : World}
    (h : W P R x (fun e φ' w' => match e with | .normal => W P R y Q φ' w' | e => Q e φ' w') φ w) : W P R (.seq x y) Q φ w := by
  intro a ha hr
  refine wp_seq (wp_mono (h a ha hr) fun e a' w' ⟨hk, φ', hφ, hx⟩ => ?_)
  cases e with
  | normal => exact wp_mono (hx a' hφ (hk.room hr)) fun _ _ _ h2 => Post.of_kept hk h2
  | exit id => exact ⟨hk, φ', hφ, hx⟩
  | goto l => exact ⟨hk, φ', hφ, hx⟩
  | ret => exact ⟨hk, φ', hφ, hx⟩
  | panic c => exact ⟨hk, φ', hφ, hx⟩
  | outgrown => exact ⟨hk, φ', hφ, hx⟩

theorem W.skip {P : Program} {R : Rg} {Q : Exit → Fr → World → Prop} {φ : Fr} {w : World} (h : Q .normal φ w) : W P R .skip Q φ w :=
  fun a ha _ => wp_skip ⟨.refl R a, φ, ha, h⟩
theorem W.ret {P : Program} {R : Rg} {Q : Exit → Fr → World → Prop} {φ : Fr} {w : World} (h : Q .ret φ w) : W P R .ret Q φ w :=
  fun a ha _ => wp_ret ⟨.refl R a, φ, ha, h⟩
theorem W.exit {P : Program} {R : Rg} {Q : Exit → Fr → World → Prop} {φ : Fr} {w : World} {id : Nat} (h : Q (.exit id) φ w) : W P R (.exit id) Q φ w :=
  fun a ha _ => wp_exit ⟨.refl R a, φ, ha, h⟩

theorem W.cond {P : Program} {R : Rg} {c : Operand} {x y : Code} {Q : Exit → Fr → World → Prop} {φ : Fr} {w : World} {b : Bool} (hc : opd φ c = some (.bool b))
    (h : W P R (if b then x else y) Q φ w) : W P R (.cond c x y) Q φ w :=
  fun a ha hr => wp_cond (opd_eval ha hc) (h a ha hr)

def blockQ (id : Nat) (Q : Exit → Fr → World → Prop) : Exit → Fr → World → Prop
  | .exit i, φ, w => if i = id then Q .normal φ w else Q (.exit i) φ w
  | e, φ, w => Q e φ w

theorem W.block {P : Program} {R : Rg} {id : Nat} {c : Code} {Q : Exit → Fr → World → Prop} {φ : Fr} {w : World} (h : W P R c (blockQ id Q) φ w) : W P R (.block id c) Q φ w := by
  intro a ha hr
  refine wp_block (wp_mono (h a ha hr) fun e a' w' ⟨hk, φ', hφ, hx⟩ => ?_)
  cases e with
  | exit i =>
    simp only [Exit.inBlock]
    simp only [blockQ] at hx
    split
    · rename_i hi; rw [if_pos hi] at hx; exact ⟨hk, φ', hφ, hx⟩
    · rename_i hi; rw [if_neg hi] at hx; exact ⟨hk, φ', hφ, hx⟩
  | normal => exact ⟨hk, φ', hφ, hx⟩
  | goto l => exact ⟨hk, φ', hφ, hx⟩
  | ret => exact ⟨hk, φ', hφ, hx⟩
  | panic c => exact ⟨hk, φ', hφ, hx⟩
  | outgrown => exact ⟨hk, φ', hφ, hx⟩

theorem W.region {P : Program} {E : Env} {EQ : REnv} (hE : E.Ok P) (hQ : EQ.Ok P) {R : Rg} {id : Nat} {ops : Array Oper} {Q : Exit → Fr → World → Prop} {φ : Fr} {w : World}
    {β : Type} {K : Fr → World → Option β} {r : β} (h : runOps P E EQ ops R ops.toList φ w K = some r) (hK : ∀ φ w, K φ w = some r → Q .normal φ w) : W P R (.region id ops false) Q φ w :=
  fun a ha hr => wp_region_list (runOps_sound P E EQ hE hQ hK ops.toList φ w a h ha hr (.refl R a))

/-- A loop, by a number that each round lowers. -/
theorem wp_loop_num {P : Program} {c : Code} {Q : Exit → Act → World → Prop} (I : Nat → Act → World → Prop)
    (round : ∀ n a w, I n a w → c.wp P (Exit.then (fun a' w' => ∃ m, m < n ∧ I m a' w') Q) a w) : ∀ n a w, I n a w → (Code.loop c).wp P Q a w := by
  have key : ∀ n a w, I n a w → ∀ (b : Frame) (k : List Item) (cs : List Frame),
      ∃ e a' w', Q e a' w' ∧ Arrives P (lone (b.at a (.code c :: .inLoop c :: k)) cs w) b k cs e a' w' := by
    intro n
    induction n using Nat.strongRecOn with
    | _ n ih =>
      intro a w hI b k cs
      obtain ⟨e, a₁, w₁, hq, harr⟩ := round n a w hI b (.inLoop c :: k) cs
      cases e with
      | normal =>
        obtain ⟨m, hlt, hI₁⟩ := hq
        obtain ⟨e₂, a₂, w₂, hq₂, harr₂⟩ := ih m hlt a₁ w₁ hI₁ b k cs
        exact ⟨e₂, a₂, w₂, hq₂, .of_steps (Steps.trans harr (.one step_inLoop)) harr₂⟩
      | exit id => exact ⟨_, a₁, w₁, hq, .pass (x := .inLoop c) rfl (fun _ _ => .inl (by simp)) harr⟩
      | goto l => exact ⟨_, a₁, w₁, hq, .pass (x := .inLoop c) rfl (fun _ _ => .inl (by simp)) harr⟩
      | ret => exact ⟨_, a₁, w₁, hq, .pass (x := .inLoop c) rfl (fun _ _ => .inl (by simp)) harr⟩
      | panic ch => exact ⟨_, a₁, w₁, hq, .pass (x := .inLoop c) rfl (fun _ _ => .inl (by simp)) harr⟩
      | outgrown => exact ⟨_, a₁, w₁, hq, .pass (x := .inLoop c) rfl (fun _ _ => .inl (by simp)) harr⟩
  intro n a w hI b k cs
  obtain ⟨e, a', w', hq, harr⟩ := key n a w hI b k cs
  exact ⟨e, a', w', hq, .of_steps (.one step_loop) harr⟩

end Go.Fw

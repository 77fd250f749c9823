/- A function's code as a Lean function: statements, loops, calls. -/
import Derived.Test.YtgmdbhckccmhjaaDoorFwE
namespace Go.Fw

/-! ### Variables with their kinds -/

def asAd : Value → Option Addr
  | .pointer (some a) => some a
  | _ => none
theorem asAd_eq {v : Value} {a : Addr} (h : asAd v = some a) : v = .pointer (some a) := by
  unfold asAd at h
  split at h
  · rw [Option.some.inj h]
  · cases h

inductive Ty where
  | int (κ : IntKind)
  | bool | str | ptr | addr | sl | val | agg

abbrev Ty.T : Ty → Type
  | .int _ => Int
  | .bool => Bool
  | .str => ByteArray
  | .ptr => Option Addr
  | .addr => Addr
  | .sl => Sl
  | .val => Value
  | .agg => Array Value

def Ty.enc : (t : Ty) → t.T → Value
  | .int κ, n => .int κ n
  | .bool, b => .bool b
  | .str, s => .string s
  | .ptr, p => .pointer p
  | .addr, p => .pointer (some p)
  | .sl, s => .slice s.a s.len s.cap
  | .val, v => v
  | .agg, cs => .agg cs

def Ty.dec : (t : Ty) → Value → Option t.T
  | .int κ, v => asI κ v
  | .bool, v => asB v
  | .str, v => asStr v
  | .ptr, v => asP v
  | .addr, v => asAd v
  | .sl, v => asS v
  | .val, v => some v
  | .agg, v => asA v

theorem Ty.dec_eq {t : Ty} {v : Value} {x : t.T} (h : t.dec v = some x) : v = t.enc x := by
  cases t with
  | int κ => exact asI_eq h
  | bool => exact asB_eq h
  | str => exact asStr_eq h
  | ptr => exact asP_eq h
  | addr => exact asAd_eq h
  | sl => exact asS_eq h
  | val => exact Option.some.inj h
  | agg => exact asA_eq h

abbrev Vars := List (Nat × Ty)
abbrev TT : Vars → Type
  | [] => Unit
  | p :: r => p.2.T × TT r

def encs : (l : Vars) → TT l → Fr → Fr
  | [], _, φ => φ
  | p :: r, x, φ => .v p.1 (p.2.enc x.1) :: encs r x.2 φ

def decsK {β : Type} : (l : Vars) → Fr → (TT l → Option β) → Option β
  | [], _, k => k ()
  | p :: r, φ, k => match get φ p.1 with
    | none => none
    | some v => match p.2.dec v with
      | none => none
      | some x => decsK r φ fun y => k (x, y)

theorem decsK_some {β : Type} : ∀ {l : Vars} {φ : Fr} {k : TT l → Option β} {r : β}, decsK l φ k = some r →
    ∃ y, k y = some r ∧ ∀ a, Agree φ a → Agree (encs l y []) a
  | [], φ, k, r, h => ⟨(), h, fun a _ t x ht => by simp [encs, get] at ht⟩
  | p :: l, φ, k, r, h => by
    simp only [decsK] at h
    split at h
    · cases h
    · rename_i v hv
      split at h
      · cases h
      · rename_i x hx
        obtain ⟨y, hk, hy⟩ := decsK_some h
        refine ⟨(x, y), hk, fun a ha t z ht => ?_⟩
        simp only [encs] at ht
        rw [get_v] at ht
        by_cases e : p.1 = t
        · rw [if_pos e] at ht
          have := Option.some.inj ht
          subst this; subst e
          rw [← Ty.dec_eq hx]
          exact ha _ _ hv
        · rw [if_neg e] at ht
          exact hy a ha t z ht

def mask (R : Rg) (φ : Fr) : Fr := R.foldr (fun p φ => .m p.1 p.2 :: φ) φ

theorem get_mask {R : Rg} {φ : Fr} {t : Nat} {x : Value} (h : get (mask R φ) t = some x) : inR R t = false ∧ get φ t = some x := by
  induction R with
  | nil => exact ⟨rfl, h⟩
  | cons p r ih =>
    simp only [mask, List.foldr_cons, get] at h
    cases hb : (Nat.ble p.1 t && Nat.ble (t + 1) p.2) with
    | true => simp [hb] at h
    | false =>
      rw [hb] at h
      simp only [cond_false] at h
      obtain ⟨h1, h2⟩ := ih h
      exact ⟨by simp [inR, hb, h1], h2⟩

theorem Agree.encs {l : Vars} {y : TT l} {φ : Fr} {a : Act} (h : Agree (encs l y []) a) (hφ : ∀ t x, get φ t = some x → a.tmps[t]? = some x) : Agree (encs l y φ) a := by
  induction l with
  | nil => exact hφ
  | cons p r ih =>
    intro t x ht
    simp only [Fw.encs] at ht h
    rw [get_v] at ht
    by_cases e : p.1 = t
    · rw [if_pos e] at ht
      exact h t x (by rw [get_v, if_pos e]; exact ht)
    · rw [if_neg e] at ht
      by_cases hg : ∃ z, get (Fw.encs r y.2 []) t = some z
      · obtain ⟨z, hz⟩ := hg
        have hz2 := h t z (by rw [get_v, if_neg e]; exact hz)
        have key : ∀ (l : Vars) (y : TT l) (z : Value), get (Fw.encs l y []) t = some z → get (Fw.encs l y φ) t = some z := by
          intro l
          induction l with
          | nil => intro y z h; simp [Fw.encs, get] at h
          | cons q s ih2 =>
            intro y z h
            simp only [Fw.encs] at h ⊢
            rw [get_v] at h ⊢
            by_cases e2 : q.1 = t
            · rw [if_pos e2] at h ⊢; exact h
            · rw [if_neg e2] at h ⊢; exact ih2 _ _ h
        rw [key r y.2 z hz] at ht
        rw [← Option.some.inj ht]; exact hz2
      · have key : ∀ (l : Vars) (y : TT l), (¬ ∃ z, get (Fw.encs l y []) t = some z) → get (Fw.encs l y φ) t = get φ t := by
          intro l
          induction l with
          | nil => intro y _; rfl
          | cons q s ih2 =>
            intro y h
            simp only [Fw.encs] at h ⊢
            rw [get_v] at h ⊢
            by_cases e2 : q.1 = t
            · rw [if_pos e2] at h; exact absurd ⟨_, rfl⟩ h
            · rw [if_neg e2] at h ⊢; exact ih2 _ h
        rw [key r y.2 hg] at ht
        exact hφ t x ht

/-! ### Statements -/

structure SE where
  run : {β : Type} → Fr → World → (Exit → Fr → World → Option β) → Option β

def SE.Ok (P : Program) (R : Rg) (s : SE) (c : Code) : Prop :=
  ∀ {β : Type} (φ : Fr) (w : World) (K : Exit → Fr → World → Option β) (r : β), s.run φ w K = some r → W P R c (fun e φ' w' => K e φ' w' = some r) φ w

def subC : Code → List Nat → Option Code
  | c, [] => some c
  | .seq x y, i :: p => bif Nat.beq i 0 then subC x p else subC y p
  | .cond _ x y, i :: p => bif Nat.beq i 0 then subC x p else subC y p
  | .block _ c, _ :: p => subC c p
  | .loop c, _ :: p => subC c p
  | _, _ :: _ => none

theorem subC_nil (c : Code) : subC c [] = some c := by cases c <;> rfl
theorem subC_seq0 (x y : Code) : subC (.seq x y) [0] = some x := subC_nil x
theorem subC_seq1 (x y : Code) : subC (.seq x y) [1] = some y := subC_nil y
theorem subC_cond0 (c : Operand) (x y : Code) : subC (.cond c x y) [0] = some x := subC_nil x
theorem subC_cond1 (c : Operand) (x y : Code) : subC (.cond c x y) [1] = some y := subC_nil y
theorem subC_block0 (i : Nat) (c : Code) : subC (.block i c) [0] = some c := subC_nil c

theorem subC_append : ∀ (c : Code) (p q : List Nat), subC c (p ++ q) = (subC c p).bind fun d => subC d q
  | c, [], q => by simp [subC_nil]
  | .seq x y, i :: p, q => by
    simp only [List.cons_append, subC]
    cases Nat.beq i 0 <;> simp [subC_append x p q, subC_append y p q]
  | .cond o x y, i :: p, q => by
    simp only [List.cons_append, subC]
    cases Nat.beq i 0 <;> simp [subC_append x p q, subC_append y p q]
  | .block id c, i :: p, q => by simp only [List.cons_append, subC]; exact subC_append c p q
  | .loop c, i :: p, q => by simp only [List.cons_append, subC]; exact subC_append c p q
  | .skip, i :: p, q => by simp [subC]
  | .region _ _ _, i :: p, q => by simp [subC]
  | .rangeFunc _ _ _ _, i :: p, q => by simp [subC]
  | .exit _, i :: p, q => by simp [subC]
  | .scope _, i :: p, q => by simp [subC]
  | .label _, i :: p, q => by simp [subC]
  | .goto _, i :: p, q => by simp [subC]
  | .ret, i :: p, q => by simp [subC]
  | .refuse _, i :: p, q => by simp [subC]

section
variable {β : Type} (P : Program) (E : Env) (EQ : REnv)

def markB (c : Operand) (b : Bool) (φ : Fr) : Fr :=
  match c with
  | .tmp t => .v t (.bool b) :: φ
  | _ => φ

def seqK (K : Exit → Fr → World → Option β) (k : Fr → World → Option β) : Exit → Fr → World → Option β
  | .normal, φ, w => k φ w
  | e, φ, w => K e φ w

def blkK (id : Nat) (K : Exit → Fr → World → Option β) : Exit → Fr → World → Option β
  | .exit i, φ, w => bif Nat.beq i id then K .normal φ w else K (.exit i) φ w
  | e, φ, w => K e φ w

/-- Code on a frame. O: what is known of statements, by their place. -/
noncomputable def exec (R : Rg) (O : List Nat → Option SE) : Code → List Nat → Fr → World → (Exit → Fr → World → Option β) → Option β
  | .skip, _, φ, w, K => K .normal φ w
  | .region _ ops draw, π, φ, w, K => match O π with
    | some s => s.run φ w K
    | none => bif draw then
      (bif Region.noSelect ops then drawK P E EQ ops R ops.size (Array.replicate ops.size false) φ w.drew (K .normal) else none)
    else runOps P E EQ ops R ops.toList φ w (K .normal)
  | .seq x y, π, φ, w, K => exec R O x (π ++ [0]) φ w (seqK K fun φ' w' => exec R O y (π ++ [1]) φ' w' K)
  | .cond c x y, π, φ, w, K => match O π with
    | some s => s.run φ w K
    | none => match opd φ c with
      | some (.bool b) => if b = true then exec R O x (π ++ [0]) (markB c true φ) w K else exec R O y (π ++ [1]) (markB c false φ) w K
      | _ => none
  | .block id c, π, φ, w, K => match O π with
    | some s => s.run φ w K
    | none => exec R O c (π ++ [0]) φ w (blkK id K)
  | .loop _, π, φ, w, K => match O π with
    | some s => s.run φ w K
    | none => none
  | .exit id, _, φ, w, K => K (.exit id) φ w
  | .ret, _, φ, w, K => K .ret φ w
  | _, _, _, _, _ => none

theorem markB_agree {c : Operand} {b : Bool} {φ : Fr} {a : Act} (ha : Agree φ a) (hc : opd φ c = some (.bool b)) : Agree (markB c b φ) a := by
  cases c with
  | tmp t => exact ha.again hc
  | const v => exact ha
  | global g => exact ha
  | func f => exact ha

theorem W.agree {P : Program} {R : Rg} {c : Code} {Q : Exit → Fr → World → Prop} {φ φ' : Fr} {w : World} (h : W P R c Q φ' w) (hs : ∀ a, Agree φ a → Agree φ' a) : W P R c Q φ w :=
  fun a ha hr => h a (hs a ha) hr

theorem exec_sound (hE : E.Ok P) (hQ : EQ.Ok P) (hm : P.follows .mixedOrders = true) {R : Rg} {O : List Nat → Option SE} {root : Code}
    (hO : ∀ π s, O π = some s → ∃ c, subC root π = some c ∧ s.Ok P R c) :
    ∀ (c : Code) (π : List Nat) (φ : Fr) (w : World) (K : Exit → Fr → World → Option β) (r : β), subC root π = some c → exec P E EQ R O c π φ w K = some r →
      W P R c (fun e φ' w' => K e φ' w' = some r) φ w := by
  intro c
  have orc : ∀ {c : Code} {π : List Nat} {s : SE}, subC root π = some c → O π = some s → s.Ok P R c := fun hc hs => by
    obtain ⟨c', h1, h2⟩ := hO _ _ hs
    rw [hc] at h1; rw [Option.some.inj h1]; exact h2
  induction c with
  | skip => intro π φ w K r _ h; exact .skip h
  | region id ops draw =>
    intro π φ w K r hc h
    simp only [exec] at h
    split at h
    · rename_i s hs; exact orc hc hs φ w K r h
    · cases draw with
      | true =>
        simp only [cond_true] at h
        cases hs : Region.noSelect ops with
        | false => simp [hs] at h
        | true => simp only [hs, cond_true] at h; exact .draw hE hQ hm hs h fun _ _ h => h
      | false => simp only [cond_false] at h; exact .region hE hQ h fun _ _ h => h
  | seq x y ihx ihy =>
    intro π φ w K r hc h
    simp only [exec] at h
    have hx := ihx (π ++ [0]) φ w _ r (by rw [subC_append, hc]; exact subC_seq0 x y) h
    refine .seq (hx.mono fun e φ' w' hk => ?_)
    cases e with
    | normal => exact ihy (π ++ [1]) φ' w' K r (by rw [subC_append, hc]; exact subC_seq1 x y) hk
    | exit id => exact hk
    | goto l => exact hk
    | ret => exact hk
    | panic c => exact hk
    | outgrown => exact hk
  | cond c x y ihx ihy =>
    intro π φ w K r hc h
    simp only [exec] at h
    split at h
    · rename_i s hs; exact orc hc hs φ w K r h
    · split at h
      · rename_i b hb
        refine .cond hb ?_
        cases b with
        | true => exact (ihx (π ++ [0]) _ w K r (by rw [subC_append, hc]; exact subC_cond0 c x y) h).agree fun a ha => markB_agree ha hb
        | false => exact (ihy (π ++ [1]) _ w K r (by rw [subC_append, hc]; exact subC_cond1 c x y) h).agree fun a ha => markB_agree ha hb
      · cases h
  | block id c ih =>
    intro π φ w K r hc h
    simp only [exec] at h
    split at h
    · rename_i s hs; exact orc hc hs φ w K r h
    · refine .block ((ih (π ++ [0]) φ w _ r (by rw [subC_append, hc]; exact subC_block0 id c) h).mono fun e φ' w' hk => ?_)
      cases e with
      | exit i =>
        simp only [blkK] at hk
        simp only [blockQ]
        by_cases hi : i = id
        · subst hi; rw [if_pos rfl]; simpa [Nat.beq_refl] using hk
        · rw [if_neg hi]
          have : Nat.beq i id = false := by
            cases hb : Nat.beq i id with
            | false => rfl
            | true => exact absurd (Nat.eq_of_beq_eq_true hb) hi
          simpa [this] using hk
      | normal => exact hk
      | goto l => exact hk
      | ret => exact hk
      | panic c => exact hk
      | outgrown => exact hk
  | loop c _ =>
    intro π φ w K r hc h
    simp only [exec] at h
    split at h
    · rename_i s hs; exact orc hc hs φ w K r h
    · cases h
  | exit id => intro π φ w K r _ h; exact .exit h
  | ret => intro π φ w K r _ h; exact .ret h
  | rangeFunc _ _ _ _ _ _ => intro π φ w K r _ h; simp [exec] at h
  | scope _ _ => intro π φ w K r _ h; simp [exec] at h
  | label _ => intro π φ w K r _ h; simp [exec] at h
  | goto _ => intro π φ w K r _ h; simp [exec] at h
  | refuse _ => intro π φ w K r _ h; simp [exec] at h

end

/-! ### A statement by a Lean function of its variables -/

inductive Out (α ρ : Type) where
  | norm (y : α)
  | ret (r : ρ)

def outK (Lo Lr : Vars) : Exit → Fr → World → Option (Out (TT Lo) (TT Lr) × World)
  | .normal, φ, w => decsK Lo φ fun y => some (.norm y, w)
  | .ret, φ, w => decsK Lr φ fun y => some (.ret y, w)
  | _, _, _ => none

def stmt (Li Lo Lr : Vars) (R : Rg) (S : TT Li → World → Option (Out (TT Lo) (TT Lr) × World)) : SE :=
  ⟨fun φ w K => decsK Li φ fun x => bnd (S x w) fun o w' => match o with
    | .norm y => K .normal (encs Lo y (mask R φ)) w'
    | .ret y => K .ret (encs Lr y (mask R φ)) w'⟩

/-- What must be shown of it. -/
def StmtOk (P : Program) (Li Lo Lr : Vars) (R : Rg) (S : TT Li → World → Option (Out (TT Lo) (TT Lr) × World)) (c : Code) : Prop :=
  ∀ x w o w', S x w = some (o, w') → W P R c (fun e φ' w2 => outK Lo Lr e φ' w2 = some (o, w')) (encs Li x []) w

theorem encs_mask {l : Vars} {y : TT l} {R : Rg} {φ : Fr} {a a' : Act} (h : Agree (encs l y []) a') (hk : Kept R a a') (ha : Agree φ a) : Agree (encs l y (mask R φ)) a' :=
  h.encs fun t x ht => by
    obtain ⟨h1, h2⟩ := get_mask ht
    rw [hk.slots t h1]; exact ha t x h2

theorem stmt_ok {P : Program} {Li Lo Lr : Vars} {R R' : Rg} {S : TT Li → World → Option (Out (TT Lo) (TT Lr) × World)} {c : Code} (h : StmtOk P Li Lo Lr R S c)
    (hR : ∀ t, inR R t = true → inR R' t = true) : (stmt Li Lo Lr R S).Ok P R' c := by
  intro β φ w K r hrun
  simp only [stmt] at hrun
  obtain ⟨x, hrun, hx⟩ := decsK_some hrun
  obtain ⟨o, w1, hS, hrun⟩ := bnd_some hrun
  refine W.sub (R := R) ?_ hR
  intro a ha hr
  refine wp_mono (h x w o w1 hS a (hx a ha) hr) fun e a' w' ⟨hk, φ', hφ, hq⟩ => ?_
  cases e with
  | normal =>
    obtain ⟨y, hy, hy2⟩ := decsK_some hq
    simp only [Option.some.injEq, Prod.mk.injEq] at hy
    obtain ⟨rfl, rfl⟩ := hy
    exact ⟨hk, _, encs_mask (hy2 a' hφ) hk ha, hrun⟩
  | ret =>
    obtain ⟨y, hy, hy2⟩ := decsK_some hq
    simp only [Option.some.injEq, Prod.mk.injEq] at hy
    obtain ⟨rfl, rfl⟩ := hy
    exact ⟨hk, _, encs_mask (hy2 a' hφ) hk ha, hrun⟩
  | exit id => cases hq
  | goto l => cases hq
  | panic c => cases hq
  | outgrown => cases hq

/-- A statement without a way out but its end. -/
def stmtN (Li Lo : Vars) (R : Rg) (S : TT Li → World → Option (TT Lo × World)) : SE :=
  ⟨fun φ w K => decsK Li φ fun x => bnd (S x w) fun y w' => K .normal (encs Lo y (mask R φ)) w'⟩

def outN (Lo : Vars) : Exit → Fr → World → Option (TT Lo × World)
  | .normal, φ, w => decsK Lo φ fun y => some (y, w)
  | _, _, _ => none

def StmtNOk (P : Program) (Li Lo : Vars) (R : Rg) (S : TT Li → World → Option (TT Lo × World)) (c : Code) : Prop :=
  ∀ x w o w', S x w = some (o, w') → W P R c (fun e φ' w2 => outN Lo e φ' w2 = some (o, w')) (encs Li x []) w

theorem stmtN_ok {P : Program} {Li Lo : Vars} {R R' : Rg} {S : TT Li → World → Option (TT Lo × World)} {c : Code} (h : StmtNOk P Li Lo R S c)
    (hR : ∀ t, inR R t = true → inR R' t = true) : (stmtN Li Lo R S).Ok P R' c := by
  intro β φ w K r hrun
  simp only [stmtN] at hrun
  obtain ⟨x, hrun, hx⟩ := decsK_some hrun
  obtain ⟨o, w1, hS, hrun⟩ := bnd_some hrun
  refine W.sub (R := R) ?_ hR
  intro a ha hr
  refine wp_mono (h x w o w1 hS a (hx a ha) hr) fun e a' w' ⟨hk, φ', hφ, hq⟩ => ?_
  cases e with
  | normal =>
    obtain ⟨y, hy, hy2⟩ := decsK_some hq
    simp only [Option.some.injEq, Prod.mk.injEq] at hy
    obtain ⟨rfl, rfl⟩ := hy
    exact ⟨hk, _, encs_mask (hy2 a' hφ) hk ha, hrun⟩
  | ret => cases hq
  | exit id => cases hq
  | goto l => cases hq
  | panic c => cases hq
  | outgrown => cases hq

/-! ### Loops -/

/-- F, so many times, upon z. -/
def iter {α : Type} (z : α) (F : α → α) : Nat → α
  | 0 => z
  | n + 1 => F (iter z F n)

/-- What a round's end is asked: the loop's variables (then the next round), or those behind it. id: the block that is left by its end. -/
def loopK (id : Nat) (Li Lo Lr : Vars) (rec : TT Li → World → Option (Out (TT Lo) (TT Lr) × World)) : Exit → Fr → World → Option (Out (TT Lo) (TT Lr) × World)
  | .normal, φ, w => decsK Li φ fun x => rec x w
  | .ret, φ, w => decsK Lr φ fun y => some (.ret y, w)
  | .exit i, φ, w => bif Nat.beq i id then decsK Lo φ fun y => some (.norm y, w) else none
  | _, _, _ => none

def loopN (id : Nat) (Li Lo : Vars) (rec : TT Li → World → Option (TT Lo × World)) : Exit → Fr → World → Option (TT Lo × World)
  | .normal, φ, w => decsK Li φ fun x => rec x w
  | .exit i, φ, w => bif Nat.beq i id then decsK Lo φ fun y => some (y, w) else none
  | _, _, _ => none

theorem beq_false_of_ne {i j : Nat} (h : i ≠ j) : Nat.beq i j = false := by
  cases hb : Nat.beq i j with
  | false => rfl
  | true => exact absurd (Nat.eq_of_beq_eq_true hb) h

/-- The loop in its block. S k: at most k rounds. -/
theorem loop_ok {P : Program} {id : Nat} {Li Lo Lr : Vars} {R : Rg} {body : Code} {S : Nat → TT Li → World → Option (Out (TT Lo) (TT Lr) × World)}
    (h0 : ∀ x w, S 0 x w = none)
    (h1 : ∀ k x w o w', S (k + 1) x w = some (o, w') → W P R body (fun e φ' w2 => loopK id Li Lo Lr (S k) e φ' w2 = some (o, w')) (encs Li x []) w) (k : Nat) :
    StmtOk P Li Lo Lr R (S k) (.block id (.loop body)) := by
  intro x w o w' hS a ha hr
  refine wp_block ?_
  refine wp_loop_num (fun n b w1 => ∃ x, Agree (encs Li x []) b ∧ Kept R a b ∧ S n x w1 = some (o, w')) ?_ k a w ⟨x, ha, .refl R a, hS⟩
  rintro n b w1 ⟨x, hb, hk, hS⟩
  cases n with
  | zero => rw [h0] at hS; cases hS
  | succ n =>
    refine wp_mono (h1 n x w1 o w' hS b hb (hk.room hr)) fun e a' w2 ⟨hk', φ', hφ, hq⟩ => ?_
    cases e with
    | normal =>
      obtain ⟨y, hy, hy2⟩ := decsK_some hq
      exact ⟨n, Nat.lt_succ_self n, y, hy2 a' hφ, hk.trans hk', hy⟩
    | ret => exact ⟨hk.trans hk', φ', hφ, hq⟩
    | exit i =>
      simp only [loopK] at hq
      by_cases hi : i = id
      · subst hi
        simp only [Exit.then, Exit.inBlock, if_true]
        simp only [Nat.beq_refl, cond_true] at hq
        exact ⟨hk.trans hk', φ', hφ, by simpa [outK] using hq⟩
      · rw [beq_false_of_ne hi] at hq; cases hq
    | goto l => cases hq
    | panic c => cases hq
    | outgrown => cases hq

theorem loopN_ok {P : Program} {id : Nat} {Li Lo : Vars} {R : Rg} {body : Code} {S : Nat → TT Li → World → Option (TT Lo × World)}
    (h0 : ∀ x w, S 0 x w = none)
    (h1 : ∀ k x w o w', S (k + 1) x w = some (o, w') → W P R body (fun e φ' w2 => loopN id Li Lo (S k) e φ' w2 = some (o, w')) (encs Li x []) w) (k : Nat) :
    StmtNOk P Li Lo R (S k) (.block id (.loop body)) := by
  intro x w o w' hS a ha hr
  refine wp_block ?_
  refine wp_loop_num (fun n b w1 => ∃ x, Agree (encs Li x []) b ∧ Kept R a b ∧ S n x w1 = some (o, w')) ?_ k a w ⟨x, ha, .refl R a, hS⟩
  rintro n b w1 ⟨x, hb, hk, hS⟩
  cases n with
  | zero => rw [h0] at hS; cases hS
  | succ n =>
    refine wp_mono (h1 n x w1 o w' hS b hb (hk.room hr)) fun e a' w2 ⟨hk', φ', hφ, hq⟩ => ?_
    cases e with
    | normal =>
      obtain ⟨y, hy, hy2⟩ := decsK_some hq
      exact ⟨n, Nat.lt_succ_self n, y, hy2 a' hφ, hk.trans hk', hy⟩
    | exit i =>
      simp only [loopN] at hq
      by_cases hi : i = id
      · subst hi
        simp only [Exit.then, Exit.inBlock, if_true]
        simp only [Nat.beq_refl, cond_true] at hq
        exact ⟨hk.trans hk', φ', hφ, hq⟩
      · rw [beq_false_of_ne hi] at hq; cases hq
    | ret => cases hq
    | goto l => cases hq
    | panic c => cases hq
    | outgrown => cases hq

end Go.Fw

/- A region that draws its order: the operations that leave the world alone are taken first, each other one where nothing else may come up. -/
import Derived.Test.YtgmdbhckccmhjaaDoorFwD
namespace Go.Fw

section
variable {β : Type} (P : Program) (E : Env) (EQ : REnv)

/-- is it an operation that leaves the world alone? -/
def quietB (o : Oper) : Bool :=
  pureK o.op || (match o.op with
    | .load _ _ => true
    | .call c => match c.callee with
      | .value (.func f) => (EQ f).isSome
      | _ => false
    | _ => false)

/-- a marker of what waits for number i -/
def waitsB (ops : Array Oper) (i j : Nat) : Bool := Nat.testBit ((Region.before ops).getD j 0) i

/-- number i may be taken before whatever else may come up, though it reads memory: all that acts waits for it -/
def calmB (ops : Array Oper) (listed : Array Bool) (i : Nat) : Bool :=
  (List.range ops.size).all fun j =>
    match ops[j]? with
    | none => false
    | some o =>
      (!listed.getD j false || !waitsB ops i j) &&
      (!waitsB ops i j || o.after.any fun e => Region.binds .any e && (e.on == i || waitsB ops i e.on)) &&
      (listed.getD j true || j == i || waitsB ops i j || quietB EQ o)

def AnyQ (ops : Array Oper) (Q : Exit → Act → World → Prop) (w : World) : Nat → Array Bool → Act → Prop
  | 0, listed, a => Region.ready .any ops listed = [] ∧ Q .normal a w
  | f + 1, listed, a =>
    (Region.ready .any ops listed = [] → Q .normal a w) ∧
    ∀ j ∈ Region.ready .any ops listed, ∀ o, ops[j]? = some o →
      (quietB EQ o = true → qOp P ops (· = w) j (AnyQ ops Q w f (listed.setIfInBounds j true)) a) ∧
      (quietB EQ o = false → wpOp P ops Q j (wpAny P .any ops Q f (listed.setIfInBounds j true)) a w)

theorem AnyQ.any {ops : Array Oper} {Q : Exit → Act → World → Prop} {w : World} : ∀ (f : Nat) (listed : Array Bool) (a : Act), AnyQ P EQ ops Q w f listed a → wpAny P .any ops Q f listed a w
  | 0, _, _, h => h
  | f + 1, listed, a, h => by
    refine ⟨h.1, fun j hj => ?_⟩
    obtain ⟨_, o, ho, _⟩ := mem_ready.1 hj
    have h2 := h.2 j hj o ho
    cases hq : quietB EQ o with
    | true => exact wpOp_of_qOp (C := (· = w)) rfl (fun a' w' hw' h' => by subst hw'; exact AnyQ.any f _ a' h') (h2.1 hq)
    | false => exact h2.2 hq

theorem ready_setne {ops : Array Oper} {listed : Array Bool} {i j : Nat} (hj : j ∈ Region.ready .any ops listed) (hi : listed.getD i true = false) (o : Oper) (ho : ops[j]? = some o) :
    ∀ e ∈ o.after, Region.binds .any e = true → e.on ≠ i := fun e he hb heq => by
  obtain ⟨_, o', ho', hall⟩ := mem_ready.1 hj
  rw [ho] at ho'; have := Option.some.inj ho'; subst this
  have h1 := hall e he hb
  rw [heq] at h1
  rcases Nat.lt_or_ge i listed.size with h' | h'
  · simp [h'] at hi h1; rw [hi] at h1; cases h1
  · simp [Array.getElem?_eq_none h'] at h1

/-- what 'free' says, without the list -/
def Free (ops : Array Oper) (i : Nat) (oi : Oper) (listed : Array Bool) : Prop :=
  ∀ j oj, ops[j]? = some oj → j ≠ i → listed.getD j true = false → (∀ e ∈ oj.after, Region.binds .any e = true → e.on ≠ i) → oi.apart ops oj = true

theorem Free.set {ops : Array Oper} {i : Nat} {oi : Oper} {listed : Array Bool} (h : Free ops i oi listed) {j : Nat} (hjun : listed.getD j true = false) : Free ops i oi (listed.setIfInBounds j true) :=
  fun k ok hk hki hun hno => by
    refine h k ok hk hki ?_ hno
    by_cases hjk : j = k
    · subst hjk; exact hjun
    · rw [getD_set_ne true hjk] at hun; exact hun

/-- what 'calm' says -/
structure Calm (ops : Array Oper) (i : Nat) (wt : Nat → Bool) (listed : Array Bool) : Prop where
  was : ∀ j, listed.getD j false = true → wt j = false
  step : ∀ j o, ops[j]? = some o → wt j = true → ∃ e ∈ o.after, Region.binds .any e = true ∧ (e.on = i ∨ wt e.on = true)
  quiet : ∀ j o, ops[j]? = some o → listed.getD j true = false → j ≠ i → wt j = false → quietB EQ o = true

theorem Calm.ready {ops : Array Oper} {i : Nat} {wt : Nat → Bool} {listed : Array Bool} (h : Calm EQ ops i wt listed) (hi : listed.getD i true = false) {j : Nat} (hj : j ∈ Region.ready .any ops listed)
    {o : Oper} (ho : ops[j]? = some o) (hji : j ≠ i) : wt j = false ∧ quietB EQ o = true := by
  obtain ⟨hun, o', ho', hall⟩ := mem_ready.1 hj
  rw [ho] at ho'; have := Option.some.inj ho'; subst this
  have hw : wt j = false := by
    cases hw : wt j with
    | false => rfl
    | true =>
      obtain ⟨e, he, hb, h3⟩ := h.step j o ho hw
      rcases h3 with h3 | h3
      · exact absurd h3 (ready_setne hj hi o ho e he hb)
      · have h4 := h.was e.on (hall e he hb)
        rw [h3] at h4; cases h4
  exact ⟨hw, h.quiet j o ho hun hji hw⟩

theorem Calm.set {ops : Array Oper} {i : Nat} {wt : Nat → Bool} {listed : Array Bool} (h : Calm EQ ops i wt listed) {j : Nat} (hw : wt j = false) : Calm EQ ops i wt (listed.setIfInBounds j true) := by
  refine ⟨fun k hk => ?_, h.step, fun k o ho hun => ?_⟩
  · by_cases hjk : j = k
    · subst hjk; exact hw
    · rw [getD_set_ne false hjk] at hk; exact h.was k hk
  · refine h.quiet k o ho ?_
    by_cases hjk : j = k
    · subst hjk
      rcases Nat.lt_or_ge j listed.size with h' | h'
      · simp [h'] at hun
      · simp [Array.getElem?_eq_none h'] at hun
    · rw [getD_set_ne true hjk] at hun; exact hun

/-- An operation that reads is taken first. -/
theorem anyQ_read {ops : Array Oper} {Q : Exit → Act → World → Prop} {w : World} {i : Nat} {oi : Oper} {v : Value} {wt : Nat → Bool} (hi : ops[i]? = some oi) (hq : quietB EQ oi = true)
    (hsel : ∀ (j : Nat) (o : Oper) cs b, ops[j]? = some o → o.op ≠ .select cs b) :
    ∀ (f : Nat) (listed : Array Bool) (a : Act), Free ops i oi listed → Calm EQ ops i wt listed → i ∈ Region.ready .any ops listed → YieldsIn P ops (· = w) oi v a →
      AnyQ P EQ ops Q w f (listed.setIfInBounds i true) (a.put oi.dst v) → AnyQ P EQ ops Q w (f + 1) listed a := by
  intro f
  induction f with
  | zero =>
    intro listed a _ hc hr hy H
    refine ⟨fun h => (by rw [h] at hr; cases hr), fun j hj o ho => ?_⟩
    by_cases hji : j = i
    · subst hji
      rw [hi] at ho; have := Option.some.inj ho; subst this
      exact ⟨fun _ => hy.qOp hi H, fun h => by rw [hq] at h; cases h⟩
    · have := ready_mono hj hji
      rw [H.1] at this
      cases this
  | succ f ih =>
    intro listed a hfree hc hr hy H
    refine ⟨fun h => (by rw [h] at hr; cases hr), fun j hj o ho => ?_⟩
    by_cases hji : j = i
    · subst hji
      rw [hi] at ho; have := Option.some.inj ho; subst this
      exact ⟨fun _ => hy.qOp hi H, fun h => by rw [hq] at h; cases h⟩
    · have hiun := (mem_ready.1 hr).1
      have hjun := (mem_ready.1 hj).1
      obtain ⟨hw, hoq⟩ := hc.ready EQ hiun hj ho hji
      refine ⟨fun _ => ?_, fun h => by rw [hoq] at h; cases h⟩
      have h1 := (H.2 j (ready_mono hj hji) o ho).1 hoq
      have hnot := ready_setne hj hiun o ho
      have h2 := qOp_put ho (hfree j o ho hji hjun hnot) (fun cs b => hsel i oi cs b hi) (fun cs b => hsel j o cs b ho) hy h1
      refine qOp_mono (fun a' h3 => ih (listed.setIfInBounds j true) a' (hfree.set hjun) (hc.set EQ hw) (ready_mono hr (Ne.symm hji)) h3.1 ?_) h2
      rw [Array.setIfInBounds_comm _ _ hji]
      exact h3.2

theorem yields_inn {P : Program} {ops : Array Oper} {o : Oper} {v : Value} {a : Act} (C : World → Prop) (h : Yields P ops o v a) : YieldsIn P ops C o v a :=
  h.imp (fun ⟨hw, hv⟩ => ⟨hw, fun w _ => by unfold Oper.quietAt; rw [hv w]; exact ⟨rfl, rfl⟩⟩) id

/-- An operation whose value hangs on no memory is taken first, whatever else may come up. -/
theorem anyQ_pure {ops : Array Oper} {Q : Exit → Act → World → Prop} {w : World} {i : Nat} {oi : Oper} {v : Value} (hi : ops[i]? = some oi) (hq : quietB EQ oi = true)
    (hsel : ∀ (j : Nat) (o : Oper) cs b, ops[j]? = some o → o.op ≠ .select cs b)
    (hQ : ∀ c a w, ¬ Q (.panic c) a w) :
    ∀ (f : Nat) (listed : Array Bool) (a : Act), Free ops i oi listed → i ∈ Region.ready .any ops listed → Yields P ops oi v a →
      AnyQ P EQ ops Q w f (listed.setIfInBounds i true) (a.put oi.dst v) → AnyQ P EQ ops Q w (f + 1) listed a := by
  have hQ' : ∀ c a w, Q (.panic c) (a.put oi.dst v) w → Q (.panic c) a w := fun c a w h => absurd h (hQ _ _ _)
  intro f
  induction f with
  | zero =>
    intro listed a _ hr hy H
    refine ⟨fun h => (by rw [h] at hr; cases hr), fun j hj o ho => ?_⟩
    by_cases hji : j = i
    · subst hji
      rw [hi] at ho; have := Option.some.inj ho; subst this
      exact ⟨fun _ => (yields_inn _ hy).qOp hi H, fun h => by rw [hq] at h; cases h⟩
    · have := ready_mono hj hji
      rw [H.1] at this
      cases this
  | succ f ih =>
    intro listed a hfree hr hy H
    refine ⟨fun h => (by rw [h] at hr; cases hr), fun j hj o ho => ?_⟩
    by_cases hji : j = i
    · subst hji
      rw [hi] at ho; have := Option.some.inj ho; subst this
      exact ⟨fun _ => (yields_inn _ hy).qOp hi H, fun h => by rw [hq] at h; cases h⟩
    · have hiun := (mem_ready.1 hr).1
      have hjun := (mem_ready.1 hj).1
      have hnot := ready_setne hj hiun o ho
      have hap := hfree j o ho hji hjun hnot
      have h0 := H.2 j (ready_mono hj hji) o ho
      constructor
      · intro hoq
        have h2 := qOp_put ho hap (fun cs b => hsel i oi cs b hi) (fun cs b => hsel j o cs b ho) (yields_inn (· = w) hy) (h0.1 hoq)
        obtain ⟨h1', h2', h3'⟩ := Oper.apart_spec hap
        obtain ⟨u, hyj, hK⟩ := yieldsIn_of_qOp ho h2
        have hy' : Yields P ops oi v (a.put o.dst u) := hy.of_same (execOp_put oi (fun cs b => hsel i oi cs b hi) a o.dst u h3') (wanted_put oi a o.dst u h3')
        refine hyj.qOp ho (ih (listed.setIfInBounds j true) _ (hfree.set hjun) (ready_mono hr (Ne.symm hji)) hy' ?_)
        rw [Array.setIfInBounds_comm _ _ hji]
        exact hK.2
      · intro hoq
        have h2 := wpOp_put ho hap (fun cs b => hsel i oi cs b hi) (fun cs b => hsel j o cs b ho) hQ' hy (h0.2 hoq)
        refine wpOp_mono (fun a' w' h3 => wpAny_first hi hsel hQ' f (listed.setIfInBounds j true) a' w' (hfree.set hjun) (ready_mono hr (Ne.symm hji)) h3.1 ?_) h2
        rw [Array.setIfInBounds_comm _ _ hji]
        exact h3.2

theorem calm_of {ops : Array Oper} {listed : Array Bool} {i : Nat} (hl : listed.size = ops.size) (h : calmB EQ ops listed i = true) : Calm EQ ops i (waitsB ops i) listed := by
  unfold calmB at h
  rw [List.all_eq_true] at h
  have key : ∀ j o, ops[j]? = some o → (!listed.getD j false || !waitsB ops i j) = true ∧ (!waitsB ops i j || o.after.any fun e => Region.binds .any e && (e.on == i || waitsB ops i e.on)) = true ∧
      (listed.getD j true || j == i || waitsB ops i j || quietB EQ o) = true := by
    intro j o ho
    have hlt : j < ops.size := (Array.getElem?_eq_some_iff.1 ho).1
    have := h j (List.mem_range.2 hlt)
    rw [ho] at this
    simp only [Bool.and_eq_true] at this
    exact ⟨this.1.1, this.1.2, this.2⟩
  refine ⟨fun j hj => ?_, fun j o ho hw => ?_, fun j o ho hun hji hw => ?_⟩
  · rcases Nat.lt_or_ge j ops.size with h' | h'
    · have := (key j _ (Array.getElem?_eq_getElem h')).1
      rw [hj] at this
      simpa using this
    · rw [Array.getD_eq_getD_getElem?, Array.getElem?_eq_none (by omega)] at hj; simp at hj
  · have := (key j o ho).2.1
    rw [hw] at this
    simp only [Bool.not_true, Bool.false_or] at this
    rw [Array.any_eq_true'] at this
    obtain ⟨e, he, hb⟩ := this
    simp only [Bool.and_eq_true, Bool.or_eq_true, beq_iff_eq] at hb
    exact ⟨e, he, hb.1, hb.2⟩
  · have := (key j o ho).2.2
    rw [hun, hw] at this
    simpa [hji] using this

noncomputable def sameK (v u : Value) (k : Option β) : Option β := open Classical in if v = u then k else none

theorem sameK_some {v u : Value} {k : Option β} {r : β} (h : sameK v u k = some r) : v = u ∧ k = some r := by
  unfold sameK at h
  split at h
  · rename_i h1; exact ⟨h1, h⟩
  · cases h

/-- number i reads, number j acts: whichever of the two is taken first, the other is taken next -/
def pairB (ops : Array Oper) (listed : Array Bool) (i j : Nat) (oi oj : Oper) : Bool :=
  oi.guard.isNone && oi.apart ops oj && (match oi.dst with | some d => !(oi.looksAt ops).contains d | none => true) &&
  (Region.ready .any ops (listed.setIfInBounds i true) == [j]) && (Region.ready .any ops (listed.setIfInBounds j true) == [i]) && quietB EQ oi && !quietB EQ oj

/-- The two in both orders: what is read is the same. -/
noncomputable def pairK (ops : Array Oper) (R : Rg) (oi oj : Oper) (φ : Fr) (w : World) (K : Fr → World → Option β) : Option β :=
  stepQ P EQ oi φ w (fun v => putK R oi.dst v φ fun φ1 => opK P E EQ ops R oj φ1 w fun φ2 w2 => stepQ P EQ oi φ2 w2 (fun v2 => sameK v v2 (K φ2 w2)) none) none

/-- The region's operations, as they are taken. -/
noncomputable def drawK (ops : Array Oper) (R : Rg) : Nat → Array Bool → Fr → World → (Fr → World → Option β) → Option β
  | 0, listed, φ, w, K => match Region.ready .any ops listed with
    | [] => K φ w
    | _ => none
  | f + 1, listed, φ, w, K => match Region.ready .any ops listed with
    | [] => K φ w
    | j :: js => match (j :: js).find? (fun i => match ops[i]? with | some o => pureK o.op && Region.free .any ops listed i | none => false) with
      | some i => match ops[i]? with
        | some o => guardK ops o.guard φ fun b φ => bif b then stepQ P EQ o φ w (fun v => putK R o.dst v φ fun φ' => drawK ops R f (listed.setIfInBounds i true) φ' w K) none
            else putK R o.dst undef φ fun φ' => drawK ops R f (listed.setIfInBounds i true) φ' w K
        | none => none
      | none => match (j :: js).find? (fun i => match ops[i]? with | some o => quietB EQ o && Region.free .any ops listed i && calmB EQ ops listed i | none => false) with
        | some i => match ops[i]? with
          | some o => guardK ops o.guard φ fun b φ => bif b then stepQ P EQ o φ w (fun v => putK R o.dst v φ fun φ' => drawK ops R f (listed.setIfInBounds i true) φ' w K) none
              else putK R o.dst undef φ fun φ' => drawK ops R f (listed.setIfInBounds i true) φ' w K
          | none => none
        | none => match js with
          | [] => match ops[j]? with
            | some o => bif quietB EQ o then none else opK P E EQ ops R o φ w fun φ' w' => drawK ops R f (listed.setIfInBounds j true) φ' w' K
            | none => none
          | [j2] => match f with
            | 0 => none
            | f' + 1 => match ops[j]?, ops[j2]? with
              | some o1, some o2 =>
                bif pairB EQ ops listed j j2 o1 o2 then pairK P E EQ ops R o1 o2 φ w fun φ' w' => drawK ops R f' ((listed.setIfInBounds j true).setIfInBounds j2 true) φ' w' K
                else bif pairB EQ ops listed j2 j o2 o1 then pairK P E EQ ops R o2 o1 φ w fun φ' w' => drawK ops R f' ((listed.setIfInBounds j2 true).setIfInBounds j true) φ' w' K
                else none
              | _, _ => none
          | _ => none


theorem quiet_take (hQ : EQ.Ok P) {ops : Array Oper} {R : Rg} {o : Oper} {φ : Fr} {w : World} {k : Fr → Option β} {r : β}
    (h : (guardK ops o.guard φ fun b φ => bif b then stepQ P EQ o φ w (fun v => putK R o.dst v φ k) none else putK R o.dst undef φ k) = some r)
    {a : Act} (ha : Agree φ a) (hr : Room R a) :
    ∃ v φ', k φ' = some r ∧ YieldsIn P ops (· = w) o v a ∧ (pureK o.op = true → Yields P ops o v a) ∧ Agree φ' (a.put o.dst v) ∧ Kept R a (a.put o.dst v) := by
  obtain ⟨b, φ1, h, hb⟩ := guardK_some h
  obtain ⟨ha1, hw⟩ := hb a ha
  cases b with
  | true =>
    simp only [cond_true] at h
    rcases stepQ_some P hQ h with ⟨v, h, hd, hp⟩ | h
    · obtain ⟨φ2, h, h2⟩ := putK_some h
      obtain ⟨h3, h4⟩ := h2 a ha1 hr
      refine ⟨v, φ2, h, .inl ⟨hw, fun w' hw' => ?_⟩, fun hpk => .inl ⟨hw, fun w' => hp hpk a ha1 w'⟩, h3, h4⟩
      subst hw'
      unfold Oper.quietAt
      rcases hd a ha1 with h5 | ⟨f, args, h5, h6⟩
      · rw [h5]; exact ⟨rfl, rfl⟩
      · rw [h5]; exact ⟨rfl, h6⟩
    · cases h
  | false =>
    simp only [cond_false] at h
    obtain ⟨φ2, h, h2⟩ := putK_some h
    obtain ⟨h3, h4⟩ := h2 a ha1 hr
    exact ⟨undef, φ2, h, .inr ⟨hw, rfl⟩, fun _ => .inr ⟨hw, rfl⟩, h3, h4⟩

theorem pair_sound (hE : E.Ok P) (hQ : EQ.Ok P) {ops : Array Oper} (hsel : ∀ (j : Nat) (o : Oper) cs b, ops[j]? = some o → o.op ≠ .select cs b) {R : Rg} {K : Fr → World → Option β} {r : β} {Q : Exit → Act → World → Prop}
    (hP : ∀ c a w, ¬ Q (.panic c) a w) {i j : Nat} {oi oj : Oper} (hi : ops[i]? = some oi) (hj : ops[j]? = some oj) {f : Nat} {listed : Array Bool} (hb : pairB EQ ops listed i j oi oj = true)
    (hrd : ∀ k, k ∈ Region.ready .any ops listed → k = i ∨ k = j) (hne : Region.ready .any ops listed ≠ []) {φ : Fr} {w : World} (h : pairK P E EQ ops R oi oj φ w K = some r) {a : Act} (ha : Agree φ a) (hr : Room R a)
    (hn : ∀ φ' w' a', K φ' w' = some r → Agree φ' a' → Kept R a a' → wpAny P .any ops Q f ((listed.setIfInBounds i true).setIfInBounds j true) a' w') :
    AnyQ P EQ ops Q w (f + 2) listed a := by
  simp only [pairB, Bool.and_eq_true, Option.isNone_iff_eq_none, Bool.not_eq_true'] at hb
  obtain ⟨⟨⟨⟨⟨⟨hg, hap⟩, hself⟩, hri⟩, hrj⟩, hqi⟩, hqj⟩ := hb
  have hself' : ∀ d, oi.dst = some d → d ∉ oi.looksAt ops := by
    intro d hd; rw [hd] at hself; simpa using hself
  have hri := eq_of_beq hri
  have hrj := eq_of_beq hrj
  have hwant : ∀ a : Act, Region.wanted oi (yielded ops a.tmps) = true := fun a => by simp [Region.wanted, hg]
  unfold pairK at h
  rcases stepQ_some P hQ h with ⟨v, h, hd, _⟩ | h
  · obtain ⟨φ1, h, h2⟩ := putK_some h
    obtain ⟨ha1, hk1⟩ := h2 a ha hr
    have hy : YieldsIn P ops (· = w) oi v a := .inl ⟨hwant a, fun w' hw' => by
      subst hw'
      unfold Oper.quietAt
      rcases hd a ha with h5 | ⟨f, args, h5, h6⟩
      · rw [h5]; exact ⟨rfl, rfl⟩
      · rw [h5]; exact ⟨rfl, h6⟩⟩
    -- behind number j, on the frame where i's value lies
    have hstep : ∀ φ2 w2 a', (stepQ P EQ oi φ2 w2 (fun v2 => sameK v v2 (K φ2 w2)) none) = some r → Agree φ2 a' → Kept R (a.put oi.dst v) a' →
        K φ2 w2 = some r ∧ DoesQ P oi φ2 w2 v := by
      intro φ2 w2 a' h _ _
      rcases stepQ_some P hQ h with ⟨v2, h, hd2, _⟩ | h
      · obtain ⟨e, h3⟩ := sameK_some h
        subst e; exact ⟨h3, hd2⟩
      · cases h
    have hop : ∀ (next : Act → World → Prop), (∀ φ2 w2 a', K φ2 w2 = some r → DoesQ P oi φ2 w2 v → Agree φ2 a' → Kept R (a.put oi.dst v) a' → next a' w2) → wpOp P ops Q j next (a.put oi.dst v) w := by
      intro next hnext
      have h1 := opK_sound P E EQ hE hQ h ha1 (hk1.room hr) (next := next) (Q := Q) fun φ' w' a' h' ha' hk' =>
        let ⟨h3, h4⟩ := hstep φ' w' a' h' ha' hk'
        hnext φ' w' a' h3 h4 ha' hk'
      unfold wpOp
      simp only [hj]
      split
      · rename_i hw; rw [if_pos hw] at h1; exact .inl h1
      · rename_i hw; rw [if_neg hw] at h1; exact h1
    refine ⟨fun h0 => absurd h0 hne, fun k hk o ho => ?_⟩
    rcases hrd k hk with e | e
    · subst e
      rw [hi] at ho; have := Option.some.inj ho; subst this
      refine ⟨fun _ => hy.qOp hi ?_, fun h => by rw [hqi] at h; cases h⟩
      refine ⟨fun h0 => (by rw [hri] at h0; cases h0), fun k' hk' o' ho' => ?_⟩
      have e : k' = j := by rw [hri] at hk'; simpa using hk'
      subst e
      rw [hj] at ho'; have := Option.some.inj ho'; subst this
      refine ⟨fun h => (by rw [hqj] at h; cases h), fun _ => ?_⟩
      exact hop _ fun φ2 w2 a' h3 _ h5 h6 => hn φ2 w2 a' h3 h5 (hk1.trans h6)
    · subst e
      rw [hj] at ho; have := Option.some.inj ho; subst this
      refine ⟨fun h => (by rw [hqj] at h; cases h), fun _ => ?_⟩
      -- i's value, as if it were a constant
      let oc : Oper := { oi with op := .move (.const v) }
      have hapc : oc.apart ops oj = true := by
        obtain ⟨h1, h2, h3⟩ := Oper.apart_spec hap
        unfold Oper.apart
        rw [Bool.and_eq_true]
        constructor
        · have : oc.dst = oi.dst := rfl
          rw [this]
          cases hd : oi.dst with
          | none => rfl
          | some d =>
            have e1 := h1 d hd
            have e2 := h2 d hd
            simp [e1, e2]
        · cases hd : oj.dst with
          | none => rfl
          | some d => simp [oc, Oper.looksAt, hg, Op.operands]
      have hyc : Yields P ops oc v a := .inl ⟨by simp [oc, Region.wanted, hg], fun w => by simp [oc, execOp, Act.eval]⟩
      have h7 := wpOp_put (oi := oc) hj hapc (fun cs b => by simp [oc]) (fun cs b => hsel k oj cs b hj) (fun c a w h => absurd h (hP _ _ _)) hyc
        (hop (fun a' w' => ∃ φ2, K φ2 w' = some r ∧ DoesQ P oi φ2 w' v ∧ Agree φ2 a' ∧ Kept R (a.put oi.dst v) a') fun φ2 w2 a' h3 h4 h5 h6 => ⟨φ2, h3, h4, h5, h6⟩)
      refine wpOp_mono (fun a' w' ⟨_, φ2, h3, h4, h5, h6⟩ => ?_) h7
      refine ⟨fun h0 => (by rw [hrj] at h0; cases h0), fun k' hk' => ?_⟩
      have e : k' = i := by rw [hrj] at hk'; simpa using hk'
      subst e
      have hfin : wpAny P .any ops Q f ((listed.setIfInBounds k true).setIfInBounds k' true) (a'.put oi.dst v) w' := by
        by_cases hkk : k = k'
        · subst hkk; exact hn φ2 w' _ h3 h5 (hk1.trans h6)
        · rw [Array.setIfInBounds_comm _ _ hkk]
          exact hn φ2 w' _ h3 h5 (hk1.trans h6)
      unfold wpOp
      simp only [hi, hwant a', if_true]
      left
      unfold Oper.wp
      have heq : execOp (a'.put oi.dst v).eval oi = execOp a'.eval oi := execOp_put oi (fun cs b => hsel k' oi cs b hi) a' oi.dst v hself'
      rcases h4 _ h5 with h8 | ⟨f8, args, h8, h9⟩
      · have h8 : (execOp a'.eval oi).run P w' = .ok (.value v) w' := by rw [← heq]; exact h8
        rw [h8]; exact hfin
      · have h8 : (execOp a'.eval oi).run P w' = .ok (.enter f8 args) w' := by rw [← heq]; exact h8
        rw [h8]
        exact h9.mono fun e w2 ⟨he, hw⟩ => by subst he; subst hw; exact hfin
  · cases h

theorem drawK_sound (hE : E.Ok P) (hQ : EQ.Ok P) {ops : Array Oper} (hs : Region.noSelect ops = true) {R : Rg} {K : Fr → World → Option β} {r : β} {a0 : Act} {Q : Exit → Fr → World → Prop}
    (hK : ∀ φ w, K φ w = some r → Q .normal φ w) (hP : ∀ c φ w, ¬ Q (.panic c) φ w) :
    ∀ (f : Nat) (listed : Array Bool) (φ : Fr) (w : World) (a : Act), listed.size = ops.size → drawK P E EQ ops R f listed φ w K = some r → Agree φ a → Room R a → Kept R a0 a →
      AnyQ P EQ ops (Post R a0 Q) w f listed a := by
  have hP' : ∀ c a w, ¬ Post R a0 Q (.panic c) a w := fun c a w ⟨_, φ, _, h⟩ => hP c φ w h
  have hsel := Region.noSelect_spec hs
  intro f
  induction f using Nat.strongRecOn with
  | _ f ih0 =>
  cases f with
  | zero =>
    intro listed φ w a hl h ha hr hk
    unfold drawK at h
    split at h
    · rename_i hrd; exact ⟨hrd, hk, φ, ha, hK φ w h⟩
    · cases h
  | succ f =>
    have ih := ih0 f (Nat.lt_succ_self f)
    intro listed φ w a hl h ha hr hk
    unfold drawK at h
    split at h
    · rename_i hrd
      exact ⟨fun _ => ⟨hk, φ, ha, hK φ w h⟩, fun j hj => by rw [hrd] at hj; cases hj⟩
    · rename_i j js hrd
      split at h
      · rename_i i hfind
        have hmem := List.mem_of_find?_eq_some hfind
        have hprop := List.find?_some hfind
        rw [← hrd] at hmem
        split at h
        · rename_i o ho
          simp only [ho, Bool.and_eq_true] at hprop
          obtain ⟨v, φ', h, _, hy, ha', hk'⟩ := quiet_take P EQ hQ h ha hr
          refine anyQ_pure P EQ ho (by simp [quietB, hprop.1]) hsel hP' f listed a (Region.free_spec ho hprop.2) hmem (hy hprop.1) ?_
          exact ih _ φ' w _ (by simpa using hl) h ha' (hk'.room hr) (hk.trans hk')
        · cases h
      · split at h
        · rename_i i hfind
          have hmem := List.mem_of_find?_eq_some hfind
          have hprop := List.find?_some hfind
          rw [← hrd] at hmem
          split at h
          · rename_i o ho
            simp only [ho, Bool.and_eq_true] at hprop
            obtain ⟨v, φ', h, hy, _, ha', hk'⟩ := quiet_take P EQ hQ h ha hr
            refine anyQ_read P EQ ho hprop.1.1 hsel f listed a (Region.free_spec ho hprop.1.2) (calm_of EQ hl hprop.2) hmem hy ?_
            exact ih _ φ' w _ (by simpa using hl) h ha' (hk'.room hr) (hk.trans hk')
          · cases h
        · split at h
          · split at h
            · rename_i o ho
              cases hqb : quietB EQ o with
              | true => simp [hqb] at h
              | false =>
                simp only [hqb, cond_false] at h
                refine ⟨fun h0 => (by rw [h0] at hrd; cases hrd), fun j' hj' o' ho' => ?_⟩
                have hjj : j' = j := by rw [hrd] at hj'; simpa using hj'
                subst hjj
                rw [ho] at ho'; have := Option.some.inj ho'; subst this
                refine ⟨fun hq => (by rw [hqb] at hq; cases hq), fun _ => ?_⟩
                have h1 := opK_sound P E EQ hE hQ h ha hr (next := wpAny P .any ops (Post R a0 Q) f (listed.setIfInBounds j' true)) (Q := Post R a0 Q)
                  fun φ' w' a' h' ha' hk' => (ih _ φ' w' a' (by simpa using hl) h' ha' (hk'.room hr) (hk.trans hk')).any P EQ
                unfold wpOp
                simp only [ho]
                split
                · rename_i hw; rw [if_pos hw] at h1; exact .inl h1
                · rename_i hw; rw [if_neg hw] at h1; exact h1
            · cases h
          · rename_i j2 _ _
            cases f with
            | zero => cases h
            | succ f' =>
              simp only at h
              split at h
              · rename_i o1 o2 ho1 ho2
                have hrdm : ∀ k, k ∈ Region.ready .any ops listed → k = j ∨ k = j2 := fun k hk => by rw [hrd] at hk; simpa using hk
                have hne : Region.ready .any ops listed ≠ [] := by rw [hrd]; simp
                cases hb1 : pairB EQ ops listed j j2 o1 o2 with
                | true =>
                  simp only [hb1, cond_true] at h
                  exact pair_sound P E EQ hE hQ hsel hP' ho1 ho2 hb1 hrdm hne h ha hr fun φ' w' a' h' ha' hk' =>
                    (ih0 f' (by omega) _ φ' w' a' (by simpa using hl) h' ha' (hk'.room hr) (hk.trans hk')).any P EQ
                | false =>
                  simp only [hb1, cond_false] at h
                  cases hb2 : pairB EQ ops listed j2 j o2 o1 with
                  | true =>
                    simp only [hb2, cond_true] at h
                    exact pair_sound P E EQ hE hQ hsel hP' ho2 ho1 hb2 (fun k hk => (hrdm k hk).symm) hne h ha hr fun φ' w' a' h' ha' hk' =>
                      (ih0 f' (by omega) _ φ' w' a' (by simpa using hl) h' ha' (hk'.room hr) (hk.trans hk')).any P EQ
                  | false => simp [hb2] at h
              · cases h
          · cases h

end

theorem W.draw {P : Program} {E : Env} {EQ : REnv} (hE : E.Ok P) (hQ : EQ.Ok P) (hm : P.follows .mixedOrders = true) {R : Rg} {id : Nat} {ops : Array Oper} (hs : Region.noSelect ops = true) {Q : Exit → Fr → World → Prop} {φ : Fr} {w : World}
    {β : Type} {K : Fr → World → Option β} {r : β} (h : drawK P E EQ ops R ops.size (Array.replicate ops.size false) φ w.drew K = some r) (hK : ∀ φ w, K φ w = some r → Q .normal φ w) : W P R (.region id ops true) Q φ w := by
  refine W.mono (Q := fun e φ w => e = .normal ∧ Q e φ w) (fun a ha hr => ?_) fun _ _ _ h => h.2
  refine wp_region_any hm (AnyQ.any P EQ _ _ _ (drawK_sound P E EQ hE hQ hs (Q := fun e φ w => e = .normal ∧ Q e φ w) (fun φ w h => ⟨rfl, hK φ w h⟩) (fun c φ w h => ?_) ops.size _ φ w.drew a (by simp) h ha hr (.refl R a)))
  cases h.1

end Go.Fw

/- A region that draws its order, where a load is taken first though others act before it may come up: what it reads is watched. -/
import Derived.Test.YtgmdbhckccmhjaaDoorFwG
namespace Go.Fw

section
variable {β : Type} (P : Program) (E : Env) (EQ : REnv)

abbrev Watch := List (Oper × Fr × Value)

noncomputable def watchK (w : World) : Watch → Option β → Option β
  | [], k => k
  | (o, φ, v) :: r, k => stepQ P EQ o φ w (fun v2 => sameK v v2 (watchK w r k)) none

def loadB (o : Op) : Bool := match o with
  | .load _ _ => true
  | _ => false

noncomputable def drawH (ops : Array Oper) (R : Rg) : Nat → Array Bool → Fr → World → Watch → (Fr → World → Option β) → Option β
  | 0, listed, φ, w, _, K => match Region.ready .any ops listed with
    | [] => K φ w
    | _ => none
  | f + 1, listed, φ, w, M, K => match Region.ready .any ops listed with
    | [] => K φ w
    | j :: js => match (j :: js).find? (fun i => match ops[i]? with | some o => pureK o.op && Region.free .any ops listed i | none => false) with
      | some i => match ops[i]? with
        | some o => guardK ops o.guard φ fun b φ => bif b then stepQ P EQ o φ w (fun v => putK R o.dst v φ fun φ' => drawH ops R f (listed.setIfInBounds i true) φ' w M K) none
            else putK R o.dst undef φ fun φ' => drawH ops R f (listed.setIfInBounds i true) φ' w M K
        | none => none
      | none => match (j :: js).find? (fun i => match ops[i]? with | some o => loadB o.op && Region.free .any ops listed i | none => false) with
        | some i => match ops[i]? with
          | some o => guardK ops o.guard φ fun b φ => bif b then stepQ P EQ o φ w (fun v => putK R o.dst v φ fun φ' => drawH ops R f (listed.setIfInBounds i true) φ' w ((o, φ, v) :: M) K) none
              else putK R o.dst undef φ fun φ' => drawH ops R f (listed.setIfInBounds i true) φ' w M K
          | none => none
        | none => match js with
          | [] => match ops[j]? with
            | some o => opK P E EQ ops R o φ w fun φ' w' => watchK P EQ w' M (drawH ops R f (listed.setIfInBounds j true) φ' w' M K)
            | none => none
          | _ => none

def WatchOk (M : Watch) (S : World → Prop) : Prop := ∀ w (k : Option β) (r : β), watchK P EQ w M k = some r → S w ∧ k = some r

theorem wpAnyH_mono {P : Program} {ops : Array Oper} {Q : Exit → Act → World → Prop} {S T : World → Prop} (h : ∀ w, S w → T w) :
    ∀ (f : Nat) (listed : Array Bool) (a : Act) (w : World), wpAnyH P .any ops Q S f listed a w → wpAnyH P .any ops Q T f listed a w
  | 0, _, _, _, hh => hh
  | f + 1, _, _, _, hh => ⟨hh.1, fun i hi => wpOp_mono (fun a' w' h3 => ⟨h w' h3.1, wpAnyH_mono h f _ a' w' h3.2⟩) (hh.2 i hi)⟩

theorem load_value {P : Program} {o : Oper} (ho : loadB o.op = true) {ev : Operand → Value} {w w' : World} {f : FuncId} {args : Array Value} : (execOp ev o).run P w ≠ .ok (.enter f args) w' := by
  intro h
  unfold loadB at ho
  split at ho
  · rename_i t x hop
    simp only [execOp, hop, Sem.run_bind, Sem.run_map] at h
    generalize (Instr.loadAt t (ev x)).run P w = r1 at h
    cases r1 <;> simp [Result.andThen] at h
  · cases ho

theorem drawH_sound (hE : E.Ok P) (hQ : EQ.Ok P) {ops : Array Oper} (hs : Region.noSelect ops = true) {R : Rg} {K : Fr → World → Option β} {r : β} {a0 : Act} {Q : Exit → Fr → World → Prop}
    (hK : ∀ φ w, K φ w = some r → Q .normal φ w) (hP : ∀ c φ w, ¬ Q (.panic c) φ w) :
    ∀ (f : Nat) (listed : Array Bool) (φ : Fr) (w : World) (a : Act) (M : Watch) (S : World → Prop), WatchOk (β := β) P EQ M S → S w → drawH P E EQ ops R f listed φ w M K = some r → Agree φ a → Room R a → Kept R a0 a →
      wpAnyH P .any ops (Post R a0 Q) S f listed a w := by
  have hP' : ∀ c a w, ¬ Post R a0 Q (.panic c) a w := fun c a w ⟨_, φ, _, h⟩ => hP c φ w h
  have hsel := Region.noSelect_spec hs
  intro f
  induction f with
  | zero =>
    intro listed φ w a M S _ _ h ha hr hk
    unfold drawH at h
    split at h
    · rename_i hrd; exact ⟨hrd, hk, φ, ha, hK φ w h⟩
    · cases h
  | succ f ih =>
    intro listed φ w a M S hM hS h ha hr hk
    unfold drawH at h
    split at h
    · rename_i hrd
      exact ⟨fun _ => ⟨hk, φ, ha, hK φ w h⟩, fun j hj => by rw [hrd] at hj; cases hj⟩
    · rename_i j js hrd
      split at h
      · rename_i i hfind
        have hmem := List.mem_of_find?_eq_some hfind
        have hprop := List.find?_some hfind
        rw [← hrd] at hmem
        split at h
        · rename_i o ho
          simp only [ho, Bool.and_eq_true] at hprop
          obtain ⟨v, φ', h, _, hy, ha', hk'⟩ := quiet_take P EQ hQ h ha hr
          exact wpAnyH_first ho hsel (fun c a w h => absurd h (hP' _ _ _)) f listed a w (Region.free_spec ho hprop.2) hmem (hy hprop.1).yieldsIf hS
            (ih _ φ' w _ M S hM hS h ha' (hk'.room hr) (hk.trans hk'))
        · cases h
      · split at h
        · rename_i i hfind
          have hmem := List.mem_of_find?_eq_some hfind
          have hprop := List.find?_some hfind
          rw [← hrd] at hmem
          split at h
          · rename_i o ho
            simp only [ho, Bool.and_eq_true] at hprop
            obtain ⟨b, φ1, h, hb⟩ := guardK_some h
            obtain ⟨ha1, hw⟩ := hb a ha
            cases b with
            | true =>
              simp only [cond_true] at h
              rcases stepQ_some P hQ h with ⟨v, h, hd, _⟩ | h
              · obtain ⟨φ2, h, h2⟩ := putK_some h
                obtain ⟨h3, h4⟩ := h2 a ha1 hr
                have val : ∀ w', DoesQ P o φ1 w' v → (execOp a.eval o).run P w' = .ok (.value v) w' := fun w' hd' => by
                  rcases hd' a ha1 with h5 | ⟨f5, args, h5, _⟩
                  · exact h5
                  · exact absurd h5 (load_value hprop.1)
                let S' : World → Prop := fun w' => S w' ∧ (execOp a.eval o).run P w' = .ok (.value v) w'
                have hM' : WatchOk (β := β) P EQ ((o, φ1, v) :: M) S' := by
                  intro w' k r' hk'
                  simp only [watchK] at hk'
                  rcases stepQ_some P hQ hk' with ⟨v2, hk', hd2, _⟩ | hk'
                  · obtain ⟨e, hk2⟩ := sameK_some hk'
                    subst e
                    obtain ⟨h6, h7⟩ := hM w' k r' hk2
                    exact ⟨⟨h6, val w' hd2⟩, h7⟩
                  · cases hk'
                have H := ih _ φ2 w _ ((o, φ1, v) :: M) S' hM' ⟨hS, val w hd⟩ h h3 (h4.room hr) (hk.trans h4)
                refine wpAnyH_mono (S := S') (fun _ h => h.1) _ _ _ _ ?_
                exact wpAnyH_first ho hsel (fun c a w h => absurd h (hP' _ _ _)) f listed a w (Region.free_spec ho hprop.2) hmem (.inl ⟨hw, fun w' hw' => hw'.2⟩) ⟨hS, val w hd⟩ H
              · cases h
            | false =>
              simp only [cond_false] at h
              obtain ⟨φ2, h, h2⟩ := putK_some h
              obtain ⟨h3, h4⟩ := h2 a ha1 hr
              exact wpAnyH_first ho hsel (fun c a w h => absurd h (hP' _ _ _)) f listed a w (Region.free_spec ho hprop.2) hmem (.inr ⟨hw, rfl⟩) hS
                (ih _ φ2 w _ M S hM hS h h3 (h4.room hr) (hk.trans h4))
          · cases h
        · split at h
          · split at h
            · rename_i o ho
              refine ⟨fun h0 => (by rw [h0] at hrd; cases hrd), fun j' hj' => ?_⟩
              have hjj : j' = j := by rw [hrd] at hj'; simpa using hj'
              subst hjj
              have h1 := opK_sound P E EQ hE hQ h ha hr (next := fun a' w' => S w' ∧ wpAnyH P .any ops (Post R a0 Q) S f (listed.setIfInBounds j' true) a' w') (Q := Post R a0 Q)
                fun φ' w' a' h' ha' hk' => by
                  obtain ⟨h8, h9⟩ := hM w' _ r h'
                  exact ⟨h8, ih _ φ' w' a' M S hM h8 h9 ha' (hk'.room hr) (hk.trans hk')⟩
              unfold wpOp
              simp only [ho]
              split
              · rename_i hw; rw [if_pos hw] at h1; exact .inl h1
              · rename_i hw; rw [if_neg hw] at h1; exact h1
            · cases h
          · cases h

/-- the region, by its code -/
noncomputable def drawC (R : Rg) : Code → Fr → World → (Fr → World → Option β) → Option β
  | .region _ ops true, φ, w, K => bif Region.noSelect ops then drawH P E EQ ops R ops.size (Array.replicate ops.size false) φ w.drew [] K else none
  | _, _, _, _ => none

end

theorem mk_regionH {P : Program} {E : Env} {EQ : REnv} (hE : E.Ok P) (hQ : EQ.Ok P) (hm : P.follows .mixedOrders = true) {R : Rg} {Li Lo : Vars} {S : TT Li → World → Option (TT Lo × World)} {c : Code}
    (h : ∀ x w, drawC P E EQ R c (encs Li x []) w (outN Lo .normal) = S x w) : StmtNOk P Li Lo R S c := by
  intro x w o w' hS
  have h1 := (h x w).trans hS
  unfold drawC at h1
  split at h1
  · rename_i id ops
    cases hs : Region.noSelect ops with
    | false => simp [hs] at h1
    | true =>
      simp only [hs, cond_true] at h1
      intro a ha hr
      have H := drawH_sound P E EQ hE hQ hs (Q := fun e φ' w2 => e = .normal ∧ outN Lo e φ' w2 = some (o, w')) (fun φ w h => ⟨rfl, h⟩) (fun c φ w h => by cases h.1) ops.size _ (encs Li x []) (World.drew _) a [] (fun _ => True)
        (fun w k r hk => ⟨trivial, hk⟩) trivial h1 ha hr (.refl R a)
      refine wp_mono (wp_region_held hm H) fun e a' w2 ⟨hk, φ', hφ, hx⟩ => ⟨hk, φ', hφ, hx.2⟩
  · cases h1

end Go.Fw

/- Texts of this claim, put together: Spread -/
import Derived.Test.YtcfolhdacolbjaaDoorAllShbifcnd
import Derived.LoopNIn
/- (*shred.blender).spread, which ranges over a function: what the machine does, as a Lean function of the world behind each round. -/
set_option maxRecDepth 100000
set_option linter.unusedVariables false
namespace Go.Sh
open Go.Fw Go.Proofs.Tryd Go.Proofs

/-- the loop's record -/
noncomputable def rcd (T : FuncId × Array Value) (D : Nat) (st : LoopState) : Obj := .loop { state := st, pending := none, fn := T.1, tmps := T.2, params := #[19, 20], assign := assignOf (cd (bodyOf f23) [1, 1, 1, 0]), body := roundOf (cd (bodyOf f23) [1, 1, 1, 0]), defers := D }

/-- one round: the iterator's piece, the body, the iterator's step -/
noncomputable def sprStep (K : Nat) (T : FuncId × Array Value) (D l : Nat) (c1 c2 b s : Addr) (i : Int) (w : World) : Option World := open Classical in
  bnd (shred_pieces_1_r3 K b s w) fun n _ =>
  bnd (shred_pieces_1_r4 K (.func (.yield l) #[] #[]) b i n.1 w) fun v _ =>
  if w.heap[l]? = some (rcd T D .ready) then
    bnd (shred_blender_spread_b5 K c1 i v.2.2.1 (w.putObj l (rcd T D .busy))) fun d w1 =>
    bnd (shred_blender_spread_b6 K c1 c2 v.2.2.1 d.1 w1) fun _ w2 =>
    if w2.heap[l]? = some (rcd T D .busy) then
      bnd (shred_pieces_1_r5 K b n.1 (w2.putObj l (rcd T D .ready))) fun _ w3 => some w3
    else none
  else none

noncomputable def sprLoop (K : Nat) (T : FuncId × Array Value) (D l : Nat) (c1 c2 b s : Addr) : Nat → Int → World → Option World
  | 0, _, _ => none
  | m + 1, i, w => bnd (shred_pieces_1_r1 K b w) fun c _ =>
    if c.1 = true then (sprStep K T D l c1 c2 b s i w).bind fun w3 => sprLoop K T D l c1 c2 b s m (IntKind.u32.wrap (i + 1)) w3 else some w

def spCap : List Value → Option (Addr × Addr)
  | [.pointer (some b), .pointer (some s)] => some (b, s)
  | _ => none
def spFv : Value → Option (Addr × Addr)
  | .func (.func f) pre cap => if f = 39 ∧ pre.size = 0 then spCap cap.toList else none
  | _ => none
theorem spCap_some {l : List Value} {r : Addr × Addr} (h : spCap l = some r) : l = [.pointer (some r.1), .pointer (some r.2)] := by
  unfold spCap at h
  split at h
  · rw [← Option.some.inj h]
  · cases h
theorem spFv_some {v : Value} {r : Addr × Addr} (h : spFv v = some r) : v = .func (.func 39) #[] #[.pointer (some r.1), .pointer (some r.2)] := by
  unfold spFv at h
  split at h
  · rename_i f pre cap
    obtain ⟨⟨h1, h2⟩, h⟩ := ite_some h
    rw [h1]
    have h3 := spCap_some h
    have e1 : pre = #[] := Array.eq_empty_of_size_eq_zero h2
    have e2 : cap = #[.pointer (some r.1), .pointer (some r.2)] := Array.ext' h3
    rw [e1, e2]
  · cases h

/-- the whole: behind what stands ahead of the loop -/
noncomputable def sprRest (K : Nat) (T : FuncId × Array Value) (y : Addr × Addr × Value × Unit) (w : World) : Option World := open Classical in
  (spFv y.2.2.1).bind fun bs =>
    (sprLoop K T w.heap.size (w.heap.size + 1) y.1 y.2.1 bs.1 bs.2 K 0 ((w.alloc (.deferred (some []))).alloc (rcd T w.heap.size .ready))).bind fun w2 =>
      if w2.heap[w.heap.size + 1]? = some (rcd T w.heap.size .ready) ∧ w2.heap[w.heap.size]? = some (.deferred (some [])) then
        some ((w2.putObj (w.heap.size + 1) (rcd T w.heap.size .exhausted)).putObj w.heap.size (.deferred none))
      else none

theorem ite_some2 {β : Type} {c : Prop} {inst : Decidable c} {x : Option β} {r : β} (h : @ite _ c inst x none = some r) : c ∧ x = some r := ite_some h

theorem kept_at {R : Rg} {a b : Act} (h : Kept R a b) (t : Nat) (ht : inR R t = false) {v : Value} (hv : a.tmps[t]? = some v) : b.tmps[t]? = some v := (h.slots t ht).trans hv
theorem room_sz {R : Rg} {a : Act} {n : Nat} (hs : a.tmps.size = n) (h : roomB R n = true) : Room R a := fun t ht => hs ▸ room_of h ht

theorem agree_at {φ : Fr} {a : Act} (h : Agree φ a) {t : Nat} {v : Value} (hv : get φ t = some v) : a.tmps[t]? = some v := h t v hv

theorem block_shape : roundOf (cd (bodyOf f23) [1, 1, 1, 0]) = .block 1 (.seq (cd (roundOf (cd (bodyOf f23) [1, 1, 1, 0])) [0, 0]) (cd (roundOf (cd (bodyOf f23) [1, 1, 1, 0])) [0, 1])) := by kernel_rfl
theorem assign_shape : assignOf (cd (bodyOf f23) [1, 1, 1, 0]) = .seq (cd (assignOf (cd (bodyOf f23) [1, 1, 1, 0])) [0]) (cd (assignOf (cd (bodyOf f23) [1, 1, 1, 0])) [1]) := by kernel_rfl

/-- **one call of yield** -/
theorem round_in (K : Nat) {T : FuncId × Array Value} {D l : Nat} {c1 c2 : Addr} {i : Int} {v d : Sl} {W w1 w2 : World} (hT : T.2.size = 57) (hT1 : T.2[1]? = some (.pointer (some c1))) (hT2 : T.2[2]? = some (.pointer (some c2)))
    (hl : W.heap[l]? = some (rcd T D .ready)) (h1 : shred_blender_spread_b5 K c1 i v (W.putObj l (rcd T D .busy)) = some ((d, ()), w1)) (h2 : shred_blender_spread_b6 K c1 c2 v d w1 = some ((), w2)) (hl2 : w2.heap[l]? = some (rcd T D .busy)) (n : Nat) :
    YieldAt (fen none) n prog l #[.int .u32 i, .slice v.a v.len v.cap] W fun e W' => e = .returned (.bool true) ∧ W' = w2.putObj l (rcd T D .ready) := by
  have hy := run_yield (P := prog) (args := #[.int .u32 i, .slice v.a v.len v.cap]) hl rfl
  refine ⟨_, _, _, _, hy, ?_⟩
  obtain ⟨T0, hT0⟩ : ∃ T0, ((#[19, 20] : Array Tmp).zip #[.int .u32 i, .slice v.a v.len v.cap]).foldl (fun (tmps : Array Value) (x : Tmp × Value) => tmps.setIfInBounds x.1 x.2) T.2 = T0 := ⟨_, rfl⟩
  show RoundIn (fen none) n prog l T.1 (((#[19, 20] : Array Tmp).zip #[.int .u32 i, .slice v.a v.len v.cap]).foldl (fun (tmps : Array Value) (x : Tmp × Value) => tmps.setIfInBounds x.1 x.2) T.2) (assignOf (cd (bodyOf f23) [1, 1, 1, 0])) (roundOf (cd (bodyOf f23) [1, 1, 1, 0])) W _
  have hT0' : (T.2.setIfInBounds 19 (.int .u32 i)).setIfInBounds 20 (.slice v.a v.len v.cap) = T0 := by rw [← hT0]; simp
  rw [hT0]
  have e1 : T0[1]? = some (.pointer (some c1)) := by rw [← hT0', Array.getElem?_setIfInBounds_ne (by decide), Array.getElem?_setIfInBounds_ne (by decide)]; exact hT1
  have e2 : T0[2]? = some (.pointer (some c2)) := by rw [← hT0', Array.getElem?_setIfInBounds_ne (by decide), Array.getElem?_setIfInBounds_ne (by decide)]; exact hT2
  have e19 : T0[19]? = some (.int .u32 i) := by rw [← hT0', Array.getElem?_setIfInBounds_ne (by decide), Array.getElem?_setIfInBounds_self_of_lt (by omega)]
  have e20 : T0[20]? = some (.slice v.a v.len v.cap) := by rw [← hT0', Array.getElem?_setIfInBounds_self_of_lt (by simp; omega)]
  have sz0 : T0.size = 57 := by rw [← hT0']; simp [hT]
  refine roundIn_of_wpIn trivial ?_
  rw [assign_shape]
  show (Code.seq _ _).wpIn (fen (some l)) n prog _ _ _
  refine wpIn_seq (wpIn_mono (shred_blender_spread_a3_in K (i, ()) W (i, ()) W rfl (some l) n { tmps := T0, defers := [] } (agree_cons e19 (agree_nil _)) (room_sz (n := 57) sz0 (by kernel_rfl))) ?_)
  rintro e a1 W1 hp
  cases e <;> try exact hp.elim
  obtain ⟨k1, φ1, hφ1, g1, rfl⟩ := hp
  have s1 : a1.tmps.size = 57 := k1.size.trans sz0
  refine wpIn_mono (shred_blender_spread_a4_in K (v, ()) W1 (v, ()) W1 rfl (some l) n a1 (agree_cons (kept_at k1 20 (by rfl) e20) (agree_nil _)) (room_sz s1 (by kernel_rfl))) ?_
  rintro e a2 W2 hp
  cases e <;> try exact hp.elim
  obtain ⟨k2, φ2, hφ2, g2, rfl⟩ := hp
  have s2 : a2.tmps.size = 57 := k2.size.trans s1
  have f1 : a2.tmps[1]? = some (.pointer (some c1)) := kept_at k2 1 (by rfl) (kept_at k1 1 (by rfl) e1)
  have f2 : a2.tmps[2]? = some (.pointer (some c2)) := kept_at k2 2 (by rfl) (kept_at k1 2 (by rfl) e2)
  have f3 : a2.tmps[3]? = some (.int .u32 i) := kept_at k2 3 (by rfl) (agree_at (g1 a1 hφ1) (by rfl))
  have f4 : a2.tmps[4]? = some (.slice v.a v.len v.cap) := agree_at (g2 a2 hφ2) (by rfl)
  show ∃ w₂, (Instr.beginRound l).run prog W2 = .ok () w₂ ∧ _
  refine ⟨_, run_beginRound hl rfl, ?_⟩
  rw [block_shape]
  refine wpIn_block (wpIn_seq (wpIn_mono (shred_blender_spread_b5_in K (c1, i, v, ()) _ (d, ()) w1 h1 (some l) n a2 (agree_cons f1 (agree_cons f3 (agree_cons f4 (agree_nil _)))) (room_sz s2 (by kernel_rfl))) ?_))
  rintro e a3 W3 hp
  cases e <;> try exact hp.elim
  obtain ⟨k3, φ3, hφ3, g3, rfl⟩ := hp
  have s3 : a3.tmps.size = 57 := k3.size.trans s2
  refine wpIn_mono (shred_blender_spread_b6_in K (c1, c2, v, d, ()) _ () w2 h2 (some l) n a3 (agree_cons (kept_at k3 1 (by rfl) f1) (agree_cons (kept_at k3 2 (by rfl) f2) (agree_cons (kept_at k3 4 (by rfl) f4) (agree_cons (agree_at (g3 a3 hφ3) (by rfl)) (agree_nil _))))) (room_sz s3 (by kernel_rfl))) ?_
  rintro e a4 W4 hp
  cases e <;> try exact hp.elim
  obtain ⟨k4, φ4, hφ4, g4, rfl⟩ := hp
  show ∃ v w', (Instr.endRound l none).run prog W4 = .ok v w' ∧ _
  exact ⟨_, _, run_endRound none hl2, rfl, rfl⟩

theorem pieces_shape : bodyOf f39 = .seq (cd (bodyOf f39) [0]) (.block 0 (.loop (.seq (.seq (cd (bodyOf f39) [1, 0, 0, 0, 0]) (.cond (.tmp 8) .skip (.exit 0)))
    (.seq (.block 1 (.seq (cd (bodyOf f39) [1, 0, 0, 1, 0, 0, 0]) (.seq (.seq (cd (bodyOf f39) [1, 0, 0, 1, 0, 0, 1, 0, 0]) (.cond (.tmp 22) .ret .skip)) (cd (bodyOf f39) [1, 0, 0, 1, 0, 0, 1, 1])))) (cd (bodyOf f39) [1, 0, 0, 1, 1]))))) := by kernel_rfl

theorem eval_tmp {a : Act} {t : Nat} {v : Value} (h : a.tmps[t]? = some v) : a.eval (.tmp t) = v := by simp [Act.eval, Array.getD_eq_getD_getElem?, h]

/-- the two operations behind the front: yield is called, its answer turned -/
theorem yield_ops {ty ty2 : TypeId} {pos pos2 : String} {aft aft2 : Array Edge} {ts : Array TypeId} {n : Nat} {ops : Array Oper} {l : Nat} {i : Int} {v : Sl} {a : Act} {W W2 : World} {Q : Exit → Act → World → Prop}
    (h15 : a.tmps[15]? = some (.func (.yield l) #[] #[])) (h16 : a.tmps[16]? = some (.int .u32 i)) (h20 : a.tmps[20]? = some (.slice v.a v.len v.cap)) (hs : a.tmps.size = 26)
    (hY : YieldAt (fen none) (n - 1) prog l #[.int .u32 i, .slice v.a v.len v.cap] W fun e W' => e = .returned (.bool true) ∧ W' = W2)
    (hQ : ∀ a', Kept [(21, 23)] a a' → a'.tmps[22]? = some (.bool false) → Q .normal a' W2) :
    wpListIn (fen none) n prog ops Q [{ dst := some 21, op := .call { callee := .value (.tmp 15), args := #[.tmp 16, .tmp 20], argTypes := ts }, type := ty, pos := pos, after := aft, guard := none },
      { dst := some 22, op := .unOp .not 4 (.tmp 21), type := ty2, pos := pos2, after := aft2, guard := none }] a W := by
  obtain ⟨fn, tmps, assign, body, hy, hR⟩ := hY
  refine wpListIn_plain rfl fun K hK => ⟨fun _ _ => trivial, ?_⟩
  have hx : (Oper.semAt none a.eval { dst := some 21, op := .call { callee := .value (.tmp 15), args := #[.tmp 16, .tmp 20], argTypes := ts }, type := ty, pos := pos, after := aft, guard := none }).run prog W = .ok (.round l fn tmps assign body) W := by
    have hargs : (#[Operand.tmp 16, Operand.tmp 20]).map a.eval = #[.int .u32 i, .slice v.a v.len v.cap] := by
      simp only [List.map_toArray, List.map_cons, List.map_nil, eval_tmp h16, eval_tmp h20]
    simp [Oper.semAt, execOp, resolve, Deferred.ofValue, Act.eval, h15, h16, h20, invoke, hy, go_sem]
  show (_ : Prop)
  rw [show (fen none).round = none from rfl, hx, Oper.uponIn_round]
  refine ⟨fun h => (by cases h), hR.mono ?_⟩
  rintro e W' ⟨rfl, rfl⟩
  refine hK _ _ (wpListIn_plain rfl fun K2 hK2 => ⟨fun _ _ => trivial, ?_⟩)
  have h21 : (a.put (some 21) (.bool true)).tmps[21]? = some (.bool true) := by simp [Act.put, hs]
  have hx2 : (Oper.semAt none (a.put (some 21) (.bool true)).eval { dst := some 22, op := .unOp .not 4 (.tmp 21), type := ty2, pos := pos2, after := aft2, guard := none }).run prog W' = .ok (.value (.bool false)) W' := by
    simp [Oper.semAt, execOp, eval_tmp h21, Op.unary]
  rw [show (fen none).round = none from rfl, hx2, Oper.uponIn_value]
  refine hK2 _ _ (hQ _ ?_ ?_)
  · exact (Kept.put _ (fun d e => by cases e; rfl)).trans (Kept.put _ (fun d e => by cases e; rfl))
  · simp [Act.put, hs]

theorem yield_region : opsOf (cd (bodyOf f39) [1, 0, 0, 1, 0, 0, 1, 0, 0]) = opsOf (cd (bodyOf f39) [1, 0, 0, 1, 0, 0, 1, 0, 0]) := rfl

/-- the loop of the iterator -/
theorem spr_rounds (K : Nat) {T : FuncId × Array Value} {D l : Nat} {c1 c2 b s : Addr} (hT : T.2.size = 57) (hT1 : T.2[1]? = some (.pointer (some c1))) (hT2 : T.2[2]? = some (.pointer (some c2))) (n : Nat) {W' : World} {Q : Exit → Act → World → Prop}
    (hQ : ∀ a, a.defers = [] → Q (.exit 0) a W') : ∀ (m : Nat) (i : Int) (a : Act) (W : World), sprLoop K T D l c1 c2 b s m i W = some W' → a.tmps.size = 26 → a.defers = [] →
      a.tmps[0]? = some (.func (.yield l) #[] #[]) → a.tmps[1]? = some (.pointer (some b)) → a.tmps[2]? = some (.pointer (some s)) → a.tmps[4]? = some (.int .u32 i) →
      Code.roundsIn (fen none) n prog (.seq (.seq (cd (bodyOf f39) [1, 0, 0, 0, 0]) (.cond (.tmp 8) .skip (.exit 0)))
        (.seq (.block 1 (.seq (cd (bodyOf f39) [1, 0, 0, 1, 0, 0, 0]) (.seq (.seq (cd (bodyOf f39) [1, 0, 0, 1, 0, 0, 1, 0, 0]) (.cond (.tmp 22) .ret .skip)) (cd (bodyOf f39) [1, 0, 0, 1, 0, 0, 1, 1])))) (cd (bodyOf f39) [1, 0, 0, 1, 1]))) Q m a W := by
  intro m
  induction m with
  | zero => intro i a W h; cases h
  | succ m ih =>
    intro i a W h hs hd h0 h1 h2 h4
    obtain ⟨c, W1, hc, h⟩ := bnd_some h
    rw [roundsIn_succ]
    refine wpIn_seq (wpIn_seq (wpIn_mono (shred_pieces_1_r1_in K (b, ()) W c W1 hc none n a (agree_cons h1 (agree_nil _)) (room_sz hs (by kernel_rfl))) ?_))
    rintro e a1 W2 hp
    cases e <;> try exact hp.elim
    obtain ⟨k1, φ1, hφ1, g1, rfl⟩ := hp
    have hW : W2 = W := by
      unfold shred_pieces_1_r1 at hc
      obtain ⟨v, _, hc⟩ := bind_some hc
      exact (Prod.mk.inj (Option.some.inj hc)).2.symm
    subst hW
    have s1 : a1.tmps.size = 26 := k1.size.trans hs
    have d1 : a1.defers = [] := k1.defers.trans hd
    have h8 : a1.tmps[8]? = some (.bool c.1) := agree_at (g1 a1 hφ1) (by rfl)
    refine wpIn_cond (eval_tmp h8) ?_
    cases hcb : c.1 with
    | false =>
      rw [hcb] at h
      have h : some W2 = some W' := h
      rw [← Option.some.inj h] at hQ
      exact wpIn_exit (hQ a1 d1)
    | true =>
      rw [hcb, if_pos rfl] at h
      obtain ⟨W3, hst, h⟩ := bind_some h
      unfold sprStep at hst
      obtain ⟨nn, W4, hn, hst⟩ := bnd_some hst
      obtain ⟨v, W5, hv, hst⟩ := bnd_some hst
      obtain ⟨hl, hst⟩ := ite_some2 hst
      obtain ⟨d, w1, hb5, hst⟩ := bnd_some hst
      obtain ⟨u, w2, hb6, hst⟩ := bnd_some hst
      obtain ⟨hl2, hst⟩ := ite_some2 hst
      obtain ⟨u2, w3, hr5, hst⟩ := bnd_some hst
      obtain rfl := Option.some.inj hst
      have f0 := kept_at k1 0 (by rfl) h0
      have f1 := kept_at k1 1 (by rfl) h1
      have f2 := kept_at k1 2 (by rfl) h2
      have f4 := kept_at k1 4 (by rfl) h4
      refine wpIn_skip (wpIn_seq (wpIn_block (wpIn_seq (wpIn_mono (shred_pieces_1_r3_in K (b, s, ()) W2 nn W4 hn none n a1 (agree_cons f1 (agree_cons f2 (agree_nil _))) (room_sz s1 (by kernel_rfl))) ?_))))
      rintro e a3 W6 hp
      cases e <;> try exact hp.elim
      obtain ⟨k3, φ3, hφ3, g3, rfl⟩ := hp
      have hW : W6 = W2 := by
        unfold shred_pieces_1_r3 at hn
        obtain ⟨_, _, hn⟩ := bind_some hn
        obtain ⟨_, _, hn⟩ := bind_some hn
        exact (Prod.mk.inj (Option.some.inj hn)).2.symm
      subst hW
      have s3 : a3.tmps.size = 26 := k3.size.trans s1
      have q0 := kept_at k3 0 (by rfl) f0
      have q1 := kept_at k3 1 (by rfl) f1
      have q2 := kept_at k3 2 (by rfl) f2
      have q4 := kept_at k3 4 (by rfl) f4
      have q5 : a3.tmps[5]? = some (.int .i64 nn.1) := agree_at (g3 a3 hφ3) (by rfl)
      have hv15 : v.1 = .func (.yield l) #[] #[] ∧ v.2.1 = i ∧ W5 = W6 := by
        unfold shred_pieces_1_r4 at hv
        obtain ⟨_, _, hv⟩ := bind_some hv
        obtain ⟨_, hv⟩ := ite_some hv
        obtain ⟨_, hv⟩ := ite_some hv
        obtain ⟨e1, e2⟩ := Prod.mk.inj (Option.some.inj hv)
        rw [← e1]
        exact ⟨rfl, rfl, e2.symm⟩
      obtain ⟨v1, v2, v3, vu⟩ := v
      obtain ⟨e1, e2, e3⟩ := hv15
      have e1 : v1 = .func (.yield l) #[] #[] := e1
      have e2 : v2 = i := e2
      subst e1; subst e2; subst e3
      refine wpIn_seq (wpIn_seq (shred_pieces_1_r4_in K (.func (.yield l) #[] #[], b, v2, nn.1, ()) W5 _ W5 hv none n a3 (agree_cons q0 (agree_cons q1 (agree_cons q4 (agree_cons q5 (agree_nil _))))) (room_sz s3 (by kernel_rfl)) _ ?_))
      intro a4 k4 g4
      have s4 : a4.tmps.size = 26 := k4.size.trans s3
      have hY := round_in K hT hT1 hT2 hl hb5 hb6 hl2 (n - 1)
      refine yield_ops (agree_at g4 (by rfl)) (agree_at g4 (by rfl)) (agree_at g4 (by rfl)) s4 hY ?_
      intro a5 k5 h22
      refine wpIn_cond (eval_tmp h22) (wpIn_skip ?_)
      have s5 : a5.tmps.size = 26 := k5.size.trans s4
      have r1 := kept_at k5 1 (by rfl) (kept_at k4 1 (by rfl) q1)
      have r5 := kept_at k5 5 (by rfl) (kept_at k4 5 (by rfl) q5)
      refine wpIn_mono (shred_pieces_1_r5_in K (b, nn.1, ()) _ u2 w3 hr5 none n a5 (agree_cons r1 (agree_cons r5 (agree_nil _))) (room_sz s5 (by kernel_rfl))) ?_
      rintro e a6 W7 hp
      cases e <;> try exact hp.elim
      obtain ⟨k6, φ6, hφ6, g6, rfl⟩ := hp
      have s6 : a6.tmps.size = 26 := k6.size.trans s5
      have t4 := kept_at k6 4 (by rfl) (kept_at k5 4 (by rfl) (kept_at k4 4 (by rfl) q4))
      refine wpIn_mono (shred_pieces_1_r2_in K (v2, ()) W7 _ W7 rfl none n a6 (agree_cons t4 (agree_nil _)) (room_sz s6 (by kernel_rfl))) ?_
      rintro e a7 W8 hp
      cases e <;> try exact hp.elim
      obtain ⟨k7, φ7, hφ7, g7, rfl⟩ := hp
      have carry : ∀ t, inR [(15, 21)] t = false → inR [(21, 23)] t = false → inR [(23, 26)] t = false → inR [(4, 5), (9, 11)] t = false → ∀ {v : Value}, a3.tmps[t]? = some v → a7.tmps[t]? = some v := fun t e1 e2 e3 e4 _ hv =>
        kept_at k7 t e4 (kept_at k6 t e3 (kept_at k5 t e2 (kept_at k4 t e1 hv)))
      refine ih (IntKind.u32.wrap (v2 + 1)) a7 W8 h (k7.size.trans s6) ?_ (carry 0 (by rfl) (by rfl) (by rfl) (by rfl) q0) (carry 1 (by rfl) (by rfl) (by rfl) (by rfl) q1) (carry 2 (by rfl) (by rfl) (by rfl) (by rfl) q2) (agree_at (g7 a7 hφ7) (by rfl))
      rw [k7.defers, k6.defers, k5.defers, k4.defers, k3.defers, d1]

theorem shred_blender_spread_facts : FunFacts prog 23 f23 (bodyOf f23) [(0, .ptr)] [(0, 57)] := ⟨func23, by kernel_rfl, by kernel_rfl, by kernel_rfl, by kernel_rfl, by kernel_rfl⟩
theorem shred_pieces_1_facts : FunFacts prog 39 f39 (bodyOf f39) [(0, .val), (1, .addr), (2, .addr)] [(0, 26)] := ⟨func39, by kernel_rfl, by kernel_rfl, by kernel_rfl, by kernel_rfl, by kernel_rfl⟩

/-- the iterator -/
theorem pieces_in (K : Nat) {T : FuncId × Array Value} {D l : Nat} {c1 c2 b s : Addr} (hT : T.2.size = 57) (hT1 : T.2[1]? = some (.pointer (some c1))) (hT2 : T.2[2]? = some (.pointer (some c2))) (n : Nat) {W W' : World} {m : Nat}
    (h : sprLoop K T D l c1 c2 b s m 0 W = some W') : CallsIn (fen none) n prog 39 #[.func (.yield l) #[] #[], .pointer (some b), .pointer (some s)] W fun e W2 => (∃ v, e = .returned v) ∧ W2 = W' := by
  refine callsIn_of_wp shred_pieces_1_facts.at_ shred_pieces_1_facts.body trivial ?_
  rw [pieces_shape]
  have nt : f39.ntmps = 26 := by kernel_rfl
  rw [nt]
  obtain ⟨a0, ha0⟩ : ∃ a0 : Act, ({ tmps := #[.func (.yield l) #[] #[], .pointer (some b), .pointer (some s)] ++ Array.replicate (26 - (#[.func (.yield l) #[] #[], .pointer (some b), .pointer (some s)] : Array Value).size) undef, defers := [] } : Act) = a0 := ⟨_, rfl⟩
  rw [ha0]
  have s0 : a0.tmps.size = 26 := by rw [← ha0]; simp
  have d0 : a0.defers = [] := by rw [← ha0]
  have q0 : a0.tmps[0]? = some (.func (.yield l) #[] #[]) := by rw [← ha0]; simp
  have q1 : a0.tmps[1]? = some (.pointer (some b)) := by rw [← ha0]; simp
  have q2 : a0.tmps[2]? = some (.pointer (some s)) := by rw [← ha0]; simp
  refine wpIn_seq (wpIn_mono (shred_pieces_1_r0_in K () W (0, ()) W rfl none n a0 (agree_nil _) (room_sz s0 (by kernel_rfl))) ?_)
  rintro e a1 W1 hp
  cases e <;> try exact hp.elim
  obtain ⟨k1, φ1, hφ1, g1, rfl⟩ := hp
  refine wpIn_block (wpIn_loop_rounds m (spr_rounds K hT hT1 hT2 n (W' := W') ?_ m 0 a1 W1 h (k1.size.trans s0) (k1.defers.trans d0) (kept_at k1 0 (by rfl) q0) (kept_at k1 1 (by rfl) q1) (kept_at k1 2 (by rfl) q2) (agree_at (g1 a1 hφ1) (by rfl))))
  intro a hd
  refine ⟨hd, .tuple #[], results_none (by kernel_rfl) _ _ _, ⟨_, rfl⟩, rfl⟩

/-- what it asks, what it does -/
def sprPre (K : Nat) (p : Option Addr) (w : World) : Prop := ∃ y w1, shred_blender_spread_pre K p w = some (y, w1) ∧ ∀ T : FuncId × Array Value, T.2.size = 57 → T.2[1]? = some (.pointer (some y.1)) → T.2[2]? = some (.pointer (some y.2.1)) → ∃ w', sprRest K T y w1 = some w'
def sprPost (K : Nat) (p : Option Addr) (w : World) (_ : Unit) (w' : World) : Prop := ∃ y w1, shred_blender_spread_pre K p w = some (y, w1) ∧ ∃ T : FuncId × Array Value, T.2.size = 57 ∧ T.2[1]? = some (.pointer (some y.1)) ∧ T.2[2]? = some (.pointer (some y.2.1)) ∧ sprRest K T y w1 = some w'

noncomputable def shred_blender_spread {β : Type} (K : Nat) (p : Option Addr) (w : World) (k : Unit → World → Option β) : Option β := relC (sprPre K) (sprPost K) p w k

theorem rest_shape : restOf 3 (bodyOf f23) = .block 0 (.rangeFunc (.tmp 18) #[19, 20] (assignOf (cd (bodyOf f23) [1, 1, 1, 0])) (roundOf (cd (bodyOf f23) [1, 1, 1, 0]))) := by kernel_rfl

theorem shred_blender_spread_calls (K : Nat) {β : Type} (x : TT [(0, .ptr)]) (w : World) (k : TR [] → World → Option β) (r : β) (h : shred_blender_spread K x.1 w k = some r) : Calls prog 23 (encA [(0, .ptr)] x).toArray w (fun e w3 => ∃ y, e = .returned (resV (encR [] y)) ∧ k y w3 = some r) := by
  obtain ⟨p, u⟩ := x
  obtain ⟨⟨y, w1, hpre, hrest⟩, hk⟩ := relC_some h
  show Calls prog 23 #[.pointer p] w _
  refine Calls.mono (R := fun e w' => e = .returned (.tuple #[]) ∧ sprPost K p w () w') ?_ (fun e w' ⟨he, hp⟩ => ⟨(), he, hk () w' hp⟩)
  refine (callsIn_wide (n := 0)).1 (callsIn_of_wp_marks shred_blender_spread_facts.at_ shred_blender_spread_facts.body trivial (wpIn_wide.2 ?_))
  have nt : f23.ntmps = 57 := by kernel_rfl
  rw [nt]
  obtain ⟨a0, ha0⟩ : ∃ a0 : Act, ({ tmps := #[.pointer p] ++ Array.replicate (57 - (#[.pointer p] : Array Value).size) undef, defers := [] } : Act) = a0 := ⟨_, rfl⟩
  rw [ha0]
  have s0 : a0.tmps.size = 57 := by rw [← ha0]; simp
  have d0 : a0.defers = [] := by rw [← ha0]
  have q0 : a0.tmps[0]? = some (.pointer p) := by rw [← ha0]; simp
  refine chain_exec (shred_blender_spread_Eok K) (shred_blender_spread_Rok K) rfl (shred_blender_spread_pre_orc K) (K := outN [(1, .addr), (2, .addr), (18, .val)]) (r := (y, w1)) (a0 := a0) 3 (bodyOf f23) [] (encs [(0, .ptr)] (p, ()) []) w a0 (by kernel_rfl) (subC_nil _) ((shred_blender_spread_pre_ex K (p, ()) w).trans hpre) ?_ ?_ (agree_cons q0 (agree_nil _)) (room_sz s0 (by kernel_rfl)) (.refl _ _)
  · intro φ w2 a hn ha hr hkp
    obtain ⟨hag, rfl⟩ := outN_normal hn
    have g := hag a ha
    obtain ⟨c1, c2, fv, yu⟩ := y
    have t1 : a.tmps[1]? = some (.pointer (some c1)) := agree_at g (by rfl)
    have t2 : a.tmps[2]? = some (.pointer (some c2)) := agree_at g (by rfl)
    have t18 : a.tmps[18]? = some fv := agree_at g (by rfl)
    have sz : a.tmps.size = 57 := hkp.size.trans s0
    rw [rest_shape]
    refine (wpIn_wide (n := 0)).1 (wpIn_block (wpIn_rangeFunc ?_))
    intro fn hfn
    obtain ⟨w', hw'⟩ := hrest (fn, a.tmps) sz t1 t2
    have hw'' := hw'
    unfold sprRest at hw'
    obtain ⟨bs, hfv, hw'⟩ := bind_some hw'
    · obtain ⟨b, s⟩ := bs
      have hfv := spFv_some hfv
      simp only at hfv
      subst hfv
      obtain ⟨W2, hloop, hw'⟩ := bind_some hw'
      obtain ⟨⟨hl, hD⟩, hw'⟩ := ite_some2 hw'
      have hw' := Option.some.inj hw'
      refine ⟨w2.heap.size + 1, _, ((w2.alloc (.deferred (some []))).alloc (rcd (fn, a.tmps) w2.heap.size .ready)), { target := .fn (.func 39) #[.pointer (some b), .pointer (some s)], args := #[.func (.yield (w2.heap.size + 1)) #[] #[]] }, ((w2.alloc (.deferred (some []))).alloc (rcd (fn, a.tmps) w2.heap.size .ready)), 39, #[.func (.yield (w2.heap.size + 1)) #[] #[], .pointer (some b), .pointer (some s)], ((w2.alloc (.deferred (some []))).alloc (rcd (fn, a.tmps) w2.heap.size .ready)), run_enterLoop_outer _ _ _ _ _, ?_, fun _ _ => trivial, ?_, fun h => (by cases h), (pieces_in K (T := (fn, a.tmps)) sz t1 t2 (0 - 1) hloop).mono ?_⟩
      · simp only [resolve, eval_tmp t18]
        simp [go_sem]
      · simp [invoke, shred_pieces_1_facts.enter]
      · rintro e W3 ⟨⟨v, rfl⟩, rfl⟩
        refine ⟨none, _, run_endLoop (r := { state := .ready, pending := none, fn := fn, tmps := a.tmps, params := #[19, 20], assign := assignOf (cd (bodyOf f23) [1, 1, 1, 0]), body := roundOf (cd (bodyOf f23) [1, 1, 1, 0]), defers := w2.heap.size }) hl (by simp), ?_⟩
        show bodyPostM _ _ _ _ _ .normal _ _
        have hd : a.defers = [] := hkp.defers.trans d0
        refine ⟨by simp, .inl ⟨_, _, rfl, run_takeDeferred (ds := []) ?_, ?_⟩⟩
        · rw [World.putObj_heap_other (by omega)]; exact hD
        · show LeavesInM _ _ _ _ _ _ a.defers _ _
          rw [hd]
          refine ⟨.tuple #[], results_none (by kernel_rfl) _ _ _, rfl, _, _, hpre, (fn, a.tmps), sz, t1, t2, ?_⟩
          rw [hw'', ← hw']
          rfl
  · intro e φ w2 a hne hk2 ha hkp
    cases e <;> first | exact absurd rfl hne | cases hk2

noncomputable def shred_blender_spread_ce (K : Nat) : CE := funC [(0, .ptr)] [] (fun {_} x w k => shred_blender_spread K x.1 w k)
theorem shred_blender_spread_ok (K : Nat) : (shred_blender_spread_ce K).Ok prog 23 := funC_ok (Rt := []) (S := (fun {_} x w k => shred_blender_spread K x.1 w k)) shred_blender_spread_facts fun x w k r h => shred_blender_spread_calls K x w k r h

end Go.Sh

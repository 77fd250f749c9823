/- Texts of this claim, put together: ShrC, ShrD, ShrE, ShrF, ShrG, ShrH, ShrI, ShrJ, ShrO, ShrK, ShrL, ShrM, ShrN, ShrQ -/
import Derived.Test.YtcfolhdacolbjaaDoorAllLawjemapn
import Derived.Test.YtcfolhdacolbjaaDoorAllShBbogdag
/- Stripes on the machine: spread, whole. -/
set_option linter.unusedVariables false
set_option maxRecDepth 100000
namespace Go.Sh
open Go.Fw Go.Sha Go.RowKit Go.Proofs.Tryd

theorem It.loop {K : Nat} (hK : 18446744073709551616 ≤ K) {T : FuncId × Array Value} {D l gb gs g1 g2 N0 : Nat} {p : Addr} {h : Int} (hk : known h = true) {C S : List Int} {sb : Sl} :
    ∀ (f m i k : Nat) (W : World) (sc : Sl) (zs ys : List Int), It W T D l gb gs g1 g2 N0 p h C S sb sc zs ys k (ops h C S).size → ys.length ≤ f → f < m → i + f < 4294967295 →
      ∃ W', sprLoop K T D l ⟨g1, 0, none⟩ ⟨g2, 0, none⟩ ⟨gb, 0, none⟩ ⟨gs, 0, none⟩ m (i : Int) W = some W' ∧ W'.heap[l]? = some (rcd T D .ready) ∧ W'.heap[D]? = some (.deferred (some [])) ∧
        BlAt W' p h sb (zs.take k ++ Shr.sprG (ops h C S) f i ys) ∧ Upd (fun j => sb.blk = some j ∨ N0 ≤ j) W W' := by
  intro f
  induction f with
  | zero =>
    intro m i k W sc zs ys H hy hm hi
    obtain ⟨m, rfl⟩ : ∃ q, m = q + 1 := ⟨m - 1, by omega⟩
    have hy0 : ys = [] := List.eq_nil_of_length_eq_zero (by omega)
    have hsl : sc.len = ys.length := by rw [H.src.len, ints_length]
    have r1 : shred_pieces_1_r1 K ⟨gb, 0, none⟩ W = some ((false, ()), W) := by
      unfold shred_pieces_1_r1
      rw [slV_ld H.bb, Option.bind_some, hsl, hy0]
      rfl
    refine ⟨W, ?_, H.hl, H.hD, ?_, Upd.refl _ _⟩
    · show bnd (shred_pieces_1_r1 K ⟨gb, 0, none⟩ W) _ = _
      rw [r1, bnd_ok, if_neg (by decide)]
    · have hl := H.len
      rw [hy0] at hl
      simp at hl
      rw [List.take_of_length_le (by omega)]
      show BlAt W p h sb (zs ++ [])
      rw [List.append_nil]
      exact H.bl
  | succ f ih =>
    intro m i k W sc zs ys H hy hm hi
    obtain ⟨m, rfl⟩ : ∃ q, m = q + 1 := ⟨m - 1, by omega⟩
    have hsl : sc.len = ys.length := by rw [H.src.len, ints_length]
    have hl := H.len
    by_cases hy0 : ys = []
    · have r1 : shred_pieces_1_r1 K ⟨gb, 0, none⟩ W = some ((false, ()), W) := by
        unfold shred_pieces_1_r1
        rw [slV_ld H.bb, Option.bind_some, hsl, hy0]
        rfl
      refine ⟨W, ?_, H.hl, H.hD, ?_, Upd.refl _ _⟩
      · show bnd (shred_pieces_1_r1 K ⟨gb, 0, none⟩ W) _ = _
        rw [r1, bnd_ok, if_neg (by decide)]
      · rw [hy0] at hl
        simp at hl
        unfold Shr.sprG
        rw [if_pos hy0, List.append_nil, List.take_of_length_le (by omega)]
        exact H.bl
    · obtain ⟨z1, z2, z3⟩ := ops_size hk C S
      have hyl : 0 < ys.length := List.length_pos_iff.2 hy0
      obtain ⟨n, hn⟩ : ∃ n, n = min (ops h C S).size ys.length := ⟨_, rfl⟩
      obtain ⟨W1, e1, H1, u1⟩ := H.step hK hk hy0 (i := i) (by omega) hn
      have hD : (((ops h C S).D i (ys.take n)).take n).length = n := by rw [List.length_take, ops_D hk]; omega
      obtain ⟨W2, f1, f2, f3, f4, f5⟩ := ih m (i + 1) (k + n) W1 _ _ _ H1 (by rw [List.length_drop]; omega) (by omega) (by omega)
      have r1 : shred_pieces_1_r1 K ⟨gb, 0, none⟩ W = some ((true, ()), W) := by
        unfold shred_pieces_1_r1
        have : decide (((sc.len : Nat) : Int) > 0) = true := by simp only [decide_eq_true_eq]; omega
        rw [slV_ld H.bb, Option.bind_some, this]
      have hw : IntKind.u32.wrap ((i : Int) + 1) = ((i + 1 : Nat) : Int) := by rw [IntKind.wrap_u32]; omega
      refine ⟨W2, ?_, f2, f3, ?_, u1.trans' f5 fun _ _ h => h⟩
      · show bnd (shred_pieces_1_r1 K ⟨gb, 0, none⟩ W) _ = _
        rw [r1, bnd_ok, if_pos rfl, e1, Option.bind_some, hw, f1]
      · have et : (zs.take k ++ ((ops h C S).D i (ys.take n)).take n ++ zs.drop (k + n)).take (k + n) = zs.take k ++ ((ops h C S).D i (ys.take n)).take n := by
          rw [List.take_left']
          rw [List.length_append, List.length_take, hD]; omega
        rw [et] at f4
        have e2 : ys.take n = ys.take (ops h C S).size := by
          rw [hn]
          by_cases c : (ops h C S).size ≤ ys.length
          · rw [Nat.min_eq_left c]
          · rw [Nat.min_eq_right (by omega), List.take_of_length_le (Nat.le_refl _), List.take_of_length_le (by omega)]
        have e3 : Shr.sprG (ops h C S) f (i + 1) (ys.drop n) = Shr.sprG (ops h C S) f (i + 1) (ys.drop (ops h C S).size) := by
          rw [hn]
          by_cases c : (ops h C S).size ≤ ys.length
          · rw [Nat.min_eq_left c]
          · rw [Nat.min_eq_right (by omega), List.drop_eq_nil_of_le (Nat.le_refl _), List.drop_eq_nil_of_le (by omega)]
        unfold Shr.sprG
        rw [if_neg hy0, ← hn, ← e2, ← e3, ← List.append_assoc]
        exact f4

theorem z3_eq : z3 = #[.int .i64 0] := rfl

/-- spread, whole: whatever the loop's record bears -/
theorem spr_all {K : Nat} (hK : 18446744073709551616 ≤ K) {w : World} {p : Addr} {h : Int} (hk : known h = true) {C S : List Int} (T : Tabs w C S) {sb : Sl} {xs : List Int} (bl : BlAt w p h sb xs) (hx : xs.length ≤ 1024) (hlow : ∀ j, sb.blk = some j → 4 ≤ j) :
    ∃ y w1, shred_blender_spread_pre K (some p) w = some (y, w1) ∧ ∀ R : FuncId × Array Value, ∃ w', sprRest K R y w1 = some w' ∧ BlAt w' p h sb (Shr.spread (ops h C S) xs) ∧ Upd (fun j => sb.blk = some j) w w' := by
  obtain ⟨z1, z2, z3'⟩ := ops_size hk C S
  have hT4 := T.lt
  -- the boxes
  obtain ⟨w1, hw1⟩ : ∃ w1, w.alloc (.cells #[.pointer (some p)] 59) = w1 := ⟨_, rfl⟩
  have n1 : newB #[(.pointer (some p))] 59 w = some (⟨w.heap.size, 0, none⟩, w1) := by rw [← hw1]; rfl
  have u1 : Upd none_ w w1 := by rw [← hw1]; exact Upd.alloc _ _ _
  have k1 : Bk 59 w1 w.heap.size [.pointer (some p)] := by rw [← hw1]; exact Bk.new w _ _
  have s1 : w1.heap.size = w.heap.size + 1 := by rw [← hw1]; simp
  obtain ⟨w2, hw2⟩ : ∃ w2, w1.alloc (.cells z3 3) = w2 := ⟨_, rfl⟩
  have n2 : newB z3 3 w1 = some (⟨w1.heap.size, 0, none⟩, w2) := by rw [← hw2]; rfl
  have u2 : Upd none_ w1 w2 := by rw [← hw2]; exact Upd.alloc _ _ _
  have k2 : Bk 3 w2 w1.heap.size [.int .i64 0] := by rw [← hw2]; exact Bk.new w1 _ _
  have s2 : w2.heap.size = w1.heap.size + 1 := by rw [← hw2]; simp
  obtain ⟨w3, n3, k3, u3⟩ := k2.stC (i := 0) (by simp) (.int .i64 0)
  have k3 : Bk 3 w3 w1.heap.size [.int .i64 0] := k3
  -- region 2
  have u03 : Upd none_ w w3 := ((u1.and0 u2).trans u3).mono fun j hj e => by
    rcases e with e | e
    · exact e
    · omega
  have u4 : Upd none_ w w3.drew := u03.drew
  have bl4 := bl.upd0 u4
  have k14 : Bk 59 w3.drew w.heap.size [.pointer (some p)] := ((k1.upd0 u2).upd u3 (by omega)).drew
  have hsrc : Src w3.drew sb (ints .u8 xs) := bl4.own.src ints_one
  have hbl := bl.len
  obtain ⟨sc, w5, n5, l5, o5, u5, b5⟩ := apd_ok sliceB (OwnS.nil 5 w3.drew) hsrc (by show (0 + sb.len) * 1 ≤ _; omega)
  have u5 : Upd none_ w3.drew w5 := u5.mono fun j _ e => by cases e
  have o5 : OwnS 5 w5 sc (ints .u8 xs) := o5
  obtain ⟨w6, n6, u6⟩ := Size_ok h w5
  rw [z3'] at n6
  obtain ⟨w7, hw7⟩ : ∃ w7, w6.alloc (.cells #[slV sc] 22) = w7 := ⟨_, rfl⟩
  have n7 : newB #[(.slice sc.a sc.len sc.cap)] 22 w6 = some (⟨w6.heap.size, 0, none⟩, w7) := by rw [← hw7]; rfl
  have u7 : Upd none_ w6 w7 := by rw [← hw7]; exact Upd.alloc _ _ _
  have k7 : Bk 22 w7 w6.heap.size [slV sc] := by rw [← hw7]; exact Bk.new w6 _ _
  have s7 : w7.heap.size = w6.heap.size + 1 := by rw [← hw7]; simp
  obtain ⟨w8, hw8⟩ : ∃ w8, w7.alloc (.cells #[.int .i64 (((ops h C S).size : Nat) : Int)] 3) = w8 := ⟨_, rfl⟩
  have n8 : newB #[(.int .i64 (((ops h C S).size : Nat) : Int))] 3 w7 = some (⟨w7.heap.size, 0, none⟩, w8) := by rw [← hw8]; rfl
  have u8 : Upd none_ w7 w8 := by rw [← hw8]; exact Upd.alloc _ _ _
  have k8 : Bk 3 w8 w7.heap.size [.int .i64 (((ops h C S).size : Nat) : Int)] := by rw [← hw8]; exact Bk.new w7 _ _
  have s8 : w8.heap.size = w7.heap.size + 1 := by rw [← hw8]; simp
  have u48 : Upd none_ w3.drew w8 := ((u5.and0 u6).and0 u7).and0 u8
  have u08 : Upd none_ w w8 := u4.and0 u48
  have q5 := u5.size
  have q6 := u6.size
  have qd : w3.drew.heap.size = w3.heap.size := rfl
  have q3 := u3.size
  have npc : shred_pieces sc (((ops h C S).size : Nat) : Int) w6 = some ((.func (.func 39) #[] #[(.pointer (some ⟨w6.heap.size, 0, none⟩)), (.pointer (some ⟨w7.heap.size, 0, none⟩))], ()), w8) := by
    unfold shred_pieces
    rw [n7, bnd_ok, n8, bnd_ok]
  have ldp : ∀ {W : World}, Upd none_ w3.drew W → ldP ⟨w.heap.size, 0, none⟩ W = some (some p) := fun u => (k14.upd0 u).ldP (i := 0) rfl
  have hs0 : shred_blender_spread_s0 K ⟨w.heap.size, 0, none⟩ w3 = some ((.func (.func 39) #[] #[(.pointer (some ⟨w6.heap.size, 0, none⟩)), (.pointer (some ⟨w7.heap.size, 0, none⟩))], ()), w8) := by
    have r0 : Upd none_ w3.drew w3.drew := Upd.refl _ _
    have n5' : apd prog 22 22 (.slice none 0 0) (.slice sb.a sb.len sb.cap) w3.drew = some (sc, w5) := n5
    unfold shred_blender_spread_s0
    rw [ldp r0, Option.bind_some, Option.bind_some, bl4.sl, Option.bind_some, Option.bind_some, Option.bind_some, bl4.hash, Option.bind_some, n5', bnd_ok]
    rw [(bl4.upd0 u5).hash, Option.bind_some, sameK_self, ldp u5, Option.bind_some, sameK_self, (bl4.upd0 u5).sl, Option.bind_some, sameK_self, Option.bind_some, sameK_self, n6, bnd_ok]
    have u46 := u5.and0 u6
    rw [(bl4.upd0 u46).hash, Option.bind_some, sameK_self, ldp u46, Option.bind_some, sameK_self, (bl4.upd0 u46).sl, Option.bind_some, sameK_self, Option.bind_some, sameK_self]
    dsimp only
    rw [npc, bnd_ok, (bl4.upd0 u48).hash, Option.bind_some, sameK_self, ldp u48, Option.bind_some, sameK_self, (bl4.upd0 u48).sl, Option.bind_some, sameK_self, Option.bind_some, sameK_self]
  have hpre : shred_blender_spread_pre K (some p) w = some ((⟨w.heap.size, 0, none⟩, ⟨w1.heap.size, 0, none⟩, .func (.func 39) #[] #[(.pointer (some ⟨w6.heap.size, 0, none⟩)), (.pointer (some ⟨w7.heap.size, 0, none⟩))], ()), w8) := by
    unfold shred_blender_spread_pre
    rw [n1, bnd_ok, n2, bnd_ok, n3, Option.bind_some, hs0, bnd_ok]
  refine ⟨_, w8, hpre, fun R => ?_⟩
  -- the loop
  obtain ⟨W0, hW0⟩ : ∃ W0, (w8.alloc (.deferred (some []))).alloc (rcd R w8.heap.size .ready) = W0 := ⟨_, rfl⟩
  have uD : Upd none_ w8 W0 := by rw [← hW0]; exact (Upd.alloc _ _ _).and0 (Upd.alloc _ _ _)
  have hl0 : W0.heap[w8.heap.size + 1]? = some (rcd R w8.heap.size .ready) := by
    rw [← hW0]
    have := heap_alloc_new (w8.alloc (.deferred (some []))) (rcd R w8.heap.size .ready)
    rwa [World.size_alloc] at this
  have hD0 : W0.heap[w8.heap.size]? = some (.deferred (some [])) := by
    rw [← hW0]
    exact (Below.heap_alloc _ _ _ (by simp)).trans (heap_alloc_new w8 _)
  have hsz0 : W0.heap.size = w8.heap.size + 2 := by rw [← hW0]; simp
  have uW : Upd none_ w W0 := u08.and0 uD
  have H : It W0 R w8.heap.size (w8.heap.size + 1) w6.heap.size w7.heap.size w.heap.size w1.heap.size w.heap.size p h C S sb sc xs xs 0 (ops h C S).size := by
    refine ⟨hl0, hD0, (k7.upd0 u8).upd0 uD, k8.upd0 uD, (k14.upd0 u48).upd0 uD, ?_, bl.upd0 uW, ?_, bl.inn, by omega, hx, T.upd0 uW, ⟨hT4, fun j hj => ⟨hlow j hj, bl.own.lt hj⟩, bl.blk⟩, by omega, by omega, ?_⟩
    · exact (k3.drew.upd0 u48).upd0 uD
    · exact (o5.src ints_one).upd0 (((u6.and0 u7).and0 u8).and0 uD)
    · intro q hq hne
      rcases b5 with e | e
      · rw [Sl.blk, hq] at e; cases e
      · rw [Sl.blk, hq] at e
        have e : q.block = w3.drew.heap.size := Option.some.inj e
        have := o5.lt (k := q.block) (by rw [Sl.blk, hq]; rfl)
        omega
  obtain ⟨W1, f1, f2, f3, f4, f5⟩ := H.loop hK hk xs.length K 0 0 W0 sc xs xs (Nat.le_refl _) (by omega) (by omega)
  rw [List.take_zero, List.nil_append] at f4
  have f4 : BlAt W1 p h sb (Shr.spread (ops h C S) xs) := f4
  have q1 := f5.size
  have g1 := Upd.putObj W1 (w8.heap.size + 1) (rcd R w8.heap.size .exhausted)
  have g2 := Upd.putObj (W1.putObj (w8.heap.size + 1) (rcd R w8.heap.size .exhausted)) w8.heap.size (.deferred none)
  have hsb := fun j hj => bl.own.lt (k := j) hj
  have hpb := bl.blk
  refine ⟨_, ?_, ((f4.upd g1 (by omega) fun j hj e => by have := hsb j hj; omega).upd g2 (by omega) fun j hj e => by have := hsb j hj; omega), (((uW.trans f5).trans g1).trans g2).mono fun j hj e => ?_⟩
  · unfold sprRest
    have hf : spFv (.func (.func 39) #[] #[(.pointer (some ⟨w6.heap.size, 0, none⟩)), (.pointer (some ⟨w7.heap.size, 0, none⟩))]) = some (⟨w6.heap.size, 0, none⟩, ⟨w7.heap.size, 0, none⟩) := rfl
    dsimp only
    rw [hf, Option.bind_some]
    dsimp only
    rw [hW0]
    have f1 : sprLoop K R w8.heap.size (w8.heap.size + 1) ⟨w.heap.size, 0, none⟩ ⟨w1.heap.size, 0, none⟩ ⟨w6.heap.size, 0, none⟩ ⟨w7.heap.size, 0, none⟩ K 0 W0 = some W1 := f1
    rw [f1, Option.bind_some, if_pos ⟨f2, f3⟩]
  · rcases e with (((e | e) | e) | e)
    · exact e.elim
    · rcases e with e | e
      · exact e
      · omega
    · omega
    · omega

theorem spread_ok {K : Nat} (hK : 18446744073709551616 ≤ K) {w : World} {p : Addr} {h : Int} (hk : known h = true) {C S : List Int} (T : Tabs w C S) {sb : Sl} {xs : List Int} (bl : BlAt w p h sb xs) (hx : xs.length ≤ 1024) (hlow : ∀ j, sb.blk = some j → 4 ≤ j)
    {β : Type} {k : Unit → World → Option β} {r : β} (hn : ∀ w', BlAt w' p h sb (Shr.spread (ops h C S) xs) → Upd (fun j => sb.blk = some j) w w' → k () w' = some r) : shred_blender_spread K (some p) w k = some r := by
  obtain ⟨y, w1, hpre, hall⟩ := spr_all hK hk T bl hx hlow
  refine relC_ok ⟨y, w1, hpre, fun R _ _ _ => ?_⟩ ?_ ?_
  · obtain ⟨w', h1, _⟩ := hall R
    exact ⟨w', h1⟩
  · rintro u w' ⟨y', w1', hp, R, _, _, _, hr⟩
    rw [hpre] at hp
    obtain ⟨rfl, rfl⟩ := Prod.mk.inj (Option.some.inj hp)
    obtain ⟨w2, h1, h2, h3⟩ := hall R
    rw [hr] at h1
    obtain rfl := Option.some.inj h1
    exact hn _ h2 h3
  · obtain ⟨T0, hT0⟩ : ∃ T0 : Array Value, T0 = ((Array.replicate 57 undef).setIfInBounds 1 (.pointer (some y.1))).setIfInBounds 2 (.pointer (some y.2.1)) := ⟨_, rfl⟩
    obtain ⟨w', h1, _⟩ := hall (0, T0)
    refine ⟨(), w', y, w1, hpre, (0, T0), by rw [hT0]; simp, by rw [hT0]; simp, by rw [hT0]; simp, h1⟩

end Go.Sh

/- Stripes on the machine: through all stripes; Diffuse. -/
set_option linter.unusedVariables false
set_option maxRecDepth 100000
namespace Go.Sh
open Go.Fw Go.Sha Go.RowKit Go.Proofs.Tryd

theorem mkS_full (w : World) {n : Nat} (hn : n ≤ 1099511627776) :
    ∃ w', mkS prog 22 (.int .i64 (n : Int)) (.int .i64 (n : Int)) w = some (⟨some ⟨w.heap.size, 0, none⟩, n, n⟩, w') ∧ OwnS 5 w' ⟨some ⟨w.heap.size, 0, none⟩, n, n⟩ (ints .u8 (List.replicate n 0)) ∧ Upd none_ w w' := by
  obtain ⟨i, hi, hsz, hz, hby⟩ := sliceB.info
  obtain ⟨w', hr, ho, hg⟩ := run_make_full (P := prog) w 0 22 5 i (.int .u8 0) 1 sliceB.ht hi hz hsz .i64 .i64 n (by rw [hby]; omega) (by simp only [maxLen]; omega) (Nat.zero_le _)
  obtain ⟨s, h1, h2, h3⟩ := OwnS.of_row ho
  have hs : s = ⟨some ⟨w.heap.size, 0, none⟩, n, n⟩ := by
    cases s
    simp only [Value.slice.injEq] at h1
    simp [← h1.1, ← h1.2.1, ← h1.2.2]
  have hc : (madeCells (Value.int .u8 0).cells (n * 1)).toList = ints .u8 (List.replicate n 0) := by
    apply List.ext_getElem
    · simp [madeCells]
    · intro k h1 h2; simp [madeCells, Nat.mod_one, Value.cells]
  rw [hs, hc] at h3
  refine ⟨w', ?_, h3, (Upd.of_grown hg).mono fun k _ e => by cases e⟩
  unfold mkS
  rw [hr]

theorem built45 (s : Sl) : prog.built 45 [(0, (.slice s.a s.len s.cap))] = some #[.slice s.a s.len s.cap] := by kernel_rfl
theorem built47 (h : Int) (v : Value) : prog.built 47 [(0, (.int .i64 h)), (1, (.agg #[v]))] = some #[.int .i64 h, v] := by kernel_rfl
theorem z47_eq : z47 = #[.int .i64 0, .slice none 0 0] := rfl

theorem zeros_in (n : Nat) : ∀ x ∈ List.replicate n (0 : Int), InK .u8 x := fun x hx => by rw [(List.mem_replicate.1 hx).2]; exact ⟨by decide, by decide⟩

theorem addL_zero (h : Int) (C S : List Int) : ∀ xs : List Int, (∀ x ∈ xs, InK .u8 x) → Shr.addL (ops h C S) (List.replicate xs.length 0) xs = xs
  | [], _ => rfl
  | x :: xs, hx => by
    show xr8 0 x :: Shr.addL (ops h C S) (List.replicate xs.length 0) xs = x :: xs
    obtain ⟨a, rfl, ha⟩ := (hx x (by simp)).nat
    have e : xr8 0 (a : Int) = ((0 ^^^ a : Nat) : Int) := xr8_nat (a := 0) (by decide) ha
    rw [addL_zero h C S xs fun y hy => hx y (by simp [hy]), e, Nat.zero_xor]

/-- a blender that is made -/
theorem blender_ok (w : World) (h : Int) {n : Nat} (hn : n ≤ 1099511627776) :
    ∃ w1 w2 w3, mkS prog 22 (.int .i64 (n : Int)) (.int .i64 (n : Int)) w = some (⟨some ⟨w.heap.size, 0, none⟩, n, n⟩, w1) ∧
      newB z47 47 w1 = some (⟨w1.heap.size, 0, none⟩, w2) ∧ stA ⟨w1.heap.size, 0, none⟩ #[.int .i64 h, .slice (some ⟨w.heap.size, 0, none⟩) n n] w2 = some w3 ∧
      BlAt w3 ⟨w1.heap.size, 0, none⟩ h ⟨some ⟨w.heap.size, 0, none⟩, n, n⟩ (List.replicate n 0) ∧ Upd none_ w w3 ∧ w.heap.size < w1.heap.size := by
  obtain ⟨w1, a1, a2, a3⟩ := mkS_full w hn
  obtain ⟨w2, b1, b2, b3, b4⟩ := newB_ok z47 47 w1
  have b2 : Bk 47 w2 w1.heap.size [.int .i64 0, .slice none 0 0] := b2
  obtain ⟨w3, c1, c2, c3⟩ := b2.stA (o := 0) (vs := #[.int .i64 h, .slice (some ⟨w.heap.size, 0, none⟩) n n]) (by simp) (by simp [Value.oneCell'])
  have hlt : w.heap.size < w1.heap.size := a2.lt rfl
  have u2 : Upd none_ w w2 := a3.and0 b3
  refine ⟨w1, w2, w3, a1, b1, c1, ⟨⟨47, w1.heap.size, 0, _, rfl, c2, rfl, rfl⟩, (a2.upd0 b3).upd c3 fun k hk e => ?_, ?_, zeros_in n⟩, u2.trans' c3 fun k hk e => ?_, hlt⟩
  · have : w.heap.size = k := Option.some.inj hk
    omega
  · show some w.heap.size ≠ some w1.heap.size
    intro e
    have := Option.some.inj e; omega
  · omega

theorem through_loop {K : Nat} (hK : 18446744073709551616 ≤ K) {p : Addr} {h : Int} (hk : known h = true) {C S : List Int} {sb : Sl} {n : Nat} (hn0 : 0 < n) (hn : n ≤ 1024) (hlow : ∀ j, sb.blk = some j → 4 ≤ j) {β : Type} {r : β} :
    ∀ (c m : Nat) (w : World) (t : Sl) (acc xs : List Int) (k : Unit → World → Option β), c < m → acc.length = n → xs.length = c * n → xs.length < 9223372036854775807 → Tabs w C S → BlAt w p h sb acc → Src w t (ints .u8 xs) → (∀ x ∈ xs, InK .u8 x) →
      (∀ q, t.a = some q → xs ≠ [] → sb.blk ≠ some q.block) →
      (∀ w', BlAt w' p h sb (Shr.through (ops h C S) n c acc xs) → Upd (fun j => sb.blk = some j) w w' → k () w' = some r) →
      shred_blender_through_l0 K m (some p) t ((n : Nat) : Int) w k = some r := by
  intro c
  induction c with
  | zero =>
    intro m w t acc xs k hm hacc hxs hl T bl hs hx htb hn
    obtain ⟨m, rfl⟩ : ∃ q, m = q + 1 := ⟨m - 1, by omega⟩
    have htl : t.len = xs.length := by rw [hs.len, ints_length]
    have hx0 : xs.length = 0 := by rw [hxs, Nat.zero_mul]
    show shred_blender_through_l0_b K (shred_blender_through_l0 K m) (some p) t ((n : Nat) : Int) w k = _
    unfold shred_blender_through_l0_b
    rw [if_neg (by rw [htl, hx0]; decide)]
    exact hn w bl (Upd.refl _ _)
  | succ c ih =>
    intro m w t acc xs k hm hacc hxs hl T bl hs hx htb hn
    obtain ⟨m, rfl⟩ : ∃ q, m = q + 1 := ⟨m - 1, by omega⟩
    have htl : t.len = xs.length := by rw [hs.len, ints_length]
    have hcap := hs.cap
    have hx1 : n ≤ xs.length := by rw [hxs, Nat.add_mul]; omega
    have hne : xs ≠ [] := fun e => by rw [e] at hx1; simp at hx1; omega
    have hsc : Src w ⟨sla t.a 0 t.cap 1, n - 0, t.cap - 0⟩ (ints .u8 (xs.take n)) := by
      have hc := hs.cut (n := n) (by omega)
      rw [ints_take] at hc
      rw [sla_zero, Nat.sub_zero, Nat.sub_zero]
      exact hc
    obtain ⟨w1, e1, bl1, u1⟩ := mix_ok hK C S bl hsc (fun y hy => hx y (List.mem_of_mem_take hy)) (by rw [List.length_take]; omega) (by rw [List.length_take]; omega) (fun q hq _ => htb q (by rw [sla_zero] at hq; exact hq) hne)
    have hlb : ∀ k, k < 4 → ¬ sb.blk = some k := fun k hk e => by have := hlow k e; omega
    have c1 : (0 : Int) ≤ ((n : Nat) : Int) ∧ ((n : Nat) : Int) ≤ ((t.cap : Nat) : Int) := by omega
    have c2 : (0 : Int) ≤ ((n : Nat) : Int) ∧ ((n : Nat) : Int) ≤ ((t.len : Nat) : Int) := by omega
    show shred_blender_through_l0_b K (shred_blender_through_l0 K m) (some p) t ((n : Nat) : Int) w k = _
    unfold shred_blender_through_l0_b
    rw [if_pos (decide_eq_true (show ((t.len : Nat) : Int) > 0 by omega)), if_pos c1, Int.toNat_natCast, e1, bnd_ok]
    refine spread_ok hK hk (T.upd u1 hlb) bl1 (by rw [Shr.addL_length]; omega) hlow fun w2 bl2 u2 => ?_
    have u02 := u1.trans' u2 fun _ _ e => e
    rw [if_pos c2]
    have hsz := ops_size hk C S
    have hs2 : Src w ⟨sla t.a n t.cap 1, t.len - n, t.cap - n⟩ (ints .u8 (xs.drop n)) := by
      have h2 := src_sub hs (lo := n) (by rw [ints_length]; omega)
      have e : (ints .u8 xs).drop n = ints .u8 (xs.drop n) := by simp [ints, List.map_drop]
      rwa [e] at h2
    have hb2 : ∀ q, (sla t.a n t.cap 1) = some q → sb.blk ≠ some q.block := fun q hq => by
      obtain ⟨q', hq', eb⟩ := sla_blk hq
      rw [eb]; exact htb q' hq' hne
    refine ih m w2 ⟨sla t.a n t.cap 1, t.len - n, t.cap - n⟩ _ (xs.drop n) k (by omega) (by rw [Shr.spread_length _ (by omega) (ops_D hk C S), Shr.addL_length, hacc]) (by rw [List.length_drop, hxs, Nat.add_mul]; omega) (by rw [List.length_drop]; omega) (T.upd u02 hlb) bl2 (src_updW hs2 u02 fun q hq _ => hb2 q hq) (fun x hx' => hx x (List.mem_of_mem_drop hx')) (fun q hq _ => hb2 q hq) fun w' bl' u' => hn w' bl' (u02.trans' u' fun _ _ e => e)

theorem through_ok {K : Nat} (hK : 18446744073709551616 ≤ K) {w : World} {p : Addr} {h : Int} (hk : known h = true) {C S : List Int} (T : Tabs w C S) {sb t : Sl} {acc xs : List Int} (bl : BlAt w p h sb acc) (hn0 : 0 < acc.length) (hn : acc.length ≤ 1024) {c : Nat} (hc : xs.length = c * acc.length)
    (hs : Src w t (ints .u8 xs)) (hx : ∀ x ∈ xs, InK .u8 x) (hl : xs.length < 9223372036854775807) (hlow : ∀ j, sb.blk = some j → 4 ≤ j) (htb : ∀ q, t.a = some q → xs ≠ [] → sb.blk ≠ some q.block)
    {β : Type} {k : Unit → World → Option β} {r : β} (hn : ∀ w', BlAt w' p h sb (Shr.through (ops h C S) acc.length c acc xs) → Upd (fun j => sb.blk = some j) w w' → k () w' = some r) : shred_blender_through K (some p) t w k = some r := by
  have hcl : c ≤ xs.length := by rw [hc]; exact Nat.le_mul_of_pos_right c hn0
  have e := through_loop hK hk hn0 ‹acc.length ≤ 1024› hlow c K w t acc xs (fun y w' => k () w') (by omega) rfl hc hl T bl hs hx htb fun w' b u => hn w' b u
  unfold shred_blender_through
  rw [Option.bind_some, bl.sl, Option.bind_some, bl.len]
  exact e

/-! ### Diffuse -/

def difE (h : Int) (n : Nat) : Int := if known h = false then 10 else if 1024 < n then 4 else 0
def difV (h : Int) (C S xs : List Int) : List Int := if difE h xs.length = 0 then Shr.spread (ops h C S) xs else []

theorem Diffuse_ok {K : Nat} (hK : 18446744073709551616 ≤ K) {w : World} {h : Int} {C S : List Int} (T : Tabs w C S) {t : Sl} {xs : List Int} (hs : Src w t (ints .u8 xs)) (hx : ∀ x ∈ xs, InK .u8 x) (hlt : ∀ q, t.a = some q → xs ≠ [] → q.block < w.heap.size)
    {β : Type} {k : Sl × Int × Unit → World → Option β} {r : β} (hn : ∀ s w', OwnS 5 w' s (ints .u8 (difV h C S xs)) → Fresh w.heap.size s → Upd none_ w w' → k (s, difE h xs.length, ()) w' = some r) : shred_Diffuse K h t w k = some r := by
  have htl : t.len = xs.length := by rw [hs.len, ints_length]
  obtain ⟨w1, e1, u1⟩ := Size_ok h w
  have hT := T.lt
  unfold shred_Diffuse
  rw [e1, bnd_ok]
  dsimp only
  rw [size_zero]
  cases hk : known h with
  | false =>
    have hd : difE h xs.length = 10 := by simp [difE, hk]
    have := hn nilS w1 (by rw [difV, hd]; exact OwnS.nil _ _) (fun k hk => by cases hk) u1
    rw [hd] at this
    rw [if_pos (by decide)]
    exact this
  | true =>
    rw [if_neg (by decide), htl]
    by_cases c : 1024 < xs.length
    · have hd : difE h xs.length = 4 := by simp [difE, hk, c]
      have := hn nilS w1 (by rw [difV, hd]; exact OwnS.nil _ _) (fun k hk => by cases hk) u1
      rw [hd] at this
      rw [if_pos (by simp; omega)]
      exact this
    · have hd : difE h xs.length = 0 := by simp [difE, hk, c]
      rw [hd, difV, if_pos hd] at hn
      obtain ⟨w2, w3, w4, a1, a2, a3, bl, u4, hl2⟩ := blender_ok w1 h (n := xs.length) (by omega)
      have q1 := u1.size
      have u04 := u1.and0 u4
      rw [if_neg (by simp; omega), a1, bnd_ok]
      have b45 := built45 ⟨some ⟨w1.heap.size, 0, none⟩, xs.length, xs.length⟩
      dsimp only at b45 ⊢
      rw [b45, Option.bind_some, built47, Option.bind_some, a2, bnd_ok, if_pos (by rfl), a3, Option.bind_some]
      obtain ⟨w5, e5, bl5, u5⟩ := mix_ok hK C S bl (hs.upd0 u04) hx (by rw [List.length_replicate]; omega) (by omega) fun q hq hne e => by
        have := hlt q hq hne
        have e2 : w1.heap.size = q.block := Option.some.inj e
        omega
      rw [e5, bnd_ok]
      rw [addL_zero h C S xs hx] at bl5
      have hlow : ∀ j, (⟨some ⟨w1.heap.size, 0, none⟩, xs.length, xs.length⟩ : Sl).blk = some j → w.heap.size ≤ j := fun j hj => by
        have e2 : w1.heap.size = j := Option.some.inj hj
        omega
      have u05 : Upd none_ w w5 := u04.trans' u5 fun j hj e => by have := hlow j e; omega
      refine spread_ok hK hk (T.upd0 u05) bl5 (by omega) (fun j hj => by have := hlow j hj; omega) fun w6 bl6 u6 => ?_
      have u06 : Upd none_ w w6 := u05.trans' u6 fun j hj e => by have := hlow j e; omega
      rw [bl6.sl, Option.bind_some]
      exact hn _ w6 bl6.own hlow u06

end Go.Sh

/- Stripes on the machine: Split, Merge. -/
set_option linter.unusedVariables false
set_option maxRecDepth 100000
namespace Go.Sh
open Go.Fw Go.Sha Go.RowKit Go.Proofs.Tryd

def rndE (n : Nat) (st : Int) : Int := if n < 1 then 5 else if 1024 < n then 4 else if st < 1 ∨ 4000 < st then 40 else 0

theorem rnd_zero {n : Nat} {st : Int} (h : rndE n st = 0) : 1 ≤ n ∧ n ≤ 1024 ∧ 1 ≤ st ∧ st ≤ 4000 := by
  unfold rndE at h
  split at h
  · cases h
  · split at h
    · cases h
    · split at h
      · cases h
      · omega

theorem mul_small {n : Nat} {st : Int} (h1 : n ≤ 1024) (h2 : 1 ≤ st) (h3 : st ≤ 4000) : ∃ c : Nat, st = (c : Int) + 1 ∧ IntKind.i64.wrap (((n : Nat) : Int) * IntKind.i64.wrap (st - 1)) = ((c * n : Nat) : Int) ∧ c * n ≤ 4096000 := by
  obtain ⟨c, hc⟩ : ∃ c : Nat, st = (c : Int) + 1 := ⟨(st - 1).toNat, by omega⟩
  have hm : c * n ≤ 4000 * 1024 := Nat.mul_le_mul (by omega) h1
  have e1 : IntKind.i64.wrap (st - 1) = (c : Int) := by rw [w64 (by omega) (by omega)]; omega
  have e2 : ((n : Nat) : Int) * (c : Int) = ((c * n : Nat) : Int) := by rw [Int.natCast_mul, Int.mul_comm]
  refine ⟨c, hc, ?_, by omega⟩
  rw [e1, e2, w64 (by omega) (by omega)]

theorem shRandom_ok (n : Nat) (st : Int) : shred_Random ((n : Nat) : Int) st = some ((if rndE n st = 0 then IntKind.i64.wrap (((n : Nat) : Int) * IntKind.i64.wrap (st - 1)) else 0), rndE n st, ()) := by
  unfold shred_Random shred_Random_s0
  by_cases c1 : n < 1
  · have e : rndE n st = 5 := by unfold rndE; rw [if_pos c1]
    rw [if_pos (decide_eq_true (show ((n : Nat) : Int) < 1 by omega)), e]; rfl
  · rw [if_neg (by simp only [decide_eq_true_eq]; omega)]
    by_cases c2 : 1024 < n
    · have e : rndE n st = 4 := by unfold rndE; rw [if_neg c1, if_pos c2]
      rw [if_pos (decide_eq_true (show ((n : Nat) : Int) > 1024 by omega)), e]; rfl
    · rw [if_neg (by simp only [decide_eq_true_eq]; omega)]
      by_cases c3 : st < 1
      · have e : rndE n st = 40 := by unfold rndE; rw [if_neg c1, if_neg c2, if_pos (Or.inl c3)]
        rw [if_pos (by simpa using c3), e]; rfl
      · rw [if_neg (by simpa using c3)]
        by_cases c4 : 4000 < st
        · have e : rndE n st = 40 := by unfold rndE; rw [if_neg c1, if_neg c2, if_pos (Or.inr c4)]
          rw [if_pos (by simpa using c4), e]; rfl
        · have e : rndE n st = 0 := by unfold rndE; rw [if_neg c1, if_neg c2, if_neg (by omega)]
          rw [if_neg (by simpa using c4), e]; rfl

def splE (h : Int) (n : Nat) (st : Int) (m : Nat) : Int :=
  if known h = false then 10 else if rndE n st ≠ 0 then rndE n st else if (m : Int) ≠ IntKind.i64.wrap (((n : Nat) : Int) * IntKind.i64.wrap (st - 1)) then 41 else 0
def splV (h : Int) (C S secret : List Int) (st : Int) (random : List Int) : List Int := if splE h secret.length st random.length = 0 then Shr.split (ops h C S) secret random else []

theorem spl_zero {h : Int} {n : Nat} {st : Int} {m : Nat} (e : splE h n st m = 0) : known h = true ∧ 1 ≤ n ∧ n ≤ 1024 ∧ ∃ c : Nat, st = (c : Int) + 1 ∧ m = c * n ∧ m ≤ 4096000 := by
  unfold splE at e
  split at e
  · cases e
  · rename_i hk
    split at e
    · rename_i h1; exact absurd e h1
    · rename_i h1
      obtain ⟨a1, a2, a3, a4⟩ := rnd_zero (Decidable.not_not.1 h1)
      obtain ⟨c, b1, b2, b3⟩ := mul_small a2 a3 a4
      split at e
      · cases e
      · rename_i h2
        rw [b2] at h2
        refine ⟨by simpa using hk, a1, a2, c, b1, ?_, ?_⟩ <;> omega

/-- bytes are wiped -/
theorem wipe_ok {w : World} {p : Addr} {h : Int} {sb : Sl} {xs : List Int} (bl : BlAt w p h sb xs) : ∃ w', shred_buffer_wipe (some (p.add 1)) w = some ((), w') ∧ Upd (fun j => sb.blk = some j) w w' := by
  obtain ⟨w', h1, _, h3⟩ := clr_ok sliceB rfl bl.own (n := sb.len) (Nat.le_refl _) sb.cap
  refine ⟨w', ?_, h3⟩
  unfold shred_buffer_wipe shred_Wipe
  rw [Option.bind_some, bl.sl, Option.bind_some, h1, bnd_ok, bnd_ok]

theorem Split_main {K : Nat} (hK : 18446744073709551616 ≤ K) {w : World} {h : Int} (hk : known h = true) {C S : List Int} (T : Tabs w C S) {t t2 : Sl} {xs ys : List Int} (hs : Src w t (ints .u8 xs)) (hx : ∀ x ∈ xs, InK .u8 x)
    (hs2 : Src w t2 (ints .u8 ys)) (hy : ∀ x ∈ ys, InK .u8 x) (hn0 : 1 ≤ xs.length) (hn1 : xs.length ≤ 1024) {c : Nat} (hc : ys.length = c * xs.length) (hm : ys.length ≤ 4096000) {p : Addr} {sb : Sl} (bl : BlAt w p h sb (List.replicate xs.length 0))
    (hlow : ∀ j, sb.blk = some j → 4 ≤ j) (hlt : ∀ q, t.a = some q → xs ≠ [] → sb.blk ≠ some q.block) (hlt2 : ∀ q, t2.a = some q → ys ≠ [] → sb.blk ≠ some q.block)
    {β : Type} {k : Out Unit (Sl × Int × Unit) → World → Option β} {r : β} (hn : ∀ s w', OwnS 5 w' s (ints .u8 (Shr.split (ops h C S) xs ys)) → Fresh w.heap.size s → BlAt w' p h sb (Shr.addL (ops h C S) (Shr.before (ops h C S) xs.length ys) xs) → Upd (fun j => sb.blk = some j) w w' → k (.ret (s, 0, ())) w' = some r) :
    shred_Split_p1 K t t2 ((ys.length : Nat) : Int) p w k = some r := by
  have htl : t.len = xs.length := by rw [hs.len, ints_length]
  have htl2 : t2.len = ys.length := by rw [hs2.len, ints_length]
  unfold shred_Split_p1
  refine through_ok hK hk T bl (by rw [List.length_replicate]; omega) (by rw [List.length_replicate]; omega) (c := c) (by rw [List.length_replicate]; exact hc) hs2 hy (by omega) hlow hlt2 fun w5 bl5 u5 => ?_
  have hcd : c = ys.length / xs.length := by rw [hc, Nat.mul_div_cancel _ (by omega)]
  have hth : Shr.through (ops h C S) (List.replicate xs.length (0 : Int)).length c (List.replicate xs.length 0) ys = Shr.before (ops h C S) xs.length ys := by
    unfold Shr.before; rw [List.length_replicate, hcd]
  rw [hth] at bl5
  have hbl : (Shr.before (ops h C S) xs.length ys).length = xs.length := Shr.before_length (by have := ops_size hk C S; omega) (ops_D hk C S) _ _
  obtain ⟨w6, e6, bl6, u6⟩ := mix_ok hK C S bl5 (src_updW hs u5 fun q hq hne => hlt q hq hne) hx (by omega) (by omega) fun q hq hne => hlt q hq hne
  have u06 := u5.trans' u6 fun _ _ e => e
  have q6 := u06.size
  have hw : IntKind.i64.wrap (((ys.length : Nat) : Int) + ((t.len : Nat) : Int)) = ((ys.length + xs.length : Nat) : Int) := by rw [htl, w64 (by omega) (by omega)]; omega
  obtain ⟨w7, e7, o7, u7⟩ := mkS_ok w6 (c := ys.length + xs.length) (by omega)
  rw [e6, bnd_ok, hw, e7, bnd_ok]
  have bl7 := (bl6.upd0 u7).upd0 (Upd.refl none_ w7).drew
  have u07 : Upd (fun j => sb.blk = some j) w w7.drew := (u06.and0 u7).drew
  have o7 := o7.upd0 (Upd.refl none_ w7).drew
  rw [bl7.sl, Option.bind_some]
  obtain ⟨s8, w8, e8, l8, o8, u8, b8⟩ := apd_ok sliceB o7 (src_updW hs2 u07 fun q hq hne => hlt2 q hq hne) (by show (0 + t2.len) * 1 ≤ _; omega)
  have hf : ∀ (j : Nat), (⟨some ⟨w6.heap.size, 0, none⟩, 0, ys.length + xs.length⟩ : Sl).blk = some j → w6.heap.size ≤ j := fun j hj => by
    have e2 : w6.heap.size = j := Option.some.inj hj
    omega
  have hsb : ∀ j, sb.blk = some j → j < w6.heap.size := fun j hj => bl6.own.lt hj
  have hpb := bl6.blk
  have bl8 := bl7.upd u8 (fun e => by have := hf _ e; omega) fun j hj e => by have := hf _ e; have := hsb j hj; omega
  have e8 : apd prog 22 22 (.slice (some ⟨w6.heap.size, 0, none⟩) 0 (ys.length + xs.length)) (.slice t2.a t2.len t2.cap) w7.drew = some (s8, w8) := e8
  rw [e8, bnd_ok, bl8.sl, Option.bind_some, sameK_self]
  have hq7 : w6.heap.size ≤ w7.drew.heap.size := u7.size
  have hf8 : ∀ j, s8.blk = some j → w6.heap.size ≤ j := fun j hj => by
    rcases b8 with e | e
    · rw [e] at hj; exact hf j hj
    · rw [e] at hj; have e2 : w7.drew.heap.size = j := Option.some.inj hj; omega
  have hbl8 := bl8.len
  rw [Shr.addL_length, hbl] at hbl8
  obtain ⟨s9, w9, e9, l9, o9, u9, b9⟩ := apd_ok sliceB o8 (bl8.own.src ints_one) (by rw [l8]; show (0 + t2.len + sb.len) * 1 ≤ _; omega)
  have hq8 := u8.size
  have hf9 : ∀ j, s9.blk = some j → w6.heap.size ≤ j := fun j hj => by
    rcases b9 with e | e
    · rw [e] at hj; exact hf8 j hj
    · rw [e] at hj; have e2 : w8.heap.size = j := Option.some.inj hj; omega
  have bl9 := bl8.upd u9 (fun e => by have := hf8 _ e; omega) fun j hj e => by have := hf8 _ e; have := hsb j hj; omega
  rw [e9, bnd_ok]
  refine hn s9 w9 ?_ (fun j hj => by have := hf9 j hj; omega) bl9 ?_
  · rw [List.nil_append, ← ints_append] at o9
    exact o9
  · have u08 := u07.trans' u8 fun j hj e => by have := hf j e; omega
    exact u08.trans' u9 fun j hj e => by have := hf8 j e; omega

theorem Split_ok {K : Nat} (hK : 18446744073709551616 ≤ K) {w : World} {h st : Int} {C S : List Int} (T : Tabs w C S) {t t2 : Sl} {xs ys : List Int} (hs : Src w t (ints .u8 xs)) (hx : ∀ x ∈ xs, InK .u8 x) (hlt : ∀ q, t.a = some q → xs ≠ [] → q.block < w.heap.size)
    (hs2 : Src w t2 (ints .u8 ys)) (hy : ∀ x ∈ ys, InK .u8 x) (hlt2 : ∀ q, t2.a = some q → ys ≠ [] → q.block < w.heap.size)
    {β : Type} {k : Sl × Int × Unit → World → Option β} {r : β} (hn : ∀ s w', OwnS 5 w' s (ints .u8 (splV h C S xs st ys)) → Fresh w.heap.size s → Upd none_ w w' → k (s, splE h xs.length st ys.length, ()) w' = some r) : shred_Split K h t st t2 w k = some r := by
  have htl : t.len = xs.length := by rw [hs.len, ints_length]
  have htl2 : t2.len = ys.length := by rw [hs2.len, ints_length]
  obtain ⟨w1, e1, u1⟩ := Size_ok h w
  have hT := T.lt
  have bad : ∀ e, splE h xs.length st ys.length = e → e ≠ 0 → k (nilS, e, ()) w1 = some r := fun e he h0 => by
    have := hn nilS w1 (by rw [splV, he, if_neg h0]; exact OwnS.nil _ _) (fun k hk => by cases hk) u1
    rwa [he] at this
  unfold shred_Split shred_Split_p0
  rw [e1, bnd_ok]
  dsimp only
  rw [size_zero]
  cases hk : known h with
  | false =>
    rw [if_pos (by decide)]
    exact bad 10 (by simp [splE, hk]) (by decide)
  | true =>
    rw [if_neg (by decide), htl, shRandom_ok, Option.bind_some]
    dsimp only
    by_cases c1 : rndE xs.length st = 0
    · rw [if_neg (by rw [c1]; decide), if_pos c1, htl2]
      by_cases c2 : (ys.length : Int) = IntKind.i64.wrap (((xs.length : Nat) : Int) * IntKind.i64.wrap (st - 1))
      · have hd : splE h xs.length st ys.length = 0 := by simp [splE, hk, c1, ← c2]
        obtain ⟨_, a1, a2, c, a3, a4, a5⟩ := spl_zero hd
        rw [hd, splV, if_pos hd] at hn
        obtain ⟨w2, w3, w4, b1, b2, b3, bl, u4, hl2⟩ := blender_ok w1 h (n := xs.length) (by omega)
        have q1 := u1.size
        have u04 := u1.and0 u4
        have q4 := u04.size
        rw [if_neg (by rw [← c2]; simp), ← c2, b1, bnd_ok]
        have b45 := built45 ⟨some ⟨w1.heap.size, 0, none⟩, xs.length, xs.length⟩
        dsimp only at b45 ⊢
        rw [b45, Option.bind_some, built47, Option.bind_some, b2, bnd_ok, if_pos (by rfl), b3, Option.bind_some]
        have hlow : ∀ j, (⟨some ⟨w1.heap.size, 0, none⟩, xs.length, xs.length⟩ : Sl).blk = some j → w.heap.size ≤ j := fun j hj => by
          have e2 : w1.heap.size = j := Option.some.inj hj
          omega
        unfold deferK
        dsimp only
        refine Split_main hK hk (T.upd0 u04) (hs.upd0 u04) hx (hs2.upd0 u04) hy a1 a2 a4 a5 bl (fun j hj => by have := hlow j hj; omega) (fun q hq hne e => by have := hlt q hq hne; have := hlow _ e; omega) (fun q hq hne e => by have := hlt2 q hq hne; have := hlow _ e; omega) fun s w5 o5 f5 bl5 u5 => ?_
        have u05 : Upd none_ w w5 := u04.trans' u5 fun j hj e => by have := hlow j e; omega
        obtain ⟨w6, e6, u6⟩ := wipe_ok bl5
        unfold shred_Split_t
        dsimp only
        rw [e6, bnd_ok]
        refine hn s w6 (o5.upd u6 fun j hj e => ?_) (fun j hj => by have := f5 j hj; omega) (u05.trans' u6 fun j hj e => by have := hlow j e; omega)
        have := f5 j hj
        have := bl.own.lt e
        omega
      · rw [if_pos (by simpa using c2)]
        exact bad 41 (by simp [splE, hk, c1, c2]) (by decide)
    · rw [if_pos (by simpa using c1)]
      exact bad _ (by simp [splE, hk, c1]) c1

end Go.Sh

/- Stripes on the machine: Merge. -/
set_option linter.unusedVariables false
set_option maxRecDepth 100000
namespace Go.Sh
open Go.Fw Go.Sha Go.RowKit Go.Proofs.Tryd

def merE (h : Int) (n : Nat) (st : Int) : Int :=
  if known h = false then 10 else if st < 1 ∨ 4000 < st then 40 else if n = 0 then 41 else if Int.tmod (n : Int) st ≠ 0 then 41 else if 1024 < IntKind.i64.wrap (Int.tdiv (n : Int) st) then 41 else 0
def merV (h : Int) (C S m : List Int) (st : Int) : List Int := if merE h m.length st = 0 then Shr.merge (ops h C S) (m.length / st.toNat) m else []

theorem tdiv_st {n c : Nat} (hn : n < 9223372036854775808) : IntKind.i64.wrap (Int.tdiv (n : Int) ((c : Int) + 1)) = ((n / (c + 1) : Nat) : Int) ∧ Int.tmod (n : Int) ((c : Int) + 1) = ((n % (c + 1) : Nat) : Int) := by
  have e : ((c : Int) + 1) = ((c + 1 : Nat) : Int) := by omega
  have hl : n / (c + 1) ≤ n := Nat.div_le_self _ _
  rw [e]
  refine ⟨?_, rfl⟩
  show IntKind.i64.wrap ((n / (c + 1) : Nat) : Int) = _
  generalize n / (c + 1) = q at hl
  rw [w64 (by omega) (by omega)]

theorem mer_zero {h : Int} {n : Nat} {st : Int} (hn : n < 9223372036854775808) (e : merE h n st = 0) : known h = true ∧ ∃ c z : Nat, st = (c : Int) + 1 ∧ n = (c + 1) * z ∧ 1 ≤ z ∧ z ≤ 1024 ∧ c + 1 ≤ 4000 ∧ z = n / (c + 1) := by
  unfold merE at e
  split at e
  · cases e
  · rename_i hk
    split at e
    · cases e
    · rename_i h1
      obtain ⟨c, hc⟩ : ∃ c : Nat, st = (c : Int) + 1 := ⟨(st - 1).toNat, by omega⟩
      obtain ⟨t1, t2⟩ := tdiv_st (n := n) (c := c) hn
      rw [hc, t2, t1] at e
      split at e
      · cases e
      · rename_i h2
        split at e
        · cases e
        · rename_i h3
          split at e
          · cases e
          · rename_i h4
            have h5 : n % (c + 1) = 0 := by omega
            have h6 := Nat.div_add_mod n (c + 1)
            rw [h5, Nat.add_zero] at h6
            have hz : 1 ≤ n / (c + 1) := by
              rcases Nat.eq_zero_or_pos (n / (c + 1)) with h7 | h7
              · rw [h7] at h6; omega
              · exact h7
            exact ⟨by simpa using hk, c, n / (c + 1), hc, h6.symm, hz, by omega, by omega, rfl⟩

theorem Merge_s0_ok (K : Nat) (h : Int) {m : Sl} {xs : List Int} (hm : m.len = xs.length) (st : Int) (w : World) : ∃ w1, Upd none_ w w1 ∧ (if merE h xs.length st = 0 then shred_Merge_s0 K h m st w = some (.norm (), w1) else shred_Merge_s0 K h m st w = some (.ret (nilS, merE h xs.length st, ()), w1)) := by
  obtain ⟨w1, e1, u1⟩ := Size_ok h w
  refine ⟨w1, u1, ?_⟩
  have key : shred_Merge_s0 K h m st w = if known h = false then some (.ret (nilS, 10, ()), w1) else if st < 1 ∨ 4000 < st then some (.ret (nilS, 40, ()), w1) else if xs.length = 0 then some (.ret (nilS, 41, ()), w1) else if Int.tmod (xs.length : Int) st ≠ 0 then some (.ret (nilS, 41, ()), w1) else if 1024 < IntKind.i64.wrap (Int.tdiv (xs.length : Int) st) then some (.ret (nilS, 41, ()), w1) else some (.norm (), w1) := by
    unfold shred_Merge_s0 shred_Merge_s1
    rw [e1, bnd_ok]
    dsimp only
    rw [size_zero, hm]
    by_cases h0 : known h = false
    · rw [h0]; rfl
    · have h0 : known h = true := by simpa using h0
      rw [h0]
      rw [if_neg (show ¬ (!true) = true by decide), if_neg (show ¬ (true = false) by decide)]
      by_cases c1 : st < 1
      · rw [if_pos (decide_eq_true c1), if_pos (Or.inl c1)]; rfl
      · rw [if_neg (fun e => c1 (of_decide_eq_true e)), bnd_ok]
        dsimp only
        by_cases c2 : st > 4000
        · rw [if_pos (decide_eq_true c2), if_pos (Or.inr c2)]
        · rw [if_neg (fun e => c2 (of_decide_eq_true e)), if_neg (show ¬ (st < 1 ∨ 4000 < st) by omega)]
          have h3 : ((((xs.length : Nat) : Int) == 0) = true) = (xs.length = 0) := by rw [beq_iff_eq]; simp
          have h4 : ((Int.tmod ((xs.length : Nat) : Int) st != 0) = true) = (Int.tmod (xs.length : Int) st ≠ 0) := by simp
          have h5 : (decide (IntKind.i64.wrap (Int.tdiv ((xs.length : Nat) : Int) st) > 1024) = true) = (1024 < IntKind.i64.wrap (Int.tdiv (xs.length : Int) st)) := by simp
          simp only [h3, h4, h5, if_pos (show st ≠ 0 by omega)]
  rw [key]
  unfold merE
  repeat' split
  all_goals simp_all

theorem Merge_main {K : Nat} (hK : 18446744073709551616 ≤ K) {w : World} {h : Int} (hk : known h = true) {C S : List Int} (T : Tabs w C S) {t : Sl} {xs : List Int} (hs : Src w t (ints .u8 xs)) (hx : ∀ x ∈ xs, InK .u8 x)
    {z c : Nat} (hn0 : 1 ≤ z) (hn1 : z ≤ 1024) (hc : xs.length = (c + 1) * z) (hm : c + 1 ≤ 4000) {p : Addr} {sb : Sl} (bl : BlAt w p h sb (List.replicate z 0))
    (hlow : ∀ j, sb.blk = some j → 4 ≤ j) (hlt : ∀ q, t.a = some q → xs ≠ [] → sb.blk ≠ some q.block)
    {β : Type} {k : Out Unit (Sl × Int × Unit) → World → Option β} {r : β} (hn : ∀ s w', OwnS 5 w' s (ints .u8 (Shr.merge (ops h C S) z xs)) → Fresh w.heap.size s → BlAt w' p h sb (Shr.merge (ops h C S) z xs) → Upd (fun j => sb.blk = some j) w w' → k (.ret (s, 0, ())) w' = some r) :
    shred_Merge_p1 K t ((z : Nat) : Int) p w k = some r := by
  have htl : t.len = xs.length := by rw [hs.len, ints_length]
  have hle : (c + 1) * z ≤ 4000 * 1024 := Nat.mul_le_mul hm hn1
  have hcz : xs.length - z = c * z := by rw [hc, Nat.add_mul]; omega
  have hzl : z ≤ xs.length := by rw [hc, Nat.add_mul]; omega
  have hne : xs ≠ [] := fun e => by rw [e] at hzl; simp at hzl; omega
  have hw : IntKind.i64.wrap (((t.len : Nat) : Int) - ((z : Nat) : Int)) = ((xs.length - z : Nat) : Int) := by rw [htl, w64 (by omega) (by omega)]; omega
  have hcap := hs.cap
  have c1 : (0 : Int) ≤ ((xs.length - z : Nat) : Int) ∧ ((xs.length - z : Nat) : Int) ≤ ((t.cap : Nat) : Int) := by omega
  have c2 : (0 : Int) ≤ ((xs.length - z : Nat) : Int) ∧ ((xs.length - z : Nat) : Int) ≤ ((t.len : Nat) : Int) := by omega
  unfold shred_Merge_p1
  rw [hw, if_pos c1, Int.toNat_natCast]
  have hs1 : Src w ⟨sla t.a 0 t.cap 1, xs.length - z - 0, t.cap - 0⟩ (ints .u8 (xs.take (xs.length - z))) := by
    have hc := hs.cut (n := xs.length - z) (by omega)
    rw [ints_take] at hc
    rw [sla_zero, Nat.sub_zero, Nat.sub_zero]
    exact hc
  refine through_ok hK hk T bl (by rw [List.length_replicate]; omega) (by rw [List.length_replicate]; omega) (c := c) (by rw [List.length_replicate, List.length_take]; omega) hs1 (fun x hx' => hx x (List.mem_of_mem_take hx')) (by rw [List.length_take]; omega) hlow (fun q hq _ => hlt q (by rw [sla_zero] at hq; exact hq) hne) fun w5 bl5 u5 => ?_
  have hcd : c = (xs.take (xs.length - z)).length / z := by rw [List.length_take, Nat.min_eq_left (by omega), hcz, Nat.mul_div_cancel _ (by omega)]
  have hth : Shr.through (ops h C S) (List.replicate z (0 : Int)).length c (List.replicate z 0) (xs.take (xs.length - z)) = Shr.before (ops h C S) z (xs.take (xs.length - z)) := by
    unfold Shr.before; rw [List.length_replicate, ← hcd]
  rw [hth] at bl5
  have hbl : (Shr.before (ops h C S) z (xs.take (xs.length - z))).length = z := Shr.before_length (by have := ops_size hk C S; omega) (ops_D hk C S) _ _
  have hs2 : Src w ⟨sla t.a (xs.length - z) t.cap 1, t.len - (xs.length - z), t.cap - (xs.length - z)⟩ (ints .u8 (xs.drop (xs.length - z))) := by
    have h2 := src_sub hs (lo := xs.length - z) (by rw [ints_length]; omega)
    have e : (ints .u8 xs).drop (xs.length - z) = ints .u8 (xs.drop (xs.length - z)) := by simp [ints, List.map_drop]
    rwa [e] at h2
  have hb2 : ∀ q, (sla t.a (xs.length - z) t.cap 1) = some q → sb.blk ≠ some q.block := fun q hq => by
    obtain ⟨q', hq', eb⟩ := sla_blk hq
    rw [eb]; exact hlt q' hq' hne
  obtain ⟨w6, e6, bl6, u6⟩ := mix_ok hK C S bl5 (src_updW hs2 u5 fun q hq _ => hb2 q hq) (fun x hx' => hx x (List.mem_of_mem_drop hx')) (by rw [List.length_drop]; omega) (by rw [List.length_drop]; omega) fun q hq _ => hb2 q hq
  have u06 := u5.trans' u6 fun _ _ e => e
  have q6 := u06.size
  rw [if_pos c2, e6, bnd_ok, bl6.sl, Option.bind_some]
  have hbl6 := bl6.len
  rw [Shr.addL_length, hbl] at hbl6
  obtain ⟨s7, w7, e7, l7, o7, u7, b7⟩ := apd_ok sliceB (OwnS.nil 5 w6) (bl6.own.src ints_one) (by show (0 + sb.len) * 1 ≤ _; omega)
  have u7 : Upd none_ w6 w7 := u7.mono fun j _ e => by cases e
  rw [e7, bnd_ok]
  refine hn s7 w7 o7 (fun j hj => ?_) (bl6.upd0 u7) (u06.and0 u7)
  rcases b7 with e | e
  · rw [e] at hj; cases hj
  · rw [e] at hj; have e2 : w6.heap.size = j := Option.some.inj hj; omega

theorem Merge_ok {K : Nat} (hK : 18446744073709551616 ≤ K) {w : World} {h st : Int} {C S : List Int} (T : Tabs w C S) {t : Sl} {xs : List Int} (hs : Src w t (ints .u8 xs)) (hx : ∀ x ∈ xs, InK .u8 x) (hlt : ∀ q, t.a = some q → xs ≠ [] → q.block < w.heap.size) (hxl : xs.length ≤ 140737488351232)
    {β : Type} {k : Sl × Int × Unit → World → Option β} {r : β} (hn : ∀ s w', OwnS 5 w' s (ints .u8 (merV h C S xs st)) → Fresh w.heap.size s → Upd none_ w w' → k (s, merE h xs.length st, ()) w' = some r) : shred_Merge K h t st w k = some r := by
  have htl : t.len = xs.length := by rw [hs.len, ints_length]
  have hT := T.lt
  obtain ⟨w1, u1, e1⟩ := Merge_s0_ok K h htl st w
  unfold shred_Merge shred_Merge_p0
  by_cases hd : merE h xs.length st = 0
  · rw [if_pos hd] at e1
    obtain ⟨hk, c, z, a1, a2, a3, a4, a5, a6⟩ := mer_zero (by omega) hd
    rw [hd, merV, if_pos hd] at hn
    have ez : xs.length / st.toNat = z := by rw [a6, a1]; rfl
    rw [ez] at hn
    have et : IntKind.i64.wrap (Int.tdiv ((t.len : Nat) : Int) st) = ((z : Nat) : Int) := by rw [htl, a1, (tdiv_st (c := c) (by omega)).1, a6]
    obtain ⟨w2, w3, w4, b1, b2, b3, bl, u4, hl2⟩ := blender_ok w1 h (n := z) (by omega)
    have q1 := u1.size
    have u04 := u1.and0 u4
    have q4 := u04.size
    rw [e1, bnd_ok]
    dsimp only
    rw [if_pos (by omega), et, b1, bnd_ok]
    have b45 := built45 ⟨some ⟨w1.heap.size, 0, none⟩, z, z⟩
    dsimp only at b45 ⊢
    rw [b45, Option.bind_some, built47, Option.bind_some, b2, bnd_ok, if_pos (by rfl), b3, Option.bind_some]
    have hlow : ∀ j, (⟨some ⟨w1.heap.size, 0, none⟩, z, z⟩ : Sl).blk = some j → w.heap.size ≤ j := fun j hj => by
      have e2 : w1.heap.size = j := Option.some.inj hj
      omega
    unfold deferK
    dsimp only
    refine Merge_main hK hk (T.upd0 u04) (hs.upd0 u04) hx a3 a4 a2 a5 bl (fun j hj => by have := hlow j hj; omega) (fun q hq hne e => by have := hlt q hq hne; have := hlow _ e; omega) fun s w5 o5 f5 bl5 u5 => ?_
    have u05 : Upd none_ w w5 := u04.trans' u5 fun j hj e => by have := hlow j e; omega
    obtain ⟨w6, e6, u6⟩ := wipe_ok bl5
    unfold shred_Merge_t
    dsimp only
    rw [e6, bnd_ok]
    refine hn s w6 (o5.upd u6 fun j hj e => ?_) (fun j hj => by have := f5 j hj; omega) (u05.trans' u6 fun j hj e => by have := hlow j e; omega)
    have := f5 j hj
    have := bl.own.lt e
    omega
  · rw [if_neg hd] at e1
    rw [e1, bnd_ok]
    exact hn nilS w1 (by rw [merV, if_neg hd]; exact OwnS.nil _ _) (fun k hk => by cases hk) u1

end Go.Sh

/- The document's stripes: spread, plus. -/
set_option linter.unusedVariables false
set_option maxRecDepth 100000
namespace Go.Sh
open Go.Fw Go.Sha Go.RowKit Go.Proofs.Tryd

theorem src_mid {w : World} {s : Sl} {vs : List Value} (h : Src w s vs) {lo n : Nat} (h1 : lo + n ≤ vs.length) : Src w ⟨sla s.a lo s.cap 1, n, s.cap - lo⟩ ((vs.drop lo).take n) := by
  have hl := h.len
  have := src_sub h (lo := lo) (by omega)
  exact this.cut (n := n) (by show n ≤ s.len - lo; omega)

theorem srcB_mid {w : World} {s : Sl} {xs : List Int} (h : Src w s (ints .u8 xs)) {lo n : Nat} (h1 : lo + n ≤ xs.length) : Src w ⟨sla s.a lo s.cap 1, n, s.cap - lo⟩ (ints .u8 ((xs.drop lo).take n)) := by
  have := src_mid h (lo := lo) (n := n) (by rw [ints_length]; exact h1)
  have e : ((ints .u8 xs).drop lo).take n = ints .u8 ((xs.drop lo).take n) := by simp [ints, List.map_drop, List.map_take]
  rwa [e] at this

theorem rSpread_loop {K : Nat} (hK : 18446744073709551616 ≤ K) {h : Int} (hk : known h = true) {C S : List Int} {t : Sl} {xs : List Int} (hx : ∀ x ∈ xs, InK .u8 x) (hxl : xs.length ≤ 1024) :
    ∀ (f i m : Nat) (w : World) (s : Sl) (o : List Int), TabsR w C S → Src w t (ints .u8 xs) → (∀ q, t.a = some q → xs ≠ [] → q.block < w.heap.size ∧ s.blk ≠ some q.block) → OwnS 5 w s (ints .u8 o) → (∀ j, s.blk = some j → 4 ≤ j) →
      xs.length ≤ i * (ops h C S).size + f → f < m → o.length ≤ i * (ops h C S).size → i ≤ 1024 → 
      ∃ s' w', ref04_spread_l0 K m h t (((ops h C S).size : Nat) : Int) s (i : Int) w = some ((s', ()), w') ∧ OwnS 5 w' s' (ints .u8 (o ++ Shr.sprG (ops h C S) f i (xs.drop (i * (ops h C S).size)))) ∧ Upd (fun j => s.blk = some j) w w' ∧
        ∀ j, s'.blk = some j → s.blk = some j ∨ w.heap.size ≤ j := by
  obtain ⟨z1, z2, z3⟩ := ops_size hk C S
  intro f
  induction f with
  | zero =>
    intro i m w s o T hs hlt ho h4 hf hm hol hi
    obtain ⟨m, rfl⟩ : ∃ q, m = q + 1 := ⟨m - 1, by omega⟩
    have htl : t.len = xs.length := by rw [hs.len, ints_length]
    refine ⟨s, w, ?_, by simpa [Shr.sprG] using ho, Upd.refl _ _, fun j hj => .inl hj⟩
    have hb : i * (ops h C S).size ≤ 1024 * 64 := Nat.mul_le_mul hi z2
    have e0 : IntKind.i64.wrap ((i : Int) * (((ops h C S).size : Nat) : Int)) = ((i * (ops h C S).size : Nat) : Int) := by rw [← Int.natCast_mul, w64 (by omega) (by omega)]
    show ref04_spread_l0_b K (ref04_spread_l0 K m) h t (((ops h C S).size : Nat) : Int) s (i : Int) w = _
    unfold ref04_spread_l0_b
    rw [e0, if_neg (by simp only [decide_eq_true_eq]; omega)]
  | succ f ih =>
    intro i m w s o T hs hlt ho h4 hf hm hol hi
    obtain ⟨m, rfl⟩ : ∃ q, m = q + 1 := ⟨m - 1, by omega⟩
    have htl : t.len = xs.length := by rw [hs.len, ints_length]
    have hcap := hs.cap
    have hb : i * (ops h C S).size ≤ 1024 * 64 := Nat.mul_le_mul hi z2
    have e0 : IntKind.i64.wrap ((i : Int) * (((ops h C S).size : Nat) : Int)) = ((i * (ops h C S).size : Nat) : Int) := by rw [← Int.natCast_mul, w64 (by omega) (by omega)]
    have hnext : (i + 1) * (ops h C S).size = i * (ops h C S).size + (ops h C S).size := Nat.succ_mul _ _
    obtain ⟨a, ha⟩ : ∃ a, a = i * (ops h C S).size := ⟨_, rfl⟩
    rw [← ha] at e0 hf hol hb hnext ⊢
    by_cases c : a < xs.length
    · have hne : xs ≠ [] := fun e => by rw [e] at c; simp at c
      have e1 : IntKind.i64.wrap (((a : Nat) : Int) + (((ops h C S).size : Nat) : Int)) = ((a + (ops h C S).size : Nat) : Int) := by rw [w64 (by omega) (by omega)]; rfl
      obtain ⟨n, hn⟩ : ∃ n, n = min (ops h C S).size (xs.drop a).length := ⟨_, rfl⟩
      have hdl : (xs.drop a).length = xs.length - a := List.length_drop
      have en : (if ((a + (ops h C S).size : Nat) : Int) < ((t.len : Nat) : Int) then ((a + (ops h C S).size : Nat) : Int) else ((t.len : Nat) : Int)) = ((a + n : Nat) : Int) := by
        split <;> omega
      have c1 : (0 : Int) ≤ ((a + n : Nat) : Int) ∧ ((a + n : Nat) : Int) ≤ ((t.cap : Nat) : Int) := by omega
      have c2 : (0 : Int) ≤ ((a : Nat) : Int) ∧ ((a : Nat) : Int) ≤ ((a + n : Nat) : Int) := by omega
      obtain ⟨w2, b1, b2, b3, b4⟩ := bldS_ok sliceB (ints .u8 (be4 i)) (fun v hv => by obtain ⟨x, _, rfl⟩ := List.mem_map.1 hv; rfl) (by simp [be4]) (by simp [be4]) w
      have b1 : bldS prog 22 4 #[(0, (.int .u8 (IntKind.u8.wrap (Int.fdiv (i : Int) (2 ^ 24))))), (1, (.int .u8 (IntKind.u8.wrap (Int.fdiv (i : Int) (2 ^ 16))))), (2, (.int .u8 (IntKind.u8.wrap (Int.fdiv (i : Int) (2 ^ 8))))), (3, (.int .u8 (IntKind.u8.wrap (i : Int))))] w = some (⟨some ⟨w.heap.size, 0, none⟩, 4, 4⟩, w2) := b1
      have hsm := srcB_mid (hs.upd0 b3) (lo := a) (n := n) (by omega)
      obtain ⟨s3, w3, d1, d2, d3, d4, d5⟩ := apd_ok sliceB b2 hsm (by show (4 + n) * 1 ≤ _; omega)
      have d1 : apd prog 22 22 (.slice (some ⟨w.heap.size, 0, none⟩) 4 4) (.slice (sla t.a a t.cap 1) (a + n - a) (t.cap - a)) w2 = some (s3, w3) := by rw [Nat.add_sub_cancel_left]; exact d1
      rw [← ints_append] at d3
      have u3 : Upd none_ w w3 := b3.trans' d4 fun j hj e => by have e2 : w.heap.size = j := Option.some.inj e; omega
      obtain ⟨s4, w4, f1, f2, f3, f4⟩ := refSum_ok hK (T.upd0 u3) (h := h) (d3.src ints_one) (fun x hx' => by
        rcases List.mem_append.1 hx' with e | e
        · exact be4_in i x e
        · exact hx x (List.mem_of_mem_drop (List.mem_of_mem_take e))) (by rw [List.length_append, be4_len, List.length_take]; omega)
      have hsum : sumOf C S h (be4 i ++ (xs.drop a).take n) = (ops h C S).D i ((xs.drop a).take n) := by unfold sumOf; rw [if_pos hk]; rfl
      rw [hsum] at f2
      have hDl := ops_D hk C S i ((xs.drop a).take n)
      have hs4 : s4.len = (ops h C S).size := by rw [f2.len, ints_length, hDl]
      have hs4c := f2.cap.1
      have e2 : IntKind.i64.wrap (((a + n : Nat) : Int) - ((a : Nat) : Int)) = ((n : Nat) : Int) := by rw [w64 (by omega) (by omega)]; omega
      have c3 : (0 : Int) ≤ ((n : Nat) : Int) ∧ ((n : Nat) : Int) ≤ ((s4.cap : Nat) : Int) := by omega
      have u4 := u3.and0 f3
      have hsd : Src w4 ⟨sla s4.a 0 s4.cap 1, n - 0, s4.cap - 0⟩ (ints .u8 (((ops h C S).D i ((xs.drop a).take n)).take n)) := by
        have := (f2.src ints_one).cut (n := n) (by omega)
        rw [ints_take] at this
        rw [sla_zero, Nat.sub_zero, Nat.sub_zero]; exact this
      have hol' := (ho.upd0 u4).len
      rw [ints_length] at hol'
      obtain ⟨s5, w5, g1, g2, g3, g4, g5⟩ := apd_ok sliceB (ho.upd0 u4) hsd (by show (s.len + (n - 0)) * 1 ≤ _; omega)
      rw [← ints_append] at g3
      have hn3 : ∀ j, s5.blk = some j → s.blk = some j ∨ w.heap.size ≤ j := fun j hj => by
        rcases g5 with e | e
        · rw [e] at hj; exact .inl hj
        · rw [e] at hj; have e2 : w4.heap.size = j := Option.some.inj hj; have := u4.size; exact .inr (by omega)
      have u5 : Upd (fun j => s.blk = some j) w w5 := (u4.trans g4).mono fun j _ e => e.elim (fun e => e.elim) id
      have q5 := u5.size
      have hTl := T.lt
      have e3 : IntKind.i64.wrap ((i : Int) + 1) = ((i + 1 : Nat) : Int) := by rw [w64 (by omega) (by omega)]; rfl
      have hil : i < 1024 := by
        have : i * 1 ≤ i * (ops h C S).size := Nat.mul_le_mul_left _ (by omega)
        omega
      have hDt : (((ops h C S).D i ((xs.drop a).take n)).take n).length = n := by rw [List.length_take, hDl]; omega
      obtain ⟨s6, w6, k1, k2, k3, k4⟩ := ih (i + 1) m w5 s5 _ (T.upd u5 fun j hj e => by have := h4 j e; omega) (src_updW hs u5 fun q hq hne => (hlt q hq hne).2) (fun q hq hne => ⟨by have := (hlt q hq hne).1; omega, fun e => by
          rcases hn3 _ e with e | e
          · exact (hlt q hq hne).2 e
          · have := (hlt q hq hne).1; omega⟩) g3 (fun j hj => (hn3 j hj).elim (fun e => h4 j e) (fun e => by omega)) (by omega) (by omega) (by rw [List.length_append, hDt]; omega) (by omega)
      refine ⟨s6, w6, ?_, ?_, u5.trans' k3 (fun j hj e => (hn3 j e).elim id (fun e2 => absurd hj (by omega))), fun j hj => ?_⟩
      · show ref04_spread_l0_b K (ref04_spread_l0 K m) h t (((ops h C S).size : Nat) : Int) s (i : Int) w = _
        unfold ref04_spread_l0_b
        rw [e0, if_pos (decide_eq_true (show ((a : Nat) : Int) < ((t.len : Nat) : Int) by omega)), b1, bnd_ok, e1, en, if_pos c1, Int.toNat_natCast, if_pos c2, Int.toNat_natCast]
        dsimp only
        rw [d1, bnd_ok, f1, bnd_ok, e2, if_pos c3, Int.toNat_natCast]
        dsimp only
        rw [g1, bnd_ok, e3, k1]
      · have e4 : Shr.sprG (ops h C S) (f + 1) i (xs.drop a) = (((ops h C S).D i ((xs.drop a).take n)).take n) ++ Shr.sprG (ops h C S) f (i + 1) (xs.drop ((i + 1) * (ops h C S).size)) := by
          have hne2 : xs.drop a ≠ [] := fun e => by have := congrArg List.length e; simp at this; omega
          have t1 : (xs.drop a).take (ops h C S).size = (xs.drop a).take n := by
            rw [hn]
            by_cases c : (ops h C S).size ≤ (xs.drop a).length
            · rw [Nat.min_eq_left c]
            · rw [Nat.min_eq_right (by omega), List.take_of_length_le (Nat.le_refl _), List.take_of_length_le (by omega)]
          have t2 : (xs.drop a).drop (ops h C S).size = xs.drop ((i + 1) * (ops h C S).size) := by rw [List.drop_drop, hnext]
          show (if xs.drop a = [] then [] else _) = _
          rw [if_neg hne2, t1, t2, ← hn]
        rw [e4, ← List.append_assoc]
        exact k2
      · rcases k4 j hj with e | e
        · exact hn3 j e
        · exact .inr (by omega)
    · refine ⟨s, w, ?_, ?_, Upd.refl _ _, fun j hj => .inl hj⟩
      · show ref04_spread_l0_b K (ref04_spread_l0 K m) h t (((ops h C S).size : Nat) : Int) s (i : Int) w = _
        unfold ref04_spread_l0_b
        rw [e0, if_neg (by simp only [decide_eq_true_eq]; omega)]
      · rw [List.drop_eq_nil_of_le (by omega)]
        simpa [Shr.sprG] using ho

theorem refSize_eq {h : Int} (hk : known h = true) (C S : List Int) : ref01_Size h = some ((((ops h C S).size : Nat) : Int), ()) := by
  have hc : h = 224 ∨ h = 256 ∨ h = 384 ∨ h = 512 := by simpa [known, or_assoc] using hk
  have e : (ops h C S).size = (h / 8).toNat := rfl
  rw [e]
  rcases hc with rfl | rfl | rfl | rfl <;> rfl

theorem rSpread_ok {K : Nat} (hK : 18446744073709551616 ≤ K) {h : Int} (hk : known h = true) {C S : List Int} {w : World} (T : TabsR w C S) {t : Sl} {xs : List Int} (hs : Src w t (ints .u8 xs)) (hx : ∀ x ∈ xs, InK .u8 x) (hxl : xs.length ≤ 1024) (hlt : ∀ q, t.a = some q → xs ≠ [] → q.block < w.heap.size) :
    ∃ s' w', ref04_spread K h t w = some ((s', ()), w') ∧ OwnS 5 w' s' (ints .u8 (Shr.spread (ops h C S) xs)) ∧ Upd none_ w w' ∧ Fresh w.heap.size s' := by
  obtain ⟨s', w', a1, a2, a3, a4⟩ := rSpread_loop hK hk hx hxl xs.length 0 K w nilS [] T hs (fun q hq hne => ⟨hlt q hq hne, fun e => by cases e⟩) (OwnS.nil _ _) (fun j hj => by cases hj) (by omega) (by omega) (by simp) (by omega)
  rw [Nat.zero_mul, List.drop_zero, List.nil_append] at a2
  have a1 : ref04_spread_l0 K K h t (((ops h C S).size : Nat) : Int) ⟨none, 0, 0⟩ 0 w = some ((s', ()), w') := a1
  refine ⟨s', w', ?_, a2, a3.mono (fun j _ e => by cases e), fun j hj => (a4 j hj).elim (fun e => by cases e) id⟩
  unfold ref04_spread
  rw [refSize_eq hk C S, Option.bind_some, a1, bnd_ok]

theorem rPlus_loop {K : Nat} {h : Int} {C S : List Int} {t t2 : Sl} {xs ys : List Int} (hl : xs.length = ys.length) (hxl : xs.length ≤ 1024) :
    ∀ (f i m : Nat) (w : World) (s : Sl) (o : List Int), Src w t (ints .u8 xs) → Src w t2 (ints .u8 ys) → (∀ q, t.a = some q → xs ≠ [] → q.block < w.heap.size ∧ s.blk ≠ some q.block) → (∀ q, t2.a = some q → ys ≠ [] → q.block < w.heap.size ∧ s.blk ≠ some q.block) → OwnS 5 w s (ints .u8 o) →
      i + f = xs.length → f < m → o.length = i →
      ∃ s' w', ref04_plus_l0 K m t t2 s (i : Int) w = some ((s', ()), w') ∧ OwnS 5 w' s' (ints .u8 (o ++ Shr.addL (ops h C S) (xs.drop i) (ys.drop i))) ∧ Upd (fun j => s.blk = some j) w w' ∧
        ∀ j, s'.blk = some j → s.blk = some j ∨ w.heap.size ≤ j := by
  intro f
  induction f with
  | zero =>
    intro i m w s o hs hs2 hlt hlt2 ho hf hm hol
    obtain ⟨m, rfl⟩ : ∃ q, m = q + 1 := ⟨m - 1, by omega⟩
    have htl : t.len = xs.length := by rw [hs.len, ints_length]
    refine ⟨s, w, ?_, ?_, Upd.refl _ _, fun j hj => .inl hj⟩
    · show ref04_plus_l0_b K (ref04_plus_l0 K m) t t2 s (i : Int) w = _
      unfold ref04_plus_l0_b
      rw [if_neg (by simp only [decide_eq_true_eq]; omega)]
    · have d1 : xs.drop i = [] := List.drop_eq_nil_of_le (by omega)
      have d2 : ys.drop i = [] := List.drop_eq_nil_of_le (by omega)
      rw [d1, d2]
      simpa [Shr.addL] using ho
  | succ f ih =>
    intro i m w s o hs hs2 hlt hlt2 ho hf hm hol
    obtain ⟨m, rfl⟩ : ∃ q, m = q + 1 := ⟨m - 1, by omega⟩
    have htl : t.len = xs.length := by rw [hs.len, ints_length]
    have htl2 : t2.len = ys.length := by rw [hs2.len, ints_length]
    have hne : xs ≠ [] := fun e => by rw [e] at hf; simp at hf
    have hne2 : ys ≠ [] := fun e => by rw [e] at hl; simp at hl; exact hne hl
    obtain ⟨q, q1, q2⟩ := (hs.upd0 (Upd.refl none_ w).drew).rds.ld
    obtain ⟨z, z1, z2⟩ := (hs2.upd0 (Upd.refl none_ w).drew).rds.ld
    have q1 := q1 hne
    have z1 := z1 hne2
    have l1 := q2 i (by omega)
    have l2 := z2 i (by omega)
    have c1 : (0 : Int) ≤ (i : Int) ∧ (i : Int) < ((t.len : Nat) : Int) := by omega
    have c2 : (0 : Int) ≤ (i : Int) ∧ (i : Int) < ((t2.len : Nat) : Int) := by omega
    obtain ⟨w2, b1, b2, b3, b4⟩ := bldS1_ok sliceB (.int .u8 (xr8 (xs[i]'(by omega)) (ys[i]'(by omega)))) rfl w.drew
    have u2 : Upd none_ w w2 := b3.predrew
    have hol' := (ho.upd0 u2).len
    rw [ints_length] at hol'
    have b2' : Src w2 ⟨some ⟨w.drew.heap.size, 0, none⟩, 1, 1⟩ (ints .u8 [xr8 (xs[i]'(by omega)) (ys[i]'(by omega))]) := b2.src (by simp [Value.oneCell'])
    obtain ⟨s5, w5, g1, g2, g3, g4, g5⟩ := apd_ok sliceB (ho.upd0 u2) b2' (by show (s.len + 1) * 1 ≤ _; omega)
    rw [← ints_append] at g3
    have hn3 : ∀ j, s5.blk = some j → s.blk = some j ∨ w.heap.size ≤ j := fun j hj => by
      rcases g5 with e | e
      · rw [e] at hj; exact .inl hj
      · rw [e] at hj; have e2 : w2.heap.size = j := Option.some.inj hj; have := u2.size; exact .inr (by omega)
    have u5 : Upd (fun j => s.blk = some j) w w5 := (u2.trans g4).mono fun j _ e => e.elim (fun e => e.elim) id
    have hq5 := u5.size
    have e3 : IntKind.i64.wrap ((i : Int) + 1) = ((i + 1 : Nat) : Int) := by rw [w64 (by omega) (by omega)]; rfl
    have away : ∀ q : Addr, q.block < w.heap.size ∧ s.blk ≠ some q.block → q.block < w5.heap.size ∧ s5.blk ≠ some q.block := fun q hq => ⟨by omega, fun e => (hn3 _ e).elim hq.2 fun e2 => by omega⟩
    obtain ⟨s6, w6, k1, k2, k3, k4⟩ := ih (i + 1) m w5 s5 _ (src_updW hs u5 fun q hq hne => (hlt q hq hne).2) (src_updW hs2 u5 fun q hq hne => (hlt2 q hq hne).2) (fun q hq hne => away q (hlt q hq hne)) (fun q hq hne => away q (hlt2 q hq hne)) g3 (by omega) (by omega) (by rw [List.length_append, hol]; rfl)
    refine ⟨s6, w6, ?_, ?_, u5.trans' k3 (fun j hj e => (hn3 j e).elim id (fun e2 => absurd hj (by omega))), fun j hj => (k4 j hj).elim (hn3 j) fun e => .inr (by omega)⟩
    · show ref04_plus_l0_b K (ref04_plus_l0 K m) t t2 s (i : Int) w = _
      unfold ref04_plus_l0_b
      have b1 : bldS prog 22 1 #[(0, (.int .u8 (bits .xor .u8 (xs[i]'(by omega)) (ys[i]'(by omega)))))] w.drew = some (⟨some ⟨w.drew.heap.size, 0, none⟩, 1, 1⟩, w2) := b1
      rw [if_pos (decide_eq_true (show ((i : Nat) : Int) < ((t.len : Nat) : Int) by omega)), q1, Option.bind_some, if_pos c1, z1, Option.bind_some, if_pos c2, Int.toNat_natCast, Nat.mul_one, l1, Option.bind_some, l2, Option.bind_some, b1, bnd_ok]
      dsimp only
      rw [g1, bnd_ok, e3, k1]
    · have e4 : Shr.addL (ops h C S) (xs.drop i) (ys.drop i) = xr8 (xs[i]'(by omega)) (ys[i]'(by omega)) :: Shr.addL (ops h C S) (xs.drop (i + 1)) (ys.drop (i + 1)) := by
        rw [List.drop_eq_getElem_cons (show i < xs.length by omega), List.drop_eq_getElem_cons (show i < ys.length by omega)]; rfl
      rw [e4]
      simpa using k2

theorem rPlus_ok {K : Nat} (hK : 18446744073709551616 ≤ K) (h : Int) (C S : List Int) {w : World} {t t2 : Sl} {xs ys : List Int} (hl : xs.length = ys.length) (hxl : xs.length ≤ 1024) (hs : Src w t (ints .u8 xs)) (hs2 : Src w t2 (ints .u8 ys)) (hlt : ∀ q, t.a = some q → xs ≠ [] → q.block < w.heap.size) (hlt2 : ∀ q, t2.a = some q → ys ≠ [] → q.block < w.heap.size) :
    ∃ s' w', ref04_plus K t t2 w = some ((s', ()), w') ∧ OwnS 5 w' s' (ints .u8 (Shr.addL (ops h C S) xs ys)) ∧ Upd none_ w w' ∧ Fresh w.heap.size s' := by
  obtain ⟨s', w', a1, a2, a3, a4⟩ := rPlus_loop (K := K) (h := h) (C := C) (S := S) hl hxl xs.length 0 K w nilS [] hs hs2 (fun q hq hne => ⟨hlt q hq hne, fun e => by cases e⟩) (fun q hq hne => ⟨hlt2 q hq hne, fun e => by cases e⟩) (OwnS.nil _ _) (by omega) (by omega) rfl
  rw [List.drop_zero, List.drop_zero, List.nil_append] at a2
  have a1 : ref04_plus_l0 K K t t2 ⟨none, 0, 0⟩ 0 w = some ((s', ()), w') := a1
  refine ⟨s', w', ?_, a2, a3.mono (fun j _ e => by cases e), fun j hj => (a4 j hj).elim (fun e => by cases e) id⟩
  unfold ref04_plus
  rw [a1, bnd_ok]

end Go.Sh

/- The document's stripes: before, Diffuse, Split, Merge. -/
set_option linter.unusedVariables false
set_option maxRecDepth 100000
namespace Go.Sh
open Go.Fw Go.Sha Go.RowKit Go.Proofs.Tryd

theorem rBefore_loop {K : Nat} (hK : 18446744073709551616 ≤ K) {h : Int} (hk : known h = true) {C S : List Int} {t : Sl} {xs : List Int} (hx : ∀ x ∈ xs, InK .u8 x) {n : Nat} (hn0 : 0 < n) (hn : n ≤ 1024) (hxl : xs.length ≤ 4611686018427387904) :
    ∀ (c j m : Nat) (w : World) (s : Sl) (acc : List Int), TabsR w C S → Src w t (ints .u8 xs) → (∀ q, t.a = some q → xs ≠ [] → q.block < w.heap.size) → OwnS 5 w s (ints .u8 acc) → acc.length = n → (∀ x ∈ acc, InK .u8 x) → xs.length = j * n + c * n → c < m →
      ∃ s' w', ref04_before_l0 K m h ((n : Nat) : Int) t s ((j * n : Nat) : Int) w = some ((s', ()), w') ∧ OwnS 5 w' s' (ints .u8 (Shr.through (ops h C S) n c acc (xs.drop (j * n)))) ∧ Upd none_ w w' ∧
        ∀ i, s'.blk = some i → s.blk = some i ∨ w.heap.size ≤ i := by
  intro c
  induction c with
  | zero =>
    intro j m w s acc T hs hlt ho hal hai hxe hm
    obtain ⟨m, rfl⟩ : ∃ q, m = q + 1 := ⟨m - 1, by omega⟩
    have htl : t.len = xs.length := by rw [hs.len, ints_length]
    rw [Nat.zero_mul, Nat.add_zero] at hxe
    refine ⟨s, w, ?_, ho, Upd.refl _ _, fun j hj => .inl hj⟩
    show ref04_before_l0_b K (ref04_before_l0 K m) h ((n : Nat) : Int) t s ((j * n : Nat) : Int) w = _
    unfold ref04_before_l0_b
    rw [if_neg (by rw [htl, hxe]; simp)]
  | succ c ih =>
    intro j m w s acc T hs hlt ho hal hai hxe hm
    obtain ⟨m, rfl⟩ : ∃ q, m = q + 1 := ⟨m - 1, by omega⟩
    have htl : t.len = xs.length := by rw [hs.len, ints_length]
    have hcap := hs.cap
    obtain ⟨z1, z2, z3⟩ := ops_size hk C S
    have hnx : (j + 1) * n = j * n + n := Nat.succ_mul _ _
    have hcx : (c + 1) * n = c * n + n := Nat.succ_mul _ _
    obtain ⟨a, ha⟩ : ∃ a, a = j * n := ⟨_, rfl⟩
    obtain ⟨b, hb⟩ : ∃ b, b = c * n := ⟨_, rfl⟩
    rw [← ha] at hnx
    rw [← hb] at hcx
    rw [← ha, hcx] at hxe
    have e1 : IntKind.i64.wrap (((a : Nat) : Int) + ((n : Nat) : Int)) = ((a + n : Nat) : Int) := by rw [w64 (by omega) (by omega)]; rfl
    have c1 : (0 : Int) ≤ ((a + n : Nat) : Int) ∧ ((a + n : Nat) : Int) ≤ ((t.cap : Nat) : Int) := by omega
    have c2 : (0 : Int) ≤ ((a : Nat) : Int) ∧ ((a : Nat) : Int) ≤ ((a + n : Nat) : Int) := by omega
    have hne : xs ≠ [] := fun e => by rw [e] at hxe; simp at hxe; omega
    have hsm := srcB_mid hs (lo := a) (n := n) (by omega)
    have hml : ((xs.drop a).take n).length = n := by rw [List.length_take, List.length_drop]; omega
    have hmi : ∀ x ∈ (xs.drop a).take n, InK .u8 x := fun x hx' => hx x (List.mem_of_mem_drop (List.mem_of_mem_take hx'))
    obtain ⟨s2, w2, b1, b2, b3, b4⟩ := rPlus_ok hK h C S (by rw [hml]; exact hal) (by omega) (ho.src ints_one) hsm (fun q hq _ => lt_of_blk (fun _ hk => ho.lt hk) q hq) (fun q hq _ => by
      obtain ⟨q', hq', eb⟩ := sla_blk hq
      rw [eb]; exact hlt q' hq' hne)
    have hpi := Shr.addL_in (ops_good h C S) hai hmi
    obtain ⟨s3, w3, d1, d2, d3, d4⟩ := rSpread_ok hK hk (T.upd0 b3) (b2.src ints_one) hpi (by rw [Shr.addL_length]; omega) (fun q hq _ => lt_of_blk (fun _ hk => b2.lt hk) q hq)
    have u3 := b3.and0 d3
    have q3 := u3.size
    have q2 := b3.size
    obtain ⟨s4, w4, k1, k2, k3, k4⟩ := ih (j + 1) m w3 s3 _ (T.upd0 u3) (hs.upd0 u3) (fun q hq hne => by have := hlt q hq hne; omega) d2 (by rw [Shr.spread_length _ (by omega) (ops_D hk C S), Shr.addL_length]; exact hal) (Shr.spread_in (ops_in C S) _) (by rw [hnx, ← hb]; omega) (by omega)
    refine ⟨s4, w4, ?_, ?_, u3.and0 k3, fun i hi => (k4 i hi).elim (fun e => .inr (by have := d4 i e; omega)) fun e => .inr (by omega)⟩
    · show ref04_before_l0_b K (ref04_before_l0 K m) h ((n : Nat) : Int) t s ((j * n : Nat) : Int) w = _
      unfold ref04_before_l0_b
      rw [← ha, if_pos (decide_eq_true (show ((a : Nat) : Int) < ((t.len : Nat) : Int) by omega)), e1, if_pos c1, Int.toNat_natCast, if_pos c2, Int.toNat_natCast]
      have b1 : ref04_plus K s ⟨sla t.a a t.cap 1, a + n - a, t.cap - a⟩ w = some ((s2, ()), w2) := by rw [Nat.add_sub_cancel_left]; exact b1
      rw [b1, bnd_ok, d1, bnd_ok, ← hnx, k1]
    · rw [← ha]
      have e5 : (xs.drop a).drop n = xs.drop ((j + 1) * n) := by rw [List.drop_drop, hnx]
      show OwnS 5 w4 s4 (ints .u8 (Shr.through (ops h C S) n c (Shr.spread (ops h C S) (Shr.addL (ops h C S) acc ((xs.drop a).take n))) ((xs.drop a).drop n)))
      rw [e5]
      exact k2

theorem rBefore_ok {K : Nat} (hK : 18446744073709551616 ≤ K) {h : Int} (hk : known h = true) {C S : List Int} {w : World} (T : TabsR w C S) {t : Sl} {xs : List Int} (hs : Src w t (ints .u8 xs)) (hx : ∀ x ∈ xs, InK .u8 x) {n : Nat} (hn0 : 0 < n) (hn : n ≤ 1024) (hxl : xs.length ≤ 4611686018427387904) (hlt : ∀ q, t.a = some q → xs ≠ [] → q.block < w.heap.size) {c : Nat} (hc : xs.length = c * n) :
    ∃ s' w', ref04_before K h ((n : Nat) : Int) t w = some ((s', ()), w') ∧ OwnS 5 w' s' (ints .u8 (Shr.before (ops h C S) n xs)) ∧ Upd none_ w w' ∧ Fresh w.heap.size s' := by
  obtain ⟨w1, a1, a2, a3⟩ := mkS_full w (n := n) (by omega)
  have q1 := a3.size
  have hcl : c ≤ xs.length := by rw [hc]; exact Nat.le_mul_of_pos_right c hn0
  obtain ⟨s', w', b1, b2, b3, b4⟩ := rBefore_loop hK hk hx hn0 hn hxl c 0 K w1 _ _ (T.upd0 a3) (hs.upd0 a3) (fun q hq hne => by have := hlt q hq hne; omega) a2 (List.length_replicate ..) (zeros_in n) (by omega) (by omega)
  rw [Nat.zero_mul, List.drop_zero] at b2
  have hcd : xs.length / n = c := by rw [hc, Nat.mul_div_cancel _ hn0]
  refine ⟨s', w', ?_, by unfold Shr.before; rw [hcd]; exact b2, a3.and0 b3, fun j hj => (b4 j hj).elim (fun e => by have e2 : w.heap.size = j := Option.some.inj e; omega) fun e => by omega⟩
  unfold ref04_before
  rw [a1, bnd_ok]
  rw [Nat.zero_mul] at b1
  have b1 : ref04_before_l0 K K h ((n : Nat) : Int) t ⟨some ⟨w.heap.size, 0, none⟩, n, n⟩ 0 w1 = some ((s', ()), w') := b1
  rw [b1, bnd_ok]

theorem refSize_zero (h : Int) : ∃ z, ref01_Size h = some (z, ()) ∧ (z == 0) = !known h := by
  cases hk : known h with
  | true =>
    have hs := ops_size hk [] []
    refine ⟨_, refSize_eq hk [] [], ?_⟩
    simp; omega
  | false =>
    have q : h ≠ 224 ∧ h ≠ 256 ∧ h ≠ 384 ∧ h ≠ 512 := by simp [known] at hk; omega
    refine ⟨0, ?_, rfl⟩
    unfold ref01_Size
    simp [q]

theorem rDiffuse_ok {K : Nat} (hK : 18446744073709551616 ≤ K) {h : Int} {C S : List Int} {w : World} (T : TabsR w C S) {t : Sl} {xs : List Int} (hs : Src w t (ints .u8 xs)) (hx : ∀ x ∈ xs, InK .u8 x) (hlt : ∀ q, t.a = some q → xs ≠ [] → q.block < w.heap.size) :
    ∃ s' w', ref04_Diffuse K h t w = some ((s', difE h xs.length, ()), w') ∧ OwnS 5 w' s' (ints .u8 (difV h C S xs)) ∧ Upd none_ w w' ∧ Fresh w.heap.size s' := by
  have htl : t.len = xs.length := by rw [hs.len, ints_length]
  obtain ⟨z, e1, e2⟩ := refSize_zero h
  unfold ref04_Diffuse difV
  rw [e1, Option.bind_some]
  dsimp only
  rw [e2]
  cases hk : known h with
  | false =>
    have hd : difE h xs.length = 10 := by simp [difE, hk]
    rw [hd]
    exact ⟨nilS, w, by rw [if_pos (by decide)], by rw [if_neg (by decide)]; exact OwnS.nil _ _, Upd.refl _ _, fun k hk => by cases hk⟩
  | true =>
    rw [if_neg (show ¬ (!true) = true by decide), htl]
    by_cases c : 1024 < xs.length
    · have hd : difE h xs.length = 4 := by simp [difE, hk, c]
      rw [hd]
      exact ⟨nilS, w, by rw [if_pos (decide_eq_true (show ((xs.length : Nat) : Int) > 1024 by omega))], by rw [if_neg (by decide)]; exact OwnS.nil _ _, Upd.refl _ _, fun k hk => by cases hk⟩
    · have hd : difE h xs.length = 0 := by simp [difE, hk, c]
      rw [hd]
      obtain ⟨s', w', a1, a2, a3, a4⟩ := rSpread_ok hK hk T hs hx (by omega) hlt
      exact ⟨s', w', by rw [if_neg (by simp only [decide_eq_true_eq]; omega), a1, bnd_ok], by rw [if_pos rfl]; exact a2, a3, a4⟩

theorem rRandom_ok (n : Nat) (st : Int) : ref04_Random ((n : Nat) : Int) st = some ((if rndE n st = 0 then IntKind.i64.wrap (((n : Nat) : Int) * IntKind.i64.wrap (st - 1)) else 0), rndE n st, ()) := by
  unfold ref04_Random ref04_Random_s0
  by_cases c1 : n < 1
  · have e : rndE n st = 5 := by unfold rndE; rw [if_pos c1]
    rw [if_pos (decide_eq_true (show ((n : Nat) : Int) < 1 by omega)), e]; rfl
  · rw [if_neg (by simp only [decide_eq_true_eq]; omega)]
    by_cases c2 : 1024 < n
    · have e : rndE n st = 4 := by unfold rndE; rw [if_neg c1, if_pos c2]
      rw [if_pos (decide_eq_true (show ((n : Nat) : Int) > 1024 by omega)), e]; rfl
    · rw [if_neg (by simp only [decide_eq_true_eq]; omega)]
      by_cases c3 : st < 1
      · have e : rndE n st = 40 := by unfold rndE; rw [if_neg c1, if_neg c2, if_pos (Or.inl c3)]
        rw [if_pos (by simpa using c3), e]; rfl
      · rw [if_neg (by simpa using c3), Option.bind_some]
        dsimp only
        by_cases c4 : 4000 < st
        · have e : rndE n st = 40 := by unfold rndE; rw [if_neg c1, if_neg c2, if_pos (Or.inr c4)]
          rw [if_pos (by simpa using c4), e]; rfl
        · have e : rndE n st = 0 := by unfold rndE; rw [if_neg c1, if_neg c2, if_neg (by omega)]
          rw [if_neg (by simpa using c4), e]; rfl

theorem rSplit_ok {K : Nat} (hK : 18446744073709551616 ≤ K) {h st : Int} {C S : List Int} {w : World} (T : TabsR w C S) {t t2 : Sl} {xs ys : List Int} (hs : Src w t (ints .u8 xs)) (hx : ∀ x ∈ xs, InK .u8 x) (hlt : ∀ q, t.a = some q → xs ≠ [] → q.block < w.heap.size)
    (hs2 : Src w t2 (ints .u8 ys)) (hy : ∀ x ∈ ys, InK .u8 x) (hlt2 : ∀ q, t2.a = some q → ys ≠ [] → q.block < w.heap.size) :
    ∃ s' w', ref04_Split K h t st t2 w = some ((s', splE h xs.length st ys.length, ()), w') ∧ OwnS 5 w' s' (ints .u8 (splV h C S xs st ys)) ∧ Upd none_ w w' ∧ Fresh w.heap.size s' := by
  have htl : t.len = xs.length := by rw [hs.len, ints_length]
  have htl2 : t2.len = ys.length := by rw [hs2.len, ints_length]
  obtain ⟨z, e1, e2⟩ := refSize_zero h
  unfold ref04_Split splV
  rw [e1, Option.bind_some]
  dsimp only
  rw [e2]
  cases hk : known h with
  | false =>
    have hd : splE h xs.length st ys.length = 10 := by simp [splE, hk]
    rw [hd]
    exact ⟨nilS, w, by rw [if_pos (by decide)], by rw [if_neg (by decide)]; exact OwnS.nil _ _, Upd.refl _ _, fun k hk => by cases hk⟩
  | true =>
    rw [if_neg (show ¬ (!true) = true by decide), htl, rRandom_ok, Option.bind_some]
    dsimp only
    by_cases c1 : rndE xs.length st = 0
    · rw [if_neg (show ¬ (rndE xs.length st != 0) = true by rw [c1]; decide), if_pos c1, htl2]
      by_cases c2 : (ys.length : Int) = IntKind.i64.wrap (((xs.length : Nat) : Int) * IntKind.i64.wrap (st - 1))
      · have hd : splE h xs.length st ys.length = 0 := by simp [splE, hk, c1, ← c2]
        obtain ⟨_, a1, a2, c, a3, a4, a5⟩ := spl_zero hd
        rw [hd]
        obtain ⟨s1, w1, b1, b2, b3, b4, b5⟩ := apd_ok sliceB (OwnS.nil 5 w) hs2 (by show (0 + t2.len) * 1 ≤ _; omega)
        have b4 : Upd none_ w w1 := b4.mono fun j _ e => by cases e
        have b3 : OwnS 5 w1 s1 (ints .u8 ys) := b3
        have b1 : apd prog 22 22 (.slice none 0 0) (.slice t2.a ys.length t2.cap) w = some (s1, w1) := by rw [← htl2]; exact b1
        have q1 := b4.size
        obtain ⟨s2, w2, d1, d2, d3, d4⟩ := rBefore_ok hK hk (T.upd0 b4) (hs2.upd0 b4) hy a1 a2 (by omega) (fun q hq hne => by have := hlt2 q hq hne; omega) a4
        have u2 := b4.and0 d3
        have q2 := u2.size
        have hbl : (Shr.before (ops h C S) xs.length ys).length = xs.length := Shr.before_length (by have := ops_size hk C S; omega) (ops_D hk C S) _ _
        obtain ⟨s3, w3, f1, f2, f3, f4⟩ := rPlus_ok hK h C S hbl (by omega) (d2.src ints_one) (hs.upd0 u2) (fun q hq _ => lt_of_blk (fun _ hk => d2.lt hk) q hq) (fun q hq hne => by have := hlt q hq hne; omega)
        have u3 := u2.and0 f3
        have hl3 := f2.len
        rw [ints_length, Shr.addL_length, hbl] at hl3
        have hf1 : ∀ j, s1.blk = some j → w.heap.size ≤ j := fun j hj => by
          rcases b5 with e | e
          · rw [e] at hj; cases hj
          · rw [e] at hj; have e2 : w.heap.size = j := Option.some.inj hj; omega
        obtain ⟨s4, w4, g1, g2, g3, g4, g5⟩ := apd_ok sliceB ((b3.upd0 d3).upd0 f3) (f2.src ints_one) (by rw [b2]; show (0 + t2.len + s3.len) * 1 ≤ _; omega)
        rw [← ints_append] at g3
        refine ⟨s4, w4, ?_, by rw [if_pos rfl]; exact g3, u3.trans' g4 (fun j hj e => by have := hf1 j e; omega), fun j hj => ?_⟩
        · rw [if_neg (show ¬ (((ys.length : Nat) : Int) != IntKind.i64.wrap (((xs.length : Nat) : Int) * IntKind.i64.wrap (st - 1))) = true by rw [← c2]; simp), b1, bnd_ok, d1, bnd_ok, f1, bnd_ok]
          dsimp only
          rw [g1, bnd_ok]
        · rcases g5 with e | e
          · rw [e] at hj; exact hf1 j hj
          · rw [e] at hj; have e2 : w3.heap.size = j := Option.some.inj hj; have := u3.size; omega
      · have hd : splE h xs.length st ys.length = 41 := by simp [splE, hk, c1, c2]
        rw [hd]
        exact ⟨nilS, w, by rw [if_pos (by simpa using c2)], by rw [if_neg (by decide)]; exact OwnS.nil _ _, Upd.refl _ _, fun k hk => by cases hk⟩
    · have hd : splE h xs.length st ys.length = rndE xs.length st := by simp [splE, hk, c1]
      rw [hd]
      exact ⟨nilS, w, by rw [if_pos (show (rndE xs.length st != 0) = true by simpa using c1)], by rw [if_neg c1]; exact OwnS.nil _ _, Upd.refl _ _, fun k hk => by cases hk⟩

end Go.Sh

/- The document's stripes: Merge. -/
set_option linter.unusedVariables false
set_option maxRecDepth 100000
namespace Go.Sh
open Go.Fw Go.Sha Go.RowKit Go.Proofs.Tryd

theorem rMerge_s1_ok {K : Nat} {m : Sl} {n c : Nat} (hm : m.len = n) (hn : n < 9223372036854775808) (hc : c + 1 ≤ 4000) (w : World) :
    ref04_Merge_s1 K m ((c : Int) + 1) w = some ((decide (n = 0 ∨ Int.tmod (n : Int) ((c : Int) + 1) ≠ 0 ∨ 1024 < IntKind.i64.wrap (Int.tdiv (n : Int) ((c : Int) + 1))), ()), w) := by
  obtain ⟨t1, t2⟩ := tdiv_st (n := n) (c := c) hn
  unfold ref04_Merge_s1
  rw [hm, t1, t2]
  by_cases h0 : n = 0
  · rw [if_pos (by rw [h0]; rfl), decide_eq_true (Or.inl h0)]
  · rw [if_neg (show ¬ (((n : Nat) : Int) == 0) = true by simpa using h0), if_pos (by omega)]
    by_cases h1 : n % (c + 1) = 0
    · rw [if_neg (by rw [h1]; decide)]
      have e : IntKind.i64.wrap (1024 * ((c : Int) + 1)) = ((1024 * (c + 1) : Nat) : Int) := by rw [w64 (by omega) (by omega)]; omega
      have h6 := Nat.div_add_mod n (c + 1)
      rw [h1, Nat.add_zero] at h6
      have h7 : (1024 * (c + 1) < n) ↔ 1024 < n / (c + 1) := by
        constructor
        · intro h
          refine Nat.lt_of_not_le fun h8 => ?_
          have := Nat.mul_le_mul_left (c + 1) h8
          rw [h6, Nat.mul_comm] at this
          omega
        · intro h
          have := Nat.mul_lt_mul_of_pos_left h (show 0 < c + 1 by omega)
          rw [h6, Nat.mul_comm] at this
          exact this
      rw [e]
      have h8 : (((n : Nat) : Int) > ((1024 * (c + 1) : Nat) : Int)) ↔ (n = 0 ∨ ((n % (c + 1) : Nat) : Int) ≠ 0 ∨ (1024 : Int) < ((n / (c + 1) : Nat) : Int)) := by
        constructor
        · intro h
          have h9 := h7.1 (by omega)
          exact .inr (.inr (Int.ofNat_lt.2 h9))
        · rintro (h | h | h)
          · exact absurd h h0
          · rw [h1] at h; exact absurd rfl h
          · have h9 := h7.2 (Int.ofNat_lt.1 h); omega
      rw [decide_eq_decide.2 h8]
    · have h1' : ((n % (c + 1) : Nat) : Int) ≠ 0 := by
        generalize n % (c + 1) = q at h1 ⊢
        omega
      rw [if_pos (bne_iff_ne.2 h1'), decide_eq_true (Or.inr (Or.inl h1'))]

theorem rMerge_ok {K : Nat} (hK : 18446744073709551616 ≤ K) {h st : Int} {C S : List Int} {w : World} (T : TabsR w C S) {t : Sl} {xs : List Int} (hs : Src w t (ints .u8 xs)) (hx : ∀ x ∈ xs, InK .u8 x) (hlt : ∀ q, t.a = some q → xs ≠ [] → q.block < w.heap.size) (hxl : xs.length ≤ 140737488351232) :
    ∃ s' w', ref04_Merge K h t st w = some ((s', merE h xs.length st, ()), w') ∧ OwnS 5 w' s' (ints .u8 (merV h C S xs st)) ∧ Upd none_ w w' ∧ Fresh w.heap.size s' := by
  have htl : t.len = xs.length := by rw [hs.len, ints_length]
  have hcap := hs.cap
  obtain ⟨z0, e1, e2⟩ := refSize_zero h
  unfold ref04_Merge merV
  rw [e1, Option.bind_some]
  dsimp only
  rw [e2]
  have nilr : ∀ e : Int, e ≠ 0 → merE h xs.length st = e → ∃ s' w', some ((nilS, e, ()), w) = some ((s', merE h xs.length st, ()), w') ∧ OwnS 5 w' s' (ints .u8 (if merE h xs.length st = 0 then Shr.merge (ops h C S) (xs.length / st.toNat) xs else [])) ∧ Upd none_ w w' ∧ Fresh w.heap.size s' := fun e he h1 => ⟨nilS, w, by rw [h1], by rw [h1, if_neg he]; exact OwnS.nil _ _, Upd.refl _ _, fun k hk => by cases hk⟩
  cases hk : known h with
  | false =>
    rw [if_pos (show (!false) = true from rfl)]
    exact nilr 10 (by decide) (by simp [merE, hk])
  | true =>
    rw [if_neg (show ¬ (!true) = true by decide)]
    by_cases c1 : st < 1 ∨ 4000 < st
    · have hd : merE h xs.length st = 40 := by simp [merE, hk, c1]
      have e0 : ref04_Merge_s0 K st w = some ((true, ()), w) := by
        unfold ref04_Merge_s0
        by_cases c2 : st < 1
        · rw [if_pos (decide_eq_true c2)]
        · rw [if_neg (by simpa using c2), decide_eq_true (show st > 4000 by omega)]
      rw [e0, bnd_ok, if_pos rfl]
      exact nilr 40 (by decide) hd
    · obtain ⟨c, hc⟩ : ∃ c : Nat, st = (c : Int) + 1 := ⟨(st - 1).toNat, by omega⟩
      have e0 : ref04_Merge_s0 K st w = some ((false, ()), w) := by
        unfold ref04_Merge_s0
        rw [if_neg (by simp only [decide_eq_true_eq]; omega), decide_eq_false (show ¬ st > 4000 by omega)]
      rw [e0, bnd_ok, if_neg (by decide), hc, rMerge_s1_ok htl (by omega) (by omega), bnd_ok, ← hc]
      by_cases c2 : (xs.length = 0 ∨ Int.tmod (xs.length : Int) st ≠ 0 ∨ 1024 < IntKind.i64.wrap (Int.tdiv (xs.length : Int) st))
      · rw [if_pos (decide_eq_true c2)]
        have hd : merE h xs.length st = 41 := by
          unfold merE
          rw [hk, if_neg (by decide), if_neg c1]
          rcases c2 with h1 | h1 | h1
          · rw [if_pos h1]
          · by_cases h0 : xs.length = 0
            · rw [if_pos h0]
            · rw [if_neg h0, if_pos h1]
          · by_cases h0 : xs.length = 0
            · rw [if_pos h0]
            · by_cases h2 : Int.tmod (xs.length : Int) st ≠ 0
              · rw [if_neg h0, if_pos h2]
              · rw [if_neg h0, if_neg h2, if_pos h1]
        exact nilr 41 (by decide) hd
      · rw [if_neg (fun e => c2 (of_decide_eq_true e))]
        have hd : merE h xs.length st = 0 := by
          unfold merE
          rw [hk, if_neg (by decide), if_neg c1, if_neg (fun e => c2 (.inl e)), if_neg (fun e => c2 (.inr (.inl e))), if_neg (fun e => c2 (.inr (.inr e)))]
        obtain ⟨_, c', z, a1, a2, a3, a4, a5, a6⟩ := mer_zero (by omega) hd
        obtain rfl : c' = c := by omega
        have ez : xs.length / st.toNat = z := by rw [a6, a1]; rfl
        have et : IntKind.i64.wrap (Int.tdiv ((t.len : Nat) : Int) st) = ((z : Nat) : Int) := by rw [htl, a1, (tdiv_st (c := c') (by omega)).1, a6]
        have hcz : xs.length - z = c' * z := by rw [a2, Nat.add_mul]; omega
        have hzl : z ≤ xs.length := by rw [a2, Nat.add_mul]; omega
        have hne : xs ≠ [] := fun e => by rw [e] at hzl; simp at hzl; omega
        have hw : IntKind.i64.wrap (((t.len : Nat) : Int) - ((z : Nat) : Int)) = ((xs.length - z : Nat) : Int) := by rw [htl, w64 (by omega) (by omega)]; omega
        have d1 : (0 : Int) ≤ ((xs.length - z : Nat) : Int) ∧ ((xs.length - z : Nat) : Int) ≤ ((t.cap : Nat) : Int) := by omega
        have d2 : (0 : Int) ≤ ((xs.length - z : Nat) : Int) ∧ ((xs.length - z : Nat) : Int) ≤ ((t.len : Nat) : Int) := by omega
        have hs1 : Src w ⟨sla t.a 0 t.cap 1, xs.length - z - 0, t.cap - 0⟩ (ints .u8 (xs.take (xs.length - z))) := by
          have hc := hs.cut (n := xs.length - z) (by omega)
          rw [ints_take] at hc
          rw [sla_zero, Nat.sub_zero, Nat.sub_zero]
          exact hc
        obtain ⟨s2, w2, b1, b2, b3, b4⟩ := rBefore_ok hK hk T hs1 (fun x hx' => hx x (List.mem_of_mem_take hx')) a3 a4 (by rw [List.length_take]; omega) (fun q hq _ => hlt q (by rw [sla_zero] at hq; exact hq) hne) (c := c') (by rw [List.length_take]; omega)
        have hs2 : Src w ⟨sla t.a (xs.length - z) t.cap 1, t.len - (xs.length - z), t.cap - (xs.length - z)⟩ (ints .u8 (xs.drop (xs.length - z))) := by
          have h2 := src_sub hs (lo := xs.length - z) (by rw [ints_length]; omega)
          have e : (ints .u8 xs).drop (xs.length - z) = ints .u8 (xs.drop (xs.length - z)) := by simp [ints, List.map_drop]
          rwa [e] at h2
        have hbl : (Shr.before (ops h C S) z (xs.take (xs.length - z))).length = z := Shr.before_length (by have := ops_size hk C S; omega) (ops_D hk C S) _ _
        have q2 := b3.size
        obtain ⟨s3, w3, f1, f2, f3, f4⟩ := rPlus_ok hK h C S (by rw [hbl, List.length_drop]; omega) (by omega) (b2.src ints_one) (hs2.upd0 b3) (fun q hq _ => lt_of_blk (fun _ hk => b2.lt hk) q hq) (fun q hq _ => by
          obtain ⟨q', hq', eb⟩ := sla_blk hq
          have := hlt q' hq' hne
          rw [eb]; omega)
        refine ⟨s3, w3, ?_, ?_, b3.and0 f3, fun j hj => by have := f4 j hj; omega⟩
        · rw [if_pos (show st ≠ 0 by omega), et, hw, if_pos d1, Int.toNat_natCast, b1, bnd_ok, if_pos d2, f1, bnd_ok, hd]
        · rw [hd, if_pos rfl, ez]
          exact f2

end Go.Sh

/- ShredDiffuses. -/
set_option linter.unusedVariables false
set_option maxRecDepth 100000
namespace Go.Sh
open Go.Fw Go.Sha Go.RowKit Go.Proofs.Tryd

/-- what is asked behind a law: it is true, and nothing is changed -/
noncomputable def kT (W : World) (y : Bool × Unit) (w' : World) : Option Unit := by
  classical exact if y.1 = true ∧ Upd none_ W w' then some () else none
theorem kT_ok {W w' : World} (u : Upd none_ W w') : kT W (true, ()) w' = some () := by
  unfold kT; rw [if_pos ⟨rfl, u⟩]
theorem kT_some {W w' : World} {y : Bool × Unit} (h : kT W y w' = some ()) : y = (true, ()) ∧ Upd none_ W w' := by
  unfold kT at h
  split at h
  · rename_i h1; exact ⟨Prod.ext h1.1 rfl, h1.2⟩
  · cases h

theorem src_ltx {w : World} {s : Sl} {xs : List Int} (hs : Src w s (ints .u8 xs)) : ∀ q, s.a = some q → xs ≠ [] → q.block < w.heap.size := by
  intro q hq hne
  rcases hs.rd with ⟨a, _, _⟩ | ⟨p, a, b⟩
  · rw [a] at hq; cases hq
  · rw [a] at hq
    obtain rfl := Option.some.inj hq
    exact b.lt fun e => hne (by simpa [ints] using e)

theorem difV_len (h : Int) (C S xs : List Int) : (difV h C S xs).length ≤ 1024 := by
  unfold difV
  split
  · rename_i e
    unfold difE at e
    split at e
    · cases e
    · rename_i hk
      split at e
      · cases e
      · have hk : known h = true := by simpa using hk
        have := ops_size hk C S
        rw [Shr.spread_length _ (by omega) (ops_D hk C S)]; omega
  · simp

theorem two_bytes (a b : Int) (ha : InK .u8 a) (hb : InK .u8 b) (w : World) : ∃ w', bldS prog 22 2 #[(0, (.int .u8 a)), (1, (.int .u8 b))] w = some (⟨some ⟨w.heap.size, 0, none⟩, 2, 2⟩, w') ∧ Src w' ⟨some ⟨w.heap.size, 0, none⟩, 2, 2⟩ (ints .u8 [a, b]) ∧ Upd none_ w w' := by
  obtain ⟨w2, b1, b2, b3, b4⟩ := bldS_ok sliceB (ints .u8 [a, b]) (fun v hv => by obtain ⟨x, _, rfl⟩ := List.mem_map.1 hv; rfl) (by simp) (by simp) w
  exact ⟨w2, b1, b2.src ints_one, b3⟩

theorem ShredDiffuses_ok {K : Nat} (hK : 18446744073709551616 ≤ K) {C S : List Int} {W : World} (T : TabsR W C S) {h : Int} {t : Sl} {xs : List Int} (P : BytesIn W t xs) : law04_ShredDiffuses K h t W (kT W) = some () := by
  have hxl := P.len
  obtain ⟨g, cap, w1, a1, a2, a3, u1⟩ := Bytes_ok hK P.src P.len
  have fr := marked_front a2
  have in12 : ∀ x ∈ [(1 : Int), 2], InK .u8 x := by
    intro x hx
    simp only [List.mem_cons, List.not_mem_nil, or_false] at hx
    rcases hx with rfl | rfl <;> exact ⟨by decide, by decide⟩
  unfold law04_ShredDiffuses
  rw [a1, bnd_ok]
  have T1 := T.upd0 u1
  refine Diffuse_ok hK T1.to (fr.src ints_one) P.inn (src_ltx (fr.src ints_one)) fun sx w2 ox fx u2 => ?_
  obtain ⟨w3, b1, b2, u3⟩ := two_bytes 1 2 (in12 1 (by simp)) (in12 2 (by simp)) w2
  rw [b1, bnd_ok]
  have u13 := u2.and0 u3
  refine Diffuse_ok hK (T1.upd0 u13).to b2 in12 (src_ltx b2) fun sz w4 oz fz u4 => ?_
  have u14 := u13.and0 u4
  refine Diffuse_ok hK (T1.upd0 u14).to ((fr.src ints_one).upd0 u14) P.inn (src_ltx ((fr.src ints_one).upd0 u14)) fun sy w5 oy fy u5 => ?_
  have u15 := u14.and0 u5
  have p5 := P.src.upd0 (u1.and0 u15)
  obtain ⟨sw, w6, d1, ow, u6, fw⟩ := rDiffuse_ok hK (T1.upd0 u15) (h := h) p5 P.inn (src_ltx p5)
  obtain ⟨w7, e1, e2, u7⟩ := two_bytes 1 2 (in12 1 (by simp)) (in12 2 (by simp)) w6
  have u17 := (u15.and0 u6).and0 u7
  obtain ⟨sv, w8, f1, ov, u8, fv⟩ := rDiffuse_ok hK (T1.upd0 u17) (h := 256) e2 in12 (src_ltx e2)
  have u18 := u17.and0 u8
  rw [d1, bnd_ok, e1, bnd_ok, f1, bnd_ok]
  have hl := difV_len h C S xs
  have hl2 := difV_len 256 C S [1, 2]
  have q1 := u1.size
  have q2 := u2.size
  have q3 := u3.size
  have q4 := u4.size
  have q5 := u5.size
  have q6 := u6.size
  have q7 := u7.size
  -- all stand at w8
  have ox8 := (((((ox.upd0 u3).upd0 u4).upd0 u5).upd0 u6).upd0 u7).upd0 u8
  have oz8 := (((oz.upd0 u5).upd0 u6).upd0 u7).upd0 u8
  have oy8 := ((oy.upd0 u6).upd0 u7).upd0 u8
  have ow8 := (ow.upd0 u7).upd0 u8
  have hld : ∀ j, sx.blk = some j → j < w2.heap.size := fun j hj => ox.lt hj
  -- equal
  obtain ⟨w9, g1, u9⟩ := SameBytes_ok hK ox8.rd ow8.rd (by omega)
  obtain ⟨w10, g2, u10⟩ := SameBytes_ok hK (oy8.upd0 u9).rd (ow8.upd0 u9).rd (by omega)
  have u810 := u9.and0 u10
  obtain ⟨w11, g3, u11⟩ := WholeBytes_ok hK ((a2.upd0 u18).upd0 u810) ((p5.upd0 ((u6.and0 u7).and0 u8)).upd0 u810).rds hxl
  have u811 := u810.and0 u11
  have s0 : law04_ShredDiffuses_s0 K t ⟨some ⟨g, 0, none⟩, xs.length, cap⟩ sx (difE h xs.length) (difE 256 [(1 : Int), 2].length) sy (difE h xs.length) sw (difE h xs.length) w8 = some ((false, ()), w11) := by
    have e0 : difE 256 [(1 : Int), 2].length = 0 := by decide
    unfold law04_ShredDiffuses_s0 law04_num
    simp only [Option.bind_some]
    rw [if_neg (by simp), if_neg (by simp), e0, if_neg (by decide), g1, bnd_ok, decide_eq_true rfl]
    dsimp only
    rw [if_neg (by decide), g2, bnd_ok, decide_eq_true rfl]
    dsimp only
    rw [if_neg (by decide), g3, bnd_ok, decide_eq_true rfl]
    rfl
  dsimp only
  rw [s0, bnd_ok]
  dsimp only
  rw [if_neg (by decide)]
  obtain ⟨w12, k1, u12⟩ := SpoilBytes_ok hK (ox8.upd0 u811).vw (by omega)
  have u812 : Upd (fun j => sx.blk = some j) w8 w12 := (u811.mono (T := fun j => sx.blk = some j) fun _ _ e => e.elim).trans' u12 fun _ _ e => e
  have oy12 := oy8.upd u812 fun j hj e => by have := fy j hj; have := hld j e; omega
  have ow12 := ow8.upd u812 fun j hj e => by have := fw j hj; have := hld j e; omega
  have oz12 := oz8.upd u812 fun j hj e => by have := fz j hj; have := hld j e; omega
  have ov12 := ov.upd u812 fun j hj e => by have := fv j hj; have := hld j e; omega
  obtain ⟨w13, k2, u13'⟩ := SameBytes_ok hK oy12.rd ow12.rd (by omega)
  obtain ⟨w14, k3, u14'⟩ := SameBytes_ok hK (oz12.upd0 u13').rd (ov12.upd0 u13').rd (by omega)
  rw [k1, bnd_ok, k2, bnd_ok, decide_eq_true rfl]
  dsimp only
  rw [if_pos rfl, k3, bnd_ok, decide_eq_true rfl]
  refine kT_ok ?_
  exact (((u1.and0 u18).trans' u812 fun j hj e => by have := fx j e; omega).and0 u13').and0 u14'

end Go.Sh

/- A Cut that came in. -/
set_option linter.unusedVariables false
namespace Go.Sh
open Go.Fw Go.Sha Go.RowKit Go.Proofs.Tryd Go.Deep Go.ChangeShapes Go.WideShapes

def cutL (h : Int) (s : Sl) (st : Int) (r : Sl) : List Value := [.int .i64 h, slV s, .int .i64 st, slV r]
def cutC (h : Int) (s : Sl) (st : Int) (r : Sl) : Array Value := (cutL h s st r).toArray

theorem int_cells : prog.cellsOf 3 = 1 := by kernel_rfl
theorem cells_of_TB : prog.cellsOf 22 = 1 := by kernel_rfl

set_option maxRecDepth 100000 in
theorem open_cut {H : Type} {enc : TypeId × Value → H} {W : World} {d : DataW H} {p : List MemPlace} {v : Value} {base : Nat} (hv : Value.okWide prog W .any base 34 v) (h : DataW.Trod enc prog W 0 (fun _ => true) true 34 v d p) (hw : ∀ n ∈ d.weights prog 34, n ≤ reachBytes) :
    ∃ hash s st r ss rs, v = .agg (cutC hash s st r) ∧ BytesIn W s ss ∧ BytesIn W r rs := by
  have hu := underlying34
  have hs0 := okWide_struct (P := prog) (t := 34) hu hv
  obtain ⟨cs, hcv, hcs⟩ := hs0
  subst hcv
  obtain ⟨fuel, hf⟩ := h
  obtain ⟨xs, m, _, hx, hcl, hxl, hfs⟩ := DataW.trod_struct hu hf
  have hsz : prog.cellsOf 34 = 4 := by kernel_rfl
  rw [hsz] at hcs
  have hcc : (Value.agg cs).cells.toList = cs.toList := rfl
  simp only [hcc] at hfs
  have hl4 : cs.toList.length = 4 := by simpa using hcs
  obtain ⟨c0, c1, c2, c3, hc⟩ : ∃ a b c d, cs.toList = [a, b, c, d] := by
    match hm : cs.toList, hl4 with
    | [a, b, c, d], _ => exact ⟨a, b, c, d, rfl⟩
  have hx4 : xs.length = 4 := hxl
  obtain ⟨y0, y1, y2, y3, hy⟩ : ∃ a b c d, xs = [a, b, c, d] := by
    match hm : xs, hx4 with
    | [a, b, c, d], _ => exact ⟨a, b, c, d, rfl⟩
  subst hy
  rw [hc] at hfs
  have f0 := hfs 0 _ rfl
  have f1 := hfs 1 _ rfl
  have f2 := hfs 2 _ rfl
  have f3 := hfs 3 _ rfl
  simp only [int_cells, cells_of_TB, List.drop_zero, List.drop_succ_cons, List.take_succ_cons, List.take_zero, List.getElem?_cons_zero, List.getElem?_cons_succ] at f0 f1 f2 f3
  have hd : d = .agg [y0.1, y1.1, y2.1, y3.1] := (Prod.mk.inj hx).1
  have hwt : ∀ n ∈ y0.1.weights prog 3 ++ (y1.1.weights prog 22 ++ (y2.1.weights prog 3 ++ (y3.1.weights prog 22 ++ []))), n ≤ reachBytes := by
    intro n hn
    refine hw n ?_
    rw [hd]
    simp only [DataW.weights, hu, List.map_cons, List.map_nil, DataW.weightsEach]
    exact hn
  obtain ⟨n0, e0, _, w0⟩ := DataW.trod_int underlying3 f0
  obtain ⟨s1, p1, e1, g1⟩ := open_bytes_t f1 (fun n hn => hwt n (by simp [hn]))
  obtain ⟨n2, e2, _, w2⟩ := DataW.trod_int underlying3 f2
  obtain ⟨s3, p3, e3, g3⟩ := open_bytes_t f3 (fun n hn => hwt n (by simp [hn]))
  have hcs2 : cs = cutC n0 s1 n2 s3 := by
    apply Array.ext'
    rw [hc, (List.cons.inj e0).1, (List.cons.inj e1).1, (List.cons.inj e2).1, (List.cons.inj e3).1]
    rfl
  subst hcs2
  exact ⟨n0, s1, n2, s3, p1, p3, rfl, g1, g3⟩

end Go.Sh

/- ShredMerges. -/
set_option linter.unusedVariables false
set_option maxRecDepth 100000
namespace Go.Sh
open Go.Fw Go.Sha Go.RowKit Go.Proofs.Tryd

theorem cut_lds {h st : Int} {s r : Sl} {w : World} {c : Nat} (b : Bk 34 w c (cutL h s st r)) :
    ldI .i64 ((⟨c, 0, none⟩ : Addr).add 0) w = some h ∧ ldS ((⟨c, 0, none⟩ : Addr).add 1) w = some s ∧ ldI .i64 ((⟨c, 0, none⟩ : Addr).add 2) w = some st ∧ ldS ((⟨c, 0, none⟩ : Addr).add 3) w = some r := by
  rw [add_lit, add_lit, add_lit, add_lit]
  exact ⟨b.ldI rfl, b.ldS rfl, b.ldI rfl, b.ldS rfl⟩

theorem merV_len (h : Int) (C S xs : List Int) (st : Int) (hl : xs.length < 9223372036854775808) : (merV h C S xs st).length ≤ 1024 := by
  unfold merV
  split
  · rename_i e
    obtain ⟨hk, c, z, a1, a2, a3, a4, a5, a6⟩ := mer_zero hl e
    have ez : xs.length / st.toNat = z := by rw [a6, a1]; rfl
    have := ops_size hk C S
    rw [ez]
    unfold Shr.merge
    rw [Shr.addL_length, Shr.before_length (by omega) (ops_D hk C S)]; omega
  · simp

theorem in1234 : ∀ x ∈ [(1 : Int), 2, 3, 4], InK .u8 x := by
  intro x hx
  simp only [List.mem_cons, List.not_mem_nil, or_false] at hx
  rcases hx with rfl | rfl | rfl | rfl <;> exact ⟨by decide, by decide⟩

theorem four_bytes (w : World) : ∃ w', bldS prog 22 4 #[(0, (.int .u8 1)), (1, (.int .u8 2)), (2, (.int .u8 3)), (3, (.int .u8 4))] w = some (⟨some ⟨w.heap.size, 0, none⟩, 4, 4⟩, w') ∧ Src w' ⟨some ⟨w.heap.size, 0, none⟩, 4, 4⟩ (ints .u8 [1, 2, 3, 4]) ∧ Upd none_ w w' := by
  obtain ⟨w2, b1, b2, b3, b4⟩ := bldS_ok sliceB (ints .u8 [1, 2, 3, 4]) (fun v hv => by obtain ⟨x, _, rfl⟩ := List.mem_map.1 hv; rfl) (by simp) (by simp) w
  exact ⟨w2, b1, b2.src ints_one, b3⟩

theorem ShredMerges_ok {K : Nat} (hK : 18446744073709551616 ≤ K) {C S : List Int} {W : World} (T : TabsR W C S) {h st : Int} {t t2 : Sl} {xs ys : List Int} (P : BytesIn W t xs) : law04_ShredMerges K (cutC h t st t2) W (kT W) = some () := by
  have htl : t.len = xs.length := by rw [P.src.len, ints_length]
  obtain ⟨w0, n1, bc, u0, z0⟩ := newB_ok (cutC h t st t2) 34 W
  have bc : Bk 34 w0 W.heap.size (cutL h t st t2) := bc
  have q0 := u0.size
  unfold law04_ShredMerges
  rw [n1, bnd_ok, (cut_lds bc).2.1, Option.bind_some, htl]
  by_cases c0 : 32768 < xs.length
  · rw [if_pos (decide_eq_true (show ((xs.length : Nat) : Int) > 32768 by omega))]
    exact kT_ok u0
  rw [if_neg (by simp only [decide_eq_true_eq]; omega), Option.bind_some]
  have hxl : xs.length ≤ 32768 := by omega
  have P0 := P.src.upd0 u0
  obtain ⟨g, cap, w1, a1, a2, a3, u1⟩ := Bytes_ok hK P0 P.len
  have fr := marked_front a2
  have T1 := (T.upd0 u0).upd0 u1
  have bc1 := bc.upd0 u1
  obtain ⟨l0, l1, l2, l3⟩ := cut_lds bc1
  rw [a1, bnd_ok, l0, Option.bind_some, l2, Option.bind_some]
  refine Merge_ok hK T1.to (fr.src ints_one) P.inn (src_ltx (fr.src ints_one)) P.len fun sx w2 ox fx u2 => ?_
  obtain ⟨w3, b1, b2, u3⟩ := four_bytes w2
  rw [b1, bnd_ok]
  have u13 := u2.and0 u3
  refine Merge_ok hK (T1.upd0 u13).to b2 in1234 (src_ltx b2) (by decide) fun sz w4 oz fz u4 => ?_
  have u14 := u13.and0 u4
  obtain ⟨l0, l1, l2, l3⟩ := cut_lds (bc1.upd0 u14)
  rw [l0, Option.bind_some, l2, Option.bind_some]
  refine Merge_ok hK (T1.upd0 u14).to ((fr.src ints_one).upd0 u14) P.inn (src_ltx ((fr.src ints_one).upd0 u14)) P.len fun sy w5 oy fy u5 => ?_
  have u15 := u14.and0 u5
  have bc5 := bc1.upd0 u15
  have p5 := P0.upd0 (u1.and0 u15)
  obtain ⟨l0, l1, l2, l3⟩ := cut_lds bc5
  rw [l0, Option.bind_some, l1, Option.bind_some, l2, Option.bind_some]
  obtain ⟨sw, w6, d1, ow, u6, fw⟩ := rMerge_ok hK (T1.upd0 u15) (h := h) (st := st) p5 P.inn (src_ltx p5) P.len
  obtain ⟨w7, e1, e2, u7⟩ := four_bytes w6
  have u17 := (u15.and0 u6).and0 u7
  obtain ⟨sv, w8, f1, ov, u8, fv⟩ := rMerge_ok hK (T1.upd0 u17) (h := 224) (st := 2) e2 in1234 (src_ltx e2) (by decide)
  have u18 := u17.and0 u8
  rw [d1, bnd_ok, e1, bnd_ok, f1, bnd_ok]
  have hl := merV_len h C S xs st (by omega)
  have hl2 := merV_len 224 C S [1, 2, 3, 4] 2 (by decide)
  have q1 := u1.size
  have q2 := u2.size
  have q3 := u3.size
  have q4 := u4.size
  have q5 := u5.size
  have q6 := u6.size
  have q7 := u7.size
  have ox8 := (((((ox.upd0 u3).upd0 u4).upd0 u5).upd0 u6).upd0 u7).upd0 u8
  have oz8 := (((oz.upd0 u5).upd0 u6).upd0 u7).upd0 u8
  have oy8 := ((oy.upd0 u6).upd0 u7).upd0 u8
  have ow8 := (ow.upd0 u7).upd0 u8
  have hld : ∀ j, sx.blk = some j → j < w2.heap.size := fun j hj => ox.lt hj
  obtain ⟨w9, g1, u9⟩ := SameBytes_ok hK ox8.rd ow8.rd (by omega)
  obtain ⟨w10, g2, u10⟩ := SameBytes_ok hK (oy8.upd0 u9).rd (ow8.upd0 u9).rd (by omega)
  have u810 := u9.and0 u10
  obtain ⟨w11, g3, u11⟩ := WholeBytes_ok hK ((a2.upd0 u18).upd0 u810) ((p5.upd0 ((u6.and0 u7).and0 u8)).upd0 u810).rds P.len
  have u811 := u810.and0 u11
  have s0 : law04_ShredMerges_s0 K ⟨W.heap.size, 0, none⟩ ⟨some ⟨g, 0, none⟩, xs.length, cap⟩ sx (merE h xs.length st) (merE 224 [(1 : Int), 2, 3, 4].length 2) sy (merE h xs.length st) sw (merE h xs.length st) w8 = some ((false, ()), w11) := by
    have e0 : merE 224 [(1 : Int), 2, 3, 4].length 2 = 0 := by decide
    obtain ⟨l0, l1, l2, l3⟩ := cut_lds ((bc1.upd0 u18).upd0 u810)
    unfold law04_ShredMerges_s0 law04_num
    simp only [Option.bind_some]
    rw [if_neg (by simp), if_neg (by simp), e0, if_neg (by decide), g1, bnd_ok, decide_eq_true rfl]
    dsimp only
    rw [if_neg (by decide), g2, bnd_ok, decide_eq_true rfl]
    dsimp only
    rw [if_neg (by decide), l1, Option.bind_some, g3, bnd_ok, decide_eq_true rfl]
    rfl
  dsimp only
  rw [s0, bnd_ok]
  dsimp only
  rw [if_neg (by decide)]
  obtain ⟨w12, k1, u12⟩ := SpoilBytes_ok hK (ox8.upd0 u811).vw (by omega)
  have u812 : Upd (fun j => sx.blk = some j) w8 w12 := (u811.mono (T := fun j => sx.blk = some j) fun _ _ e => e.elim).trans' u12 fun _ _ e => e
  have oy12 := oy8.upd u812 fun j hj e => by have := fy j hj; have := hld j e; omega
  have ow12 := ow8.upd u812 fun j hj e => by have := fw j hj; have := hld j e; omega
  have oz12 := oz8.upd u812 fun j hj e => by have := fz j hj; have := hld j e; omega
  have ov12 := ov.upd u812 fun j hj e => by have := fv j hj; have := hld j e; omega
  obtain ⟨w13, k2, u13'⟩ := SameBytes_ok hK oy12.rd ow12.rd (by omega)
  obtain ⟨w14, k3, u14'⟩ := SameBytes_ok hK (oz12.upd0 u13').rd (ov12.upd0 u13').rd (by omega)
  rw [k1, bnd_ok, k2, bnd_ok, decide_eq_true rfl]
  dsimp only
  rw [if_pos rfl, k3, bnd_ok, decide_eq_true rfl]
  refine kT_ok ?_
  exact ((((u0.and0 u1).and0 u18).trans' u812 fun j hj e => by have := fx j e; omega).and0 u13').and0 u14'

end Go.Sh

/- ShredSplits. -/
set_option linter.unusedVariables false
set_option maxRecDepth 100000
namespace Go.Sh
open Go.Fw Go.Sha Go.RowKit Go.Proofs.Tryd

theorem splV_len (h : Int) (C S xs : List Int) (st : Int) (ys : List Int) : (splV h C S xs st ys).length ≤ 4097024 := by
  unfold splV
  split
  · rename_i e
    obtain ⟨hk, a1, a2, c, a3, a4, a5⟩ := spl_zero e
    have := ops_size hk C S
    unfold Shr.split
    rw [List.length_append, Shr.addL_length, Shr.before_length (by omega) (ops_D hk C S)]; omega
  · simp

theorem in12 : ∀ x ∈ [(1 : Int), 2], InK .u8 x := by
  intro x hx
  simp only [List.mem_cons, List.not_mem_nil, or_false] at hx
  rcases hx with rfl | rfl <;> exact ⟨by decide, by decide⟩
theorem in77 : ∀ x ∈ [(7 : Int), 7], InK .u8 x := by
  intro x hx
  simp only [List.mem_cons, List.not_mem_nil, or_false] at hx
  rcases hx with rfl | rfl <;> exact ⟨by decide, by decide⟩

theorem ShredSplits_ok {K : Nat} (hK : 18446744073709551616 ≤ K) {C S : List Int} {W : World} (T : TabsR W C S) {h st : Int} {t t2 : Sl} {xs ys : List Int} (P : BytesIn W t xs) (Q : BytesIn W t2 ys) : law04_ShredSplits K (cutC h t st t2) W (kT W) = some () := by
  have htl : t.len = xs.length := by rw [P.src.len, ints_length]
  have htl2 : t2.len = ys.length := by rw [Q.src.len, ints_length]
  have hPl := P.len
  have hQl := Q.len
  obtain ⟨w0, n1, bc, u0, z0⟩ := newB_ok (cutC h t st t2) 34 W
  have bc : Bk 34 w0 W.heap.size (cutL h t st t2) := bc
  have q0 := u0.size
  have hw : IntKind.i64.wrap (((t.len : Nat) : Int) + ((t2.len : Nat) : Int)) = ((xs.length + ys.length : Nat) : Int) := by rw [htl, htl2, w64 (by omega) (by omega)]; rfl
  unfold law04_ShredSplits
  rw [n1, bnd_ok, (cut_lds bc).2.1, Option.bind_some, (cut_lds bc).2.2.2, Option.bind_some, hw]
  by_cases c0 : 32768 < xs.length + ys.length
  · rw [if_pos (decide_eq_true (show ((xs.length + ys.length : Nat) : Int) > 32768 by omega))]
    exact kT_ok u0
  rw [if_neg (by simp only [decide_eq_true_eq]; omega), Option.bind_some]
  have P0 := P.src.upd0 u0
  obtain ⟨g, cap, w1, a1, a2, a3, u1⟩ := Bytes_ok hK P0 P.len
  obtain ⟨l0, l1, l2, l3⟩ := cut_lds (bc.upd0 u1)
  rw [a1, bnd_ok, l3, Option.bind_some]
  have Q1 := Q.src.upd0 (u0.and0 u1)
  obtain ⟨g', cap', w2, a1', a2', a3', u2⟩ := Bytes_ok hK Q1 Q.len
  have a2 := a2.upd0 u2
  have fr := marked_front a2
  have fr' := marked_front a2'
  have u12 := u1.and0 u2
  have T2 := (T.upd0 u0).upd0 u12
  have bc2 := bc.upd0 u12
  obtain ⟨l0, l1, l2, l3⟩ := cut_lds bc2
  rw [a1', bnd_ok, l0, Option.bind_some, l2, Option.bind_some]
  refine Split_ok hK T2.to (fr.src ints_one) P.inn (src_ltx (fr.src ints_one)) (fr'.src ints_one) Q.inn (src_ltx (fr'.src ints_one)) fun sx w3 ox fx u3 => ?_
  obtain ⟨w4, b1, b2, u4⟩ := two_bytes 1 2 (in12 1 (by simp)) (in12 2 (by simp)) w3
  obtain ⟨w5, b3, b4, u5⟩ := two_bytes 7 7 (in77 7 (by simp)) (in77 7 (by simp)) w4
  rw [b1, bnd_ok, b3, bnd_ok]
  have u25 := (u3.and0 u4).and0 u5
  refine Split_ok hK (T2.upd0 u25).to (b2.upd0 u5) in12 (src_ltx (b2.upd0 u5)) b4 in77 (src_ltx b4) fun sz w6 oz fz u6 => ?_
  have u26 := u25.and0 u6
  obtain ⟨l0, l1, l2, l3⟩ := cut_lds (bc2.upd0 u26)
  rw [l0, Option.bind_some, l2, Option.bind_some]
  refine Split_ok hK (T2.upd0 u26).to ((fr.src ints_one).upd0 u26) P.inn (src_ltx ((fr.src ints_one).upd0 u26)) ((fr'.src ints_one).upd0 u26) Q.inn (src_ltx ((fr'.src ints_one).upd0 u26)) fun sy w7 oy fy u7 => ?_
  have u27 := u26.and0 u7
  have bc7 := bc2.upd0 u27
  have p7 := P0.upd0 (u12.and0 u27)
  have r7 := Q1.upd0 (u2.and0 u27)
  obtain ⟨l0, l1, l2, l3⟩ := cut_lds bc7
  rw [l0, Option.bind_some, l1, Option.bind_some, l2, Option.bind_some, l3, Option.bind_some]
  obtain ⟨sw, w8, d1, ow, u8, fw⟩ := rSplit_ok hK (T2.upd0 u27) (h := h) (st := st) p7 P.inn (src_ltx p7) r7 Q.inn (src_ltx r7)
  obtain ⟨w9, e1, e2, u9⟩ := two_bytes 1 2 (in12 1 (by simp)) (in12 2 (by simp)) w8
  obtain ⟨w10, e3, e4, u10⟩ := two_bytes 7 7 (in77 7 (by simp)) (in77 7 (by simp)) w9
  have u710 := (u8.and0 u9).and0 u10
  have u210 := u27.and0 u710
  obtain ⟨sv, w11, f1, ov, u11, fv⟩ := rSplit_ok hK (T2.upd0 u210) (h := 512) (st := 2) (e2.upd0 u10) in12 (src_ltx (e2.upd0 u10)) e4 in77 (src_ltx e4)
  have u211 := u210.and0 u11
  rw [d1, bnd_ok, e1, bnd_ok, e3, bnd_ok, f1, bnd_ok]
  have hl := splV_len h C S xs st ys
  have hl2 := splV_len 512 C S [1, 2] 2 [7, 7]
  have q1 := u1.size
  have q2 := u2.size
  have q3 := u3.size
  have q4 := u4.size
  have q5 := u5.size
  have q6 := u6.size
  have q7 := u7.size
  have q8 := u8.size
  have q9 := u9.size
  have q10 := u10.size
  have u711 := u710.and0 u11
  have ox8 := ((((ox.upd0 u4).upd0 u5).upd0 u6).upd0 u7).upd0 u711
  have oz8 := (oz.upd0 u7).upd0 u711
  have oy8 := oy.upd0 u711
  have ow8 := ((ow.upd0 u9).upd0 u10).upd0 u11
  have hld : ∀ j, sx.blk = some j → j < w3.heap.size := fun j hj => ox.lt hj
  obtain ⟨w12, g1, u12'⟩ := SameBytes_ok hK ox8.rd ow8.rd (by omega)
  obtain ⟨w13, g2, u13⟩ := SameBytes_ok hK (oy8.upd0 u12').rd (ow8.upd0 u12').rd (by omega)
  have u1113 := u12'.and0 u13
  obtain ⟨w14, g3, u14⟩ := WholeBytes_ok hK ((a2.upd0 u211).upd0 u1113) ((p7.upd0 u711).upd0 u1113).rds P.len
  have u1114 := u1113.and0 u14
  obtain ⟨w15, g4, u15⟩ := WholeBytes_ok hK ((a2'.upd0 u211).upd0 u1114) ((r7.upd0 u711).upd0 u1114).rds Q.len
  have u1115 := u1114.and0 u15
  have s0 : law04_ShredSplits_s0 K ⟨W.heap.size, 0, none⟩ ⟨some ⟨g, 0, none⟩, xs.length, cap⟩ ⟨some ⟨g', 0, none⟩, ys.length, cap'⟩ sx (splE h xs.length st ys.length) (splE 512 [(1 : Int), 2].length 2 [(7 : Int), 7].length) sy (splE h xs.length st ys.length) sw (splE h xs.length st ys.length) w11 = some ((false, ()), w15) := by
    have e0 : splE 512 [(1 : Int), 2].length 2 [(7 : Int), 7].length = 0 := by decide
    obtain ⟨l0, l1, l2, l3⟩ := cut_lds ((bc2.upd0 u211).upd0 u1113)
    obtain ⟨l0', l1', l2', l3'⟩ := cut_lds ((bc2.upd0 u211).upd0 u1114)
    unfold law04_ShredSplits_s0 law04_num
    simp only [Option.bind_some]
    rw [if_neg (by simp), if_neg (by simp), e0, if_neg (by decide), g1, bnd_ok, decide_eq_true rfl]
    dsimp only
    rw [if_neg (by decide), g2, bnd_ok, decide_eq_true rfl]
    dsimp only
    rw [if_neg (by decide), l1, Option.bind_some, g3, bnd_ok, decide_eq_true rfl]
    dsimp only
    rw [if_neg (by decide), l3', Option.bind_some, g4, bnd_ok, decide_eq_true rfl]
    rfl
  dsimp only
  rw [s0, bnd_ok]
  dsimp only
  rw [if_neg (by decide)]
  obtain ⟨w16, k1, u16⟩ := SpoilBytes_ok hK (ox8.upd0 u1115).vw (by omega)
  have u812 : Upd (fun j => sx.blk = some j) w11 w16 := (u1115.mono (T := fun j => sx.blk = some j) fun _ _ e => e.elim).trans' u16 fun _ _ e => e
  have oy12 := oy8.upd u812 fun j hj e => by have := fy j hj; have := hld j e; omega
  have ow12 := ow8.upd u812 fun j hj e => by have := fw j hj; have := hld j e; omega
  have oz12 := oz8.upd u812 fun j hj e => by have := fz j hj; have := hld j e; omega
  have ov12 := ov.upd u812 fun j hj e => by have := fv j hj; have := hld j e; omega
  obtain ⟨w17, k2, u17⟩ := SameBytes_ok hK oy12.rd ow12.rd (by omega)
  obtain ⟨w18, k3, u18⟩ := SameBytes_ok hK (oz12.upd0 u17).rd (ov12.upd0 u17).rd (by omega)
  rw [k1, bnd_ok, k2, bnd_ok, decide_eq_true rfl]
  dsimp only
  rw [if_pos rfl, k3, bnd_ok, decide_eq_true rfl]
  refine kT_ok ?_
  exact ((((u0.and0 u12).and0 u211).trans' u812 fun j hj e => by have := fx j e; omega).and0 u17).and0 u18

end Go.Sh

/- ShredOne; what ShredBack fills and masks. -/
set_option linter.unusedVariables false
set_option maxRecDepth 100000
namespace Go.Sh
open Go.Fw Go.Sha Go.RowKit Go.Proofs.Tryd

theorem lknown (h : Int) : law04_known h = some (known h, ()) := by
  unfold law04_known known
  by_cases h1 : h = 224
  · rw [if_pos (by simpa using h1)]; simp [h1]
  · rw [if_neg (by simpa using h1)]
    by_cases h2 : h = 256
    · rw [if_pos (by simpa using h2)]; simp [h2]
    · rw [if_neg (by simpa using h2)]
      by_cases h3 : h = 384
      · rw [if_pos (by simpa using h3)]; simp [h3]
      · rw [if_neg (by simpa using h3)]; simp [h1, h2, h3]

theorem splE_of {h : Int} {n c m : Nat} (hk : known h = true) (h1 : 1 ≤ n) (h2 : n ≤ 1024) (h3 : c + 1 ≤ 4000) (hm : m = c * n) : splE h n ((c : Int) + 1) m = 0 := by
  obtain ⟨c', e1, e2, e3⟩ := mul_small (n := n) (st := (c : Int) + 1) h2 (by omega) (by omega)
  obtain rfl : c' = c := by omega
  have hr : rndE n ((c' : Int) + 1) = 0 := by unfold rndE; rw [if_neg (by omega), if_neg (by omega), if_neg (by omega)]
  unfold splE
  rw [hk, if_neg (by decide), hr, if_neg (by decide), e2, hm, if_neg (by simp)]

theorem merE_of {h : Int} {n c m : Nat} (hk : known h = true) (h1 : 1 ≤ n) (h2 : n ≤ 1024) (h3 : c + 1 ≤ 4000) (hm : m = (c + 1) * n) : merE h m ((c : Int) + 1) = 0 ∧ m / ((c : Int) + 1).toNat = n := by
  have hle : (c + 1) * n ≤ 4000 * 1024 := Nat.mul_le_mul h3 h2
  have hp : 1 * 1 ≤ (c + 1) * n := Nat.mul_le_mul (by omega) h1
  obtain ⟨t1, t2⟩ := tdiv_st (n := m) (c := c) (by omega)
  have e1 : m % (c + 1) = 0 := by rw [hm]; exact Nat.mul_mod_right _ _
  have e2 : m / (c + 1) = n := by rw [hm, Nat.mul_div_cancel_left _ (by omega)]
  refine ⟨?_, e2⟩
  unfold merE
  rw [hk, if_neg (by decide), if_neg (by omega), if_neg (by omega), t2, t1, e1, e2, if_neg (by decide), if_neg (by omega)]

theorem before_none (h : Int) (C S : List Int) (n : Nat) : Shr.before (ops h C S) n [] = List.replicate n 0 := by
  unfold Shr.before
  rw [List.length_nil, Nat.zero_div]; rfl

theorem ShredOne_ok {K : Nat} (hK : 18446744073709551616 ≤ K) {C S : List Int} {W : World} (T : Tabs W C S) {h : Int} {t : Sl} {xs : List Int} (P : BytesIn W t xs) : law04_ShredOne K h t W (kT W) = some () := by
  have htl : t.len = xs.length := by rw [P.src.len, ints_length]
  unfold law04_ShredOne law04_ShredOne_s0
  rw [lknown, Option.bind_some]
  dsimp only
  cases hk : known h with
  | false => rw [if_pos (by rfl), bnd_ok]; exact kT_ok (Upd.refl _ _)
  | true =>
    rw [if_neg (show ¬ (!true) = true by decide), htl]
    by_cases c1 : xs.length < 1
    · rw [if_pos (decide_eq_true (show ((xs.length : Nat) : Int) < 1 by omega)), bnd_ok]; exact kT_ok (Upd.refl _ _)
    · rw [if_neg (by simp only [decide_eq_true_eq]; omega)]
      by_cases c2 : xs.length > 1024
      · rw [decide_eq_true (show ((xs.length : Nat) : Int) > 1024 by omega), bnd_ok]; exact kT_ok (Upd.refl _ _)
      · rw [decide_eq_false (show ¬ ((xs.length : Nat) : Int) > 1024 by omega), bnd_ok, if_neg (by decide)]
        have es : splE h xs.length ((0 : Nat) + 1 : Int) ([] : List Int).length = 0 := splE_of hk (by omega) (by omega) (by omega) (by simp)
        have es : splE h xs.length 1 ([] : List Int).length = 0 := es
        obtain ⟨em, en⟩ := merE_of (h := h) (n := xs.length) (c := 0) (m := xs.length) hk (by omega) (by omega) (by omega) (by omega)
        have em : merE h xs.length 1 = 0 := em
        have en : xs.length / (1 : Int).toNat = xs.length := en
        have vs : splV h C S xs 1 [] = xs := by
          unfold splV Shr.split
          rw [if_pos es, before_none, addL_zero h C S xs P.inn, List.nil_append]
        have vm : merV h C S xs 1 = xs := by
          unfold merV Shr.merge
          rw [if_pos em, en, Nat.sub_self, List.take_zero, List.drop_zero, before_none, addL_zero h C S xs P.inn]
        have hn : Src W ⟨none, 0, 0⟩ (ints .u8 []) := (OwnS.nil 5 W).src (by simp)
        refine Split_ok hK T P.src P.inn (src_ltx P.src) hn (by simp) (src_ltx hn) fun s1 w1 o1 f1 u1 => ?_
        refine Merge_ok hK (T.upd0 u1) (P.src.upd0 u1) P.inn (src_ltx (P.src.upd0 u1)) P.len fun s2 w2 o2 f2 u2 => ?_
        rw [vs] at o1
        rw [vm] at o2
        obtain ⟨w3, e3, u3⟩ := SameBytes_ok hK (o1.upd0 u2).rd ((P.src.upd0 u1).upd0 u2).rds (by omega)
        obtain ⟨w4, e4, u4⟩ := SameBytes_ok hK (o2.upd0 u3).rd (((P.src.upd0 u1).upd0 u2).upd0 u3).rds (by omega)
        unfold law04_num
        simp only [Option.bind_some]
        rw [es, em, if_pos (by rfl), if_pos (by rfl), e3, bnd_ok, decide_eq_true rfl]
        dsimp only
        rw [if_pos rfl, e4, bnd_ok, decide_eq_true rfl]
        exact kT_ok (((u1.and0 u2).and0 u3).and0 u4)

/-! ### filled -/

theorem filled_loop {K : Nat} {t b : Sl} {xs : List Int} {n : Nat} (hnl : n < 9223372036854775807) (hxl : xs.length < 9223372036854775807) (hb : ∀ q, t.a = some q → xs ≠ [] → b.blk ≠ some q.block) :
    ∀ (d i m : Nat) (w : World) (zs : List Int), i + d = n → d < m → zs.length = n → (∀ z ∈ zs, InK .u8 z) → OwnS 5 w b (ints .u8 zs) → Src w t (ints .u8 xs) →
      ∃ zs' w', law04_filled_l0 K m ((n : Nat) : Int) t b (i : Int) w = some ((), w') ∧ zs'.length = n ∧ (∀ z ∈ zs', InK .u8 z) ∧ OwnS 5 w' b (ints .u8 zs') ∧ Upd (fun j => b.blk = some j) w w' := by
  intro d
  induction d with
  | zero =>
    intro i m w zs hi hm hl hz ho hs
    obtain ⟨m, rfl⟩ : ∃ q, m = q + 1 := ⟨m - 1, by omega⟩
    refine ⟨zs, w, ?_, hl, hz, ho, Upd.refl _ _⟩
    show law04_filled_l0_b K (law04_filled_l0 K m) ((n : Nat) : Int) t b (i : Int) w = _
    unfold law04_filled_l0_b law04_filled_s1
    rw [if_neg (by simp only [decide_eq_true_eq]; omega), bnd_ok, if_neg (by decide)]
  | succ d ih =>
    intro i m w zs hi hm hl hz ho hs
    obtain ⟨m, rfl⟩ : ∃ q, m = q + 1 := ⟨m - 1, by omega⟩
    have htl : t.len = xs.length := by rw [hs.len, ints_length]
    have hbl : b.len = zs.length := by rw [ho.len, ints_length]
    by_cases c : xs.length = 0
    · refine ⟨zs, w, ?_, hl, hz, ho, Upd.refl _ _⟩
      show law04_filled_l0_b K (law04_filled_l0 K m) ((n : Nat) : Int) t b (i : Int) w = _
      unfold law04_filled_l0_b law04_filled_s1
      rw [if_pos (decide_eq_true (show (i : Int) < ((n : Nat) : Int) by omega)), bnd_ok, htl, c]
      rfl
    · have hne : xs ≠ [] := fun e => c (by rw [e]; rfl)
      have hzne : zs ≠ [] := fun e => by rw [e] at hl; simp at hl; omega
      have hm1 : Int.tmod (i : Int) ((t.len : Nat) : Int) = ((i % xs.length : Nat) : Int) := by rw [htl]; rfl
      have hd1 : Int.tdiv (i : Int) ((t.len : Nat) : Int) = ((i / xs.length : Nat) : Int) := by rw [htl]; rfl
      have hlt : i % xs.length < xs.length := Nat.mod_lt _ (by omega)
      have c1 : (0 : Int) ≤ ((i % xs.length : Nat) : Int) ∧ ((i % xs.length : Nat) : Int) < ((t.len : Nat) : Int) := by rw [htl]; exact ⟨Int.natCast_nonneg _, Int.ofNat_lt.2 hlt⟩
      have c2 : (0 : Int) ≤ (i : Int) ∧ (i : Int) < ((b.len : Nat) : Int) := by omega
      obtain ⟨q, q1, q2⟩ := (hs.upd0 (Upd.refl none_ w).drew).rds.ld
      have q1 := q1 hne
      have l1 := q2 (i % xs.length) hlt
      obtain ⟨p', w1, s1, s2, s3, s4⟩ := (ho.upd0 (Upd.refl none_ w).drew).st (i := i) (by omega) (.int .u8 (IntKind.u8.wrap (xs[i % xs.length] + IntKind.u8.wrap (IntKind.i64.wrap (Int.tdiv (i : Int) ((t.len : Nat) : Int))))))
      have u1 : Upd (fun j => b.blk = some j) w w1 := s4.predrew
      rw [ints_set_] at s3
      have e3 : IntKind.i64.wrap ((i : Int) + 1) = ((i + 1 : Nat) : Int) := by rw [w64 (by omega) (by omega)]; rfl
      obtain ⟨zs', w', k1, k2, k3, k4, k5⟩ := ih (i + 1) m w1 _ (by omega) (by omega) (by rw [List.length_set]; exact hl) (fun z hz' => by
        rcases List.mem_or_eq_of_mem_set hz' with e | e
        · exact hz z e
        · rw [e]; exact wrap8_in _) s3 (src_updW hs u1 fun q hq hne => hb q hq hne)
      refine ⟨zs', w', ?_, k2, k3, k4, u1.trans' k5 fun _ _ e => e⟩
      show law04_filled_l0_b K (law04_filled_l0 K m) ((n : Nat) : Int) t b (i : Int) w = _
      unfold law04_filled_l0_b law04_filled_s1
      rw [if_pos (decide_eq_true (show (i : Int) < ((n : Nat) : Int) by omega)), bnd_ok]
      dsimp only
      rw [if_pos (decide_eq_true (show ((t.len : Nat) : Int) > 0 by omega)), if_pos (show ((t.len : Nat) : Int) ≠ 0 by omega), q1, Option.bind_some, hm1, if_pos c1, if_pos (show ((t.len : Nat) : Int) ≠ 0 by omega), Int.toNat_natCast, Nat.mul_one, l1, Option.bind_some, s1, Option.bind_some, if_pos c2, Int.toNat_natCast, Nat.mul_one, s2, Option.bind_some, e3, k1]

theorem filled_ok {K : Nat} (hK : 18446744073709551616 ≤ K) {w : World} {t : Sl} {xs : List Int} {n : Nat} (hn : n ≤ 1099511627776) (hs : Src w t (ints .u8 xs)) (hxl : xs.length ≤ 140737488351232) :
    ∃ zs w', law04_filled K ((n : Nat) : Int) t w = some ((⟨some ⟨w.heap.size, 0, none⟩, n, n⟩, ()), w') ∧ zs.length = n ∧ (∀ z ∈ zs, InK .u8 z) ∧ OwnS 5 w' ⟨some ⟨w.heap.size, 0, none⟩, n, n⟩ (ints .u8 zs) ∧ Upd none_ w w' := by
  obtain ⟨w1, a1, a2, a3⟩ := mkS_full w hn
  obtain ⟨zs, w2, b1, b2, b3, b4, b5⟩ := filled_loop (K := K) (t := t) (b := ⟨some ⟨w.heap.size, 0, none⟩, n, n⟩) (xs := xs) (n := n) (by omega) (by omega) (fun q hq hne e => by have := src_ltx hs q hq hne; have e2 : w.heap.size = q.block := Option.some.inj e; omega) n 0 K w1 _ (by omega) (by omega) (List.length_replicate ..) (zeros_in n) a2 (hs.upd0 a3)
  refine ⟨zs, w2, ?_, b2, b3, b4, a3.trans' b5 fun j hj e => by have e2 : w.heap.size = j := Option.some.inj e; omega⟩
  unfold law04_filled
  have b1 : law04_filled_l0 K K ((n : Nat) : Int) t ⟨some ⟨w.heap.size, 0, none⟩, n, n⟩ 0 w1 = some ((), w2) := b1
  rw [a1, bnd_ok, b1, bnd_ok]

end Go.Sh

/- What ShredBack masks and compares. -/
set_option linter.unusedVariables false
set_option maxRecDepth 100000
namespace Go.Sh
open Go.Fw Go.Sha Go.RowKit Go.Proofs.Tryd

theorem mask_loop {K : Nat} {p : Addr} {rn m x : Sl} {A X : List Int} {n : Nat} (hrn : rn.len = A.length) (hX : ∀ y ∈ X, InK .u8 y) (hXl : X.length = n) (hbig : A.length + n ≤ 4611686018427387904) (hmx : ∀ q, x.a = some q → X ≠ [] → m.blk ≠ some q.block) :
    ∀ (d i k : Nat) (w : World) (B : List Int), i + d = n → d < k → B.length = n → (∀ z ∈ B, InK .u8 z) → OwnS 5 w m (ints .u8 (A ++ B)) → Src w x (ints .u8 X) →
      ∃ w', law04_ShredBack_l3 K k p ((n : Nat) : Int) rn m x (i : Int) w = some ((), w') ∧ OwnS 5 w' m (ints .u8 (A ++ addFrom B i (X.drop i))) ∧ Upd (fun j => m.blk = some j) w w' := by
  intro d
  induction d with
  | zero =>
    intro i k w B hi hk hl hz ho hs
    obtain ⟨k, rfl⟩ : ∃ q, k = q + 1 := ⟨k - 1, by omega⟩
    refine ⟨w, ?_, by rw [List.drop_eq_nil_of_le (by omega)]; exact ho, Upd.refl _ _⟩
    show law04_ShredBack_l3_b K (law04_ShredBack_l3 K k) p ((n : Nat) : Int) rn m x (i : Int) w = _
    unfold law04_ShredBack_l3_b
    rw [if_neg (by simp only [decide_eq_true_eq]; omega)]
  | succ d ih =>
    intro i k w B hi hk hl hz ho hs
    obtain ⟨k, rfl⟩ : ∃ q, k = q + 1 := ⟨k - 1, by omega⟩
    have hxl : x.len = X.length := by rw [hs.len, ints_length]
    have hml : m.len = A.length + B.length := by rw [ho.len, ints_length, List.length_append]
    have hXne : X ≠ [] := fun e => by rw [e] at hXl; simp at hXl; omega
    have hBne : A ++ B ≠ [] := fun e => by
      have h0 : (A ++ B).length = 0 := by rw [e]; rfl
      rw [List.length_append] at h0; omega
    have hw : IntKind.i64.wrap (((rn.len : Nat) : Int) + (i : Int)) = ((A.length + i : Nat) : Int) := by rw [hrn, w64 (by omega) (by omega)]; rfl
    have c1 : (0 : Int) ≤ ((A.length + i : Nat) : Int) ∧ ((A.length + i : Nat) : Int) < ((m.len : Nat) : Int) := by omega
    have c2 : (0 : Int) ≤ (i : Int) ∧ (i : Int) < ((x.len : Nat) : Int) := by omega
    obtain ⟨q, q1, q2⟩ := (ho.upd0 (Upd.refl none_ w).drew).rd.ld
    obtain ⟨z, z1, z2⟩ := (hs.upd0 (Upd.refl none_ w).drew).rds.ld
    have q1 := q1 hBne
    have z1 := z1 hXne
    have l1 := q2 (A.length + i) (by rw [List.length_append]; omega)
    have l2 := z2 i (by omega)
    have hget : (A ++ B)[A.length + i]'(by rw [List.length_append]; omega) = B.getD i 0 := by
      rw [List.getElem_append_right (by omega), List.getD_eq_getElem?_getD, List.getElem?_eq_getElem (by omega)]
      simp
    obtain ⟨p', w1, s1, s2, s3, s4⟩ := (ho.upd0 (Upd.refl none_ w).drew).st (i := A.length + i) (by omega) (.int .u8 (xr8 (B.getD i 0) (X[i]'(by omega))))
    obtain rfl : p' = q := Option.some.inj (s1.symm.trans q1)
    have u1 : Upd (fun j => m.blk = some j) w w1 := s4.predrew
    rw [ints_set_] at s3
    have hset : (A ++ B).set (A.length + i) (xr8 (B.getD i 0) (X[i]'(by omega))) = A ++ B.set i (xr8 (B.getD i 0) (X[i]'(by omega))) := by
      rw [List.set_append_right _ _ (by omega)]; simp
    rw [hset] at s3
    have e3 : IntKind.i64.wrap ((i : Int) + 1) = ((i + 1 : Nat) : Int) := by rw [w64 (by omega) (by omega)]; rfl
    obtain ⟨w', k1, k2, k3⟩ := ih (i + 1) k w1 _ (by omega) (by omega) (by rw [List.length_set]; exact hl) (fun z hz' => by
      rcases List.mem_or_eq_of_mem_set hz' with e | e
      · exact hz z e
      · rw [e]; refine InK.xor rfl ?_ (hX _ (List.getElem_mem _))
        rw [List.getD_eq_getElem?_getD, List.getElem?_eq_getElem (by omega)]
        exact hz _ (List.getElem_mem _)) s3 (src_updW hs u1 fun q hq hne => hmx q hq hne)
    refine ⟨w', ?_, ?_, u1.trans' k3 fun _ _ e => e⟩
    · show law04_ShredBack_l3_b K (law04_ShredBack_l3 K k) p ((n : Nat) : Int) rn m x (i : Int) w = _
      unfold law04_ShredBack_l3_b
      have s2' : stC (p'.add (A.length + i)) (.int .u8 (bits .xor .u8 (B.getD i 0) (X[i]'(by omega)))) w.drew = some w1 := s2
      rw [if_pos (decide_eq_true (show (i : Int) < ((n : Nat) : Int) by omega)), q1, Option.bind_some, hw, if_pos c1, z1, Option.bind_some, if_pos c2, Int.toNat_natCast, Int.toNat_natCast, Nat.mul_one, Nat.mul_one, l1, Option.bind_some, l2, Option.bind_some, Option.bind_some, if_pos c1, hget, s2', Option.bind_some, e3, k1]
    · rw [List.drop_eq_getElem_cons (show i < X.length by omega)]; exact k2

theorem comp_loop {K : Nat} {c : Nat} {h st : Int} {s r : Sl} {rn m x t : Sl} {xs X : List Int} (C S : List Int) {n : Nat} (hxs : xs.length = n) (hX : X.length = n) (hn : n ≤ 1024) :
    ∀ (d i k : Nat) (w : World), i + d = n → d < k → Bk 34 w c (cutL h s st r) → Src w s (ints .u8 xs) → Src w x (ints .u8 X) → Src w t (ints .u8 (Shr.addL (ops h C S) xs X)) →
      ∃ w', law04_ShredBack_l5 K k ⟨c, 0, none⟩ ((n : Nat) : Int) rn m x t (i : Int) w = some (.norm (), w') ∧ Upd none_ w w' := by
  intro d
  induction d with
  | zero =>
    intro i k w hi hk bc hs hsx hst
    obtain ⟨k, rfl⟩ : ∃ q, k = q + 1 := ⟨k - 1, by omega⟩
    refine ⟨w, ?_, Upd.refl _ _⟩
    show law04_ShredBack_l5_b K (law04_ShredBack_l5 K k) ⟨c, 0, none⟩ ((n : Nat) : Int) rn m x t (i : Int) w = _
    unfold law04_ShredBack_l5_b
    rw [if_neg (by simp only [decide_eq_true_eq]; omega)]
  | succ d ih =>
    intro i k w hi hk bc hs hsx hst
    obtain ⟨k, rfl⟩ : ∃ q, k = q + 1 := ⟨k - 1, by omega⟩
    have ud := (Upd.refl none_ w).drew
    have hal : (Shr.addL (ops h C S) xs X).length = n := by rw [Shr.addL_length]; exact hxs
    have hsl : s.len = n := by rw [hs.len, ints_length]; exact hxs
    have hxl : x.len = n := by rw [hsx.len, ints_length]; exact hX
    have htl : t.len = n := by rw [hst.len, ints_length]; exact hal
    have ne1 : xs ≠ [] := fun e => by rw [e] at hxs; simp at hxs; omega
    have ne2 : X ≠ [] := fun e => by rw [e] at hX; simp at hX; omega
    have ne3 : Shr.addL (ops h C S) xs X ≠ [] := fun e => by rw [e] at hal; simp at hal; omega
    obtain ⟨q, q1, q2⟩ := (hs.upd0 ud).rds.ld
    obtain ⟨z, z1, z2⟩ := (hsx.upd0 ud).rds.ld
    obtain ⟨y, y1, y2⟩ := (hst.upd0 ud).rds.ld
    have q1 := q1 ne1
    have z1 := z1 ne2
    have y1 := y1 ne3
    have l1 := q2 i (by omega)
    have l2 := z2 i (by omega)
    have l3 := y2 i (by omega)
    have c1 : (0 : Int) ≤ (i : Int) ∧ (i : Int) < ((n : Nat) : Int) := by omega
    have e3 : IntKind.i64.wrap ((i : Int) + 1) = ((i + 1 : Nat) : Int) := by rw [w64 (by omega) (by omega)]; rfl
    have hget : (Shr.addL (ops h C S) xs X)[i]'(by omega) = xr8 (xs[i]'(by omega)) (X[i]'(by omega)) := by
      have : ∀ (i : Nat) (a b : List Int) (h1 : i < a.length) (h2 : i < b.length) (h3 : i < (Shr.addL (ops h C S) a b).length), (Shr.addL (ops h C S) a b)[i] = xr8 a[i] b[i] := by
        intro i
        induction i with
        | zero => intro a b h1 h2 h3; match a, b, h1, h2 with | _ :: _, _ :: _, _, _ => rfl
        | succ i ih =>
          intro a b h1 h2 h3
          match a, b, h1, h2, h3 with
          | a0 :: a, b0 :: b, h1, h2, h3 => exact ih a b (by simpa using h1) (by simpa using h2) (by rw [Shr.addL_length]; simpa using h1)
      exact this i xs X _ _ _
    obtain ⟨w', k1, k2⟩ := ih (i + 1) k w.drew (by omega) (by omega) bc.drew (hs.upd0 ud) (hsx.upd0 ud) (hst.upd0 ud)
    refine ⟨w', ?_, k2.predrew⟩
    show law04_ShredBack_l5_b K (law04_ShredBack_l5 K k) ⟨c, 0, none⟩ ((n : Nat) : Int) rn m x t (i : Int) w = _
    unfold law04_ShredBack_l5_b
    rw [if_pos (decide_eq_true (show (i : Int) < ((n : Nat) : Int) by omega)), y1, Option.bind_some, htl, if_pos c1, z1, Option.bind_some, hxl, if_pos c1, Int.toNat_natCast, Nat.mul_one, l3, Option.bind_some, (cut_lds bc.drew).2.1, Option.bind_some, q1, Option.bind_some, hsl, if_pos c1, l1, Option.bind_some, l2, Option.bind_some, hget]
    rw [if_neg (show ¬ (xr8 xs[i] X[i] != bits .xor .u8 xs[i] X[i]) = true by simp [xr8]), e3, k1]

end Go.Sh

/- ShredBack. -/
set_option linter.unusedVariables false
set_option maxRecDepth 100000
namespace Go.Sh
open Go.Fw Go.Sha Go.RowKit Go.Proofs.Tryd

theorem back_s0 {K : Nat} {h st : Int} {s r : Sl} {w : World} {c n : Nat} (b : Bk 34 w c (cutL h s st r)) (hn : n ≤ 140737488351232) :
    ∃ v, law04_ShredBack_s0 K ⟨c, 0, none⟩ ((n : Nat) : Int) w = some ((v, ()), w) ∧ (v = false → known h = true ∧ 1 ≤ n ∧ n ≤ 1024 ∧ ∃ e : Nat, st = (e : Int) + 1 ∧ e + 1 ≤ 4000 ∧ (e + 1) * n ≤ 32768) := by
  obtain ⟨l0, l1, l2, l3⟩ := cut_lds b
  unfold law04_ShredBack_s0
  rw [l0, Option.bind_some, lknown, Option.bind_some]
  dsimp only
  cases hk : known h with
  | false => exact ⟨true, by rw [if_pos (by rfl)], fun e => by cases e⟩
  | true =>
    rw [if_neg (show ¬ (!true) = true by decide)]
    by_cases c1 : n < 1
    · exact ⟨true, by rw [if_pos (decide_eq_true (show ((n : Nat) : Int) < 1 by omega))], fun e => by cases e⟩
    rw [if_neg (by simp only [decide_eq_true_eq]; omega)]
    by_cases c2 : 1024 < n
    · exact ⟨true, by rw [if_pos (decide_eq_true (show ((n : Nat) : Int) > 1024 by omega))], fun e => by cases e⟩
    rw [if_neg (by simp only [decide_eq_true_eq]; omega), l2, Option.bind_some]
    by_cases c3 : st < 1
    · exact ⟨true, by rw [if_pos (decide_eq_true c3)], fun e => by cases e⟩
    rw [if_neg (by simp only [decide_eq_true_eq]; omega), Option.bind_some]
    by_cases c4 : st > 4000
    · exact ⟨true, by rw [if_pos (decide_eq_true c4)], fun e => by cases e⟩
    rw [if_neg (by simp only [decide_eq_true_eq]; omega), Option.bind_some]
    obtain ⟨e, he⟩ : ∃ e : Nat, st = (e : Int) + 1 := ⟨(st - 1).toNat, by omega⟩
    have hle : (e + 1) * n ≤ 4000 * 1024 := Nat.mul_le_mul (by omega) (by omega)
    have e1 : ((n : Nat) : Int) * st = (((e + 1) * n : Nat) : Int) := by rw [he, Int.natCast_mul, Int.mul_comm]; rfl
    have e2 : IntKind.i64.wrap (((n : Nat) : Int) * st) = (((e + 1) * n : Nat) : Int) := by rw [e1, w64 (by omega) (by omega)]
    refine ⟨_, rfl, fun hv => ⟨rfl, by omega, by omega, e, he, by omega, ?_⟩⟩
    rw [e2] at hv
    have := of_decide_eq_false hv
    omega

theorem ShredBack_ok {K : Nat} (hK : 18446744073709551616 ≤ K) {C S : List Int} {W : World} (T : Tabs W C S) {h st : Int} {t t2 t3 : Sl} {xs ys zs : List Int} (P : BytesIn W t xs) (Q : BytesIn W t2 ys) (R : BytesIn W t3 zs) : law04_ShredBack K (cutC h t st t2) t3 W (kT W) = some () := by
  have htl : t.len = xs.length := by rw [P.src.len, ints_length]
  have hPl := P.len
  obtain ⟨w0, n1, bc, u0, z0⟩ := newB_ok (cutC h t st t2) 34 W
  have bc : Bk 34 w0 W.heap.size (cutL h t st t2) := bc
  obtain ⟨v, v1, v2⟩ := back_s0 (K := K) bc hPl
  unfold law04_ShredBack
  rw [n1, bnd_ok, (cut_lds bc).2.1, Option.bind_some, htl, v1, bnd_ok]
  dsimp only
  cases v with
  | true => rw [if_pos rfl]; exact kT_ok u0
  | false =>
    rw [if_neg (by decide)]
    obtain ⟨hk, a1, a2, c, a3, a4, a5⟩ := v2 rfl
    clear v2 v1
    have hO := ops_size hk C S
    have hs0 : 0 < (ops h C S).size := by omega
    have hD := ops_D hk C S
    have hG := ops_good h C S
    have hDi := ops_in (h := h) C S
    have hz0 : InK .u8 0 := ⟨by decide, by decide⟩
    have hcm : (c + 1) * xs.length = c * xs.length + xs.length := Nat.succ_mul _ _
    have e1 : IntKind.i64.wrap (((xs.length : Nat) : Int) * IntKind.i64.wrap (st - 1)) = ((c * xs.length : Nat) : Int) := by
      obtain ⟨c', b1, b2, b3⟩ := mul_small (n := xs.length) (st := st) a2 (by omega) (by omega)
      obtain rfl : c' = c := by omega
      exact b2
    obtain ⟨l0, l1, l2, l3⟩ := cut_lds bc
    obtain ⟨rs, w1, b1, b2, b3, b4, u1⟩ := filled_ok hK (n := c * xs.length) (by omega) (Q.src.upd0 u0) Q.len
    have bc1 := bc.upd0 u1
    have T1 := (T.upd0 u0).upd0 u1
    have p1 := (P.src.upd0 u0).upd0 u1
    rw [l2, Option.bind_some, l3, Option.bind_some, e1, b1, bnd_ok]
    obtain ⟨l0, l1, l2, l3⟩ := cut_lds bc1
    rw [l0, Option.bind_some, l1, Option.bind_some, l2, Option.bind_some]
    have es : splE h xs.length st rs.length = 0 := by rw [a3]; exact splE_of hk a1 a2 a4 b2
    have rsr := b4.src ints_one
    refine Split_ok hK T1 p1 P.inn (src_ltx p1) rsr b3 (src_ltx rsr) fun sm w2 om fm u2 => ?_
    obtain ⟨M, hM⟩ : ∃ M, M = Shr.split (ops h C S) xs rs := ⟨_, rfl⟩
    have eV : splV h C S xs st rs = M := by unfold splV; rw [if_pos es, hM]
    rw [eV] at om
    obtain ⟨m1, m2, m3⟩ := Shr.split_parts (O := ops h C S) (secret := xs) (random := rs) hs0 hD
    rw [← hM] at m1 m2 m3
    have hMl : M.length = (c + 1) * xs.length := by rw [m1, b2, hcm]
    have hMi : ∀ x ∈ M, InK .u8 x := by
      rw [hM]; unfold Shr.split
      intro x hx
      rcases List.mem_append.1 hx with e | e
      · exact b3 x e
      · exact Shr.addL_in hG (Shr.before_in hDi hz0 _ _) P.inn x e
    have hml : sm.len = M.length := by rw [om.len, ints_length]
    have hmc := om.cap.1
    have u12 := u1.and0 u2
    -- the material's front
    have rs2 := rsr.upd0 u2
    have hfr : Src w2 ⟨sla sm.a 0 sm.cap 1, c * xs.length - 0, sm.cap - 0⟩ (ints .u8 rs) := by
      have hc := (om.src ints_one).cut (n := c * xs.length) (by omega)
      rw [ints_take, ← b2, m2, b2] at hc
      rw [sla_zero, Nat.sub_zero, Nat.sub_zero]; exact hc
    obtain ⟨w3, g1, u3⟩ := SameBytes_ok hK hfr.rds rs2.rds (by omega)
    have bc2 := bc1.upd0 u2
    have s1 : law04_ShredBack_s1 K ⟨W.heap.size, 0, none⟩ ((xs.length : Nat) : Int) ⟨some ⟨w0.heap.size, 0, none⟩, c * xs.length, c * xs.length⟩ sm 0 w2 = some ((false, ()), w3) := by
      have e2 : IntKind.i64.wrap (((xs.length : Nat) : Int) * st) = (((c + 1) * xs.length : Nat) : Int) := by
        have e1 : ((xs.length : Nat) : Int) * st = (((c + 1) * xs.length : Nat) : Int) := by rw [a3, Int.natCast_mul, Int.mul_comm]; rfl
        rw [e1, w64 (by omega) (by omega)]
      have d1 : (0 : Int) ≤ ((c * xs.length : Nat) : Int) ∧ ((c * xs.length : Nat) : Int) ≤ ((sm.cap : Nat) : Int) := by omega
      unfold law04_ShredBack_s1 law04_num
      rw [Option.bind_some]
      dsimp only
      rw [if_neg (by decide), (cut_lds bc2).2.2.1, Option.bind_some, e2, hml, hMl, if_neg (by simp), if_pos d1, Int.toNat_natCast, g1, bnd_ok, decide_eq_true rfl]
      rfl
    rw [es]
    dsimp only
    rw [s1, bnd_ok]
    dsimp only
    rw [if_neg (by decide)]
    have bc3 := bc2.upd0 u3
    obtain ⟨l0, l1, l2, l3⟩ := cut_lds bc3
    rw [l0, Option.bind_some, l2, Option.bind_some]
    have om3 := om.upd0 u3
    have T3 := (T1.upd0 u2).upd0 u3
    have ms := om3.src ints_one
    obtain ⟨em, en⟩ := merE_of (h := h) (n := xs.length) (c := c) (m := M.length) hk a1 a2 a4 hMl
    rw [← a3] at em en
    refine Merge_ok hK T3 ms hMi (src_ltx ms) (by omega) fun ss w4 os fs u4 => ?_
    have eS : merV h C S M st = xs := by
      unfold merV; rw [if_pos em, en, hM]; exact Shr.merge_split hG hs0 hD hDi hz0 P.inn
    rw [eS] at os
    have u34 := u3.and0 u4
    have p4 := ((p1.upd0 u2).upd0 u3).upd0 u4
    obtain ⟨w5, g2, u5⟩ := SameBytes_ok hK os.rd p4.rds (by omega)
    have s2 : law04_ShredBack_s2 K ⟨W.heap.size, 0, none⟩ 0 ss w4 = some ((false, ()), w5) := by
      unfold law04_ShredBack_s2 law04_num
      rw [Option.bind_some]
      dsimp only
      rw [if_neg (by decide), (cut_lds (bc3.upd0 u4)).2.1, Option.bind_some, g2, bnd_ok, decide_eq_true rfl]
      rfl
    rw [em]
    dsimp only
    rw [s2, bnd_ok]
    dsimp only
    rw [if_neg (by decide)]
    -- the mask
    have u05 := ((u0.and0 u12).and0 u34).and0 u5
    have u25 := u34.and0 u5
    obtain ⟨X, w6, x1, x2, x3, x4, u6⟩ := filled_ok hK (n := xs.length) (by omega) (R.src.upd0 u05) R.len
    rw [x1, bnd_ok]
    have om6 := (om.upd0 u25).upd0 u6
    have hMe : M = rs ++ M.drop rs.length := by rw [← m2, List.length_take, Nat.min_eq_left (by omega), List.take_append_drop]
    obtain ⟨B, hB⟩ : ∃ B, B = M.drop rs.length := ⟨_, rfl⟩
    rw [← hB] at hMe
    have hBl : B.length = xs.length := by rw [hB, List.length_drop]; omega
    have hBi : ∀ z ∈ B, InK .u8 z := fun z hz => hMi z (by rw [hMe]; exact List.mem_append_right _ hz)
    have hmx : ∀ q, (⟨some ⟨w5.heap.size, 0, none⟩, xs.length, xs.length⟩ : Sl).a = some q → X ≠ [] → sm.blk ≠ some q.block := fun q hq _ e => by
      obtain rfl := Option.some.inj hq
      have := (om.upd0 u25).lt e
      exact absurd this (Nat.lt_irrefl _)
    rw [hMe] at om6
    obtain ⟨w7, y1, y2, u7⟩ := mask_loop (K := K) (p := ⟨W.heap.size, 0, none⟩) (rn := ⟨some ⟨w0.heap.size, 0, none⟩, c * xs.length, c * xs.length⟩) (A := rs) b2.symm x3 x2 (by omega) hmx xs.length 0 K w6 B (by omega) (by omega) hBl hBi om6 (x4.src ints_one)
    have y1 : law04_ShredBack_l3 K K ⟨W.heap.size, 0, none⟩ ((xs.length : Nat) : Int) ⟨some ⟨w0.heap.size, 0, none⟩, c * xs.length, c * xs.length⟩ sm ⟨some ⟨w5.heap.size, 0, none⟩, xs.length, xs.length⟩ 0 w6 = _ := y1
    rw [y1, bnd_ok]
    rw [List.drop_zero, addFrom_eq h C S X B 0 (by omega), List.take_zero, List.nil_append, List.drop_zero] at y2
    obtain ⟨M', hM'⟩ : ∃ M', M' = rs ++ Shr.addL (ops h C S) B X := ⟨_, rfl⟩
    rw [← hM'] at y2
    have hM'l : M'.length = (c + 1) * xs.length := by rw [hM', List.length_append, Shr.addL_length, hBl, b2, hcm]
    have hM'i : ∀ x ∈ M', InK .u8 x := by
      rw [hM']
      intro x hx
      rcases List.mem_append.1 hx with e | e
      · exact b3 x e
      · exact Shr.addL_in hG hBi x3 x e
    have hsm1 : ∀ j, sm.blk = some j → w1.heap.size ≤ j := fm
    have q1 := u1.size
    have q2 := u2.size
    have q6 := u6.size
    have q25 := u25.size
    have hlm : ∀ k, k < w1.heap.size → ¬ sm.blk = some k := fun k hk e => by have := hsm1 k e; omega
    have hW1 : W.heap.size < w0.heap.size := bc.lt
    have u67 : Upd (fun j => sm.blk = some j) w2 w7 := ((u25.and0 u6).mono (T := fun j => sm.blk = some j) fun _ _ e => e.elim).trans' u7 fun _ _ e => e
    have hq0 := u0.size
    have bc7 := bc2.upd u67 (hlm _ (by omega))
    have T7 := (T1.upd0 u2).upd u67 fun k hk => hlm k (by have := T.lt; omega)
    have rs7 := src_updW (rsr.upd0 u2) u67 fun q hq hne => hlm _ (src_ltx rsr q hq hne)
    have p7 := src_updW (p1.upd0 u2) u67 fun q hq hne => hlm _ (src_ltx p1 q hq hne)
    have X7 := x4.upd u7 fun j hj e => by
      have e2 : w5.heap.size = j := Option.some.inj hj
      have := (om.upd0 u25).lt e
      omega
    obtain ⟨l0, l1, l2, l3⟩ := cut_lds bc7
    rw [l0, Option.bind_some, l2, Option.bind_some]
    have ms7 := y2.src ints_one
    obtain ⟨em', en'⟩ := merE_of (h := h) (n := xs.length) (c := c) (m := M'.length) hk a1 a2 a4 hM'l
    rw [← a3] at em' en'
    refine Merge_ok hK T7 ms7 hM'i (src_ltx ms7) (by omega) fun st' w8 ot ft u8 => ?_
    have eT : merV h C S M' st = Shr.addL (ops h C S) xs X := by
      unfold merV
      rw [if_pos em', en', hM']
      have hml2 : M.length - xs.length = rs.length := by omega
      have h1 := Shr.merge_mask hG hs0 hD hDi hz0 (n := xs.length) (m := M) (mask := X) hMi x3 x2 (by omega)
      rw [hml2, ← hB, m2] at h1
      rw [h1]
      congr 1
      rw [hM]; exact Shr.merge_split hG hs0 hD hDi hz0 P.inn
    rw [eT] at ot
    have htl' : st'.len = xs.length := by rw [ot.len, ints_length, Shr.addL_length]
    have s4 : law04_ShredBack_s4 K ((xs.length : Nat) : Int) 0 st' w8 = some ((false, ()), w8) := by
      unfold law04_ShredBack_s4 law04_num
      rw [Option.bind_some]
      dsimp only
      rw [if_neg (by decide), htl']
      simp
    rw [em']
    dsimp only
    rw [s4, bnd_ok]
    dsimp only
    rw [if_neg (by decide)]
    have bc8 := bc7.upd0 u8
    obtain ⟨w9, k1, u9⟩ := comp_loop (K := K) (rn := ⟨some ⟨w0.heap.size, 0, none⟩, c * xs.length, c * xs.length⟩) (m := sm) C S (n := xs.length) rfl x2 a2 xs.length 0 K w8 (by omega) (by omega) bc8 (p7.upd0 u8) ((X7.src ints_one).upd0 u8) (ot.src ints_one)
    have k1 : law04_ShredBack_l5 K K ⟨W.heap.size, 0, none⟩ ((xs.length : Nat) : Int) ⟨some ⟨w0.heap.size, 0, none⟩, c * xs.length, c * xs.length⟩ sm ⟨some ⟨w5.heap.size, 0, none⟩, xs.length, xs.length⟩ st' 0 w8 = _ := k1
    rw [k1, bnd_ok]
    dsimp only
    have u89 := u8.and0 u9
    obtain ⟨l0, l1, l2, l3⟩ := cut_lds (bc8.upd0 u9)
    rw [l0, Option.bind_some, l2, Option.bind_some]
    have t9 := (ot.upd0 u9).src ints_one
    have r9 := rs7.upd0 u89
    have hTl : (Shr.addL (ops h C S) xs X).length = xs.length := Shr.addL_length _ _ _
    have hTi := Shr.addL_in hG P.inn x3
    refine Split_ok hK (T7.upd0 u89) t9 hTi (src_ltx t9) r9 b3 (src_ltx r9) fun sa w10 oa fa u10 => ?_
    have es' : splE h (Shr.addL (ops h C S) xs X).length st rs.length = 0 := by rw [hTl, es]
    have eA : splV h C S (Shr.addL (ops h C S) xs X) st rs = M' := by
      unfold splV
      rw [if_pos es', hM']
      unfold Shr.split
      rw [hTl, hB, m3]
      congr 1
      exact (Shr.addL_assoc hG (Shr.before_length hs0 hD _ _) x2.symm (Shr.before_in hDi hz0 _ _) P.inn x3).symm
    rw [eA] at oa
    obtain ⟨w11, k2, u11⟩ := SameBytes_ok hK oa.rd ((ms7.upd0 u89).upd0 u10).rds (by omega)
    unfold law04_num
    rw [es', Option.bind_some]
    dsimp only
    rw [if_pos (by rfl), k2, bnd_ok, decide_eq_true rfl]
    refine kT_ok ?_
    have uz : Upd none_ W w7 := (u0.and0 u12).trans' u67 fun j hj e => by have := hsm1 j e; omega
    exact ((uz.and0 u89).and0 u10).and0 u11

end Go.Sh

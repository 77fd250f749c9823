/- Views: slices that lie anywhere in a block; append to them; nothing of a program stands here. -/
import Derived.Test.YtgmdbhckccmhjaaDoorFwP
import Derived.ArgAppend
import Derived.Deep.DeepAppendWide
namespace Go.Fw
open Go.RowKit

theorem Bk.setCells {e : TypeId} {g : Nat} : ∀ (vs : List Value) (o : Nat) (w : World) (cs : List Value), Bk e w g cs → o + vs.length ≤ cs.length →
    Bk e (w.setCells g o vs) g (seg cs o vs) ∧ Upd (· = g) w (w.setCells g o vs)
  | [], o, w, cs, h, _ => ⟨by simpa [seg, World.setCells] using h, Upd.refl _ w⟩
  | v :: r, o, w, cs, h, hl => by
    simp only [List.length_cons] at hl
    obtain ⟨h1, h2⟩ := Bk.setCells r (o + 1) _ _ (h.setCell o v) (by simp; omega)
    refine ⟨?_, (Upd.setCell w ⟨g, o, none⟩ v).trans' h2 fun _ _ e => e⟩
    have : seg (cs.set o v) (o + 1) r = seg cs o (v :: r) := by
      apply List.ext_getElem?
      intro k
      rw [seg_get (by simp; omega), seg_get (by simp only [List.length_cons]; omega), List.getElem?_set]
      simp only [List.length_cons]
      by_cases a1 : k < o
      · have : ¬ o = k := by omega
        simp [a1, this, show k < o + 1 by omega]
      · by_cases a2 : k = o
        · subst a2
          simp [show k < cs.length by omega]
        · have b1 : ¬ k < o + 1 := by omega
          have b2 : ¬ o = k := by omega
          simp only [a1, b1, b2, if_false]
          by_cases a3 : k < o + 1 + r.length
          · rw [if_pos a3, if_pos (by omega), show k - o = (k - (o + 1)) + 1 by omega]; rfl
          · rw [if_neg a3, if_neg (by omega)]
    rw [← this]; exact h1

/-- A slice that lies in a block, with the room that it has: its elements. -/
def Vw (e : TypeId) (w : World) (s : Sl) (xs : List Value) : Prop :=
  xs.length = s.len ∧ ((s.a = none ∧ s.len = 0 ∧ s.cap = 0) ∨
    ∃ g o cs, s.a = some ⟨g, o, none⟩ ∧ Bk e w g cs ∧ s.len ≤ s.cap ∧ s.cap ≤ maxLen ∧ o + s.cap ≤ cs.length ∧ (cs.drop o).take s.len = xs)

theorem Own.vw {e : TypeId} {w : World} {s : Sl} {xs : List Value} (h : Own e w s xs) : Vw e w s xs := by
  refine ⟨h.1, h.2.imp id fun ⟨g, cur, h1, h2, h3, h4, h5, h6⟩ => ⟨g, 0, cur.toList, h1, by unfold Bk; simpa using h2, h3, h4, by simp; omega, by simpa using h6⟩⟩

theorem Vw.nil (e : TypeId) (w : World) : Vw e w ⟨none, 0, 0⟩ [] := ⟨rfl, .inl ⟨rfl, rfl, rfl⟩⟩
theorem Vw.len {e : TypeId} {w : World} {s : Sl} {xs : List Value} (h : Vw e w s xs) : s.len = xs.length := h.1.symm
theorem Vw.upd {e : TypeId} {w w' : World} {s : Sl} {xs : List Value} {S : Nat → Prop} (h : Vw e w s xs) (u : Upd S w w') (hn : ∀ k, s.blk = some k → ¬ S k) : Vw e w' s xs :=
  ⟨h.1, h.2.imp id fun ⟨g, o, cs, h1, h2, h3⟩ => ⟨g, o, cs, h1, h2.upd u (hn g (by simp [Sl.blk, h1])), h3⟩⟩
theorem Vw.upd0 {e : TypeId} {w w' : World} {s : Sl} {xs : List Value} (h : Vw e w s xs) (u : Upd none_ w w') : Vw e w' s xs := h.upd u fun _ _ => id
theorem Vw.lt {e : TypeId} {w : World} {s : Sl} {xs : List Value} (h : Vw e w s xs) {k : Nat} (hk : s.blk = some k) : k < w.heap.size := by
  rcases h.2 with ⟨h1, _⟩ | ⟨g, o, cs, h1, h2, _⟩
  · simp [Sl.blk, h1] at hk
  · simp [Sl.blk, h1] at hk; subst hk; exact h2.lt
theorem Vw.src {e : TypeId} {w : World} {s : Sl} {xs : List Value} (h : Vw e w s xs) (h1 : ∀ v ∈ xs, v.oneCell' = true) : Src w s xs := by
  rcases h.2 with ⟨a1, a2, a3⟩ | ⟨g, o, cs, a1, a2, a3, a4, a5, a6⟩
  · exact ⟨h.len, by omega, .inl ⟨a1, a3, List.eq_nil_of_length_eq_zero (by rw [h.1, a2])⟩, h1⟩
  · refine ⟨h.len, a3, .inr ⟨_, a1, a2.rd o _ fun i v hv => ?_⟩, h1⟩
    rw [← a6, List.getElem?_take] at hv
    split at hv
    · rw [List.getElem?_drop] at hv; exact hv
    · cases hv

theorem Vw.rd {e : TypeId} {w : World} {s : Sl} {κ : IntKind} {zs : List Int} (h : Vw e w s (ints κ zs)) : RdS κ w s zs := (h.src ints_one).rds

theorem ints_set_ {κ : IntKind} (xs : List Int) (i : Nat) (x : Int) : (ints κ xs).set i (.int κ x) = ints κ (xs.set i x) := by simp [ints, List.map_set]

/-- One element is set. -/
theorem Vw.st {e : TypeId} {w : World} {s : Sl} {xs : List Value} (h : Vw e w s xs) {i : Nat} (hi : i < s.len) (v : Value) :
    ∃ p w', s.a = some p ∧ stC (p.add i) v w = some w' ∧ Vw e w' s (xs.set i v) ∧ Upd (fun k => s.blk = some k) w w' := by
  rcases h.2 with ⟨a1, a2, a3⟩ | ⟨g, o, cs, a1, a2, a3, a4, a5, a6⟩
  · omega
  · obtain ⟨w', e1, e2, e3⟩ := a2.stC (i := o + i) (by omega) v
    refine ⟨_, w', a1, by rw [add_lit]; exact e1, ⟨by rw [List.length_set]; exact h.1, .inr ⟨g, o, _, a1, e2, a3, a4, by simpa using a5, ?_⟩⟩, e3.mono fun k _ hk => by simp [Sl.blk, a1, hk]⟩
    rw [← a6]
    apply List.ext_getElem?
    intro k
    simp only [List.getElem?_take, List.getElem?_drop, List.getElem?_set, List.length_take, List.length_drop]
    by_cases c1 : k < s.len
    · by_cases c2 : i = k
      · subst c2; simp [c1, show o + i < cs.length by omega]; omega
      · have : ¬ o + i = o + k := by omega
        simp [c1, c2, this]
    · have : ¬ i = k := by omega
      simp [c1, this]

theorem apd_vw {P : Program} {t e : TypeId} {z : Value} {bytes : Nat} (T : OneSlice P t e z bytes) {w : World} {s x : Sl} {xs vs : List Value} (h : Vw e w s xs) (hx : Src w x vs) (hb : (s.len + x.len) * bytes ≤ 140737488355328) :
    ∃ s' w', apd P t t (.slice s.a s.len s.cap) (.slice x.a x.len x.cap) w = some (s', w') ∧ s'.len = s.len + x.len ∧ Vw e w' s' (xs ++ vs) ∧ Upd (fun k => s.blk = some k) w w' ∧ (∀ k, s'.blk = some k → s.blk = some k ∨ w.heap.size ≤ k) := by
  rcases h.2 with ⟨a1, a2, a3⟩ | ⟨g, o, cs, a1, a2, a3, a4, a5, a6⟩
  · obtain ⟨s', w', h1, h2, h3, h4, h5⟩ := apd_ok T (s := s) (xs := xs) ⟨h.1, .inl ⟨a1, a2, a3⟩⟩ hx hb
    refine ⟨s', w', h1, h2, h3.vw, h4, fun k hk => ?_⟩
    rcases h5 with h5 | h5
    · exact .inl (h5 ▸ hk)
    · rw [h5] at hk; have := Option.some.inj hk; exact .inr (by omega)
  obtain ⟨i, hi, hsz, hz, hby⟩ := T.info
  have hxl := hx.len
  have hsl := h.1
  rcases hx.rd with ⟨h1, h2, h3⟩ | ⟨p, h1, h2⟩
  · have hl : x.len = 0 := by rw [hx.len, h3]; rfl
    refine ⟨s, w, ?_, by omega, by rw [h3, List.append_nil]; exact h, Upd.refl _ _, fun _ => .inl⟩
    unfold apd
    rw [h1, h2, hl, a1]
    have : s = ⟨some ⟨g, o, none⟩, s.len, s.cap⟩ := by cases s; simp_all
    simp [Builtin.append_, run_underlying T.ht, sizeOf, typeInfo, hi, Builtin.lenOf, a3, Builtin.firstCells, loadCells, loadCellsFrom, storeCells]
    rw [this]
  · by_cases hr : s.len + x.len ≤ s.cap
    · have hm : ∀ j, j < vs.length → (w.cell? ⟨g, o + s.len * i.size + j, none⟩).isSome = true := by
        intro j hj
        rw [a2.cell, List.getElem?_eq_getElem (by rw [hsz]; omega)]; rfl
      have hrun := run_append_room_cells (P := P) w t 0 e i T.ht hi g o s.len s.cap p x.len x.cap vs (by rw [hsz]; omega) h2 hx.one hr hm (fun j _ => a2.frozen _)
      rw [hsz, Nat.mul_one] at hrun
      obtain ⟨b1, b2⟩ := a2.setCells vs (o + s.len) w cs (by omega)
      refine ⟨⟨some ⟨g, o, none⟩, s.len + x.len, s.cap⟩, w.setCells g (o + s.len) vs, ?_, rfl, ⟨by simp; omega, .inr ⟨g, o, _, rfl, b1, hr, a4, by rw [seg_length (by omega)]; exact a5, ?_⟩⟩, b2.mono fun k _ hk => by simp [Sl.blk, a1, hk], fun k hk => .inl (by rw [← hk]; simp [Sl.blk, a1])⟩
      · unfold apd; rw [a1, h1, hrun]
      · apply List.ext_getElem?
        intro k
        rw [List.getElem?_take, List.getElem?_drop, seg_get (by omega)]
        by_cases c1 : k < s.len + x.len
        · rw [if_pos c1]
          by_cases c2 : k < s.len
          · rw [if_pos (by omega), List.getElem?_append_left (by omega), ← a6, List.getElem?_take, if_pos c2, List.getElem?_drop]
          · rw [if_neg (by omega), if_pos (by omega), List.getElem?_append_right (by omega)]
            congr 1; omega
        · rw [if_neg c1, List.getElem?_eq_none (by rw [List.length_append]; omega)]
    · have holds : ∀ j u, xs[j]? = some u → w.cell? ((⟨g, o, none⟩ : Addr).add j) = some u := by
        intro j u hu
        rw [add_lit, a2.cell]
        rw [← a6, List.getElem?_take] at hu
        split at hu
        · rw [List.getElem?_drop] at hu; exact hu
        · cases hu
      obtain ⟨v', w', hrun, ho, hg⟩ := run_append_arg_grows (P := P) w t 0 e i z 1 i.bytes T.ht hi hz hsz rfl T.zc (by omega) ⟨g, o, none⟩ s.len s.cap xs (by omega) holds p x.len x.cap vs (by omega) h2 (by omega)
        (by have := Nat.le_mul_of_pos_right (s.len + x.len) T.pos; simp only [maxLen]; omega) (by rw [hby]; exact hb)
      have hlt : w.heap.size ≤ w'.heap.size := (Upd.of_grown hg).size
      obtain ⟨hlen0, ho2⟩ := ho
      rcases ho2 with ⟨_, hz0⟩ | ⟨g', cap', cur, rfl, hbase, c2, c3, c4, c5, c6⟩
      · omega
      · refine ⟨⟨some ⟨g', 0, none⟩, s.len + x.len, cap'⟩, w', ?_, rfl, ⟨by simp; omega, .inr ⟨g', 0, cur.toList, rfl, by unfold Bk; simpa using c2, c3, c4, by simp; omega, by simpa using c6⟩⟩, (Upd.of_grown hg).mono fun k _ hk => (by cases hk), fun k hk => .inr ?_⟩
        · unfold apd; rw [a1, h1, hrun]
        · simp only [Sl.blk, Option.map_some, Option.some.injEq] at hk; omega

theorem fold_seg : ∀ (vs : List Value) (k off : Nat) (a : Array Value), off + k + vs.length ≤ a.size →
    ((vs.zipIdx k).foldl (fun cs p => cs.setIfInBounds (off + p.2) p.1) a).toList = seg a.toList (off + k) vs
  | [], k, off, a, _ => by simp [seg]
  | v :: r, k, off, a, h => by
    simp only [List.length_cons] at h
    rw [List.zipIdx_cons, List.foldl_cons, fold_seg r (k + 1) off _ (by simp; omega)]
    simp only [Array.toList_setIfInBounds]
    apply List.ext_getElem?
    intro i
    rw [seg_get (by simp; omega), seg_get (by simp only [List.length_cons, Array.length_toList]; omega), List.getElem?_set]
    simp only [List.length_cons]
    by_cases a1 : i < off + k
    · have : ¬ off + k = i := by omega
      simp [a1, this, show i < off + (k + 1) by omega]
    · by_cases a2 : i = off + k
      · subst a2
        simp [show off + k < a.size by omega, show off + k < off + (k + 1) by omega]
      · have b1 : ¬ i < off + (k + 1) := by omega
        have b2 : ¬ off + k = i := by omega
        simp only [a1, b1, b2, if_false]
        by_cases a3 : i < off + (k + 1) + r.length
        · rw [if_pos a3, if_pos (by omega), show i - (off + k) = (i - (off + (k + 1))) + 1 by omega]; rfl
        · rw [if_neg a3, if_neg (by omega)]

theorem seg_all {cs vs : List Value} (h : vs.length = cs.length) : seg cs 0 vs = vs := by
  simp only [seg, List.take_zero, List.nil_append, Nat.zero_add]
  rw [List.drop_eq_nil_of_le (by omega), List.append_nil]

/-- a struct of one field is built of it -/
theorem built_one {P : Program} {t : TypeId} {it : TypeInfo} {f : Field} {z : Value} (h1 : P.info? t = some it) (h2 : P.underlying t = some (.struct #[f])) (h3 : it.zero = some z) {i : TypeInfo} (h4 : P.info? f.type = some i) (h5 : f.offset = 0) {vs : List Value} (h6 : vs.length = i.size) (h7 : z.cells.size = i.size) :
    P.built t [(0, .agg vs.toArray)] = some vs.toArray := by
  unfold Program.built
  simp only [h1, h2, h3]
  simp only [List.mapM_cons, List.mapM_nil, h4, Option.map_some, Option.bind_eq_bind, Option.bind_some, Option.pure_def, h5]
  unfold Instr.fill
  have c : (Value.agg vs.toArray).cells = vs.toArray := rfl
  simp only [c]
  have e0 : (#[((0 : Nat), i.size)] : Array (Nat × Nat))[0]? = some (0, i.size) := rfl
  rw [e0]
  dsimp only
  rw [if_neg (by simp [h6, h7])]
  unfold Instr.fill
  congr 1
  apply Array.ext'
  have := fold_seg vs 0 0 z.cells (by omega)
  have hsz : z.cells.toList.length = z.cells.size := Array.length_toList
  rw [← Array.foldl_toList, Array.toList_zipIdx]
  refine Eq.trans ?_ (this.trans (seg_all (by omega)))
  rfl

theorem Own.rowB {e : TypeId} {w : World} {s : Sl} {xs : List Value} {B : Nat} (h : Own e w s xs) (hf : Fresh B s) : w.ownsRow B e 1 (.slice s.a s.len s.cap) s.len xs := by
  obtain ⟨h0, h⟩ := h
  refine ⟨by omega, ?_⟩
  rcases h with ⟨h1, h2, h3⟩ | ⟨g, cur, h1, h2, h3, h4, h5, h6⟩
  · left; rw [h1, h2, h3]; exact ⟨rfl, rfl⟩
  · right; exact ⟨g, s.cap, cur, by rw [h1], hf g (by simp [Sl.blk, h1]), h2, h3, h4, by omega, by simpa using h6⟩

theorem fresh_row {e : TypeId} {w : World} {s : Sl} {n : Nat} {xs : List Value} {B : Nat} (h : w.ownsRow B e 1 (.slice s.a s.len s.cap) n xs) : Fresh B s := by
  intro k hk
  rcases h.2 with ⟨h1, h2⟩ | ⟨g, cap, cur, h1, h2, _⟩
  · simp only [Value.slice.injEq] at h1
    simp [Sl.blk, h1.1] at hk
  · simp only [Value.slice.injEq] at h1
    simp [Sl.blk, h1.1] at hk; omega

/-- append, both near the reach -/
theorem apd_wide {P : Program} {t e : TypeId} {z : Value} {bytes : Nat} (T : OneSlice P t e z bytes) {w : World} {s x : Sl} {xs vs : List Value} {B : Nat} (h : Own e w s xs) (hf : Fresh B s) (hB : B ≤ w.heap.size) (hx : Src w x vs)
    (hb : ((s.len + x.len) + (s.len + x.len) / 4 + 192) * bytes ≤ 281474976710656) :
    ∃ s' w', apd P t t (.slice s.a s.len s.cap) (.slice x.a x.len x.cap) w = some (s', w') ∧ s'.len = s.len + x.len ∧ Own e w' s' (xs ++ vs) ∧ Below B w w' ∧ Fresh B s' := by
  obtain ⟨i, hi, hsz, hz, hby⟩ := T.info
  rcases hx.rd with ⟨h1, h2, h3⟩ | ⟨p, h1, h2⟩
  · have hl : x.len = 0 := by rw [hx.len, h3]; rfl
    have hr := run_append_owned_none (P := P) (w := w) 0 t 0 e i 1 T.ht hi _ _ _ h.row
    refine ⟨s, w, ?_, by omega, by rw [h3, List.append_nil]; exact h, Below.refl B w, hf⟩
    unfold apd
    rw [h1, h2, hl, hr]
  · obtain ⟨v', w', hr, ho, hg, hn⟩ := run_append_own_wide (P := P) w B t 0 e i z 1 i.bytes T.ht hi hz hsz rfl T.zc (by omega) _ _ _ (h.rowB hf) p x.len x.cap vs (by rw [hx.len]; omega) h2 hx.one (by have := Nat.le_mul_of_pos_right ((s.len + x.len) + (s.len + x.len) / 4 + 192) T.pos; simp only [maxLen]; omega)
      (by rw [hby]; exact hb) hB
    obtain ⟨s', rfl, hl, ho'⟩ := Own.of_row (e := e) (w := w') (v := v') (n := s.len + x.len) (xs := xs ++ vs) ⟨ho.1, ho.2.imp id fun ⟨g, cap, cur, a1, a2, a3⟩ => ⟨g, cap, cur, a1, Nat.zero_le _, a3⟩⟩
    refine ⟨s', w', ?_, hl, ho', (Upd.of_grown hg).below hB fun k hk e => ?_, fresh_row ho⟩
    · unfold apd; rw [h1, hr]
    · cases ha : s.a with
      | none => simp [Value.ownBlock, ha] at e
      | some q =>
        simp [Value.ownBlock, ha] at e
        have := hf q.block (by simp [Sl.blk, ha])
        omega

end Go.Fw

/- append, copy, make, lists: the operations of XFwB by what they do to blocks; nothing of a program stands here. -/
import Derived.Test.YtgmdbhckccmhjaaDoorFwM
import Derived.Maps.AppendAt
import Derived.Great.BuildSlice
namespace Go.Fw
open Go.RowKit

/-- A slice's type whose elements take one cell. -/
structure OneSlice (P : Program) (t e : TypeId) (z : Value) (bytes : Nat) : Prop where
  ht : P.underlying t = some (.slice e)
  info : ∃ i, P.info? e = some i ∧ i.size = 1 ∧ i.zero = some z ∧ i.bytes = bytes
  pos : 0 < bytes
  zc : z.cells.size = 1
  z0 : z.cells = #[z]

/-- A slice that was made here: its elements. -/
def Own (e : TypeId) (w : World) (s : Sl) (xs : List Value) : Prop :=
  xs.length = s.len ∧ ((s.a = none ∧ s.len = 0 ∧ s.cap = 0) ∨
    ∃ g cur, s.a = some ⟨g, 0, none⟩ ∧ w.heap[g]? = some (.cells cur e (0, 0)) ∧ s.len ≤ s.cap ∧ s.cap ≤ maxLen ∧ cur.size = s.cap ∧ cur.toList.take s.len = xs)

def Sl.blk (s : Sl) : Option Nat := s.a.map (·.block)

theorem Own.nil (e : TypeId) (w : World) : Own e w ⟨none, 0, 0⟩ [] := ⟨rfl, .inl ⟨rfl, rfl, rfl⟩⟩

theorem Own.len {e : TypeId} {w : World} {s : Sl} {xs : List Value} (h : Own e w s xs) : s.len = xs.length := h.1.symm

theorem Own.row {e : TypeId} {w : World} {s : Sl} {xs : List Value} (h : Own e w s xs) : w.ownsRow 0 e 1 (.slice s.a s.len s.cap) s.len xs := by
  obtain ⟨h0, h⟩ := h
  refine ⟨by omega, ?_⟩
  rcases h with ⟨h1, h2, h3⟩ | ⟨g, cur, h1, h2, h3, h4, h5, h6⟩
  · left; rw [h1, h2, h3]; exact ⟨rfl, rfl⟩
  · right; exact ⟨g, s.cap, cur, by rw [h1], Nat.zero_le _, h2, h3, h4, by omega, by simpa using h6⟩

theorem Own.of_row {e : TypeId} {w : World} {v : Value} {n : Nat} {xs : List Value} (h : w.ownsRow 0 e 1 v n xs) : ∃ s : Sl, v = .slice s.a s.len s.cap ∧ s.len = n ∧ Own e w s xs := by
  obtain ⟨h0, h⟩ := h
  rcases h with ⟨rfl, rfl⟩ | ⟨g, cap, cur, rfl, _, h2, h3, h4, h5, h6⟩
  · exact ⟨⟨none, 0, 0⟩, rfl, rfl, by simpa using h0, .inl ⟨rfl, rfl, rfl⟩⟩
  · exact ⟨⟨some ⟨g, 0, none⟩, n, cap⟩, rfl, rfl, by simpa using h0, .inr ⟨g, cur, rfl, h2, h3, h4, by simpa using h5, by simpa using h6⟩⟩

theorem Own.upd {e : TypeId} {w w' : World} {s : Sl} {xs : List Value} {S : Nat → Prop} (h : Own e w s xs) (u : Upd S w w') (hn : ∀ k, s.blk = some k → ¬ S k) : Own e w' s xs := by
  refine ⟨h.1, h.2.imp id fun ⟨g, cur, h1, h2, h3⟩ => ⟨g, cur, h1, ?_, h3⟩⟩
  rw [u.block g (Array.getElem?_eq_some_iff.1 h2).1 (hn g (by simp [Sl.blk, h1]))]
  exact h2
theorem Own.upd0 {e : TypeId} {w w' : World} {s : Sl} {xs : List Value} (h : Own e w s xs) (u : Upd none_ w w') : Own e w' s xs := h.upd u fun _ _ => id
theorem Own.drew {e : TypeId} {w : World} {s : Sl} {xs : List Value} (h : Own e w s xs) : Own e w.drew s xs := h

theorem Own.lt {e : TypeId} {w : World} {s : Sl} {xs : List Value} (h : Own e w s xs) {k : Nat} (hk : s.blk = some k) : k < w.heap.size := by
  rcases h.2 with ⟨h1, _⟩ | ⟨g, cur, h1, h2, _⟩
  · simp [Sl.blk, h1] at hk
  · simp [Sl.blk, h1] at hk; subst hk; exact (Array.getElem?_eq_some_iff.1 h2).1

theorem Own.cap {e : TypeId} {w : World} {s : Sl} {xs : List Value} (h : Own e w s xs) : s.len ≤ s.cap ∧ s.cap ≤ maxLen := by
  rcases h.2 with ⟨h1, h2, h3⟩ | ⟨g, cur, h1, h2, h3, h4, _⟩
  · omega
  · exact ⟨h3, h4⟩

/-- The front of it. -/
theorem Own.cut {e : TypeId} {w : World} {s : Sl} {xs : List Value} (h : Own e w s xs) {n : Nat} (hn : n ≤ s.len) : Own e w ⟨s.a, n, s.cap⟩ (xs.take n) := by
  have h0 := h.1
  refine ⟨by simp; omega, ?_⟩
  rcases h.2 with ⟨h1, h2, h3⟩ | ⟨g, cur, h1, h2, h3, h4, h5, h6⟩
  · left; exact ⟨h1, by show n = 0; omega, h3⟩
  · right; exact ⟨g, cur, h1, h2, by show n ≤ s.cap; omega, h4, h5, by show cur.toList.take n = _; rw [← h6, List.take_take, Nat.min_eq_left hn]⟩

theorem Own.rd {e : TypeId} {w : World} {s : Sl} {κ : IntKind} {zs : List Int} (h : Own e w s (ints κ zs)) : RdS κ w s zs := by
  have h0 := h.1
  simp at h0
  refine ⟨h0.symm, h.cap.1, ?_⟩
  rcases h.2 with ⟨h1, h2, h3⟩ | ⟨g, cur, h1, h2, h3, h4, h5, h6⟩
  · left; apply List.eq_nil_of_length_eq_zero; omega
  · right
    refine ⟨_, h1, fun i v hv => ?_⟩
    rw [add_lit]
    rw [← h6, List.getElem?_take] at hv
    split at hv
    · simpa [World.cell?, h2] using hv
    · cases hv

theorem Own.bk {e : TypeId} {w : World} {s : Sl} {xs : List Value} (h : Own e w s xs) (hne : xs ≠ []) :
    ∃ g cs, s.a = some ⟨g, 0, none⟩ ∧ Bk e w g cs ∧ s.len ≤ s.cap ∧ s.cap ≤ maxLen ∧ cs.length = s.cap ∧ cs.take s.len = xs := by
  rcases h.2 with ⟨h1, h2, h3⟩ | ⟨g, cur, h1, h2, h3, h4, h5, h6⟩
  · exact absurd (List.eq_nil_of_length_eq_zero (by rw [h.1, h2])) hne
  · exact ⟨g, cur.toList, h1, by unfold Bk; simpa using h2, h3, h4, by simpa using h5, h6⟩

theorem Own.of_bk {e : TypeId} {w : World} {g len cap : Nat} {cs : List Value} (h : Bk e w g cs) (hl : len ≤ cap) (hm : cap ≤ maxLen) (hc : cs.length = cap) : Own e w ⟨some ⟨g, 0, none⟩, len, cap⟩ (cs.take len) :=
  ⟨by simp; omega, .inr ⟨g, cs.toArray, rfl, h, hl, hm, by simpa using hc, rfl⟩⟩

/-- A row written over a part of it. -/
theorem Own.stL {e : TypeId} {w : World} {s : Sl} {xs vs : List Value} (h : Own e w s xs) (hne : xs ≠ []) {o : Nat} (hl : o + vs.length ≤ s.len) (h1 : ∀ v ∈ vs, v.oneCell' = true) :
    ∃ g w', s.a = some ⟨g, 0, none⟩ ∧ Fw.stL ⟨g, o, none⟩ vs 0 w = some w' ∧ Own e w' s (seg xs o vs) ∧ Upd (fun k => s.blk = some k) w w' := by
  obtain ⟨g, cs, a1, a2, a3, a4, a5, a6⟩ := h.bk hne
  obtain ⟨w', b1, b2, b3⟩ := a2.stL vs o 0 w cs (by omega) h1
  have ho := Own.of_bk b2 a3 a4 (by rw [seg_length (by omega)]; exact a5)
  refine ⟨g, w', a1, b1, ?_, b3.mono fun k _ hk => by simp [Sl.blk, a1, hk]⟩
  have hs : s = ⟨some ⟨g, 0, none⟩, s.len, s.cap⟩ := by cases s; simp_all
  rw [hs]
  have : seg xs o vs = (seg cs (o + 0) vs).take s.len := by
    apply List.ext_getElem?
    intro i
    have hx : xs.length = s.len := h.1
    rw [seg_get (by omega), List.getElem?_take, seg_get (by omega), ← a6]
    simp only [List.getElem?_take, Nat.add_zero]
    by_cases c1 : i < s.len
    · simp [c1]
    · simp only [c1, if_false]
      rw [if_neg (by omega), if_neg (by omega)]
  rw [this]; exact ho

theorem Own.st {e : TypeId} {w : World} {s : Sl} {xs : List Value} (h : Own e w s xs) {i : Nat} (hi : i < s.len) (v : Value) :
    ∃ p w', s.a = some p ∧ stC (p.add i) v w = some w' ∧ Own e w' s (xs.set i v) ∧ Upd (fun k => s.blk = some k) w w' := by
  have hx : xs.length = s.len := h.1
  have hne : xs ≠ [] := fun e => by rw [e] at hx; simp at hx; omega
  obtain ⟨g, cs, a1, a2, a3, a4, a5, a6⟩ := h.bk hne
  obtain ⟨w', e1, e2, e3⟩ := a2.stC (i := i) (by omega) v
  refine ⟨_, w', a1, by rw [add_lit, Nat.zero_add]; exact e1, ?_, e3.mono fun k _ hk => by simp [Sl.blk, a1, hk]⟩
  have ho := Own.of_bk e2 a3 a4 (by simpa using a5)
  have hs : s = ⟨some ⟨g, 0, none⟩, s.len, s.cap⟩ := by cases s; simp_all
  rw [hs, ← a6]
  have : (cs.take s.len).set i v = (cs.set i v).take s.len := by rw [List.take_set]
  rw [this]; exact ho

@[simp] theorem sla_zero (a : Option Addr) (m k : Nat) : sla a 0 m k = a := by
  unfold sla
  split
  · rfl
  · cases a <;> simp [Addr.add]

/-- It lies in no block under number B. -/
def Fresh (B : Nat) (s : Sl) : Prop := ∀ k, s.blk = some k → B ≤ k

/-- A slice as the source of a copy. -/
structure Src (w : World) (s : Sl) (vs : List Value) : Prop where
  len : s.len = vs.length
  cap : s.len ≤ s.cap
  rd : (s.a = none ∧ s.cap = 0 ∧ vs = []) ∨ ∃ p, s.a = some p ∧ Rd w p vs
  one : ∀ v ∈ vs, v.oneCell' = true

theorem Src.upd {S : Nat → Prop} {w w' : World} {s : Sl} {vs : List Value} (h : Src w s vs) (u : Upd S w w') (hn : ∀ p, s.a = some p → ¬ S p.block) : Src w' s vs :=
  ⟨h.len, h.cap, h.rd.imp id fun ⟨p, hp, hr⟩ => ⟨p, hp, hr.upd u fun _ => hn p hp⟩, h.one⟩
theorem Src.upd0 {w w' : World} {s : Sl} {vs : List Value} (h : Src w s vs) (u : Upd none_ w w') : Src w' s vs := h.upd u fun _ _ => id
theorem Src.below {w w' : World} {s : Sl} {vs : List Value} (h : Src w s vs) (b : Below w.heap.size w w') : Src w' s vs := h.upd0 (Upd.of_below b)
theorem Src.rds {κ : IntKind} {w : World} {s : Sl} {zs : List Int} (h : Src w s (ints κ zs)) : RdS κ w s zs :=
  ⟨by simpa using h.len, h.cap, h.rd.imp (fun h => by simpa using h.2.2) id⟩
theorem Src.cut {w : World} {s : Sl} {vs : List Value} (h : Src w s vs) {n : Nat} (hn : n ≤ s.len) : Src w ⟨s.a, n, s.cap⟩ (vs.take n) := by
  have hl := h.len
  have hc := h.cap
  refine ⟨by simp; omega, by show n ≤ s.cap; omega, ?_, fun v hv => h.one v (List.mem_of_mem_take hv)⟩
  rcases h.rd with ⟨h1, h2, h3⟩ | ⟨p, h1, h2⟩
  · left; exact ⟨h1, h2, by rw [h3]; simp⟩
  · right
    refine ⟨p, h1, fun i v hv => h2 i v ?_⟩
    rw [List.getElem?_take] at hv
    split at hv
    · exact hv
    · cases hv
theorem Own.src {e : TypeId} {w : World} {s : Sl} {xs : List Value} (h : Own e w s xs) (h1 : ∀ v ∈ xs, v.oneCell' = true) : Src w s xs := by
  refine ⟨h.1.symm, h.cap.1, ?_, h1⟩
  rcases h.2 with ⟨a1, a2, a3⟩ | ⟨g, cur, a1, a2, a3, a4, a5, a6⟩
  · left; exact ⟨a1, a3, List.eq_nil_of_length_eq_zero (by rw [h.1, a2])⟩
  · right
    refine ⟨_, a1, fun i v hv => ?_⟩
    rw [add_lit]
    rw [← a6, List.getElem?_take] at hv
    split at hv
    · simpa [World.cell?, a2] using hv
    · cases hv

theorem apd_ok {P : Program} {t e : TypeId} {z : Value} {bytes : Nat} (T : OneSlice P t e z bytes) {w : World} {s x : Sl} {xs vs : List Value} (h : Own e w s xs) (hx : Src w x vs) (hb : (s.len + x.len) * bytes ≤ 140737488355328) :
    ∃ s' w', apd P t t (.slice s.a s.len s.cap) (.slice x.a x.len x.cap) w = some (s', w') ∧ s'.len = s.len + x.len ∧ Own e w' s' (xs ++ vs) ∧ Upd (fun k => s.blk = some k) w w' ∧ (s'.blk = s.blk ∨ s'.blk = some w.heap.size) := by
  obtain ⟨i, hi, hsz, hz, hby⟩ := T.info
  rcases hx.rd with ⟨h1, h2, h3⟩ | ⟨p, h1, h2⟩
  · have hl : x.len = 0 := by rw [hx.len, h3]; rfl
    have hr := run_append_owned_none (P := P) (w := w) 0 t 0 e i 1 T.ht hi _ _ _ h.row
    refine ⟨s, w, ?_, by omega, by rw [h3, List.append_nil]; exact h, Upd.refl _ _, .inl rfl⟩
    unfold apd
    rw [h1, h2, hl, hr]
  · obtain ⟨v', w', hr, ho, hg, hn, hbk⟩ := run_append_own_at (P := P) w 0 t 0 e i z 1 i.bytes T.ht hi hz hsz rfl T.zc (by omega) _ _ _ h.row p x.len x.cap vs (by rw [hx.len]; omega) h2 hx.one (by have := Nat.le_mul_of_pos_right (s.len + x.len) T.pos; simp only [maxLen]; omega)
      (by rw [hby]; exact hb) (Nat.zero_le _)
    obtain ⟨s', rfl, hl, ho'⟩ := Own.of_row ho
    refine ⟨s', w', ?_, hl, ho', (Upd.of_grown hg).mono fun k _ hk => ?_, ?_⟩
    · unfold apd; rw [h1, hr]
    · cases ha : s.a with
      | none => simp [Value.ownBlock, ha] at hk
      | some q => simp [Value.ownBlock, ha] at hk; simp [Sl.blk, ha, hk]
    · have e1 : ∀ u : Sl, (Value.slice u.a u.len u.cap).ownBlock = u.blk := by
        intro u
        cases ha : u.a with
        | none => simp [Value.ownBlock, Sl.blk, ha]
        | some q => simp [Value.ownBlock, Sl.blk, ha]
      rw [e1, e1] at hbk; exact hbk

theorem fill_list : ∀ (vs pre : List Value) (rest : List Value), (∀ v ∈ vs, v.cells = #[v]) → vs.length ≤ rest.length →
    Instr.fill (fun i => some (i * 1, 1)) (pre ++ rest).toArray ((vs.zipIdx pre.length).map fun p => (p.2, p.1)) = some (pre ++ vs ++ rest.drop vs.length).toArray
  | [], pre, rest, _, _ => by simp [Instr.fill]
  | v :: r, pre, rest, hv, hl => by
    obtain ⟨x, rest, rfl⟩ : ∃ x q, rest = x :: q := by cases rest with
      | nil => simp at hl
      | cons x q => exact ⟨x, q, rfl⟩
    have h0 := hv v (List.mem_cons_self ..)
    have ih := fill_list r (pre ++ [v]) rest (fun u hu => hv u (List.mem_cons_of_mem _ hu)) (by simpa using hl)
    simp only [List.zipIdx_cons, List.map_cons, Instr.fill, h0]
    simp only [List.length_append, List.length_cons, List.length_nil, Nat.zero_add] at ih
    simp only [List.append_assoc, List.cons_append, List.nil_append, List.length_cons, List.drop_succ_cons] at ih ⊢
    rw [← ih]
    simp

/-- A list of elements. -/
theorem bldS_ok {P : Program} {t e : TypeId} {z : Value} {bytes : Nat} (T : OneSlice P t e z bytes) (vs : List Value) (hv : ∀ v ∈ vs, v.cells = #[v]) (hp : 0 < vs.length) (hs : vs.length ≤ 16777216) (w : World) :
    ∃ w', bldS P t vs.length (vs.zipIdx.map fun p => (p.2, p.1)).toArray w = some (⟨some ⟨w.heap.size, 0, none⟩, vs.length, vs.length⟩, w') ∧
      Own e w' ⟨some ⟨w.heap.size, 0, none⟩, vs.length, vs.length⟩ vs ∧ Upd none_ w w' ∧ w'.heap.size = w.heap.size + 1 := by
  obtain ⟨i, hi, hsz, hz, hby⟩ := T.info
  have hr := run_buildSlice (P := P) w t e vs.length (vs.zipIdx.map fun p => (p.2, p.1)).toArray vs.toArray i z T.ht hi hz (by rw [hsz]; omega) (by rw [hsz]; omega) (by
    have := fill_list vs [] (List.replicate vs.length z) hv (by simp)
    simp only [hsz]
    rw [show ((Array.range (vs.length * 1)).map (z.cells[· % z.cells.size]!)) = (([] : List Value) ++ List.replicate vs.length z).toArray from ?_]
    · simpa using this
    · rw [T.z0]
      apply Array.ext (by simp)
      intro k h1 h2
      simp [Nat.mod_one])
  refine ⟨w.alloc (.cells vs.toArray e), ?_, ⟨rfl, .inr ⟨w.heap.size, vs.toArray, rfl, heap_alloc_new w _, Nat.le_refl _, by simp only [maxLen]; omega, by simp, by simp⟩⟩, Upd.alloc _ _ _, by simp⟩
  unfold bldS; rw [hr]

theorem bldS1_ok {P : Program} {t e : TypeId} {z : Value} {bytes : Nat} (T : OneSlice P t e z bytes) (v : Value) (hv : v.cells = #[v]) (w : World) :
    ∃ w', bldS P t 1 #[(0, v)] w = some (⟨some ⟨w.heap.size, 0, none⟩, 1, 1⟩, w') ∧ Own e w' ⟨some ⟨w.heap.size, 0, none⟩, 1, 1⟩ [v] ∧ Upd none_ w w' ∧ w'.heap.size = w.heap.size + 1 :=
  bldS_ok T [v] (by simpa using hv) (by simp) (by simp) w

/-- 'clear' of a slice's front. -/
theorem clr_ok {P : Program} {t e : TypeId} {z : Value} {bytes : Nat} (T : OneSlice P t e z bytes) (hz1 : z.oneCell' = true) {w : World} {s : Sl} {xs : List Value} (h : Own e w s xs) {n : Nat} (hn : n ≤ s.len) (c : Nat) :
    ∃ w', clr P t (.slice s.a n c) w = some ((), w') ∧ Own e w' s (List.replicate n z ++ xs.drop n) ∧ Upd (fun k => s.blk = some k) w w' := by
  obtain ⟨i, hi, hsz, hz, hby⟩ := T.info
  cases n with
  | zero =>
    refine ⟨w, ?_, by simpa using h, Upd.refl _ _⟩
    unfold clr
    cases s.a <;> simp [Builtin.clear_, run_underlying T.ht]
  | succ n =>
    have hx : xs.length = s.len := h.1
    have hne : xs ≠ [] := fun e => by rw [e] at hx; simp at hx; omega
    obtain ⟨g, w', a1, a2, a3, a4⟩ := h.stL hne (o := 0) (vs := List.replicate (n + 1) z) (by simp; omega) (by simp [hz1])
    have hzc : (Builtin.zeroCells z.cells (n + 1)).toList = List.replicate (n + 1) z := by
      rw [T.z0]
      apply List.ext_getElem
      · simp [Builtin.zeroCells]
      · intro k h1 h2; simp [Builtin.zeroCells, Nat.mod_one]
    refine ⟨w', ?_, by simpa [seg] using a3, a4⟩
    unfold clr
    rw [a1]
    have hzv : (zeroValue e).run P w = .ok z w := by simp [zeroValue, typeInfo, hi, hz]
    simp [Builtin.clear_, run_underlying T.ht, hzv, hzc, stL_run _ _ _ _ a2]

theorem ints_append {κ : IntKind} (xs ys : List Int) : ints κ (xs ++ ys) = ints κ xs ++ ints κ ys := List.map_append ..
theorem ints_take {κ : IntKind} (xs : List Int) (n : Nat) : (ints κ xs).take n = ints κ (xs.take n) := by simp [ints, List.map_take]
theorem ints_length {κ : IntKind} (xs : List Int) : (ints κ xs).length = xs.length := List.length_map ..


end Go.Fw

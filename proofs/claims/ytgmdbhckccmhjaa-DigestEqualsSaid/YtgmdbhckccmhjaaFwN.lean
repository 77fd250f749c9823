/- append, copy, make, lists: the operations of XFwB by what they do to blocks; nothing of a program stands here. -/
import Derived.Test.YtgmdbhckccmhjaaFwM
import Derived.Maps.AppendAt
import Derived.Great.BuildSlice
namespace Go.Fw
open Go.RowKit

/-- A slice's type whose elements take one cell. -/
structure OneSlice (P : Program) (t e : TypeId) (z : Value) (bytes : Nat) : Prop where
  ht : P.underlying t = some (.slice e)
  info : ∃ i, P.info? e = some i ∧ i.size = 1 ∧ i.zero = some z ∧ i.bytes = bytes
  pos : 0 < bytes
  zc : z.cells.size = 1
  z0 : z.cells = #[z]

/-- A slice that was made here: its elements. -/
def Own (e : TypeId) (w : World) (s : Sl) (xs : List Value) : Prop :=
  xs.length = s.len ∧ ((s.a = none ∧ s.len = 0 ∧ s.cap = 0) ∨
    ∃ g cur, s.a = some ⟨g, 0, none⟩ ∧ w.heap[g]? = some (.cells cur e (0, 0)) ∧ s.len ≤ s.cap ∧ s.cap ≤ maxLen ∧ cur.size = s.cap ∧ cur.toList.take s.len = xs)

def Sl.blk (s : Sl) : Option Nat := s.a.map (·.block)

theorem Own.nil (e : TypeId) (w : World) : Own e w ⟨none, 0, 0⟩ [] := ⟨rfl, .inl ⟨rfl, rfl, rfl⟩⟩

theorem Own.len {e : TypeId} {w : World} {s : Sl} {xs : List Value} (h : Own e w s xs) : s.len = xs.length := h.1.symm

theorem Own.row {e : TypeId} {w : World} {s : Sl} {xs : List Value} (h : Own e w s xs) : w.ownsRow 0 e 1 (.slice s.a s.len s.cap) s.len xs := by
  obtain ⟨h0, h⟩ := h
  refine ⟨by omega, ?_⟩
  rcases h with ⟨h1, h2, h3⟩ | ⟨g, cur, h1, h2, h3, h4, h5, h6⟩
  · left; rw [h1, h2, h3]; exact ⟨rfl, rfl⟩
  · right; exact ⟨g, s.cap, cur, by rw [h1], Nat.zero_le _, h2, h3, h4, by omega, by simpa using h6⟩

theorem Own.of_row {e : TypeId} {w : World} {v : Value} {n : Nat} {xs : List Value} (h : w.ownsRow 0 e 1 v n xs) : ∃ s : Sl, v = .slice s.a s.len s.cap ∧ s.len = n ∧ Own e w s xs := by
  obtain ⟨h0, h⟩ := h
  rcases h with ⟨rfl, rfl⟩ | ⟨g, cap, cur, rfl, _, h2, h3, h4, h5, h6⟩
  · exact ⟨⟨none, 0, 0⟩, rfl, rfl, by simpa using h0, .inl ⟨rfl, rfl, rfl⟩⟩
  · exact ⟨⟨some ⟨g, 0, none⟩, n, cap⟩, rfl, rfl, by simpa using h0, .inr ⟨g, cur, rfl, h2, h3, h4, by simpa using h5, by simpa using h6⟩⟩

theorem Own.upd {e : TypeId} {w w' : World} {s : Sl} {xs : List Value} {S : Nat → Prop} (h : Own e w s xs) (u : Upd S w w') (hn : ∀ k, s.blk = some k → ¬ S k) : Own e w' s xs := by
  refine ⟨h.1, h.2.imp id fun ⟨g, cur, h1, h2, h3⟩ => ⟨g, cur, h1, ?_, h3⟩⟩
  rw [u.block g (Array.getElem?_eq_some_iff.1 h2).1 (hn g (by simp [Sl.blk, h1]))]
  exact h2
theorem Own.upd0 {e : TypeId} {w w' : World} {s : Sl} {xs : List Value} (h : Own e w s xs) (u : Upd none_ w w') : Own e w' s xs := h.upd u fun _ _ => id
theorem Own.drew {e : TypeId} {w : World} {s : Sl} {xs : List Value} (h : Own e w s xs) : Own e w.drew s xs := h

theorem Own.lt {e : TypeId} {w : World} {s : Sl} {xs : List Value} (h : Own e w s xs) {k : Nat} (hk : s.blk = some k) : k < w.heap.size := by
  rcases h.2 with ⟨h1, _⟩ | ⟨g, cur, h1, h2, _⟩
  · simp [Sl.blk, h1] at hk
  · simp [Sl.blk, h1] at hk; subst hk; exact (Array.getElem?_eq_some_iff.1 h2).1

theorem Own.cap {e : TypeId} {w : World} {s : Sl} {xs : List Value} (h : Own e w s xs) : s.len ≤ s.cap ∧ s.cap ≤ maxLen := by
  rcases h.2 with ⟨h1, h2, h3⟩ | ⟨g, cur, h1, h2, h3, h4, _⟩
  · omega
  · exact ⟨h3, h4⟩

/-- The front of it. -/
theorem Own.cut {e : TypeId} {w : World} {s : Sl} {xs : List Value} (h : Own e w s xs) {n : Nat} (hn : n ≤ s.len) : Own e w ⟨s.a, n, s.cap⟩ (xs.take n) := by
  have h0 := h.1
  refine ⟨by simp; omega, ?_⟩
  rcases h.2 with ⟨h1, h2, h3⟩ | ⟨g, cur, h1, h2, h3, h4, h5, h6⟩
  · left; exact ⟨h1, by show n = 0; omega, h3⟩
  · right; exact ⟨g, cur, h1, h2, by show n ≤ s.cap; omega, h4, h5, by show cur.toList.take n = _; rw [← h6, List.take_take, Nat.min_eq_left hn]⟩

theorem Own.rd {e : TypeId} {w : World} {s : Sl} {κ : IntKind} {zs : List Int} (h : Own e w s (ints κ zs)) : RdS κ w s zs := by
  have h0 := h.1
  simp at h0
  refine ⟨h0.symm, ?_⟩
  rcases h.2 with ⟨h1, h2, h3⟩ | ⟨g, cur, h1, h2, h3, h4, h5, h6⟩
  · left; apply List.eq_nil_of_length_eq_zero; omega
  · right
    refine ⟨_, h1, fun i v hv => ?_⟩
    rw [add_lit]
    rw [← h6, List.getElem?_take] at hv
    split at hv
    · simpa [World.cell?, h2] using hv
    · cases hv

theorem Own.st {e : TypeId} {w : World} {s : Sl} {xs : List Value} (h : Own e w s xs) {i : Nat} (hi : i < s.len) (v : Value) :
    ∃ p w', s.a = some p ∧ stC (p.add i) v w = some w' ∧ Own e w' s (xs.set i v) ∧ Upd (fun k => s.blk = some k) w w' := by
  have h0 := h.1
  rcases h.2 with ⟨h1, h2, h3⟩ | ⟨g, cur, h1, h2, h3, h4, h5, h6⟩
  · omega
  · have hb : Bk w g cur.toList := ⟨e, by simpa using h2⟩
    obtain ⟨e1, e2, e3⟩ := hb.stC (i := i) (by simp; omega) v
    refine ⟨_, _, h1, by rw [add_lit, Nat.zero_add]; exact e1, ⟨by simpa using h0, .inr ⟨g, (cur.setIfInBounds i v), h1, ?_, h3, h4, by simpa using h5, ?_⟩⟩, e3.mono fun k _ hk => by simp [Sl.blk, h1, hk]⟩
    · have hl := hb.lt
      have hv : w.heap[g] = .cells cur e (0, 0) := (Array.getElem?_eq_some_iff.1 h2).2
      simp only [World.setCell, Array.getElem?_modify, if_true, Array.getElem?_eq_getElem hl, hv, Option.map_some]
      simp
    · rw [← h6]; simp [List.take_set]

@[simp] theorem sla_zero (a : Option Addr) (m k : Nat) : sla a 0 m k = a := by
  unfold sla
  split
  · rfl
  · cases a <;> simp [Addr.add]

/-- It lies in no block under number B. -/
def Fresh (B : Nat) (s : Sl) : Prop := ∀ k, s.blk = some k → B ≤ k

/-- A slice as the source of a copy. -/
structure Src (w : World) (s : Sl) (vs : List Value) : Prop where
  len : s.len = vs.length
  rd : (s.a = none ∧ s.cap = 0 ∧ vs = []) ∨ ∃ p, s.a = some p ∧ Rd w p vs
  one : ∀ v ∈ vs, v.oneCell' = true

theorem Src.upd {S : Nat → Prop} {w w' : World} {s : Sl} {vs : List Value} (h : Src w s vs) (u : Upd S w w') (hn : ∀ p, s.a = some p → ¬ S p.block) : Src w' s vs :=
  ⟨h.len, h.rd.imp id fun ⟨p, hp, hr⟩ => ⟨p, hp, hr.upd u fun _ => hn p hp⟩, h.one⟩
theorem Src.upd0 {w w' : World} {s : Sl} {vs : List Value} (h : Src w s vs) (u : Upd none_ w w') : Src w' s vs := h.upd u fun _ _ => id
theorem Src.below {w w' : World} {s : Sl} {vs : List Value} (h : Src w s vs) (b : Below w.heap.size w w') : Src w' s vs := h.upd0 (Upd.of_below b)
theorem Src.rds {κ : IntKind} {w : World} {s : Sl} {zs : List Int} (h : Src w s (ints κ zs)) : RdS κ w s zs :=
  ⟨by simpa using h.len, h.rd.imp (fun h => by simpa using h.2.2) id⟩
theorem Own.src {e : TypeId} {w : World} {s : Sl} {xs : List Value} (h : Own e w s xs) (h1 : ∀ v ∈ xs, v.oneCell' = true) : Src w s xs := by
  refine ⟨h.1.symm, ?_, h1⟩
  rcases h.2 with ⟨a1, a2, a3⟩ | ⟨g, cur, a1, a2, a3, a4, a5, a6⟩
  · left; exact ⟨a1, a3, List.eq_nil_of_length_eq_zero (by rw [h.1, a2])⟩
  · right
    refine ⟨_, a1, fun i v hv => ?_⟩
    rw [add_lit]
    rw [← a6, List.getElem?_take] at hv
    split at hv
    · simpa [World.cell?, a2] using hv
    · cases hv

theorem apd_ok {P : Program} {t e : TypeId} {z : Value} {bytes : Nat} (T : OneSlice P t e z bytes) {w : World} {s x : Sl} {xs vs : List Value} (h : Own e w s xs) (hx : Src w x vs) (hb : (s.len + x.len) * bytes ≤ 140737488355328) :
    ∃ s' w', apd P t t (.slice s.a s.len s.cap) (.slice x.a x.len x.cap) w = some (s', w') ∧ s'.len = s.len + x.len ∧ Own e w' s' (xs ++ vs) ∧ Upd (fun k => s.blk = some k) w w' ∧ (s'.blk = s.blk ∨ s'.blk = some w.heap.size) := by
  obtain ⟨i, hi, hsz, hz, hby⟩ := T.info
  rcases hx.rd with ⟨h1, h2, h3⟩ | ⟨p, h1, h2⟩
  · have hl : x.len = 0 := by rw [hx.len, h3]; rfl
    have hr := run_append_owned_none (P := P) (w := w) 0 t 0 e i 1 T.ht hi _ _ _ h.row
    refine ⟨s, w, ?_, by omega, by rw [h3, List.append_nil]; exact h, Upd.refl _ _, .inl rfl⟩
    unfold apd
    rw [h1, h2, hl, hr]
  · obtain ⟨v', w', hr, ho, hg, hn, hbk⟩ := run_append_own_at (P := P) w 0 t 0 e i z 1 i.bytes T.ht hi hz hsz rfl T.zc (by omega) _ _ _ h.row p x.len x.cap vs (by rw [hx.len]; omega) h2 hx.one (by have := Nat.le_mul_of_pos_right (s.len + x.len) T.pos; simp only [maxLen]; omega)
      (by rw [hby]; exact hb) (Nat.zero_le _)
    obtain ⟨s', rfl, hl, ho'⟩ := Own.of_row ho
    refine ⟨s', w', ?_, hl, ho', (Upd.of_grown hg).mono fun k _ hk => ?_, ?_⟩
    · unfold apd; rw [h1, hr]
    · cases ha : s.a with
      | none => simp [Value.ownBlock, ha] at hk
      | some q => simp [Value.ownBlock, ha] at hk; simp [Sl.blk, ha, hk]
    · have e1 : ∀ u : Sl, (Value.slice u.a u.len u.cap).ownBlock = u.blk := by
        intro u
        cases ha : u.a with
        | none => simp [Value.ownBlock, Sl.blk, ha]
        | some q => simp [Value.ownBlock, Sl.blk, ha]
      rw [e1, e1] at hbk; exact hbk

/-- A list of one element. -/
theorem bldS1_ok {P : Program} {t e : TypeId} {z : Value} {bytes : Nat} (T : OneSlice P t e z bytes) (v : Value) (hv : v.cells = #[v]) (w : World) :
    ∃ w', bldS P t 1 #[(0, v)] w = some (⟨some ⟨w.heap.size, 0, none⟩, 1, 1⟩, w') ∧ Own e w' ⟨some ⟨w.heap.size, 0, none⟩, 1, 1⟩ [v] ∧ Upd none_ w w' ∧ w'.heap.size = w.heap.size + 1 := by
  obtain ⟨i, hi, hsz, hz, hby⟩ := T.info
  have hr := run_buildSlice (P := P) w t e 1 #[(0, v)] #[v] i z T.ht hi hz (by rw [hsz]; decide) (by rw [hsz]; decide) (by
    simp only [hsz, Instr.fill, T.z0]
    simp [hv]
    apply Array.ext (by simp)
    intro k h1 h2
    have : k = 0 := by simpa using h2
    subst this
    simp)
  refine ⟨w.alloc (.cells #[v] e), ?_, ⟨rfl, .inr ⟨w.heap.size, #[v], rfl, heap_alloc_new w _, Nat.le_refl _, (by simp [maxLen]), rfl, rfl⟩⟩, Upd.alloc _ _ _, by simp⟩
  unfold bldS; rw [hr]

end Go.Fw

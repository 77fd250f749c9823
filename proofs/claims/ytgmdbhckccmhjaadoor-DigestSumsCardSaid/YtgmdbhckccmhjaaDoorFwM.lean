/- Memory: what blocks hold, what steps leave as it was, and the memory operations of XFwA and XFwB by what they do to blocks; nothing of a program stands here. -/
import Derived.Test.YtgmdbhckccmhjaaDoorFwG
import Derived.Laws.AppendOwn
import Derived.Laws.AppendOwnNone
import Derived.Laws.CopyRow
import Derived.Laws.MakeOwn
import Derived.Laws.Bits64
import Derived.Below
namespace Go.Fw
open Go.RowKit

@[simp] theorem bnd_ok {α β : Type} (x : α) (w : World) (f : α → World → Option β) : bnd (some (x, w)) f = f x w := rfl

/-! ### What stays as it was -/

/-- Of the blocks that there were, only those of S may have turned. -/
structure Upd (S : Nat → Prop) (w w' : World) : Prop where
  os : w'.os = w.os
  tape : w'.tape = w.tape
  output : w'.output = w.output
  size : w.heap.size ≤ w'.heap.size
  block : ∀ k, k < w.heap.size → ¬ S k → w'.heap[k]? = w.heap[k]?

abbrev none_ : Nat → Prop := fun _ => False

theorem Upd.refl (S : Nat → Prop) (w : World) : Upd S w w := ⟨rfl, rfl, rfl, Nat.le_refl _, fun _ _ _ => rfl⟩
theorem Upd.trans {S T : Nat → Prop} {a b c : World} (h : Upd S a b) (k : Upd T b c) : Upd (fun i => S i ∨ T i) a c :=
  ⟨k.os.trans h.os, k.tape.trans h.tape, k.output.trans h.output, Nat.le_trans h.size k.size,
    fun i hi hn => (k.block i (Nat.lt_of_lt_of_le hi h.size) fun e => hn (.inr e)).trans (h.block i hi fun e => hn (.inl e))⟩
theorem Upd.mono {S T : Nat → Prop} {a b : World} (h : Upd S a b) (hs : ∀ k, k < a.heap.size → S k → T k) : Upd T a b :=
  ⟨h.os, h.tape, h.output, h.size, fun k hk hn => h.block k hk fun e => hn (hs k hk e)⟩
theorem Upd.trans' {S T : Nat → Prop} {a b c : World} (h : Upd S a b) (k : Upd T b c) (hs : ∀ k, k < a.heap.size → T k → S k) : Upd S a c :=
  (h.trans k).mono fun i hi e => e.elim id (hs i hi)
theorem Upd.and0 {S : Nat → Prop} {a b c : World} (h : Upd S a b) (k : Upd none_ b c) : Upd S a c := h.trans' k fun _ _ e => e.elim
theorem Upd.drew {S : Nat → Prop} {a b : World} (h : Upd S a b) : Upd S a b.drew := ⟨h.os, h.tape, h.output, h.size, h.block⟩
theorem Upd.predrew {S : Nat → Prop} {a b : World} (h : Upd S a.drew b) : Upd S a b := ⟨h.os, h.tape, h.output, h.size, h.block⟩
theorem Upd.alloc (S : Nat → Prop) (w : World) (o : Obj) : Upd S w (w.alloc o) := ⟨rfl, rfl, rfl, by simp, fun k hk _ => Below.heap_alloc _ _ _ hk⟩
theorem Upd.setCell (w : World) (p : Addr) (v : Value) : Upd (· = p.block) w (w.setCell p v) := ⟨rfl, rfl, rfl, by simp, fun k _ hn => Below.heap_setCell _ _ _ _ hn⟩
theorem Upd.setRow (w : World) (g : Nat) (cs : Array Value) : Upd (· = g) w (w.setRow g cs) := ⟨rfl, rfl, rfl, by simp, fun k _ hn => setRow_other w g k _ hn⟩
theorem Upd.below {S : Nat → Prop} {B : Nat} {w w' : World} (h : Upd S w w') (hB : B ≤ w.heap.size) (hn : ∀ k, k < B → ¬ S k) : Below B w w' :=
  ⟨h.os, h.tape, h.output, h.size, fun k hk => h.block k (by omega) (hn k hk)⟩
theorem Upd.of_grown {w w' : World} {row : Option Nat} (h : w.grownBy w' row) : Upd (fun k => some k = row) w w' := ⟨h.os, h.tape, h.output, h.size, fun k hk hn => h.block k hk hn⟩
theorem below_upd {B : Nat} {a w w' : World} {S : Nat → Prop} (h : Below B a w) (u : Upd S w w') (hB : B ≤ w.heap.size) (hn : ∀ k, k < B → ¬ S k) : Below B a w' := h.trans (u.below hB hn)
theorem Upd.of_below {S : Nat → Prop} {w w' : World} (h : Below w.heap.size w w') : Upd S w w' := ⟨h.os, h.tape, h.output, h.size, fun k hk _ => h.block k hk⟩

theorem upd_of_below {B : Nat} {w w' : World} (h : Below B w w') : Upd (fun k => B ≤ k) w w' := ⟨h.os, h.tape, h.output, h.size, fun k _ hn => h.block k (by omega)⟩

/-! ### What a block holds -/

def Bk (e : TypeId) (w : World) (g : Nat) (cs : List Value) : Prop := w.heap[g]? = some (.cells cs.toArray e (0, 0))

theorem Bk.lt {e : TypeId} {w : World} {g : Nat} {cs : List Value} (h : Bk e w g cs) : g < w.heap.size := (Array.getElem?_eq_some_iff.1 h).1
theorem Bk.upd {e : TypeId} {S : Nat → Prop} {w w' : World} {g : Nat} {cs : List Value} (h : Bk e w g cs) (u : Upd S w w') (hn : ¬ S g) : Bk e w' g cs := (u.block g h.lt hn).trans h
theorem Bk.drew {e : TypeId} {w : World} {g : Nat} {cs : List Value} (h : Bk e w g cs) : Bk e w.drew g cs := h
theorem Bk.upd0 {e : TypeId} {w w' : World} {g : Nat} {cs : List Value} (h : Bk e w g cs) (u : Upd none_ w w') : Bk e w' g cs := h.upd u id
theorem Bk.alloc {e : TypeId} {w : World} {g : Nat} {cs : List Value} (h : Bk e w g cs) (o : Obj) : Bk e (w.alloc o) g cs := h.upd (Upd.alloc none_ w o) id
theorem Bk.cell {e : TypeId} {w : World} {g : Nat} {cs : List Value} (h : Bk e w g cs) (i : Nat) : w.cell? ⟨g, i, none⟩ = cs[i]? := by
  unfold Bk at h; simp [World.cell?, h]
theorem Bk.frozen {e : TypeId} {w : World} {g : Nat} {cs : List Value} (h : Bk e w g cs) (i : Nat) : w.frozen? ⟨g, i, none⟩ = false := by
  unfold Bk at h; simp [World.frozen?, h]
theorem Bk.new (w : World) (cs : Array Value) (e : TypeId) : Bk e (w.alloc (.cells cs e)) w.heap.size cs.toList := by unfold Bk; simpa using heap_alloc_new w (.cells cs e)

theorem Bk.setCell {e : TypeId} {w : World} {g : Nat} {cs : List Value} (h : Bk e w g cs) (i : Nat) (v : Value) : Bk e (w.setCell ⟨g, i, none⟩ v) g (cs.set i v) := by
  have hl := h.lt
  have hv : w.heap[g] = .cells cs.toArray e (0, 0) := (Array.getElem?_eq_some_iff.1 h).2
  unfold Bk
  simp only [World.setCell, Array.getElem?_modify, if_true, Array.getElem?_eq_getElem hl, hv, Option.map_some]
  simp

theorem Bk.setRow {e : TypeId} {w : World} {g : Nat} {cs : List Value} (h : Bk e w g cs) (ds : Array Value) : Bk e (w.setRow g ds) g ds.toList := by
  unfold Bk; simpa using setRow_heap w g _ ds e _ h

@[simp] theorem add_lit (g o k : Nat) : (⟨g, o, none⟩ : Addr).add k = ⟨g, o + k, none⟩ := Addr.add_lit g o k

theorem Bk.ldV {e : TypeId} {w : World} {g : Nat} {cs : List Value} (h : Bk e w g cs) {i : Nat} {v : Value} (hv : cs[i]? = some v) : ldV ⟨g, i, none⟩ w = some v := (h.cell i).trans hv
theorem Bk.ldI {e : TypeId} {w : World} {g : Nat} {cs : List Value} (h : Bk e w g cs) {i : Nat} {κ : IntKind} {n : Int} (hv : cs[i]? = some (.int κ n)) : ldI κ ⟨g, i, none⟩ w = some n := by
  simp [Fw.ldI, h.cell, hv, asI]
theorem Bk.ldB {e : TypeId} {w : World} {g : Nat} {cs : List Value} (h : Bk e w g cs) {i : Nat} {n : Bool} (hv : cs[i]? = some (.bool n)) : ldB ⟨g, i, none⟩ w = some n := by
  simp [Fw.ldB, h.cell, hv, asB]
theorem Bk.ldP {e : TypeId} {w : World} {g : Nat} {cs : List Value} (h : Bk e w g cs) {i : Nat} {n : Option Addr} (hv : cs[i]? = some (.pointer n)) : ldP ⟨g, i, none⟩ w = some n := by
  simp [Fw.ldP, h.cell, hv, asP]
theorem Bk.ldStr {e : TypeId} {w : World} {g : Nat} {cs : List Value} (h : Bk e w g cs) {i : Nat} {n : ByteArray} (hv : cs[i]? = some (.string n)) : ldStr ⟨g, i, none⟩ w = some n := by
  simp [Fw.ldStr, h.cell, hv, asStr]
theorem Bk.ldS {e : TypeId} {w : World} {g : Nat} {cs : List Value} (h : Bk e w g cs) {i : Nat} {a : Option Addr} {l c : Nat} (hv : cs[i]? = some (.slice a l c)) : ldS ⟨g, i, none⟩ w = some ⟨a, l, c⟩ := by
  simp [Fw.ldS, h.cell, hv, asS]
theorem Bk.ldA {e : TypeId} {w : World} {g : Nat} {cs : List Value} (h : Bk e w g cs) {i n : Nat} (hn : i + n ≤ cs.length) : ldA n ⟨g, i, none⟩ w = some ((cs.drop i).take n).toArray := by
  unfold Bk at h
  simp only [Fw.ldA, h]
  rw [if_pos (by simpa using hn)]
  congr 1
  apply Array.ext'
  simp only [List.extract_toArray, List.extract_eq_take_drop]
  rw [show i + n - i = n by omega]

theorem Bk.stC {e : TypeId} {w : World} {g : Nat} {cs : List Value} (h : Bk e w g cs) {i : Nat} (hi : i < cs.length) (v : Value) :
    ∃ w', stC ⟨g, i, none⟩ v w = some w' ∧ Bk e w' g (cs.set i v) ∧ Upd (· = g) w w' := by
  refine ⟨_, ?_, h.setCell i v, Upd.setCell w ⟨g, i, none⟩ v⟩
  unfold Fw.stC
  rw [if_pos ⟨by rw [h.cell, List.getElem?_eq_getElem hi]; rfl, h.frozen i⟩]

theorem list_set_seg : ∀ (vs cs : List Value) (o : Nat), o + vs.length ≤ cs.length →
    ∀ i, (cs.take o ++ vs ++ cs.drop (o + vs.length))[i]? = if i < o then cs[i]? else if i < o + vs.length then vs[i - o]? else cs[i]? := by
  intro vs cs o h i
  have hto : (cs.take o).length = o := by simp; omega
  by_cases h1 : i < o
  · rw [if_pos h1, List.append_assoc, List.getElem?_append_left (by omega), List.getElem?_take, if_pos h1]
  · rw [if_neg h1]
    by_cases h2 : i < o + vs.length
    · rw [if_pos h2, List.append_assoc, List.getElem?_append_right (by omega), hto, List.getElem?_append_left (by omega)]
    · rw [if_neg h2, List.getElem?_append_right (by simp; omega)]
      simp only [List.length_append, hto, List.getElem?_drop]
      congr 1; omega

/-- A row of cells written into a block. -/
def seg (cs : List Value) (o : Nat) (vs : List Value) : List Value := cs.take o ++ vs ++ cs.drop (o + vs.length)

theorem seg_length {cs vs : List Value} {o : Nat} (h : o + vs.length ≤ cs.length) : (seg cs o vs).length = cs.length := by
  simp [seg]; omega

theorem seg_get {cs vs : List Value} {o : Nat} (h : o + vs.length ≤ cs.length) (i : Nat) :
    (seg cs o vs)[i]? = if i < o then cs[i]? else if i < o + vs.length then vs[i - o]? else cs[i]? := list_set_seg vs cs o h i

theorem Bk.stL {e : TypeId} {g : Nat} : ∀ (vs : List Value) (o i : Nat) (w : World) (cs : List Value), Bk e w g cs → o + i + vs.length ≤ cs.length → (∀ v ∈ vs, v.oneCell' = true) →
    ∃ w', stL ⟨g, o, none⟩ vs i w = some w' ∧ Bk e w' g (seg cs (o + i) vs) ∧ Upd (· = g) w w'
  | [], o, i, w, cs, h, hl, _ => ⟨w, rfl, by simpa [seg] using h, Upd.refl _ w⟩
  | v :: r, o, i, w, cs, h, hl, h1 => by
    simp only [List.length_cons] at hl
    obtain ⟨w1, e1, e2, e3⟩ := h.stC (i := o + i) (by omega) v
    obtain ⟨w', f1, f2, f3⟩ := Bk.stL r o (i + 1) _ _ e2 (by simp; omega) fun u hu => h1 u (List.mem_cons_of_mem _ hu)
    refine ⟨w', ?_, ?_, e3.trans' f3 fun _ _ e => e⟩
    · simp only [Fw.stL, h1 v (List.mem_cons_self ..), if_true, add_lit, e1, Option.bind_some]
      exact f1
    · have : seg (cs.set (o + i) v) (o + (i + 1)) r = seg cs (o + i) (v :: r) := by
        apply List.ext_getElem?
        intro k
        rw [seg_get (by simp; omega), seg_get (by simp only [List.length_cons]; omega), List.getElem?_set]
        simp only [List.length_cons]
        by_cases a1 : k < o + i
        · have : ¬ o + i = k := by omega
          simp [a1, this, show k < o + (i + 1) by omega]
        · by_cases a2 : k = o + i
          · subst a2
            simp [show o + i < o + (i + 1) by omega, show o + i < cs.length by omega]
          · have b1 : ¬ k < o + (i + 1) := by omega
            have b2 : ¬ o + i = k := by omega
            simp only [a1, b1, b2, if_false]
            by_cases a3 : k < o + (i + 1) + r.length
            · rw [if_pos a3, if_pos (by omega), show k - (o + i) = (k - (o + (i + 1))) + 1 by omega]; rfl
            · rw [if_neg a3, if_neg (by omega)]
      rw [← this]; exact f2

theorem Bk.stA {e : TypeId} {w : World} {g : Nat} {cs : List Value} (h : Bk e w g cs) {o : Nat} {vs : Array Value} (hl : o + vs.size ≤ cs.length) (h1 : ∀ v ∈ vs.toList, v.oneCell' = true) :
    ∃ w', stA ⟨g, o, none⟩ vs w = some w' ∧ Bk e w' g (seg cs o vs.toList) ∧ Upd (· = g) w w' := by
  simpa [Fw.stA] using h.stL vs.toList o 0 w cs (by simpa using hl) h1

theorem newB_ok (cs : Array Value) (e : TypeId) (w : World) :
    ∃ w', newB cs e w = some (⟨w.heap.size, 0, none⟩, w') ∧ Bk e w' w.heap.size cs.toList ∧ Upd none_ w w' ∧ w'.heap.size = w.heap.size + 1 :=
  ⟨_, rfl, Bk.new w cs e, Upd.alloc _ _ _, by simp⟩

/-! ### What is read from some place on -/

def Rd (w : World) (p : Addr) (vs : List Value) : Prop := ∀ i v, vs[i]? = some v → w.cell? (p.add i) = some v

theorem Rd.upd {S : Nat → Prop} {w w' : World} {p : Addr} {vs : List Value} (h : Rd w p vs) (u : Upd S w w') (hn : vs ≠ [] → ¬ S p.block) : Rd w' p vs := by
  intro i v hv
  have hne : vs ≠ [] := by rintro rfl; simp at hv
  have hc := h i v hv
  have hb := World.block_lt_of_cell? w _ hc
  have hbl : (p.add i).block = p.block := by unfold Addr.add; split <;> rfl
  rw [hbl] at hb
  rw [← hc]
  exact World.cell?_of_block (by rw [hbl]; exact u.block _ hb (hn hne))

theorem Rd.lt {w : World} {p : Addr} {vs : List Value} (h : Rd w p vs) (hne : vs ≠ []) : p.block < w.heap.size := by
  cases vs with
  | nil => exact absurd rfl hne
  | cons v r =>
    have := World.block_lt_of_cell? w _ (h 0 v rfl)
    simpa [Addr.add] using this

theorem Rd.below {B : Nat} {w w' : World} {p : Addr} {vs : List Value} (h : Rd w p vs) (b : Below w.heap.size w w') : Rd w' p vs :=
  h.upd (S := none_) (Upd.of_below b) fun _ e => e

theorem Bk.rd {e : TypeId} {w : World} {g : Nat} {cs : List Value} (h : Bk e w g cs) (o : Nat) (vs : List Value) (hv : ∀ i v, vs[i]? = some v → cs[o + i]? = some v) : Rd w ⟨g, o, none⟩ vs := by
  intro i v hi
  rw [add_lit, h.cell]; exact hv i v hi

abbrev ints (κ : IntKind) (zs : List Int) : List Value := zs.map (Value.int κ)

theorem ints_get {κ : IntKind} {zs : List Int} {i : Nat} (hi : i < zs.length) : (ints κ zs)[i]? = some (.int κ zs[i]) := by simp [hi]
theorem ints_one {κ : IntKind} {zs : List Int} : ∀ v ∈ ints κ zs, v.oneCell' = true := by
  intro v hv; obtain ⟨z, _, rfl⟩ := List.mem_map.1 hv; rfl
theorem ints_inj {κ : IntKind} {xs ys : List Int} (h : ints κ xs = ints κ ys) : xs = ys := by
  induction xs generalizing ys with
  | nil => cases ys <;> simp_all [ints]
  | cons x r ih =>
    cases ys with
    | nil => simp [ints] at h
    | cons y s =>
      simp only [ints, List.map_cons, List.cons.injEq, Value.int.injEq, true_and] at h
      rw [h.1, ih h.2]

/-- A slice of numbers, as it reads. -/
structure RdS (κ : IntKind) (w : World) (s : Sl) (zs : List Int) : Prop where
  len : s.len = zs.length
  cap : s.len ≤ s.cap
  rd : zs = [] ∨ ∃ p, s.a = some p ∧ Rd w p (ints κ zs)

theorem RdS.upd {κ : IntKind} {S : Nat → Prop} {w w' : World} {s : Sl} {zs : List Int} (h : RdS κ w s zs) (u : Upd S w w') (hn : ∀ p, s.a = some p → ¬ S p.block) : RdS κ w' s zs := by
  refine ⟨h.len, h.cap, h.rd.imp id fun ⟨p, hp, hr⟩ => ⟨p, hp, hr.upd u fun _ => hn p hp⟩⟩
theorem RdS.upd0 {κ : IntKind} {w w' : World} {s : Sl} {zs : List Int} (h : RdS κ w s zs) (u : Upd none_ w w') : RdS κ w' s zs := h.upd u fun _ _ e => e
theorem RdS.drew {κ : IntKind} {w : World} {s : Sl} {zs : List Int} (h : RdS κ w s zs) : RdS κ w.drew s zs := h.upd0 (Upd.refl _ _).drew
theorem RdS.below {κ : IntKind} {w w' : World} {s : Sl} {zs : List Int} (h : RdS κ w s zs) (b : Below w.heap.size w w') : RdS κ w' s zs := h.upd0 (Upd.of_below b)

theorem RdS.ld {κ : IntKind} {w : World} {s : Sl} {zs : List Int} (h : RdS κ w s zs) : ∃ p, (zs ≠ [] → s.a = some p) ∧ ∀ i (hi : i < zs.length), ldI κ (p.add i) w = some zs[i] := by
  rcases h.rd with rfl | ⟨p, hp, hr⟩
  · exact ⟨default, fun h => absurd rfl h, fun i hi => by simp at hi⟩
  · refine ⟨p, fun _ => hp, fun i hi => ?_⟩
    have := hr i _ (ints_get hi)
    simp [ldI, this, asI]

theorem RdS.belowB {κ : IntKind} {B : Nat} {w w' : World} {s : Sl} {zs : List Int} (h : RdS κ w s zs) (b : Below B w w') (hp : ∀ p, s.a = some p → p.block < B) : RdS κ w' s zs :=
  h.upd (upd_of_below b) fun p hq => by have := hp p hq; omega

/-- Part of a slice. -/
theorem RdS.sub {κ : IntKind} {w : World} {s : Sl} {zs : List Int} (h : RdS κ w s zs) {lo hi : Nat} (h1 : lo ≤ hi) (h2 : hi ≤ zs.length) :
    RdS κ w ⟨sla s.a lo s.cap 1, hi - lo, s.cap - lo⟩ ((zs.take hi).drop lo) := by
  have hlen : ((zs.take hi).drop lo).length = hi - lo := by simp; omega
  have hcap := h.cap
  have hl := h.len
  refine ⟨by simp; omega, by show hi - lo ≤ s.cap - lo; omega, ?_⟩
  by_cases he : lo = hi
  · left; apply List.eq_nil_of_length_eq_zero; omega
  · rcases h.rd with rfl | ⟨p, hp, hr⟩
    · left; simp
    · right
      have hm : s.cap ≠ lo := by omega
      refine ⟨p.add lo, by simp [sla, hp, hm], fun i v hv => ?_⟩
      have hv' : (ints κ zs)[lo + i]? = some v := by
        have hi' : i < hi - lo := by
          have := (List.getElem?_eq_some_iff.1 hv).1
          simp at this; omega
        simp only [ints, List.getElem?_map, List.getElem?_drop, List.getElem?_take] at hv ⊢
        rw [if_pos (by omega)] at hv
        exact hv
      have := hr (lo + i) v hv'
      rw [← this]
      congr 1
      unfold Addr.add
      by_cases a1 : lo = 0 <;> by_cases a2 : i = 0 <;> simp [a1, a2, Nat.add_assoc]

/-! ### Numbers -/

theorem w64 {n : Int} (h0 : -9223372036854775808 ≤ n) (h1 : n < 9223372036854775808) : IntKind.i64.wrap n = n := by rw [IntKind.wrap_i64]; omega
theorem w8 {n : Int} (h0 : 0 ≤ n) (h1 : n < 256) : IntKind.u8.wrap n = n := by rw [IntKind.wrap_u8]; omega

end Go.Fw

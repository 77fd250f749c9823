/- What the helpers of the package cofferbook do. Ytgmdbhckccmhjaa, Try, 25, 5 are filled in for a seat (book.sh). -/
import Derived.Test.YtgmdbhckccmhjaaFwO
import Derived.Test.YtgmdbhckccmhjaaSh1
set_option linter.unusedVariables false
namespace Go.Sh
open Go.Fw Go.RowKit Go.Proofs.Try

theorem sliceB : OneSlice prog 25 5 (.int .u8 0) 1 := ⟨by kernel_rfl, ⟨t5, by kernel_rfl, by kernel_rfl, by kernel_rfl, by kernel_rfl⟩, by decide, rfl, rfl⟩

/-- A slice of bytes that came in, as the source of a copy. -/
theorem src_row {w : World} {a : Option Addr} {len cap : Nat} {zs : List Int}
    (h : (a = none ∧ len = 0 ∧ cap = 0 ∧ zs = []) ∨
      ∃ x, a = some x ∧ len ≤ cap ∧ cap ≤ 140737488351232 ∧ zs.length = cap ∧ (∀ i, i < zs.length → w.cell? (x.add i) = some (.int .u8 (zs.getD i 0))) ∧ ∀ n ∈ zs, (Lit.int .u8 n).wf = true) :
    ∃ xs, ((∀ x ∈ xs, InK .u8 x) ∧ xs.length ≤ 140737488351232) ∧ Src w ⟨a, len, cap⟩ (ints .u8 xs) := by
  rcases h with ⟨rfl, rfl, rfl, rfl⟩ | ⟨x, rfl, hl, hc, hz, hcell, hwz⟩
  · exact ⟨[], ⟨fun _ h => by simp at h, Nat.zero_le _⟩, rfl, .inl ⟨rfl, rfl, rfl⟩, ints_one⟩
  · refine ⟨zs.take len, ⟨fun n hn => ?_, by simp; omega⟩, by simp; omega, .inr ⟨x, rfl, fun i v hv => ?_⟩, ints_one⟩
    · have := hwz n (List.mem_of_mem_take hn)
      have h2 : 0 ≤ n ∧ n ≤ 255 := by simpa [Lit.wf, IntKind.bits, IntKind.min, IntKind.max, IntKind.signed] using this
      exact ⟨h2.1, by have := h2.2; simp only [IntKind.bits]; omega⟩
    · have hi : i < zs.length := by
        have := (List.getElem?_eq_some_iff.1 hv).1
        simp at this; omega
      rw [hcell i hi]
      simp only [ints, List.getElem?_map, List.getElem?_take] at hv
      split at hv
      · simpa [List.getD_eq_getElem?_getD, List.getElem?_eq_getElem hi] using hv
      · simp at hv

/-! ### SameBytes -/

theorem SameBytes_loop (K : Nat) {a b : Sl} {xs ys : List Int} (hl : xs.length = ys.length) (hs : xs.length < 9223372036854775807) :
    ∀ (d i : Nat) (n : Nat) (w : World), i + d = xs.length → d < n → RdS .u8 w a xs → RdS .u8 w b ys →
      ∃ w', book_SameBytes_l0 K n a b (i : Int) w = some (if xs.drop i = ys.drop i then .norm () else .ret (false, ()), w') ∧ Upd none_ w w' := by
  intro d
  induction d with
  | zero =>
    intro i n w hi hn ha hb
    obtain ⟨n, rfl⟩ : ∃ m, n = m + 1 := ⟨n - 1, by omega⟩
    refine ⟨w, ?_, Upd.refl _ w⟩
    show book_SameBytes_l0_b K (book_SameBytes_l0 K n) a b (i : Int) w = _
    have e1 : xs.drop i = [] := List.drop_eq_nil_of_le (by omega)
    have e2 : ys.drop i = [] := List.drop_eq_nil_of_le (by omega)
    simp [book_SameBytes_l0_b, ha.len, show ¬ i < xs.length by omega, e1, e2]
  | succ d ih =>
    intro i n w hi hn ha hb
    obtain ⟨n, rfl⟩ : ∃ m, n = m + 1 := ⟨n - 1, by omega⟩
    show ∃ w', book_SameBytes_l0_b K (book_SameBytes_l0 K n) a b (i : Int) w = _ ∧ _
    obtain ⟨p, hp, hpl⟩ := ha.drew.ld
    obtain ⟨q, hq, hql⟩ := hb.drew.ld
    have hx : xs ≠ [] := by rintro rfl; simp at hi
    have hy : ys ≠ [] := fun e => by rw [e] at hl; simp at hl; exact hx hl
    have hil : i < xs.length := by omega
    have hil2 : i < ys.length := by omega
    have hw : IntKind.i64.wrap ((i : Int) + 1) = ((i + 1 : Nat) : Int) := by rw [w64 (by omega) (by omega)]; rfl
    have e1 : xs.drop i = xs[i] :: xs.drop (i + 1) := List.drop_eq_getElem_cons hil
    have e2 : ys.drop i = ys[i] :: ys.drop (i + 1) := List.drop_eq_getElem_cons hil2
    have l1 := hpl i hil
    have l2 := hql i hil2
    by_cases hne : xs[i] = ys[i]
    · obtain ⟨w', h1, h2⟩ := ih (i + 1) n w.drew (by omega) (by omega) ha.drew hb.drew
      refine ⟨w', ?_, ?_⟩
      · simp only [book_SameBytes_l0_b, ha.len, hb.len, Int.ofNat_lt, hil, hil2, decide_true, if_true, hp hx, hq hy, Option.bind_some, Int.natCast_nonneg, and_self, Int.toNat_natCast, Nat.mul_one, l1, l2, hne, bne_self_eq_false, Bool.false_eq_true, if_false, hw, h1, e1, e2, List.cons.injEq, true_and]
      · exact (Upd.refl none_ w).drew.trans' h2 fun _ _ e => e
    · refine ⟨w.drew, ?_, (Upd.refl none_ w).drew⟩
      have hb' : (xs[i] != ys[i]) = true := by simpa using hne
      simp only [book_SameBytes_l0_b, ha.len, hb.len, Int.ofNat_lt, hil, hil2, decide_true, if_true, hp hx, hq hy, Option.bind_some, Int.natCast_nonneg, and_self, Int.toNat_natCast, Nat.mul_one, l1, l2, hb', e1, e2, List.cons.injEq, hne, false_and, if_false]

theorem SameBytes_ok {K : Nat} (hK : 18446744073709551616 ≤ K) {a b : Sl} {xs ys : List Int} {w : World} (ha : RdS .u8 w a xs) (hb : RdS .u8 w b ys) (hs : xs.length < 9223372036854775807) :
    ∃ w', book_SameBytes K a b w = some ((decide (xs = ys), ()), w') ∧ Upd none_ w w' := by
  by_cases hl : xs.length = ys.length
  · obtain ⟨w', h1, h2⟩ := SameBytes_loop K (a := a) (b := b) hl hs xs.length 0 K w (by omega) (by omega) ha hb
    refine ⟨w', ?_, h2⟩
    have h1' : book_SameBytes_l0 K K a b 0 w = _ := h1
    simp only [book_SameBytes, ha.len, hb.len, hl, bne_self_eq_false, Bool.false_eq_true, if_false, h1', bnd_ok, List.drop_zero]
    by_cases h : xs = ys <;> simp [h]
  · refine ⟨w, ?_, Upd.refl _ w⟩
    have h1 : (((xs.length : Nat) : Int) != ((ys.length : Nat) : Int)) = true := by simp; omega
    have h2 : xs ≠ ys := fun e => hl (by rw [e])
    simp only [book_SameBytes, ha.len, hb.len, h1, if_true, h2, decide_false]

/-! ### Bytes -/

def marks : List Int := (List.range 70).map fun i => (((181 + i) % 256 : Nat) : Int)

theorem marks_len : marks.length = 70 := rfl

theorem mark_at (i : Nat) (hi : i < 70) : IntKind.u8.wrap (IntKind.i64.wrap (181 + (i : Int))) = marks[i]'(by rw [marks_len]; exact hi) := by
  rw [w64 (by omega) (by omega), IntKind.wrap_u8]
  simp [marks]

theorem Bytes_loop (K B : Nat) (l : Sl) :
    ∀ (d i n : Nat) (w : World) (s : Sl) (xs : List Int), i + d = 70 → d < n → Own 5 w s (ints .u8 xs) → s.len + d ≤ 140737488355328 → B ≤ w.heap.size → Fresh B s →
      ∃ s' w', book_Bytes_l0 K n l s (i : Int) w = some ((s', ()), w') ∧ Own 5 w' s' (ints .u8 (xs ++ marks.drop i)) ∧ Below B w w' ∧ Fresh B s' := by
  intro d
  induction d with
  | zero =>
    intro i n w s xs hi hn ho hs hB hf
    obtain ⟨n, rfl⟩ : ∃ m, n = m + 1 := ⟨n - 1, by omega⟩
    have : i = 70 := by omega
    subst this
    refine ⟨s, w, ?_, ?_, Below.refl B w, hf⟩
    · show book_Bytes_l0_b K (book_Bytes_l0 K n) l s ((70 : Nat) : Int) w = _
      simp [book_Bytes_l0_b]
    · have : marks.drop 70 = [] := rfl
      rw [this, List.append_nil]; exact ho
  | succ d ih =>
    intro i n w s xs hi hn ho hs hB hf
    obtain ⟨n, rfl⟩ : ∃ m, n = m + 1 := ⟨n - 1, by omega⟩
    have hi70 : i < 70 := by omega
    obtain ⟨w1, h1, ho1, u1, hz1⟩ := bldS1_ok sliceB (.int .u8 (marks[i]'(by rw [marks_len]; exact hi70))) rfl w
    have hfr : ∀ k, s.blk = some k → ¬ (none_ k) := fun _ _ => id
    obtain ⟨s2, w2, h2, l2, ho2, u2, b2⟩ := apd_ok sliceB (ho.upd0 u1) (ho1.src (by simp [Value.oneCell'])) (by show (s.len + 1) * 1 ≤ _; omega)
    have bl1 : Below B w w1 := u1.below hB fun _ _ => id
    have bl2 : Below B w w2 := below_upd bl1 u2 (by omega) fun k hk e => by have := hf k e; omega
    have hf2 : Fresh B s2 := by
      intro k hk
      rcases b2 with e | e
      · exact hf k (e ▸ hk)
      · rw [e] at hk; have := Option.some.inj hk; omega
    obtain ⟨s3, w3, h3, ho3, bl3, hf3⟩ := ih (i + 1) n w2 s2 (xs ++ [marks[i]'(by rw [marks_len]; exact hi70)]) (by omega) (by omega) (by simpa using ho2) (by rw [l2]; show s.len + 1 + d ≤ _; omega) (by have := bl2.size; omega) hf2
    refine ⟨s3, w3, ?_, ?_, bl2.trans bl3, hf3⟩
    · show book_Bytes_l0_b K (book_Bytes_l0 K n) l s (i : Int) w = _
      have hw : IntKind.i64.wrap ((i : Int) + 1) = ((i + 1 : Nat) : Int) := by rw [w64 (by omega) (by omega)]; rfl
      have hd : decide ((i : Int) < 70) = true := by simp; omega
      simp only [book_Bytes_l0_b, hd, if_true, mark_at i hi70, h1, bnd_ok, h2, hw, h3]
    · have e : marks.drop i = marks[i]'(by rw [marks_len]; exact hi70) :: marks.drop (i + 1) := List.drop_eq_getElem_cons (by rw [marks_len]; exact hi70)
      rw [e]
      simpa using ho3

/-- Bytes: a copy, the marks behind it. -/
theorem Bytes_ok {K : Nat} (hK : 18446744073709551616 ≤ K) {l : Sl} {bs : List Int} {w : World} (hl : Src w l (ints .u8 bs)) (hb : bs.length ≤ 140737488351232) :
    ∃ g cap w', book_Bytes K l w = some ((⟨some ⟨g, 0, none⟩, bs.length, cap⟩, ()), w') ∧ Own 5 w' ⟨some ⟨g, 0, none⟩, bs.length + 70, cap⟩ (ints .u8 (bs ++ marks)) ∧ w.heap.size ≤ g ∧ Upd none_ w w' := by
  have hlen : l.len = bs.length := by simpa using hl.len
  obtain ⟨s1, w1, h1, l1, ho1, u1, b1⟩ := apd_ok sliceB (Own.nil 5 w) hl (by show (0 + l.len) * 1 ≤ _; omega)
  have bl1 : Below w.heap.size w w1 := u1.below (Nat.le_refl _) fun k _ e => by cases e
  have hf1 : Fresh w.heap.size s1 := by
    intro k hk
    rcases b1 with e | e
    · rw [e] at hk; cases hk
    · rw [e] at hk; have := Option.some.inj hk; omega
  obtain ⟨s2, w2, h2, ho2, bl2, hf2⟩ := Bytes_loop K w.heap.size l 70 0 K w1 s1 bs (by omega) (by omega) ho1 (by rw [l1]; show 0 + l.len + 70 ≤ _; omega) bl1.size hf1
  have h2' : book_Bytes_l0 K K l s1 0 w1 = _ := h2
  have ho2 : Own 5 w2 s2 (ints .u8 (bs ++ marks)) := ho2
  have hl2 : s2.len = bs.length + 70 := by rw [ho2.len]; simp [marks_len]
  obtain ⟨g, hg⟩ : ∃ g, s2.a = some ⟨g, 0, none⟩ := by
    rcases ho2.2 with ⟨a1, a2, _⟩ | ⟨g, cur, a1, _⟩
    · omega
    · exact ⟨g, a1⟩
  refine ⟨g, s2.cap, w2, ?_, ?_, hf2 g (by simp [Sl.blk, hg]), Upd.of_below (bl1.trans bl2)⟩
  · have hc := ho2.cap.1
    have hi : (0 : Int) ≤ ((l.len : Nat) : Int) ∧ ((l.len : Nat) : Int) ≤ ((s2.cap : Nat) : Int) := by omega
    have h1' : apd prog 25 25 (.slice none 0 0) (.slice l.a l.len l.cap) w = some (s1, w1) := h1
    simp only [book_Bytes, h1', bnd_ok, h2', hi, and_self, if_true, sla_zero, hg, Int.toNat_natCast, Nat.sub_zero]
    rw [hlen]
  · have : s2 = ⟨some ⟨g, 0, none⟩, bs.length + 70, s2.cap⟩ := by cases s2; simp_all
    rw [← this]; exact ho2

/-! ### WholeBytes -/

theorem ints_append {κ : IntKind} (xs ys : List Int) : ints κ (xs ++ ys) = ints κ xs ++ ints κ ys := List.map_append ..
theorem ints_take {κ : IntKind} (xs : List Int) (n : Nat) : (ints κ xs).take n = ints κ (xs.take n) := by simp [ints, List.map_take]
theorem ints_length {κ : IntKind} (xs : List Int) : (ints κ xs).length = xs.length := List.length_map ..

/-- The front of what Bytes made. -/
theorem marked_front {w : World} {g cap : Nat} {bs : List Int} (h : Own 5 w ⟨some ⟨g, 0, none⟩, bs.length + 70, cap⟩ (ints .u8 (bs ++ marks))) :
    Own 5 w ⟨some ⟨g, 0, none⟩, bs.length, cap⟩ (ints .u8 bs) := by
  have := h.cut (n := bs.length) (Nat.le_add_right _ _)
  rw [ints_take, List.take_left] at this
  exact this

theorem WholeBytes_loop (K : Nat) {s : Sl} {bs : List Int} (hb : bs.length ≤ 140737488351232) :
    ∀ (d i n : Nat) (w : World), i + d = 70 → d < n → RdS .u8 w s (bs ++ marks) → book_WholeBytes_l0 K n ((bs.length : Nat) : Int) s (i : Int) w = some (.norm (), w) := by
  intro d
  induction d with
  | zero =>
    intro i n w hi hn hr
    obtain ⟨n, rfl⟩ : ∃ m, n = m + 1 := ⟨n - 1, by omega⟩
    have : i = 70 := by omega
    subst this
    show book_WholeBytes_l0_b K (book_WholeBytes_l0 K n) ((bs.length : Nat) : Int) s ((70 : Nat) : Int) w = _
    simp [book_WholeBytes_l0_b]
  | succ d ih =>
    intro i n w hi hn hr
    obtain ⟨n, rfl⟩ : ∃ m, n = m + 1 := ⟨n - 1, by omega⟩
    have hi70 : i < 70 := by omega
    show book_WholeBytes_l0_b K (book_WholeBytes_l0 K n) ((bs.length : Nat) : Int) s (i : Int) w = _
    have hll : s.len = bs.length + 70 := by rw [hr.len]; simp [marks_len]
    obtain ⟨p, hp, hpl⟩ := hr.ld
    have hne : bs ++ marks ≠ [] := by intro e; have := congrArg List.length e; simp [marks_len] at this
    have l1 := hpl (bs.length + i) (by simp [marks_len]; omega)
    have e1 : (bs ++ marks)[bs.length + i]'(by simp [marks_len]; omega) = marks[i]'(by rw [marks_len]; exact hi70) := by simp
    rw [e1] at l1
    have hw : IntKind.i64.wrap ((i : Int) + 1) = ((i + 1 : Nat) : Int) := by rw [w64 (by omega) (by omega)]; rfl
    have hw2 : IntKind.i64.wrap (((bs.length : Nat) : Int) + (i : Int)) = ((bs.length + i : Nat) : Int) := by rw [w64 (by omega) (by omega)]; rfl
    have hd : decide ((i : Int) < 70) = true := by simp; omega
    have hin : (0 : Int) ≤ ((bs.length + i : Nat) : Int) ∧ ((bs.length + i : Nat) : Int) < ((bs.length + 70 : Nat) : Int) := by omega
    simp only [book_WholeBytes_l0_b, hd, if_true, hp hne, Option.bind_some, hw2, hll, hin, and_self, Int.toNat_natCast, Nat.mul_one, l1, mark_at i hi70, bne_self_eq_false, Bool.false_eq_true, if_false, hw]
    exact ih (i + 1) n w (by omega) (by omega) hr

theorem WholeBytes_ok {K : Nat} (hK : 18446744073709551616 ≤ K) {g cap : Nat} {l : Sl} {bs xs : List Int} {w : World}
    (ho : Own 5 w ⟨some ⟨g, 0, none⟩, bs.length + 70, cap⟩ (ints .u8 (bs ++ marks))) (hl : RdS .u8 w l xs) (hb : bs.length ≤ 140737488351232) :
    ∃ w', book_WholeBytes K ⟨some ⟨g, 0, none⟩, bs.length, cap⟩ l w = some ((decide (bs = xs), ()), w') ∧ Upd none_ w w' := by
  obtain ⟨w1, h1, u1⟩ := SameBytes_ok hK (marked_front ho).rd hl (by omega)
  by_cases he : bs = xs
  · have hc := ho.cap.1
    have hc : bs.length + 70 ≤ cap := hc
    have ho1 := ho.upd0 u1
    have hlp := WholeBytes_loop K hb 70 0 K w1 (by omega) (by omega) ho1.rd
    have hlp : book_WholeBytes_l0 K K ((bs.length : Nat) : Int) ⟨some ⟨g, 0, none⟩, bs.length + 70, cap⟩ 0 w1 = _ := hlp
    have hw : IntKind.i64.wrap (((bs.length : Nat) : Int) + 70) = ((bs.length + 70 : Nat) : Int) := by rw [w64 (by omega) (by omega)]; rfl
    have hin : (0 : Int) ≤ ((bs.length + 70 : Nat) : Int) ∧ ((bs.length + 70 : Nat) : Int) ≤ ((cap : Nat) : Int) := by omega
    refine ⟨w1, ?_, u1⟩
    simp only [book_WholeBytes, h1, bnd_ok, decide_eq_true he, Bool.not_true, Bool.false_eq_true, if_false, hw, hin, and_self, if_true, sla_zero, Int.toNat_natCast, Nat.sub_zero, hlp]
  · refine ⟨w1, ?_, u1⟩
    simp only [book_WholeBytes, h1, bnd_ok, decide_eq_false he, Bool.not_false, if_true]

end Go.Sh

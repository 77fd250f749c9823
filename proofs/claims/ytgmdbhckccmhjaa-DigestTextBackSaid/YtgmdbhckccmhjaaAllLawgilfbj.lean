/- Texts of this claim, put together: BookA, BookB, BookC, BookD, Bld, Hex, Txt, RefHex, Fhex, Fb64, B64, B64ok, Rb64, Texts, Back -/
import Derived.Test.YtgmdbhckccmhjaaAllFwcobdco
import Derived.Test.YtgmdbhckccmhjaaAllShndidkm
import Derived.Lib.UnsafeStr
/- What the helpers of the package cofferbook do. Ytgmdbhckccmhjaa, Try, 25, 5 are filled in for a seat (book.sh). -/
set_option linter.unusedVariables false
namespace Go.Sh
open Go.Fw Go.RowKit Go.Proofs.Try

theorem sliceB : OneSlice prog 25 5 (.int .u8 0) 1 := ⟨by kernel_rfl, ⟨t5, by kernel_rfl, by kernel_rfl, by kernel_rfl, by kernel_rfl⟩, by decide, rfl, rfl⟩

/-- A slice of bytes that came in, as the source of a copy. -/
theorem src_row {w : World} {a : Option Addr} {len cap : Nat} {zs : List Int}
    (h : (a = none ∧ len = 0 ∧ cap = 0 ∧ zs = []) ∨
      ∃ x, a = some x ∧ len ≤ cap ∧ cap ≤ 140737488351232 ∧ zs.length = cap ∧ (∀ i, i < zs.length → w.cell? (x.add i) = some (.int .u8 (zs.getD i 0))) ∧ ∀ n ∈ zs, (Lit.int .u8 n).wf = true) :
    ∃ xs, ((∀ x ∈ xs, InK .u8 x) ∧ xs.length ≤ 140737488351232) ∧ Src w ⟨a, len, cap⟩ (ints .u8 xs) := by
  rcases h with ⟨rfl, rfl, rfl, rfl⟩ | ⟨x, rfl, hl, hc, hz, hcell, hwz⟩
  · exact ⟨[], ⟨fun _ h => by simp at h, Nat.zero_le _⟩, rfl, Nat.le_refl _, .inl ⟨rfl, rfl, rfl⟩, ints_one⟩
  · refine ⟨zs.take len, ⟨fun n hn => ?_, by simp; omega⟩, by simp; omega, hl, .inr ⟨x, rfl, fun i v hv => ?_⟩, ints_one⟩
    · have := hwz n (List.mem_of_mem_take hn)
      have h2 : 0 ≤ n ∧ n ≤ 255 := by simpa [Lit.wf, IntKind.bits, IntKind.min, IntKind.max, IntKind.signed] using this
      exact ⟨h2.1, by have := h2.2; simp only [IntKind.bits]; omega⟩
    · have hi : i < zs.length := by
        have := (List.getElem?_eq_some_iff.1 hv).1
        simp at this; omega
      rw [hcell i hi]
      simp only [ints, List.getElem?_map, List.getElem?_take] at hv
      split at hv
      · simpa [List.getD_eq_getElem?_getD, List.getElem?_eq_getElem hi] using hv
      · simp at hv

/-! ### SameBytes -/

theorem SameBytes_loop (K : Nat) {a b : Sl} {xs ys : List Int} (hl : xs.length = ys.length) (hs : xs.length < 9223372036854775807) :
    ∀ (d i : Nat) (n : Nat) (w : World), i + d = xs.length → d < n → RdS .u8 w a xs → RdS .u8 w b ys →
      ∃ w', book_SameBytes_l0 K n a b (i : Int) w = some (if xs.drop i = ys.drop i then .norm () else .ret (false, ()), w') ∧ Upd none_ w w' := by
  intro d
  induction d with
  | zero =>
    intro i n w hi hn ha hb
    obtain ⟨n, rfl⟩ : ∃ m, n = m + 1 := ⟨n - 1, by omega⟩
    refine ⟨w, ?_, Upd.refl _ w⟩
    show book_SameBytes_l0_b K (book_SameBytes_l0 K n) a b (i : Int) w = _
    have e1 : xs.drop i = [] := List.drop_eq_nil_of_le (by omega)
    have e2 : ys.drop i = [] := List.drop_eq_nil_of_le (by omega)
    simp [book_SameBytes_l0_b, ha.len, show ¬ i < xs.length by omega, e1, e2]
  | succ d ih =>
    intro i n w hi hn ha hb
    obtain ⟨n, rfl⟩ : ∃ m, n = m + 1 := ⟨n - 1, by omega⟩
    show ∃ w', book_SameBytes_l0_b K (book_SameBytes_l0 K n) a b (i : Int) w = _ ∧ _
    obtain ⟨p, hp, hpl⟩ := ha.drew.ld
    obtain ⟨q, hq, hql⟩ := hb.drew.ld
    have hx : xs ≠ [] := by rintro rfl; simp at hi
    have hy : ys ≠ [] := fun e => by rw [e] at hl; simp at hl; exact hx hl
    have hil : i < xs.length := by omega
    have hil2 : i < ys.length := by omega
    have hw : IntKind.i64.wrap ((i : Int) + 1) = ((i + 1 : Nat) : Int) := by rw [w64 (by omega) (by omega)]; rfl
    have e1 : xs.drop i = xs[i] :: xs.drop (i + 1) := List.drop_eq_getElem_cons hil
    have e2 : ys.drop i = ys[i] :: ys.drop (i + 1) := List.drop_eq_getElem_cons hil2
    have l1 := hpl i hil
    have l2 := hql i hil2
    by_cases hne : xs[i] = ys[i]
    · obtain ⟨w', h1, h2⟩ := ih (i + 1) n w.drew (by omega) (by omega) ha.drew hb.drew
      refine ⟨w', ?_, ?_⟩
      · simp only [book_SameBytes_l0_b, ha.len, hb.len, Int.ofNat_lt, hil, hil2, decide_true, if_true, hp hx, hq hy, Option.bind_some, Int.natCast_nonneg, and_self, Int.toNat_natCast, Nat.mul_one, l1, l2, hne, bne_self_eq_false, Bool.false_eq_true, if_false, hw, h1, e1, e2, List.cons.injEq, true_and]
      · exact (Upd.refl none_ w).drew.trans' h2 fun _ _ e => e
    · refine ⟨w.drew, ?_, (Upd.refl none_ w).drew⟩
      have hb' : (xs[i] != ys[i]) = true := by simpa using hne
      simp only [book_SameBytes_l0_b, ha.len, hb.len, Int.ofNat_lt, hil, hil2, decide_true, if_true, hp hx, hq hy, Option.bind_some, Int.natCast_nonneg, and_self, Int.toNat_natCast, Nat.mul_one, l1, l2, hb', e1, e2, List.cons.injEq, hne, false_and, if_false]

theorem SameBytes_ok {K : Nat} (hK : 18446744073709551616 ≤ K) {a b : Sl} {xs ys : List Int} {w : World} (ha : RdS .u8 w a xs) (hb : RdS .u8 w b ys) (hs : xs.length < 9223372036854775807) :
    ∃ w', book_SameBytes K a b w = some ((decide (xs = ys), ()), w') ∧ Upd none_ w w' := by
  by_cases hl : xs.length = ys.length
  · obtain ⟨w', h1, h2⟩ := SameBytes_loop K (a := a) (b := b) hl hs xs.length 0 K w (by omega) (by omega) ha hb
    refine ⟨w', ?_, h2⟩
    have h1' : book_SameBytes_l0 K K a b 0 w = _ := h1
    simp only [book_SameBytes, ha.len, hb.len, hl, bne_self_eq_false, Bool.false_eq_true, if_false, h1', bnd_ok, List.drop_zero]
    by_cases h : xs = ys <;> simp [h]
  · refine ⟨w, ?_, Upd.refl _ w⟩
    have h1 : (((xs.length : Nat) : Int) != ((ys.length : Nat) : Int)) = true := by simp; omega
    have h2 : xs ≠ ys := fun e => hl (by rw [e])
    simp only [book_SameBytes, ha.len, hb.len, h1, if_true, h2, decide_false]

end Go.Sh

/- What the helpers of the package cofferbook do. Ytgmdbhckccmhjaa, Try, 25, 5 are filled in for a seat (book.sh). -/
set_option linter.unusedVariables false
namespace Go.Sh
open Go.Fw Go.RowKit Go.Proofs.Try

/-! ### Bytes -/

def marks : List Int := (List.range 70).map fun i => (((181 + i) % 256 : Nat) : Int)

theorem marks_len : marks.length = 70 := rfl

theorem mark_at (i : Nat) (hi : i < 70) : IntKind.u8.wrap (IntKind.i64.wrap (181 + (i : Int))) = marks[i]'(by rw [marks_len]; exact hi) := by
  rw [w64 (by omega) (by omega), IntKind.wrap_u8]
  simp [marks]

theorem Bytes_loop (K B : Nat) (l : Sl) :
    ∀ (d i n : Nat) (w : World) (s : Sl) (xs : List Int), i + d = 70 → d < n → Own 5 w s (ints .u8 xs) → s.len + d ≤ 140737488355328 → B ≤ w.heap.size → Fresh B s →
      ∃ s' w', book_Bytes_l0 K n l s (i : Int) w = some ((s', ()), w') ∧ Own 5 w' s' (ints .u8 (xs ++ marks.drop i)) ∧ Below B w w' ∧ Fresh B s' := by
  intro d
  induction d with
  | zero =>
    intro i n w s xs hi hn ho hs hB hf
    obtain ⟨n, rfl⟩ : ∃ m, n = m + 1 := ⟨n - 1, by omega⟩
    have : i = 70 := by omega
    subst this
    refine ⟨s, w, ?_, ?_, Below.refl B w, hf⟩
    · show book_Bytes_l0_b K (book_Bytes_l0 K n) l s ((70 : Nat) : Int) w = _
      simp [book_Bytes_l0_b]
    · have : marks.drop 70 = [] := rfl
      rw [this, List.append_nil]; exact ho
  | succ d ih =>
    intro i n w s xs hi hn ho hs hB hf
    obtain ⟨n, rfl⟩ : ∃ m, n = m + 1 := ⟨n - 1, by omega⟩
    have hi70 : i < 70 := by omega
    obtain ⟨w1, h1, ho1, u1, hz1⟩ := bldS1_ok sliceB (.int .u8 (marks[i]'(by rw [marks_len]; exact hi70))) rfl w
    have hfr : ∀ k, s.blk = some k → ¬ (none_ k) := fun _ _ => id
    obtain ⟨s2, w2, h2, l2, ho2, u2, b2⟩ := apd_ok sliceB (ho.upd0 u1) (ho1.src (by simp [Value.oneCell'])) (by show (s.len + 1) * 1 ≤ _; omega)
    have bl1 : Below B w w1 := u1.below hB fun _ _ => id
    have bl2 : Below B w w2 := below_upd bl1 u2 (by omega) fun k hk e => by have := hf k e; omega
    have hf2 : Fresh B s2 := by
      intro k hk
      rcases b2 with e | e
      · exact hf k (e ▸ hk)
      · rw [e] at hk; have := Option.some.inj hk; omega
    obtain ⟨s3, w3, h3, ho3, bl3, hf3⟩ := ih (i + 1) n w2 s2 (xs ++ [marks[i]'(by rw [marks_len]; exact hi70)]) (by omega) (by omega) (by simpa using ho2) (by rw [l2]; show s.len + 1 + d ≤ _; omega) (by have := bl2.size; omega) hf2
    refine ⟨s3, w3, ?_, ?_, bl2.trans bl3, hf3⟩
    · show book_Bytes_l0_b K (book_Bytes_l0 K n) l s (i : Int) w = _
      have hw : IntKind.i64.wrap ((i : Int) + 1) = ((i + 1 : Nat) : Int) := by rw [w64 (by omega) (by omega)]; rfl
      have hd : decide ((i : Int) < 70) = true := by simp; omega
      simp only [book_Bytes_l0_b, hd, if_true, mark_at i hi70, h1, bnd_ok, h2, hw, h3]
    · have e : marks.drop i = marks[i]'(by rw [marks_len]; exact hi70) :: marks.drop (i + 1) := List.drop_eq_getElem_cons (by rw [marks_len]; exact hi70)
      rw [e]
      simpa using ho3

/-- Bytes: a copy, the marks behind it. -/
theorem Bytes_ok {K : Nat} (hK : 18446744073709551616 ≤ K) {l : Sl} {bs : List Int} {w : World} (hl : Src w l (ints .u8 bs)) (hb : bs.length ≤ 140737488351232) :
    ∃ g cap w', book_Bytes K l w = some ((⟨some ⟨g, 0, none⟩, bs.length, cap⟩, ()), w') ∧ Own 5 w' ⟨some ⟨g, 0, none⟩, bs.length + 70, cap⟩ (ints .u8 (bs ++ marks)) ∧ w.heap.size ≤ g ∧ Upd none_ w w' := by
  have hlen : l.len = bs.length := by simpa using hl.len
  obtain ⟨s1, w1, h1, l1, ho1, u1, b1⟩ := apd_ok sliceB (Own.nil 5 w) hl (by show (0 + l.len) * 1 ≤ _; omega)
  have bl1 : Below w.heap.size w w1 := u1.below (Nat.le_refl _) fun k _ e => by cases e
  have hf1 : Fresh w.heap.size s1 := by
    intro k hk
    rcases b1 with e | e
    · rw [e] at hk; cases hk
    · rw [e] at hk; have := Option.some.inj hk; omega
  obtain ⟨s2, w2, h2, ho2, bl2, hf2⟩ := Bytes_loop K w.heap.size l 70 0 K w1 s1 bs (by omega) (by omega) ho1 (by rw [l1]; show 0 + l.len + 70 ≤ _; omega) bl1.size hf1
  have h2' : book_Bytes_l0 K K l s1 0 w1 = _ := h2
  have ho2 : Own 5 w2 s2 (ints .u8 (bs ++ marks)) := ho2
  have hl2 : s2.len = bs.length + 70 := by rw [ho2.len]; simp [marks_len]
  obtain ⟨g, hg⟩ : ∃ g, s2.a = some ⟨g, 0, none⟩ := by
    rcases ho2.2 with ⟨a1, a2, _⟩ | ⟨g, cur, a1, _⟩
    · omega
    · exact ⟨g, a1⟩
  refine ⟨g, s2.cap, w2, ?_, ?_, hf2 g (by simp [Sl.blk, hg]), Upd.of_below (bl1.trans bl2)⟩
  · have hc := ho2.cap.1
    have hi : (0 : Int) ≤ ((l.len : Nat) : Int) ∧ ((l.len : Nat) : Int) ≤ ((s2.cap : Nat) : Int) := by omega
    have h1' : apd prog 25 25 (.slice none 0 0) (.slice l.a l.len l.cap) w = some (s1, w1) := h1
    simp only [book_Bytes, h1', bnd_ok, h2', hi, and_self, if_true, sla_zero, hg, Int.toNat_natCast, Nat.sub_zero]
    rw [hlen]
  · have : s2 = ⟨some ⟨g, 0, none⟩, bs.length + 70, s2.cap⟩ := by cases s2; simp_all
    rw [← this]; exact ho2

end Go.Sh

/- What the helpers of the package cofferbook do. Ytgmdbhckccmhjaa, Try, 25, 5 are filled in for a seat (book.sh). -/
set_option linter.unusedVariables false
namespace Go.Sh
open Go.Fw Go.RowKit Go.Proofs.Try

/-! ### WholeBytes -/

/-- The front of what Bytes made. -/
theorem marked_front {w : World} {g cap : Nat} {bs : List Int} (h : Own 5 w ⟨some ⟨g, 0, none⟩, bs.length + 70, cap⟩ (ints .u8 (bs ++ marks))) :
    Own 5 w ⟨some ⟨g, 0, none⟩, bs.length, cap⟩ (ints .u8 bs) := by
  have := h.cut (n := bs.length) (Nat.le_add_right _ _)
  rw [ints_take, List.take_left] at this
  exact this

theorem WholeBytes_loop (K : Nat) {s : Sl} {bs : List Int} (hb : bs.length ≤ 140737488351232) :
    ∀ (d i n : Nat) (w : World), i + d = 70 → d < n → RdS .u8 w s (bs ++ marks) → book_WholeBytes_l0 K n ((bs.length : Nat) : Int) s (i : Int) w = some (.norm (), w) := by
  intro d
  induction d with
  | zero =>
    intro i n w hi hn hr
    obtain ⟨n, rfl⟩ : ∃ m, n = m + 1 := ⟨n - 1, by omega⟩
    have : i = 70 := by omega
    subst this
    show book_WholeBytes_l0_b K (book_WholeBytes_l0 K n) ((bs.length : Nat) : Int) s ((70 : Nat) : Int) w = _
    simp [book_WholeBytes_l0_b]
  | succ d ih =>
    intro i n w hi hn hr
    obtain ⟨n, rfl⟩ : ∃ m, n = m + 1 := ⟨n - 1, by omega⟩
    have hi70 : i < 70 := by omega
    show book_WholeBytes_l0_b K (book_WholeBytes_l0 K n) ((bs.length : Nat) : Int) s (i : Int) w = _
    have hll : s.len = bs.length + 70 := by rw [hr.len]; simp [marks_len]
    obtain ⟨p, hp, hpl⟩ := hr.ld
    have hne : bs ++ marks ≠ [] := by intro e; have := congrArg List.length e; simp [marks_len] at this
    have l1 := hpl (bs.length + i) (by simp [marks_len]; omega)
    have e1 : (bs ++ marks)[bs.length + i]'(by simp [marks_len]; omega) = marks[i]'(by rw [marks_len]; exact hi70) := by simp
    rw [e1] at l1
    have hw : IntKind.i64.wrap ((i : Int) + 1) = ((i + 1 : Nat) : Int) := by rw [w64 (by omega) (by omega)]; rfl
    have hw2 : IntKind.i64.wrap (((bs.length : Nat) : Int) + (i : Int)) = ((bs.length + i : Nat) : Int) := by rw [w64 (by omega) (by omega)]; rfl
    have hd : decide ((i : Int) < 70) = true := by simp; omega
    have hin : (0 : Int) ≤ ((bs.length + i : Nat) : Int) ∧ ((bs.length + i : Nat) : Int) < ((bs.length + 70 : Nat) : Int) := by omega
    simp only [book_WholeBytes_l0_b, hd, if_true, hp hne, Option.bind_some, hw2, hll, hin, and_self, Int.toNat_natCast, Nat.mul_one, l1, mark_at i hi70, bne_self_eq_false, Bool.false_eq_true, if_false, hw]
    exact ih (i + 1) n w (by omega) (by omega) hr

theorem WholeBytes_ok {K : Nat} (hK : 18446744073709551616 ≤ K) {g cap : Nat} {l : Sl} {bs xs : List Int} {w : World}
    (ho : Own 5 w ⟨some ⟨g, 0, none⟩, bs.length + 70, cap⟩ (ints .u8 (bs ++ marks))) (hl : RdS .u8 w l xs) (hb : bs.length ≤ 140737488351232) :
    ∃ w', book_WholeBytes K ⟨some ⟨g, 0, none⟩, bs.length, cap⟩ l w = some ((decide (bs = xs), ()), w') ∧ Upd none_ w w' := by
  obtain ⟨w1, h1, u1⟩ := SameBytes_ok hK (marked_front ho).rd hl (by omega)
  by_cases he : bs = xs
  · have hc := ho.cap.1
    have hc : bs.length + 70 ≤ cap := hc
    have ho1 := ho.upd0 u1
    have hlp := WholeBytes_loop K hb 70 0 K w1 (by omega) (by omega) ho1.rd
    have hlp : book_WholeBytes_l0 K K ((bs.length : Nat) : Int) ⟨some ⟨g, 0, none⟩, bs.length + 70, cap⟩ 0 w1 = _ := hlp
    have hw : IntKind.i64.wrap (((bs.length : Nat) : Int) + 70) = ((bs.length + 70 : Nat) : Int) := by rw [w64 (by omega) (by omega)]; rfl
    have hin : (0 : Int) ≤ ((bs.length + 70 : Nat) : Int) ∧ ((bs.length + 70 : Nat) : Int) ≤ ((cap : Nat) : Int) := by omega
    refine ⟨w1, ?_, u1⟩
    simp only [book_WholeBytes, h1, bnd_ok, decide_eq_true he, Bool.not_true, Bool.false_eq_true, if_false, hw, hin, and_self, if_true, sla_zero, Int.toNat_natCast, Nat.sub_zero, hlp]
  · refine ⟨w1, ?_, u1⟩
    simp only [book_WholeBytes, h1, bnd_ok, decide_eq_false he, Bool.not_false, if_true]

end Go.Sh

/- What the helpers of the package cofferbook do: SpoilBytes. Ytgmdbhckccmhjaa, Try, 25, 5 are filled in for a seat. -/
set_option linter.unusedVariables false
namespace Go.Sh
open Go.Fw Go.RowKit Go.Proofs.Try

/-- all of its elements are bytes -/
theorem Spoil0 (K : Nat) {s : Sl} : ∀ (d i n : Nat) (w : World) (xs : List Int), i + d = xs.length → xs.length ≤ 140737488355328 → d < n → Vw 5 w s (ints .u8 xs) →
    ∃ w' ys, book_SpoilBytes_l0 K n s (i : Int) w = some ((), w') ∧ Vw 5 w' s (ints .u8 ys) ∧ ys.length = xs.length ∧ Upd (fun k => s.blk = some k) w w' := by
  intro d
  induction d with
  | zero =>
    intro i n w xs hi hl hn hv
    obtain ⟨n, rfl⟩ : ∃ m, n = m + 1 := ⟨n - 1, by omega⟩
    refine ⟨w, xs, ?_, hv, rfl, Upd.refl _ _⟩
    have hd : decide ((i : Int) < ((s.len : Nat) : Int)) = false := by rw [hv.len, ints_length]; simp; omega
    show book_SpoilBytes_l0_b K (book_SpoilBytes_l0 K n) s (i : Int) w = _
    unfold book_SpoilBytes_l0_b
    rw [hd, if_neg (by decide)]
  | succ d ih =>
    intro i n w xs hi hl hn hv
    obtain ⟨n, rfl⟩ : ∃ m, n = m + 1 := ⟨n - 1, by omega⟩
    have hsl : s.len = xs.length := by rw [hv.len, ints_length]
    obtain ⟨p, hp, hpl⟩ := hv.rd.ld
    have l1 := hpl i (by omega)
    have hp : s.a = some p := hp (fun e => by rw [e] at hi; simp at hi)
    obtain ⟨q, w1, hq, hs, hv1, u1⟩ := hv.st (i := i) (by omega) (.int .u8 (bits .xor .u8 (xs[i]'(by omega)) 165))
    obtain rfl : p = q := Option.some.inj (hp.symm.trans hq)
    rw [ints_set_] at hv1
    obtain ⟨w2, ys, h2, hv2, hl2, u2⟩ := ih (i + 1) n w1 _ (by rw [List.length_set]; omega) (by rw [List.length_set]; omega) (by omega) hv1
    refine ⟨w2, ys, ?_, hv2, by rw [hl2, List.length_set], u1.trans' u2 fun _ _ e => e⟩
    have hd : decide ((i : Int) < ((s.len : Nat) : Int)) = true := by rw [hsl]; simp; omega
    have c : (0 : Int) ≤ (i : Int) ∧ (i : Int) < ((s.len : Nat) : Int) := by omega
    have e1 : IntKind.i64.wrap ((i : Int) + 1) = ((i + 1 : Nat) : Int) := by rw [w64 (by omega) (by omega)]; rfl
    show book_SpoilBytes_l0_b K (book_SpoilBytes_l0 K n) s (i : Int) w = _
    unfold book_SpoilBytes_l0_b
    rw [hd, if_pos rfl, hp, Option.bind_some, if_pos c, Int.toNat_natCast, Nat.mul_one, l1, Option.bind_some, Option.bind_some, if_pos c, hs, Option.bind_some, e1, h2]

/-- one byte behind it -/
theorem pushV {w : World} {s : Sl} {xs : List Int} (x : Int) (ho : Vw 5 w s (ints .u8 xs)) (hs : s.len + 1 ≤ 140737488355328) :
    ∃ w1 s2 w2, bldS prog 25 1 #[(0, (.int .u8 x))] w = some (⟨some ⟨w.heap.size, 0, none⟩, 1, 1⟩, w1) ∧ apd prog 25 25 (.slice s.a s.len s.cap) (.slice (some ⟨w.heap.size, 0, none⟩) 1 1) w1 = some (s2, w2) ∧
      Vw 5 w2 s2 (ints .u8 (xs ++ [x])) ∧ s2.len = s.len + 1 ∧ Upd (fun k => s.blk = some k) w w2 ∧ (∀ k, s2.blk = some k → s.blk = some k ∨ w.heap.size ≤ k) := by
  obtain ⟨w1, h1, o1, u1, z1⟩ := bldS1_ok sliceB (.int .u8 x) rfl w
  obtain ⟨s2, w2, h2, l2, o2, u2, b2⟩ := apd_vw sliceB (ho.upd0 u1) (o1.src (by simp [Value.oneCell'])) (by show (s.len + 1) * 1 ≤ _; omega)
  refine ⟨w1, s2, w2, h1, h2, by simpa using o2, l2, (u1.mono fun _ _ e => e.elim).trans' u2 fun _ _ e => e, fun k hk => (b2 k hk).imp id fun e => by omega⟩

theorem Spoil1 (K : Nat) : ∀ (d i n : Nat) (w : World) (s : Sl) (xs : List Int), i + d = 70 → xs.length + d ≤ 140737488355328 → d < n → Vw 5 w s (ints .u8 xs) →
    ∃ s' w' ys, book_SpoilBytes_l1 K n s (i : Int) w = some ((s', ()), w') ∧ Vw 5 w' s' (ints .u8 ys) ∧ ys.length = xs.length + d ∧ Upd (fun k => s.blk = some k) w w' ∧ (∀ k, s'.blk = some k → s.blk = some k ∨ w.heap.size ≤ k) := by
  intro d
  induction d with
  | zero =>
    intro i n w s xs hi hl hn hv
    obtain ⟨n, rfl⟩ : ∃ m, n = m + 1 := ⟨n - 1, by omega⟩
    have : i = 70 := by omega
    subst this
    refine ⟨s, w, xs, ?_, hv, rfl, Upd.refl _ _, fun _ => .inl⟩
    show book_SpoilBytes_l1_b K (book_SpoilBytes_l1 K n) s ((70 : Nat) : Int) w = _
    unfold book_SpoilBytes_l1_b
    rw [if_neg (by decide)]
  | succ d ih =>
    intro i n w s xs hi hl hn hv
    obtain ⟨n, rfl⟩ : ∃ m, n = m + 1 := ⟨n - 1, by omega⟩
    have hsl : s.len = xs.length := by rw [hv.len, ints_length]
    obtain ⟨w1, s2, w2, h1, h2, o2, l2, u2, b2⟩ := pushV (IntKind.u8.wrap (IntKind.i64.wrap ((IntKind.i64.wrap (7 * (i : Int))) + 3))) hv (by omega)
    obtain ⟨s3, w3, ys, h3, o3, l3, u3, b3⟩ := ih (i + 1) n w2 s2 _ (by omega) (by rw [List.length_append, List.length_singleton]; omega) (by omega) o2
    refine ⟨s3, w3, ys, ?_, o3, by rw [l3, List.length_append, List.length_singleton]; omega, u2.trans' u3 fun k hk e => (b2 k e).elim id fun e => by omega, fun k hk => ?_⟩
    · have hd : decide ((i : Int) < 70) = true := by simp; omega
      have e1 : IntKind.i64.wrap ((i : Int) + 1) = ((i + 1 : Nat) : Int) := by rw [w64 (by omega) (by omega)]; rfl
      show book_SpoilBytes_l1_b K (book_SpoilBytes_l1 K n) s (i : Int) w = _
      unfold book_SpoilBytes_l1_b
      rw [hd, if_pos rfl, h1, bnd_ok, h2, bnd_ok, e1, h3]
    · rcases b3 k hk with e | e
      · exact b2 k e
      · exact .inr (by have := u2.size; omega)

theorem SpoilBytes_ok {K : Nat} (hK : 18446744073709551616 ≤ K) {s : Sl} {xs : List Int} {w : World} (hv : Vw 5 w s (ints .u8 xs)) (hl : xs.length ≤ 140737488351232) :
    ∃ w', book_SpoilBytes K s w = some ((), w') ∧ Upd (fun k => s.blk = some k) w w' := by
  obtain ⟨w1, ys, h1, v1, l1, u1⟩ := Spoil0 K xs.length 0 K w xs (by omega) (by omega) (by omega) hv
  have h1 : book_SpoilBytes_l0 K K s 0 w = _ := h1
  have hsl : s.len = xs.length := by rw [hv.len, ints_length]
  obtain ⟨w2, s2, w3, h2, h3, v3, l3, u3, b3⟩ := pushV 1 v1 (by omega)
  obtain ⟨s4, w4, zs, h4, v4, l4, u4, b4⟩ := Spoil1 K 70 0 K w3 s2 _ (by omega) (by rw [List.length_append, List.length_singleton]; omega) (by omega) v3
  have h4 : book_SpoilBytes_l1 K K s2 0 w3 = _ := h4
  rw [List.length_append, List.length_singleton] at l4
  have hl4 : s4.len = xs.length + 71 := by rw [v4.len, ints_length]; omega
  obtain ⟨p, w5, hp, h5, v5, u5⟩ := v4.st (i := xs.length + 70) (by omega) (.int .u8 77)
  have e1 : IntKind.i64.wrap (((s4.len : Nat) : Int) - 1) = ((xs.length + 70 : Nat) : Int) := by rw [hl4, w64 (by omega) (by omega)]; omega
  have c : (0 : Int) ≤ ((xs.length + 70 : Nat) : Int) ∧ ((xs.length + 70 : Nat) : Int) < ((s4.len : Nat) : Int) := by omega
  refine ⟨w5, ?_, ?_⟩
  · unfold book_SpoilBytes
    rw [h1, bnd_ok, h2, bnd_ok, h3, bnd_ok, h4, bnd_ok]
    dsimp only
    rw [hp, Option.bind_some, e1, if_pos c, Int.toNat_natCast, Nat.mul_one, h5, Option.bind_some]
  · have q3 : Upd (fun k => s.blk = some k) w w3 := u1.trans' u3 fun _ _ e => e
    have hz := u1.size
    have q4 : Upd (fun k => s.blk = some k) w w4 := q3.trans' u4 fun k hk e => (b3 k e).elim id fun e => by omega
    have hz3 := u3.size
    refine q4.trans' u5 fun k hk e => ?_
    rcases b4 k e with e | e
    · rcases b3 k e with e | e
      · exact e
      · omega
    · omega

end Go.Sh

/- strings.Builder, as the printed functions use it: bytes one by one, then the text. -/
set_option linter.unusedVariables false
namespace Go.Sh
open Go.Fw Go.RowKit Go.Proofs.Try

abbrev slV (s : Sl) : Value := .slice s.a s.len s.cap
abbrev nilS : Sl := ⟨none, 0, 0⟩

/-- a Builder in block b that holds the bytes xs; all of it in blocks from B on -/
structure BAt (B : Nat) (w : World) (b : Nat) (xs : List Int) : Prop where
  ex : ∃ p s, Bk 39 w b [.pointer p, slV s] ∧ (p = none ∨ p = some ⟨b, 0, none⟩) ∧ Own 5 w s (ints .u8 xs) ∧ s.blk ≠ some b ∧ (∀ k, s.blk = some k → B ≤ k) ∧ (xs = [] → s = nilS)
  bb : B ≤ b

theorem bk_shape {e : TypeId} {w : World} {g : Nat} {cs : List Value} (h : Bk e w g cs) : w.shape? g = some (e, cs.length) := by
  unfold Bk at h
  simp [World.shape?, h]

theorem BAt.new (w : World) : ∃ w', newB z39 39 w = some (⟨w.heap.size, 0, none⟩, w') ∧ BAt w.heap.size w' w.heap.size [] ∧ Upd none_ w w' := by
  obtain ⟨w', h1, h2, h3, h4⟩ := newB_ok z39 39 w
  exact ⟨w', h1, ⟨⟨none, nilS, h2, .inl rfl, Own.nil .., (fun e => by cases e), (fun k hk => by cases hk), fun _ => rfl⟩, Nat.le_refl _⟩, h3⟩

theorem BAt.lt {B : Nat} {w : World} {b : Nat} {xs : List Int} (h : BAt B w b xs) : b < w.heap.size := by
  obtain ⟨p, s, h1, _⟩ := h.ex; exact h1.lt

theorem WriteByte_ok {B : Nat} {w : World} {b : Nat} {xs : List Int} (h : BAt B w b xs) (c : Int) (hl : xs.length + 1 ≤ 140737488355328) :
    ∃ w', strings_Builder_WriteByte (some ⟨b, 0, none⟩) c w = some ((.nilIface, ()), w') ∧ BAt B w' b (xs ++ [c]) ∧ Below B w w' := by
  obtain ⟨⟨p, s, h1, h2, h3, h4, h5, h6⟩, hB⟩ := h
  have hbl := h1.lt
  have hsl : s.len = xs.length := by rw [h3.len, ints_length]
  have hc : ∃ w1, strings_Builder_copyCheck (some ⟨b, 0, none⟩) w = some ((), w1) ∧ Bk 39 w1 b [.pointer (some ⟨b, 0, none⟩), slV s] ∧ Upd (· = b) w w1 := by
    have hg : (⟨b, 0, none⟩ : Addr).off = 0 ∧ (⟨b, 0, none⟩ : Addr).spot = none ∧ w.shape? b = some (39, 2) ∧ w.frozen? ⟨b, 0, none⟩ = false := ⟨rfl, rfl, bk_shape h1, h1.frozen 0⟩
    have hld : ldP ⟨b, 0, none⟩ w = some p := h1.ldP rfl
    unfold strings_Builder_copyCheck
    rw [Option.bind_some, if_pos hg, hld]
    rcases h2 with rfl | rfl
    · exact ⟨_, if_pos rfl, h1.setCell 0 _, Upd.setCell w ⟨b, 0, none⟩ _⟩
    · exact ⟨w, by rw [if_neg (by simp), if_pos rfl], h1, Upd.refl _ _⟩
  obtain ⟨w1, c1, c2, c3⟩ := hc
  have o1 : Own 5 w1 s (ints .u8 xs) := h3.upd c3 fun k hk e => h4 (e ▸ hk)
  obtain ⟨w2, d1, d2, d3, d4⟩ := bldS1_ok sliceB (.int .u8 c) rfl w1
  obtain ⟨s3, w3, e1, e2, e3, e4, e5⟩ := apd_ok sliceB (o1.upd0 d3) (d2.src (by simp [Value.oneCell'])) (by show (s.len + 1) * 1 ≤ _; omega)
  have hs1 := c3.size
  have hs2 := d3.size
  have b3 : Bk 39 w3 b [.pointer (some ⟨b, 0, none⟩), slV s] := (c2.upd0 d3).upd e4 h4
  have hs3b : s3.blk ≠ some b := by
    rcases e5 with e | e
    · rw [e]; exact h4
    · rw [e]; intro e'; have := Option.some.inj e'; omega
  obtain ⟨w4, f1, f2, f3⟩ := b3.stC (i := 1) (Nat.lt_succ_self 1) (.slice s3.a s3.len s3.cap)
  have l1 : ldS ⟨b, 1, none⟩ w1 = some s := c2.ldS rfl
  refine ⟨w4, ?_, ⟨⟨some ⟨b, 0, none⟩, s3, f2, .inr rfl, ?_, hs3b, ?_, fun e => by simp at e⟩, hB⟩, ?_⟩
  · unfold strings_Builder_WriteByte
    rw [c1, bnd_ok]
    simp only [Option.bind_some, add_lit, Nat.zero_add]
    rw [l1, Option.bind_some, d1, bnd_ok]
    dsimp only
    rw [e1, bnd_ok, f1, Option.bind_some]
  · rw [ints_append]; exact e3.upd f3 fun k hk e => hs3b (e ▸ hk)
  · intro k hk
    rcases e5 with e | e
    · exact h5 k (e ▸ hk)
    · rw [e] at hk; have := Option.some.inj hk; omega
  · have b1 : Below B w w1 := c3.below (by omega) fun k hk e => by omega
    have b2 : Below B w1 w2 := d3.below (by omega) fun _ _ => id
    have b3 : Below B w2 w3 := e4.below (by omega) fun k hk e => by have := h5 k e; omega
    have b4 : Below B w3 w4 := f3.below (by have := e4.size; omega) fun k hk e => by omega
    exact ((b1.trans b2).trans b3).trans b4

/-- bytes of a list, as the machine's strings hold them -/
def u8s (xs : List Int) : List UInt8 := xs.map fun n => UInt8.ofNat n.toNat
theorem bytesOf_u8s (xs : List Int) : bytesOf xs = ⟨(u8s xs).toArray⟩ := rfl
theorem u8s_len (xs : List Int) : (u8s xs).length = xs.length := List.length_map ..

theorem upd_freeze {e : TypeId} {w : World} {g : Nat} {cs : List Value} (h : Bk e w g cs) (n : Nat) : Upd (· = g) w (w.freeze ⟨g, 0, none⟩ n) := by
  unfold World.freeze
  split
  · exact Upd.refl _ _
  · refine ⟨rfl, rfl, rfl, by simp, fun k hk hn => ?_⟩
    show (w.heap.modify g _)[k]? = _
    rw [Array.getElem?_modify, if_neg (fun e => hn e.symm)]

theorem BString_ok {B : Nat} {w : World} {b : Nat} {xs : List Int} (h : BAt B w b xs) (hin : ∀ x ∈ xs, 0 ≤ x ∧ x < 256) (hl : xs.length ≤ 140737488355328) (hBw : B ≤ w.heap.size) :
    ∃ w', strings_Builder_String (some ⟨b, 0, none⟩) w = some ((bytesOf xs, ()), w') ∧ Below B w w' := by
  obtain ⟨⟨p, s, h1, h2, h3, h4, h5, h6⟩, hB⟩ := h
  have hsl : s.len = xs.length := by rw [h3.len, ints_length]
  have l1 : ∀ w', Bk 39 w' b [.pointer p, slV s] → ldS ⟨b, 1, none⟩ w' = some s := fun w' h => h.ldS rfl
  have hd := h1.drew
  have sk : ∀ {α : Type} (v : Value) (k : Option α), sameK v v k = k := fun v k => by unfold sameK; exact if_pos rfl
  unfold strings_Builder_String strings_Builder_String_s0
  simp only [Option.bind_some, add_lit, Nat.zero_add]
  rw [l1 _ hd]
  simp only [Option.bind_some]
  by_cases hx : xs = []
  · have hs := h6 hx
    subst hs hx
    have e1 : usSD prog #[25] 53 #[(.slice nilS.a nilS.len nilS.cap)] w.drew = some (.pointer none, w.drew) := rfl
    have e2 : usS prog #[53, 3] 9 #[.pointer none, (.int .i64 ((nilS.len : Nat) : Int))] w.drew = some (.empty, w.drew) := by
      unfold usS
      have := Lib.run_unsafeString_none (P := prog) w.drew 53 3 9 none
      show (match (Builtin.unsafeString_ #[53, 3] 9 #[.pointer none, .int .i64 0]).run prog w.drew with | .ok (.string s) w' => some (s, w') | _ => none) = _
      rw [this]
    refine ⟨w.drew, ?_, Below.drew (Below.refl B w)⟩
    rw [e1, bnd_ok, l1 _ hd]
    simp only [Option.bind_some]
    rw [sk, sk, e2, bnd_ok, l1 _ hd]
    simp only [Option.bind_some]
    rw [sk, sk, bnd_ok]
    rfl
  · have hne : ints .u8 xs ≠ [] := fun e => hx (by cases xs with | nil => rfl | cons y r => cases e)
    obtain ⟨g, cs, a1, a2, a3, a4, a5, a6⟩ := h3.bk hne
    have hgb : g ≠ b := fun e => h4 (by rw [Sl.blk, a1]; exact congrArg some e)
    have hgB : B ≤ g := h5 g (by rw [Sl.blk, a1]; rfl)
    obtain ⟨sa, sl, sc⟩ := s
    have a1 : sa = some ⟨g, 0, none⟩ := a1
    have hsl : sl = xs.length := hsl
    subst a1 hsl
    have a3 : xs.length ≤ sc := a3
    have a4 : sc ≤ maxLen := a4
    have a5 : cs.length = sc := a5
    have a6 : cs.take xs.length = ints .u8 xs := a6
    have hpos : 0 < xs.length := List.length_pos_iff.2 hx
    have e1 : usSD prog #[25] 53 #[(.slice (some ⟨g, 0, none⟩) xs.length sc)] w.drew = some (.pointer (some ⟨g, 0, none⟩), w.drew) := by
      unfold usSD
      rw [Lib.run_unsafeSliceData_row _ _ _ _ _ _ (by omega)]
    have e2 : usS prog #[53, 3] 9 #[.pointer (some ⟨g, 0, none⟩), (.int .i64 ((xs.length : Nat) : Int))] w.drew = some (bytesOf xs, w.drew.freeze ⟨g, 0, none⟩ xs.length) := by
      unfold usS
      have := Lib.run_unsafeString_row (P := prog) w.drew 53 3 9 5 underlying53 (by kernel_rfl) g cs.length (by rw [bk_shape a2.drew]) (u8s xs) (fun e => hx (List.eq_nil_of_length_eq_zero (by rw [← u8s_len, e]; rfl))) (by rw [u8s_len]; omega) (by rw [u8s_len]; omega) (fun j x hj => by
        have hj2 : j < xs.length := by have := (List.getElem?_eq_some_iff.1 hj).1; rwa [u8s_len] at this
        rw [add_lit, Nat.zero_add, a2.drew.cell]
        have h1 : (cs.take xs.length)[j]? = cs[j]? := by rw [List.getElem?_take, if_pos hj2]
        rw [← h1, a6, ints_get hj2]
        have h2 : x = UInt8.ofNat (xs[j]).toNat := by
          unfold u8s at hj
          rw [List.getElem?_map, List.getElem?_eq_getElem hj2] at hj
          exact (Option.some.inj hj).symm
        have hb := hin xs[j] (List.getElem_mem hj2)
        have h3 : (x.toNat : Int) = xs[j] := by rw [h2, UInt8.toNat_ofNat']; omega
        rw [h3])
      rw [u8s_len] at this
      rw [this]
      rfl
    have u3 := upd_freeze a2.drew xs.length
    have b3 : Bk 39 (w.drew.freeze ⟨g, 0, none⟩ xs.length) b [.pointer p, slV ⟨some ⟨g, 0, none⟩, xs.length, sc⟩] := hd.upd u3 (fun e => hgb e.symm)
    refine ⟨w.drew.freeze ⟨g, 0, none⟩ xs.length, ?_, (Below.drew (Below.refl B w)).trans (u3.below (by exact hBw) fun k hk e => by omega)⟩
    rw [e1, bnd_ok, l1 _ hd]
    simp only [Option.bind_some]
    rw [sk, sk, e2, bnd_ok, l1 _ b3]
    simp only [Option.bind_some]
    rw [sk, sk, bnd_ok]

end Go.Sh

/- Hex, both. -/
set_option linter.unusedVariables false
namespace Go.Sh
open Go.Fw Go.RowKit Go.Proofs.Try

theorem src_ld {w : World} {s : Sl} {xs : List Int} (h : Src w s (ints .u8 xs)) {i : Nat} (hi : i < xs.length) : ∃ p, s.a = some p ∧ ldI .u8 (p.add i) w = some (xs.getD i 0) := by
  obtain ⟨p, hp, hl⟩ := h.rds.ld
  refine ⟨p, hp (fun e => by rw [e] at hi; simp at hi), ?_⟩
  rw [hl i hi, List.getD_eq_getElem?_getD, List.getElem?_eq_getElem hi]; rfl
theorem src_below {B : Nat} {w w' : World} {s : Sl} {vs : List Value} (h : Src w s vs) (b : Below B w w') (hn : ∀ p, s.a = some p → vs ≠ [] → p.block < B) : Src w' s vs :=
  ⟨h.len, h.cap, h.rd.imp id fun ⟨p, hp, hr⟩ => ⟨p, hp, hr.upd (upd_of_below b) fun hne e => by have := hn p hp hne; omega⟩, h.one⟩
theorem take_succ_getD {α : Type} {l : List α} {i : Nat} (hi : i < l.length) (d : α) : l.take (i + 1) = l.take i ++ [l.getD i d] := by
  rw [List.take_add_one, List.getD_eq_getElem?_getD, List.getElem?_eq_getElem hi]; rfl

/-- a digit -/
def dig (k : Nat) : Int := if k < 10 then 48 + k else 87 + k
def hexOf (xs : List Int) : List Int := xs.flatMap fun x => [dig (x.toNat / 16), dig (x.toNat % 16)]
theorem str1_fin : ∀ k : Fin 16, str1[k.val]? = some (UInt8.ofNat (dig k.val).toNat) := by decide
theorem str1_at {k : Nat} (h : k < 16) : ∃ b : UInt8, str1[k]? = some b ∧ ((b.toNat : Nat) : Int) = dig k := by
  refine ⟨_, str1_fin ⟨k, h⟩, ?_⟩
  have : ∀ k : Fin 16, (((UInt8.ofNat (dig k.val).toNat).toNat : Nat) : Int) = dig k.val := by decide
  exact this ⟨k, h⟩
theorem dig_in {k : Nat} (h : k < 16) : 0 ≤ dig k ∧ dig k < 256 := by unfold dig; split <;> omega
theorem hexOf_snoc (xs : List Int) (x : Int) : hexOf (xs ++ [x]) = hexOf xs ++ [dig (x.toNat / 16)] ++ [dig (x.toNat % 16)] := by
  unfold hexOf; rw [List.flatMap_append, List.append_assoc]; rfl
theorem hexOf_len (xs : List Int) : (hexOf xs).length = 2 * xs.length := by
  induction xs with
  | nil => rfl
  | cons x r ih => unfold hexOf at ih ⊢; rw [List.flatMap_cons, List.length_append, ih]; simp; omega
theorem hexOf_in {xs : List Int} (h : ∀ x ∈ xs, InK .u8 x) : ∀ y ∈ hexOf xs, 0 ≤ y ∧ y < 256 := by
  intro y hy
  obtain ⟨x, hx, hy⟩ := List.mem_flatMap.1 hy
  have hb : 0 ≤ x ∧ x < 256 := h x hx
  simp only [List.mem_cons, List.not_mem_nil, or_false] at hy
  rcases hy with rfl | rfl
  · exact dig_in (by omega)
  · exact dig_in (by omega)

theorem hex_loop {K B b : Nat} {s : Sl} {xs : List Int} (hx : ∀ x ∈ xs, InK .u8 x) (hl : xs.length ≤ 8388608) (hb : ∀ p, s.a = some p → ints .u8 xs ≠ [] → p.block < B) :
    ∀ (d i n : Nat) (w : World), i + d = xs.length → d < n → Src w s (ints .u8 xs) → BAt B w b (hexOf (xs.take i)) →
      ∃ w', digest_Hex_l0 K n ⟨b, 0, none⟩ s ((xs.length : Nat) : Int) (i : Int) w = some ((), w') ∧ BAt B w' b (hexOf xs) ∧ Below B w w' := by
  intro d
  induction d with
  | zero =>
    intro i n w hi hn hs hB
    obtain ⟨n, rfl⟩ : ∃ m, n = m + 1 := ⟨n - 1, by omega⟩
    refine ⟨w, ?_, by rw [List.take_of_length_le (by omega)] at hB; exact hB, Below.refl B w⟩
    have eu : digest_Hex_l0 K (n + 1) = digest_Hex_l0_b K (digest_Hex_l0 K n) := rfl
    rw [eu]
    unfold digest_Hex_l0_b
    rw [if_neg (by simp; omega)]
  | succ d ih =>
    intro i n w hi hn hs hB
    obtain ⟨n, rfl⟩ : ∃ m, n = m + 1 := ⟨n - 1, by omega⟩
    have hsl : s.len = xs.length := by rw [hs.len, ints_length]
    obtain ⟨p, hp, hld⟩ := src_ld hs (i := i) (by omega)
    have hxi : 0 ≤ xs.getD i 0 ∧ xs.getD i 0 < 256 := by
      have : xs.getD i 0 = xs[i]'(by omega) := by rw [List.getD_eq_getElem?_getD, List.getElem?_eq_getElem (by omega)]; rfl
      rw [this]; exact hx _ (List.getElem_mem _)
    have et := take_succ_getD (l := xs) (i := i) (by omega) 0
    generalize xs.getD i 0 = x at hld hxi et
    obtain ⟨v, rfl⟩ : ∃ v : Nat, x = (v : Int) := ⟨x.toNat, by omega⟩
    have hv : v < 256 := by omega
    have f1 : Int.fdiv (v : Int) (2 ^ 4) = ((v / 16 : Nat) : Int) := fdiv_pow v 4
    have f2 : bits .and .u8 (v : Int) 15 = ((v % 16 : Nat) : Int) := by
      have : ∀ v : Fin 256, bits .and .u8 ((v.val : Nat) : Int) 15 = ((v.val % 16 : Nat) : Int) := by decide +kernel
      exact this ⟨v, hv⟩
    obtain ⟨b1, s1, t1⟩ := str1_at (k := v / 16) (by omega)
    obtain ⟨b2, s2, t2⟩ := str1_at (k := v % 16) (by omega)
    have hlen := hexOf_len (xs.take i)
    rw [List.length_take] at hlen
    obtain ⟨w1, k1, B1, c1⟩ := WriteByte_ok hB (dig (v / 16)) (by omega)
    obtain ⟨w2, k2, B2, c2⟩ := WriteByte_ok B1 (dig (v % 16)) (by rw [List.length_append, List.length_singleton]; omega)
    have e1 : IntKind.i64.wrap ((i : Int) + 1) = ((i + 1 : Nat) : Int) := by rw [w64 (by omega) (by omega)]; rfl
    have e2 : hexOf (xs.take i) ++ [dig (v / 16)] ++ [dig (v % 16)] = hexOf (xs.take (i + 1)) := by rw [et, hexOf_snoc]; rfl
    rw [e2] at B2
    obtain ⟨w3, k3, B3, c3⟩ := ih (i + 1) n w2 (by omega) (by omega) (src_below hs (c1.trans c2) hb) B2
    refine ⟨w3, ?_, B3, (c1.trans c2).trans c3⟩
    have eu : digest_Hex_l0 K (n + 1) = digest_Hex_l0_b K (digest_Hex_l0 K n) := rfl
    rw [eu]
    unfold digest_Hex_l0_b
    rw [if_pos (by simp; omega), hp, Option.bind_some, if_pos (by rw [hsl]; omega), Int.toNat_natCast, Nat.mul_one, hld, Option.bind_some, f1, if_pos (by omega), Int.toNat_natCast, s1, Option.bind_some, t1, k1, bnd_ok, f2, if_pos (by omega), Int.toNat_natCast, s2, Option.bind_some, t2, k2, bnd_ok, e1, k3]

theorem Hex_ok {K : Nat} (hK : 18446744073709551616 ≤ K) {w : World} {s : Sl} {xs : List Int} (hs : Src w s (ints .u8 xs)) (hx : ∀ x ∈ xs, InK .u8 x) (hl : xs.length ≤ 8388608) :
    ∃ w', digest_Hex K s w = some ((bytesOf (hexOf xs), ()), w') ∧ Upd none_ w w' := by
  have hsl : s.len = xs.length := by rw [hs.len, ints_length]
  obtain ⟨w1, n1, B1, u1⟩ := BAt.new w
  have hs1 := u1.size
  obtain ⟨w2, j2, B2, c2⟩ := hex_loop (K := K) (s := s) hx hl (B := w.heap.size) (b := w.heap.size) (fun p hp hne => by
    rcases hs.rd with ⟨e, _⟩ | ⟨q, e, hr⟩
    · rw [e] at hp; cases hp
    · rw [e] at hp; cases hp; exact hr.lt hne) xs.length 0 K w1 (by omega) (by omega) (hs.upd0 u1) B1
  have hs2 := c2.size
  obtain ⟨w3, j3, c3⟩ := BString_ok B2 (hexOf_in hx) (by rw [hexOf_len]; omega) (by omega)
  refine ⟨w3, ?_, Upd.of_below (((u1.below (Nat.le_refl _) fun _ _ => id).trans c2).trans c3)⟩
  unfold digest_Hex
  have j2 : digest_Hex_l0 K K ⟨w.heap.size, 0, none⟩ s ((xs.length : Nat) : Int) 0 w1 = _ := j2
  rw [hsl, if_neg (by simp; omega), n1, bnd_ok, j2, bnd_ok, j3, bnd_ok]

end Go.Sh

/- Texts of digits, there and back: plain lists. -/
set_option linter.unusedVariables false
namespace Go.Sh
open Go.Fw Go.RowKit Go.Proofs.Try

/-- what a digit is worth; -1: it is none -/
def hv (c : Int) : Int := if 48 ≤ c ∧ c ≤ 57 then c - 48 else if 97 ≤ c ∧ c ≤ 102 then c - 87 else if 65 ≤ c ∧ c ≤ 70 then c - 55 else -1
theorem hv_in (c : Int) : -1 ≤ hv c ∧ hv c < 16 := by unfold hv; split <;> (try split) <;> (try split) <;> omega

/-- as the program reads it: byte by byte -/
def hrun : List Int → Nat → List Int → Except Nat (List Int)
  | [], i, out => if i % 2 = 0 then .ok out else .error i
  | c :: r, i, out => if hv c < 0 then .error i else hrun r (i + 1) (if i % 2 = 0 then out ++ [16 * hv c] else out.set (i / 2) (bits .or .u8 (out.getD (i / 2) 0) (hv c)))

/-- two by two -/
def fromHex : List Int → Nat → List Int → Except Nat (List Int)
  | [], _, out => .ok out
  | [a], i, _ => .error (if hv a < 0 then i else i + 1)
  | a :: b :: r, i, out => if hv a < 0 then .error i else if hv b < 0 then .error (i + 1) else fromHex r (i + 2) (out ++ [16 * hv a + hv b])

/-- the reference: the first that is no digit -/
def hscan : List Int → Nat → Option Nat
  | [], _ => none
  | c :: r, i => if hv c < 0 then some i else hscan r (i + 1)
def pairs : List Int → List Int → List Int
  | a :: b :: r, out => pairs r (out ++ [16 * hv a + hv b])
  | _, out => out

theorem or16 {a b : Int} (ha : 0 ≤ a ∧ a < 16) (hb : 0 ≤ b ∧ b < 16) : bits .or .u8 (16 * a) b = 16 * a + b := by
  have h : ∀ a b : Fin 16, bits .or .u8 (16 * ((a.val : Nat) : Int)) ((b.val : Nat) : Int) = 16 * ((a.val : Nat) : Int) + ((b.val : Nat) : Int) := by decide +kernel
  have := h ⟨a.toNat, by omega⟩ ⟨b.toNat, by omega⟩
  simp only [Int.toNat_of_nonneg ha.1, Int.toNat_of_nonneg hb.1] at this
  exact this

theorem hrun_eq : ∀ (xs : List Int) (i : Nat) (out : List Int), 2 * out.length = i → hrun xs i out = fromHex xs i out
  | [], i, out, h => by simp only [hrun, fromHex]; rw [if_pos (by omega)]
  | [a], i, out, h => by
    simp only [hrun, fromHex]
    by_cases ha : hv a < 0
    · rw [if_pos ha, if_pos ha]
    · rw [if_neg ha, if_neg ha, if_neg (by omega)]
  | a :: b :: r, i, out, h => by
    simp only [hrun, fromHex]
    by_cases ha : hv a < 0
    · rw [if_pos ha, if_pos ha]
    · rw [if_neg ha, if_neg ha]
      by_cases hb : hv b < 0
      · rw [if_pos hb, if_pos hb]
      · rw [if_neg hb, if_neg hb, if_pos (by omega : i % 2 = 0), if_neg (by omega : ¬ (i + 1) % 2 = 0)]
        have e1 : (i + 1) / 2 = out.length := by omega
        have e2 : (out ++ [16 * hv a]).getD out.length 0 = 16 * hv a := by simp
        have e3 : ∀ v : Int, (out ++ [16 * hv a]).set out.length v = out ++ [v] := by intro v; simp
        rw [e1, e2, e3, or16 (by have := hv_in a; omega) (by have := hv_in b; omega)]
        exact hrun_eq r (i + 2) _ (by simp; omega)

theorem fromHex_scan : ∀ (xs : List Int) (i : Nat) (out : List Int), fromHex xs i out = match hscan xs i with
    | some j => .error j
    | none => if xs.length % 2 = 1 then .error (i + xs.length) else .ok (pairs xs out)
  | [], i, out => rfl
  | [a], i, out => by
    simp only [fromHex, hscan]
    by_cases ha : hv a < 0
    · rw [if_pos ha, if_pos ha]
    · rw [if_neg ha, if_neg ha]; rfl
  | a :: b :: r, i, out => by
    simp only [fromHex, hscan, pairs]
    by_cases ha : hv a < 0
    · rw [if_pos ha, if_pos ha]
    · rw [if_neg ha, if_neg ha]
      by_cases hb : hv b < 0
      · rw [if_pos hb, if_pos hb]
      · rw [if_neg hb, if_neg hb, fromHex_scan r (i + 2) _]
        have e : (a :: b :: r).length = r.length + 2 := rfl
        have e2 : i + (r.length + 2) = i + 2 + r.length := by omega
        have e3 : (r.length + 2) % 2 = r.length % 2 := by omega
        rw [e, e2, e3]

theorem hscan_le : ∀ (xs : List Int) (i j : Nat), hscan xs i = some j → i ≤ j ∧ j < i + xs.length
  | [], i, j, h => by cases h
  | c :: r, i, j, h => by
    simp only [hscan] at h
    split at h
    · cases h; simp
    · have := hscan_le r (i + 1) j h; simp; omega
theorem fromHex_bad {xs : List Int} {i j : Nat} {out : List Int} (h : fromHex xs i out = .error j) : i ≤ j ∧ j ≤ i + xs.length := by
  rw [fromHex_scan] at h
  split at h
  · rename_i k hk
    cases h
    have := hscan_le _ _ _ hk; omega
  · split at h
    · cases h; omega
    · cases h

theorem hv_dig {k : Nat} (h : k < 16) : hv (dig k) = (k : Int) := by
  have : ∀ k : Fin 16, hv (dig k.val) = ((k.val : Nat) : Int) := by decide
  exact this ⟨k, h⟩

theorem fromHex_hexOf : ∀ (xs : List Int), (∀ x ∈ xs, InK .u8 x) → ∀ (i : Nat) (out : List Int), fromHex (hexOf xs) i out = .ok (out ++ xs)
  | [], _, i, out => by simp [hexOf, fromHex]
  | x :: r, hx, i, out => by
    have hb : 0 ≤ x ∧ x < 256 := hx x (List.mem_cons_self ..)
    have e : hexOf (x :: r) = dig (x.toNat / 16) :: dig (x.toNat % 16) :: hexOf r := rfl
    rw [e]
    simp only [fromHex]
    rw [hv_dig (by omega), hv_dig (by omega), if_neg (by omega), if_neg (by omega), fromHex_hexOf r (fun y hy => hx y (List.mem_cons_of_mem _ hy))]
    have e2 : (16 * ((x.toNat / 16 : Nat) : Int) + ((x.toNat % 16 : Nat) : Int)) = x := by omega
    rw [e2, List.append_assoc]; rfl

/-- a text in small letters -/
def smallC (c : Int) : Int := if 65 ≤ c ∧ c ≤ 70 then c + 32 else c
theorem dig_hv {c : Int} (h : ¬ hv c < 0) : dig (hv c).toNat = smallC c := by
  unfold hv at h ⊢
  unfold dig smallC
  by_cases h1 : 48 ≤ c ∧ c ≤ 57
  · rw [if_pos h1, if_pos (by omega), if_neg (by omega)]; omega
  · rw [if_neg h1] at h ⊢
    by_cases h2 : 97 ≤ c ∧ c ≤ 102
    · rw [if_pos h2, if_neg (by omega), if_neg (by omega)]; omega
    · rw [if_neg h2] at h ⊢
      by_cases h3 : 65 ≤ c ∧ c ≤ 70
      · rw [if_pos h3, if_neg (by omega), if_pos h3]; omega
      · rw [if_neg h3] at h; omega

theorem fromHex_good : ∀ (xs : List Int) (i : Nat) (out ys : List Int), fromHex xs i out = .ok ys → ∃ zs, ys = out ++ zs ∧ hexOf zs = xs.map smallC ∧ (∀ z ∈ zs, InK .u8 z) ∧ 2 * zs.length = xs.length
  | [], i, out, ys, h => by cases h; exact ⟨[], by simp, rfl, (fun _ h => by cases h), rfl⟩
  | [a], i, out, ys, h => by cases h
  | a :: b :: r, i, out, ys, h => by
    simp only [fromHex] at h
    split at h
    · cases h
    · rename_i ha
      split at h
      · cases h
      · rename_i hb
        obtain ⟨zs, e1, e2, e3, e4⟩ := fromHex_good r _ _ _ h
        have qa := hv_in a
        have qb := hv_in b
        refine ⟨(16 * hv a + hv b) :: zs, by rw [e1, List.append_assoc]; rfl, ?_, ?_, by simp; omega⟩
        · have e : hexOf ((16 * hv a + hv b) :: zs) = dig ((16 * hv a + hv b).toNat / 16) :: dig ((16 * hv a + hv b).toNat % 16) :: hexOf zs := rfl
          have f1 : (16 * hv a + hv b).toNat / 16 = (hv a).toNat := by omega
          have f2 : (16 * hv a + hv b).toNat % 16 = (hv b).toNat := by omega
          rw [e, f1, f2, dig_hv ha, dig_hv hb, e2]; rfl
        · intro z hz
          rcases List.mem_cons.1 hz with rfl | hz
          · show 0 ≤ _ ∧ _ < (256 : Int); omega
          · exact e3 z hz

/-- what a letter of base64 is worth; -1: it is none -/
def wv (c : Int) : Int := if 65 ≤ c ∧ c ≤ 90 then c - 65 else if 97 ≤ c ∧ c ≤ 122 then c - 71 else if 48 ≤ c ∧ c ≤ 57 then c + 4 else if c = 43 then 62 else if c = 47 then 63 else -1
/-- the letter of a number -/
def lt (v : Int) : Int := if v < 26 then 65 + v else if v < 52 then 71 + v else if v < 62 then v - 4 else if v = 62 then 43 else 47
theorem wv_in (c : Int) : -1 ≤ wv c ∧ wv c < 64 := by
  unfold wv; split; omega; split; omega; split; omega; split; omega; split <;> omega
theorem lt_wv {c : Int} (h : ¬ wv c < 0) : lt (wv c) = c := by
  unfold wv at h ⊢
  unfold lt
  by_cases h1 : 65 ≤ c ∧ c ≤ 90
  · rw [if_pos h1, if_pos (by omega)]; omega
  · rw [if_neg h1] at h ⊢
    by_cases h2 : 97 ≤ c ∧ c ≤ 122
    · rw [if_pos h2, if_neg (by omega), if_pos (by omega)]; omega
    · rw [if_neg h2] at h ⊢
      by_cases h3 : 48 ≤ c ∧ c ≤ 57
      · rw [if_pos h3, if_neg (by omega), if_neg (by omega), if_pos (by omega)]; omega
      · rw [if_neg h3] at h ⊢
        by_cases h4 : c = 43
        · rw [if_pos h4]; simp [h4]
        · rw [if_neg h4] at h ⊢
          by_cases h5 : c = 47
          · rw [if_pos h5]; simp [h5]
          · rw [if_neg h5] at h; omega
theorem lt_fin : ∀ k : Fin 64, wv (lt ((k.val : Nat) : Int)) = ((k.val : Nat) : Int) ∧ lt ((k.val : Nat) : Int) ≠ 61 ∧ 0 ≤ lt ((k.val : Nat) : Int) ∧ lt ((k.val : Nat) : Int) < 256 := by decide
theorem wv_lt {k : Int} (h : 0 ≤ k ∧ k < 64) : wv (lt k) = k ∧ lt k ≠ 61 ∧ 0 ≤ lt k ∧ lt k < 256 := by
  have := lt_fin ⟨k.toNat, by omega⟩
  simp only [Int.toNat_of_nonneg h.1] at this
  exact this
theorem wv_eq : wv 61 = -1 := by decide

def b64Of : List Int → List Int
  | [] => []
  | [a] => [lt (a / 4), lt (a % 4 * 16), 61, 61]
  | [a, b] => [lt (a / 4), lt (a % 4 * 16 + b / 16), lt (b % 16 * 4), 61]
  | a :: b :: c :: r => lt (a / 4) :: lt (a % 4 * 16 + b / 16) :: lt (b % 16 * 4 + c / 64) :: lt (c % 64) :: b64Of r

theorem b64Of_len : ∀ (xs : List Int), (b64Of xs).length = (xs.length + 2) / 3 * 4
  | [] => rfl
  | [a] => by simp [b64Of]
  | [a, b] => by simp [b64Of]
  | a :: b :: c :: r => by
    have e : (b64Of (a :: b :: c :: r)).length = (b64Of r).length + 4 := by simp only [b64Of, List.length_cons]
    rw [e, b64Of_len r]
    have : (a :: b :: c :: r).length = r.length + 3 := rfl
    omega

theorem b64Of_in : ∀ (xs : List Int), (∀ x ∈ xs, InK .u8 x) → ∀ y ∈ b64Of xs, 0 ≤ y ∧ y < 256
  | [], _, y, hy => by cases hy
  | [a], hx, y, hy => by
    have ha : 0 ≤ a ∧ a < 256 := hx a (by simp)
    simp only [b64Of, List.mem_cons, List.not_mem_nil, or_false] at hy
    rcases hy with rfl | rfl | rfl | rfl
    · exact (wv_lt (by omega)).2.2
    · exact (wv_lt (by omega)).2.2
    · omega
    · omega
  | [a, b], hx, y, hy => by
    have ha : 0 ≤ a ∧ a < 256 := hx a (by simp)
    have hb : 0 ≤ b ∧ b < 256 := hx b (by simp)
    simp only [b64Of, List.mem_cons, List.not_mem_nil, or_false] at hy
    rcases hy with rfl | rfl | rfl | rfl
    · exact (wv_lt (by omega)).2.2
    · exact (wv_lt (by omega)).2.2
    · exact (wv_lt (by omega)).2.2
    · omega
  | a :: b :: c :: r, hx, y, hy => by
    have ha : 0 ≤ a ∧ a < 256 := hx a (by simp)
    have hb : 0 ≤ b ∧ b < 256 := hx b (by simp)
    have hc : 0 ≤ c ∧ c < 256 := hx c (by simp)
    simp only [b64Of, List.mem_cons] at hy
    rcases hy with rfl | rfl | rfl | rfl | hy
    · exact (wv_lt (by omega)).2.2
    · exact (wv_lt (by omega)).2.2
    · exact (wv_lt (by omega)).2.2
    · exact (wv_lt (by omega)).2.2
    · exact b64Of_in r (fun x hx' => hx x (by simp [hx'])) y hy

/-- as the program reads it: byte by byte -/
def brun : List Int → Nat → List Int → Int → Int → Except Nat (List Int)
  | [], i, out, _, _ => if i % 4 = 0 then .ok out else .error i
  | c :: r, i, out, v, e =>
    if e = 3 then .error i
    else if 0 < e then (if c = 61 then brun r (i + 1) out v 3 else .error i)
    else if c ≠ 61 then
      if wv c < 0 then .error i
      else if i % 4 = 3 then brun r (i + 1) (out ++ [(v * 64 + wv c) / 65536 % 256, (v * 64 + wv c) / 256 % 256, (v * 64 + wv c) % 256]) 0 e
      else brun r (i + 1) out (v * 64 + wv c) e
    else if i % 4 = 2 ∧ v % 16 = 0 then brun r (i + 1) (out ++ [v / 16 % 256]) v 1
    else if i % 4 = 3 ∧ v % 4 = 0 then brun r (i + 1) (out ++ [v / 1024 % 256, v / 4 % 256]) v 3
    else .error i

/-- four by four -/
def fromB : List Int → Nat → List Int → Except Nat (List Int)
  | [], _, out => .ok out
  | [a], i, _ => .error (if wv a < 0 then i else i + 1)
  | [a, b], i, _ => .error (if wv a < 0 then i else if wv b < 0 then i + 1 else i + 2)
  | [a, b, c], i, _ => .error (if wv a < 0 then i else if wv b < 0 then i + 1 else if c = 61 then (if wv b % 16 = 0 then i + 3 else i + 2) else if wv c < 0 then i + 2 else i + 3)
  | a :: b :: c :: d :: r, i, out =>
    if wv a < 0 then .error i
    else if wv b < 0 then .error (i + 1)
    else if c = 61 then
      if wv b % 16 = 0 then
        if d = 61 then (match r with | [] => .ok (out ++ [wv a * 4 + wv b / 16]) | _ :: _ => .error (i + 4))
        else .error (i + 3)
      else .error (i + 2)
    else if wv c < 0 then .error (i + 2)
    else if d = 61 then
      if wv c % 4 = 0 then (match r with | [] => .ok (out ++ [wv a * 4 + wv b / 16, wv b % 16 * 16 + wv c / 4]) | _ :: _ => .error (i + 4))
      else .error (i + 3)
    else if wv d < 0 then .error (i + 3)
    else fromB r (i + 4) (out ++ [wv a * 4 + wv b / 16, wv b % 16 * 16 + wv c / 4, wv c % 4 * 64 + wv d])

theorem brun3 : ∀ (r : List Int) (i : Nat) (out : List Int) (v : Int), i % 4 = 0 → brun r i out v 3 = match r with | [] => .ok out | _ :: _ => .error i
  | [], i, out, v, h => by simp only [brun]; rw [if_pos h]
  | c :: r, i, out, v, h => by simp only [brun]; rw [if_pos trivial]

theorem ife {α : Type} {c : Int} {a b : α} (h : c = 61) : (if c ≠ 61 then a else b) = b := if_neg fun h2 => h2 h

theorem bs_good {c : Int} {r : List Int} {i : Nat} {out : List Int} {v : Int} (hc : ¬ wv c < 0) (hk : i % 4 ≠ 3) : brun (c :: r) i out v 0 = brun r (i + 1) out (v * 64 + wv c) 0 := by
  have h61 : c ≠ 61 := fun e => hc (by rw [e]; decide)
  simp only [brun]
  rw [if_neg (by decide), if_neg (by decide), if_pos h61, if_neg hc, if_neg hk]
theorem bs_good3 {c : Int} {r : List Int} {i : Nat} {out : List Int} {v : Int} (hc : ¬ wv c < 0) (hk : i % 4 = 3) : brun (c :: r) i out v 0 = brun r (i + 1) (out ++ [(v * 64 + wv c) / 65536 % 256, (v * 64 + wv c) / 256 % 256, (v * 64 + wv c) % 256]) 0 0 := by
  have h61 : c ≠ 61 := fun e => hc (by rw [e]; decide)
  simp only [brun]
  rw [if_neg (by decide), if_neg (by decide), if_pos h61, if_neg hc, if_pos hk]
theorem bs_bad {c : Int} {r : List Int} {i : Nat} {out : List Int} {v : Int} (hc : wv c < 0) (hk : c ≠ 61 ∨ i % 4 < 2) : brun (c :: r) i out v 0 = .error i := by
  simp only [brun]
  rw [if_neg (by decide), if_neg (by decide)]
  by_cases h61 : c = 61
  · rw [ife h61, if_neg (by omega), if_neg (by omega)]
  · rw [if_pos h61, if_pos hc]
theorem bs_2 {r : List Int} {i : Nat} {out : List Int} {v : Int} (hk : i % 4 = 2) (hv : v % 16 = 0) : brun (61 :: r) i out v 0 = brun r (i + 1) (out ++ [v / 16 % 256]) v 1 := by
  simp only [brun]
  rw [if_neg (by decide), if_neg (by decide), if_neg (fun h => h rfl), if_pos ⟨hk, hv⟩]
theorem bs_2n {r : List Int} {i : Nat} {out : List Int} {v : Int} (hk : i % 4 = 2) (hv : ¬ v % 16 = 0) : brun (61 :: r) i out v 0 = .error i := by
  simp only [brun]
  rw [if_neg (by decide), if_neg (by decide), if_neg (fun h => h rfl), if_neg (fun h => hv h.2), if_neg (by omega)]
theorem bs_3 {r : List Int} {i : Nat} {out : List Int} {v : Int} (hk : i % 4 = 3) (hv : v % 4 = 0) : brun (61 :: r) i out v 0 = brun r (i + 1) (out ++ [v / 1024 % 256, v / 4 % 256]) v 3 := by
  simp only [brun]
  rw [if_neg (by decide), if_neg (by decide), if_neg (fun h => h rfl), if_neg (by omega), if_pos ⟨hk, hv⟩]
theorem bs_3n {r : List Int} {i : Nat} {out : List Int} {v : Int} (hk : i % 4 = 3) (hv : ¬ v % 4 = 0) : brun (61 :: r) i out v 0 = .error i := by
  simp only [brun]
  rw [if_neg (by decide), if_neg (by decide), if_neg (fun h => h rfl), if_neg (by omega), if_neg (fun h => hv h.2)]
theorem bs_1 {c : Int} {r : List Int} {i : Nat} {out : List Int} {v : Int} : brun (c :: r) i out v 1 = if c = 61 then brun r (i + 1) out v 3 else .error i := by
  simp only [brun]
  rw [if_neg (by decide), if_pos (by decide)]

theorem brun_eq : ∀ (xs : List Int) (i : Nat) (out : List Int), i % 4 = 0 → brun xs i out 0 0 = fromB xs i out
  | [], i, out, h => by simp only [brun, fromB]; rw [if_pos h]
  | [a], i, out, h => by
    simp only [fromB]
    by_cases ha : wv a < 0
    · rw [bs_bad ha (by omega), if_pos ha]
    · rw [bs_good ha (by omega), if_neg ha]; simp only [brun]; rw [if_neg (by omega)]
  | [a, b], i, out, h => by
    simp only [fromB]
    by_cases ha : wv a < 0
    · rw [bs_bad ha (by omega), if_pos ha]
    · rw [bs_good ha (by omega), if_neg ha]
      by_cases hb : wv b < 0
      · rw [bs_bad hb (by omega), if_pos hb]
      · rw [bs_good hb (by omega), if_neg hb]; simp only [brun]; rw [if_neg (by omega)]
  | [a, b, c], i, out, h => by
    simp only [fromB]
    by_cases ha : wv a < 0
    · rw [bs_bad ha (by omega), if_pos ha]
    · rw [bs_good ha (by omega), if_neg ha]
      by_cases hb : wv b < 0
      · rw [bs_bad hb (by omega), if_pos hb]
      · rw [bs_good hb (by omega), if_neg hb]
        have qa := wv_in a
        have qb := wv_in b
        by_cases h61 : c = 61
        · rw [if_pos h61]; subst h61
          by_cases hm : wv b % 16 = 0
          · rw [bs_2 (by omega) (by omega), if_pos hm]; simp only [brun]; rw [if_neg (by omega)]
          · rw [bs_2n (by omega) (by omega), if_neg hm]
        · rw [if_neg h61]
          by_cases hc : wv c < 0
          · rw [bs_bad hc (.inl h61), if_pos hc]
          · rw [bs_good hc (by omega), if_neg hc]; simp only [brun]; rw [if_neg (by omega)]
  | a :: b :: c :: d :: r, i, out, h => by
    simp only [fromB]
    by_cases ha : wv a < 0
    · rw [bs_bad ha (by omega), if_pos ha]
    · rw [bs_good ha (by omega), if_neg ha]
      by_cases hb : wv b < 0
      · rw [bs_bad hb (by omega), if_pos hb]
      · rw [bs_good hb (by omega), if_neg hb]
        have qa := wv_in a
        have qb := wv_in b
        have qc := wv_in c
        have qd := wv_in d
        by_cases h61 : c = 61
        · rw [if_pos h61]; subst h61
          by_cases hm : wv b % 16 = 0
          · rw [bs_2 (by omega) (by omega), if_pos hm, bs_1]
            by_cases h62 : d = 61
            · rw [if_pos h62, if_pos h62, brun3 r _ _ _ (by omega)]
              have e : ((0 * 64 + wv a) * 64 + wv b) / 16 % 256 = wv a * 4 + wv b / 16 := by omega
              rw [e]
            · rw [if_neg h62, if_neg h62]
          · rw [bs_2n (by omega) (by omega), if_neg hm]
        · rw [if_neg h61]
          by_cases hc : wv c < 0
          · rw [bs_bad hc (.inl h61), if_pos hc]
          · rw [bs_good hc (by omega), if_neg hc]
            by_cases h62 : d = 61
            · rw [if_pos h62]; subst h62
              by_cases hm : wv c % 4 = 0
              · rw [bs_3 (by omega) (by omega), if_pos hm, brun3 r _ _ _ (by omega)]
                have e : (((0 * 64 + wv a) * 64 + wv b) * 64 + wv c) / 1024 % 256 = wv a * 4 + wv b / 16 := by omega
                have e2 : (((0 * 64 + wv a) * 64 + wv b) * 64 + wv c) / 4 % 256 = wv b % 16 * 16 + wv c / 4 := by omega
                rw [e, e2]
              · rw [bs_3n (by omega) (by omega), if_neg hm]
            · rw [if_neg h62]
              by_cases hd : wv d < 0
              · rw [bs_bad hd (.inl h62), if_pos hd]
              · rw [bs_good3 hd (by omega), if_neg hd, brun_eq r (i + 4) _ (by omega)]
                have e : ((((0 * 64 + wv a) * 64 + wv b) * 64 + wv c) * 64 + wv d) / 65536 % 256 = wv a * 4 + wv b / 16 := by omega
                have e2 : ((((0 * 64 + wv a) * 64 + wv b) * 64 + wv c) * 64 + wv d) / 256 % 256 = wv b % 16 * 16 + wv c / 4 := by omega
                have e3 : ((((0 * 64 + wv a) * 64 + wv b) * 64 + wv c) * 64 + wv d) % 256 = wv c % 4 * 64 + wv d := by omega
                rw [e, e2, e3]

/-- the reference's test of one place -/
def fitsAt (xs : List Int) (i : Nat) : Bool :=
  if 4 ≤ i ∧ xs.getD (i - i % 4 - 1) 0 = 61 then false
  else if xs.getD i 0 ≠ 61 then decide (0 ≤ wv (xs.getD i 0) ∧ (i % 4 ≠ 3 ∨ xs.getD (i - 1) 0 ≠ 61))
  else if i % 4 = 2 then decide (Int.tmod (wv (xs.getD (i - 1) 0)) 16 = 0)
  else if i % 4 = 3 then decide (xs.getD (i - 1) 0 = 61 ∨ Int.tmod (wv (xs.getD (i - 1) 0)) 4 = 0)
  else false
def fscan (xs : List Int) : Nat → Nat → Option Nat
  | 0, _ => none
  | d + 1, i => if fitsAt xs i then fscan xs d (i + 1) else some i
def rdec : List Int → List Int → List Int
  | a :: b :: c :: d :: r, out =>
    rdec r (out ++ [(wv a * 262144 + wv b * 4096) / 65536] ++ (if c ≠ 61 then [(wv a * 262144 + wv b * 4096 + wv c * 64) / 256 % 256] else []) ++ (if d ≠ 61 then [((if c ≠ 61 then wv a * 262144 + wv b * 4096 + wv c * 64 else wv a * 262144 + wv b * 4096) + wv d) % 256] else []))
  | _, out => out

theorem fits_early {xs : List Int} {i k : Nat} (h : i % 4 = 0) (hl : i = 0 ∨ xs.getD (i - 1) 0 ≠ 61) (hk : k < 2) : fitsAt xs (i + k) = decide (0 ≤ wv (xs.getD (i + k) 0)) := by
  unfold fitsAt
  have e : i + k - (i + k) % 4 - 1 = i - 1 := by omega
  rw [e, if_neg (by rintro ⟨h1, h2⟩; rcases hl with h3 | h3; omega; exact h3 h2)]
  by_cases h61 : xs.getD (i + k) 0 = 61
  · rw [ife h61, if_neg (by omega), if_neg (by omega), h61]; decide
  · rw [if_pos h61]
    exact decide_eq_decide.2 ⟨fun h => h.1, fun h2 => ⟨h2, .inl (by omega)⟩⟩
theorem fits_2 {xs : List Int} {i : Nat} (h : i % 4 = 0) (hl : i = 0 ∨ xs.getD (i - 1) 0 ≠ 61) : fitsAt xs (i + 2) = if xs.getD (i + 2) 0 ≠ 61 then decide (0 ≤ wv (xs.getD (i + 2) 0)) else decide (Int.tmod (wv (xs.getD (i + 1) 0)) 16 = 0) := by
  unfold fitsAt
  have e : i + 2 - (i + 2) % 4 - 1 = i - 1 := by omega
  have e2 : i + 2 - 1 = i + 1 := by omega
  rw [e, e2, if_neg (by rintro ⟨h1, h2⟩; rcases hl with h3 | h3; omega; exact h3 h2)]
  by_cases h61 : xs.getD (i + 2) 0 = 61
  · rw [ife h61, ife h61, if_pos (by omega)]
  · rw [if_pos h61, if_pos h61]
    exact decide_eq_decide.2 ⟨fun h => h.1, fun h2 => ⟨h2, .inl (by omega)⟩⟩
theorem fits_3 {xs : List Int} {i : Nat} (h : i % 4 = 0) (hl : i = 0 ∨ xs.getD (i - 1) 0 ≠ 61) : fitsAt xs (i + 3) = if xs.getD (i + 3) 0 ≠ 61 then decide (0 ≤ wv (xs.getD (i + 3) 0) ∧ xs.getD (i + 2) 0 ≠ 61) else decide (xs.getD (i + 2) 0 = 61 ∨ Int.tmod (wv (xs.getD (i + 2) 0)) 4 = 0) := by
  unfold fitsAt
  have e : i + 3 - (i + 3) % 4 - 1 = i - 1 := by omega
  have e2 : i + 3 - 1 = i + 2 := by omega
  rw [e, e2, if_neg (by rintro ⟨h1, h2⟩; rcases hl with h3 | h3; omega; exact h3 h2)]
  by_cases h61 : xs.getD (i + 3) 0 = 61
  · rw [ife h61, ife h61, if_neg (by omega), if_pos (by omega)]
  · rw [if_pos h61, if_pos h61]
    exact decide_eq_decide.2 ⟨fun h => ⟨h.1, h.2.resolve_left (by omega)⟩, fun h2 => ⟨h2.1, .inr h2.2⟩⟩
theorem fits_end {xs : List Int} {i : Nat} (h : i % 4 = 0) (h4 : 4 ≤ i) (hl : xs.getD (i - 1) 0 = 61) : fitsAt xs i = false := by
  unfold fitsAt
  have e : i - i % 4 - 1 = i - 1 := by omega
  rw [e, if_pos ⟨h4, hl⟩]

theorem fscan_bad {xs : List Int} {d i : Nat} (h : fitsAt xs i = false) : fscan xs (d + 1) i = some i := by
  simp only [fscan]; rw [if_neg (by rw [h]; decide)]
theorem fscan_good {xs : List Int} {d i : Nat} (h : fitsAt xs i = true) : fscan xs (d + 1) i = fscan xs d (i + 1) := by
  simp only [fscan]; rw [if_pos h]

theorem fscan_le (xs : List Int) : ∀ (d i j : Nat), fscan xs d i = some j → i ≤ j ∧ j < i + d
  | 0, i, j, h => by cases h
  | d + 1, i, j, h => by
    simp only [fscan] at h
    split at h
    · have := fscan_le xs d (i + 1) j h; omega
    · cases h; omega

theorem fromB_scan (xs : List Int) : ∀ (r : List Int) (i : Nat) (out : List Int), i % 4 = 0 → (i = 0 ∨ xs.getD (i - 1) 0 ≠ 61) → (∀ k, k < r.length → xs.getD (i + k) 0 = r.getD k 0) →
    fromB r i out = match fscan xs r.length i with
      | some j => .error j
      | none => if r.length % 4 = 0 then .ok (rdec r out) else .error (i + r.length)
  | [], i, out, h, hl, hr => rfl
  | [a], i, out, h, hl, hr => by
    have r0 : xs.getD (i + 0) 0 = a := hr 0 (by simp)
    have f0 := fits_early (k := 0) h hl (by omega)
    rw [r0, Nat.add_zero] at f0
    show (_ : Except Nat (List Int)) = match fscan xs 1 i with | some j => .error j | none => if 1 % 4 = 0 then .ok (rdec [a] out) else .error (i + 1)
    simp only [fromB]
    by_cases ha : wv a < 0
    · rw [if_pos ha, fscan_bad (by rw [f0]; simp; omega)]
    · rw [if_neg ha, fscan_good (by rw [f0]; simp; omega)]; rfl
  | [a, b], i, out, h, hl, hr => by
    have r0 : xs.getD (i + 0) 0 = a := hr 0 (by simp)
    have r1 : xs.getD (i + 1) 0 = b := hr 1 (by simp)
    have f0 := fits_early (k := 0) h hl (by omega)
    rw [r0, Nat.add_zero] at f0
    have f1 := fits_early (k := 1) h hl (by omega)
    rw [r1] at f1
    show (_ : Except Nat (List Int)) = match fscan xs 2 i with | some j => .error j | none => if 2 % 4 = 0 then .ok (rdec [a, b] out) else .error (i + 2)
    simp only [fromB]
    by_cases ha : wv a < 0
    · rw [if_pos ha, fscan_bad (by rw [f0]; simp; omega)]
    · rw [if_neg ha, fscan_good (by rw [f0]; simp; omega)]
      by_cases hb : wv b < 0
      · rw [if_pos hb, fscan_bad (by rw [f1]; simp; omega)]
      · rw [if_neg hb, fscan_good (by rw [f1]; simp; omega)]; rfl
  | [a, b, c], i, out, h, hl, hr => by
    have r0 : xs.getD (i + 0) 0 = a := hr 0 (by simp)
    have r1 : xs.getD (i + 1) 0 = b := hr 1 (by simp)
    have r2 : xs.getD (i + 2) 0 = c := hr 2 (by simp)
    have f0 := fits_early (k := 0) h hl (by omega)
    rw [r0, Nat.add_zero] at f0
    have f1 := fits_early (k := 1) h hl (by omega)
    rw [r1] at f1
    have f2 := fits_2 h hl
    rw [r1, r2] at f2
    have f2 : fitsAt xs (i + 1 + 1) = _ := f2
    show (_ : Except Nat (List Int)) = match fscan xs 3 i with | some j => .error j | none => if 3 % 4 = 0 then .ok (rdec [a, b, c] out) else .error (i + 3)
    simp only [fromB]
    by_cases ha : wv a < 0
    · rw [if_pos ha, fscan_bad (by rw [f0]; simp; omega)]
    · rw [if_neg ha, fscan_good (by rw [f0]; simp; omega)]
      by_cases hb : wv b < 0
      · rw [if_pos hb, fscan_bad (by rw [f1]; simp; omega)]
      · rw [if_neg hb, fscan_good (by rw [f1]; simp; omega)]
        have tb : Int.tmod (wv b) 16 = wv b % 16 := Int.tmod_eq_emod_of_nonneg (by omega)
        by_cases h61 : c = 61
        · rw [if_pos h61]
          rw [ife h61, tb] at f2
          by_cases hm : wv b % 16 = 0
          · rw [if_pos hm, fscan_good (by rw [f2]; simp; omega)]; rfl
          · rw [if_neg hm, fscan_bad (by rw [f2]; simp; omega)]
        · rw [if_neg h61]
          rw [if_pos h61] at f2
          by_cases hc : wv c < 0
          · rw [if_pos hc, fscan_bad (by rw [f2]; simp; omega)]
          · rw [if_neg hc, fscan_good (by rw [f2]; simp; omega)]; rfl
  | a :: b :: c :: d :: r, i, out, h, hl, hr => by
    have r0 : xs.getD (i + 0) 0 = a := hr 0 (by simp)
    have r1 : xs.getD (i + 1) 0 = b := hr 1 (by simp)
    have r2 : xs.getD (i + 2) 0 = c := hr 2 (by simp)
    have r3 : xs.getD (i + 3) 0 = d := hr 3 (by simp)
    have f0 := fits_early (k := 0) h hl (by omega)
    rw [r0, Nat.add_zero] at f0
    have f1 := fits_early (k := 1) h hl (by omega)
    rw [r1] at f1
    have f2 := fits_2 h hl
    rw [r1, r2] at f2
    have f2 : fitsAt xs (i + 1 + 1) = _ := f2
    have f3 := fits_3 h hl
    rw [r2, r3] at f3
    have f3 : fitsAt xs (i + 1 + 1 + 1) = _ := f3
    have hn : (a :: b :: c :: d :: r).length = r.length + 1 + 1 + 1 + 1 := rfl
    have hm4 : (r.length + 1 + 1 + 1 + 1) % 4 = r.length % 4 := by omega
    have hr4 : ∀ k, k < r.length → xs.getD (i + 4 + k) 0 = r.getD k 0 := fun k hk => by
      have := hr (k + 4) (by rw [hn]; omega)
      rw [show i + (k + 4) = i + 4 + k from by omega] at this
      rw [this]; rfl
    rw [hn, hm4]
    simp only [fromB, rdec]
    have qa := wv_in a
    have qb := wv_in b
    have qc := wv_in c
    have qd := wv_in d
    by_cases ha : wv a < 0
    · rw [if_pos ha, fscan_bad (by rw [f0]; simp; omega)]
    · rw [if_neg ha, fscan_good (by rw [f0]; simp; omega)]
      by_cases hb : wv b < 0
      · rw [if_pos hb, fscan_bad (by rw [f1]; simp; omega)]
      · rw [if_neg hb, fscan_good (by rw [f1]; simp; omega)]
        have tb : Int.tmod (wv b) 16 = wv b % 16 := Int.tmod_eq_emod_of_nonneg (by omega)
        have e1 : (wv a * 262144 + wv b * 4096) / 65536 = wv a * 4 + wv b / 16 := by omega
        rw [e1]
        by_cases h61 : c = 61
        · rw [if_pos h61]
          rw [ife h61, tb] at f2
          rw [ife h61]
          by_cases hm : wv b % 16 = 0
          · rw [if_pos hm, fscan_good (by rw [f2]; simp; omega)]
            by_cases h62 : d = 61
            · rw [ife h62] at f3
              rw [if_pos h62, ife h62, fscan_good (by rw [f3]; simp [h61])]
              cases r with
              | nil => simp [fscan, rdec]
              | cons e r => rw [show (e :: r).length = r.length + 1 from rfl, fscan_bad (fits_end (by omega) (by omega) (by rw [show i + 1 + 1 + 1 + 1 - 1 = i + 3 from by omega, r3, h62]))]
            · rw [if_pos h62] at f3
              rw [if_neg h62, fscan_bad (by rw [f3]; simp [h61])]
          · rw [if_neg hm, fscan_bad (by rw [f2]; simp; omega)]
        · rw [if_neg h61]
          rw [if_pos h61] at f2
          by_cases hc : wv c < 0
          · rw [if_pos hc, fscan_bad (by rw [f2]; simp; omega)]
          · rw [if_neg hc, fscan_good (by rw [f2]; simp; omega)]
            have tc : Int.tmod (wv c) 4 = wv c % 4 := Int.tmod_eq_emod_of_nonneg (by omega)
            have e2 : (wv a * 262144 + wv b * 4096 + wv c * 64) / 256 % 256 = wv b % 16 * 16 + wv c / 4 := by omega
            by_cases h62 : d = 61
            · rw [ife h62, tc] at f3
              rw [if_pos h62]
              by_cases hm : wv c % 4 = 0
              · rw [if_pos hm, fscan_good (by rw [f3]; simp; omega)]
                cases r with
                | nil => simp [fscan, rdec, h61, h62, e2]
                | cons e r => rw [show (e :: r).length = r.length + 1 from rfl, fscan_bad (fits_end (by omega) (by omega) (by rw [show i + 1 + 1 + 1 + 1 - 1 = i + 3 from by omega, r3, h62]))]
              · rw [if_neg hm, fscan_bad (by rw [f3]; simp [h61]; omega)]
            · rw [if_pos h62] at f3
              rw [if_neg h62]
              by_cases hd : wv d < 0
              · rw [if_pos hd, fscan_bad (by rw [f3]; simp; omega)]
              · rw [if_neg hd, fscan_good (by rw [f3]; simp [h61]; omega)]
                have e3 : (wv a * 262144 + wv b * 4096 + wv c * 64 + wv d) % 256 = wv c % 4 * 64 + wv d := by omega
                rw [fromB_scan xs r (i + 4) _ (by omega) (.inr (by rw [show i + 4 - 1 = i + 3 from by omega, r3]; exact h62)) hr4]
                rw [if_pos h61, if_pos h62, if_pos h61, e2, e3, List.append_assoc, List.append_assoc, show i + 1 + 1 + 1 + 1 = i + 4 from rfl, show i + (r.length + 1 + 1 + 1 + 1) = i + 4 + r.length from by omega]
                rfl

theorem fromB_bad : ∀ (xs : List Int) (i j : Nat) (out : List Int), i % 4 = 0 → fromB xs i out = .error j → i ≤ j ∧ j ≤ i + xs.length
  | [], i, j, out, hi, h => by cases h
  | [a], i, j, out, hi, h => by
    simp only [fromB] at h; cases h; simp only [List.length_cons, List.length_nil]; split <;> omega
  | [a, b], i, j, out, hi, h => by
    simp only [fromB] at h; cases h; simp only [List.length_cons, List.length_nil]; split; omega; split <;> omega
  | [a, b, c], i, j, out, hi, h => by
    simp only [fromB] at h; cases h; simp only [List.length_cons, List.length_nil]; split; omega; split; omega; split; split <;> omega; split <;> omega
  | a :: b :: c :: d :: r, i, j, out, hi, h => by
    simp only [fromB] at h
    have hn : (a :: b :: c :: d :: r).length = r.length + 4 := rfl
    rw [hn]
    split at h; · cases h; omega
    split at h; · cases h; omega
    split at h
    · split at h
      · split at h
        · cases r with
          | nil => cases h
          | cons e r => cases h; simp only [List.length_cons]; omega
        · cases h; omega
      · cases h; omega
    · split at h; · cases h; omega
      split at h
      · split at h
        · cases r with
          | nil => cases h
          | cons e r => cases h; simp only [List.length_cons]; omega
        · cases h; omega
      · split at h; · cases h; omega
        have := fromB_bad r (i + 4) j _ (by omega) h; omega

theorem fromB_b64Of : ∀ (xs : List Int), (∀ x ∈ xs, InK .u8 x) → ∀ (i : Nat) (out : List Int), fromB (b64Of xs) i out = .ok (out ++ xs)
  | [], _, i, out => by simp [b64Of, fromB]
  | [a], hx, i, out => by
    have ha : 0 ≤ a ∧ a < 256 := hx a (by simp)
    obtain ⟨e1, n1, _⟩ := wv_lt (k := a / 4) (by omega)
    obtain ⟨e2, n2, _⟩ := wv_lt (k := a % 4 * 16) (by omega)
    simp only [b64Of, fromB]
    rw [e1, e2, if_neg (by omega), if_neg (by omega), if_pos trivial, if_pos (by omega), if_pos trivial]
    have : a / 4 * 4 + a % 4 * 16 / 16 = a := by omega
    rw [this]
  | [a, b], hx, i, out => by
    have ha : 0 ≤ a ∧ a < 256 := hx a (by simp)
    have hb : 0 ≤ b ∧ b < 256 := hx b (by simp)
    obtain ⟨e1, n1, _⟩ := wv_lt (k := a / 4) (by omega)
    obtain ⟨e2, n2, _⟩ := wv_lt (k := a % 4 * 16 + b / 16) (by omega)
    obtain ⟨e3, n3, _⟩ := wv_lt (k := b % 16 * 4) (by omega)
    simp only [b64Of, fromB]
    rw [e1, e2, e3, if_neg (by omega), if_neg (by omega), if_neg n3, if_neg (by omega), if_pos trivial, if_pos (by omega)]
    have f1 : a / 4 * 4 + (a % 4 * 16 + b / 16) / 16 = a := by omega
    have f2 : (a % 4 * 16 + b / 16) % 16 * 16 + b % 16 * 4 / 4 = b := by omega
    rw [f1, f2]
  | a :: b :: c :: r, hx, i, out => by
    have ha : 0 ≤ a ∧ a < 256 := hx a (by simp)
    have hb : 0 ≤ b ∧ b < 256 := hx b (by simp)
    have hc : 0 ≤ c ∧ c < 256 := hx c (by simp)
    obtain ⟨e1, n1, _⟩ := wv_lt (k := a / 4) (by omega)
    obtain ⟨e2, n2, _⟩ := wv_lt (k := a % 4 * 16 + b / 16) (by omega)
    obtain ⟨e3, n3, _⟩ := wv_lt (k := b % 16 * 4 + c / 64) (by omega)
    obtain ⟨e4, n4, _⟩ := wv_lt (k := c % 64) (by omega)
    simp only [b64Of, fromB]
    rw [e1, e2, e3, e4, if_neg (by omega), if_neg (by omega), if_neg n3, if_neg (by omega), if_neg n4, if_neg (by omega)]
    have f1 : a / 4 * 4 + (a % 4 * 16 + b / 16) / 16 = a := by omega
    have f2 : (a % 4 * 16 + b / 16) % 16 * 16 + (b % 16 * 4 + c / 64) / 4 = b := by omega
    have f3 : (b % 16 * 4 + c / 64) % 4 * 64 + c % 64 = c := by omega
    rw [f1, f2, f3, fromB_b64Of r (fun y hy => hx y (by simp [hy])), List.append_assoc]; rfl

/-- all letters where letters must be -/
def Good : List Int → Prop
  | a :: b :: c :: d :: r => 0 ≤ wv a ∧ 0 ≤ wv b ∧ (c = 61 ∨ 0 ≤ wv c) ∧ (d = 61 ∨ 0 ≤ wv d) ∧ Good r
  | _ => True

theorem fromB_good : ∀ (xs : List Int) (i : Nat) (out ys : List Int), fromB xs i out = .ok ys → Good xs ∧ ∃ zs, ys = out ++ zs ∧ b64Of zs = xs ∧ (∀ z ∈ zs, InK .u8 z) ∧ zs.length ≤ xs.length
  | [], i, out, ys, h => by cases h; exact ⟨trivial, [], by simp, rfl, (fun _ h => by cases h), Nat.le_refl _⟩
  | [a], i, out, ys, h => by cases h
  | [a, b], i, out, ys, h => by cases h
  | [a, b, c], i, out, ys, h => by cases h
  | a :: b :: c :: d :: r, i, out, ys, h => by
    simp only [fromB] at h
    have qa := wv_in a
    have qb := wv_in b
    have qc := wv_in c
    have qd := wv_in d
    split at h; · cases h
    rename_i ha
    split at h; · cases h
    rename_i hb
    split at h
    · rename_i h61
      split at h
      · rename_i hm
        split at h
        · rename_i h62
          cases r with
          | cons e r => cases h
          | nil =>
            cases h
            refine ⟨⟨by omega, by omega, .inl h61, .inl h62, trivial⟩, [wv a * 4 + wv b / 16], rfl, ?_, ?_, by simp⟩
            · simp only [b64Of]
              have f1 : (wv a * 4 + wv b / 16) / 4 = wv a := by omega
              have f2 : (wv a * 4 + wv b / 16) % 4 * 16 = wv b := by omega
              rw [f1, f2, lt_wv ha, lt_wv hb, h61, h62]
            · intro z hz
              rcases List.mem_singleton.1 hz with rfl
              show 0 ≤ _ ∧ _ < (256 : Int); omega
        · cases h
      · cases h
    · rename_i h61
      split at h; · cases h
      rename_i hc
      split at h
      · rename_i h62
        split at h
        · rename_i hm
          cases r with
          | cons e r => cases h
          | nil =>
            cases h
            refine ⟨⟨by omega, by omega, .inr (by omega), .inl h62, trivial⟩, [wv a * 4 + wv b / 16, wv b % 16 * 16 + wv c / 4], rfl, ?_, ?_, by simp⟩
            · simp only [b64Of]
              have f1 : (wv a * 4 + wv b / 16) / 4 = wv a := by omega
              have f2 : (wv a * 4 + wv b / 16) % 4 * 16 + (wv b % 16 * 16 + wv c / 4) / 16 = wv b := by omega
              have f3 : (wv b % 16 * 16 + wv c / 4) % 16 * 4 = wv c := by omega
              rw [f1, f2, f3, lt_wv ha, lt_wv hb, lt_wv hc, h62]
            · intro z hz
              simp only [List.mem_cons, List.not_mem_nil, or_false] at hz
              rcases hz with rfl | rfl
              · show 0 ≤ _ ∧ _ < (256 : Int); omega
              · show 0 ≤ _ ∧ _ < (256 : Int); omega
        · cases h
      · rename_i h62
        split at h; · cases h
        rename_i hd
        obtain ⟨g, zs, e1, e2, e3, e4⟩ := fromB_good r _ _ _ h
        refine ⟨⟨by omega, by omega, .inr (by omega), .inr (by omega), g⟩, (wv a * 4 + wv b / 16) :: (wv b % 16 * 16 + wv c / 4) :: (wv c % 4 * 64 + wv d) :: zs, by rw [e1, List.append_assoc]; rfl, ?_, ?_, by simp; omega⟩
        · simp only [b64Of]
          have f1 : (wv a * 4 + wv b / 16) / 4 = wv a := by omega
          have f2 : (wv a * 4 + wv b / 16) % 4 * 16 + (wv b % 16 * 16 + wv c / 4) / 16 = wv b := by omega
          have f3 : (wv b % 16 * 16 + wv c / 4) % 16 * 4 + (wv c % 4 * 64 + wv d) / 64 = wv c := by omega
          have f4 : (wv c % 4 * 64 + wv d) % 64 = wv d := by omega
          rw [f1, f2, f3, f4, lt_wv ha, lt_wv hb, lt_wv hc, lt_wv hd, e2]
        · intro z hz
          simp only [List.mem_cons] at hz
          rcases hz with rfl | rfl | rfl | hz
          · show 0 ≤ _ ∧ _ < (256 : Int); omega
          · show 0 ≤ _ ∧ _ < (256 : Int); omega
          · show 0 ≤ _ ∧ _ < (256 : Int); omega
          · exact e3 z hz

end Go.Sh

/- The reference's Hex. -/
set_option linter.unusedVariables false
namespace Go.Sh
open Go.Fw Go.RowKit Go.Proofs.Try

/-- some bytes more, at a slice of one's own -/
theorem push_ok {B : Nat} {w : World} {s : Sl} {xs : List Int} (ys : List Int) (hy : 0 < ys.length) (hs : ys.length ≤ 1000) (ho : Own 5 w s (ints .u8 xs)) (hl : xs.length ≤ 70368744177664) (hf : Fresh B s) (hB : B ≤ w.heap.size) :
    ∃ t w1 s2 w2, bldS prog 25 ys.length (((ints .u8 ys).zipIdx.map fun p => (p.2, p.1)).toArray) w = some (t, w1) ∧ apd prog 25 25 (.slice s.a s.len s.cap) (.slice t.a t.len t.cap) w1 = some (s2, w2) ∧ Own 5 w2 s2 (ints .u8 (xs ++ ys)) ∧ Below B w w2 ∧ Fresh B s2 := by
  have hsl : s.len = xs.length := by rw [ho.len, ints_length]
  obtain ⟨w1, h1, h2, h3, h4⟩ := bldS_ok (P := prog) sliceB (ints .u8 ys) (fun v hv => by obtain ⟨x, _, rfl⟩ := List.mem_map.1 hv; rfl) (by rw [ints_length]; exact hy) (by rw [ints_length]; omega) w
  rw [ints_length] at h1 h2
  obtain ⟨s2, w2, e1, e2, e3, e4, e5⟩ := apd_ok sliceB (ho.upd0 h3) (h2.src ints_one) (by show (s.len + ys.length) * 1 ≤ _; omega)
  refine ⟨_, w1, s2, w2, h1, e1, by rw [ints_append]; exact e3, (h3.below hB fun _ _ => id).trans (e4.below (by omega) fun k hk e => by have := hf k e; omega), ?_⟩
  intro k hk
  rcases e5 with e | e
  · exact hf k (e ▸ hk)
  · rw [e] at hk; have := Option.some.inj hk; omega

theorem refHex_loop {K B : Nat} {s : Sl} {xs : List Int} (hx : ∀ x ∈ xs, InK .u8 x) (hl : xs.length ≤ 8388608) (hb : ∀ p, s.a = some p → ints .u8 xs ≠ [] → p.block < B) :
    ∀ (d i n : Nat) (w : World) (o : Sl), i + d = xs.length → d < n → Src w s (ints .u8 xs) → Own 5 w o (ints .u8 (hexOf (xs.take i))) → Fresh B o → B ≤ w.heap.size →
      ∃ o' w', ref01_Hex_l0 K n s o (i : Int) w = some ((o', ()), w') ∧ Own 5 w' o' (ints .u8 (hexOf xs)) ∧ Below B w w' := by
  intro d
  induction d with
  | zero =>
    intro i n w o hi hn hs ho hf hB
    obtain ⟨n, rfl⟩ : ∃ m, n = m + 1 := ⟨n - 1, by omega⟩
    have hsl : s.len = xs.length := by rw [hs.len, ints_length]
    refine ⟨o, w, ?_, by rw [List.take_of_length_le (by omega)] at ho; exact ho, Below.refl B w⟩
    have eu : ref01_Hex_l0 K (n + 1) = ref01_Hex_l0_b K (ref01_Hex_l0 K n) := rfl
    rw [eu]
    unfold ref01_Hex_l0_b
    rw [hsl, if_neg (by simp; omega)]
  | succ d ih =>
    intro i n w o hi hn hs ho hf hB
    obtain ⟨n, rfl⟩ : ∃ m, n = m + 1 := ⟨n - 1, by omega⟩
    have hsl : s.len = xs.length := by rw [hs.len, ints_length]
    obtain ⟨p, hp, hld⟩ := src_ld hs (i := i) (by omega)
    have hxi : 0 ≤ xs.getD i 0 ∧ xs.getD i 0 < 256 := by
      have : xs.getD i 0 = xs[i]'(by omega) := by rw [List.getD_eq_getElem?_getD, List.getElem?_eq_getElem (by omega)]; rfl
      rw [this]; exact hx _ (List.getElem_mem _)
    have et := take_succ_getD (l := xs) (i := i) (by omega) 0
    generalize xs.getD i 0 = x at hld hxi et
    obtain ⟨v, rfl⟩ : ∃ v : Nat, x = (v : Int) := ⟨x.toNat, by omega⟩
    have hv : v < 256 := by omega
    have f1 : IntKind.u8.wrap (Int.tdiv (v : Int) 16) = ((v / 16 : Nat) : Int) := by
      rw [show (16 : Int) = ((16 : Nat) : Int) from rfl, tdiv_nat, w8 (by omega) (by omega)]
    have f2 : Int.tmod (v : Int) 16 = ((v % 16 : Nat) : Int) := by
      rw [show (16 : Int) = ((16 : Nat) : Int) from rfl, tmod_nat]
    obtain ⟨b1, s1, t1⟩ := str1_at (k := v / 16) (by omega)
    obtain ⟨b2, s2, t2⟩ := str1_at (k := v % 16) (by omega)
    have hlen := hexOf_len (xs.take i)
    rw [List.length_take] at hlen
    have hld : ldI .u8 (p.add i) w.drew = some (v : Int) := hld
    obtain ⟨t, w1, o2, w2, k1, k2, k3, k4, k5⟩ := push_ok (w := w.drew) [dig (v / 16), dig (v % 16)] (by simp) (by simp) ho.drew (by omega) hf hB
    have k1 : bldS prog 25 2 #[(0, (.int .u8 (dig (v / 16)))), (1, (.int .u8 (dig (v % 16))))] w.drew = some (t, w1) := k1
    have e1 : IntKind.i64.wrap ((i : Int) + 1) = ((i + 1 : Nat) : Int) := by rw [w64 (by omega) (by omega)]; rfl
    have e2 : hexOf (xs.take i) ++ [dig (v / 16), dig (v % 16)] = hexOf (xs.take (i + 1)) := by rw [et, hexOf_snoc, List.append_assoc]; rfl
    rw [e2] at k3
    have c2 : Below B w w2 := (Below.drew (Below.refl B w)).trans k4
    obtain ⟨o3, w3, g1, g2, g3⟩ := ih (i + 1) n w2 o2 (by omega) (by omega) (src_below hs c2 hb) k3 k5 (Nat.le_trans hB c2.size)
    refine ⟨o3, w3, ?_, g2, c2.trans g3⟩
    have eu : ref01_Hex_l0 K (n + 1) = ref01_Hex_l0_b K (ref01_Hex_l0 K n) := rfl
    have c0 : (0 : Int) ≤ (i : Int) ∧ (i : Int) < ((s.len : Nat) : Int) := by rw [hsl]; omega
    rw [eu]
    unfold ref01_Hex_l0_b
    rw [if_pos (by rw [hsl]; simp; omega), hp, Option.bind_some, if_pos c0, Option.bind_some, if_pos c0, Int.toNat_natCast, Nat.mul_one, hld, Option.bind_some, f1, if_pos (by omega), Int.toNat_natCast, s1, Option.bind_some, Option.bind_some, f2, if_pos (by omega), Int.toNat_natCast, s2, Option.bind_some, t1, t2, k1, bnd_ok, k2, bnd_ok, e1, g1]

theorem refHex_ok {K : Nat} (hK : 18446744073709551616 ≤ K) {w : World} {s : Sl} {xs : List Int} (hs : Src w s (ints .u8 xs)) (hx : ∀ x ∈ xs, InK .u8 x) (hl : xs.length ≤ 8388608) :
    ∃ w', ref01_Hex K s w = some ((bytesOf (hexOf xs), ()), w') ∧ Upd none_ w w' := by
  have hsl : s.len = xs.length := by rw [hs.len, ints_length]
  obtain ⟨o, w2, j2, o2, c2⟩ := refHex_loop (K := K) (s := s) hx hl (B := w.heap.size) (fun p hp hne => by
    rcases hs.rd with ⟨e, _⟩ | ⟨q, e, hr⟩
    · rw [e] at hp; cases hp
    · rw [e] at hp; cases hp; exact hr.lt hne) xs.length 0 K w nilS (by omega) (by omega) hs (Own.nil ..) (fun k hk => by cases hk) (Nat.le_refl _)
  have j2 : ref01_Hex_l0 K K s ⟨none, 0, 0⟩ 0 w = _ := j2
  refine ⟨w2, ?_, Upd.of_below c2⟩
  unfold ref01_Hex
  rw [hsl, if_neg (by simp; omega), j2, bnd_ok, b2s_ok o2.rd, bnd_ok]

end Go.Sh

/- FromHex, both. -/
set_option linter.unusedVariables false
namespace Go.Sh
open Go.Fw Go.RowKit Go.Proofs.Try

/-- a string's bytes as numbers -/
def bl (s : ByteArray) : List Int := s.data.toList.map fun b => ((b.toNat : Nat) : Int)
theorem bl_len (s : ByteArray) : (bl s).length = s.size := by unfold bl; rw [List.length_map]; rfl
theorem bl_in (s : ByteArray) : ∀ x ∈ bl s, InK .u8 x := by
  intro x hx
  obtain ⟨b, _, rfl⟩ := List.mem_map.1 hx
  have := b.toNat_lt
  show 0 ≤ _ ∧ _ < (256 : Int)
  omega
theorem bl_get (s : ByteArray) {i : Nat} (h : i < s.size) : ∃ b : UInt8, s[i]? = some b ∧ (bl s).drop i = ((b.toNat : Nat) : Int) :: (bl s).drop (i + 1) ∧ (bl s).getD i 0 = ((b.toNat : Nat) : Int) ∧ b.toNat < 256 := by
  have hl : i < (bl s).length := by rw [bl_len]; exact h
  have he : (bl s)[i] = (((s[i]).toNat : Nat) : Int) := (List.getElem_map ..).trans rfl
  refine ⟨s[i], getElem?_pos s i h, ?_, ?_, (s[i]).toNat_lt⟩
  · rw [List.drop_eq_getElem_cons hl, he]
  · rw [List.getD_eq_getElem?_getD, List.getElem?_eq_getElem hl, he]; rfl
theorem bl_bytesOf {xs : List Int} (h : ∀ x ∈ xs, 0 ≤ x ∧ x < 256) : bl (bytesOf xs) = xs := by
  have e : bl (bytesOf xs) = (xs.map fun n => UInt8.ofNat n.toNat).map fun b => ((b.toNat : Nat) : Int) := rfl
  rw [e, List.map_map]
  have : ∀ ys : List Int, (∀ x ∈ ys, 0 ≤ x ∧ x < 256) → ys.map ((fun b : UInt8 => ((b.toNat : Nat) : Int)) ∘ fun n : Int => UInt8.ofNat n.toNat) = ys := by
    intro ys hy
    induction ys with
    | nil => rfl
    | cons y r ih =>
      have hb := hy y (List.mem_cons_self ..)
      rw [List.map_cons, ih fun x hx => hy x (List.mem_cons_of_mem _ hx)]
      have : (((UInt8.ofNat y.toNat).toNat : Nat) : Int) = y := by rw [UInt8.toNat_ofNat']; omega
      exact congrArg (· :: r) this
  exact this xs h
theorem bytesOf_bl (s : ByteArray) : bytesOf (bl s) = s := by
  have e : bytesOf (bl s) = ⟨(((s.data.toList.map fun b => ((b.toNat : Nat) : Int)).map fun n => UInt8.ofNat n.toNat)).toArray⟩ := rfl
  rw [e, List.map_map]
  have : ∀ ys : List UInt8, ys.map ((fun n : Int => UInt8.ofNat n.toNat) ∘ fun b : UInt8 => ((b.toNat : Nat) : Int)) = ys := by
    intro ys
    induction ys with
    | nil => rfl
    | cons y r ih =>
      rw [List.map_cons, ih]
      have : UInt8.ofNat ((y.toNat : Nat) : Int).toNat = y := by rw [Int.toNat_natCast, UInt8.ofNat_toNat]
      exact congrArg (· :: r) this
  rw [this]

/-- an answer: bytes, an error's number, a place -/
def ansX (c : Int) : Except Nat (List Int) → List Int × Int × Int
  | .ok ys => (ys, 0, 0)
  | .error j => ([], c, (j : Int))

theorem hexIdx : ∀ v : Fin 256, strings_IndexByte str1 (smallC ((v.val : Nat) : Int)) = some (hv ((v.val : Nat) : Int), ()) := by decide +kernel
theorem refDigit : ∀ v : Fin 256, ref01_digit ((v.val : Nat) : Int) = some (hv ((v.val : Nat) : Int), ()) := by decide +kernel

theorem lower_ok {K : Nat} {β : Type} {c : Int} (hc : 0 ≤ c ∧ c < 256) (w : World) (k : Int × Unit → World → Option β) : (bnd (digest_FromHex_s1 K c w) fun y w3 => bnd (digest_FromHex_s2 K c y.1 w3) k) = k (smallC c, ()) w := by
  unfold digest_FromHex_s1 digest_FromHex_s2 smallC
  by_cases h1 : 65 ≤ c
  · rw [if_pos (by simp; omega), bnd_ok]
    by_cases h2 : c ≤ 70
    · dsimp only
      rw [if_pos (by simp; omega), bnd_ok, w8 (by omega) (by omega), if_pos ⟨h1, h2⟩]
    · dsimp only
      rw [if_neg (by simp; omega), bnd_ok, if_neg (by omega)]
  · rw [if_neg (by simp; omega), bnd_ok]
    dsimp only
    rw [if_neg (by simp), bnd_ok, if_neg (by omega)]

theorem own_set {w : World} {s : Sl} {xs : List Int} (h : Own 5 w s (ints .u8 xs)) {i : Nat} (hi : i < xs.length) (v : Int) :
    ∃ p w', s.a = some p ∧ ldI .u8 (p.add i) w = some (xs.getD i 0) ∧ stC (p.add i) (.int .u8 v) w = some w' ∧ Own 5 w' s (ints .u8 (xs.set i v)) ∧ Upd (fun k => s.blk = some k) w w' := by
  have hsl : s.len = xs.length := by rw [h.len, ints_length]
  obtain ⟨p, hp, hld⟩ := src_ld (h.src ints_one) hi
  obtain ⟨p', w', e1, e2, e3, e4⟩ := h.st (i := i) (by omega) (.int .u8 v)
  rw [hp] at e1
  cases e1
  rw [ints_set_] at e3
  exact ⟨p, w', hp, hld, e2, e3, e4⟩

theorem bit_in {a b : Int} (ha : 0 ≤ a ∧ a < 256) (hb : 0 ≤ b ∧ b < 256) : 0 ≤ bits .or .u8 a b ∧ bits .or .u8 a b < 256 :=
  InK.or rfl (show InK .u8 a from ha) (show InK .u8 b from hb)

theorem hex_step {K B : Nat} {s : ByteArray} (hl : s.size ≤ 16777216) :
    ∀ (d i n : Nat) (w : World) (o : Sl) (ys : List Int), i + d = s.size → d < n → ys.length = (i + 1) / 2 → Own 5 w o (ints .u8 ys) → Fresh B o → B ≤ w.heap.size →
      ∃ x w', digest_FromHex_l0 K n s o ((s.size : Nat) : Int) (i : Int) w = some (x, w') ∧ Below B w w' ∧
        ((∃ j : Nat, x = .ret (nilS, 13, (j : Int), ()) ∧ hrun ((bl s).drop i) i ys = .error j) ∨
          (∃ o' zs, x = .norm (o', ()) ∧ Own 5 w' o' (ints .u8 zs) ∧ Fresh B o' ∧ hrun ((bl s).drop i) i ys = if s.size % 2 = 0 then .ok zs else .error s.size)) := by
  intro d
  induction d with
  | zero =>
    intro i n w o ys hi hn hy ho hf hB
    obtain ⟨n, rfl⟩ : ∃ m, n = m + 1 := ⟨n - 1, by omega⟩
    have eu : digest_FromHex_l0 K (n + 1) = digest_FromHex_l0_b K (digest_FromHex_l0 K n) := rfl
    rw [eu]
    unfold digest_FromHex_l0_b
    rw [if_neg (by simp; omega)]
    refine ⟨_, w, rfl, Below.refl B w, .inr ⟨o, ys, rfl, ho, hf, ?_⟩⟩
    rw [List.drop_of_length_le (by rw [bl_len]; omega), hrun, show i = s.size by omega]
  | succ d ih =>
    intro i n w o ys hi hn hy ho hf hB
    obtain ⟨n, rfl⟩ : ∃ m, n = m + 1 := ⟨n - 1, by omega⟩
    obtain ⟨b, hb, hd, _, hlt⟩ := bl_get s (i := i) (by omega)
    have hidx := hexIdx ⟨b.toNat, hlt⟩
    dsimp only at hidx
    have hdr : hrun ((bl s).drop i) i ys = if hv ((b.toNat : Nat) : Int) < 0 then .error i else hrun ((bl s).drop (i + 1)) (i + 1) (if i % 2 = 0 then ys ++ [16 * hv ((b.toNat : Nat) : Int)] else ys.set (i / 2) (bits .or .u8 (ys.getD (i / 2) 0) (hv ((b.toNat : Nat) : Int)))) := by rw [hd, hrun]
    rw [hdr]
    have eu : digest_FromHex_l0 K (n + 1) = digest_FromHex_l0_b K (digest_FromHex_l0 K n) := rfl
    rw [eu]
    unfold digest_FromHex_l0_b
    rw [if_pos (by simp; omega), if_pos (by omega), Int.toNat_natCast, hb, Option.bind_some, lower_ok (by omega)]
    dsimp only
    rw [hidx, Option.bind_some]
    dsimp only
    have hq := hv_in ((b.toNat : Nat) : Int)
    generalize hv ((b.toNat : Nat) : Int) = h at hq
    have e1 : IntKind.i64.wrap ((i : Int) + 1) = ((i + 1 : Nat) : Int) := by rw [w64 (by omega) (by omega)]; rfl
    have e2 : Int.tmod (i : Int) 2 = ((i % 2 : Nat) : Int) := tmod_nat i 2
    have e3 : Int.tdiv (i : Int) 2 = ((i / 2 : Nat) : Int) := tdiv_nat i 2
    by_cases hh : h < 0
    · rw [if_pos (by simp; omega), if_pos hh]
      exact ⟨_, w, rfl, Below.refl B w, .inl ⟨i, rfl, rfl⟩⟩
    · rw [if_neg (by simp; omega), if_neg hh, e2]
      have e4 : IntKind.u8.wrap h = h := w8 (by omega) (by omega)
      by_cases hp : i % 2 = 0
      · rw [if_pos (by rw [hp]; rfl), if_pos hp]
        have e5 : IntKind.u8.wrap (IntKind.u8.wrap h * 2 ^ 4) = 16 * h := by rw [e4, w8 (by omega) (by omega)]; omega
        rw [e5, e1]
        obtain ⟨t, w1, o2, w2, k1, k2, k3, k4, k5⟩ := push_ok (w := w) [16 * h] (by simp) (by simp) ho (by omega) hf hB
        have k1 : bldS prog 25 1 #[(0, (.int .u8 (16 * h)))] w = some (t, w1) := k1
        obtain ⟨x, w', g1, g2, g3⟩ := ih (i + 1) n w2 o2 _ (by omega) (by omega) (by simp; omega) k3 k5 (Nat.le_trans hB k4.size)
        refine ⟨x, w', ?_, k4.trans g2, g3⟩
        rw [k1, bnd_ok, k2, bnd_ok, g1]
      · have hp1 : i % 2 = 1 := by omega
        rw [if_neg (by rw [hp1]; decide), if_neg hp]
        have hi2 : i / 2 < ys.length := by omega
        obtain ⟨p, w1, j1, j2, j3, j4, j5⟩ := own_set ho hi2 (bits .or .u8 (ys.getD (i / 2) 0) h)
        have hsl : o.len = ys.length := by rw [ho.len, ints_length]
        have e6 : IntKind.i64.wrap ((i / 2 : Nat) : Int) = ((i / 2 : Nat) : Int) := w64 (by omega) (by omega)
        have c0 : (0 : Int) ≤ ((i / 2 : Nat) : Int) ∧ ((i / 2 : Nat) : Int) < ((o.len : Nat) : Int) := by omega
        have c1 : Below B w w1 := j5.below hB fun k hk e => by have := hf k e; omega
        obtain ⟨x, w', g1, g2, g3⟩ := ih (i + 1) n w1 o _ (by omega) (by omega) (by rw [List.length_set]; omega) j4 hf (Nat.le_trans hB c1.size)
        refine ⟨x, w', ?_, c1.trans g2, g3⟩
        rw [j1, Option.bind_some, e3, e6, if_pos c0, Int.toNat_natCast, Nat.mul_one, j2, Option.bind_some, Option.bind_some, if_pos c0, e4, j3, Option.bind_some, e1, g1]

theorem FromHex_ok {K : Nat} (hK : 18446744073709551616 ≤ K) {s : ByteArray} (hl : s.size ≤ 16777216) (w : World) :
    ∃ o w', digest_FromHex K s w = some ((o, (ansX 13 (fromHex (bl s) 0 [])).2.1, (ansX 13 (fromHex (bl s) 0 [])).2.2, ()), w') ∧ Own 5 w' o (ints .u8 (ansX 13 (fromHex (bl s) 0 [])).1) ∧ Fresh w.heap.size o ∧ Below w.heap.size w w' := by
  obtain ⟨x, w', h1, h2, h3⟩ := hex_step (K := K) (B := w.heap.size) hl s.size 0 K w nilS [] (by omega) (by omega) rfl (Own.nil ..) (fun k hk => by cases hk) (Nat.le_refl _)
  have h1 : digest_FromHex_l0 K K s ⟨none, 0, 0⟩ ((s.size : Nat) : Int) 0 w = _ := h1
  rw [List.drop_zero, hrun_eq _ _ _ (by simp)] at h3
  have e2 : Int.tmod ((s.size : Nat) : Int) 2 = ((s.size % 2 : Nat) : Int) := tmod_nat s.size 2
  unfold digest_FromHex
  rw [if_neg (by simp; omega), h1, bnd_ok]
  rcases h3 with ⟨j, rfl, e⟩ | ⟨o', zs, rfl, ho, hf, e⟩
  · rw [e]
    exact ⟨nilS, w', rfl, Own.nil .., (fun k hk => by cases hk), h2⟩
  · rw [e]
    dsimp only
    rw [e2]
    by_cases hp : s.size % 2 = 0
    · rw [if_neg (by rw [hp]; decide), if_pos hp]
      exact ⟨o', w', rfl, ho, hf, h2⟩
    · have hp1 : s.size % 2 = 1 := by omega
      rw [if_pos (by rw [hp1]; decide), if_neg hp]
      exact ⟨nilS, w', rfl, Own.nil .., (fun k hk => by cases hk), h2⟩

theorem refHex_scan {K : Nat} {s : ByteArray} (hl : s.size ≤ 16777216) (w : World) :
    ∀ (d i n : Nat), i + d = s.size → d < n → ref01_FromHex_l0 K n s (i : Int) w = some (match hscan ((bl s).drop i) i with | some j => .ret (nilS, 13, ((j : Nat) : Int), ()) | none => .norm (), w) := by
  intro d
  induction d with
  | zero =>
    intro i n hi hn
    obtain ⟨n, rfl⟩ : ∃ m, n = m + 1 := ⟨n - 1, by omega⟩
    have eu : ref01_FromHex_l0 K (n + 1) = ref01_FromHex_l0_b K (ref01_FromHex_l0 K n) := rfl
    rw [eu]
    unfold ref01_FromHex_l0_b
    rw [if_neg (by simp; omega), List.drop_of_length_le (by rw [bl_len]; omega)]
    rfl
  | succ d ih =>
    intro i n hi hn
    obtain ⟨n, rfl⟩ : ∃ m, n = m + 1 := ⟨n - 1, by omega⟩
    obtain ⟨b, hb, hd, _, hlt⟩ := bl_get s (i := i) (by omega)
    have hidx := refDigit ⟨b.toNat, hlt⟩
    dsimp only at hidx
    have e1 : IntKind.i64.wrap ((i : Int) + 1) = ((i + 1 : Nat) : Int) := by rw [w64 (by omega) (by omega)]; rfl
    have eu : ref01_FromHex_l0 K (n + 1) = ref01_FromHex_l0_b K (ref01_FromHex_l0 K n) := rfl
    rw [eu, hd]
    unfold ref01_FromHex_l0_b
    rw [if_pos (by simp; omega), if_pos (by omega), Int.toNat_natCast, hb, Option.bind_some, hidx, Option.bind_some, hscan]
    dsimp only
    by_cases hh : hv ((b.toNat : Nat) : Int) < 0
    · rw [if_pos (by simp; omega), if_pos hh]
    · rw [if_neg (by simp; omega), if_neg hh, e1, ih (i + 1) n (by omega) (by omega)]

theorem hscan_none : ∀ (xs : List Int) (i : Nat), hscan xs i = none → ∀ x ∈ xs, 0 ≤ hv x
  | [], _, _, x, hx => by cases hx
  | c :: r, i, h, x, hx => by
    simp only [hscan] at h
    split at h
    · cases h
    · rcases List.mem_cons.1 hx with rfl | hx
      · omega
      · exact hscan_none r (i + 1) h x hx

theorem refHex_pairs {K B : Nat} {s : ByteArray} (hl : s.size ≤ 16777216) (hg : ∀ x ∈ bl s, 0 ≤ hv x) :
    ∀ (d i n : Nat) (w : World) (o : Sl) (ys : List Int), i + 2 * d = s.size → d < n → ys.length ≤ i → Own 5 w o (ints .u8 ys) → Fresh B o → B ≤ w.heap.size →
      ∃ o' w', ref01_FromHex_l1 K n s o (i : Int) w = some ((o', ()), w') ∧ Own 5 w' o' (ints .u8 (pairs ((bl s).drop i) ys)) ∧ Fresh B o' ∧ Below B w w' := by
  intro d
  induction d with
  | zero =>
    intro i n w o ys hi hn hy ho hf hB
    obtain ⟨n, rfl⟩ : ∃ m, n = m + 1 := ⟨n - 1, by omega⟩
    have eu : ref01_FromHex_l1 K (n + 1) = ref01_FromHex_l1_b K (ref01_FromHex_l1 K n) := rfl
    rw [eu]
    unfold ref01_FromHex_l1_b
    rw [if_neg (by simp; omega), List.drop_of_length_le (by rw [bl_len]; omega)]
    exact ⟨o, w, rfl, ho, hf, Below.refl B w⟩
  | succ d ih =>
    intro i n w o ys hi hn hy ho hf hB
    obtain ⟨n, rfl⟩ : ∃ m, n = m + 1 := ⟨n - 1, by omega⟩
    obtain ⟨a, ha, hda, _, hlta⟩ := bl_get s (i := i) (by omega)
    obtain ⟨b, hb, hdb, _, hltb⟩ := bl_get s (i := i + 1) (by omega)
    have ia := refDigit ⟨a.toNat, hlta⟩
    have ib := refDigit ⟨b.toNat, hltb⟩
    dsimp only at ia ib
    have ga := hg ((a.toNat : Nat) : Int) (by rw [← List.take_append_drop i (bl s), hda]; simp)
    have gb := hg ((b.toNat : Nat) : Int) (by rw [← List.take_append_drop i (bl s), hda, hdb]; simp)
    have qa := hv_in ((a.toNat : Nat) : Int)
    have qb := hv_in ((b.toNat : Nat) : Int)
    rw [hda, hdb, pairs]
    generalize hv ((a.toNat : Nat) : Int) = x at ia ga qa
    generalize hv ((b.toNat : Nat) : Int) = y at ib gb qb
    have e1 : IntKind.i64.wrap ((i : Int) + 1) = ((i + 1 : Nat) : Int) := by rw [w64 (by omega) (by omega)]; rfl
    have e2 : IntKind.i64.wrap ((i : Int) + 2) = ((i + 2 : Nat) : Int) := by rw [w64 (by omega) (by omega)]; rfl
    have e3 : IntKind.u8.wrap (IntKind.i64.wrap ((IntKind.i64.wrap (16 * x)) + y)) = 16 * x + y := by
      rw [w64 (n := 16 * x) (by omega) (by omega), w64 (by omega) (by omega), w8 (by omega) (by omega)]
    obtain ⟨t, w1, o2, w2, k1, k2, k3, k4, k5⟩ := push_ok (w := w.drew) [16 * x + y] (by simp) (by simp) ho.drew (by omega) hf hB
    have k1 : bldS prog 25 1 #[(0, (.int .u8 (16 * x + y)))] w.drew = some (t, w1) := k1
    obtain ⟨o3, w', g1, g2, g3, g4⟩ := ih (i + 2) n w2 o2 _ (by omega) (by omega) (by rw [List.length_append, List.length_singleton]; omega) k3 k5 (Nat.le_trans hB k4.size)
    refine ⟨o3, w', ?_, g2, g3, ((Below.drew (Below.refl B w)).trans k4).trans g4⟩
    have eu : ref01_FromHex_l1 K (n + 1) = ref01_FromHex_l1_b K (ref01_FromHex_l1 K n) := rfl
    rw [eu]
    unfold ref01_FromHex_l1_b
    rw [if_pos (by simp; omega), if_pos (by omega), Int.toNat_natCast, ha, Option.bind_some, e1, if_pos (by omega), Int.toNat_natCast, hb, Option.bind_some, ia, Option.bind_some, ib, Option.bind_some]
    dsimp only
    rw [e3, k1, bnd_ok, k2, bnd_ok, e2, g1]

theorem refFromHex_ok {K : Nat} (hK : 18446744073709551616 ≤ K) {s : ByteArray} (hl : s.size ≤ 16777216) (w : World) :
    ∃ o w', ref01_FromHex K s w = some ((o, (ansX 13 (fromHex (bl s) 0 [])).2.1, (ansX 13 (fromHex (bl s) 0 [])).2.2, ()), w') ∧ Own 5 w' o (ints .u8 (ansX 13 (fromHex (bl s) 0 [])).1) ∧ Fresh w.heap.size o ∧ Below w.heap.size w w' := by
  have h1 : ref01_FromHex_l0 K K s 0 w = _ := refHex_scan (K := K) hl w s.size 0 K (by omega) (by omega)
  rw [List.drop_zero] at h1
  have hfs := fromHex_scan (bl s) 0 []
  have e2 : Int.tmod ((s.size : Nat) : Int) 2 = ((s.size % 2 : Nat) : Int) := tmod_nat s.size 2
  unfold ref01_FromHex
  rw [if_neg (by simp; omega), h1, bnd_ok]
  cases hsc : hscan (bl s) 0 with
  | some j =>
    rw [hsc] at hfs
    rw [hfs]
    exact ⟨nilS, w, rfl, Own.nil .., (fun k hk => by cases hk), Below.refl _ w⟩
  | none =>
    rw [hsc, bl_len, Nat.zero_add] at hfs
    dsimp only at hfs ⊢
    rw [e2, hfs]
    by_cases hp : s.size % 2 = 1
    · rw [if_pos (by rw [hp]; rfl), if_pos hp]
      exact ⟨nilS, w, rfl, Own.nil .., (fun k hk => by cases hk), Below.refl _ w⟩
    · rw [if_neg (by rw [show s.size % 2 = 0 by omega]; decide), if_neg hp]
      obtain ⟨o, w', g1, g2, g3, g4⟩ := refHex_pairs (K := K) (B := w.heap.size) hl (hscan_none _ _ hsc) (s.size / 2) 0 K w nilS [] (by omega) (by omega) (by simp) (Own.nil ..) (fun k hk => by cases hk) (Nat.le_refl _)
      have g1 : ref01_FromHex_l1 K K s ⟨none, 0, 0⟩ 0 w = _ := g1
      rw [List.drop_zero] at g2
      rw [g1, bnd_ok]
      exact ⟨o, w', rfl, g2, g3, g4⟩

end Go.Sh

/- FromBase64, both. -/
set_option linter.unusedVariables false
namespace Go.Sh
open Go.Fw Go.RowKit Go.Proofs.Try

theorem b64Idx : ∀ v : Fin 256, digest_worth ((v.val : Nat) : Int) = some (if wv ((v.val : Nat) : Int) < 0 then 64 else wv ((v.val : Nat) : Int), ()) := by decide +kernel
theorem refWorth : ∀ v : Fin 256, ref01_worth ((v.val : Nat) : Int) = some (wv ((v.val : Nat) : Int), ()) := by decide +kernel
theorem and63 : ∀ v : Fin 65, bits .and .u8 ((v.val : Nat) : Int) 63 = ((v.val % 64 : Nat) : Int) := by decide +kernel

theorem or_u64 {a : Nat} (h : a < 72057594037927936) (i : Nat) (hi : i ≤ 6) {b : Nat} (hb : b < 2 ^ i) : bits .or .u64 (((a * 2 ^ i : Nat)) : Int) (b : Int) = ((a * 2 ^ i + b : Nat) : Int) := by
  have h1 : 2 ^ i ≤ 64 := Nat.le_trans (Nat.pow_le_pow_right (by decide) hi) (by decide)
  have h2 : a * 2 ^ i < 2 ^ IntKind.u64.bits := Nat.lt_of_le_of_lt (Nat.mul_le_mul_left a h1) (by show _ < 18446744073709551616; omega)
  rw [(bits_nats (k := .u64) rfl h2 (by show _ < 18446744073709551616; omega)).2.1]
  rw [← Nat.shiftLeft_eq, Nat.shiftLeft_add_eq_or_of_lt hb]
theorem and_u64 {n i : Nat} (h : n < 18446744073709551616) (hi : i < 64) : bits .and .u64 (n : Int) (((2 ^ i - 1 : Nat)) : Int) = ((n % 2 ^ i : Nat) : Int) := by
  have h2 : 2 ^ i ≤ 2 ^ 63 := Nat.pow_le_pow_right (by decide) (by omega)
  rw [(bits_nats (k := .u64) rfl (show n < 2 ^ IntKind.u64.bits from h) (by show _ < 18446744073709551616; omega)).1, Nat.and_two_pow_sub_one_eq_mod]

/-- one letter more -/
theorem shl6 {v x : Int} (hv : 0 ≤ v ∧ v < 262144) (hx : 0 ≤ x ∧ x < 64) : bits .or .u64 (IntKind.u64.wrap (v * 2 ^ 6)) (IntKind.u64.wrap (bits .and .u8 x 63)) = v * 64 + x := by
  obtain ⟨a, rfl⟩ : ∃ a : Nat, v = (a : Int) := ⟨v.toNat, by omega⟩
  obtain ⟨b, rfl⟩ : ∃ b : Nat, x = (b : Int) := ⟨x.toNat, by omega⟩
  have e := and63 ⟨b, by omega⟩
  dsimp only at e
  have := or_u64 (a := a) (by omega) 6 (by omega) (b := b) (by omega)
  have e2 : (a : Int) * 2 ^ 6 = ((a * 2 ^ 6 : Nat) : Int) := by omega
  rw [e, Nat.mod_eq_of_lt (by omega), e2, wrap_nat (k := .u64) rfl _ (show a * 2 ^ 6 < 18446744073709551616 by omega), wrap_nat (k := .u64) rfl _ (show b < 18446744073709551616 by omega), this]; omega

/-- what one byte does, by the program -/
def bstep (k : Nat) (c : Int) (v e : Int) : Option (List Int × Int × Int) :=
  if e = 3 then none
  else if 0 < e then (if c = 61 then some ([], v, 3) else none)
  else if c ≠ 61 then
    if wv c < 0 then none
    else if k = 3 then some ([(v * 64 + wv c) / 65536 % 256, (v * 64 + wv c) / 256 % 256, (v * 64 + wv c) % 256], 0, e)
    else some ([], v * 64 + wv c, e)
  else if k = 2 ∧ v % 16 = 0 then some ([v / 16 % 256], v, 1)
  else if k = 3 ∧ v % 4 = 0 then some ([v / 1024 % 256, v / 4 % 256], v, 3)
  else none
theorem brun_step {c : Int} {r : List Int} {i : Nat} {out : List Int} {v e : Int} : brun (c :: r) i out v e = match bstep (i % 4) c v e with
    | none => .error i
    | some y => brun r (i + 1) (out ++ y.1) y.2.1 y.2.2 := by
  unfold bstep
  simp only [brun]
  split; · rfl
  split; · split <;> simp
  split
  · split; · rfl
    split <;> simp
  · split; · rfl
    split <;> rfl

/-- the state between two bytes -/
def StOk (k : Nat) (v e : Int) : Prop := 0 ≤ v ∧ v < 16777216 ∧ (e = 0 ∨ e = 1 ∨ e = 3) ∧ (e = 0 → (k = 0 → v = 0) ∧ (k = 1 → v < 64) ∧ (k = 2 → v < 4096) ∧ (k = 3 → v < 262144))
theorem bstep_ok {k : Nat} {c v e : Int} {y : List Int × Int × Int} (hk : k < 4) (h : StOk k v e) (hy : bstep k c v e = some y) : StOk ((k + 1) % 4) y.2.1 y.2.2 ∧ y.1.length ≤ 3 := by
  obtain ⟨h0, h1, h2, h3⟩ := h
  have hq := wv_in c
  unfold bstep at hy
  unfold StOk
  split at hy; · cases hy
  split at hy
  · split at hy
    · cases hy; simp; omega
    · cases hy
  · split at hy
    · split at hy; · cases hy
      have he : e = 0 := by omega
      obtain ⟨q0, q1, q2, q3⟩ := h3 he
      subst he
      split at hy
      · cases hy; simp
      · cases hy
        dsimp only
        refine ⟨⟨by omega, by omega, by omega, fun _ => ?_⟩, by simp⟩
        refine ⟨fun _ => by omega, fun _ => ?_, fun _ => ?_, fun _ => ?_⟩
        · have := q0 (by omega); omega
        · have := q1 (by omega); omega
        · have := q2 (by omega); omega
    · split at hy
      · cases hy; simp; omega
      · split at hy
        · cases hy; simp; omega
        · cases hy

theorem fdiv_nn {v : Int} (h : 0 ≤ v) (i : Nat) : Int.fdiv v (2 ^ i) = v / 2 ^ i := by
  obtain ⟨a, rfl⟩ : ∃ a : Nat, v = (a : Int) := ⟨v.toNat, by omega⟩
  rw [fdiv_pow]
  have : (2 : Int) ^ i = ((2 ^ i : Nat) : Int) := by simp
  rw [this]; rfl
theorem w8m (v : Int) : IntKind.u8.wrap v = v % 256 := by rw [IntKind.wrap_u8]

theorem b64_one {K B : Nat} {w : World} {o : Sl} {ys : List Int} {k : Nat} {v e : Int} {c : Nat} (hk : k < 4) (hc : c < 256) (hst : StOk k v e) (hy : ys.length ≤ 70368744177664) (ho : Own 5 w o (ints .u8 ys)) (hf : Fresh B o) (hB : B ≤ w.heap.size) :
    ∃ o' v' e' bad w', digest_FromBase64_s1 K o v e (c : Int) (k : Int) false w = some ((o', v', e', bad, ()), w') ∧ Below B w w' ∧
      match bstep k (c : Int) v e with
      | none => bad = true
      | some y => bad = false ∧ v' = y.2.1 ∧ e' = y.2.2 ∧ Own 5 w' o' (ints .u8 (ys ++ y.1)) ∧ Fresh B o' := by
  obtain ⟨h0, h1, h2, h3⟩ := hst
  unfold digest_FromBase64_s1 bstep
  by_cases e3 : e = 3
  · rw [if_pos (by rw [e3]; rfl), if_pos e3]
    exact ⟨_, _, _, _, w, rfl, Below.refl B w, rfl⟩
  · rw [if_neg (by simpa using e3), if_neg e3]
    by_cases e1 : 0 < e
    · rw [if_pos (by simpa using e1), if_pos e1]
      refine ⟨_, _, _, _, w, rfl, Below.refl B w, ?_⟩
      by_cases hc61 : (c : Int) = 61
      · rw [if_pos hc61, hc61]
        exact ⟨rfl, rfl, rfl, by rw [List.append_nil]; exact ho, hf⟩
      · rw [if_neg hc61]
        show ((c : Int) != 61) = true
        simpa using hc61
    · rw [if_neg (by simpa using e1), if_neg e1]
      have he : e = 0 := by omega
      obtain ⟨q0, q1, q2, q3⟩ := h3 he
      have hvs : 0 ≤ v ∧ v < 262144 := by
        refine ⟨h0, ?_⟩
        rcases (show k = 0 ∨ k = 1 ∨ k = 2 ∨ k = 3 by omega) with r | r | r | r
        · have := q0 r; omega
        · have := q1 r; omega
        · have := q2 r; omega
        · exact q3 r
      have hw := b64Idx ⟨c, hc⟩
      dsimp only at hw
      by_cases hc61 : (c : Int) = 61
      · rw [if_neg (by rw [hc61]; decide), ife hc61]
        have s2 : digest_FromBase64_s2 K v (k : Int) w = some ((decide (k = 2 ∧ v % 16 = 0), ()), w) := by
          unfold digest_FromBase64_s2
          by_cases k2 : k = 2
          · have : bits .and .u64 v 15 = v % 16 := by
              obtain ⟨a, rfl⟩ : ∃ a : Nat, v = (a : Int) := ⟨v.toNat, by omega⟩
              exact and_u64 (i := 4) (by omega) (by omega)
            rw [if_pos (by rw [k2]; rfl), this]
            by_cases hm : v % 16 = 0 <;> simp [k2, hm]
          · rw [if_neg (by simp; omega)]; simp [k2]
        have s3 : digest_FromBase64_s3 K v (k : Int) w = some ((decide (k = 3 ∧ v % 4 = 0), ()), w) := by
          unfold digest_FromBase64_s3
          by_cases k3 : k = 3
          · have : bits .and .u64 v 3 = v % 4 := by
              obtain ⟨a, rfl⟩ : ∃ a : Nat, v = (a : Int) := ⟨v.toNat, by omega⟩
              exact and_u64 (i := 2) (by omega) (by omega)
            rw [if_pos (by rw [k3]; rfl), this]
            by_cases hm : v % 4 = 0 <;> simp [k3, hm]
          · rw [if_neg (by simp; omega)]; simp [k3]
        rw [s2, bnd_ok]
        dsimp only
        by_cases k2 : k = 2 ∧ v % 16 = 0
        · rw [if_pos (by simpa using k2), if_pos k2]
          obtain ⟨t, w1, o2, w2, j1, j2, j3, j4, j5⟩ := push_ok (w := w) [v / 16 % 256] (by simp) (by simp) ho hy hf hB
          have e4 : IntKind.u8.wrap (Int.fdiv v (2 ^ 4)) = v / 16 % 256 := by rw [fdiv_nn h0, w8m]; rfl
          have j1 : bldS prog 25 1 #[(0, (.int .u8 (v / 16 % 256)))] w = some (t, w1) := j1
          rw [e4, j1, bnd_ok, j2, bnd_ok]
          exact ⟨_, _, _, _, w2, rfl, j4, rfl, rfl, rfl, j3, j5⟩
        · rw [if_neg (by simpa using k2), if_neg k2, s3, bnd_ok]
          dsimp only
          by_cases k3 : k = 3 ∧ v % 4 = 0
          · rw [if_pos (by simpa using k3), if_pos k3]
            obtain ⟨t, w1, o2, w2, j1, j2, j3, j4, j5⟩ := push_ok (w := w) [v / 1024 % 256, v / 4 % 256] (by simp) (by simp) ho hy hf hB
            have e4 : IntKind.u8.wrap (Int.fdiv v (2 ^ 10)) = v / 1024 % 256 := by rw [fdiv_nn h0, w8m]; rfl
            have e5 : IntKind.u8.wrap (Int.fdiv v (2 ^ 2)) = v / 4 % 256 := by rw [fdiv_nn h0, w8m]; rfl
            have j1 : bldS prog 25 2 #[(0, (.int .u8 (v / 1024 % 256))), (1, (.int .u8 (v / 4 % 256)))] w = some (t, w1) := j1
            rw [e4, e5, j1, bnd_ok, j2, bnd_ok]
            exact ⟨_, _, _, _, w2, rfl, j4, rfl, rfl, rfl, j3, j5⟩
          · rw [if_neg (by simpa using k3), if_neg k3]
            exact ⟨_, _, _, _, w, rfl, Below.refl B w, rfl⟩
      · rw [if_pos (by simpa using hc61), if_pos hc61, hw, Option.bind_some, Option.bind_some]
        dsimp only
        by_cases hbad : wv (c : Int) < 0
        · rw [if_pos hbad, if_pos hbad]
          by_cases k3 : (k : Int) = 3
          · rw [if_pos (by rw [k3]; rfl)]
            generalize bits .or .u64 (IntKind.u64.wrap (v * 2 ^ 6)) (IntKind.u64.wrap (bits .and .u8 64 63)) = z
            obtain ⟨t, w1, o2, w2, j1, j2, j3, j4, j5⟩ := push_ok (w := w) [IntKind.u8.wrap (Int.fdiv z (2 ^ 16)), IntKind.u8.wrap (Int.fdiv z (2 ^ 8)), IntKind.u8.wrap z] (by simp) (by simp) ho hy hf hB
            have j1 : bldS prog 25 3 #[(0, (.int .u8 (IntKind.u8.wrap (Int.fdiv z (2 ^ 16))))), (1, (.int .u8 (IntKind.u8.wrap (Int.fdiv z (2 ^ 8))))), (2, (.int .u8 (IntKind.u8.wrap z)))] w = some (t, w1) := j1
            rw [j1, bnd_ok, j2, bnd_ok]
            exact ⟨_, _, _, _, w2, rfl, j4, rfl⟩
          · rw [if_neg (by simpa using k3)]
            exact ⟨_, _, _, _, w, rfl, Below.refl B w, rfl⟩
        · rw [if_neg hbad, if_neg hbad]
          have hq := wv_in (c : Int)
          rw [shl6 hvs (by omega)]
          have n64 : (wv (c : Int) == 64) = false := by
            have : wv (c : Int) ≠ 64 := by omega
            simpa using this
          rw [n64]
          generalize wv (c : Int) = x at hq hbad
          by_cases k3 : k = 3
          · rw [if_pos (by rw [k3]; rfl), if_pos k3]
            obtain ⟨t, w1, o2, w2, j1, j2, j3, j4, j5⟩ := push_ok (w := w) [(v * 64 + x) / 65536 % 256, (v * 64 + x) / 256 % 256, (v * 64 + x) % 256] (by simp) (by simp) ho hy hf hB
            have e4 : IntKind.u8.wrap (Int.fdiv (v * 64 + x) (2 ^ 16)) = (v * 64 + x) / 65536 % 256 := by rw [fdiv_nn (by omega), w8m]; rfl
            have e5 : IntKind.u8.wrap (Int.fdiv (v * 64 + x) (2 ^ 8)) = (v * 64 + x) / 256 % 256 := by rw [fdiv_nn (by omega), w8m]; rfl
            have j1 : bldS prog 25 3 #[(0, (.int .u8 ((v * 64 + x) / 65536 % 256))), (1, (.int .u8 ((v * 64 + x) / 256 % 256))), (2, (.int .u8 ((v * 64 + x) % 256)))] w = some (t, w1) := j1
            rw [e4, e5, w8m, j1, bnd_ok, j2, bnd_ok]
            exact ⟨_, _, _, _, w2, rfl, j4, rfl, rfl, rfl, j3, j5⟩
          · rw [if_neg (by simp; omega), if_neg k3]
            exact ⟨_, _, _, _, w, rfl, Below.refl B w, rfl, rfl, rfl, by rw [List.append_nil]; exact ho, hf⟩

theorem b64_loop {K B : Nat} {s : ByteArray} (hl : s.size ≤ 16777216) :
    ∀ (d i n : Nat) (w : World) (o : Sl) (ys : List Int) (v e : Int), i + d = s.size → d < n → ys.length ≤ 3 * i → StOk (i % 4) v e → Own 5 w o (ints .u8 ys) → Fresh B o → B ≤ w.heap.size →
      ∃ x w', digest_FromBase64_l0 K n s o v e ((s.size : Nat) : Int) (i : Int) w = some (x, w') ∧ Below B w w' ∧
        ((∃ j : Nat, x = .ret (nilS, 14, (j : Int), ()) ∧ brun ((bl s).drop i) i ys v e = .error j) ∨
          (∃ o' zs, x = .norm (o', ()) ∧ Own 5 w' o' (ints .u8 zs) ∧ Fresh B o' ∧ brun ((bl s).drop i) i ys v e = if s.size % 4 = 0 then .ok zs else .error s.size)) := by
  intro d
  induction d with
  | zero =>
    intro i n w o ys v e hi hn hy hst ho hf hB
    obtain ⟨n, rfl⟩ : ∃ m, n = m + 1 := ⟨n - 1, by omega⟩
    have eu : digest_FromBase64_l0 K (n + 1) = digest_FromBase64_l0_b K (digest_FromBase64_l0 K n) := rfl
    rw [eu]
    unfold digest_FromBase64_l0_b
    rw [if_neg (by simp; omega)]
    refine ⟨_, w, rfl, Below.refl B w, .inr ⟨o, ys, rfl, ho, hf, ?_⟩⟩
    rw [List.drop_of_length_le (by rw [bl_len]; omega), brun, show i = s.size by omega]
  | succ d ih =>
    intro i n w o ys v e hi hn hy hst ho hf hB
    obtain ⟨n, rfl⟩ : ∃ m, n = m + 1 := ⟨n - 1, by omega⟩
    obtain ⟨b, hb, hd, _, hlt⟩ := bl_get s (i := i) (by omega)
    obtain ⟨o1, v1, e1, bad, w1, h1, h2, h3⟩ := b64_one (K := K) (B := B) (c := b.toNat) (k := i % 4) (by omega) hlt hst (by omega) ho hf hB
    have et : Int.tmod (i : Int) 4 = ((i % 4 : Nat) : Int) := tmod_nat i 4
    have ei : IntKind.i64.wrap ((i : Int) + 1) = ((i + 1 : Nat) : Int) := by rw [w64 (by omega) (by omega)]; rfl
    have eu : digest_FromBase64_l0 K (n + 1) = digest_FromBase64_l0_b K (digest_FromBase64_l0 K n) := rfl
    rw [hd, brun_step, eu]
    unfold digest_FromBase64_l0_b
    rw [if_pos (by simp; omega), if_pos (by omega), Int.toNat_natCast, hb, Option.bind_some, et, h1, bnd_ok]
    cases hs : bstep (i % 4) ((b.toNat : Nat) : Int) v e with
    | none =>
      rw [hs] at h3
      have h3 : bad = true := h3
      subst h3
      exact ⟨_, w1, rfl, h2, .inl ⟨i, rfl, rfl⟩⟩
    | some y =>
      rw [hs] at h3
      obtain ⟨rfl, rfl, rfl, ho1, hf1⟩ := h3
      obtain ⟨hst1, hy1⟩ := bstep_ok (by omega) hst hs
      obtain ⟨x, w', g1, g2, g3⟩ := ih (i + 1) n w1 o1 _ y.2.1 y.2.2 (by omega) (by omega) (by rw [List.length_append]; omega) (by rw [show (i + 1) % 4 = (i % 4 + 1) % 4 by omega]; exact hst1) ho1 hf1 (Nat.le_trans hB h2.size)
      refine ⟨x, w', ?_, h2.trans g2, g3⟩
      dsimp only
      rw [if_neg (by simp), ei, g1]

theorem FromBase64_ok {K : Nat} (hK : 18446744073709551616 ≤ K) {s : ByteArray} (hl : s.size ≤ 16777216) (w : World) :
    ∃ o w', digest_FromBase64 K s w = some ((o, (ansX 14 (fromB (bl s) 0 [])).2.1, (ansX 14 (fromB (bl s) 0 [])).2.2, ()), w') ∧ Own 5 w' o (ints .u8 (ansX 14 (fromB (bl s) 0 [])).1) ∧ Fresh w.heap.size o ∧ Below w.heap.size w w' := by
  obtain ⟨x, w', h1, h2, h3⟩ := b64_loop (K := K) (B := w.heap.size) hl s.size 0 K w nilS [] 0 0 (by omega) (by omega) (by simp) (by unfold StOk; omega) (Own.nil ..) (fun k hk => by cases hk) (Nat.le_refl _)
  have h1 : digest_FromBase64_l0 K K s ⟨none, 0, 0⟩ 0 0 ((s.size : Nat) : Int) 0 w = _ := h1
  rw [List.drop_zero, brun_eq _ _ _ (by simp)] at h3
  have e2 : Int.tmod ((s.size : Nat) : Int) 4 = ((s.size % 4 : Nat) : Int) := tmod_nat s.size 4
  unfold digest_FromBase64
  rw [if_neg (by simp; omega), h1, bnd_ok]
  rcases h3 with ⟨j, rfl, e⟩ | ⟨o', zs, rfl, ho, hf, e⟩
  · rw [e]
    exact ⟨nilS, w', rfl, Own.nil .., (fun k hk => by cases hk), h2⟩
  · rw [e]
    dsimp only
    rw [e2]
    by_cases hp : s.size % 4 = 0
    · rw [if_neg (by rw [hp]; decide), if_pos hp]
      exact ⟨o', w', rfl, ho, hf, h2⟩
    · rw [if_pos (by simp; omega), if_neg hp]
      exact ⟨nilS, w', rfl, Own.nil .., (fun k hk => by cases hk), h2⟩

theorem fits_ok {s : ByteArray} {i : Nat} (hi : i < s.size) (hl : s.size ≤ 16777216) : ref01_fits s (i : Int) = some (fitsAt (bl s) i, ()) := by
  obtain ⟨b, hb, _, hgb, hlt⟩ := bl_get s hi
  have et : Int.tmod (i : Int) 4 = ((i % 4 : Nat) : Int) := tmod_nat i 4
  unfold ref01_fits fitsAt ref01_fits_s0
  rw [et]
  by_cases hc : 4 ≤ i ∧ (bl s).getD (i - i % 4 - 1) 0 = 61
  · obtain ⟨a, ha, _, hga, hlta⟩ := bl_get s (i := i - i % 4 - 1) (by omega)
    have e1 : IntKind.i64.wrap ((IntKind.i64.wrap ((i : Int) - ((i % 4 : Nat) : Int))) - 1) = ((i - i % 4 - 1 : Nat) : Int) := by
      rw [w64 (n := (i : Int) - ((i % 4 : Nat) : Int)) (by omega) (by omega), w64 (by omega) (by omega)]; omega
    rw [if_pos hc, if_pos (by simp; omega), e1, if_pos (by omega), Int.toNat_natCast, ha, Option.bind_some, ← hga, hc.2]
    rfl
  · have h0 : (if (decide ((i : Int) ≥ 4)) = true then (if (0 : Int) ≤ (IntKind.i64.wrap ((IntKind.i64.wrap ((i : Int) - ((i % 4 : Nat) : Int))) - 1)) then ((s[(Int.toNat (IntKind.i64.wrap ((IntKind.i64.wrap ((i : Int) - ((i % 4 : Nat) : Int))) - 1)))]?).bind fun b_1 => (some (.norm ((((b_1.toNat : Nat) : Int) == 61), ())) : Option (Out (Bool × Unit) (Bool × Unit)))) else none) else (some (.norm (false, ())))) = some (.norm (false, ())) := by
      by_cases h4 : 4 ≤ i
      · obtain ⟨a, ha, _, hga, hlta⟩ := bl_get s (i := i - i % 4 - 1) (by omega)
        have e1 : IntKind.i64.wrap ((IntKind.i64.wrap ((i : Int) - ((i % 4 : Nat) : Int))) - 1) = ((i - i % 4 - 1 : Nat) : Int) := by
          rw [w64 (n := (i : Int) - ((i % 4 : Nat) : Int)) (by omega) (by omega), w64 (by omega) (by omega)]; omega
        have hn : ¬ (bl s).getD (i - i % 4 - 1) 0 = 61 := fun h => hc ⟨h4, h⟩
        rw [if_pos (by simp; omega), e1, if_pos (by omega), Int.toNat_natCast, ha, Option.bind_some, ← hga]
        have : ((bl s).getD (i - i % 4 - 1) 0 == 61) = false := by simpa using hn
        rw [this]
      · rw [if_neg (by simp; omega)]
    rw [if_neg hc, h0, Option.bind_some]
    dsimp only
    have hwb := refWorth ⟨b.toNat, hlt⟩
    dsimp only at hwb
    rw [if_neg (by simp), if_pos (by omega), Int.toNat_natCast, hb, Option.bind_some, ← hgb]
    rw [← hgb] at hwb
    by_cases h61 : (bl s).getD i 0 = 61
    · rw [if_neg (by rw [h61]; decide), ife h61]
      by_cases k2 : i % 4 = 2
      · obtain ⟨a, ha, _, hga, hlta⟩ := bl_get s (i := i - 1) (by omega)
        have hwa := refWorth ⟨a.toNat, hlta⟩
        dsimp only at hwa
        rw [← hga] at hwa
        have e1 : IntKind.i64.wrap ((i : Int) - 1) = ((i - 1 : Nat) : Int) := by rw [w64 (by omega) (by omega)]; omega
        rw [if_pos (by rw [k2]; rfl), if_pos k2, e1, if_pos (by omega), Int.toNat_natCast, ha, Option.bind_some, ← hga, hwa, Option.bind_some]
        rfl
      · rw [if_neg (by simp; omega), if_neg k2]
        by_cases k3 : i % 4 = 3
        · obtain ⟨a, ha, _, hga, hlta⟩ := bl_get s (i := i - 1) (by omega)
          have hwa := refWorth ⟨a.toNat, hlta⟩
          dsimp only at hwa
          rw [← hga] at hwa
          have e1 : IntKind.i64.wrap ((i : Int) - 1) = ((i - 1 : Nat) : Int) := by rw [w64 (by omega) (by omega)]; omega
          rw [if_pos (by rw [k3]; rfl), if_pos k3, e1, if_pos (by omega), Int.toNat_natCast, ha, Option.bind_some, ← hga]
          by_cases ha61 : (bl s).getD (i - 1) 0 = 61
          · rw [if_pos (by rw [ha61]; rfl), ha61]; rfl
          · rw [if_neg (by simpa using ha61), if_pos (by omega), Option.bind_some, ← hga, hwa, Option.bind_some]
            generalize (bl s).getD (i - 1) 0 = q at ha61 ⊢
            by_cases hm : Int.tmod (wv q) 4 = 0 <;> simp [ha61, hm]
        · rw [if_neg (by simp; omega), if_neg k3]
    · rw [if_pos (by simpa using h61), if_pos h61]
      unfold ref01_fits_s1
      rw [if_pos (by omega), Int.toNat_natCast, hb, Option.bind_some, ← hgb, hwb, Option.bind_some]
      dsimp only
      by_cases hw : 0 ≤ wv ((bl s).getD i 0)
      · rw [if_pos (by simpa using hw)]
        by_cases k3 : i % 4 = 3
        · obtain ⟨a, ha, _, hga, hlta⟩ := bl_get s (i := i - 1) (by omega)
          have e1 : IntKind.i64.wrap ((i : Int) - 1) = ((i - 1 : Nat) : Int) := by rw [w64 (by omega) (by omega)]; omega
          rw [if_neg (by rw [k3]; decide), e1, if_pos (by omega), Int.toNat_natCast, ha, Option.bind_some, ← hga]
          generalize (bl s).getD (i - 1) 0 = q
          generalize wv ((bl s).getD i 0) = u at hw
          by_cases hq : q = 61 <;> simp [hw, k3, hq]
        · rw [if_pos (by simp; omega)]
          generalize wv ((bl s).getD i 0) = u at hw
          simp [hw, k3]
      · rw [if_neg (by simpa using hw)]
        generalize wv ((bl s).getD i 0) = u at hw
        simp [hw]

theorem refB_scan {K : Nat} {s : ByteArray} (hl : s.size ≤ 16777216) (w : World) :
    ∀ (d i n : Nat), i + d = s.size → d < n → ref01_FromBase64_l0 K n s (i : Int) w = some (match fscan (bl s) d i with | some j => .ret (nilS, 14, ((j : Nat) : Int), ()) | none => .norm (), w) := by
  intro d
  induction d with
  | zero =>
    intro i n hi hn
    obtain ⟨n, rfl⟩ : ∃ m, n = m + 1 := ⟨n - 1, by omega⟩
    have eu : ref01_FromBase64_l0 K (n + 1) = ref01_FromBase64_l0_b K (ref01_FromBase64_l0 K n) := rfl
    rw [eu]
    unfold ref01_FromBase64_l0_b
    rw [if_neg (by simp; omega)]
    rfl
  | succ d ih =>
    intro i n hi hn
    obtain ⟨n, rfl⟩ : ∃ m, n = m + 1 := ⟨n - 1, by omega⟩
    have e1 : IntKind.i64.wrap ((i : Int) + 1) = ((i + 1 : Nat) : Int) := by rw [w64 (by omega) (by omega)]; rfl
    have eu : ref01_FromBase64_l0 K (n + 1) = ref01_FromBase64_l0_b K (ref01_FromBase64_l0 K n) := rfl
    rw [eu]
    unfold ref01_FromBase64_l0_b
    rw [if_pos (by simp; omega), fits_ok (by omega) hl, Option.bind_some, fscan]
    dsimp only
    cases hf : fitsAt (bl s) i with
    | false => rfl
    | true => rw [if_neg (by simp), if_pos rfl, e1, ih (i + 1) n (by omega) (by omega)]

end Go.Sh

/- Base64, both. -/
set_option linter.unusedVariables false
namespace Go.Sh
open Go.Fw Go.RowKit Go.Proofs.Try

theorem t_sizeB : (prog.info? 5).map (·.size) = some 1 := by kernel_rfl

/-- copy of bytes into a block of three -/
theorem cpy3_ok {w : World} {b : Sl} {xs : List Int} (hx : Src w b (ints .u8 xs)) {e : TypeId} {g : Nat} (hb : Bk e w g z45.toList) :
    ∃ w', cpy prog 25 25 (.slice (some ⟨g, 0, none⟩) 3 3) (.slice b.a b.len b.cap) w = some (((min xs.length 3 : Nat) : Int), w') ∧ Upd (· = g) w w' ∧
      ∀ j, j < 3 → ldI .u8 ⟨g, j, none⟩ w' = some (xs.getD j 0) := by
  have hlen := hx.len
  rw [ints_length] at hlen
  have h3 : z45.toList = [.int .u8 0, .int .u8 0, .int .u8 0] := rfl
  rcases hx.rd with ⟨h1, h2, hn⟩ | ⟨p, h1, h2⟩
  · have hxs : xs = [] := by cases xs with | nil => rfl | cons y r => cases hn
    subst hxs
    have h0 : b.len = 0 := hlen
    have hr := run_copy_nil (P := prog) w 25 25 0 5 ⟨g, 0, none⟩ 3 3 sliceB.ht (by rw [t_sizeB]; rfl)
    refine ⟨w, ?_, Upd.refl _ _, ?_⟩
    · unfold cpy
      rw [h1, h0, h2, hr]
      simp [goInt]
    · intro j hj
      refine hb.ldI ?_
      rw [h3]
      rcases (show j = 0 ∨ j = 1 ∨ j = 2 by omega) with rfl | rfl | rfl <;> rfl
  · have hmin : min b.len 3 = min xs.length 3 := by rw [hlen]
    have hr := run_copy_row (P := prog) w 25 25 0 5 g 0 3 3 p b.len b.cap z45 e ((ints .u8 xs).take (min b.len 3)) sliceB.ht t_sizeB hb (by simp [hlen])
      (fun j v hv => h2 j v (by
        rw [List.getElem?_take] at hv
        split at hv
        · exact hv
        · cases hv)) (by simp [hlen, z45]; omega) (fun v hv => hx.one v (List.mem_of_mem_take hv))
    refine ⟨w.setRow g (z45.toList.take 0 ++ (ints .u8 xs).take (min b.len 3) ++ z45.toList.drop (0 + ((ints .u8 xs).take (min b.len 3)).length)).toArray, ?_, Upd.setRow w g _, ?_⟩
    · unfold cpy
      rw [h1, hr]
      have : ((ints .u8 xs).take (min b.len 3)).length = min xs.length 3 := by simp [hlen]
      simp only [goInt, this]
    · intro j hj
      refine (hb.setRow (z45.toList.take 0 ++ (ints .u8 xs).take (min b.len 3) ++ z45.toList.drop (0 + ((ints .u8 xs).take (min b.len 3)).length)).toArray).ldI ?_
      rw [hmin, h3]
      match xs with
      | [] => rcases (show j = 0 ∨ j = 1 ∨ j = 2 by omega) with rfl | rfl | rfl <;> rfl
      | [x] => rcases (show j = 0 ∨ j = 1 ∨ j = 2 by omega) with rfl | rfl | rfl <;> rfl
      | [x, y] => rcases (show j = 0 ∨ j = 1 ∨ j = 2 by omega) with rfl | rfl | rfl <;> rfl
      | x :: y :: z :: r =>
        have e : min (x :: y :: z :: r).length 3 = 3 := by simp
        rw [e]
        rcases (show j = 0 ∨ j = 1 ∨ j = 2 by omega) with rfl | rfl | rfl <;> rfl

theorem t_add_add (p : Addr) (a b : Nat) : (p.add a).add b = p.add (a + b) := by
  unfold Addr.add
  by_cases h1 : a = 0 <;> by_cases h2 : b = 0 <;> simp [h1, h2, Nat.add_assoc]
theorem t_sla_some {p : Addr} {lo m : Nat} (h : m ≠ lo) : sla (some p) lo m 1 = some (p.add lo) := by simp [sla, h]

/-- the rest of a slice -/
theorem t_src_sub {w : World} {s : Sl} {vs : List Value} (h : Src w s vs) {lo : Nat} (h1 : lo ≤ vs.length) : Src w ⟨sla s.a lo s.cap 1, s.len - lo, s.cap - lo⟩ (vs.drop lo) := by
  have hl := h.len
  have hc := h.cap
  refine ⟨by simp; omega, by show s.len - lo ≤ s.cap - lo; omega, ?_, fun v hv => h.one v (List.mem_of_mem_drop hv)⟩
  rcases h.rd with ⟨a1, a2, a3⟩ | ⟨p, a1, a2⟩
  · left
    refine ⟨by simp [sla, a1], by show s.cap - lo = 0; omega, by rw [a3]; simp⟩
  · right
    by_cases hm : s.cap = lo
    · refine ⟨p, by simp [sla, a1, hm], fun i v hv => ?_⟩
      have : vs.drop lo = [] := List.drop_eq_nil_of_le (by omega)
      rw [this] at hv; simp at hv
    · refine ⟨p.add lo, by rw [a1, t_sla_some hm], fun i v hv => ?_⟩
      rw [t_add_add]
      rw [List.getElem?_drop] at hv
      exact a2 _ _ hv
theorem t_sla_blk {a : Option Addr} {lo m : Nat} {q : Addr} (h : sla a lo m 1 = some q) : ∃ p, a = some p ∧ q.block = p.block := by
  unfold sla at h
  split at h
  · exact ⟨q, h, rfl⟩
  · cases ha : a with
    | none => rw [ha] at h; simp at h
    | some p => rw [ha] at h; simp at h; exact ⟨p, rfl, by rw [← h]; unfold Addr.add; split <;> rfl⟩

theorem str2_fin : ∀ k : Fin 64, str2[k.val]? = some (UInt8.ofNat (lt ((k.val : Nat) : Int)).toNat) := by decide
theorem str2_at {k : Nat} (h : k < 64) : ∃ b : UInt8, str2[k]? = some b ∧ ((b.toNat : Nat) : Int) = lt (k : Int) := by
  refine ⟨_, str2_fin ⟨k, h⟩, ?_⟩
  have : ∀ k : Fin 64, (((UInt8.ofNat (lt ((k.val : Nat) : Int)).toNat).toNat : Nat) : Int) = lt ((k.val : Nat) : Int) := by decide
  exact this ⟨k, h⟩

/-- four letters of three bytes, of which n are there -/
def q4 (n v : Nat) : List Int := [lt ((v / 262144 % 64 : Nat) : Int), lt ((v / 4096 % 64 : Nat) : Int), if n < 2 then 61 else lt ((v / 64 % 64 : Nat) : Int), if n < 3 then 61 else lt ((v % 64 : Nat) : Int)]
def v3 (xs : List Int) : Nat := (xs.getD 0 0).toNat * 65536 + (xs.getD 1 0).toNat * 256 + (xs.getD 2 0).toNat
theorem b64Of_q4 : ∀ (xs : List Int), (∀ x ∈ xs, InK .u8 x) → xs ≠ [] → b64Of xs = q4 (min xs.length 3) (v3 xs) ++ b64Of (xs.drop (min xs.length 3))
  | [], _, h => (h rfl).elim
  | [a], hx, _ => by
    have ha : 0 ≤ a ∧ a < 256 := hx a (by simp)
    have e : v3 [a] = a.toNat * 65536 + 0 * 256 + 0 := rfl
    have e1 : ((v3 [a] / 262144 % 64 : Nat) : Int) = a / 4 := by omega
    have e2 : ((v3 [a] / 4096 % 64 : Nat) : Int) = a % 4 * 16 := by omega
    show _ = [lt ((v3 [a] / 262144 % 64 : Nat) : Int), lt ((v3 [a] / 4096 % 64 : Nat) : Int), 61, 61] ++ []
    rw [e1, e2]; rfl
  | [a, b], hx, _ => by
    have ha : 0 ≤ a ∧ a < 256 := hx a (by simp)
    have hb : 0 ≤ b ∧ b < 256 := hx b (by simp)
    have e : v3 [a, b] = a.toNat * 65536 + b.toNat * 256 + 0 := rfl
    have e1 : ((v3 [a, b] / 262144 % 64 : Nat) : Int) = a / 4 := by omega
    have e2 : ((v3 [a, b] / 4096 % 64 : Nat) : Int) = a % 4 * 16 + b / 16 := by omega
    have e3 : ((v3 [a, b] / 64 % 64 : Nat) : Int) = b % 16 * 4 := by omega
    show _ = [lt ((v3 [a, b] / 262144 % 64 : Nat) : Int), lt ((v3 [a, b] / 4096 % 64 : Nat) : Int), lt ((v3 [a, b] / 64 % 64 : Nat) : Int), 61] ++ []
    rw [e1, e2, e3]; rfl
  | a :: b :: c :: r, hx, _ => by
    have ha : 0 ≤ a ∧ a < 256 := hx a (by simp)
    have hb : 0 ≤ b ∧ b < 256 := hx b (by simp)
    have hc : 0 ≤ c ∧ c < 256 := hx c (by simp)
    have e : v3 (a :: b :: c :: r) = a.toNat * 65536 + b.toNat * 256 + c.toNat := rfl
    have em : min (a :: b :: c :: r).length 3 = 3 := by simp
    rw [em]
    generalize v3 (a :: b :: c :: r) = v at e
    have e1 : ((v / 262144 % 64 : Nat) : Int) = a / 4 := by omega
    have e2 : ((v / 4096 % 64 : Nat) : Int) = a % 4 * 16 + b / 16 := by omega
    have e3 : ((v / 64 % 64 : Nat) : Int) = b % 16 * 4 + c / 64 := by omega
    have e4 : ((v % 64 : Nat) : Int) = c % 64 := by omega
    show _ = [lt ((v / 262144 % 64 : Nat) : Int), lt ((v / 4096 % 64 : Nat) : Int), lt ((v / 64 % 64 : Nat) : Int), lt ((v % 64 : Nat) : Int)] ++ b64Of r
    rw [e1, e2, e3, e4]; simp only [b64Of]; rfl

theorem or_u64g {a i b : Nat} (h : a * 2 ^ i < 18446744073709551616) (hi : i < 64) (hb : b < 2 ^ i) : bits .or .u64 (((a * 2 ^ i : Nat)) : Int) (b : Int) = ((a * 2 ^ i + b : Nat) : Int) := by
  have h2 : 2 ^ i ≤ 2 ^ 63 := Nat.pow_le_pow_right (by decide) (by omega)
  rw [(bits_nats (k := .u64) rfl (show a * 2 ^ i < 2 ^ IntKind.u64.bits from h) (by show _ < 18446744073709551616; omega)).2.1]
  rw [← Nat.shiftLeft_eq, Nat.shiftLeft_add_eq_or_of_lt hb]

theorem three_or {a b c : Int} (ha : 0 ≤ a ∧ a < 256) (hb : 0 ≤ b ∧ b < 256) (hc : 0 ≤ c ∧ c < 256) : bits .or .u64 (bits .or .u64 (IntKind.u64.wrap ((IntKind.u64.wrap a) * 2 ^ 16)) (IntKind.u64.wrap ((IntKind.u64.wrap b) * 2 ^ 8))) (IntKind.u64.wrap c) = ((a.toNat * 65536 + b.toNat * 256 + c.toNat : Nat) : Int) := by
  obtain ⟨a, rfl⟩ : ∃ n : Nat, a = (n : Int) := ⟨a.toNat, by omega⟩
  obtain ⟨b, rfl⟩ : ∃ n : Nat, b = (n : Int) := ⟨b.toNat, by omega⟩
  obtain ⟨c, rfl⟩ : ∃ n : Nat, c = (n : Int) := ⟨c.toNat, by omega⟩
  have w1 : ∀ n : Nat, n < 18446744073709551616 → IntKind.u64.wrap (n : Int) = (n : Int) := fun n h => wrap_nat rfl n h
  have e1 : (a : Int) * 2 ^ 16 = ((a * 2 ^ 16 : Nat) : Int) := by omega
  have e2 : (b : Int) * 2 ^ 8 = ((b * 2 ^ 8 : Nat) : Int) := by omega
  have e3 : a * 2 ^ 16 + b * 2 ^ 8 = (a * 256 + b) * 2 ^ 8 := by omega
  rw [w1 a (by omega), w1 b (by omega), w1 c (by omega), e1, e2, w1 _ (by omega), w1 _ (by omega), or_u64g (by omega) (by omega) (by omega), e3, or_u64g (by omega) (by omega) (by omega)]
  simp only [Int.toNat_natCast]; omega

theorem quad_step {K : Nat} {s : Sl} {p : Addr} {n v i m : Nat} (hv : v < 16777216) (hi : i < 4) (w : World) :
    digest_Base64_l1 K (m + 1) s p (n : Int) (v : Int) (i : Int) w = bnd (strings_Builder_WriteByte (some p) (if n < i then 61 else lt ((v / 2 ^ (18 - 6 * i) % 64 : Nat) : Int)) w) fun _ w1 => digest_Base64_l1 K m s p (n : Int) (v : Int) ((i + 1 : Nat) : Int) w1 := by
  have e1 : IntKind.i64.wrap ((i : Int) + 1) = ((i + 1 : Nat) : Int) := by rw [w64 (by omega) (by omega)]; rfl
  have e2 : IntKind.i64.wrap (18 - (IntKind.i64.wrap (6 * (i : Int)))) = ((18 - 6 * i : Nat) : Int) := by
    rw [w64 (n := 6 * (i : Int)) (by omega) (by omega), w64 (by omega) (by omega)]; omega
  have eu : digest_Base64_l1 K (m + 1) = digest_Base64_l1_b K (digest_Base64_l1 K m) := rfl
  rw [eu]
  unfold digest_Base64_l1_b
  rw [if_pos (by simp; omega), e1]
  by_cases hn : n < i
  · rw [if_pos (by simp; omega), if_pos hn]
  · rw [if_neg (by simp; omega), if_neg hn, e2, if_pos (by omega), Int.toNat_natCast]
    have e3 : min (18 - 6 * i) IntKind.u64.bits = 18 - 6 * i := Nat.min_eq_left (by show 18 - 6 * i ≤ 64; omega)
    have e4 : bits .and .u64 (((v / 2 ^ (18 - 6 * i) : Nat)) : Int) 63 = ((v / 2 ^ (18 - 6 * i) % 64 : Nat) : Int) := and_u64 (i := 6) (by have := Nat.div_le_self v (2 ^ (18 - 6 * i)); omega) (by omega)
    rw [e3, fdiv_pow, e4, if_pos (by omega), Int.toNat_natCast]
    obtain ⟨c, c1, c2⟩ := str2_at (k := v / 2 ^ (18 - 6 * i) % 64) (by omega)
    rw [c1, Option.bind_some, c2]

theorem quad_ok {K B b : Nat} (hK : 18446744073709551616 ≤ K) {w : World} {s : Sl} {acc : List Int} {n v : Nat} (hn : 1 ≤ n) (hv : v < 16777216) (h : BAt B w b acc) (hl : acc.length ≤ 70368744177664) :
    ∃ w', digest_Base64_l1 K K s ⟨b, 0, none⟩ (n : Int) (v : Int) 0 w = some ((), w') ∧ BAt B w' b (acc ++ q4 n v) ∧ Below B w w' := by
  obtain ⟨m, rfl⟩ : ∃ m, K = m + 5 := ⟨K - 5, by omega⟩
  obtain ⟨w1, k1, B1, c1⟩ := WriteByte_ok h (if n < 0 then 61 else lt ((v / 2 ^ (18 - 6 * 0) % 64 : Nat) : Int)) (by omega)
  obtain ⟨w2, k2, B2, c2⟩ := WriteByte_ok B1 (if n < 1 then 61 else lt ((v / 2 ^ (18 - 6 * 1) % 64 : Nat) : Int)) (by simp; omega)
  obtain ⟨w3, k3, B3, c3⟩ := WriteByte_ok B2 (if n < 2 then 61 else lt ((v / 2 ^ (18 - 6 * 2) % 64 : Nat) : Int)) (by simp; omega)
  obtain ⟨w4, k4, B4, c4⟩ := WriteByte_ok B3 (if n < 3 then 61 else lt ((v / 2 ^ (18 - 6 * 3) % 64 : Nat) : Int)) (by simp; omega)
  refine ⟨w4, ?_, ?_, ((c1.trans c2).trans c3).trans c4⟩
  · have s0 := quad_step (K := m + 5) (s := s) (p := ⟨b, 0, none⟩) (n := n) (m := m + 4) hv (i := 0) (by omega) w
    have s1 := quad_step (K := m + 5) (s := s) (p := ⟨b, 0, none⟩) (n := n) (m := m + 3) hv (i := 1) (by omega) w1
    have s2 := quad_step (K := m + 5) (s := s) (p := ⟨b, 0, none⟩) (n := n) (m := m + 2) hv (i := 2) (by omega) w2
    have s3 := quad_step (K := m + 5) (s := s) (p := ⟨b, 0, none⟩) (n := n) (m := m + 1) hv (i := 3) (by omega) w3
    have e0 : digest_Base64_l1 (m + 5) (m + 5) s ⟨b, 0, none⟩ (n : Int) (v : Int) 0 w = _ := s0
    rw [e0, k1, bnd_ok, s1, k2, bnd_ok, s2, k3, bnd_ok, s3, k4, bnd_ok]
    have eu : digest_Base64_l1 (m + 5) (m + 1) = digest_Base64_l1_b (m + 5) (digest_Base64_l1 (m + 5) m) := rfl
    rw [eu]
    unfold digest_Base64_l1_b
    rw [if_neg (by decide)]
  · have e : acc ++ q4 n v = acc ++ [if n < 0 then 61 else lt ((v / 2 ^ (18 - 6 * 0) % 64 : Nat) : Int)] ++ [if n < 1 then 61 else lt ((v / 2 ^ (18 - 6 * 1) % 64 : Nat) : Int)] ++ [if n < 2 then 61 else lt ((v / 2 ^ (18 - 6 * 2) % 64 : Nat) : Int)] ++ [if n < 3 then 61 else lt ((v / 2 ^ (18 - 6 * 3) % 64 : Nat) : Int)] := by
      rw [if_neg (by omega), if_neg (by omega : ¬ n < 1)]
      simp only [q4, List.append_assoc]
      simp
    rw [e]; exact B4

end Go.Sh

/- Base64, both, whole. -/
set_option linter.unusedVariables false
namespace Go.Sh
open Go.Fw Go.RowKit Go.Proofs.Try

theorem getD_in {xs : List Int} (h : ∀ x ∈ xs, InK .u8 x) (i : Nat) : 0 ≤ xs.getD i 0 ∧ xs.getD i 0 < 256 := by
  rw [List.getD_eq_getElem?_getD]
  by_cases hi : i < xs.length
  · rw [List.getElem?_eq_getElem hi]; exact h _ (List.getElem_mem _)
  · rw [List.getElem?_eq_none (by omega)]; decide
theorem v3_lt {xs : List Int} (h : ∀ x ∈ xs, InK .u8 x) : v3 xs < 16777216 := by
  have h0 := getD_in h 0
  have h1 := getD_in h 1
  have h2 := getD_in h 2
  unfold v3; omega
theorem q4_len (n v : Nat) : (q4 n v).length = 4 := rfl
theorem q4_in (n v : Nat) : ∀ y ∈ q4 n v, 0 ≤ y ∧ y < 256 := by
  intro y hy
  simp only [q4, List.mem_cons, List.not_mem_nil, or_false] at hy
  rcases hy with rfl | rfl | rfl | rfl
  · exact (wv_lt (by omega)).2.2
  · exact (wv_lt (by omega)).2.2
  · split
    · omega
    · exact (wv_lt (by omega)).2.2
  · split
    · omega
    · exact (wv_lt (by omega)).2.2

theorem b64_outer {K B b : Nat} (hK : 18446744073709551616 ≤ K) :
    ∀ (d n : Nat) (w : World) (s : Sl) (rest acc : List Int), rest.length ≤ d → d < n → Src w s (ints .u8 rest) → (∀ x ∈ rest, InK .u8 x) → (∀ p, s.a = some p → ints .u8 rest ≠ [] → p.block < B) → BAt B w b acc → B ≤ w.heap.size →
      acc.length + 4 * rest.length ≤ 70368744177664 → ∃ w', digest_Base64_l0 K n s ⟨b, 0, none⟩ w = some ((), w') ∧ BAt B w' b (acc ++ b64Of rest) ∧ Below B w w' := by
  intro d
  induction d with
  | zero =>
    intro n w s rest acc hd hn hs hx hb hB hBw hl
    obtain ⟨n, rfl⟩ : ∃ m, n = m + 1 := ⟨n - 1, by omega⟩
    have hr : rest = [] := List.eq_nil_of_length_eq_zero (by omega)
    subst hr
    have hsl : s.len = 0 := hs.len
    have eu : digest_Base64_l0 K (n + 1) = digest_Base64_l0_b K (digest_Base64_l0 K n) := rfl
    rw [eu]
    unfold digest_Base64_l0_b
    rw [if_neg (by rw [hsl]; decide)]
    exact ⟨w, rfl, by rw [show b64Of [] = [] from rfl, List.append_nil]; exact hB, Below.refl B w⟩
  | succ d ih =>
    intro n w s rest acc hd hn hs hx hb hB hBw hl
    obtain ⟨n, rfl⟩ : ∃ m, n = m + 1 := ⟨n - 1, by omega⟩
    have hsl : s.len = rest.length := by rw [hs.len, ints_length]
    have eu : digest_Base64_l0 K (n + 1) = digest_Base64_l0_b K (digest_Base64_l0 K n) := rfl
    rw [eu]
    unfold digest_Base64_l0_b
    by_cases hr : rest = []
    · subst hr
      have hsl : s.len = 0 := hs.len
      rw [if_neg (by rw [hsl]; decide)]
      exact ⟨w, rfl, by rw [show b64Of [] = [] from rfl, List.append_nil]; exact hB, Below.refl B w⟩
    · have hpos : 0 < rest.length := List.length_pos_iff.2 hr
      obtain ⟨w1, n1, n2, n3, n4⟩ := newB_ok z45 45 w
      obtain ⟨w2, c1, c2, c3⟩ := cpy3_ok (hs.upd0 n3) n2
      have bw : Below B w w2 := (n3.below hBw fun _ _ => id).trans (c2.below (by have := n3.size; omega) fun k hk e => by omega)
      have hB2 : BAt B w2 b acc := by
        obtain ⟨⟨p, sl, h1, h2, h3, h4, h5, h6⟩, hbb⟩ := hB
        have hlt := h1.lt
        refine ⟨⟨p, sl, (h1.upd0 n3).upd c2 (by omega), h2, (h3.upd0 n3).upd c2 (fun k hk e => ?_), h4, h5, h6⟩, hbb⟩
        have := h3.lt hk
        omega
      have hm : min rest.length 3 ≤ rest.length := Nat.min_le_left ..
      have hm1 : 1 ≤ min rest.length 3 := by omega
      obtain ⟨w3, j1, j2, j3⟩ := quad_ok (K := K) hK (s := ⟨(sla s.a (min rest.length 3) s.cap 1), (s.len - (min rest.length 3)), (s.cap - (min rest.length 3))⟩) (n := min rest.length 3) hm1 (v3_lt hx) hB2 (by omega)
      have hs3 : Src w3 ⟨(sla s.a (min rest.length 3) s.cap 1), (s.len - (min rest.length 3)), (s.cap - (min rest.length 3))⟩ (ints .u8 (rest.drop (min rest.length 3))) := by
        have := t_src_sub (src_below hs (bw.trans j3) hb) (lo := min rest.length 3) (by rw [ints_length]; exact hm)
        have e : (ints .u8 rest).drop (min rest.length 3) = ints .u8 (rest.drop (min rest.length 3)) := by simp [ints, List.map_drop]
        rw [e] at this; exact this
      obtain ⟨w4, g1, g2, g3⟩ := ih n w3 _ (rest.drop (min rest.length 3)) (acc ++ q4 (min rest.length 3) (v3 rest)) (by rw [List.length_drop]; omega) (by omega) hs3 (fun x h => hx x (List.mem_of_mem_drop h))
        (fun q hq hne => by
          obtain ⟨p, hp, hqb⟩ := t_sla_blk hq
          rw [hqb]
          exact hb p hp (fun e => hr (by cases rest with | nil => rfl | cons y r => cases e)))
        j2 (by have := bw.size; have := j3.size; omega) (by rw [List.length_append, q4_len, List.length_drop]; omega)
      refine ⟨w4, ?_, by rw [b64Of_q4 rest hx hr, ← List.append_assoc]; exact g2, (bw.trans j3).trans g3⟩
      have a0 : ldI .u8 ((⟨w.heap.size, 0, none⟩ : Addr).add (0 * 1)) w2 = some (rest.getD 0 0) := by rw [add_lit]; exact c3 0 (by omega)
      have a1 : ldI .u8 ((⟨w.heap.size, 0, none⟩ : Addr).add (1 * 1)) w2 = some (rest.getD 1 0) := by rw [add_lit]; exact c3 1 (by omega)
      have a2 : ldI .u8 ((⟨w.heap.size, 0, none⟩ : Addr).add (2 * 1)) w2 = some (rest.getD 2 0) := by rw [add_lit]; exact c3 2 (by omega)
      have ce : cpy prog 25 25 (.slice (sla (some ⟨w.heap.size, 0, none⟩) 0 3 1) (3 - 0) (3 - 0)) (.slice s.a s.len s.cap) w1 = some (((min rest.length 3 : Nat) : Int), w2) := by rw [sla_zero]; exact c1
      have c0 : (0 : Int) ≤ ((min rest.length 3 : Nat) : Int) ∧ ((min rest.length 3 : Nat) : Int) ≤ ((s.len : Nat) : Int) := by omega
      have ev : bits .or .u64 (bits .or .u64 (IntKind.u64.wrap ((IntKind.u64.wrap (rest.getD 0 0)) * 2 ^ 16)) (IntKind.u64.wrap ((IntKind.u64.wrap (rest.getD 1 0)) * 2 ^ 8))) (IntKind.u64.wrap (rest.getD 2 0)) = ((v3 rest : Nat) : Int) := three_or (getD_in hx 0) (getD_in hx 1) (getD_in hx 2)
      rw [if_pos (by rw [hsl]; simp; omega), n1, bnd_ok, ce, bnd_ok, if_pos c0, a0, Option.bind_some, a1, Option.bind_some, a2, Option.bind_some, ev, Int.toNat_natCast, j1, bnd_ok, g1]

theorem b64Of_len_le (xs : List Int) : (b64Of xs).length ≤ 4 * xs.length + 4 := by rw [b64Of_len]; omega

theorem Base64_ok {K : Nat} (hK : 18446744073709551616 ≤ K) {w : World} {s : Sl} {xs : List Int} (hs : Src w s (ints .u8 xs)) (hx : ∀ x ∈ xs, InK .u8 x) (hl : xs.length ≤ 12582912) :
    ∃ w', digest_Base64 K s w = some ((bytesOf (b64Of xs), ()), w') ∧ Upd none_ w w' := by
  have hsl : s.len = xs.length := by rw [hs.len, ints_length]
  obtain ⟨w1, n1, B1, u1⟩ := BAt.new w
  have hs1 := u1.size
  obtain ⟨w2, j2, B2, c2⟩ := b64_outer (K := K) (B := w.heap.size) (b := w.heap.size) hK xs.length K w1 s xs [] (Nat.le_refl _) (by omega) (hs.upd0 u1) hx (fun p hp hne => by
    rcases hs.rd with ⟨e, _⟩ | ⟨q, e, hr⟩
    · rw [e] at hp; cases hp
    · rw [e] at hp; cases hp; exact hr.lt hne) B1 (by omega) (by simp; omega)
  rw [List.nil_append] at B2
  have hs2 := c2.size
  have hle := b64Of_len_le xs
  obtain ⟨w3, j3, c3⟩ := BString_ok B2 (b64Of_in xs hx) (by omega) (by omega)
  refine ⟨w3, ?_, Upd.of_below (((u1.below (Nat.le_refl _) fun _ _ => id).trans c2).trans c3)⟩
  unfold digest_Base64
  rw [hsl, if_neg (by simp; omega), n1, bnd_ok, j2, bnd_ok, j3, bnd_ok]

theorem refLetter : ∀ v : Fin 64, ref01_letter ((v.val : Nat) : Int) = some (lt ((v.val : Nat) : Int), ()) := by decide +kernel
theorem refAt_ok {w : World} {s : Sl} {xs : List Int} (hs : Src w s (ints .u8 xs)) (hx : ∀ x ∈ xs, InK .u8 x) (i : Nat) : ref01_at s (i : Int) w = some (xs.getD i 0, ()) := by
  have hsl : s.len = xs.length := by rw [hs.len, ints_length]
  unfold ref01_at
  rw [hsl]
  by_cases hi : i < xs.length
  · obtain ⟨p, hp, hld⟩ := src_ld hs hi
    have hb := getD_in hx i
    rw [if_pos (by simp; omega), hp, Option.bind_some, if_pos (by omega), Int.toNat_natCast, Nat.mul_one, hld, Option.bind_some, w64 (by omega) (by omega)]
  · rw [if_neg (by simp; omega)]
    have : xs.getD i 0 = 0 := by rw [List.getD_eq_getElem?_getD, List.getElem?_eq_none (by omega)]; rfl
    rw [this]

theorem refB_outer {K B : Nat} {s : Sl} {xs : List Int} (hx : ∀ x ∈ xs, InK .u8 x) (hl : xs.length ≤ 12582912) (hb : ∀ p, s.a = some p → ints .u8 xs ≠ [] → p.block < B) :
    ∀ (d i n : Nat) (w : World) (o : Sl) (acc : List Int), xs.length ≤ i + d → d < n → i ≤ xs.length + 3 → acc.length ≤ 4 * i → Src w s (ints .u8 xs) → Own 5 w o (ints .u8 acc) → Fresh B o → B ≤ w.heap.size →
      ∃ o' w', ref01_Base64_l0 K n s o (i : Int) w = some ((o', ()), w') ∧ Own 5 w' o' (ints .u8 (acc ++ b64Of (xs.drop i))) ∧ Below B w w' := by
  intro d
  induction d with
  | zero =>
    intro i n w o acc hi hn hi3 ha hs ho hf hB
    obtain ⟨n, rfl⟩ : ∃ m, n = m + 1 := ⟨n - 1, by omega⟩
    have hsl : s.len = xs.length := by rw [hs.len, ints_length]
    have eu : ref01_Base64_l0 K (n + 1) = ref01_Base64_l0_b K (ref01_Base64_l0 K n) := rfl
    rw [eu]
    unfold ref01_Base64_l0_b
    rw [hsl, if_neg (by simp; omega), List.drop_of_length_le (by omega), show b64Of [] = [] from rfl, List.append_nil]
    exact ⟨o, w, rfl, ho, Below.refl B w⟩
  | succ d ih =>
    intro i n w o acc hi hn hi3 ha hs ho hf hB
    obtain ⟨n, rfl⟩ : ∃ m, n = m + 1 := ⟨n - 1, by omega⟩
    have hsl : s.len = xs.length := by rw [hs.len, ints_length]
    have eu : ref01_Base64_l0 K (n + 1) = ref01_Base64_l0_b K (ref01_Base64_l0 K n) := rfl
    rw [eu]
    unfold ref01_Base64_l0_b
    rw [hsl]
    by_cases hil : i < xs.length
    · have hne : xs.drop i ≠ [] := fun e => by have := congrArg List.length e; rw [List.length_drop] at this; simp at this; omega
      have hxd : ∀ x ∈ xs.drop i, InK .u8 x := fun x h => hx x (List.mem_of_mem_drop h)
      have gd : ∀ k, (xs.drop i).getD k 0 = xs.getD (i + k) 0 := fun k => by rw [List.getD_eq_getElem?_getD, List.getD_eq_getElem?_getD, List.getElem?_drop]
      have hv : v3 (xs.drop i) = (xs.getD i 0).toNat * 65536 + (xs.getD (i + 1) 0).toNat * 256 + (xs.getD (i + 2) 0).toNat := by unfold v3; rw [gd 0, gd 1, gd 2]; rfl
      rw [b64Of_q4 _ hxd hne, List.length_drop]
      have hvl := v3_lt hxd
      have b0 := getD_in hx i
      have b1 := getD_in hx (i + 1)
      have b2 := getD_in hx (i + 2)
      have r0 := refAt_ok hs hx i
      have r1 := refAt_ok hs hx (i + 1)
      have r2 := refAt_ok hs hx (i + 2)
      generalize v3 (xs.drop i) = v at hv hvl ⊢
      generalize xs.getD i 0 = x at hv b0 r0
      generalize xs.getD (i + 1) 0 = y at hv b1 r1
      generalize xs.getD (i + 2) 0 = z at hv b2 r2
      have ev : IntKind.i64.wrap ((IntKind.i64.wrap ((IntKind.i64.wrap (x * 65536)) + (IntKind.i64.wrap (y * 256)))) + z) = (v : Int) := by
        rw [w64 (n := x * 65536) (by omega) (by omega), w64 (n := y * 256) (by omega) (by omega), w64 (n := x * 65536 + y * 256) (by omega) (by omega), w64 (by omega) (by omega)]; omega
      have e1 : IntKind.i64.wrap ((i : Int) + 1) = ((i + 1 : Nat) : Int) := by rw [w64 (by omega) (by omega)]; rfl
      have e2 : IntKind.i64.wrap ((i : Int) + 2) = ((i + 2 : Nat) : Int) := by rw [w64 (by omega) (by omega)]; rfl
      have e3 : IntKind.i64.wrap ((i : Int) + 3) = ((i + 3 : Nat) : Int) := by rw [w64 (by omega) (by omega)]; rfl
      have d1 : IntKind.i64.wrap (Int.tdiv (v : Int) 262144) = ((v / 262144 % 64 : Nat) : Int) := by
        rw [show (262144 : Int) = ((262144 : Nat) : Int) from rfl, tdiv_nat, w64 (by omega) (by omega)]; omega
      have d2 : Int.tmod (IntKind.i64.wrap (Int.tdiv (v : Int) 4096)) 64 = ((v / 4096 % 64 : Nat) : Int) := by
        rw [show (4096 : Int) = ((4096 : Nat) : Int) from rfl, tdiv_nat, w64 (by omega) (by omega), show (64 : Int) = ((64 : Nat) : Int) from rfl, tmod_nat]
      have d3 : Int.tmod (IntKind.i64.wrap (Int.tdiv (v : Int) 64)) 64 = ((v / 64 % 64 : Nat) : Int) := by
        rw [show (64 : Int) = ((64 : Nat) : Int) from rfl, tdiv_nat, w64 (by omega) (by omega), tmod_nat]
      have d4 : Int.tmod (v : Int) 64 = ((v % 64 : Nat) : Int) := by
        rw [show (64 : Int) = ((64 : Nat) : Int) from rfl, tmod_nat]
      have l1 := refLetter ⟨v / 262144 % 64, by omega⟩
      have l2 := refLetter ⟨v / 4096 % 64, by omega⟩
      have l3 := refLetter ⟨v / 64 % 64, by omega⟩
      have l4 := refLetter ⟨v % 64, by omega⟩
      dsimp only at l1 l2 l3 l4
      have hal : acc.length ≤ 67108864 := by omega
      obtain ⟨t, w1, o2, w2, k1, k2, k3, k4, k5⟩ := push_ok (w := w) [lt ((v / 262144 % 64 : Nat) : Int), lt ((v / 4096 % 64 : Nat) : Int)] (by simp) (by simp) ho (by omega) hf hB
      have k1 : bldS prog 25 2 #[(0, (.int .u8 (lt ((v / 262144 % 64 : Nat) : Int)))), (1, (.int .u8 (lt ((v / 4096 % 64 : Nat) : Int))))] w = some (t, w1) := k1
      have hB2 : B ≤ w2.heap.size := Nat.le_trans hB k4.size
      obtain ⟨t3, w3, o4, w4, j1, j2, j3, j4, j5⟩ := push_ok (w := w2) [if min (xs.length - i) 3 < 2 then 61 else lt ((v / 64 % 64 : Nat) : Int)] (by simp) (by simp) k3 (by simp; omega) k5 hB2
      have j1 : bldS prog 25 1 #[(0, (.int .u8 (if min (xs.length - i) 3 < 2 then 61 else lt ((v / 64 % 64 : Nat) : Int))))] w2 = some (t3, w3) := j1
      have s1 : ref01_Base64_s1 K o2 (v : Int) (decide (((i + 1 : Nat) : Int) < ((xs.length : Nat) : Int))) w2 = some ((o4, ()), w4) := by
        unfold ref01_Base64_s1
        by_cases h1 : i + 1 < xs.length
        · rw [if_neg (by omega)] at j1
          rw [if_pos (by simp; omega), d3, l3, Option.bind_some, j1, bnd_ok, j2, bnd_ok]
        · rw [if_pos (by omega)] at j1
          rw [if_neg (by simp; omega), j1, bnd_ok, j2, bnd_ok]
      have hB4 : B ≤ w4.heap.size := Nat.le_trans hB2 j4.size
      obtain ⟨t5, w5, o6, w6, m1, m2, m3, m4, m5⟩ := push_ok (w := w4) [if min (xs.length - i) 3 < 3 then 61 else lt ((v % 64 : Nat) : Int)] (by simp) (by simp) j3 (by simp; omega) j5 hB4
      have m1 : bldS prog 25 1 #[(0, (.int .u8 (if min (xs.length - i) 3 < 3 then 61 else lt ((v % 64 : Nat) : Int))))] w4 = some (t5, w5) := m1
      have c6 : Below B w w6 := (k4.trans j4).trans m4
      have eacc : acc ++ [lt ((v / 262144 % 64 : Nat) : Int), lt ((v / 4096 % 64 : Nat) : Int)] ++ [if min (xs.length - i) 3 < 2 then 61 else lt ((v / 64 % 64 : Nat) : Int)] ++ [if min (xs.length - i) 3 < 3 then 61 else lt ((v % 64 : Nat) : Int)] = acc ++ q4 (min (xs.length - i) 3) v := by
        rw [List.append_assoc, List.append_assoc]; rfl
      rw [eacc] at m3
      obtain ⟨o7, w7, g1, g2, g3⟩ := ih (i + 3) n w6 o6 _ (by omega) (by omega) (by omega) (by rw [List.length_append, q4_len]; omega) (src_below hs c6 hb) m3 m5 (Nat.le_trans hB c6.size)
      have edr : (xs.drop i).drop (min (xs.length - i) 3) = xs.drop (i + 3) := by
        rw [List.drop_drop]
        by_cases h3 : 3 ≤ xs.length - i
        · rw [Nat.min_eq_right h3]
        · rw [Nat.min_eq_left (by omega), List.drop_of_length_le (by omega), List.drop_of_length_le (by omega)]
      refine ⟨o7, w7, ?_, by rw [edr, ← List.append_assoc]; exact g2, c6.trans g3⟩
      rw [if_pos (by simp; omega), r0, Option.bind_some, e1, r1, Option.bind_some, e2, r2, Option.bind_some]
      dsimp only
      rw [ev, d1, l1, Option.bind_some, d2, l2, Option.bind_some]
      dsimp only
      rw [k1, bnd_ok, k2, bnd_ok, s1, bnd_ok]
      by_cases h2 : i + 2 < xs.length
      · rw [if_neg (by omega)] at m1
        rw [if_pos (by simp; omega), d4, l4, Option.bind_some]
        dsimp only
        rw [m1, bnd_ok, m2, bnd_ok, e3, g1]
      · rw [if_pos (by omega)] at m1
        rw [if_neg (by simp; omega)]
        dsimp only
        rw [m1, bnd_ok, m2, bnd_ok, e3, g1]
    · rw [if_neg (by simp; omega), List.drop_of_length_le (by omega), show b64Of [] = [] from rfl, List.append_nil]
      exact ⟨o, w, rfl, ho, Below.refl B w⟩

theorem refBase64_ok {K : Nat} (hK : 18446744073709551616 ≤ K) {w : World} {s : Sl} {xs : List Int} (hs : Src w s (ints .u8 xs)) (hx : ∀ x ∈ xs, InK .u8 x) (hl : xs.length ≤ 12582912) :
    ∃ w', ref01_Base64 K s w = some ((bytesOf (b64Of xs), ()), w') ∧ Upd none_ w w' := by
  have hsl : s.len = xs.length := by rw [hs.len, ints_length]
  obtain ⟨o, w2, j2, o2, c2⟩ := refB_outer (K := K) (s := s) hx hl (B := w.heap.size) (fun p hp hne => by
    rcases hs.rd with ⟨e, _⟩ | ⟨q, e, hr⟩
    · rw [e] at hp; cases hp
    · rw [e] at hp; cases hp; exact hr.lt hne) xs.length 0 K w nilS [] (by omega) (by omega) (by omega) (by simp) hs (Own.nil ..) (fun k hk => by cases hk) (Nat.le_refl _)
  have j2 : ref01_Base64_l0 K K s ⟨none, 0, 0⟩ 0 w = _ := j2
  rw [List.drop_zero, List.nil_append] at o2
  refine ⟨w2, ?_, Upd.of_below c2⟩
  unfold ref01_Base64
  rw [hsl, if_neg (by simp; omega), j2, bnd_ok, b2s_ok o2.rd, bnd_ok]

end Go.Sh

/- The reference's FromBase64. -/
set_option linter.unusedVariables false
namespace Go.Sh
open Go.Fw Go.RowKit Go.Proofs.Try

theorem tdiv_nn {v : Int} (h : 0 ≤ v) (m : Int) : Int.tdiv v m = v / m := Int.tdiv_eq_ediv_of_nonneg h
theorem tmod_nn {v : Int} (h : 0 ≤ v) (m : Int) : Int.tmod v m = v % m := Int.tmod_eq_emod_of_nonneg h

theorem refB_dec {K B : Nat} {s : ByteArray} (hl : s.size ≤ 16777216) :
    ∀ (d i n : Nat) (w : World) (o : Sl) (ys : List Int), i + 4 * d = s.size → d < n → ys.length ≤ i → Good ((bl s).drop i) → Own 5 w o (ints .u8 ys) → Fresh B o → B ≤ w.heap.size →
      ∃ o' w', ref01_FromBase64_l1 K n s o (i : Int) w = some ((o', ()), w') ∧ Own 5 w' o' (ints .u8 (rdec ((bl s).drop i) ys)) ∧ Fresh B o' ∧ Below B w w' := by
  intro d
  induction d with
  | zero =>
    intro i n w o ys hi hn hy hg ho hf hB
    obtain ⟨n, rfl⟩ : ∃ m, n = m + 1 := ⟨n - 1, by omega⟩
    have eu : ref01_FromBase64_l1 K (n + 1) = ref01_FromBase64_l1_b K (ref01_FromBase64_l1 K n) := rfl
    rw [eu]
    unfold ref01_FromBase64_l1_b
    rw [if_neg (by simp; omega), List.drop_of_length_le (by rw [bl_len]; omega)]
    exact ⟨o, w, rfl, ho, hf, Below.refl B w⟩
  | succ d ih =>
    intro i n w o ys hi hn hy hg ho hf hB
    obtain ⟨n, rfl⟩ : ∃ m, n = m + 1 := ⟨n - 1, by omega⟩
    obtain ⟨a, ha, hda, _, hlta⟩ := bl_get s (i := i) (by omega)
    obtain ⟨b, hb, hdb, _, hltb⟩ := bl_get s (i := i + 1) (by omega)
    obtain ⟨c, hc, hdc, _, hltc⟩ := bl_get s (i := i + 2) (by omega)
    obtain ⟨e, he, hde, _, hlte⟩ := bl_get s (i := i + 3) (by omega)
    have ia := refWorth ⟨a.toNat, hlta⟩
    have ib := refWorth ⟨b.toNat, hltb⟩
    have ic := refWorth ⟨c.toNat, hltc⟩
    have ie := refWorth ⟨e.toNat, hlte⟩
    dsimp only at ia ib ic ie
    have hdd : (bl s).drop i = ((a.toNat : Nat) : Int) :: ((b.toNat : Nat) : Int) :: ((c.toNat : Nat) : Int) :: ((e.toNat : Nat) : Int) :: (bl s).drop (i + 4) := by rw [hda, hdb, hdc, hde]
    rw [hdd] at hg ⊢
    obtain ⟨ga, gb, gc, ge, gr⟩ := hg
    rw [rdec]
    have qa := wv_in ((a.toNat : Nat) : Int)
    have qb := wv_in ((b.toNat : Nat) : Int)
    have qc := wv_in ((c.toNat : Nat) : Int)
    have qe := wv_in ((e.toNat : Nat) : Int)
    generalize wv ((a.toNat : Nat) : Int) = x at ia ga qa ⊢
    generalize wv ((b.toNat : Nat) : Int) = y at ib gb qb ⊢
    generalize wv ((c.toNat : Nat) : Int) = z at ic gc qc ⊢
    generalize wv ((e.toNat : Nat) : Int) = u at ie ge qe ⊢
    generalize hC : ((c.toNat : Nat) : Int) = C at ic gc ⊢
    generalize hE : ((e.toNat : Nat) : Int) = E at ie ge ⊢
    generalize hv : x * 262144 + y * 4096 = v
    have hvb : 0 ≤ v ∧ v < 16777216 := by omega
    have e1 : IntKind.i64.wrap ((i : Int) + 1) = ((i + 1 : Nat) : Int) := by rw [w64 (by omega) (by omega)]; rfl
    have e2 : IntKind.i64.wrap ((i : Int) + 2) = ((i + 2 : Nat) : Int) := by rw [w64 (by omega) (by omega)]; rfl
    have e3 : IntKind.i64.wrap ((i : Int) + 3) = ((i + 3 : Nat) : Int) := by rw [w64 (by omega) (by omega)]; rfl
    have e4 : IntKind.i64.wrap ((i : Int) + 4) = ((i + 4 : Nat) : Int) := by rw [w64 (by omega) (by omega)]; rfl
    have ev : IntKind.i64.wrap ((IntKind.i64.wrap (x * 262144)) + (IntKind.i64.wrap (y * 4096))) = v := by
      rw [w64 (n := x * 262144) (by omega) (by omega), w64 (n := y * 4096) (by omega) (by omega), w64 (by omega) (by omega), hv]
    have ev1 : IntKind.u8.wrap (IntKind.i64.wrap (Int.tdiv v 65536)) = v / 65536 := by
      rw [tdiv_nn hvb.1, w64 (by omega) (by omega), w8 (by omega) (by omega)]
    obtain ⟨t, w1, o1, w2, k1, k2, k3, k4, k5⟩ := push_ok (w := w.drew) [v / 65536] (by simp) (by simp) ho.drew (by omega) hf hB
    have k1 : bldS prog 25 1 #[(0, (.int .u8 (v / 65536)))] w.drew = some (t, w1) := k1
    have hB2 : B ≤ w2.heap.size := Nat.le_trans hB k4.size
    have s2 : ∃ o2 w3, ref01_FromBase64_s2 K s o1 (i : Int) v (C != 61) w2 = some ((o2, (if C ≠ 61 then v + z * 64 else v), ()), w3) ∧ Own 5 w3 o2 (ints .u8 (ys ++ [v / 65536] ++ (if C ≠ 61 then [(v + z * 64) / 256 % 256] else []))) ∧ Below B w2 w3 ∧ Fresh B o2 := by
      unfold ref01_FromBase64_s2
      by_cases hc61 : C = 61
      · rw [if_neg (by rw [hc61]; decide), ife hc61, ife hc61, List.append_nil]
        exact ⟨_, _, rfl, k3, Below.refl B w2, k5⟩
      · have gc0 : 0 ≤ z := gc.resolve_left hc61
        rw [if_pos (by simpa using hc61), if_pos hc61, if_pos hc61, e2, if_pos (by omega), Int.toNat_natCast, hc, Option.bind_some, hC, ic, Option.bind_some]
        dsimp only
        have ez : IntKind.i64.wrap (v + (IntKind.i64.wrap (z * 64))) = v + z * 64 := by
          rw [w64 (n := z * 64) (by omega) (by omega), w64 (by omega) (by omega)]
        have ez1 : IntKind.u8.wrap (Int.tmod (IntKind.i64.wrap (Int.tdiv (v + z * 64) 256)) 256) = (v + z * 64) / 256 % 256 := by
          rw [tdiv_nn (by omega), w64 (by omega) (by omega), tmod_nn (by omega), w8 (by omega) (by omega)]
        obtain ⟨t2, w3, o2, w4, j1, j2, j3, j4, j5⟩ := push_ok (w := w2) [(v + z * 64) / 256 % 256] (by simp) (by simp) k3 (by rw [List.length_append, List.length_singleton]; omega) k5 hB2
        have j1 : bldS prog 25 1 #[(0, (.int .u8 ((v + z * 64) / 256 % 256)))] w2 = some (t2, w3) := j1
        rw [ez, ez1, j1, bnd_ok, j2, bnd_ok]
        exact ⟨_, _, rfl, j3, j4, j5⟩
    obtain ⟨o2, w3, m1, m2, m3, m4⟩ := s2
    have hB3 : B ≤ w3.heap.size := Nat.le_trans hB2 m3.size
    have c3 : Below B w w3 := ((Below.drew (Below.refl B w)).trans k4).trans m3
    generalize hv2 : (if C ≠ 61 then v + z * 64 else v) = v2 at m1 ⊢
    have hv2b : 0 ≤ v2 ∧ v2 < 16777216 := by
      by_cases hc61 : C = 61
      · rw [ife hc61] at hv2; omega
      · have gc0 : 0 ≤ z := gc.resolve_left hc61
        rw [if_pos hc61] at hv2; omega
    have hlen : (ys ++ [v / 65536] ++ (if C ≠ 61 then [(v + z * 64) / 256 % 256] else [])).length ≤ i + 2 := by
      by_cases hc61 : C = 61
      · rw [ife hc61]; simp; omega
      · rw [if_pos hc61]; simp; omega
    generalize ys ++ [v / 65536] ++ (if C ≠ 61 then [(v + z * 64) / 256 % 256] else []) = yy at m2 hlen ⊢
    have eu : ref01_FromBase64_l1 K (n + 1) = ref01_FromBase64_l1_b K (ref01_FromBase64_l1 K n) := rfl
    rw [eu]
    unfold ref01_FromBase64_l1_b
    rw [if_pos (by simp; omega), if_pos (by omega), Int.toNat_natCast, ha, Option.bind_some, e1, if_pos (by omega), Int.toNat_natCast, hb, Option.bind_some, ia, Option.bind_some, ib, Option.bind_some]
    dsimp only
    rw [ev, ev1, k1, bnd_ok, k2, bnd_ok, e2, if_pos (by omega), Int.toNat_natCast, hc, Option.bind_some, hC, m1, bnd_ok, e3, if_pos (by omega), Int.toNat_natCast, he, Option.bind_some, hE]
    dsimp only
    by_cases he61 : E = 61
    · rw [if_neg (by rw [he61]; decide), ife he61, List.append_nil, e4]
      obtain ⟨o3, w', g1, g2, g3, g4⟩ := ih (i + 4) n w3 o2 yy (by omega) (by omega) (by omega) gr m2 m4 hB3
      exact ⟨o3, w', g1, g2, g3, c3.trans g4⟩
    · have ge0 : 0 ≤ u := ge.resolve_left he61
      rw [if_pos (by simpa using he61), if_pos he61, if_pos (by omega), Option.bind_some, hE, ie, Option.bind_some, e4]
      dsimp only
      have ez1 : IntKind.u8.wrap (Int.tmod (IntKind.i64.wrap (v2 + u)) 256) = (v2 + u) % 256 := by
        rw [w64 (by omega) (by omega), tmod_nn (by omega), w8 (by omega) (by omega)]
      obtain ⟨t2, w4, o3, w5, j1, j2, j3, j4, j5⟩ := push_ok (w := w3) [(v2 + u) % 256] (by simp) (by simp) m2 (by omega) m4 hB3
      have j1 : bldS prog 25 1 #[(0, (.int .u8 ((v2 + u) % 256)))] w3 = some (t2, w4) := j1
      obtain ⟨o4, w', g1, g2, g3, g4⟩ := ih (i + 4) n w5 o3 _ (by omega) (by omega) (by rw [List.length_append, List.length_singleton]; omega) gr j3 j5 (Nat.le_trans hB3 j4.size)
      refine ⟨o4, w', ?_, g2, g3, (c3.trans j4).trans g4⟩
      rw [ez1, j1, bnd_ok, j2, bnd_ok, g1]

theorem refFromBase64_ok {K : Nat} (hK : 18446744073709551616 ≤ K) {s : ByteArray} (hl : s.size ≤ 16777216) (w : World) :
    ∃ o w', ref01_FromBase64 K s w = some ((o, (ansX 14 (fromB (bl s) 0 [])).2.1, (ansX 14 (fromB (bl s) 0 [])).2.2, ()), w') ∧ Own 5 w' o (ints .u8 (ansX 14 (fromB (bl s) 0 [])).1) ∧ Fresh w.heap.size o ∧ Below w.heap.size w w' := by
  have h1 : ref01_FromBase64_l0 K K s 0 w = _ := refB_scan (K := K) hl w s.size 0 K (by omega) (by omega)
  have hfs := fromB_scan (bl s) (bl s) 0 [] rfl (.inl rfl) (fun k _ => by rw [Nat.zero_add])
  rw [bl_len] at hfs
  have e2 : Int.tmod ((s.size : Nat) : Int) 4 = ((s.size % 4 : Nat) : Int) := tmod_nat s.size 4
  unfold ref01_FromBase64
  rw [if_neg (by simp; omega), h1, bnd_ok]
  cases hsc : fscan (bl s) s.size 0 with
  | some j =>
    rw [hsc] at hfs
    rw [hfs]
    exact ⟨nilS, w, rfl, Own.nil .., (fun k hk => by cases hk), Below.refl _ w⟩
  | none =>
    rw [hsc, Nat.zero_add] at hfs
    dsimp only at hfs ⊢
    rw [e2]
    by_cases hp : s.size % 4 = 0
    · rw [if_pos hp] at hfs
      rw [if_neg (by rw [hp]; decide)]
      have hg := (fromB_good _ _ _ _ hfs).1
      obtain ⟨o, w', g1, g2, g3, g4⟩ := refB_dec (K := K) (B := w.heap.size) hl (s.size / 4) 0 K w nilS [] (by omega) (by omega) (by simp) (by rw [List.drop_zero]; exact hg) (Own.nil ..) (fun k hk => by cases hk) (Nat.le_refl _)
      have g1 : ref01_FromBase64_l1 K K s ⟨none, 0, 0⟩ 0 w = _ := g1
      rw [List.drop_zero] at g2
      rw [g1, bnd_ok, hfs]
      exact ⟨o, w', rfl, g2, g3, g4⟩
    · rw [if_neg hp] at hfs
      rw [if_pos (by simp; omega), hfs]
      exact ⟨nilS, w, rfl, Own.nil .., (fun k hk => by cases hk), Below.refl _ w⟩

end Go.Sh

/- 'cofferlaw01.DigestTexts' returns true. -/
set_option linter.unusedVariables false
namespace Go.Sh
open Go.Fw Go.RowKit Go.Proofs.Try

theorem dyn_hex {β : Type} (K : Nat) (s : ByteArray) (w : World) (k : Value → World → Option β) :
    dyn (tab (law01_read_E K)) (.func (.func 14) #[] #[]) [.string s] w k =
      bnd (digest_FromHex K s w) fun y w' => k (.tuple #[.slice y.1.a y.1.len y.1.cap, .int .i64 y.2.1, .int .i64 y.2.2.1]) w' := rfl
theorem dyn_b64 {β : Type} (K : Nat) (s : ByteArray) (w : World) (k : Value → World → Option β) :
    dyn (tab (law01_read_E K)) (.func (.func 15) #[] #[]) [.string s] w k =
      bnd (digest_FromBase64 K s w) fun y w' => k (.tuple #[.slice y.1.a y.1.len y.1.cap, .int .i64 y.2.1, .int .i64 y.2.2.1]) w' := rfl

theorem ans3 {β : Type} (o : Sl) (e p : Int) (k : Sl → Int → Int → Option β) :
    (tupX (.tuple #[.slice o.a o.len o.cap, .int .i64 e, .int .i64 p]) 0 fun v3 => (asS v3).bind fun v4 => tupX (.tuple #[.slice o.a o.len o.cap, .int .i64 e, .int .i64 p]) 1 fun v5 => (asI .i64 v5).bind fun v6 => tupX (.tuple #[.slice o.a o.len o.cap, .int .i64 e, .int .i64 p]) 2 fun v7 => (asI .i64 v7).bind fun v8 => k v4 v6 v8) = k o e p := rfl

theorem own_below {B : Nat} {w w' : World} {o : Sl} {ys : List Value} (h : Own 5 w o ys) (b : Below B w w') (hB : w.heap.size ≤ B) : Own 5 w' o ys :=
  h.upd (upd_of_below b) fun k hk e => by have := h.lt hk; omega

theorem read_ok {K : Nat} (hK : 18446744073709551616 ≤ K) {s : ByteArray} {fv : Value} {F : World → Option ((Sl × Int × Int × Unit) × World)} {ys : List Int} {e p : Int}
    (hd : ∀ {β : Type} (w : World) (k : Value → World → Option β), dyn (tab (law01_read_E K)) fv [.string s] w k = bnd (F w) fun y w' => k (.tuple #[.slice y.1.a y.1.len y.1.cap, .int .i64 y.2.1, .int .i64 y.2.2.1]) w')
    (hF : ∀ w, ∃ o w', F w = some ((o, e, p, ()), w') ∧ Own 5 w' o (ints .u8 ys) ∧ Fresh w.heap.size o ∧ Below w.heap.size w w') (hl : ys.length ≤ 16777216)
    {w : World} {r : Sl} (hr : Own 5 w r (ints .u8 ys)) : ∃ w', law01_read K fv s r e p w = some ((true, ()), w') ∧ Below w.heap.size w w' := by
  obtain ⟨a, w1, f1, o1, q1, b1⟩ := hF w
  obtain ⟨b, w2, f2, o2, q2, b2⟩ := hF w1
  have z1 := b1.size
  have z2 := b2.size
  have oa := own_below o1 b2 (Nat.le_refl _)
  have or2 := own_below (own_below hr b1 (Nat.le_refl _)) b2 (by omega)
  obtain ⟨w3, c1, u1⟩ := SameBytes_ok hK oa.rd or2.rd (by omega)
  obtain ⟨w4, c2, u2⟩ := SameBytes_ok hK (o2.upd0 u1).rd (or2.upd0 u1).rd (by omega)
  obtain ⟨w5, c3, u3⟩ := SpoilBytes_ok hK ((oa.upd0 u1).upd0 u2).vw (by omega)
  have ob5 : Own 5 w5 b (ints .u8 ys) := ((o2.upd0 u1).upd0 u2).upd u3 fun k hk ek => by
    have h1 := o1.lt ek
    have h2 := q2 k hk
    omega
  have or5 : Own 5 w5 r (ints .u8 ys) := ((or2.upd0 u1).upd0 u2).upd u3 fun k hk ek => by
    have h1 := q1 k ek
    have h2 := hr.lt hk
    omega
  obtain ⟨w6, c4, u4⟩ := SameBytes_ok hK ob5.rd or5.rd (by omega)
  have z3 := u1.size
  have z4 := u2.size
  have z5 := u3.size
  refine ⟨w6, ?_, (((((b1.trans (b2.mono z1)).trans (u1.below (by omega) fun _ _ => id)).trans (u2.below (by omega) fun _ _ => id))).trans (u3.below (by omega) fun k hk ek => by have := q1 k ek; omega)).trans (u4.below (by omega) fun _ _ => id)⟩
  have s0 : law01_read_s0 K r e p a e p b e p w2 = some ((false, ()), w4) := by
    unfold law01_read_s0 law01_num
    simp only [Option.bind_some, bne_self_eq_false, Bool.false_eq_true, if_false]
    rw [c1, bnd_ok]
    simp only [decide_true, Bool.not_true, Bool.false_eq_true, if_false]
    rw [c2, bnd_ok]
    simp only [decide_true, Bool.not_true]
  unfold law01_read
  rw [hd, f1, bnd_ok]
  dsimp only
  rw [ans3, hd, f2, bnd_ok]
  dsimp only
  rw [ans3, s0, bnd_ok]
  dsimp only
  rw [if_neg (by simp), c3, bnd_ok, c4, bnd_ok]
  simp only [decide_true]

theorem ans_len {c : Int} {N : Nat} {r : Except Nat (List Int)} (h : ∀ ys, r = .ok ys → ys.length ≤ N) : (ansX c r).1.length ≤ N := by
  cases r with
  | error j => exact Nat.zero_le _
  | ok ys => exact h ys rfl

theorem DigestTexts_ok {K : Nat} (hK : 18446744073709551616 ≤ K) (s : ByteArray) {b : Sl} {xs : List Int} {w : World} (hs : Src w b (ints .u8 xs)) (hx : ∀ x ∈ xs, InK .u8 x) (hl : xs.length ≤ 140737488351232) :
    ∃ w', law01_DigestTexts K s b w = some ((true, ()), w') ∧ Below w.heap.size w w' := by
  have hbl : b.len = xs.length := by rw [hs.len, ints_length]
  unfold law01_DigestTexts law01_DigestTexts_s0
  by_cases h1 : s.size > 65536
  · rw [if_pos (by simp; omega), bnd_ok]
    exact ⟨w, rfl, Below.refl _ w⟩
  · rw [if_neg (by simp; omega), bnd_ok, hbl]
    by_cases h2 : xs.length > 65536
    · rw [if_pos (by simp; omega)]
      exact ⟨w, rfl, Below.refl _ w⟩
    · rw [if_neg (by simp; omega)]
      have hlt : ∀ q, b.a = some q → ints .u8 xs ≠ [] → q.block < w.heap.size := fun p hp hne => by
        rcases hs.rd with ⟨e, _⟩ | ⟨q, e, hr⟩
        · rw [e] at hp; cases hp
        · rw [e] at hp; cases hp; exact hr.lt hne
      obtain ⟨g, cap, w1, k1, ox, hg, u1⟩ := Bytes_ok hK hs hl
      have of := marked_front ox
      obtain ⟨w2, k2, u2⟩ := Hex_ok hK (of.src ints_one) hx (by omega)
      obtain ⟨w3, k3, u3⟩ := refHex_ok hK ((hs.upd0 u1).upd0 u2) hx (by omega)
      obtain ⟨w4, k4, u4⟩ := Base64_ok hK (((of.upd0 u2).upd0 u3).src ints_one) hx (by omega)
      obtain ⟨w5, k5, u5⟩ := refBase64_ok hK ((((hs.upd0 u1).upd0 u2).upd0 u3).upd0 u4) hx (by omega)
      obtain ⟨w6, k6, u6⟩ := WholeBytes_ok hK ((((ox.upd0 u2).upd0 u3).upd0 u4).upd0 u5) (((((hs.upd0 u1).upd0 u2).upd0 u3).upd0 u4).upd0 u5).rds hl
      have z1 := u1.size
      have z2 := u2.size
      have z3 := u3.size
      have z4 := u4.size
      have z5 := u5.size
      have z6 := u6.size
      have b6 : Below w.heap.size w w6 := ((((((u1.below (Nat.le_refl _) fun _ _ => id).trans (u2.below z1 fun _ _ => id)).trans (u3.below (by omega) fun _ _ => id)).trans (u4.below (by omega) fun _ _ => id)).trans (u5.below (by omega) fun _ _ => id)).trans (u6.below (by omega) fun _ _ => id))
      obtain ⟨r7, w7, k7, o7, f7, b7⟩ := refFromHex_ok hK (s := s) (by omega) w6
      obtain ⟨r8, w8, k8, o8, f8, b8⟩ := refFromBase64_ok hK (s := s) (by omega) w7
      have z7 := b7.size
      have z8 := b8.size
      obtain ⟨w9, k9, b9⟩ := read_ok hK (fv := .func (.func 14) #[] #[]) (s := s) (F := digest_FromHex K s) (fun w k => dyn_hex K s w k) (fun w => FromHex_ok hK (s := s) (by omega) w) (ans_len fun ys h => by
        obtain ⟨zs, e, _, _, h4⟩ := fromHex_good _ _ _ _ h
        rw [e, List.nil_append]; rw [bl_len] at h4; omega) (own_below o7 b8 (Nat.le_refl _))
      have z9 := b9.size
      obtain ⟨w10, k10, b10⟩ := read_ok hK (fv := .func (.func 15) #[] #[]) (s := s) (F := digest_FromBase64 K s) (fun w k => dyn_b64 K s w k) (fun w => FromBase64_ok hK (s := s) (by omega) w) (ans_len fun ys h => by
        obtain ⟨_, zs, e, _, _, h4⟩ := fromB_good _ _ _ _ h
        rw [e, List.nil_append]; rw [bl_len] at h4; omega) (own_below o8 b9 (Nat.le_refl _))
      refine ⟨w10, ?_, (((b6.trans (b7.mono (by omega))).trans (b8.mono (by omega))).trans (b9.mono (by omega))).trans (b10.mono (by omega))⟩
      have s1 : law01_DigestTexts_s1 K b ⟨some ⟨g, 0, none⟩, xs.length, cap⟩ w1 = some ((false, ()), w6) := by
        unfold law01_DigestTexts_s1
        rw [k2, bnd_ok, k3, bnd_ok]
        simp only [beq_self_eq_true, Bool.not_true, Bool.false_eq_true, if_false]
        rw [k4, bnd_ok, k5, bnd_ok]
        simp only [beq_self_eq_true, Bool.not_true, Bool.false_eq_true, if_false]
        rw [k6, bnd_ok]
        simp only [decide_true, Bool.not_true]
      rw [k1, bnd_ok]
      dsimp only
      rw [s1, bnd_ok]
      dsimp only
      rw [if_neg (by simp), k7, bnd_ok, k8, bnd_ok]
      dsimp only
      rw [k9, bnd_ok, if_pos rfl, k10, bnd_ok]

end Go.Sh

/- 'cofferlaw01.DigestTextBack' returns true. -/
set_option linter.unusedVariables false
namespace Go.Sh
open Go.Fw Go.RowKit Go.Proofs.Try

theorem small_two {K : Nat} {β : Type} {c : Int} (hc : 0 ≤ c ∧ c < 256) (w : World) (k : Int × Unit → World → Option β) : (bnd (law01_small_s1 K c w) fun y w3 => bnd (law01_small_s2 K c y.1 w3) k) = k (smallC c, ()) w := by
  unfold law01_small_s1 law01_small_s2 smallC
  by_cases h1 : 65 ≤ c
  · rw [if_pos (by simp; omega), bnd_ok]
    by_cases h2 : c ≤ 70
    · dsimp only
      rw [if_pos (by simp; omega), bnd_ok, w8 (by omega) (by omega), if_pos ⟨h1, h2⟩]
    · dsimp only
      rw [if_neg (by simp; omega), bnd_ok, if_neg (by omega)]
  · rw [if_neg (by simp; omega), bnd_ok]
    dsimp only
    rw [if_neg (by simp), bnd_ok, if_neg (by omega)]

theorem small_loop {K B : Nat} {s : ByteArray} (hl : s.size ≤ 16777216) :
    ∀ (d i n : Nat) (w : World) (o : Sl) (ys : List Int), i + d = s.size → d < n → ys.length = i → Own 5 w o (ints .u8 ys) → Fresh B o → B ≤ w.heap.size →
      ∃ o' w', law01_small_l0 K n s o (i : Int) w = some ((o', ()), w') ∧ Own 5 w' o' (ints .u8 (ys ++ ((bl s).drop i).map smallC)) ∧ Below B w w' := by
  intro d
  induction d with
  | zero =>
    intro i n w o ys hi hn hy ho hf hB
    obtain ⟨n, rfl⟩ : ∃ m, n = m + 1 := ⟨n - 1, by omega⟩
    have eu : law01_small_l0 K (n + 1) = law01_small_l0_b K (law01_small_l0 K n) := rfl
    rw [eu]
    unfold law01_small_l0_b
    rw [if_neg (by simp; omega), List.drop_of_length_le (by rw [bl_len]; omega), List.map_nil, List.append_nil]
    exact ⟨o, w, rfl, ho, Below.refl B w⟩
  | succ d ih =>
    intro i n w o ys hi hn hy ho hf hB
    obtain ⟨n, rfl⟩ : ∃ m, n = m + 1 := ⟨n - 1, by omega⟩
    obtain ⟨b, hb, hd, _, hlt⟩ := bl_get s (i := i) (by omega)
    have ei : IntKind.i64.wrap ((i : Int) + 1) = ((i + 1 : Nat) : Int) := by rw [w64 (by omega) (by omega)]; rfl
    obtain ⟨t, w1, o2, w2, k1, k2, k3, k4, k5⟩ := push_ok (w := w) [smallC ((b.toNat : Nat) : Int)] (by simp) (by simp) ho (by omega) hf hB
    have k1 : bldS prog 25 1 #[(0, (.int .u8 (smallC ((b.toNat : Nat) : Int))))] w = some (t, w1) := k1
    obtain ⟨o3, w', g1, g2, g3⟩ := ih (i + 1) n w2 o2 _ (by omega) (by omega) (by rw [List.length_append, List.length_singleton]; omega) k3 k5 (Nat.le_trans hB k4.size)
    refine ⟨o3, w', ?_, ?_, k4.trans g3⟩
    · have eu : law01_small_l0 K (n + 1) = law01_small_l0_b K (law01_small_l0 K n) := rfl
      rw [eu]
      unfold law01_small_l0_b
      rw [if_pos (by simp; omega), if_pos (by omega), Int.toNat_natCast, hb, Option.bind_some, small_two (by omega)]
      dsimp only
      rw [k1, bnd_ok, k2, bnd_ok, ei, g1]
    · rw [hd, List.map_cons]
      rw [List.append_assoc] at g2
      exact g2

theorem small_ok {K : Nat} (hK : 18446744073709551616 ≤ K) {s : ByteArray} (hl : s.size ≤ 16777216) (w : World) :
    ∃ w', law01_small K s w = some ((bytesOf ((bl s).map smallC), ()), w') ∧ Upd none_ w w' := by
  obtain ⟨o, w', g1, g2, g3⟩ := small_loop (K := K) (B := w.heap.size) hl s.size 0 K w nilS [] (by omega) (by omega) rfl (Own.nil ..) (fun k hk => by cases hk) (Nat.le_refl _)
  have g1 : law01_small_l0 K K s ⟨none, 0, 0⟩ 0 w = _ := g1
  rw [List.drop_zero, List.nil_append] at g2
  refine ⟨w', ?_, Upd.of_below g3⟩
  unfold law01_small
  rw [g1, bnd_ok, b2s_ok g2.rd, bnd_ok]

theorem size_bytesOf (xs : List Int) : (bytesOf xs).size = xs.length := by
  show ((u8s xs).toArray).size = _
  rw [List.size_toArray, u8s_len]

theorem back2 {K : Nat} (hK : 18446744073709551616 ≤ K) {s : ByteArray} (hl : s.size ≤ 65536) (w : World) :
    ∃ o e p w' w2, digest_FromHex K s w = some ((o, e, p, ()), w') ∧ law01_DigestTextBack_s2 K s o e p w' = some ((false, ()), w2) ∧ Below w.heap.size w w2 := by
  obtain ⟨o, w1, h1, h2, h3, h4⟩ := FromHex_ok hK (s := s) (by omega) w
  cases hr : fromHex (bl s) 0 [] with
  | ok ys =>
    rw [hr] at h1 h2
    obtain ⟨zs, e1, e2, e3, e4⟩ := fromHex_good _ _ _ _ hr
    rw [List.nil_append] at e1
    subst e1
    rw [bl_len] at e4
    have h2 : Own 5 w1 o (ints .u8 ys) := h2
    obtain ⟨w2, k2, u2⟩ := Hex_ok hK (h2.src ints_one) e3 (by omega)
    obtain ⟨w3, k3, u3⟩ := small_ok hK (s := s) (by omega) w2
    have z1 := h4.size
    have z2 := u2.size
    refine ⟨o, 0, 0, w1, w3, h1, ?_, (h4.trans (u2.below z1 fun _ _ => id)).trans (u3.below (by omega) fun _ _ => id)⟩
    unfold law01_DigestTextBack_s2 law01_num
    simp only [Option.bind_some, beq_self_eq_true, if_true]
    rw [k2, bnd_ok, k3, bnd_ok, e2]
    simp
  | error j =>
    rw [hr] at h1 h2
    have hj := fromHex_bad hr
    rw [bl_len] at hj
    have hol : o.len = 0 := h2.len
    refine ⟨o, 13, (j : Int), w1, w1, h1, ?_, h4⟩
    unfold law01_DigestTextBack_s2 law01_num
    simp only [Option.bind_some]
    rw [if_neg (by decide), if_pos (by decide), hol, if_neg (by decide), if_neg (by simp)]
    have : decide ((j : Int) > ((s.size : Nat) : Int)) = false := by simp; omega
    rw [this]

theorem DigestTextBack_ok {K : Nat} (hK : 18446744073709551616 ≤ K) (s : ByteArray) {b : Sl} {xs : List Int} {w : World} (hs : Src w b (ints .u8 xs)) (hx : ∀ x ∈ xs, InK .u8 x) :
    ∃ w', law01_DigestTextBack K b s w = some ((true, ()), w') ∧ Below w.heap.size w w' := by
  have hbl : b.len = xs.length := by rw [hs.len, ints_length]
  unfold law01_DigestTextBack law01_DigestTextBack_s0
  by_cases h2 : xs.length > 65536
  · rw [if_pos (by rw [hbl]; simp; omega), bnd_ok, if_pos rfl]
    exact ⟨w, rfl, Below.refl _ w⟩
  · rw [if_neg (by rw [hbl]; simp; omega), bnd_ok]
    by_cases h1 : s.size > 65536
    · rw [if_pos (by simp; omega)]
      exact ⟨w, rfl, Below.refl _ w⟩
    · rw [if_neg (by simp; omega)]
      obtain ⟨w1, k1, u1⟩ := Hex_ok hK hs hx (by omega)
      obtain ⟨w2, k2, u2⟩ := Base64_ok hK (hs.upd0 u1) hx (by omega)
      have lh : (hexOf xs).length ≤ 131072 := by rw [hexOf_len]; omega
      have lb : (b64Of xs).length ≤ 262148 := by have := b64Of_len_le xs; omega
      obtain ⟨x, w3, k3, ox, fx, b3⟩ := FromHex_ok hK (s := bytesOf (hexOf xs)) (by rw [size_bytesOf]; omega) w2
      obtain ⟨y, w4, k4, oy, fy, b4⟩ := FromBase64_ok hK (s := bytesOf (b64Of xs)) (by rw [size_bytesOf]; omega) w3
      rw [bl_bytesOf (hexOf_in hx), fromHex_hexOf xs hx] at k3 ox
      rw [bl_bytesOf (b64Of_in xs hx), fromB_b64Of xs hx] at k4 oy
      have k3 : digest_FromHex K (bytesOf (hexOf xs)) w2 = some ((x, 0, 0, ()), w3) := k3
      have k4 : digest_FromBase64 K (bytesOf (b64Of xs)) w3 = some ((y, 0, 0, ()), w4) := k4
      have ox : Own 5 w3 x (ints .u8 xs) := ox
      have oy : Own 5 w4 y (ints .u8 xs) := oy
      have z1 := u1.size
      have z2 := u2.size
      have z3 := b3.size
      have z4 := b4.size
      have hs4 : Src w4 b (ints .u8 xs) := ((((hs.upd0 u1).upd0 u2).below b3).below b4)
      have ox4 := own_below ox b4 (Nat.le_refl _)
      obtain ⟨w5, k5, u5⟩ := SameBytes_ok hK ox4.rd hs4.rds (by omega)
      obtain ⟨w6, k6, u6⟩ := SameBytes_ok hK (oy.upd0 u5).rd (hs4.upd0 u5).rds (by omega)
      have z5 := u5.size
      have z6 := u6.size
      have s1 : law01_DigestTextBack_s1 K b (bytesOf (hexOf xs)) (bytesOf (b64Of xs)) x 0 0 y 0 0 w4 = some ((false, ()), w6) := by
        unfold law01_DigestTextBack_s1 law01_num
        simp only [Option.bind_some, bne_self_eq_false, Bool.false_eq_true, if_false]
        rw [k5, bnd_ok]
        simp only [decide_true, Bool.not_true, Bool.false_eq_true, if_false]
        rw [k6, bnd_ok]
        simp only [decide_true, Bool.not_true, Bool.false_eq_true, if_false]
        rw [size_bytesOf, size_bytesOf, hexOf_len, b64Of_len, hbl]
        have e1 : IntKind.i64.wrap (2 * ((xs.length : Nat) : Int)) = ((2 * xs.length : Nat) : Int) := by rw [w64 (by omega) (by omega)]; omega
        have e2 : IntKind.i64.wrap ((IntKind.i64.wrap (Int.tdiv (IntKind.i64.wrap (((xs.length : Nat) : Int) + 2)) 3)) * 4) = (((xs.length + 2) / 3 * 4 : Nat) : Int) := by
          have e3 : ((xs.length : Nat) : Int) + 2 = ((xs.length + 2 : Nat) : Int) := by omega
          rw [w64 (n := ((xs.length : Nat) : Int) + 2) (by omega) (by omega), e3, show (3 : Int) = ((3 : Nat) : Int) from rfl, tdiv_nat, w64 (n := (((xs.length + 2) / 3 : Nat) : Int)) (by omega) (by omega), w64 (by omega) (by omega)]; omega
        rw [e1, e2]
        simp only [bne_self_eq_false, Bool.false_eq_true, if_false]
      have b6 : Below w.heap.size w w6 := (((((u1.below (Nat.le_refl _) fun _ _ => id).trans (u2.below z1 fun _ _ => id)).trans (b3.mono (by omega))).trans (b4.mono (by omega))).trans (u5.below (by omega) fun _ _ => id)).trans (u6.below (by omega) fun _ _ => id)
      obtain ⟨o7, e7, p7, w7, w8, k7, k8, b8⟩ := back2 hK (s := s) (by omega) w6
      have z8 := b8.size
      obtain ⟨o9, w9, k9, q9, f9, b9⟩ := FromBase64_ok hK (s := s) (by omega) w8
      have z9 := b9.size
      have b09 : Below w.heap.size w w9 := (b6.trans (b8.mono (by omega))).trans (b9.mono (by omega))
      rw [k1, bnd_ok, k2, bnd_ok]
      dsimp only
      rw [k3, bnd_ok, k4, bnd_ok]
      dsimp only
      rw [s1, bnd_ok]
      dsimp only
      rw [if_neg (by simp), k7, bnd_ok]
      dsimp only
      rw [k8, bnd_ok]
      dsimp only
      rw [if_neg (by simp), k9, bnd_ok]
      cases hr : fromB (bl s) 0 [] with
      | ok ys =>
        rw [hr] at q9
        obtain ⟨_, zs, e1, e2, e3, e4⟩ := fromB_good _ _ _ _ hr
        rw [List.nil_append] at e1
        subst e1
        rw [bl_len] at e4
        have q9 : Own 5 w9 o9 (ints .u8 ys) := q9
        obtain ⟨w10, k10, u10⟩ := Base64_ok hK (q9.src ints_one) e3 (by omega)
        refine ⟨w10, ?_, b09.trans (u10.below (by omega) fun _ _ => id)⟩
        unfold law01_num ansX
        simp only [Option.bind_some, beq_self_eq_true, if_true]
        rw [k10, bnd_ok, e2, bytesOf_bl]
        simp
      | error j =>
        rw [hr] at q9
        have hj := fromB_bad _ _ _ _ rfl hr
        rw [bl_len] at hj
        have hol : o9.len = 0 := q9.len
        refine ⟨w9, ?_, b09⟩
        unfold law01_num ansX
        simp only [Option.bind_some]
        rw [if_neg (by decide), if_pos (by decide), hol, if_pos (by decide), if_pos (by simp)]
        have : decide ((j : Int) ≤ ((s.size : Nat) : Int)) = true := by simp; omega
        rw [this]

end Go.Sh

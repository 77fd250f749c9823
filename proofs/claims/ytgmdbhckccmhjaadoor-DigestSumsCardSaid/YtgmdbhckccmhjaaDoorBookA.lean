/- What the helpers of the package cofferbook do. YtgmdbhckccmhjaaDoor, Tryd, 25, 5 are filled in for a seat (book.sh). -/
import Derived.Test.YtgmdbhckccmhjaaDoorFwO
import Derived.Test.YtgmdbhckccmhjaaDoorSh9
set_option linter.unusedVariables false
namespace Go.Sh
open Go.Fw Go.RowKit Go.Proofs.Tryd

theorem sliceB : OneSlice prog 25 5 (.int .u8 0) 1 := ⟨by kernel_rfl, ⟨t5, by kernel_rfl, by kernel_rfl, by kernel_rfl, by kernel_rfl⟩, by decide, rfl, rfl⟩

/-- A slice of bytes that came in, as the source of a copy. -/
theorem src_row {w : World} {a : Option Addr} {len cap : Nat} {zs : List Int}
    (h : (a = none ∧ len = 0 ∧ cap = 0 ∧ zs = []) ∨
      ∃ x, a = some x ∧ len ≤ cap ∧ cap ≤ 140737488351232 ∧ zs.length = cap ∧ (∀ i, i < zs.length → w.cell? (x.add i) = some (.int .u8 (zs.getD i 0))) ∧ ∀ n ∈ zs, (Lit.int .u8 n).wf = true) :
    ∃ xs, ((∀ x ∈ xs, InK .u8 x) ∧ xs.length ≤ 140737488351232) ∧ Src w ⟨a, len, cap⟩ (ints .u8 xs) := by
  rcases h with ⟨rfl, rfl, rfl, rfl⟩ | ⟨x, rfl, hl, hc, hz, hcell, hwz⟩
  · exact ⟨[], ⟨fun _ h => by simp at h, Nat.zero_le _⟩, rfl, Nat.le_refl _, .inl ⟨rfl, rfl, rfl⟩, ints_one⟩
  · refine ⟨zs.take len, ⟨fun n hn => ?_, by simp; omega⟩, by simp; omega, hl, .inr ⟨x, rfl, fun i v hv => ?_⟩, ints_one⟩
    · have := hwz n (List.mem_of_mem_take hn)
      have h2 : 0 ≤ n ∧ n ≤ 255 := by simpa [Lit.wf, IntKind.bits, IntKind.min, IntKind.max, IntKind.signed] using this
      exact ⟨h2.1, by have := h2.2; simp only [IntKind.bits]; omega⟩
    · have hi : i < zs.length := by
        have := (List.getElem?_eq_some_iff.1 hv).1
        simp at this; omega
      rw [hcell i hi]
      simp only [ints, List.getElem?_map, List.getElem?_take] at hv
      split at hv
      · simpa [List.getD_eq_getElem?_getD, List.getElem?_eq_getElem hi] using hv
      · simp at hv

/-! ### SameBytes -/

theorem SameBytes_loop (K : Nat) {a b : Sl} {xs ys : List Int} (hl : xs.length = ys.length) (hs : xs.length < 9223372036854775807) :
    ∀ (d i : Nat) (n : Nat) (w : World), i + d = xs.length → d < n → RdS .u8 w a xs → RdS .u8 w b ys →
      ∃ w', book_SameBytes_l0 K n a b (i : Int) w = some (if xs.drop i = ys.drop i then .norm () else .ret (false, ()), w') ∧ Upd none_ w w' := by
  intro d
  induction d with
  | zero =>
    intro i n w hi hn ha hb
    obtain ⟨n, rfl⟩ : ∃ m, n = m + 1 := ⟨n - 1, by omega⟩
    refine ⟨w, ?_, Upd.refl _ w⟩
    show book_SameBytes_l0_b K (book_SameBytes_l0 K n) a b (i : Int) w = _
    have e1 : xs.drop i = [] := List.drop_eq_nil_of_le (by omega)
    have e2 : ys.drop i = [] := List.drop_eq_nil_of_le (by omega)
    simp [book_SameBytes_l0_b, ha.len, show ¬ i < xs.length by omega, e1, e2]
  | succ d ih =>
    intro i n w hi hn ha hb
    obtain ⟨n, rfl⟩ : ∃ m, n = m + 1 := ⟨n - 1, by omega⟩
    show ∃ w', book_SameBytes_l0_b K (book_SameBytes_l0 K n) a b (i : Int) w = _ ∧ _
    obtain ⟨p, hp, hpl⟩ := ha.drew.ld
    obtain ⟨q, hq, hql⟩ := hb.drew.ld
    have hx : xs ≠ [] := by rintro rfl; simp at hi
    have hy : ys ≠ [] := fun e => by rw [e] at hl; simp at hl; exact hx hl
    have hil : i < xs.length := by omega
    have hil2 : i < ys.length := by omega
    have hw : IntKind.i64.wrap ((i : Int) + 1) = ((i + 1 : Nat) : Int) := by rw [w64 (by omega) (by omega)]; rfl
    have e1 : xs.drop i = xs[i] :: xs.drop (i + 1) := List.drop_eq_getElem_cons hil
    have e2 : ys.drop i = ys[i] :: ys.drop (i + 1) := List.drop_eq_getElem_cons hil2
    have l1 := hpl i hil
    have l2 := hql i hil2
    by_cases hne : xs[i] = ys[i]
    · obtain ⟨w', h1, h2⟩ := ih (i + 1) n w.drew (by omega) (by omega) ha.drew hb.drew
      refine ⟨w', ?_, ?_⟩
      · simp only [book_SameBytes_l0_b, ha.len, hb.len, Int.ofNat_lt, hil, hil2, decide_true, if_true, hp hx, hq hy, Option.bind_some, Int.natCast_nonneg, and_self, Int.toNat_natCast, Nat.mul_one, l1, l2, hne, bne_self_eq_false, Bool.false_eq_true, if_false, hw, h1, e1, e2, List.cons.injEq, true_and]
      · exact (Upd.refl none_ w).drew.trans' h2 fun _ _ e => e
    · refine ⟨w.drew, ?_, (Upd.refl none_ w).drew⟩
      have hb' : (xs[i] != ys[i]) = true := by simpa using hne
      simp only [book_SameBytes_l0_b, ha.len, hb.len, Int.ofNat_lt, hil, hil2, decide_true, if_true, hp hx, hq hy, Option.bind_some, Int.natCast_nonneg, and_self, Int.toNat_natCast, Nat.mul_one, l1, l2, hb', e1, e2, List.cons.injEq, hne, false_and, if_false]

theorem SameBytes_ok {K : Nat} (hK : 18446744073709551616 ≤ K) {a b : Sl} {xs ys : List Int} {w : World} (ha : RdS .u8 w a xs) (hb : RdS .u8 w b ys) (hs : xs.length < 9223372036854775807) :
    ∃ w', book_SameBytes K a b w = some ((decide (xs = ys), ()), w') ∧ Upd none_ w w' := by
  by_cases hl : xs.length = ys.length
  · obtain ⟨w', h1, h2⟩ := SameBytes_loop K (a := a) (b := b) hl hs xs.length 0 K w (by omega) (by omega) ha hb
    refine ⟨w', ?_, h2⟩
    have h1' : book_SameBytes_l0 K K a b 0 w = _ := h1
    simp only [book_SameBytes, ha.len, hb.len, hl, bne_self_eq_false, Bool.false_eq_true, if_false, h1', bnd_ok, List.drop_zero]
    by_cases h : xs = ys <;> simp [h]
  · refine ⟨w, ?_, Upd.refl _ w⟩
    have h1 : (((xs.length : Nat) : Int) != ((ys.length : Nat) : Int)) = true := by simp; omega
    have h2 : xs ≠ ys := fun e => hl (by rw [e])
    simp only [book_SameBytes, ha.len, hb.len, h1, if_true, h2, decide_false]

end Go.Sh

/- What the helpers of the package cofferbook do. YtgmdbhckccmhjaaDoor, Tryd, 25, 5 are filled in for a seat (book.sh). -/
import Derived.Test.YtgmdbhckccmhjaaDoorBookB
set_option linter.unusedVariables false
namespace Go.Sh
open Go.Fw Go.RowKit Go.Proofs.Tryd

/-! ### WholeBytes -/

/-- The front of what Bytes made. -/
theorem marked_front {w : World} {g cap : Nat} {bs : List Int} (h : Own 5 w ⟨some ⟨g, 0, none⟩, bs.length + 70, cap⟩ (ints .u8 (bs ++ marks))) :
    Own 5 w ⟨some ⟨g, 0, none⟩, bs.length, cap⟩ (ints .u8 bs) := by
  have := h.cut (n := bs.length) (Nat.le_add_right _ _)
  rw [ints_take, List.take_left] at this
  exact this

theorem WholeBytes_loop (K : Nat) {s : Sl} {bs : List Int} (hb : bs.length ≤ 140737488351232) :
    ∀ (d i n : Nat) (w : World), i + d = 70 → d < n → RdS .u8 w s (bs ++ marks) → book_WholeBytes_l0 K n ((bs.length : Nat) : Int) s (i : Int) w = some (.norm (), w) := by
  intro d
  induction d with
  | zero =>
    intro i n w hi hn hr
    obtain ⟨n, rfl⟩ : ∃ m, n = m + 1 := ⟨n - 1, by omega⟩
    have : i = 70 := by omega
    subst this
    show book_WholeBytes_l0_b K (book_WholeBytes_l0 K n) ((bs.length : Nat) : Int) s ((70 : Nat) : Int) w = _
    simp [book_WholeBytes_l0_b]
  | succ d ih =>
    intro i n w hi hn hr
    obtain ⟨n, rfl⟩ : ∃ m, n = m + 1 := ⟨n - 1, by omega⟩
    have hi70 : i < 70 := by omega
    show book_WholeBytes_l0_b K (book_WholeBytes_l0 K n) ((bs.length : Nat) : Int) s (i : Int) w = _
    have hll : s.len = bs.length + 70 := by rw [hr.len]; simp [marks_len]
    obtain ⟨p, hp, hpl⟩ := hr.ld
    have hne : bs ++ marks ≠ [] := by intro e; have := congrArg List.length e; simp [marks_len] at this
    have l1 := hpl (bs.length + i) (by simp [marks_len]; omega)
    have e1 : (bs ++ marks)[bs.length + i]'(by simp [marks_len]; omega) = marks[i]'(by rw [marks_len]; exact hi70) := by simp
    rw [e1] at l1
    have hw : IntKind.i64.wrap ((i : Int) + 1) = ((i + 1 : Nat) : Int) := by rw [w64 (by omega) (by omega)]; rfl
    have hw2 : IntKind.i64.wrap (((bs.length : Nat) : Int) + (i : Int)) = ((bs.length + i : Nat) : Int) := by rw [w64 (by omega) (by omega)]; rfl
    have hd : decide ((i : Int) < 70) = true := by simp; omega
    have hin : (0 : Int) ≤ ((bs.length + i : Nat) : Int) ∧ ((bs.length + i : Nat) : Int) < ((bs.length + 70 : Nat) : Int) := by omega
    simp only [book_WholeBytes_l0_b, hd, if_true, hp hne, Option.bind_some, hw2, hll, hin, and_self, Int.toNat_natCast, Nat.mul_one, l1, mark_at i hi70, bne_self_eq_false, Bool.false_eq_true, if_false, hw]
    exact ih (i + 1) n w (by omega) (by omega) hr

theorem WholeBytes_ok {K : Nat} (hK : 18446744073709551616 ≤ K) {g cap : Nat} {l : Sl} {bs xs : List Int} {w : World}
    (ho : Own 5 w ⟨some ⟨g, 0, none⟩, bs.length + 70, cap⟩ (ints .u8 (bs ++ marks))) (hl : RdS .u8 w l xs) (hb : bs.length ≤ 140737488351232) :
    ∃ w', book_WholeBytes K ⟨some ⟨g, 0, none⟩, bs.length, cap⟩ l w = some ((decide (bs = xs), ()), w') ∧ Upd none_ w w' := by
  obtain ⟨w1, h1, u1⟩ := SameBytes_ok hK (marked_front ho).rd hl (by omega)
  by_cases he : bs = xs
  · have hc := ho.cap.1
    have hc : bs.length + 70 ≤ cap := hc
    have ho1 := ho.upd0 u1
    have hlp := WholeBytes_loop K hb 70 0 K w1 (by omega) (by omega) ho1.rd
    have hlp : book_WholeBytes_l0 K K ((bs.length : Nat) : Int) ⟨some ⟨g, 0, none⟩, bs.length + 70, cap⟩ 0 w1 = _ := hlp
    have hw : IntKind.i64.wrap (((bs.length : Nat) : Int) + 70) = ((bs.length + 70 : Nat) : Int) := by rw [w64 (by omega) (by omega)]; rfl
    have hin : (0 : Int) ≤ ((bs.length + 70 : Nat) : Int) ∧ ((bs.length + 70 : Nat) : Int) ≤ ((cap : Nat) : Int) := by omega
    refine ⟨w1, ?_, u1⟩
    simp only [book_WholeBytes, h1, bnd_ok, decide_eq_true he, Bool.not_true, Bool.false_eq_true, if_false, hw, hin, and_self, if_true, sla_zero, Int.toNat_natCast, Nat.sub_zero, hlp]
  · refine ⟨w1, ?_, u1⟩
    simp only [book_WholeBytes, h1, bnd_ok, decide_eq_false he, Bool.not_false, if_true]

end Go.Sh

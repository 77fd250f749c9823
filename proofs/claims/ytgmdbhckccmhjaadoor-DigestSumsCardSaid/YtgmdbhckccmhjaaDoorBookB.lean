/- What the helpers of the package cofferbook do. YtgmdbhckccmhjaaDoor, Tryd, 25, 5 are filled in for a seat (book.sh). -/
import Derived.Test.YtgmdbhckccmhjaaDoorBookA
set_option linter.unusedVariables false
namespace Go.Sh
open Go.Fw Go.RowKit Go.Proofs.Tryd

/-! ### Bytes -/

def marks : List Int := (List.range 70).map fun i => (((181 + i) % 256 : Nat) : Int)

theorem marks_len : marks.length = 70 := rfl

theorem mark_at (i : Nat) (hi : i < 70) : IntKind.u8.wrap (IntKind.i64.wrap (181 + (i : Int))) = marks[i]'(by rw [marks_len]; exact hi) := by
  rw [w64 (by omega) (by omega), IntKind.wrap_u8]
  simp [marks]

theorem Bytes_loop (K B : Nat) (l : Sl) :
    ∀ (d i n : Nat) (w : World) (s : Sl) (xs : List Int), i + d = 70 → d < n → Own 5 w s (ints .u8 xs) → s.len + d ≤ 140737488355328 → B ≤ w.heap.size → Fresh B s →
      ∃ s' w', book_Bytes_l0 K n l s (i : Int) w = some ((s', ()), w') ∧ Own 5 w' s' (ints .u8 (xs ++ marks.drop i)) ∧ Below B w w' ∧ Fresh B s' := by
  intro d
  induction d with
  | zero =>
    intro i n w s xs hi hn ho hs hB hf
    obtain ⟨n, rfl⟩ : ∃ m, n = m + 1 := ⟨n - 1, by omega⟩
    have : i = 70 := by omega
    subst this
    refine ⟨s, w, ?_, ?_, Below.refl B w, hf⟩
    · show book_Bytes_l0_b K (book_Bytes_l0 K n) l s ((70 : Nat) : Int) w = _
      simp [book_Bytes_l0_b]
    · have : marks.drop 70 = [] := rfl
      rw [this, List.append_nil]; exact ho
  | succ d ih =>
    intro i n w s xs hi hn ho hs hB hf
    obtain ⟨n, rfl⟩ : ∃ m, n = m + 1 := ⟨n - 1, by omega⟩
    have hi70 : i < 70 := by omega
    obtain ⟨w1, h1, ho1, u1, hz1⟩ := bldS1_ok sliceB (.int .u8 (marks[i]'(by rw [marks_len]; exact hi70))) rfl w
    have hfr : ∀ k, s.blk = some k → ¬ (none_ k) := fun _ _ => id
    obtain ⟨s2, w2, h2, l2, ho2, u2, b2⟩ := apd_ok sliceB (ho.upd0 u1) (ho1.src (by simp [Value.oneCell'])) (by show (s.len + 1) * 1 ≤ _; omega)
    have bl1 : Below B w w1 := u1.below hB fun _ _ => id
    have bl2 : Below B w w2 := below_upd bl1 u2 (by omega) fun k hk e => by have := hf k e; omega
    have hf2 : Fresh B s2 := by
      intro k hk
      rcases b2 with e | e
      · exact hf k (e ▸ hk)
      · rw [e] at hk; have := Option.some.inj hk; omega
    obtain ⟨s3, w3, h3, ho3, bl3, hf3⟩ := ih (i + 1) n w2 s2 (xs ++ [marks[i]'(by rw [marks_len]; exact hi70)]) (by omega) (by omega) (by simpa using ho2) (by rw [l2]; show s.len + 1 + d ≤ _; omega) (by have := bl2.size; omega) hf2
    refine ⟨s3, w3, ?_, ?_, bl2.trans bl3, hf3⟩
    · show book_Bytes_l0_b K (book_Bytes_l0 K n) l s (i : Int) w = _
      have hw : IntKind.i64.wrap ((i : Int) + 1) = ((i + 1 : Nat) : Int) := by rw [w64 (by omega) (by omega)]; rfl
      have hd : decide ((i : Int) < 70) = true := by simp; omega
      simp only [book_Bytes_l0_b, hd, if_true, mark_at i hi70, h1, bnd_ok, h2, hw, h3]
    · have e : marks.drop i = marks[i]'(by rw [marks_len]; exact hi70) :: marks.drop (i + 1) := List.drop_eq_getElem_cons (by rw [marks_len]; exact hi70)
      rw [e]
      simpa using ho3

/-- Bytes: a copy, the marks behind it. -/
theorem Bytes_ok {K : Nat} (hK : 18446744073709551616 ≤ K) {l : Sl} {bs : List Int} {w : World} (hl : Src w l (ints .u8 bs)) (hb : bs.length ≤ 140737488351232) :
    ∃ g cap w', book_Bytes K l w = some ((⟨some ⟨g, 0, none⟩, bs.length, cap⟩, ()), w') ∧ Own 5 w' ⟨some ⟨g, 0, none⟩, bs.length + 70, cap⟩ (ints .u8 (bs ++ marks)) ∧ w.heap.size ≤ g ∧ Upd none_ w w' := by
  have hlen : l.len = bs.length := by simpa using hl.len
  obtain ⟨s1, w1, h1, l1, ho1, u1, b1⟩ := apd_ok sliceB (Own.nil 5 w) hl (by show (0 + l.len) * 1 ≤ _; omega)
  have bl1 : Below w.heap.size w w1 := u1.below (Nat.le_refl _) fun k _ e => by cases e
  have hf1 : Fresh w.heap.size s1 := by
    intro k hk
    rcases b1 with e | e
    · rw [e] at hk; cases hk
    · rw [e] at hk; have := Option.some.inj hk; omega
  obtain ⟨s2, w2, h2, ho2, bl2, hf2⟩ := Bytes_loop K w.heap.size l 70 0 K w1 s1 bs (by omega) (by omega) ho1 (by rw [l1]; show 0 + l.len + 70 ≤ _; omega) bl1.size hf1
  have h2' : book_Bytes_l0 K K l s1 0 w1 = _ := h2
  have ho2 : Own 5 w2 s2 (ints .u8 (bs ++ marks)) := ho2
  have hl2 : s2.len = bs.length + 70 := by rw [ho2.len]; simp [marks_len]
  obtain ⟨g, hg⟩ : ∃ g, s2.a = some ⟨g, 0, none⟩ := by
    rcases ho2.2 with ⟨a1, a2, _⟩ | ⟨g, cur, a1, _⟩
    · omega
    · exact ⟨g, a1⟩
  refine ⟨g, s2.cap, w2, ?_, ?_, hf2 g (by simp [Sl.blk, hg]), Upd.of_below (bl1.trans bl2)⟩
  · have hc := ho2.cap.1
    have hi : (0 : Int) ≤ ((l.len : Nat) : Int) ∧ ((l.len : Nat) : Int) ≤ ((s2.cap : Nat) : Int) := by omega
    have h1' : apd prog 25 25 (.slice none 0 0) (.slice l.a l.len l.cap) w = some (s1, w1) := h1
    simp only [book_Bytes, h1', bnd_ok, h2', hi, and_self, if_true, sla_zero, hg, Int.toNat_natCast, Nat.sub_zero]
    rw [hlen]
  · have : s2 = ⟨some ⟨g, 0, none⟩, bs.length + 70, s2.cap⟩ := by cases s2; simp_all
    rw [← this]; exact ho2

end Go.Sh

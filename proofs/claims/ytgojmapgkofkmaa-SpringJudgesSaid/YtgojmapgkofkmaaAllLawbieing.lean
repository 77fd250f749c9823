/- Texts of this claim, put together: Judge, Judges, JLaw -/
import Derived.Test.YtgojmapgkofkmaaAllShjjjmhm
import Derived.Test.YtgojmapgkofkmaaAllFwddlidb
/- 'cofferlaw06.SpringJudges' returns true, whatever the numbers. -/
set_option linter.unusedVariables false
namespace Go.Sh
open Go.Fw Go.RowKit Go.Proofs.Try

/-- the cells of fifteen numbers -/
def hcs (hs : List Int) : Array Value := (ints .i64 hs).toArray
theorem hcs_size (hs : List Int) : (hcs hs).size = hs.length := by simp [hcs]

theorem newH (hs : List Int) (t : TypeId) (w : World) : ∃ w', newB (hcs hs) t w = some (⟨w.heap.size, 0, none⟩, w') ∧ Bk t w' w.heap.size (ints .i64 hs) ∧ Upd none_ w w' := by
  obtain ⟨w', h1, h2, h3, _⟩ := newB_ok (hcs hs) t w
  exact ⟨w', h1, h2, h3⟩
theorem hld {t : TypeId} {w : World} {g : Nat} {hs : List Int} (b : Bk t w g (ints .i64 hs)) {i : Nat} (hi : i < hs.length) : ldI .i64 ((⟨g, 0, none⟩ : Addr).add i) w = some (hs.getD i 0) := by
  rw [add_lit, Nat.zero_add]
  exact b.ldI (by rw [ints_get hi, List.getD_eq_getElem?_getD, List.getElem?_eq_getElem hi]; rfl)
theorem hldA {t : TypeId} {w : World} {g : Nat} {hs : List Int} (b : Bk t w g (ints .i64 hs)) {i n : Nat} (hi : i + n ≤ hs.length) : ldA n ((⟨g, 0, none⟩ : Addr).add i) w = some (hcs ((hs.drop i).take n)) := by
  rw [add_lit, Nat.zero_add, b.ldA (by rw [ints_length]; exact hi)]
  simp [hcs, ints, List.map_take, List.map_drop]

def cutE (hs : List Int) (i : Nat) : List Int := [hs.getD (4 + 2 * i) 0, hs.getD (5 + 2 * i) 0]
theorem ends_at {hs : List Int} (hl : hs.length = 15) {i : Nat} (hi : i < 4) : (hcs ((hs.drop 4).take 8)).extract (i * 2) (i * 2 + 2) = hcs (cutE hs i) := by
  match hs, hl with
  | [a0, a1, a2, a3, a4, a5, a6, a7, a8, a9, a10, a11, a12, a13, a14], _ =>
    rcases (show i = 0 ∨ i = 1 ∨ i = 2 ∨ i = 3 by omega) with rfl | rfl | rfl | rfl <;> rfl
theorem cut_at {hs : List Int} (hl : hs.length = 15) {i : Nat} (hi : i < 4) : (hs.drop (4 + i * 2)).take 2 = cutE hs i := by
  match hs, hl with
  | [a0, a1, a2, a3, a4, a5, a6, a7, a8, a9, a10, a11, a12, a13, a14], _ =>
    rcases (show i = 0 ∨ i = 1 ∨ i = 2 ∨ i = 3 by omega) with rfl | rfl | rfl | rfl <;> rfl

def endIn (hs : List Int) (i : Nat) : Prop := -(hs.getD 0 0) ≤ hs.getD (4 + 2 * i) 0 ∧ hs.getD (4 + 2 * i) 0 ≤ hs.getD 0 0 ∧ -(hs.getD 0 0) ≤ hs.getD (5 + 2 * i) 0 ∧ hs.getD (5 + 2 * i) 0 ≤ hs.getD 0 0
instance (hs : List Int) (i : Nat) : Decidable (endIn hs i) := by unfold endIn; infer_instance
def endsOk (hs : List Int) : Nat → Nat → Bool
  | 0, _ => true
  | d + 1, i => decide (endIn hs i) && endsOk hs d (i + 1)
def bigE (hs : List Int) (i : Nat) : Bool := decide (hs.getD (4 + 2 * i) 0 * hs.getD (4 + 2 * i) 0 + hs.getD (5 + 2 * i) 0 * hs.getD (5 + 2 * i) 0 > 32 * hs.getD 0 0)
def bigAny (hs : List Int) : Nat → Nat → Bool
  | 0, _ => false
  | d + 1, i => bigE hs i || bigAny hs d (i + 1)
/-- can these be the numbers of bytes that are judged? -/
def canP (hs : List Int) : Prop :=
  (64 ≤ hs.getD 0 0 ∧ hs.getD 0 0 ≤ 1048576) ∧ endsOk hs 4 0 = true ∧ 1 ≤ hs.getD 1 0 ∧ hs.getD 1 0 ≤ hs.getD 0 0 ∧ 1 ≤ hs.getD 2 0 ∧ hs.getD 2 0 ≤ (if 512 < hs.getD 0 0 then 512 else hs.getD 0 0) ∧
    0 ≤ hs.getD 3 0 ∧ hs.getD 3 0 ≤ 8 * hs.getD 0 0 ∧ 0 ≤ hs.getD 14 0 ∧ hs.getD 14 0 < 8 * hs.getD 0 0 ∧ 0 ≤ hs.getD 13 0 ∧ hs.getD 13 0 ≤ 4 * (hs.getD 0 0 * hs.getD 0 0) ∧ 0 ≤ hs.getD 12 0 ∧ hs.getD 12 0 ≤ hs.getD 0 0 * hs.getD 0 0
instance (hs : List Int) : Decidable (canP hs) := by unfold canP; infer_instance

theorem ndec {p : Prop} [Decidable p] (h : ¬ p) : ¬ (decide p = true) := fun e => h (of_decide_eq_true e)

theorem sq_le {c : Int} (h0 : 0 ≤ c) (h1 : c ≤ 1048576) : 0 ≤ c * c ∧ c * c ≤ 1099511627776 := by
  refine ⟨Int.mul_nonneg h0 h0, ?_⟩
  have := Int.mul_le_mul h1 h1 h0 (by omega)
  omega

theorem can_l1 {K : Nat} {hs : List Int} (hl : hs.length = 15) (hc : 64 ≤ hs.getD 0 0 ∧ hs.getD 0 0 ≤ 1048576) (p : Addr) :
    ∀ (d i n : Nat) (w : World), i + d = 4 → d < n → ∃ w', spring_can_l1 K n p (hs.getD 0 0) (hcs ((hs.drop 4).take 8)) (i : Int) w = some (if endsOk hs d i = true then .norm () else .ret (false, ()), w') ∧ Upd none_ w w' := by
  intro d
  induction d with
  | zero =>
    intro i n w hi hn
    obtain ⟨n, rfl⟩ : ∃ m, n = m + 1 := ⟨n - 1, by omega⟩
    have eu : spring_can_l1 K (n + 1) = spring_can_l1_b K (spring_can_l1 K n) := rfl
    rw [eu]
    unfold spring_can_l1_b
    rw [if_neg (by simp; omega)]
    exact ⟨w, rfl, Upd.refl _ w⟩
  | succ d ih =>
    intro i n w hi hn
    obtain ⟨n, rfl⟩ : ∃ m, n = m + 1 := ⟨n - 1, by omega⟩
    have eu : spring_can_l1 K (n + 1) = spring_can_l1_b K (spring_can_l1 K n) := rfl
    rw [eu]
    unfold spring_can_l1_b
    have c0 : (0 : Int) ≤ (i : Int) ∧ (i : Int) < ((4 : Nat) : Int) := by omega
    have e1 : IntKind.i64.wrap ((i : Int) + 1) = ((i + 1 : Nat) : Int) := by rw [w64 (by omega) (by omega)]; rfl
    have e2 : IntKind.i64.wrap (0 - hs.getD 0 0) = -(hs.getD 0 0) := by rw [w64 (by omega) (by omega)]; omega
    obtain ⟨w1, n1, b1, u1, z1⟩ := newB_ok z26 26 w
    obtain ⟨w2, s1, s2, s3⟩ := b1.stA (o := 0) (vs := hcs (cutE hs i)) (by simp [hcs, z26, cutE]) (by intro v hv; simp [hcs, ints, cutE] at hv; rcases hv with rfl | rfl <;> rfl)
    have hb : Bk 26 w2 w.heap.size (ints .i64 (cutE hs i)) := by
      have : seg z26.toList 0 (hcs (cutE hs i)).toList = ints .i64 (cutE hs i) := by simp [seg, hcs, z26, cutE, ints]
      rw [this] at s2; exact s2
    have l0 := hld hb (i := 0) (by simp [cutE])
    have l1 := hld hb (i := 1) (by simp [cutE])
    have q2 : Upd none_ w w2 := u1.trans' s3 fun k hk e => by omega
    rw [if_pos (by simp; omega), if_pos c0, n1, bnd_ok, Int.toNat_natCast, ends_at hl (by omega), if_pos (by simp [hcs, cutE]), s1, Option.bind_some, l0, Option.bind_some, Option.bind_some, l1, Option.bind_some, Option.bind_some, e1, e2]
    have g0 : (cutE hs i).getD 0 0 = hs.getD (4 + 2 * i) 0 := rfl
    have g1 : (cutE hs i).getD 1 0 = hs.getD (5 + 2 * i) 0 := rfl
    rw [g0, g1]
    by_cases hin : endIn hs i
    · obtain ⟨h1, h2, h3, h4⟩ := hin
      rw [if_neg (ndec (by omega)), if_neg (ndec (by omega)), if_neg (ndec (by omega)), if_neg (ndec (by omega))]
      obtain ⟨w3, k1, k2⟩ := ih (i + 1) n w2 (by omega) (by omega)
      refine ⟨w3, ?_, q2.and0 k2⟩
      rw [k1]
      have : endsOk hs (d + 1) i = endsOk hs d (i + 1) := by simp only [endsOk]; rw [decide_eq_true (show endIn hs i from ⟨h1, h2, h3, h4⟩), Bool.true_and]
      rw [this]
    · have : endsOk hs (d + 1) i = false := by simp only [endsOk]; rw [decide_eq_false hin, Bool.false_and]
      have hif : (if endsOk hs (d + 1) i = true then Out.norm () else Out.ret (false, ()) : Out Unit (Bool × Unit)) = .ret (false, ()) := if_neg (by rw [this]; decide)
      rw [hif]
      unfold endIn at hin
      refine ⟨w2, ?_, q2⟩
      by_cases h1 : hs.getD (4 + 2 * i) 0 < -(hs.getD 0 0)
      · rw [if_pos (decide_eq_true h1)]
      · rw [if_neg (ndec h1)]
        by_cases h2 : hs.getD (4 + 2 * i) 0 > hs.getD 0 0
        · rw [if_pos (decide_eq_true h2)]
        · rw [if_neg (ndec h2)]
          by_cases h3 : hs.getD (5 + 2 * i) 0 < -(hs.getD 0 0)
          · rw [if_pos (decide_eq_true h3)]
          · rw [if_neg (ndec h3), if_pos (decide_eq_true (by omega))]

theorem can_ok {K : Nat} (hK : 18446744073709551616 ≤ K) {hs : List Int} (hl : hs.length = 15) (w : World) : ∃ w', spring_can K (hcs hs) w = some ((decide (canP hs), ()), w') ∧ Upd none_ w w' := by
  obtain ⟨w1, n1, b1, u1⟩ := newH hs 29 w
  have L : ∀ i, i < 15 → ∀ {w'}, Upd none_ w1 w' → ldI .i64 ((⟨w.heap.size, 0, none⟩ : Addr).add i) w' = some (hs.getD i 0) := fun i hi w' u => hld (b1.upd0 u) (by omega)
  unfold spring_can spring_can_s0
  rw [n1, bnd_ok, L 0 (by omega) (Upd.refl _ _), Option.bind_some, Option.bind_some]
  by_cases h1 : hs.getD 0 0 < 64
  · rw [if_pos (decide_eq_true h1), bnd_ok]
    dsimp only
    rw [if_pos rfl, decide_eq_false (fun h => by have := h.1.1; omega)]
    exact ⟨w1, rfl, u1⟩
  · rw [if_neg (ndec h1), bnd_ok]
    dsimp only
    by_cases h2 : hs.getD 0 0 > 1048576
    · rw [if_pos (decide_eq_true h2), decide_eq_false (fun h => by have := h.1.2; omega)]
      exact ⟨w1, rfl, u1⟩
    · have hc : 64 ≤ hs.getD 0 0 ∧ hs.getD 0 0 ≤ 1048576 := by omega
      obtain ⟨q0, q1⟩ := sq_le (c := hs.getD 0 0) (by omega) (by omega)
      obtain ⟨w2, k1, k2⟩ := can_l1 (K := K) hl hc ⟨w.heap.size, 0, none⟩ 4 0 K w1 rfl (by omega)
      have k1 : spring_can_l1 K K ⟨w.heap.size, 0, none⟩ (hs.getD 0 0) (hcs ((hs.drop 4).take 8)) 0 w1 = _ := k1
      rw [if_neg (ndec h2), L 0 (by omega) (Upd.refl _ _), Option.bind_some, hldA b1 (by omega), Option.bind_some, k1, bnd_ok]
      refine ⟨w2, ?_, u1.and0 k2⟩
      have e8 : IntKind.i64.wrap (8 * hs.getD 0 0) = 8 * hs.getD 0 0 := w64 (by omega) (by omega)
      have ecc : IntKind.i64.wrap (hs.getD 0 0 * hs.getD 0 0) = hs.getD 0 0 * hs.getD 0 0 := w64 (by omega) (by omega)
      have e4c : IntKind.i64.wrap ((IntKind.i64.wrap (4 * hs.getD 0 0)) * hs.getD 0 0) = 4 * (hs.getD 0 0 * hs.getD 0 0) := by
        rw [w64 (n := 4 * hs.getD 0 0) (by omega) (by omega), Int.mul_assoc, w64 (by omega) (by omega)]
      by_cases he : endsOk hs 4 0 = true
      · rw [if_pos he]
        dsimp only
        simp only [L 0 (by omega) k2, L 1 (by omega) k2, L 2 (by omega) k2, L 3 (by omega) k2, L 12 (by omega) k2, L 13 (by omega) k2, L 14 (by omega) k2, Option.bind_some, e8, e4c, ecc]
        by_cases t1 : ¬ (1 ≤ hs.getD 1 0)
        · rw [if_neg (ndec t1), decide_eq_false (fun h => by obtain ⟨_, _, g1, g2, g3, g4, g5, g6, g7, g8, g9, g10, g11, g12⟩ := h; omega)]
        have t1 := Decidable.not_not.1 t1
        rw [if_pos (decide_eq_true t1)]
        by_cases t2 : ¬ (hs.getD 1 0 ≤ hs.getD 0 0)
        · rw [if_neg (ndec t2), decide_eq_false (fun h => by obtain ⟨_, _, g1, g2, g3, g4, g5, g6, g7, g8, g9, g10, g11, g12⟩ := h; omega)]
        have t2 := Decidable.not_not.1 t2
        rw [if_pos (decide_eq_true t2)]
        by_cases t3 : ¬ (1 ≤ hs.getD 2 0)
        · rw [if_neg (ndec t3), decide_eq_false (fun h => by obtain ⟨_, _, g1, g2, g3, g4, g5, g6, g7, g8, g9, g10, g11, g12⟩ := h; omega)]
        have t3 := Decidable.not_not.1 t3
        rw [if_pos (decide_eq_true t3)]
        by_cases t4 : ¬ (hs.getD 2 0 ≤ (if 512 < hs.getD 0 0 then 512 else hs.getD 0 0))
        · rw [if_neg (ndec t4), decide_eq_false (fun h => by obtain ⟨_, _, g1, g2, g3, g4, g5, g6, g7, g8, g9, g10, g11, g12⟩ := h; omega)]
        have t4 := Decidable.not_not.1 t4
        rw [if_pos (decide_eq_true t4)]
        by_cases t5 : ¬ (0 ≤ hs.getD 3 0)
        · rw [if_neg (ndec t5), decide_eq_false (fun h => by obtain ⟨_, _, g1, g2, g3, g4, g5, g6, g7, g8, g9, g10, g11, g12⟩ := h; omega)]
        have t5 := Decidable.not_not.1 t5
        rw [if_pos (decide_eq_true t5)]
        by_cases t6 : ¬ (hs.getD 3 0 ≤ 8 * hs.getD 0 0)
        · rw [if_neg (ndec t6), decide_eq_false (fun h => by obtain ⟨_, _, g1, g2, g3, g4, g5, g6, g7, g8, g9, g10, g11, g12⟩ := h; omega)]
        have t6 := Decidable.not_not.1 t6
        rw [if_pos (decide_eq_true t6)]
        by_cases t7 : ¬ (0 ≤ hs.getD 14 0)
        · rw [if_neg (ndec t7), decide_eq_false (fun h => by obtain ⟨_, _, g1, g2, g3, g4, g5, g6, g7, g8, g9, g10, g11, g12⟩ := h; omega)]
        have t7 := Decidable.not_not.1 t7
        rw [if_pos (decide_eq_true t7)]
        by_cases t8 : ¬ (hs.getD 14 0 < 8 * hs.getD 0 0)
        · rw [if_neg (ndec t8), decide_eq_false (fun h => by obtain ⟨_, _, g1, g2, g3, g4, g5, g6, g7, g8, g9, g10, g11, g12⟩ := h; omega)]
        have t8 := Decidable.not_not.1 t8
        rw [if_pos (decide_eq_true t8)]
        by_cases t9 : ¬ (0 ≤ hs.getD 13 0)
        · rw [if_neg (ndec t9), decide_eq_false (fun h => by obtain ⟨_, _, g1, g2, g3, g4, g5, g6, g7, g8, g9, g10, g11, g12⟩ := h; omega)]
        have t9 := Decidable.not_not.1 t9
        rw [if_pos (decide_eq_true t9)]
        by_cases t10 : ¬ (hs.getD 13 0 ≤ 4 * (hs.getD 0 0 * hs.getD 0 0))
        · rw [if_neg (ndec t10), decide_eq_false (fun h => by obtain ⟨_, _, g1, g2, g3, g4, g5, g6, g7, g8, g9, g10, g11, g12⟩ := h; omega)]
        have t10 := Decidable.not_not.1 t10
        rw [if_pos (decide_eq_true t10)]
        by_cases t11 : ¬ (0 ≤ hs.getD 12 0)
        · rw [if_neg (ndec t11), decide_eq_false (fun h => by obtain ⟨_, _, g1, g2, g3, g4, g5, g6, g7, g8, g9, g10, g11, g12⟩ := h; omega)]
        have t11 := Decidable.not_not.1 t11
        rw [if_pos (decide_eq_true t11)]
        have : decide (hs.getD 12 0 ≤ hs.getD 0 0 * hs.getD 0 0) = decide (canP hs) :=
          decide_eq_decide.2 ⟨fun h => ⟨hc, he, t1, t2, t3, t4, t5, t6, t7, t8, t9, t10, t11, h⟩, fun h => h.2.2.2.2.2.2.2.2.2.2.2.2.2⟩
        rw [this]
      · rw [if_neg he]
        dsimp only
        rw [decide_eq_false (fun h => he h.2.1)]

theorem sqb {c x : Int} (h1 : -c ≤ x) (h2 : x ≤ c) : 0 ≤ x * x ∧ x * x ≤ c * c := by
  rcases Int.le_total 0 x with h | h
  · exact ⟨Int.mul_nonneg h h, Int.mul_le_mul h2 h2 h (by omega)⟩
  · have e : x * x = (-x) * (-x) := by rw [Int.neg_mul_neg]
    rw [e]
    exact ⟨Int.mul_nonneg (by omega) (by omega), Int.mul_le_mul (by omega) (by omega) (by omega) (by omega)⟩

theorem square_ok (x y : Int) (w : World) : ∃ w', spring_square (hcs [x, y]) w = some ((IntKind.i64.wrap ((IntKind.i64.wrap (x * x)) + (IntKind.i64.wrap (y * y))), ()), w') ∧ Upd none_ w w' := by
  obtain ⟨w1, n1, b1, u1⟩ := newH [x, y] 26 w
  have l0 := hld b1 (i := 0) (by simp)
  have l1 := hld b1 (i := 1) (by simp)
  have g0 : [x, y].getD 0 0 = x := rfl
  have g1 : [x, y].getD 1 0 = y := rfl
  rw [g0] at l0
  rw [g1] at l1
  refine ⟨w1, ?_, u1⟩
  unfold spring_square
  rw [n1, bnd_ok, l0, Option.bind_some, Option.bind_some, l1, Option.bind_some, Option.bind_some]

theorem endsOk_at {hs : List Int} {d i : Nat} (h : endsOk hs (d + 1) i = true) : endIn hs i ∧ endsOk hs d (i + 1) = true := by
  simp only [endsOk, Bool.and_eq_true, decide_eq_true_eq] at h
  exact h

theorem big_eq {hs : List Int} {i : Nat} (hc : 64 ≤ hs.getD 0 0 ∧ hs.getD 0 0 ≤ 1048576) (h : endIn hs i) :
    decide (IntKind.i64.wrap ((IntKind.i64.wrap (hs.getD (4 + 2 * i) 0 * hs.getD (4 + 2 * i) 0)) + (IntKind.i64.wrap (hs.getD (5 + 2 * i) 0 * hs.getD (5 + 2 * i) 0))) > IntKind.i64.wrap (32 * hs.getD 0 0)) = bigE hs i := by
  obtain ⟨h1, h2, h3, h4⟩ := h
  obtain ⟨q0, q1⟩ := sq_le (c := hs.getD 0 0) (by omega) (by omega)
  obtain ⟨a0, a1⟩ := sqb h1 h2
  obtain ⟨b0, b1⟩ := sqb h3 h4
  unfold bigE
  rw [w64 (n := hs.getD (4 + 2 * i) 0 * hs.getD (4 + 2 * i) 0) (by omega) (by omega), w64 (n := hs.getD (5 + 2 * i) 0 * hs.getD (5 + 2 * i) 0) (by omega) (by omega), w64 (n := 32 * hs.getD 0 0) (by omega) (by omega), w64 (by omega) (by omega)]

theorem judge_l2 {K : Nat} {hs : List Int} (hl : hs.length = 15) (hc : 64 ≤ hs.getD 0 0 ∧ hs.getD 0 0 ≤ 1048576) :
    ∀ (d i n : Nat) (w : World) (sick : Bool), i + d = 4 → d < n → endsOk hs d i = true → ∃ w', spring_Judge_l2 K n (hs.getD 0 0) sick (hcs ((hs.drop 4).take 8)) (i : Int) w = some ((sick || bigAny hs d i, ()), w') ∧ Upd none_ w w' := by
  intro d
  induction d with
  | zero =>
    intro i n w sick hi hn he
    obtain ⟨n, rfl⟩ : ∃ m, n = m + 1 := ⟨n - 1, by omega⟩
    have eu : spring_Judge_l2 K (n + 1) = spring_Judge_l2_b K (spring_Judge_l2 K n) := rfl
    rw [eu]
    unfold spring_Judge_l2_b
    rw [if_neg (by simp; omega)]
    exact ⟨w, by simp [bigAny], Upd.refl _ w⟩
  | succ d ih =>
    intro i n w sick hi hn he
    obtain ⟨n, rfl⟩ : ∃ m, n = m + 1 := ⟨n - 1, by omega⟩
    obtain ⟨hin, he'⟩ := endsOk_at he
    have eu : spring_Judge_l2 K (n + 1) = spring_Judge_l2_b K (spring_Judge_l2 K n) := rfl
    rw [eu]
    unfold spring_Judge_l2_b
    have c0 : (0 : Int) ≤ (i : Int) ∧ (i : Int) < ((4 : Nat) : Int) := by omega
    have e1 : IntKind.i64.wrap ((i : Int) + 1) = ((i + 1 : Nat) : Int) := by rw [w64 (by omega) (by omega)]; rfl
    obtain ⟨w1, n1, b1, u1, z1⟩ := newB_ok z26 26 w
    obtain ⟨w2, s1, s2, s3⟩ := b1.stA (o := 0) (vs := hcs (cutE hs i)) (by simp [hcs, z26, cutE]) (by intro v hv; simp [hcs, ints, cutE] at hv; rcases hv with rfl | rfl <;> rfl)
    have hb : Bk 26 w2 w.heap.size (ints .i64 (cutE hs i)) := by
      have : seg z26.toList 0 (hcs (cutE hs i)).toList = ints .i64 (cutE hs i) := by simp [seg, hcs, z26, cutE, ints]
      rw [this] at s2; exact s2
    have lA : ldA 2 ⟨w.heap.size, 0, none⟩ w2 = some (hcs (cutE hs i)) := by
      have := hldA hb (i := 0) (n := 2) (by simp [cutE])
      rw [add_lit] at this
      exact this
    have q2 : Upd none_ w w2 := u1.trans' s3 fun k hk e => by omega
    rw [if_pos (by simp; omega), if_pos c0, n1, bnd_ok, Int.toNat_natCast, ends_at hl (by omega), if_pos (by simp [hcs, cutE]), s1, Option.bind_some, e1]
    cases sick with
    | true =>
      obtain ⟨w3, k1, k2⟩ := ih (i + 1) n w2 true (by omega) (by omega) he'
      rw [if_pos rfl, k1]
      exact ⟨w3, by simp, q2.and0 k2⟩
    | false =>
      obtain ⟨w3, k1, k2⟩ := square_ok (hs.getD (4 + 2 * i) 0) (hs.getD (5 + 2 * i) 0) w2
      have k1 : spring_square (hcs (cutE hs i)) w2 = _ := k1
      obtain ⟨w4, j1, j2⟩ := ih (i + 1) n w3 (bigE hs i) (by omega) (by omega) he'
      rw [if_neg (by decide), lA, Option.bind_some, k1, bnd_ok]
      dsimp only
      rw [big_eq hc hin, j1]
      exact ⟨w4, by simp [bigAny], (q2.and0 k2).and0 j2⟩

def sickP (hs : List Int) : Prop :=
  hs.getD 1 0 > (if hs.getD 0 0 > 65536 then 6 else 4) ∨ hs.getD 2 0 > 20 ∨ (2 * hs.getD 3 0 - 8 * hs.getD 0 0) * (2 * hs.getD 3 0 - 8 * hs.getD 0 0) > 288 * hs.getD 0 0 ∨
    (2 * hs.getD 14 0 - (8 * hs.getD 0 0 - 1)) * (2 * hs.getD 14 0 - (8 * hs.getD 0 0 - 1)) > 36 * (8 * hs.getD 0 0 - 1) ∨ 16 * hs.getD 13 0 - 4 * (hs.getD 0 0 * hs.getD 0 0) > 200 * hs.getD 0 0 ∨ hs.getD 12 0 > 64 * hs.getD 0 0
instance (hs : List Int) : Decidable (sickP hs) := by unfold sickP; infer_instance
/-- what is judged of numbers -/
def judgeOf (hs : List Int) : Int := if canP hs then (if (decide (sickP hs) || bigAny hs 4 0) = true then 62 else 0) else 2

/-- the numbers that are reckoned with, none of them too great -/
theorem reckon {hs : List Int} (h : canP hs) :
    IntKind.i64.wrap (8 * hs.getD 0 0) = 8 * hs.getD 0 0 ∧ IntKind.i64.wrap (8 * hs.getD 0 0 - 1) = 8 * hs.getD 0 0 - 1 ∧
    IntKind.i64.wrap ((IntKind.i64.wrap (2 * hs.getD 3 0)) - 8 * hs.getD 0 0) = 2 * hs.getD 3 0 - 8 * hs.getD 0 0 ∧
    IntKind.i64.wrap ((IntKind.i64.wrap (2 * hs.getD 14 0)) - (8 * hs.getD 0 0 - 1)) = 2 * hs.getD 14 0 - (8 * hs.getD 0 0 - 1) ∧
    IntKind.i64.wrap ((2 * hs.getD 3 0 - 8 * hs.getD 0 0) * (2 * hs.getD 3 0 - 8 * hs.getD 0 0)) = (2 * hs.getD 3 0 - 8 * hs.getD 0 0) * (2 * hs.getD 3 0 - 8 * hs.getD 0 0) ∧
    IntKind.i64.wrap ((2 * hs.getD 14 0 - (8 * hs.getD 0 0 - 1)) * (2 * hs.getD 14 0 - (8 * hs.getD 0 0 - 1))) = (2 * hs.getD 14 0 - (8 * hs.getD 0 0 - 1)) * (2 * hs.getD 14 0 - (8 * hs.getD 0 0 - 1)) ∧
    IntKind.i64.wrap (288 * hs.getD 0 0) = 288 * hs.getD 0 0 ∧ IntKind.i64.wrap (36 * (8 * hs.getD 0 0 - 1)) = 36 * (8 * hs.getD 0 0 - 1) ∧
    IntKind.i64.wrap ((IntKind.i64.wrap (16 * hs.getD 13 0)) - (IntKind.i64.wrap ((IntKind.i64.wrap (4 * hs.getD 0 0)) * hs.getD 0 0))) = 16 * hs.getD 13 0 - 4 * (hs.getD 0 0 * hs.getD 0 0) ∧
    IntKind.i64.wrap (200 * hs.getD 0 0) = 200 * hs.getD 0 0 ∧ IntKind.i64.wrap (64 * hs.getD 0 0) = 64 * hs.getD 0 0 := by
  obtain ⟨⟨c1, c2⟩, _, g1, g2, g3, g4, g5, g6, g7, g8, g9, g10, g11, g12⟩ := h
  obtain ⟨q0, q1⟩ := sq_le (c := hs.getD 0 0) (by omega) (by omega)
  have o1 := sqb (c := 8388608) (x := 2 * hs.getD 3 0 - 8 * hs.getD 0 0) (by omega) (by omega)
  have o2 := sqb (c := 8388608) (x := 2 * hs.getD 14 0 - (8 * hs.getD 0 0 - 1)) (by omega) (by omega)
  refine ⟨w64 (by omega) (by omega), w64 (by omega) (by omega), ?_, ?_, w64 (by omega) (by omega), w64 (by omega) (by omega), w64 (by omega) (by omega), w64 (by omega) (by omega), ?_, w64 (by omega) (by omega), w64 (by omega) (by omega)⟩
  · rw [w64 (n := 2 * hs.getD 3 0) (by omega) (by omega), w64 (by omega) (by omega)]
  · rw [w64 (n := 2 * hs.getD 14 0) (by omega) (by omega), w64 (by omega) (by omega)]
  · rw [w64 (n := 16 * hs.getD 13 0) (by omega) (by omega), w64 (n := 4 * hs.getD 0 0) (by omega) (by omega), Int.mul_assoc, w64 (n := 4 * (hs.getD 0 0 * hs.getD 0 0)) (by omega) (by omega), w64 (by omega) (by omega)]

theorem Judge_ok {K : Nat} (hK : 18446744073709551616 ≤ K) {hs : List Int} (hl : hs.length = 15) (w : World) : ∃ w', spring_Judge K (hcs hs) w = some ((judgeOf hs, ()), w') ∧ Upd none_ w w' := by
  obtain ⟨w1, n1, b1, u1⟩ := newH hs 29 w
  obtain ⟨w2, k1, k2⟩ := can_ok hK hl w1
  have lA : ldA 15 ⟨w.heap.size, 0, none⟩ w1 = some (hcs hs) := by
    have := hldA b1 (i := 0) (n := 15) (by omega)
    rw [add_lit, List.drop_zero, List.take_of_length_le (by omega)] at this
    exact this
  have L : ∀ i, i < 15 → ∀ {w'}, Upd none_ w1 w' → ldI .i64 ((⟨w.heap.size, 0, none⟩ : Addr).add i) w' = some (hs.getD i 0) := fun i hi w' u => hld (b1.upd0 u) (by omega)
  unfold spring_Judge
  rw [n1, bnd_ok, lA, Option.bind_some, k1, bnd_ok]
  dsimp only
  by_cases h : canP hs
  · obtain ⟨e1, e2, e3, e4, e5, e6, e7, e8, e9, e10, e11⟩ := reckon h
    obtain ⟨w3, j1, j2⟩ := judge_l2 (K := K) hl h.1 4 0 K w2 (decide (sickP hs)) rfl (by omega) h.2.1
    have j1 : spring_Judge_l2 K K (hs.getD 0 0) (decide (sickP hs)) (hcs ((hs.drop 4).take 8)) 0 w2 = _ := j1
    have s0 : spring_Judge_s0 K 4 (decide (hs.getD 0 0 > 65536)) w2 = some ((if hs.getD 0 0 > 65536 then 6 else 4, ()), w2) := by
      unfold spring_Judge_s0
      by_cases hc : hs.getD 0 0 > 65536
      · rw [if_pos (decide_eq_true hc), if_pos hc]
      · rw [if_neg (ndec hc), if_neg hc]
    have s1 : spring_Judge_s1 K ⟨w.heap.size, 0, none⟩ (hs.getD 0 0) (if hs.getD 0 0 > 65536 then 6 else 4) (2 * hs.getD 3 0 - 8 * hs.getD 0 0) (2 * hs.getD 14 0 - (8 * hs.getD 0 0 - 1)) w2 = some ((decide (sickP hs), ()), w2) := by
      unfold spring_Judge_s1
      rw [L 1 (by omega) k2, Option.bind_some]
      by_cases t1 : hs.getD 1 0 > (if hs.getD 0 0 > 65536 then 6 else 4)
      · rw [if_pos (decide_eq_true t1), decide_eq_true (show sickP hs from .inl t1)]
      rw [if_neg (ndec t1), L 2 (by omega) k2, Option.bind_some]
      by_cases t2 : hs.getD 2 0 > 20
      · rw [if_pos (decide_eq_true t2), decide_eq_true (show sickP hs from .inr (.inl t2))]
      rw [if_neg (ndec t2), e5, e7]
      by_cases t3 : (2 * hs.getD 3 0 - 8 * hs.getD 0 0) * (2 * hs.getD 3 0 - 8 * hs.getD 0 0) > 288 * hs.getD 0 0
      · rw [if_pos (decide_eq_true t3), decide_eq_true (show sickP hs from .inr (.inr (.inl t3)))]
      rw [if_neg (ndec t3), e6, e1, e2, e8]
      by_cases t4 : (2 * hs.getD 14 0 - (8 * hs.getD 0 0 - 1)) * (2 * hs.getD 14 0 - (8 * hs.getD 0 0 - 1)) > 36 * (8 * hs.getD 0 0 - 1)
      · rw [if_pos (decide_eq_true t4), decide_eq_true (show sickP hs from .inr (.inr (.inr (.inl t4))))]
      rw [if_neg (ndec t4), L 13 (by omega) k2, Option.bind_some, e9, e10]
      by_cases t5 : 16 * hs.getD 13 0 - 4 * (hs.getD 0 0 * hs.getD 0 0) > 200 * hs.getD 0 0
      · rw [if_pos (decide_eq_true t5), decide_eq_true (show sickP hs from .inr (.inr (.inr (.inr (.inl t5)))))]
      rw [if_neg (ndec t5), L 12 (by omega) k2, Option.bind_some, e11]
      have : decide (hs.getD 12 0 > 64 * hs.getD 0 0) = decide (sickP hs) := decide_eq_decide.2 ⟨fun h => .inr (.inr (.inr (.inr (.inr h)))), fun h => by
        rcases h with h | h | h | h | h | h
        · exact (t1 h).elim
        · exact (t2 h).elim
        · exact (t3 h).elim
        · exact (t4 h).elim
        · exact (t5 h).elim
        · exact h⟩
      rw [this]
    rw [decide_eq_true h, if_neg (by decide), L 0 (by omega) k2, Option.bind_some, Option.bind_some, s0, bnd_ok]
    dsimp only
    rw [L 3 (by omega) k2, Option.bind_some, L 14 (by omega) k2, Option.bind_some, e1, e2, e3, e4, s1, bnd_ok]
    dsimp only
    rw [hldA (b1.upd0 k2) (by omega), Option.bind_some, j1, bnd_ok]
    dsimp only
    unfold judgeOf
    rw [if_pos h]
    by_cases hb : (decide (sickP hs) || bigAny hs 4 0) = true
    · rw [if_pos hb, if_pos hb]
      exact ⟨w3, rfl, (u1.and0 k2).and0 j2⟩
    · rw [if_neg hb, if_neg hb]
      exact ⟨w3, rfl, (u1.and0 k2).and0 j2⟩
  · unfold judgeOf
    rw [decide_eq_false h, if_pos (by decide), if_neg h]
    exact ⟨w2, rfl, u1.and0 k2⟩

end Go.Sh

/- 'cofferlaw06.SpringJudges': the document's side, and the law. -/
set_option linter.unusedVariables false
namespace Go.Sh
open Go.Fw Go.RowKit Go.Proofs.Try

def rngP (hs : List Int) : Prop :=
  1 ≤ hs.getD 1 0 ∧ hs.getD 1 0 ≤ hs.getD 0 0 ∧ 1 ≤ hs.getD 2 0 ∧ hs.getD 2 0 ≤ (if 512 < hs.getD 0 0 then 512 else hs.getD 0 0) ∧
    0 ≤ hs.getD 3 0 ∧ hs.getD 3 0 ≤ 8 * hs.getD 0 0 ∧ 0 ≤ hs.getD 14 0 ∧ hs.getD 14 0 ≤ 8 * hs.getD 0 0 - 1 ∧ 0 ≤ hs.getD 13 0 ∧ hs.getD 13 0 ≤ 4 * (hs.getD 0 0 * hs.getD 0 0) ∧ 0 ≤ hs.getD 12 0 ∧ hs.getD 12 0 ≤ hs.getD 0 0 * hs.getD 0 0
instance (hs : List Int) : Decidable (rngP hs) := by unfold rngP; infer_instance

theorem out_ok (v lo hi : Int) : ref06_out v lo hi = some (decide (¬ (lo ≤ v ∧ v ≤ hi)), ()) := by
  unfold ref06_out
  by_cases h : v < lo
  · rw [if_pos (decide_eq_true h), decide_eq_true (by omega)]
  · rw [if_neg (ndec h)]
    have : decide (v > hi) = decide (¬ (lo ≤ v ∧ v ≤ hi)) := decide_eq_decide.2 ⟨fun h => by omega, fun h => by omega⟩
    rw [this]

theorem ref_s1 {K : Nat} {hs : List Int} {t : TypeId} {w : World} {g : Nat} (b : Bk t w g (ints .i64 hs)) (hl : hs.length = 15) (hc : 64 ≤ hs.getD 0 0 ∧ hs.getD 0 0 ≤ 1048576) : ref06_Judge_s1 K ⟨g, 0, none⟩ (hs.getD 0 0) w = some ((!decide (rngP hs), ()), w) := by
  have L : ∀ i, i < 15 → ldI .i64 ((⟨g, 0, none⟩ : Addr).add i) w = some (hs.getD i 0) := fun i hi => hld b (by omega)
  obtain ⟨q0, q1⟩ := sq_le (c := hs.getD 0 0) (by omega) (by omega)
  have e8 : IntKind.i64.wrap (8 * hs.getD 0 0) = 8 * hs.getD 0 0 := w64 (by omega) (by omega)
  have e81 : IntKind.i64.wrap (8 * hs.getD 0 0 - 1) = 8 * hs.getD 0 0 - 1 := w64 (by omega) (by omega)
  have ecc : IntKind.i64.wrap (hs.getD 0 0 * hs.getD 0 0) = hs.getD 0 0 * hs.getD 0 0 := w64 (by omega) (by omega)
  have e4c : IntKind.i64.wrap ((IntKind.i64.wrap (4 * hs.getD 0 0)) * hs.getD 0 0) = 4 * (hs.getD 0 0 * hs.getD 0 0) := by
    rw [w64 (n := 4 * hs.getD 0 0) (by omega) (by omega), Int.mul_assoc, w64 (by omega) (by omega)]
  unfold ref06_Judge_s1
  rw [L 1 (by omega), Option.bind_some, out_ok, Option.bind_some]
  dsimp only
  by_cases t1 : 1 ≤ hs.getD 1 0 ∧ hs.getD 1 0 ≤ hs.getD 0 0
  case neg => rw [if_pos (decide_eq_true t1), decide_eq_false (fun h => t1 ⟨h.1, h.2.1⟩)]; rfl
  rw [if_neg (ndec (fun h => h t1)), L 2 (by omega), Option.bind_some, out_ok, Option.bind_some]
  dsimp only
  by_cases t2 : 1 ≤ hs.getD 2 0 ∧ hs.getD 2 0 ≤ (if 512 < hs.getD 0 0 then 512 else hs.getD 0 0)
  case neg => rw [if_pos (decide_eq_true t2), decide_eq_false (fun h => t2 ⟨h.2.2.1, h.2.2.2.1⟩)]; rfl
  rw [if_neg (ndec (fun h => h t2)), L 3 (by omega), Option.bind_some, out_ok, Option.bind_some, e8]
  dsimp only
  by_cases t3 : 0 ≤ hs.getD 3 0 ∧ hs.getD 3 0 ≤ 8 * hs.getD 0 0
  case neg => rw [if_pos (decide_eq_true t3), decide_eq_false (fun h => t3 ⟨h.2.2.2.2.1, h.2.2.2.2.2.1⟩)]; rfl
  rw [if_neg (ndec (fun h => h t3)), L 14 (by omega), Option.bind_some, out_ok, Option.bind_some, e81]
  dsimp only
  by_cases t4 : 0 ≤ hs.getD 14 0 ∧ hs.getD 14 0 ≤ 8 * hs.getD 0 0 - 1
  case neg => rw [if_pos (decide_eq_true t4), decide_eq_false (fun h => t4 ⟨h.2.2.2.2.2.2.1, h.2.2.2.2.2.2.2.1⟩)]; rfl
  rw [if_neg (ndec (fun h => h t4)), L 13 (by omega), Option.bind_some, out_ok, Option.bind_some, e4c]
  dsimp only
  by_cases t5 : 0 ≤ hs.getD 13 0 ∧ hs.getD 13 0 ≤ 4 * (hs.getD 0 0 * hs.getD 0 0)
  case neg => rw [if_pos (decide_eq_true t5), decide_eq_false (fun h => t5 ⟨h.2.2.2.2.2.2.2.2.1, h.2.2.2.2.2.2.2.2.2.1⟩)]; rfl
  rw [if_neg (ndec (fun h => h t5)), L 12 (by omega), Option.bind_some, out_ok, Option.bind_some, ecc]
  dsimp only
  by_cases t6 : 0 ≤ hs.getD 12 0 ∧ hs.getD 12 0 ≤ hs.getD 0 0 * hs.getD 0 0
  case neg => rw [decide_eq_true t6, decide_eq_false (fun h => t6 ⟨h.2.2.2.2.2.2.2.2.2.2.1, h.2.2.2.2.2.2.2.2.2.2.2⟩)]; rfl
  rw [decide_eq_false (fun h => h t6), decide_eq_true (show rngP hs from ⟨t1.1, t1.2, t2.1, t2.2, t3.1, t3.2, t4.1, t4.2, t5.1, t5.2, t6.1, t6.2⟩)]; rfl

theorem row_at {hs : List Int} {t : TypeId} {w : World} {g : Nat} (b : Bk t w g (ints .i64 hs)) (hl : hs.length = 15) {i : Nat} (hi : i < 4) :
    ldI .i64 ((((⟨g, 0, none⟩ : Addr).add 4).add (i * 2)).add 0) w = some (hs.getD (4 + 2 * i) 0) ∧ ldI .i64 ((((⟨g, 0, none⟩ : Addr).add 4).add (i * 2)).add 1) w = some (hs.getD (5 + 2 * i) 0) ∧
      ldA 2 (((⟨g, 0, none⟩ : Addr).add 4).add (i * 2)) w = some (hcs (cutE hs i)) := by
  have h0 := hld b (i := 4 + 2 * i) (by omega)
  have h1 := hld b (i := 5 + 2 * i) (by omega)
  have h2 := hldA b (i := 4 + i * 2) (n := 2) (by omega)
  rw [cut_at hl hi] at h2
  simp only [add_lit, Nat.zero_add] at h0 h1 h2 ⊢
  rw [show 4 + i * 2 + 0 = 4 + 2 * i by omega, show 4 + i * 2 + 1 = 5 + 2 * i by omega]
  exact ⟨h0, h1, h2⟩

theorem ref_l2 {K : Nat} {hs : List Int} {t : TypeId} {w : World} {g : Nat} (b : Bk t w g (ints .i64 hs)) (hl : hs.length = 15) (hc : 64 ≤ hs.getD 0 0 ∧ hs.getD 0 0 ≤ 1048576) :
    ∀ (d i n : Nat), i + d = 4 → d < n → ref06_Judge_l2 K n ⟨g, 0, none⟩ (hs.getD 0 0) (i : Int) w = some (if endsOk hs d i = true then .norm () else .ret (2, ()), w) := by
  intro d
  induction d with
  | zero =>
    intro i n hi hn
    obtain ⟨n, rfl⟩ : ∃ m, n = m + 1 := ⟨n - 1, by omega⟩
    have eu : ref06_Judge_l2 K (n + 1) = ref06_Judge_l2_b K (ref06_Judge_l2 K n) := rfl
    rw [eu]
    unfold ref06_Judge_l2_b
    rw [if_neg (by simp; omega)]
    rfl
  | succ d ih =>
    intro i n hi hn
    obtain ⟨n, rfl⟩ : ∃ m, n = m + 1 := ⟨n - 1, by omega⟩
    have eu : ref06_Judge_l2 K (n + 1) = ref06_Judge_l2_b K (ref06_Judge_l2 K n) := rfl
    have c0 : (0 : Int) ≤ (i : Int) ∧ (i : Int) < ((4 : Nat) : Int) := by omega
    have e1 : IntKind.i64.wrap ((i : Int) + 1) = ((i + 1 : Nat) : Int) := by rw [w64 (by omega) (by omega)]; rfl
    have e2 : IntKind.i64.wrap (0 - hs.getD 0 0) = -(hs.getD 0 0) := by rw [w64 (by omega) (by omega)]; omega
    obtain ⟨r0, r1, _⟩ := row_at b hl (i := i) (by omega)
    rw [eu]
    unfold ref06_Judge_l2_b
    rw [if_pos (by simp; omega), if_pos c0, Int.toNat_natCast, r0, Option.bind_some, out_ok, Option.bind_some, e2]
    dsimp only
    by_cases t1 : -(hs.getD 0 0) ≤ hs.getD (4 + 2 * i) 0 ∧ hs.getD (4 + 2 * i) 0 ≤ hs.getD 0 0
    case neg =>
      have hf : endsOk hs (d + 1) i = false := by simp only [endsOk]; rw [decide_eq_false (fun h => t1 ⟨h.1, h.2.1⟩), Bool.false_and]
      have hif : (if endsOk hs (d + 1) i = true then Out.norm () else Out.ret (2, ()) : Out Unit (Int × Unit)) = .ret (2, ()) := if_neg (by rw [hf]; decide)
      rw [if_pos (decide_eq_true t1), hif]
    rw [if_neg (ndec (fun h => h t1)), if_pos c0, r1, Option.bind_some, out_ok, Option.bind_some]
    dsimp only
    by_cases t2 : -(hs.getD 0 0) ≤ hs.getD (5 + 2 * i) 0 ∧ hs.getD (5 + 2 * i) 0 ≤ hs.getD 0 0
    case neg =>
      have hf : endsOk hs (d + 1) i = false := by simp only [endsOk]; rw [decide_eq_false (fun h => t2 ⟨h.2.2.1, h.2.2.2⟩), Bool.false_and]
      have hif : (if endsOk hs (d + 1) i = true then Out.norm () else Out.ret (2, ()) : Out Unit (Int × Unit)) = .ret (2, ()) := if_neg (by rw [hf]; decide)
      rw [if_pos (decide_eq_true t2), hif]
    have hf : endsOk hs (d + 1) i = endsOk hs d (i + 1) := by simp only [endsOk]; rw [decide_eq_true (show endIn hs i from ⟨t1.1, t1.2, t2.1, t2.2⟩), Bool.true_and]
    rw [if_neg (ndec (fun h => h t2)), e1, ih (i + 1) n (by omega) (by omega), hf]

theorem ref_l5 {K : Nat} {hs : List Int} {t : TypeId} {g : Nat} (hl : hs.length = 15) (hc : 64 ≤ hs.getD 0 0 ∧ hs.getD 0 0 ≤ 1048576) :
    ∀ (d i n : Nat) (w : World), i + d = 4 → d < n → endsOk hs d i = true → Bk t w g (ints .i64 hs) → ∃ w', ref06_Judge_l5 K n ⟨g, 0, none⟩ (hs.getD 0 0) (i : Int) w = some (if bigAny hs d i = true then .ret (62, ()) else .norm (), w') ∧ Upd none_ w w' := by
  intro d
  induction d with
  | zero =>
    intro i n w hi hn he b
    obtain ⟨n, rfl⟩ : ∃ m, n = m + 1 := ⟨n - 1, by omega⟩
    have eu : ref06_Judge_l5 K (n + 1) = ref06_Judge_l5_b K (ref06_Judge_l5 K n) := rfl
    rw [eu]
    unfold ref06_Judge_l5_b
    rw [if_neg (by simp; omega)]
    exact ⟨w, rfl, Upd.refl _ w⟩
  | succ d ih =>
    intro i n w hi hn he b
    obtain ⟨n, rfl⟩ : ∃ m, n = m + 1 := ⟨n - 1, by omega⟩
    obtain ⟨hin, he'⟩ := endsOk_at he
    have eu : ref06_Judge_l5 K (n + 1) = ref06_Judge_l5_b K (ref06_Judge_l5 K n) := rfl
    have c0 : (0 : Int) ≤ (i : Int) ∧ (i : Int) < ((4 : Nat) : Int) := by omega
    have e1 : IntKind.i64.wrap ((i : Int) + 1) = ((i + 1 : Nat) : Int) := by rw [w64 (by omega) (by omega)]; rfl
    obtain ⟨_, _, r2⟩ := row_at b hl (i := i) (by omega)
    obtain ⟨w1, n1, b1, u1, z1⟩ := newB_ok z30 30 w
    obtain ⟨w2, s1, s2, s3⟩ := b1.stA (o := 0) (vs := hcs (cutE hs i)) (by simp [hcs, z30, cutE]) (by intro v hv; simp [hcs, ints, cutE] at hv; rcases hv with rfl | rfl <;> rfl)
    have hb : Bk 30 w2 w.heap.size (ints .i64 (cutE hs i)) := by
      have : seg z30.toList 0 (hcs (cutE hs i)).toList = ints .i64 (cutE hs i) := by simp [seg, hcs, z30, cutE, ints]
      rw [this] at s2; exact s2
    have l0 := hld hb (i := 0) (by simp [cutE])
    have l1 := hld hb (i := 1) (by simp [cutE])
    have g0 : (cutE hs i).getD 0 0 = hs.getD (4 + 2 * i) 0 := rfl
    have g1 : (cutE hs i).getD 1 0 = hs.getD (5 + 2 * i) 0 := rfl
    rw [g0] at l0
    rw [g1] at l1
    have q2 : Upd none_ w w2 := u1.trans' s3 fun k hk e => by omega
    rw [eu]
    unfold ref06_Judge_l5_b
    rw [if_pos (by simp; omega), if_pos c0, Int.toNat_natCast, r2, Option.bind_some, n1, bnd_ok, if_pos (by simp [hcs, cutE]), s1, Option.bind_some, l0, Option.bind_some, Option.bind_some, l1, Option.bind_some, Option.bind_some, big_eq hc hin, e1]
    cases hb2 : bigE hs i with
    | true =>
      have hif : (if bigAny hs (d + 1) i = true then Out.ret (62, ()) else Out.norm () : Out Unit (Int × Unit)) = .ret (62, ()) := if_pos (by simp [bigAny, hb2])
      rw [if_pos rfl, hif]
      exact ⟨w2, rfl, q2⟩
    | false =>
      obtain ⟨w3, k1, k2⟩ := ih (i + 1) n w2 (by omega) (by omega) he' (b.upd0 q2)
      have hf : bigAny hs (d + 1) i = bigAny hs d (i + 1) := by simp [bigAny, hb2]
      rw [if_neg (by decide), k1, hf]
      exact ⟨w3, rfl, q2.and0 k2⟩

theorem refJudge_ok {K : Nat} (hK : 18446744073709551616 ≤ K) {hs : List Int} (hl : hs.length = 15) (w : World) : ∃ w', ref06_Judge K (hcs hs) w = some ((judgeOf hs, ()), w') ∧ Upd none_ w w' := by
  obtain ⟨w1, n1, b1, u1⟩ := newH hs 33 w
  have L : ∀ i, i < 15 → ldI .i64 ((⟨w.heap.size, 0, none⟩ : Addr).add i) w1 = some (hs.getD i 0) := fun i hi => hld b1 (by omega)
  unfold ref06_Judge ref06_Judge_s0
  rw [n1, bnd_ok, L 0 (by omega), Option.bind_some, Option.bind_some]
  unfold judgeOf
  by_cases h1 : hs.getD 0 0 < 64
  · rw [if_pos (decide_eq_true h1), bnd_ok, if_neg (c := canP hs) (fun h => by have := h.1.1; omega)]
    exact ⟨w1, rfl, u1⟩
  rw [if_neg (ndec h1), bnd_ok]
  dsimp only
  by_cases h2 : hs.getD 0 0 > 1048576
  · rw [if_pos (decide_eq_true h2), if_neg (c := canP hs) (fun h => by have := h.1.2; omega)]
    exact ⟨w1, rfl, u1⟩
  have hc : 64 ≤ hs.getD 0 0 ∧ hs.getD 0 0 ≤ 1048576 := by omega
  rw [if_neg (ndec h2), L 0 (by omega), Option.bind_some, ref_s1 b1 hl hc, bnd_ok]
  dsimp only
  by_cases h3 : rngP hs
  case neg =>
    rw [decide_eq_false h3, if_pos (by decide), if_neg (c := canP hs) (fun h => h3 (by obtain ⟨_, _, g1, g2, g3, g4, g5, g6, g7, g8, g9, g10, g11, g12⟩ := h; exact ⟨g1, g2, g3, g4, g5, g6, g7, by omega, g9, g10, g11, g12⟩))]
    exact ⟨w1, rfl, u1⟩
  have k1 : ref06_Judge_l2 K K ⟨w.heap.size, 0, none⟩ (hs.getD 0 0) 0 w1 = _ := ref_l2 (K := K) b1 hl hc 4 0 K rfl (by omega)
  rw [decide_eq_true h3, if_neg (by decide), k1, bnd_ok]
  by_cases he : endsOk hs 4 0 = true
  case neg =>
    rw [if_neg he, if_neg (c := canP hs) (fun h => he h.2.1)]
    exact ⟨w1, rfl, u1⟩
  have h : canP hs := by
    obtain ⟨g1, g2, g3, g4, g5, g6, g7, g8, g9, g10, g11, g12⟩ := h3
    exact ⟨hc, he, g1, g2, g3, g4, g5, g6, g7, by omega, g9, g10, g11, g12⟩
  obtain ⟨e1, e2, e3, e4, e5, e6, e7, e8, e9, e10, e11⟩ := reckon h
  rw [if_pos he, if_pos h]
  dsimp only
  have s3 : ref06_Judge_s3 K ⟨w.heap.size, 0, none⟩ (hs.getD 0 0) w1 = some ((decide (hs.getD 1 0 > (if hs.getD 0 0 > 65536 then 6 else 4) ∨ hs.getD 2 0 > 20), ()), w1) := by
    unfold ref06_Judge_s3
    rw [L 1 (by omega), Option.bind_some]
    by_cases t1 : hs.getD 1 0 > 6
    · rw [if_pos (decide_eq_true t1), decide_eq_true (.inl (by split <;> omega))]
    rw [if_neg (ndec t1), Option.bind_some]
    by_cases t2 : hs.getD 1 0 > 4
    · rw [if_pos (decide_eq_true t2)]
      by_cases t3 : hs.getD 0 0 ≤ 65536
      · rw [if_pos (decide_eq_true t3), decide_eq_true (.inl (by rw [if_neg (by omega)]; exact t2))]
      · rw [if_neg (ndec t3), L 2 (by omega), Option.bind_some]
        have : decide (hs.getD 2 0 > 20) = decide (hs.getD 1 0 > (if hs.getD 0 0 > 65536 then 6 else 4) ∨ hs.getD 2 0 > 20) := decide_eq_decide.2 ⟨.inr, fun h => h.resolve_left (by rw [if_pos (by omega)]; omega)⟩
        rw [this]
    · rw [if_neg (ndec t2), L 2 (by omega), Option.bind_some]
      have : decide (hs.getD 2 0 > 20) = decide (hs.getD 1 0 > (if hs.getD 0 0 > 65536 then 6 else 4) ∨ hs.getD 2 0 > 20) := decide_eq_decide.2 ⟨.inr, fun h => h.resolve_left (by split <;> omega)⟩
      rw [this]
  rw [s3, bnd_ok]
  dsimp only
  by_cases t0 : hs.getD 1 0 > (if hs.getD 0 0 > 65536 then 6 else 4) ∨ hs.getD 2 0 > 20
  · have : sickP hs := t0.elim .inl fun h => .inr (.inl h)
    rw [if_pos (decide_eq_true t0), decide_eq_true this, Bool.true_or, if_pos rfl]
    exact ⟨w1, rfl, u1⟩
  rw [if_neg (ndec t0), L 3 (by omega), Option.bind_some, L 14 (by omega), Option.bind_some, e1, e2, e3, e4]
  have s4 : ref06_Judge_s4 K ⟨w.heap.size, 0, none⟩ (hs.getD 0 0) (2 * hs.getD 3 0 - 8 * hs.getD 0 0) (8 * hs.getD 0 0 - 1) (2 * hs.getD 14 0 - (8 * hs.getD 0 0 - 1)) w1 = some ((decide (sickP hs), ()), w1) := by
    unfold ref06_Judge_s4
    rw [e5, e7]
    by_cases t3 : (2 * hs.getD 3 0 - 8 * hs.getD 0 0) * (2 * hs.getD 3 0 - 8 * hs.getD 0 0) > 288 * hs.getD 0 0
    · rw [if_pos (decide_eq_true t3), decide_eq_true (show sickP hs from .inr (.inr (.inl t3)))]
    rw [if_neg (ndec t3), e6, e8]
    by_cases t4 : (2 * hs.getD 14 0 - (8 * hs.getD 0 0 - 1)) * (2 * hs.getD 14 0 - (8 * hs.getD 0 0 - 1)) > 36 * (8 * hs.getD 0 0 - 1)
    · rw [if_pos (decide_eq_true t4), decide_eq_true (show sickP hs from .inr (.inr (.inr (.inl t4))))]
    rw [if_neg (ndec t4), L 13 (by omega), Option.bind_some, e9, e10]
    by_cases t5 : 16 * hs.getD 13 0 - 4 * (hs.getD 0 0 * hs.getD 0 0) > 200 * hs.getD 0 0
    · rw [if_pos (decide_eq_true t5), decide_eq_true (show sickP hs from .inr (.inr (.inr (.inr (.inl t5)))))]
    rw [if_neg (ndec t5), L 12 (by omega), Option.bind_some, e11]
    have : decide (hs.getD 12 0 > 64 * hs.getD 0 0) = decide (sickP hs) := decide_eq_decide.2 ⟨fun h => .inr (.inr (.inr (.inr (.inr h)))), fun h => by
      rcases h with h | h | h | h | h | h
      · exact (t0 (.inl h)).elim
      · exact (t0 (.inr h)).elim
      · exact (t3 h).elim
      · exact (t4 h).elim
      · exact (t5 h).elim
      · exact h⟩
    rw [this]
  rw [s4, bnd_ok]
  dsimp only
  by_cases ts : sickP hs
  · rw [if_pos (decide_eq_true ts), decide_eq_true ts, Bool.true_or, if_pos rfl]
    exact ⟨w1, rfl, u1⟩
  obtain ⟨w2, j1, j2⟩ := ref_l5 (K := K) (hs := hs) (t := 33) (g := w.heap.size) hl hc 4 0 K w1 rfl (by omega) he b1
  have j1 : ref06_Judge_l5 K K ⟨w.heap.size, 0, none⟩ (hs.getD 0 0) 0 w1 = _ := j1
  rw [if_neg (ndec ts), j1, bnd_ok, decide_eq_false ts, Bool.false_or]
  by_cases hb : bigAny hs 4 0 = true
  · rw [if_pos hb, if_pos hb]
    exact ⟨w2, rfl, u1.and0 j2⟩
  · rw [if_neg hb, if_neg hb]
    exact ⟨w2, rfl, u1.and0 j2⟩

end Go.Sh

/- 'cofferlaw06.SpringJudges': the law. -/
set_option linter.unusedVariables false
namespace Go.Sh
open Go.Fw Go.RowKit Go.Proofs.Try

def putE (ws : List Int) (i : Nat) (e : List Int) : List Int := ws.take (4 + i * 2) ++ e ++ ws.drop (4 + i * 2 + e.length)
theorem seg_ints (ws : List Int) (i : Nat) (e : List Int) : seg (ints .i64 ws) (4 + i * 2) (ints .i64 e) = ints .i64 (putE ws i e) := by
  simp [seg, putE, ints, List.map_take, List.map_drop]
theorem putE_len {ws e : List Int} {i : Nat} (h : ws.length = 15) (he : e.length = 2) (hi : i < 4) : (putE ws i e).length = 15 := by
  simp [putE, he, h]; omega
theorem built30 (x y : Int) : prog.built 30 [(0, (.int .i64 x)), (1, (.int .i64 y))] = some (hcs [x, y]) := by kernel_rfl
theorem built26 (x y : Int) : prog.built 26 [(0, (.int .i64 x)), (1, (.int .i64 y))] = some (hcs [x, y]) := by kernel_rfl
theorem built33 (a b c d e f g : Int) : prog.built 33 [(0, (.int .i64 a)), (1, (.int .i64 b)), (2, (.int .i64 c)), (3, (.int .i64 d)), (5, (.int .i64 e)), (6, (.int .i64 f)), (7, (.int .i64 g))] = some (hcs [a, b, c, d, 0, 0, 0, 0, 0, 0, 0, 0, e, f, g]) := by kernel_rfl
theorem built29 (a b c d e f g : Int) : prog.built 29 [(0, (.int .i64 a)), (1, (.int .i64 b)), (2, (.int .i64 c)), (3, (.int .i64 d)), (5, (.int .i64 e)), (6, (.int .i64 f)), (7, (.int .i64 g))] = some (hcs [a, b, c, d, 0, 0, 0, 0, 0, 0, 0, 0, e, f, g]) := by kernel_rfl

/-- the front, without the ends of the walks -/
def bare (hs : List Int) : List Int := [hs.getD 0 0, hs.getD 1 0, hs.getD 2 0, hs.getD 3 0, 0, 0, 0, 0, 0, 0, 0, 0, hs.getD 12 0, hs.getD 13 0, hs.getD 14 0]
theorem put_all {hs : List Int} (hl : hs.length = 15) : putE (putE (putE (putE (bare hs) 0 (cutE hs 0)) 1 (cutE hs 1)) 2 (cutE hs 2)) 3 (cutE hs 3) = hs := by
  match hs, hl with
  | [a0, a1, a2, a3, a4, a5, a6, a7, a8, a9, a10, a11, a12, a13, a14], _ => rfl

theorem st_hcs {t : TypeId} {w : World} {g : Nat} {ws : List Int} (b : Bk t w g (ints .i64 ws)) (hl : ws.length = 15) {i : Nat} (hi : i < 4) {x y : Int} :
    ∃ w', stA (((⟨g, 0, none⟩ : Addr).add 4).add (i * 2)) (hcs [x, y]) w = some w' ∧ Bk t w' g (ints .i64 (putE ws i [x, y])) ∧ Upd (· = g) w w' := by
  obtain ⟨w', h1, h2, h3⟩ := b.stA (o := 4 + i * 2) (vs := hcs [x, y]) (by simp [hcs, hl]; omega) (by intro v hv; simp [hcs, ints] at hv; rcases hv with rfl | rfl <;> rfl)
  have e : (hcs [x, y]).toList = ints .i64 [x, y] := by simp [hcs]
  rw [e, seg_ints] at h2
  refine ⟨w', ?_, h2, h3⟩
  simp only [add_lit, Nat.zero_add]
  exact h1

theorem judges_step {K n i : Nat} {g h : Nat} {w : World} {hs ws : List Int} (b : Bk 29 w g (ints .i64 hs)) (c : Bk 33 w h (ints .i64 ws)) (hl : hs.length = 15) (wl : ws.length = 15) (hi : i < 4) :
    ∃ w', law06_SpringJudges_l0 K (n + 1) ⟨g, 0, none⟩ ⟨h, 0, none⟩ (i : Int) w = law06_SpringJudges_l0 K n ⟨g, 0, none⟩ ⟨h, 0, none⟩ ((i + 1 : Nat) : Int) w' ∧ Bk 33 w' h (ints .i64 (putE ws i (cutE hs i))) ∧ Upd (· = h) w w' := by
  have c0 : (0 : Int) ≤ (i : Int) ∧ (i : Int) < ((4 : Nat) : Int) := by omega
  have e1 : IntKind.i64.wrap ((i : Int) + 1) = ((i + 1 : Nat) : Int) := by rw [w64 (by omega) (by omega)]; rfl
  obtain ⟨r0, r1, _⟩ := row_at b.drew hl hi
  obtain ⟨w', s1, s2, s3⟩ := st_hcs c.drew wl hi (x := hs.getD (4 + 2 * i) 0) (y := hs.getD (5 + 2 * i) 0)
  refine ⟨w', ?_, s2, (Upd.refl (· = h) w).drew.trans' s3 fun _ _ e => e⟩
  have eu : law06_SpringJudges_l0 K (n + 1) = law06_SpringJudges_l0_b K (law06_SpringJudges_l0 K n) := rfl
  rw [eu]
  unfold law06_SpringJudges_l0_b
  rw [if_pos (by simp; omega), if_pos c0, if_pos c0, Int.toNat_natCast, r0, Option.bind_some, r1, Option.bind_some, built30, Option.bind_some, if_pos c0, if_pos (by simp [hcs]), s1, Option.bind_some, e1]

theorem told_step {K n i : Nat} {g h : Nat} {p : Addr} {w : World} {hs ws : List Int} (b : Bk 33 w g (ints .i64 hs)) (c : Bk 29 w h (ints .i64 ws)) (hl : hs.length = 15) (wl : ws.length = 15) (hi : i < 4) :
    ∃ w', law06_told_l0 K (n + 1) ⟨g, 0, none⟩ p ⟨h, 0, none⟩ (i : Int) w = law06_told_l0 K n ⟨g, 0, none⟩ p ⟨h, 0, none⟩ ((i + 1 : Nat) : Int) w' ∧ Bk 29 w' h (ints .i64 (putE ws i (cutE hs i))) ∧ Upd (· = h) w w' := by
  have c0 : (0 : Int) ≤ (i : Int) ∧ (i : Int) < ((4 : Nat) : Int) := by omega
  have e1 : IntKind.i64.wrap ((i : Int) + 1) = ((i + 1 : Nat) : Int) := by rw [w64 (by omega) (by omega)]; rfl
  obtain ⟨r0, r1, _⟩ := row_at b.drew hl hi
  obtain ⟨w', s1, s2, s3⟩ := st_hcs c.drew wl hi (x := hs.getD (4 + 2 * i) 0) (y := hs.getD (5 + 2 * i) 0)
  refine ⟨w', ?_, s2, (Upd.refl (· = h) w).drew.trans' s3 fun _ _ e => e⟩
  have eu : law06_told_l0 K (n + 1) = law06_told_l0_b K (law06_told_l0 K n) := rfl
  rw [eu]
  unfold law06_told_l0_b
  rw [if_pos (by simp; omega), if_pos c0, if_pos c0, Int.toNat_natCast, r0, Option.bind_some, r1, Option.bind_some, built26, Option.bind_some, if_pos c0, if_pos (by simp [hcs]), s1, Option.bind_some, e1]

theorem judges_l0 {K : Nat} (hK : 18446744073709551616 ≤ K) {g h : Nat} (hgh : g ≠ h) {w : World} {hs : List Int} (b : Bk 29 w g (ints .i64 hs)) (c : Bk 33 w h (ints .i64 (bare hs))) (hl : hs.length = 15) :
    ∃ w', law06_SpringJudges_l0 K K ⟨g, 0, none⟩ ⟨h, 0, none⟩ 0 w = some ((), w') ∧ Bk 33 w' h (ints .i64 hs) ∧ Upd (· = h) w w' := by
  obtain ⟨m, rfl⟩ : ∃ m, K = m + 5 := ⟨K - 5, by omega⟩
  obtain ⟨w1, a1, c1, u1⟩ := judges_step (K := m + 5) (n := m + 4) (i := 0) b c hl rfl (by omega)
  obtain ⟨w2, a2, c2, u2⟩ := judges_step (K := m + 5) (n := m + 3) (i := 1) (b.upd u1 hgh) c1 hl (putE_len rfl rfl (by omega)) (by omega)
  obtain ⟨w3, a3, c3, u3⟩ := judges_step (K := m + 5) (n := m + 2) (i := 2) ((b.upd u1 hgh).upd u2 hgh) c2 hl (putE_len (putE_len rfl rfl (by omega)) rfl (by omega)) (by omega)
  obtain ⟨w4, a4, c4, u4⟩ := judges_step (K := m + 5) (n := m + 1) (i := 3) (((b.upd u1 hgh).upd u2 hgh).upd u3 hgh) c3 hl (putE_len (putE_len (putE_len rfl rfl (by omega)) rfl (by omega)) rfl (by omega)) (by omega)
  rw [put_all hl] at c4
  refine ⟨w4, ?_, c4, ((u1.trans' u2 fun _ _ e => e).trans' u3 fun _ _ e => e).trans' u4 fun _ _ e => e⟩
  have a1 : law06_SpringJudges_l0 (m + 5) (m + 5) ⟨g, 0, none⟩ ⟨h, 0, none⟩ 0 w = _ := a1
  rw [a1, a2, a3, a4]
  have eu : law06_SpringJudges_l0 (m + 5) (m + 1) = law06_SpringJudges_l0_b (m + 5) (law06_SpringJudges_l0 (m + 5) m) := rfl
  rw [eu]
  unfold law06_SpringJudges_l0_b
  rw [if_neg (by decide)]

theorem told_l0 {K : Nat} (hK : 18446744073709551616 ≤ K) {g h : Nat} {p : Addr} (hgh : g ≠ h) {w : World} {hs : List Int} (b : Bk 33 w g (ints .i64 hs)) (c : Bk 29 w h (ints .i64 (bare hs))) (hl : hs.length = 15) :
    ∃ w', law06_told_l0 K K ⟨g, 0, none⟩ p ⟨h, 0, none⟩ 0 w = some ((), w') ∧ Bk 29 w' h (ints .i64 hs) ∧ Upd (· = h) w w' := by
  obtain ⟨m, rfl⟩ : ∃ m, K = m + 5 := ⟨K - 5, by omega⟩
  obtain ⟨w1, a1, c1, u1⟩ := told_step (K := m + 5) (n := m + 4) (i := 0) (p := p) b c hl rfl (by omega)
  obtain ⟨w2, a2, c2, u2⟩ := told_step (K := m + 5) (n := m + 3) (i := 1) (p := p) (b.upd u1 hgh) c1 hl (putE_len rfl rfl (by omega)) (by omega)
  obtain ⟨w3, a3, c3, u3⟩ := told_step (K := m + 5) (n := m + 2) (i := 2) (p := p) ((b.upd u1 hgh).upd u2 hgh) c2 hl (putE_len (putE_len rfl rfl (by omega)) rfl (by omega)) (by omega)
  obtain ⟨w4, a4, c4, u4⟩ := told_step (K := m + 5) (n := m + 1) (i := 3) (p := p) (((b.upd u1 hgh).upd u2 hgh).upd u3 hgh) c3 hl (putE_len (putE_len (putE_len rfl rfl (by omega)) rfl (by omega)) rfl (by omega)) (by omega)
  rw [put_all hl] at c4
  refine ⟨w4, ?_, c4, ((u1.trans' u2 fun _ _ e => e).trans' u3 fun _ _ e => e).trans' u4 fun _ _ e => e⟩
  have a1 : law06_told_l0 (m + 5) (m + 5) ⟨g, 0, none⟩ p ⟨h, 0, none⟩ 0 w = _ := a1
  rw [a1, a2, a3, a4]
  have eu : law06_told_l0 (m + 5) (m + 1) = law06_told_l0_b (m + 5) (law06_told_l0 (m + 5) m) := rfl
  rw [eu]
  unfold law06_told_l0_b
  rw [if_neg (by decide)]

theorem all_at {t : TypeId} {w : World} {g : Nat} {hs : List Int} (b : Bk t w g (ints .i64 hs)) (hl : hs.length = 15) : ldA 15 ⟨g, 0, none⟩ w = some (hcs hs) := by
  have := hldA b (i := 0) (n := 15) (by omega)
  rw [add_lit, List.drop_zero, List.take_of_length_le (by omega)] at this
  exact this
theorem st_all {t : TypeId} {w : World} {g : Nat} {cs : List Value} (b : Bk t w g cs) (hcl : cs.length = 15) {ws : List Int} (hl : ws.length = 15) :
    ∃ w', stA ⟨g, 0, none⟩ (hcs ws) w = some w' ∧ Bk t w' g (ints .i64 ws) ∧ Upd (· = g) w w' := by
  obtain ⟨w', h1, h2, h3⟩ := b.stA (o := 0) (vs := hcs ws) (by rw [hcs_size]; omega) (by
    intro v hv
    obtain ⟨x, _, rfl⟩ := List.mem_map.1 (show v ∈ ints .i64 ws by simpa [hcs] using hv)
    rfl)
  have e : seg cs 0 (hcs ws).toList = ints .i64 ws := by
    have : (hcs ws).toList = ints .i64 ws := by simp [hcs]
    rw [this]; simp [seg, hl, hcl]
  rw [e] at h2
  exact ⟨w', h1, h2, h3⟩

theorem told_ok {K : Nat} (hK : 18446744073709551616 ≤ K) {hs : List Int} (hl : hs.length = 15) (w : World) : ∃ w', law06_told K (hcs hs) w = some ((hcs hs, ()), w') ∧ Upd none_ w w' := by
  obtain ⟨w1, n1, b1, u1⟩ := newH hs 33 w
  have hs1 := u1.size
  have hlt := b1.lt
  obtain ⟨w2, n2, b2, u2, z2⟩ := newB_ok z29 29 w1
  have L : ∀ i, i < 15 → ldI .i64 ((⟨w.heap.size, 0, none⟩ : Addr).add i) w2 = some (hs.getD i 0) := fun i hi => hld (b1.upd0 u2) (by omega)
  obtain ⟨w3, n3, b3, u3, z3⟩ := newB_ok z29 29 w2
  obtain ⟨w4, s4, b4, u4⟩ := st_all b3 (by simp [z29]) (ws := bare hs) rfl
  have c1 : Bk 33 w4 w.heap.size (ints .i64 hs) := ((b1.upd0 u2).upd0 u3).upd u4 (by omega)
  obtain ⟨w5, s5, b5, u5⟩ := told_l0 hK (g := w.heap.size) (h := w2.heap.size) (p := ⟨w1.heap.size, 0, none⟩) (by omega) c1 b4 hl
  have d5 : Bk 29 w5 w1.heap.size z29.toList := ((b2.upd0 u3).upd u4 (by omega)).upd u5 (by omega)
  obtain ⟨w6, s6, b6, u6⟩ := st_all d5 (by simp [z29]) (ws := hs) hl
  refine ⟨w6, ?_, ((((u1.and0 u2).and0 u3).trans' u4 fun k hk e => by omega).trans' u5 fun k hk e => by omega).trans' u6 fun k hk e => by omega⟩
  unfold law06_told
  rw [n1, bnd_ok, n2, bnd_ok, L 0 (by omega), Option.bind_some, L 1 (by omega), Option.bind_some, L 2 (by omega), Option.bind_some, L 3 (by omega), Option.bind_some, L 12 (by omega), Option.bind_some, L 13 (by omega), Option.bind_some, L 14 (by omega), Option.bind_some, built29, Option.bind_some, n3, bnd_ok, if_pos (by rw [hcs_size]; rfl)]
  have s4 : stA ⟨w2.heap.size, 0, none⟩ (hcs [hs.getD 0 0, hs.getD 1 0, hs.getD 2 0, hs.getD 3 0, 0, 0, 0, 0, 0, 0, 0, 0, hs.getD 12 0, hs.getD 13 0, hs.getD 14 0]) w3 = _ := s4
  rw [s4, Option.bind_some, s5, bnd_ok, all_at b5 hl, Option.bind_some, if_pos (by rw [hcs_size]; exact hl), s6, Option.bind_some, all_at b6 hl, Option.bind_some]

theorem like_l0 {K : Nat} {g h : Nat} {hs : List Int} (hl : hs.length = 15) :
    ∀ (d i n : Nat) (w : World), i + d = 4 → d < n → Bk 29 w g (ints .i64 hs) → Bk 33 w h (ints .i64 hs) → ∃ w', law06_like_l0 K n ⟨g, 0, none⟩ ⟨h, 0, none⟩ (i : Int) w = some (.norm (), w') ∧ Upd none_ w w' := by
  intro d
  induction d with
  | zero =>
    intro i n w hi hn b c
    obtain ⟨n, rfl⟩ : ∃ m, n = m + 1 := ⟨n - 1, by omega⟩
    have eu : law06_like_l0 K (n + 1) = law06_like_l0_b K (law06_like_l0 K n) := rfl
    rw [eu]
    unfold law06_like_l0_b
    rw [if_neg (by simp; omega)]
    exact ⟨w, rfl, Upd.refl _ w⟩
  | succ d ih =>
    intro i n w hi hn b c
    obtain ⟨n, rfl⟩ : ∃ m, n = m + 1 := ⟨n - 1, by omega⟩
    have c0 : (0 : Int) ≤ (i : Int) ∧ (i : Int) < ((4 : Nat) : Int) := by omega
    have e1 : IntKind.i64.wrap ((i : Int) + 1) = ((i + 1 : Nat) : Int) := by rw [w64 (by omega) (by omega)]; rfl
    obtain ⟨r0, r1, _⟩ := row_at b.drew hl (i := i) (by omega)
    obtain ⟨q0, q1, _⟩ := row_at c.drew hl (i := i) (by omega)
    obtain ⟨w2, k1, k2⟩ := ih (i + 1) n w.drew (by omega) (by omega) b.drew c.drew
    refine ⟨w2, ?_, (Upd.refl none_ w).drew.and0 k2⟩
    have eu : law06_like_l0 K (n + 1) = law06_like_l0_b K (law06_like_l0 K n) := rfl
    rw [eu]
    unfold law06_like_l0_b
    rw [if_pos (by simp; omega), if_pos c0, if_pos c0, Int.toNat_natCast, r0, Option.bind_some, q0, Option.bind_some, if_neg (by simp), if_pos c0, if_pos c0, r1, Option.bind_some, q1, Option.bind_some, if_neg (by simp), e1, k1]

theorem like_ok {K : Nat} (hK : 18446744073709551616 ≤ K) {hs : List Int} (hl : hs.length = 15) (w : World) : ∃ w', law06_like K (hcs hs) (hcs hs) w = some ((true, ()), w') ∧ Upd none_ w w' := by
  obtain ⟨w1, n1, b1, u1⟩ := newH hs 29 w
  obtain ⟨w2, n2, b2, u2⟩ := newH hs 33 w1
  obtain ⟨w3, k1, k2⟩ := like_l0 (K := K) hl 4 0 K w2 rfl (by omega) (b1.upd0 u2) b2
  have k1 : law06_like_l0 K K ⟨w.heap.size, 0, none⟩ ⟨w1.heap.size, 0, none⟩ 0 w2 = _ := k1
  have L : ∀ i, i < 15 → ldI .i64 ((⟨w.heap.size, 0, none⟩ : Addr).add i) w3 = some (hs.getD i 0) := fun i hi => hld ((b1.upd0 u2).upd0 k2) (by omega)
  have M : ∀ i, i < 15 → ldI .i64 ((⟨w1.heap.size, 0, none⟩ : Addr).add i) w3 = some (hs.getD i 0) := fun i hi => hld (b2.upd0 k2) (by omega)
  refine ⟨w3, ?_, (u1.and0 u2).and0 k2⟩
  unfold law06_like
  rw [n1, bnd_ok, n2, bnd_ok, k1, bnd_ok]
  dsimp only
  rw [L 0 (by omega), Option.bind_some, M 0 (by omega), Option.bind_some, if_pos (beq_self_eq_true _), L 1 (by omega), Option.bind_some, M 1 (by omega), Option.bind_some, if_pos (beq_self_eq_true _), L 2 (by omega), Option.bind_some, M 2 (by omega), Option.bind_some, if_pos (beq_self_eq_true _),
    L 3 (by omega), Option.bind_some, M 3 (by omega), Option.bind_some, if_pos (beq_self_eq_true _), L 12 (by omega), Option.bind_some, M 12 (by omega), Option.bind_some, if_pos (beq_self_eq_true _), L 13 (by omega), Option.bind_some, M 13 (by omega), Option.bind_some, if_pos (beq_self_eq_true _),
    L 14 (by omega), Option.bind_some, M 14 (by omega), Option.bind_some, beq_self_eq_true]

theorem skA {α : Type} (v : Value) (k : Option α) : sameK v v k = k := by unfold sameK; exact if_pos rfl

theorem SpringJudges_ok {K : Nat} (hK : 18446744073709551616 ≤ K) {hs : List Int} (hl : hs.length = 15) (w : World) : ∃ w', law06_SpringJudges K (hcs hs) w = some ((true, ()), w') ∧ Upd none_ w w' := by
  obtain ⟨w1, n1, b1, u1⟩ := newH hs 29 w
  have hs1 := u1.size
  have hlt := b1.lt
  have L : ∀ i, i < 15 → ldI .i64 ((⟨w.heap.size, 0, none⟩ : Addr).add i) w1 = some (hs.getD i 0) := fun i hi => hld b1 (by omega)
  obtain ⟨w3, n3, b3, u3, z3⟩ := newB_ok z33 33 w1
  obtain ⟨w4, s4, b4, u4⟩ := st_all b3 (by simp [z33]) (ws := bare hs) rfl
  have c1 : Bk 29 w4 w.heap.size (ints .i64 hs) := (b1.upd0 u3).upd u4 (by omega)
  obtain ⟨w5, s5, b5, u5⟩ := judges_l0 hK (g := w.heap.size) (h := w1.heap.size) (by omega) c1 b4 hl
  have c5 : Bk 29 w5 w.heap.size (ints .i64 hs) := c1.upd u5 (by omega)
  have q5 : Upd none_ w w5 := ((u1.and0 u3).trans' u4 fun k hk e => by omega).trans' u5 fun k hk e => by omega
  obtain ⟨w6, k6, u6⟩ := Judge_ok hK hl w5.drew
  obtain ⟨w7, k7, u7⟩ := refJudge_ok hK hl w6
  obtain ⟨w8, k8, u8⟩ := told_ok hK hl w7
  obtain ⟨w9, k9, u9⟩ := like_ok hK hl w8
  have A5 := all_at c5.drew hl
  have B5 := all_at b5.drew hl
  have A6 := all_at (c5.drew.upd0 u6) hl
  have B6 := all_at (b5.drew.upd0 u6) hl
  have A7 := all_at ((c5.drew.upd0 u6).upd0 u7) hl
  have B7 := all_at ((b5.drew.upd0 u6).upd0 u7) hl
  have A8 := all_at (((c5.drew.upd0 u6).upd0 u7).upd0 u8) hl
  have B8 := all_at (((b5.drew.upd0 u6).upd0 u7).upd0 u8) hl
  have A9 := all_at ((((c5.drew.upd0 u6).upd0 u7).upd0 u8).upd0 u9) hl
  have B9 := all_at ((((b5.drew.upd0 u6).upd0 u7).upd0 u8).upd0 u9) hl
  have s1 : law06_SpringJudges_s1 K ⟨w.heap.size, 0, none⟩ false ⟨w1.heap.size, 0, none⟩ w5 = some ((true, ()), w9) := by
    unfold law06_SpringJudges_s1 law06_num
    rw [A5, Option.bind_some, B5, Option.bind_some, k6, bnd_ok]
    dsimp only
    rw [B6, Option.bind_some, skA, A6, Option.bind_some, skA, Option.bind_some, Option.bind_some, skA, Option.bind_some, skA, k7, bnd_ok]
    dsimp only
    rw [B7, Option.bind_some, skA, A7, Option.bind_some, skA, if_pos (beq_self_eq_true _), Option.bind_some, Option.bind_some, k8, bnd_ok]
    dsimp only
    rw [B8, Option.bind_some, skA, Option.bind_some, skA, Option.bind_some, skA, A8, Option.bind_some, skA, k9, bnd_ok]
    dsimp only
    rw [B9, Option.bind_some, skA, Option.bind_some, skA, Option.bind_some, skA, A9, Option.bind_some, skA]
  refine ⟨w9, ?_, ((((q5.drew).and0 u6).and0 u7).and0 u8).and0 u9⟩
  unfold law06_SpringJudges
  rw [n1, bnd_ok, L 0 (by omega), Option.bind_some, L 1 (by omega), Option.bind_some, L 2 (by omega), Option.bind_some, L 3 (by omega), Option.bind_some, L 12 (by omega), Option.bind_some, L 13 (by omega), Option.bind_some, L 14 (by omega), Option.bind_some, built33, Option.bind_some, n3, bnd_ok, if_pos (by rw [hcs_size]; rfl)]
  have s4 : stA ⟨w1.heap.size, 0, none⟩ (hcs [hs.getD 0 0, hs.getD 1 0, hs.getD 2 0, hs.getD 3 0, 0, 0, 0, 0, 0, 0, 0, 0, hs.getD 12 0, hs.getD 13 0, hs.getD 14 0]) w3 = _ := s4
  rw [s4, Option.bind_some, s5, bnd_ok, s1, bnd_ok]

/-- a health that came in -/
theorem open_health {W : World} {base : Nat} {v : Value} (hv : Value.okWide prog W .any base 29 v) : ∃ hs, hs.length = 15 ∧ v = .agg (hcs hs) := by
  unfold Value.okWide at hv
  rw [underlying29] at hv
  obtain ⟨cs, rfl, hsz, ts, hts, _, hc⟩ := hv
  have h15 : prog.cellsOf 29 = 15 := by kernel_rfl
  have hty : prog.cellTypes prog.depth 29 = some [3, 3, 3, 3, 2, 2, 2, 2, 2, 2, 2, 2, 2, 2, 3] := by kernel_rfl
  rw [h15] at hsz
  obtain rfl := Option.some.inj (hty.symm.trans hts)
  have hint : ∀ i (hi : i < cs.size), ∃ n, cs[i] = .int .i64 n := by
    intro i hi
    obtain ⟨u, hu, hok⟩ := hc i cs[i] (Array.getElem?_eq_getElem hi)
    have hu2 : u = 2 ∨ u = 3 := by
      have hm : i % 15 < 15 := Nat.mod_lt _ (by decide)
      have hall : ∀ j : Fin 15, ([3, 3, 3, 3, 2, 2, 2, 2, 2, 2, 2, 2, 2, 2, 3] : List Nat)[j.val]? = some 2 ∨ ([3, 3, 3, 3, 2, 2, 2, 2, 2, 2, 2, 2, 2, 2, 3] : List Nat)[j.val]? = some 3 := by decide
      rcases hall ⟨i % 15, hm⟩ with h | h
      · exact .inl (Option.some.inj (hu.symm.trans h))
      · exact .inr (Option.some.inj (hu.symm.trans h))
    rcases hu2 with rfl | rfl
    · simp only [Cell.okWide, underlying2] at hok
      revert hok
      cases cs[i] <;> simp [Cell.ok, underlying2]
      rintro rfl _; rfl
    · simp only [Cell.okWide, underlying3] at hok
      revert hok
      cases cs[i] <;> simp [Cell.ok, underlying3]
      rintro rfl _; rfl
  refine ⟨cs.toList.map fun v => match v with | .int _ n => n | _ => 0, by simp [hsz], ?_⟩
  have : hcs (cs.toList.map fun v => match v with | .int _ n => n | _ => 0) = cs := by
    unfold hcs ints
    apply Array.ext
    · simp
    · intro i h1 h2
      obtain ⟨n, hn⟩ := hint i h2
      simp [hn]
  rw [this]

end Go.Sh

/- Texts of this claim, put together: BookD, SpoilW, SameW, Keys -/
import Derived.Test.YtfilmbfijaeclaaDoorAllLawlnocpb
import Derived.Test.YtfilmbfijaeclaaDoorAllFwhbdbgg
/- What the helpers of the package cofferbook do: SpoilBytes. YtfilmbfijaeclaaDoor, Tryd, 22, 5 are filled in for a seat. -/
set_option linter.unusedVariables false
namespace Go.Sh
open Go.Fw Go.RowKit Go.Proofs.Tryd

/-- all of its elements are bytes -/
theorem Spoil0 (K : Nat) {s : Sl} : ∀ (d i n : Nat) (w : World) (xs : List Int), i + d = xs.length → xs.length ≤ 140737488355328 → d < n → Vw 5 w s (ints .u8 xs) →
    ∃ w' ys, book_SpoilBytes_l0 K n s (i : Int) w = some ((), w') ∧ Vw 5 w' s (ints .u8 ys) ∧ ys.length = xs.length ∧ Upd (fun k => s.blk = some k) w w' := by
  intro d
  induction d with
  | zero =>
    intro i n w xs hi hl hn hv
    obtain ⟨n, rfl⟩ : ∃ m, n = m + 1 := ⟨n - 1, by omega⟩
    refine ⟨w, xs, ?_, hv, rfl, Upd.refl _ _⟩
    have hd : decide ((i : Int) < ((s.len : Nat) : Int)) = false := by rw [hv.len, ints_length]; simp; omega
    show book_SpoilBytes_l0_b K (book_SpoilBytes_l0 K n) s (i : Int) w = _
    unfold book_SpoilBytes_l0_b
    rw [hd, if_neg (by decide)]
  | succ d ih =>
    intro i n w xs hi hl hn hv
    obtain ⟨n, rfl⟩ : ∃ m, n = m + 1 := ⟨n - 1, by omega⟩
    have hsl : s.len = xs.length := by rw [hv.len, ints_length]
    obtain ⟨p, hp, hpl⟩ := hv.rd.ld
    have l1 := hpl i (by omega)
    have hp : s.a = some p := hp (fun e => by rw [e] at hi; simp at hi)
    obtain ⟨q, w1, hq, hs, hv1, u1⟩ := hv.st (i := i) (by omega) (.int .u8 (bits .xor .u8 (xs[i]'(by omega)) 165))
    obtain rfl : p = q := Option.some.inj (hp.symm.trans hq)
    rw [ints_set_] at hv1
    obtain ⟨w2, ys, h2, hv2, hl2, u2⟩ := ih (i + 1) n w1 _ (by rw [List.length_set]; omega) (by rw [List.length_set]; omega) (by omega) hv1
    refine ⟨w2, ys, ?_, hv2, by rw [hl2, List.length_set], u1.trans' u2 fun _ _ e => e⟩
    have hd : decide ((i : Int) < ((s.len : Nat) : Int)) = true := by rw [hsl]; simp; omega
    have c : (0 : Int) ≤ (i : Int) ∧ (i : Int) < ((s.len : Nat) : Int) := by omega
    have e1 : IntKind.i64.wrap ((i : Int) + 1) = ((i + 1 : Nat) : Int) := by rw [w64 (by omega) (by omega)]; rfl
    show book_SpoilBytes_l0_b K (book_SpoilBytes_l0 K n) s (i : Int) w = _
    unfold book_SpoilBytes_l0_b
    rw [hd, if_pos rfl, hp, Option.bind_some, if_pos c, Int.toNat_natCast, Nat.mul_one, l1, Option.bind_some, Option.bind_some, if_pos c, hs, Option.bind_some, e1, h2]

/-- one byte behind it -/
theorem pushV {w : World} {s : Sl} {xs : List Int} (x : Int) (ho : Vw 5 w s (ints .u8 xs)) (hs : s.len + 1 ≤ 140737488355328) :
    ∃ w1 s2 w2, bldS prog 22 1 #[(0, (.int .u8 x))] w = some (⟨some ⟨w.heap.size, 0, none⟩, 1, 1⟩, w1) ∧ apd prog 22 22 (.slice s.a s.len s.cap) (.slice (some ⟨w.heap.size, 0, none⟩) 1 1) w1 = some (s2, w2) ∧
      Vw 5 w2 s2 (ints .u8 (xs ++ [x])) ∧ s2.len = s.len + 1 ∧ Upd (fun k => s.blk = some k) w w2 ∧ (∀ k, s2.blk = some k → s.blk = some k ∨ w.heap.size ≤ k) := by
  obtain ⟨w1, h1, o1, u1, z1⟩ := bldS1_ok sliceB (.int .u8 x) rfl w
  obtain ⟨s2, w2, h2, l2, o2, u2, b2⟩ := apd_vw sliceB (ho.upd0 u1) (o1.src (by simp [Value.oneCell'])) (by show (s.len + 1) * 1 ≤ _; omega)
  refine ⟨w1, s2, w2, h1, h2, by simpa using o2, l2, (u1.mono fun _ _ e => e.elim).trans' u2 fun _ _ e => e, fun k hk => (b2 k hk).imp id fun e => by omega⟩

theorem Spoil1 (K : Nat) : ∀ (d i n : Nat) (w : World) (s : Sl) (xs : List Int), i + d = 70 → xs.length + d ≤ 140737488355328 → d < n → Vw 5 w s (ints .u8 xs) →
    ∃ s' w' ys, book_SpoilBytes_l1 K n s (i : Int) w = some ((s', ()), w') ∧ Vw 5 w' s' (ints .u8 ys) ∧ ys.length = xs.length + d ∧ Upd (fun k => s.blk = some k) w w' ∧ (∀ k, s'.blk = some k → s.blk = some k ∨ w.heap.size ≤ k) := by
  intro d
  induction d with
  | zero =>
    intro i n w s xs hi hl hn hv
    obtain ⟨n, rfl⟩ : ∃ m, n = m + 1 := ⟨n - 1, by omega⟩
    have : i = 70 := by omega
    subst this
    refine ⟨s, w, xs, ?_, hv, rfl, Upd.refl _ _, fun _ => .inl⟩
    show book_SpoilBytes_l1_b K (book_SpoilBytes_l1 K n) s ((70 : Nat) : Int) w = _
    unfold book_SpoilBytes_l1_b
    rw [if_neg (by decide)]
  | succ d ih =>
    intro i n w s xs hi hl hn hv
    obtain ⟨n, rfl⟩ : ∃ m, n = m + 1 := ⟨n - 1, by omega⟩
    have hsl : s.len = xs.length := by rw [hv.len, ints_length]
    obtain ⟨w1, s2, w2, h1, h2, o2, l2, u2, b2⟩ := pushV (IntKind.u8.wrap (IntKind.i64.wrap ((IntKind.i64.wrap (7 * (i : Int))) + 3))) hv (by omega)
    obtain ⟨s3, w3, ys, h3, o3, l3, u3, b3⟩ := ih (i + 1) n w2 s2 _ (by omega) (by rw [List.length_append, List.length_singleton]; omega) (by omega) o2
    refine ⟨s3, w3, ys, ?_, o3, by rw [l3, List.length_append, List.length_singleton]; omega, u2.trans' u3 fun k hk e => (b2 k e).elim id fun e => by omega, fun k hk => ?_⟩
    · have hd : decide ((i : Int) < 70) = true := by simp; omega
      have e1 : IntKind.i64.wrap ((i : Int) + 1) = ((i + 1 : Nat) : Int) := by rw [w64 (by omega) (by omega)]; rfl
      show book_SpoilBytes_l1_b K (book_SpoilBytes_l1 K n) s (i : Int) w = _
      unfold book_SpoilBytes_l1_b
      rw [hd, if_pos rfl, h1, bnd_ok, h2, bnd_ok, e1, h3]
    · rcases b3 k hk with e | e
      · exact b2 k e
      · exact .inr (by have := u2.size; omega)

theorem SpoilBytes_ok {K : Nat} (hK : 18446744073709551616 ≤ K) {s : Sl} {xs : List Int} {w : World} (hv : Vw 5 w s (ints .u8 xs)) (hl : xs.length ≤ 140737488351232) :
    ∃ w', book_SpoilBytes K s w = some ((), w') ∧ Upd (fun k => s.blk = some k) w w' := by
  obtain ⟨w1, ys, h1, v1, l1, u1⟩ := Spoil0 K xs.length 0 K w xs (by omega) (by omega) (by omega) hv
  have h1 : book_SpoilBytes_l0 K K s 0 w = _ := h1
  have hsl : s.len = xs.length := by rw [hv.len, ints_length]
  obtain ⟨w2, s2, w3, h2, h3, v3, l3, u3, b3⟩ := pushV 1 v1 (by omega)
  obtain ⟨s4, w4, zs, h4, v4, l4, u4, b4⟩ := Spoil1 K 70 0 K w3 s2 _ (by omega) (by rw [List.length_append, List.length_singleton]; omega) (by omega) v3
  have h4 : book_SpoilBytes_l1 K K s2 0 w3 = _ := h4
  rw [List.length_append, List.length_singleton] at l4
  have hl4 : s4.len = xs.length + 71 := by rw [v4.len, ints_length]; omega
  obtain ⟨p, w5, hp, h5, v5, u5⟩ := v4.st (i := xs.length + 70) (by omega) (.int .u8 77)
  have e1 : IntKind.i64.wrap (((s4.len : Nat) : Int) - 1) = ((xs.length + 70 : Nat) : Int) := by rw [hl4, w64 (by omega) (by omega)]; omega
  have c : (0 : Int) ≤ ((xs.length + 70 : Nat) : Int) ∧ ((xs.length + 70 : Nat) : Int) < ((s4.len : Nat) : Int) := by omega
  refine ⟨w5, ?_, ?_⟩
  · unfold book_SpoilBytes
    rw [h1, bnd_ok, h2, bnd_ok, h3, bnd_ok, h4, bnd_ok]
    dsimp only
    rw [hp, Option.bind_some, e1, if_pos c, Int.toNat_natCast, Nat.mul_one, h5, Option.bind_some]
  · have q3 : Upd (fun k => s.blk = some k) w w3 := u1.trans' u3 fun _ _ e => e
    have hz := u1.size
    have q4 : Upd (fun k => s.blk = some k) w w4 := q3.trans' u4 fun k hk e => (b3 k e).elim id fun e => by omega
    have hz3 := u3.size
    refine q4.trans' u5 fun k hk e => ?_
    rcases b4 k e with e | e
    · rcases b3 k e with e | e
      · exact e
      · omega
    · omega

end Go.Sh

/- What the helpers of the package cofferbook do: SpoilUint32s. YtfilmbfijaeclaaDoor, Tryd, 34, 50 are filled in for a seat. -/
set_option linter.unusedVariables false
namespace Go.Sh
open Go.Fw Go.RowKit Go.Proofs.Tryd

/-- all of its elements are bytes -/
theorem SpoilW0 (K : Nat) {s : Sl} : ∀ (d i n : Nat) (w : World) (xs : List Int), i + d = xs.length → xs.length ≤ 35184372088832 → d < n → Vw 50 w s (ints .u32 xs) →
    ∃ w' ys, book_SpoilUint32s_l0 K n s (i : Int) w = some ((), w') ∧ Vw 50 w' s (ints .u32 ys) ∧ ys.length = xs.length ∧ Upd (fun k => s.blk = some k) w w' := by
  intro d
  induction d with
  | zero =>
    intro i n w xs hi hl hn hv
    obtain ⟨n, rfl⟩ : ∃ m, n = m + 1 := ⟨n - 1, by omega⟩
    refine ⟨w, xs, ?_, hv, rfl, Upd.refl _ _⟩
    have hd : decide ((i : Int) < ((s.len : Nat) : Int)) = false := by rw [hv.len, ints_length]; simp; omega
    show book_SpoilUint32s_l0_b K (book_SpoilUint32s_l0 K n) s (i : Int) w = _
    unfold book_SpoilUint32s_l0_b
    rw [hd, if_neg (by decide)]
  | succ d ih =>
    intro i n w xs hi hl hn hv
    obtain ⟨n, rfl⟩ : ∃ m, n = m + 1 := ⟨n - 1, by omega⟩
    have hsl : s.len = xs.length := by rw [hv.len, ints_length]
    obtain ⟨p, hp, hpl⟩ := hv.rd.ld
    have l1 := hpl i (by omega)
    have hp : s.a = some p := hp (fun e => by rw [e] at hi; simp at hi)
    obtain ⟨q, w1, hq, hs, hv1, u1⟩ := hv.st (i := i) (by omega) (.int .u32 (bits .xor .u32 (xs[i]'(by omega)) 10855845))
    obtain rfl : p = q := Option.some.inj (hp.symm.trans hq)
    rw [ints_set_] at hv1
    obtain ⟨w2, ys, h2, hv2, hl2, u2⟩ := ih (i + 1) n w1 _ (by rw [List.length_set]; omega) (by rw [List.length_set]; omega) (by omega) hv1
    refine ⟨w2, ys, ?_, hv2, by rw [hl2, List.length_set], u1.trans' u2 fun _ _ e => e⟩
    have hd : decide ((i : Int) < ((s.len : Nat) : Int)) = true := by rw [hsl]; simp; omega
    have c : (0 : Int) ≤ (i : Int) ∧ (i : Int) < ((s.len : Nat) : Int) := by omega
    have e1 : IntKind.i64.wrap ((i : Int) + 1) = ((i + 1 : Nat) : Int) := by rw [w64 (by omega) (by omega)]; rfl
    show book_SpoilUint32s_l0_b K (book_SpoilUint32s_l0 K n) s (i : Int) w = _
    unfold book_SpoilUint32s_l0_b
    rw [hd, if_pos rfl, hp, Option.bind_some, if_pos c, Int.toNat_natCast, Nat.mul_one, l1, Option.bind_some, Option.bind_some, if_pos c, hs, Option.bind_some, e1, h2]

/-- one byte behind it -/
theorem pushW {w : World} {s : Sl} {xs : List Int} (x : Int) (ho : Vw 50 w s (ints .u32 xs)) (hs : s.len + 1 ≤ 35184372088832) :
    ∃ w1 s2 w2, bldS prog 34 1 #[(0, (.int .u32 x))] w = some (⟨some ⟨w.heap.size, 0, none⟩, 1, 1⟩, w1) ∧ apd prog 34 34 (.slice s.a s.len s.cap) (.slice (some ⟨w.heap.size, 0, none⟩) 1 1) w1 = some (s2, w2) ∧
      Vw 50 w2 s2 (ints .u32 (xs ++ [x])) ∧ s2.len = s.len + 1 ∧ Upd (fun k => s.blk = some k) w w2 ∧ (∀ k, s2.blk = some k → s.blk = some k ∨ w.heap.size ≤ k) := by
  obtain ⟨w1, h1, o1, u1, z1⟩ := bldS1_ok sliceW (.int .u32 x) rfl w
  obtain ⟨s2, w2, h2, l2, o2, u2, b2⟩ := apd_vw sliceW (ho.upd0 u1) (o1.src (by simp [Value.oneCell'])) (by show (s.len + 1) * 4 ≤ _; omega)
  refine ⟨w1, s2, w2, h1, h2, by simpa using o2, l2, (u1.mono fun _ _ e => e.elim).trans' u2 fun _ _ e => e, fun k hk => (b2 k hk).imp id fun e => by omega⟩

theorem SpoilW1 (K : Nat) : ∀ (d i n : Nat) (w : World) (s : Sl) (xs : List Int), i + d = 70 → xs.length + d ≤ 35184372088832 → d < n → Vw 50 w s (ints .u32 xs) →
    ∃ s' w' ys, book_SpoilUint32s_l1 K n s (i : Int) w = some ((s', ()), w') ∧ Vw 50 w' s' (ints .u32 ys) ∧ ys.length = xs.length + d ∧ Upd (fun k => s.blk = some k) w w' ∧ (∀ k, s'.blk = some k → s.blk = some k ∨ w.heap.size ≤ k) := by
  intro d
  induction d with
  | zero =>
    intro i n w s xs hi hl hn hv
    obtain ⟨n, rfl⟩ : ∃ m, n = m + 1 := ⟨n - 1, by omega⟩
    have : i = 70 := by omega
    subst this
    refine ⟨s, w, xs, ?_, hv, rfl, Upd.refl _ _, fun _ => .inl⟩
    show book_SpoilUint32s_l1_b K (book_SpoilUint32s_l1 K n) s ((70 : Nat) : Int) w = _
    unfold book_SpoilUint32s_l1_b
    rw [if_neg (by decide)]
  | succ d ih =>
    intro i n w s xs hi hl hn hv
    obtain ⟨n, rfl⟩ : ∃ m, n = m + 1 := ⟨n - 1, by omega⟩
    have hsl : s.len = xs.length := by rw [hv.len, ints_length]
    obtain ⟨w1, s2, w2, h1, h2, o2, l2, u2, b2⟩ := pushW (IntKind.u32.wrap (IntKind.i64.wrap ((IntKind.i64.wrap (7 * (i : Int))) + 3))) hv (by omega)
    obtain ⟨s3, w3, ys, h3, o3, l3, u3, b3⟩ := ih (i + 1) n w2 s2 _ (by omega) (by rw [List.length_append, List.length_singleton]; omega) (by omega) o2
    refine ⟨s3, w3, ys, ?_, o3, by rw [l3, List.length_append, List.length_singleton]; omega, u2.trans' u3 fun k hk e => (b2 k e).elim id fun e => by omega, fun k hk => ?_⟩
    · have hd : decide ((i : Int) < 70) = true := by simp; omega
      have e1 : IntKind.i64.wrap ((i : Int) + 1) = ((i + 1 : Nat) : Int) := by rw [w64 (by omega) (by omega)]; rfl
      show book_SpoilUint32s_l1_b K (book_SpoilUint32s_l1 K n) s (i : Int) w = _
      unfold book_SpoilUint32s_l1_b
      rw [hd, if_pos rfl, h1, bnd_ok, h2, bnd_ok, e1, h3]
    · rcases b3 k hk with e | e
      · exact b2 k e
      · exact .inr (by have := u2.size; omega)

theorem SpoilW_ok {K : Nat} (hK : 18446744073709551616 ≤ K) {s : Sl} {xs : List Int} {w : World} (hv : Vw 50 w s (ints .u32 xs)) (hl : xs.length ≤ 35184372000000) :
    ∃ w', book_SpoilUint32s K s w = some ((), w') ∧ Upd (fun k => s.blk = some k) w w' := by
  obtain ⟨w1, ys, h1, v1, l1, u1⟩ := SpoilW0 K xs.length 0 K w xs (by omega) (by omega) (by omega) hv
  have h1 : book_SpoilUint32s_l0 K K s 0 w = _ := h1
  have hsl : s.len = xs.length := by rw [hv.len, ints_length]
  obtain ⟨w2, s2, w3, h2, h3, v3, l3, u3, b3⟩ := pushW 1 v1 (by omega)
  obtain ⟨s4, w4, zs, h4, v4, l4, u4, b4⟩ := SpoilW1 K 70 0 K w3 s2 _ (by omega) (by rw [List.length_append, List.length_singleton]; omega) (by omega) v3
  have h4 : book_SpoilUint32s_l1 K K s2 0 w3 = _ := h4
  rw [List.length_append, List.length_singleton] at l4
  have hl4 : s4.len = xs.length + 71 := by rw [v4.len, ints_length]; omega
  obtain ⟨p, w5, hp, h5, v5, u5⟩ := v4.st (i := xs.length + 70) (by omega) (.int .u32 77)
  have e1 : IntKind.i64.wrap (((s4.len : Nat) : Int) - 1) = ((xs.length + 70 : Nat) : Int) := by rw [hl4, w64 (by omega) (by omega)]; omega
  have c : (0 : Int) ≤ ((xs.length + 70 : Nat) : Int) ∧ ((xs.length + 70 : Nat) : Int) < ((s4.len : Nat) : Int) := by omega
  refine ⟨w5, ?_, ?_⟩
  · unfold book_SpoilUint32s
    rw [h1, bnd_ok, h2, bnd_ok, h3, bnd_ok, h4, bnd_ok]
    dsimp only
    rw [hp, Option.bind_some, e1, if_pos c, Int.toNat_natCast, Nat.mul_one, h5, Option.bind_some]
  · have q3 : Upd (fun k => s.blk = some k) w w3 := u1.trans' u3 fun _ _ e => e
    have hz := u1.size
    have q4 : Upd (fun k => s.blk = some k) w w4 := q3.trans' u4 fun k hk e => (b3 k e).elim id fun e => by omega
    have hz3 := u3.size
    refine q4.trans' u5 fun k hk e => ?_
    rcases b4 k e with e | e
    · rcases b3 k e with e | e
      · exact e
      · omega
    · omega

end Go.Sh

/- What the helpers of the package cofferbook do: SameUint32s. -/
set_option linter.unusedVariables false
namespace Go.Sh
open Go.Fw Go.RowKit Go.Proofs.Tryd

/-! ### SameW -/

theorem SameW_loop (K : Nat) {a b : Sl} {xs ys : List Int} (hl : xs.length = ys.length) (hs : xs.length < 9223372036854775807) :
    ∀ (d i : Nat) (n : Nat) (w : World), i + d = xs.length → d < n → RdS .u32 w a xs → RdS .u32 w b ys →
      ∃ w', book_SameUint32s_l0 K n a b (i : Int) w = some (if xs.drop i = ys.drop i then .norm () else .ret (false, ()), w') ∧ Upd none_ w w' := by
  intro d
  induction d with
  | zero =>
    intro i n w hi hn ha hb
    obtain ⟨n, rfl⟩ : ∃ m, n = m + 1 := ⟨n - 1, by omega⟩
    refine ⟨w, ?_, Upd.refl _ w⟩
    show book_SameUint32s_l0_b K (book_SameUint32s_l0 K n) a b (i : Int) w = _
    have e1 : xs.drop i = [] := List.drop_eq_nil_of_le (by omega)
    have e2 : ys.drop i = [] := List.drop_eq_nil_of_le (by omega)
    simp [book_SameUint32s_l0_b, ha.len, show ¬ i < xs.length by omega, e1, e2]
  | succ d ih =>
    intro i n w hi hn ha hb
    obtain ⟨n, rfl⟩ : ∃ m, n = m + 1 := ⟨n - 1, by omega⟩
    show ∃ w', book_SameUint32s_l0_b K (book_SameUint32s_l0 K n) a b (i : Int) w = _ ∧ _
    obtain ⟨p, hp, hpl⟩ := ha.drew.ld
    obtain ⟨q, hq, hql⟩ := hb.drew.ld
    have hx : xs ≠ [] := by rintro rfl; simp at hi
    have hy : ys ≠ [] := fun e => by rw [e] at hl; simp at hl; exact hx hl
    have hil : i < xs.length := by omega
    have hil2 : i < ys.length := by omega
    have hw : IntKind.i64.wrap ((i : Int) + 1) = ((i + 1 : Nat) : Int) := by rw [w64 (by omega) (by omega)]; rfl
    have e1 : xs.drop i = xs[i] :: xs.drop (i + 1) := List.drop_eq_getElem_cons hil
    have e2 : ys.drop i = ys[i] :: ys.drop (i + 1) := List.drop_eq_getElem_cons hil2
    have l1 := hpl i hil
    have l2 := hql i hil2
    by_cases hne : xs[i] = ys[i]
    · obtain ⟨w', h1, h2⟩ := ih (i + 1) n w.drew (by omega) (by omega) ha.drew hb.drew
      refine ⟨w', ?_, ?_⟩
      · simp only [book_SameUint32s_l0_b, ha.len, hb.len, Int.ofNat_lt, hil, hil2, decide_true, if_true, hp hx, hq hy, Option.bind_some, Int.natCast_nonneg, and_self, Int.toNat_natCast, Nat.mul_one, l1, l2, hne, bne_self_eq_false, Bool.false_eq_true, if_false, hw, h1, e1, e2, List.cons.injEq, true_and]
      · exact (Upd.refl none_ w).drew.trans' h2 fun _ _ e => e
    · refine ⟨w.drew, ?_, (Upd.refl none_ w).drew⟩
      have hb' : (xs[i] != ys[i]) = true := by simpa using hne
      simp only [book_SameUint32s_l0_b, ha.len, hb.len, Int.ofNat_lt, hil, hil2, decide_true, if_true, hp hx, hq hy, Option.bind_some, Int.natCast_nonneg, and_self, Int.toNat_natCast, Nat.mul_one, l1, l2, hb', e1, e2, List.cons.injEq, hne, false_and, if_false]

theorem SameW_ok {K : Nat} (hK : 18446744073709551616 ≤ K) {a b : Sl} {xs ys : List Int} {w : World} (ha : RdS .u32 w a xs) (hb : RdS .u32 w b ys) (hs : xs.length < 9223372036854775807) :
    ∃ w', book_SameUint32s K a b w = some ((decide (xs = ys), ()), w') ∧ Upd none_ w w' := by
  by_cases hl : xs.length = ys.length
  · obtain ⟨w', h1, h2⟩ := SameW_loop K (a := a) (b := b) hl hs xs.length 0 K w (by omega) (by omega) ha hb
    refine ⟨w', ?_, h2⟩
    have h1' : book_SameUint32s_l0 K K a b 0 w = _ := h1
    simp only [book_SameUint32s, ha.len, hb.len, hl, bne_self_eq_false, Bool.false_eq_true, if_false, h1', bnd_ok, List.drop_zero]
    by_cases h : xs = ys <;> simp [h]
  · refine ⟨w, ?_, Upd.refl _ w⟩
    have h1 : (((xs.length : Nat) : Int) != ((ys.length : Nat) : Int)) = true := by simp; omega
    have h2 : xs ≠ ys := fun e => hl (by rw [e])
    simp only [book_SameUint32s, ha.len, hb.len, h1, if_true, h2, decide_false]

end Go.Sh

/- The statement RijndaelKeys. -/
set_option linter.unusedVariables false
namespace Go.Sh
open Go.Fw Go.Gf Go.RowKit Go.Proofs.Tryd

theorem wN_len (S : List W4) : (wN S).length = S.length := by simp [wN]

theorem RijndaelKeys_ok {K : Nat} (hK : 18446744073709551616 ≤ K) {key : Sl} {ks : List Int} {w : World} (rc : Rc w) (hb : BytesIn w key ks) : ∃ w', law02_RijndaelKeys K key w = some ((true, ()), w') ∧ Upd none_ w w' := by
  have hK3 : 300 ≤ K := by omega
  have hks := hb.inn
  have hkl : key.len = ks.length := by rw [hb.src.len, ints_length]
  obtain ⟨gx, cx, w1, x1, x2, x3, x4⟩ := Bytes_ok hK hb.src hb.len
  have hz1 := x4.size
  have hgx : gx < w1.heap.size := x2.lt rfl
  have r1 := (marked_front x2).rd
  have hlf := hb.len
  by_cases hl : ks.length = 16 ∨ ks.length = 24 ∨ ks.length = 32
  case neg =>
    have n1 := New_err (K := K) (key := ⟨some ⟨gx, 0, none⟩, ks.length, cx⟩) rfl hl w1
    have n2 := refNew_err (K := K) hkl hl w1
    obtain ⟨w2, b1, u2⟩ := WholeBytes_ok hK x2 ((hb.src.upd x4 fun p hp => id).rds) (by omega)
    rw [decide_eq_true rfl] at b1
    obtain ⟨s, w3, c1, c2, c3⟩ := Words_nil w2
    have hs0 : law02_RijndaelKeys_s0 K key ⟨some ⟨gx, 0, none⟩, ks.length, cx⟩ none 20 none 20 w1 = some ((false, ()), w2) := by
      unfold law02_RijndaelKeys_s0 law02_num
      rw [Option.bind_some, if_neg (by decide), if_neg (by decide), b1, bnd_ok]
      rfl
    have hs1 : law02_RijndaelKeys_s1 K false none w2 = some ((true, ()), w3) := by
      unfold law02_RijndaelKeys_s1
      rw [Size_nil, bnd_ok, if_pos (by decide), Rounds_nil, bnd_ok, if_pos (by decide), c1, bnd_ok]
      have : s.len = 0 := c2
      rw [this]; rfl
    refine ⟨w3, ?_, (x4.and0 u2).and0 c3⟩
    unfold law02_RijndaelKeys
    rw [x1, bnd_ok]
    dsimp only
    rw [n1, bnd_ok, n2, bnd_ok]
    dsimp only
    rw [hs0, bnd_ok, if_neg (by decide), if_pos (show (none : Option Addr).isNone = true from rfl), hs1, bnd_ok]
  obtain ⟨g, t, gw, gb, w2, n1, k2, p1, p2, p3, p4, u2⟩ := New_ok hK3 (Rd.upd rc x4 fun _ => id) hks r1 (fun p hp => by obtain rfl := Option.some.inj hp; exact hgx) hl
  have q2 := x4.and0 u2
  obtain ⟨h, w3, n3, k3, u3⟩ := refNew_ok (K := K) hK3 hks (hb.src.upd q2 fun p hp => id) hl
  have q3 := q2.and0 u3
  have hz2 := u2.size
  have hz3 := u3.size
  have l1 := k2.b.lt
  have l2 := k2.bt.lt
  have l3 := k2.bw.lt
  have l4 := k2.bb.lt
  have x23 := (x2.upd0 u2).upd0 u3
  obtain ⟨w4, b1, u4⟩ := WholeBytes_ok hK x23 ((hb.src.upd q3 fun p hp => id).rds) (by omega)
  rw [decide_eq_true rfl] at b1
  obtain ⟨w5, s1, u5⟩ := SpoilBytes_ok hK ((marked_front (x23.upd0 u4)).vw) (by omega)
  have u5 : Upd (· = gx) w4 w5 := u5.mono fun k _ e => (Option.some.inj e).symm
  have hz4 := u4.size
  have hz5 := u5.size
  have K5 := ((k2.upd0 u3).upd0 u4).upd u5 (by omega) (by omega) (by omega) (by omega)
  have R5 := (k3.upd0 u4).upd u5 fun k hk1 hk2 e => by omega
  have q5 : Upd none_ w w5 := (q3.and0 u4).trans' u5 fun k hk e => by omega
  obtain ⟨a, w6, c1, c2, c3, c4⟩ := Words_ok2 K5
  have K6 := K5.upd0 c3
  have R6 := R5.upd0 c3
  obtain ⟨b, w7, d1, d2, d3, d4⟩ := Words_ok2 K6
  have hz6 := c3.size
  have hz7 := d3.size
  have K7 := K6.upd0 d3
  obtain ⟨ra, w8, e1, e2, e3, e4⟩ := refWords_ok hK3 (R6.upd0 d3)
  have R8 := (R6.upd0 d3).upd0 e4
  have a7 := (c2.upd0 d3).upd0 e4
  have hSl : (schedS ks).length ≤ 60 := by rw [schedS_len hl]; omega
  obtain ⟨w9, f1, f2⟩ := SameW_ok hK a7.rd e2.rd (by rw [wN_len]; omega)
  rw [decide_eq_true rfl] at f1
  have K9 := (K7.upd0 e4).upd0 f2
  have R9 := R8.upd0 f2
  have hs0 : law02_RijndaelKeys_s0 K key ⟨some ⟨gx, 0, none⟩, ks.length, cx⟩ (some ⟨g, 0, none⟩) 0 (some ⟨h, 0, none⟩) 0 w3 = some ((false, ()), w4) := by
    unfold law02_RijndaelKeys_s0 law02_num
    rw [Option.bind_some, if_neg (by decide), if_neg (show ¬ (!((some (⟨g, 0, none⟩ : Addr)).isNone == (some (⟨h, 0, none⟩ : Addr)).isNone)) = true from Bool.noConfusion), b1, bnd_ok]
    rfl
  have hs2 : law02_RijndaelKeys_s2 K key (some ⟨g, 0, none⟩) (some ⟨h, 0, none⟩) a w7 = some ((false, ()), w9) := by
    unfold law02_RijndaelKeys_s2
    rw [e1, bnd_ok, f1, bnd_ok, if_neg (by decide), Size_ok2 K9, bnd_ok, hkl, if_neg (by simp), Rounds_ok2 K9, bnd_ok, refRounds_ok R9, Option.bind_some]
    simp
  have a9 := a7.upd0 f2
  obtain ⟨w10, g1, g2⟩ := SpoilW_ok hK a9.vw (by rw [wN_len]; omega)
  have hax : ∀ k, a.blk = some k → w5.heap.size ≤ k ∧ k < w6.heap.size := fun k hk => ⟨c4 k hk, c2.lt hk⟩
  have b9 := ((d2.upd0 e4).upd0 f2).upd g2 fun k hk e => by have := d4 k hk; have := (hax k e).2; omega
  have K10 := K9.upd g2 (fun e => by have := (hax g e).1; omega) (fun e => by have := (hax t e).1; omega) (fun e => by have := (hax gw e).1; omega) (fun e => by have := (hax gb e).1; omega)
  have R10 := R9.upd g2 fun k hk1 hk2 e => by have := (hax k e).1; omega
  have q9 : Upd none_ w w9 := (((q5.and0 c3).and0 d3).and0 e4).and0 f2
  have q10 : Upd none_ w w10 := q9.trans' g2 fun k hk e => by have := (hax k e).1; have := q5.size; omega
  obtain ⟨rb, w11, h1, h2, h3, h4⟩ := refWords_ok hK3 R10
  have b11 := b9.upd0 h4
  obtain ⟨w12, i1, i2⟩ := SameW_ok hK b11.rd h2.rd (by rw [wN_len]; omega)
  rw [decide_eq_true rfl] at i1
  have K12 := (K10.upd0 h4).upd0 i2
  have R12 := (R10.upd0 h4).upd0 i2
  obtain ⟨c, w13, j1, j2, j3, j4⟩ := Words_ok2 K12
  obtain ⟨rd, w14, m1, m2, m3, m4⟩ := refWords_ok hK3 (R12.upd0 j3)
  obtain ⟨w15, o1, o2⟩ := SameW_ok hK (j2.upd0 m4).rd m2.rd (by rw [wN_len]; omega)
  rw [decide_eq_true rfl] at o1
  refine ⟨w15, ?_, ((((q10.and0 h4).and0 i2).and0 j3).and0 m4).and0 o2⟩
  unfold law02_RijndaelKeys
  rw [x1, bnd_ok]
  dsimp only
  rw [n1, bnd_ok, n3, bnd_ok]
  dsimp only
  rw [hs0, bnd_ok, if_neg (by decide), if_neg (show ¬ (some (⟨h, 0, none⟩ : Addr)).isNone = true from Bool.noConfusion), s1, bnd_ok, c1, bnd_ok, d1, bnd_ok]
  dsimp only
  rw [hs2, bnd_ok, if_neg (by decide), g1, bnd_ok, h1, bnd_ok, i1, bnd_ok, if_pos rfl, j1, bnd_ok, m1, bnd_ok, o1, bnd_ok]

end Go.Sh

/- What the helpers of the package cofferbook do: SpoilBytes. YtgmdbhckccmhjaaDoor, Tryd, 25, 5 are filled in for a seat. -/
import Derived.Test.YtgmdbhckccmhjaaDoorBookC
import Derived.Test.YtgmdbhckccmhjaaDoorFwQ
set_option linter.unusedVariables false
namespace Go.Sh
open Go.Fw Go.RowKit Go.Proofs.Tryd

/-- all of its elements are bytes -/
theorem Spoil0 (K : Nat) {s : Sl} : ∀ (d i n : Nat) (w : World) (xs : List Int), i + d = xs.length → xs.length ≤ 140737488355328 → d < n → Vw 5 w s (ints .u8 xs) →
    ∃ w' ys, book_SpoilBytes_l0 K n s (i : Int) w = some ((), w') ∧ Vw 5 w' s (ints .u8 ys) ∧ ys.length = xs.length ∧ Upd (fun k => s.blk = some k) w w' := by
  intro d
  induction d with
  | zero =>
    intro i n w xs hi hl hn hv
    obtain ⟨n, rfl⟩ : ∃ m, n = m + 1 := ⟨n - 1, by omega⟩
    refine ⟨w, xs, ?_, hv, rfl, Upd.refl _ _⟩
    have hd : decide ((i : Int) < ((s.len : Nat) : Int)) = false := by rw [hv.len, ints_length]; simp; omega
    show book_SpoilBytes_l0_b K (book_SpoilBytes_l0 K n) s (i : Int) w = _
    unfold book_SpoilBytes_l0_b
    rw [hd, if_neg (by decide)]
  | succ d ih =>
    intro i n w xs hi hl hn hv
    obtain ⟨n, rfl⟩ : ∃ m, n = m + 1 := ⟨n - 1, by omega⟩
    have hsl : s.len = xs.length := by rw [hv.len, ints_length]
    obtain ⟨p, hp, hpl⟩ := hv.rd.ld
    have l1 := hpl i (by omega)
    have hp : s.a = some p := hp (fun e => by rw [e] at hi; simp at hi)
    obtain ⟨q, w1, hq, hs, hv1, u1⟩ := hv.st (i := i) (by omega) (.int .u8 (bits .xor .u8 (xs[i]'(by omega)) 165))
    obtain rfl : p = q := Option.some.inj (hp.symm.trans hq)
    rw [ints_set_] at hv1
    obtain ⟨w2, ys, h2, hv2, hl2, u2⟩ := ih (i + 1) n w1 _ (by rw [List.length_set]; omega) (by rw [List.length_set]; omega) (by omega) hv1
    refine ⟨w2, ys, ?_, hv2, by rw [hl2, List.length_set], u1.trans' u2 fun _ _ e => e⟩
    have hd : decide ((i : Int) < ((s.len : Nat) : Int)) = true := by rw [hsl]; simp; omega
    have c : (0 : Int) ≤ (i : Int) ∧ (i : Int) < ((s.len : Nat) : Int) := by omega
    have e1 : IntKind.i64.wrap ((i : Int) + 1) = ((i + 1 : Nat) : Int) := by rw [w64 (by omega) (by omega)]; rfl
    show book_SpoilBytes_l0_b K (book_SpoilBytes_l0 K n) s (i : Int) w = _
    unfold book_SpoilBytes_l0_b
    rw [hd, if_pos rfl, hp, Option.bind_some, if_pos c, Int.toNat_natCast, Nat.mul_one, l1, Option.bind_some, Option.bind_some, if_pos c, hs, Option.bind_some, e1, h2]

/-- one byte behind it -/
theorem pushV {w : World} {s : Sl} {xs : List Int} (x : Int) (ho : Vw 5 w s (ints .u8 xs)) (hs : s.len + 1 ≤ 140737488355328) :
    ∃ w1 s2 w2, bldS prog 25 1 #[(0, (.int .u8 x))] w = some (⟨some ⟨w.heap.size, 0, none⟩, 1, 1⟩, w1) ∧ apd prog 25 25 (.slice s.a s.len s.cap) (.slice (some ⟨w.heap.size, 0, none⟩) 1 1) w1 = some (s2, w2) ∧
      Vw 5 w2 s2 (ints .u8 (xs ++ [x])) ∧ s2.len = s.len + 1 ∧ Upd (fun k => s.blk = some k) w w2 ∧ (∀ k, s2.blk = some k → s.blk = some k ∨ w.heap.size ≤ k) := by
  obtain ⟨w1, h1, o1, u1, z1⟩ := bldS1_ok sliceB (.int .u8 x) rfl w
  obtain ⟨s2, w2, h2, l2, o2, u2, b2⟩ := apd_vw sliceB (ho.upd0 u1) (o1.src (by simp [Value.oneCell'])) (by show (s.len + 1) * 1 ≤ _; omega)
  refine ⟨w1, s2, w2, h1, h2, by simpa using o2, l2, (u1.mono fun _ _ e => e.elim).trans' u2 fun _ _ e => e, fun k hk => (b2 k hk).imp id fun e => by omega⟩

theorem Spoil1 (K : Nat) : ∀ (d i n : Nat) (w : World) (s : Sl) (xs : List Int), i + d = 70 → xs.length + d ≤ 140737488355328 → d < n → Vw 5 w s (ints .u8 xs) →
    ∃ s' w' ys, book_SpoilBytes_l1 K n s (i : Int) w = some ((s', ()), w') ∧ Vw 5 w' s' (ints .u8 ys) ∧ ys.length = xs.length + d ∧ Upd (fun k => s.blk = some k) w w' ∧ (∀ k, s'.blk = some k → s.blk = some k ∨ w.heap.size ≤ k) := by
  intro d
  induction d with
  | zero =>
    intro i n w s xs hi hl hn hv
    obtain ⟨n, rfl⟩ : ∃ m, n = m + 1 := ⟨n - 1, by omega⟩
    have : i = 70 := by omega
    subst this
    refine ⟨s, w, xs, ?_, hv, rfl, Upd.refl _ _, fun _ => .inl⟩
    show book_SpoilBytes_l1_b K (book_SpoilBytes_l1 K n) s ((70 : Nat) : Int) w = _
    unfold book_SpoilBytes_l1_b
    rw [if_neg (by decide)]
  | succ d ih =>
    intro i n w s xs hi hl hn hv
    obtain ⟨n, rfl⟩ : ∃ m, n = m + 1 := ⟨n - 1, by omega⟩
    have hsl : s.len = xs.length := by rw [hv.len, ints_length]
    obtain ⟨w1, s2, w2, h1, h2, o2, l2, u2, b2⟩ := pushV (IntKind.u8.wrap (IntKind.i64.wrap ((IntKind.i64.wrap (7 * (i : Int))) + 3))) hv (by omega)
    obtain ⟨s3, w3, ys, h3, o3, l3, u3, b3⟩ := ih (i + 1) n w2 s2 _ (by omega) (by rw [List.length_append, List.length_singleton]; omega) (by omega) o2
    refine ⟨s3, w3, ys, ?_, o3, by rw [l3, List.length_append, List.length_singleton]; omega, u2.trans' u3 fun k hk e => (b2 k e).elim id fun e => by omega, fun k hk => ?_⟩
    · have hd : decide ((i : Int) < 70) = true := by simp; omega
      have e1 : IntKind.i64.wrap ((i : Int) + 1) = ((i + 1 : Nat) : Int) := by rw [w64 (by omega) (by omega)]; rfl
      show book_SpoilBytes_l1_b K (book_SpoilBytes_l1 K n) s (i : Int) w = _
      unfold book_SpoilBytes_l1_b
      rw [hd, if_pos rfl, h1, bnd_ok, h2, bnd_ok, e1, h3]
    · rcases b3 k hk with e | e
      · exact b2 k e
      · exact .inr (by have := u2.size; omega)

theorem SpoilBytes_ok {K : Nat} (hK : 18446744073709551616 ≤ K) {s : Sl} {xs : List Int} {w : World} (hv : Vw 5 w s (ints .u8 xs)) (hl : xs.length ≤ 140737488351232) :
    ∃ w', book_SpoilBytes K s w = some ((), w') ∧ Upd (fun k => s.blk = some k) w w' := by
  obtain ⟨w1, ys, h1, v1, l1, u1⟩ := Spoil0 K xs.length 0 K w xs (by omega) (by omega) (by omega) hv
  have h1 : book_SpoilBytes_l0 K K s 0 w = _ := h1
  have hsl : s.len = xs.length := by rw [hv.len, ints_length]
  obtain ⟨w2, s2, w3, h2, h3, v3, l3, u3, b3⟩ := pushV 1 v1 (by omega)
  obtain ⟨s4, w4, zs, h4, v4, l4, u4, b4⟩ := Spoil1 K 70 0 K w3 s2 _ (by omega) (by rw [List.length_append, List.length_singleton]; omega) (by omega) v3
  have h4 : book_SpoilBytes_l1 K K s2 0 w3 = _ := h4
  rw [List.length_append, List.length_singleton] at l4
  have hl4 : s4.len = xs.length + 71 := by rw [v4.len, ints_length]; omega
  obtain ⟨p, w5, hp, h5, v5, u5⟩ := v4.st (i := xs.length + 70) (by omega) (.int .u8 77)
  have e1 : IntKind.i64.wrap (((s4.len : Nat) : Int) - 1) = ((xs.length + 70 : Nat) : Int) := by rw [hl4, w64 (by omega) (by omega)]; omega
  have c : (0 : Int) ≤ ((xs.length + 70 : Nat) : Int) ∧ ((xs.length + 70 : Nat) : Int) < ((s4.len : Nat) : Int) := by omega
  refine ⟨w5, ?_, ?_⟩
  · unfold book_SpoilBytes
    rw [h1, bnd_ok, h2, bnd_ok, h3, bnd_ok, h4, bnd_ok]
    dsimp only
    rw [hp, Option.bind_some, e1, if_pos c, Int.toNat_natCast, Nat.mul_one, h5, Option.bind_some]
  · have q3 : Upd (fun k => s.blk = some k) w w3 := u1.trans' u3 fun _ _ e => e
    have hz := u1.size
    have q4 : Upd (fun k => s.blk = some k) w w4 := q3.trans' u4 fun k hk e => (b3 k e).elim id fun e => by omega
    have hz3 := u3.size
    refine q4.trans' u5 fun k hk e => ?_
    rcases b4 k e with e | e
    · rcases b3 k e with e | e
      · exact e
      · omega
    · omega

end Go.Sh

/- A digest begins: begin and New of package digest. -/
import Derived.Test.YtgmdbhckccmhjaaDoorEndOk
import Derived.Test.YtgmdbhckccmhjaaDoorBookD
set_option linter.unusedVariables false
namespace Go.Sh
open Go.Fw Go.Sha Go.RowKit Go.Proofs.Tryd

theorem first_none (K : Nat) {h : Int} (hk : known h = false) {a2 : Addr} :
    ∀ (d i n : Nat) (w : World), i + d = 8 → d < n → digest_first_l0 K n h a2 (i : Int) w = some ((), w) := by
  intro d
  have q : (h == 224) = false ∧ (h == 256) = false ∧ (h == 384) = false ∧ (h == 512) = false := by
    simp [known] at hk ⊢; omega
  induction d with
  | zero =>
    intro i n w hi hn
    obtain ⟨n, rfl⟩ : ∃ m, n = m + 1 := ⟨n - 1, by omega⟩
    have : i = 8 := by omega
    subst this
    show digest_first_l0_b K (digest_first_l0 K n) h a2 ((8 : Nat) : Int) w = _
    unfold digest_first_l0_b
    rw [if_neg (by decide)]
  | succ d ih =>
    intro i n w hi hn
    obtain ⟨n, rfl⟩ : ∃ m, n = m + 1 := ⟨n - 1, by omega⟩
    have hd : decide ((i : Int) < 8) = true := by simp; omega
    have e1 : IntKind.i64.wrap ((i : Int) + 1) = ((i + 1 : Nat) : Int) := by rw [w64 (by omega) (by omega)]; rfl
    show digest_first_l0_b K (digest_first_l0 K n) h a2 (i : Int) w = _
    unfold digest_first_l0_b
    rw [hd, if_pos rfl, q.1, if_neg (by decide), q.2.1, if_neg (by decide), q.2.2.1, if_neg (by decide), q.2.2.2, if_neg (by decide), e1]
    exact ih (i + 1) n w (by omega) (by omega)

theorem firstH_none {h : Int} (hk : known h = false) (S : List Int) : firstH S h = List.replicate 8 0 := by
  have q : h ≠ 224 ∧ h ≠ 256 ∧ h ≠ 384 ∧ h ≠ 512 := by simp [known] at hk; omega
  unfold firstH
  refine List.eq_replicate_iff.2 ⟨by simp, fun b hb => ?_⟩
  obtain ⟨i, _, rfl⟩ := List.mem_map.1 hb
  unfold fw1
  rw [if_neg q.1, if_neg q.2.1, if_neg q.2.2.1, if_neg q.2.2.2]

theorem first_any {K : Nat} (hK : 18446744073709551616 ≤ K) (h : Int) {S : List Int} (hS : S.length = 16) (hin : ∀ i, InK .u64 (S.getD i 0)) {w : World} (hT : Rd w ⟨3, 0, none⟩ (ints .u64 S)) :
    ∃ w', digest_first K h w = some (((ints .u64 (firstH S h)).toArray, ()), w') ∧ Upd none_ w w' := by
  cases hk : known h with
  | true => exact first_ok hK hk hS hin hT
  | false =>
    obtain ⟨w1, n1, b1, u1, z1⟩ := newB_ok z80 80 w
    have b1 : Bk 80 w1 w.heap.size z80.toList := b1
    have h3 := first_none K hk (a2 := ⟨w.heap.size, 0, none⟩) 8 0 K w1 rfl (by omega)
    have h3 : digest_first_l0 K K h ⟨w.heap.size, 0, none⟩ 0 w1 = _ := h3
    have hl8 : (ints .u64 (firstH S h)).length = 8 := by rw [ints_length, firstH_len]
    have ez : z80.toList = ints .u64 (firstH S h) := by rw [firstH_none hk]; rfl
    rw [ez] at b1
    have l3 := b1.ldA (i := 0) (n := 8) (by rw [hl8]; decide)
    rw [List.drop_zero, List.take_of_length_le (by rw [hl8]; decide)] at l3
    obtain ⟨w4, a1, a2, a3, a4⟩ := lay' b1 (vs := ints .u64 (firstH S h)) rfl ints_one
    rw [hl8] at a4
    refine ⟨w4, ?_, u1.trans' a3 fun k hk e => by omega⟩
    unfold digest_first
    rw [n1, bnd_ok, h3, bnd_ok, l3, Option.bind_some, if_pos (by rw [List.size_toArray, hl8]), a1, Option.bind_some, a4, Option.bind_some]

theorem built87 (a b c d : Value) (h : Int) (x0 x1 x2 x3 x4 x5 x6 x7 : Int) :
    prog.built 87 [(0, .agg #[a, b, c, d]), (1, .int .i64 h), (3, .agg #[.int .u64 x0, .int .u64 x1, .int .u64 x2, .int .u64 x3, .int .u64 x4, .int .u64 x5, .int .u64 x6, .int .u64 x7])] =
      some (([a, b, c, d] ++ ([.int .i64 h, .int .u64 0] ++ ([.int .u64 x0, .int .u64 x1, .int .u64 x2, .int .u64 x3, .int .u64 x4, .int .u64 x5, .int .u64 x6, .int .u64 x7] ++ List.replicate 128 (.int .u8 0))) : List Value).toArray) := by kernel_rfl

theorem sameK_self {β : Type} (v : Value) (k : Option β) : sameK v v k = k := by unfold sameK; rw [if_pos rfl]

theorem list8 {α : Type} {l : List α} (h : l.length = 8) : ∃ a b c d e f g i, l = [a, b, c, d, e, f, g, i] := by
  match l, h with
  | [a, b, c, d, e, f, g, i], _ => exact ⟨a, b, c, d, e, f, g, i, rfl⟩

theorem list4 {α : Type} {l : List α} (h : l.length = 4) : ∃ a b c d, l = [a, b, c, d] := by
  match l, h with
  | [a, b, c, d], _ => exact ⟨a, b, c, d, rfl⟩

theorem begin_built (h : Int) {H : List Int} (hH : H.length = 8) :
    prog.built 87 [(0, (.agg (kc h).toArray)), (1, (.int .i64 h)), (3, (.agg (ints .u64 H).toArray))] = some (stCells h 0 H (List.replicate 128 0)).toArray := by
  obtain ⟨a, b, c, d, e4⟩ := list4 (kc_len h)
  obtain ⟨x0, x1, x2, x3, x4, x5, x6, x7, rfl⟩ := list8 hH
  unfold stCells
  rw [e4]
  refine (built87 a b c d h x0 x1 x2 x3 x4 x5 x6 x7).trans ?_
  rw [show ints .u8 (List.replicate 128 0) = List.replicate 128 (.int .u8 0) from List.map_replicate]
  rfl

theorem stCells_one (h : Int) (cnt : Nat) (H half : List Int) : ∀ v ∈ stCells h cnt H half, v.oneCell' = true := by
  intro v hv
  unfold stCells at hv
  simp only [List.mem_append, List.mem_cons, List.not_mem_nil, or_false] at hv
  rcases hv with hv | (rfl | rfl) | hv | hv
  · exact kc_one h v hv
  · rfl
  · rfl
  · exact ints_one v hv
  · exact ints_one v hv

abbrev half0 : List Int := List.replicate 128 0

theorem begin_ok {K : Nat} (hK : 18446744073709551616 ≤ K) (h : Int) {S : List Int} (hS : S.length = 16) (hin : ∀ i, InK .u64 (S.getD i 0)) {w : World} (hT : Rd w ⟨3, 0, none⟩ (ints .u64 S)) :
    ∃ w', digest_begin K h w = some (((stCells h 0 (firstH S h) half0).toArray, known h, ()), w') ∧ Upd none_ w w' := by
  obtain ⟨w1, n1, b1, u1, z1⟩ := newB_ok z87 87 w
  have b1 : Bk 87 w1 w.heap.size z87.toList := b1
  obtain ⟨w2, h2, u2⟩ := kindOf_ok h w1
  obtain ⟨w3, n3, b3, u3, z3⟩ := newB_ok z77 77 w2
  have b3 : Bk 77 w3 w2.heap.size z77.toList := b3
  obtain ⟨w4, a1, a2, a3, a4⟩ := lay b3 (vs := kc h) (by rw [kc_len]; rfl) (kc_one h)
  rw [kc_len] at a4
  have q4 : Upd none_ w w4 := ((u1.and0 u2).and0 u3).trans' a3 fun k hk e => by have := (u1.and0 u2).size; omega
  have q4d : Upd none_ w w4.drew := q4.drew
  obtain ⟨w5, h5, u5⟩ := first_any hK h hS hin (hT.upd q4d fun _ => id)
  have l5 := (a2.drew.upd0 u5).ldA (i := 0) (n := 4) (by rw [kc_len]; decide)
  rw [List.drop_zero, List.take_of_length_le (by rw [kc_len]; decide)] at l5
  have b5 : Bk 87 w5 w.heap.size z87.toList := ((((b1.upd0 u2).upd0 u3).upd a3 (by have := u2.size; omega)).drew).upd0 u5
  obtain ⟨w6, c1, c2, c3, c4⟩ := lay b5 (vs := stCells h 0 (firstH S h) half0) (by rw [stCells_len h 0 (firstH_len S h) (List.length_replicate ..)]; rfl) (stCells_one _ _ _ _)
  rw [stCells_len h 0 (firstH_len S h) (List.length_replicate ..)] at c4
  refine ⟨w6, ?_, (q4d.and0 u5).trans' c3 fun k hk e => by omega⟩
  unfold digest_begin
  rw [n1, bnd_ok, h2, bnd_ok, n3, bnd_ok]
  dsimp only
  have a4d : ldA 4 ⟨w2.heap.size, 0, none⟩ w4.drew = some (kc h).toArray := a4
  rw [if_pos (by rw [List.size_toArray, kc_len]), a1, Option.bind_some, a4d, Option.bind_some, h5, bnd_ok, l5, Option.bind_some, sameK_self, begin_built h (firstH_len S h), Option.bind_some,
    if_pos (by rw [List.size_toArray, stCells_len h 0 (firstH_len S h) (List.length_replicate ..)]), c1, Option.bind_some, c4, Option.bind_some]

theorem built99 (cs : List Value) (hc : cs.length = 142) : prog.built 99 [(0, (.agg cs.toArray))] = some cs.toArray :=
  built_one (P := prog) (t := 99) (it := t99) (f := { name := "state", type := 87, offset := 0, embedded := true, tag := "", pkgPath := "coffer/digest", byteOffset := 0 }) (z := .agg z99) (by kernel_rfl) (by kernel_rfl) (by kernel_rfl) (i := t87) (by kernel_rfl) rfl (by rw [hc]; kernel_rfl) (by kernel_rfl)

/-- A stream that was begun here: its parts, all of them. -/
theorem New_ok {K : Nat} (hK : 18446744073709551616 ≤ K) (h : Int) {S : List Int} (hS : S.length = 16) (hin : ∀ i, InK .u64 (S.getD i 0)) {w : World} (hT : Rd w ⟨3, 0, none⟩ (ints .u64 S)) :
    ∃ w' g, digest_New K h w = some (((if known h = true then some ⟨g, 0, none⟩ else none), (if known h = true then 0 else 10), ()), w') ∧ Upd none_ w w' ∧ w.heap.size ≤ g ∧
      (known h = true → Bk 99 w' g (stCells h 0 (firstH S h) half0)) := by
  obtain ⟨w1, h1, u1⟩ := begin_ok hK h hS hin hT
  obtain ⟨w2, n2, b2, u2, z2⟩ := newB_ok z87 87 w1
  have hcl := stCells_len h 0 (firstH_len S h) (List.length_replicate (n := 128) (a := (0 : Int)))
  obtain ⟨w3, c1, c2, c3, c4⟩ := lay b2 (vs := stCells h 0 (firstH S h) half0) (by rw [hcl]; rfl) (stCells_one _ _ _ _)
  have q3 : Upd none_ w w3 := (u1.and0 u2).trans' c3 fun k hk e => by have h1 := u1.size; have e : k = w1.heap.size := e; omega
  rw [hcl] at c4
  have hs1 := u1.size
  have hs3 := q3.size
  unfold digest_New
  rw [h1, bnd_ok, n2, bnd_ok]
  dsimp only
  rw [if_pos (by rw [List.size_toArray, hcl]), c1, Option.bind_some]
  cases hk : known h with
  | true =>
    obtain ⟨w4, n4, b4, u4, z4⟩ := newB_ok (stCells h 0 (firstH S h) half0).toArray 99 w3
    refine ⟨w4, w3.heap.size, ?_, q3.and0 u4, by omega, fun _ => b4⟩
    rw [if_neg (by decide), c4, Option.bind_some, built99 _ hcl, Option.bind_some, n4, bnd_ok]
    rfl
  | false =>
    refine ⟨w3, w.heap.size, ?_, q3, Nat.le_refl _, fun e => by cases e⟩
    rw [if_pos (by decide)]
    rfl

end Go.Sh

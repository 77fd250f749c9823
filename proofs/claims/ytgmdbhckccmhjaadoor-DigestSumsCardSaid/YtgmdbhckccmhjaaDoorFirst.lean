/- The words that a digest begins with, by the program and by the document's answer. -/
import Derived.Test.YtgmdbhckccmhjaaDoorRef64
import Derived.Test.YtgmdbhckccmhjaaDoorKind
set_option linter.unusedVariables false
namespace Go.Sh
open Go.Fw Go.Sha Go.RowKit Go.Proofs.Tryd

def fw1 (S : List Int) (h : Int) (i : Nat) : Int :=
  if h = 224 then Int.tmod (S.getD (8 + i) 0) 4294967296 else if h = 256 then Int.fdiv (S.getD i 0) (2 ^ 32) else if h = 384 then S.getD (8 + i) 0 else if h = 512 then S.getD i 0 else 0

def firstH (S : List Int) (h : Int) : List Int := (List.range 8).map (fw1 S h)

theorem firstH_len (S : List Int) (h : Int) : (firstH S h).length = 8 := by simp [firstH]
theorem firstH_get (S : List Int) (h : Int) {i : Nat} (hi : i < 8) : (firstH S h).getD i 0 = fw1 S h i := by
  simp [firstH, List.getD_eq_getElem?_getD, hi]

theorem known_cases {h : Int} (hk : known h = true) : h = 224 ∨ h = 256 ∨ h = 384 ∨ h = 512 := by
  simp [known] at hk
  rcases hk with ((h | h) | h) | h <;> simp [h]

theorem and32 {x : Int} (hx : InK .u64 x) : bits .and .u64 x 4294967295 = Int.tmod x 4294967296 := by
  obtain ⟨n, rfl, hn⟩ := hx.nat
  have h1 := (bits_nats (k := .u64) rfl hn (show 4294967295 < 2 ^ IntKind.u64.bits by decide)).1
  have h2 : n &&& 4294967295 = n % 4294967296 := Nat.and_two_pow_sub_one_eq_mod n 32
  rw [h2] at h1
  exact h1.trans (tmod_nat n 4294967296).symm

theorem rd_ld {w : World} {g : Nat} {S : List Int} (h : Rd w ⟨g, 0, none⟩ (ints .u64 S)) {i : Nat} (hi : i < S.length) : ldI .u64 ⟨g, i, none⟩ w = some (S.getD i 0) := by
  have := h i (.int .u64 (S.getD i 0)) (by simp [ints, List.getD_eq_getElem?_getD, hi])
  rw [add_lit, Nat.zero_add] at this
  simp [ldI, this, asI]

theorem refFirst_loop (K : Nat) {h : Int} (hk : known h = true) {S : List Int} (hS : S.length = 16) {a2 : Addr} {gh : Nat} (hg : gh ≠ 0) :
    ∀ (d i n : Nat) (w : World) (cs : List Value), i + d = 8 → d < n → Rd w ⟨0, 0, none⟩ (ints .u64 S) → Bk 80 w gh cs → cs.length = 8 → cs.take i = ints .u64 ((firstH S h).take i) →
      ∃ w', ref01_first_l0 K n h a2 ⟨gh, 0, none⟩ (i : Int) w = some ((), w') ∧ Bk 80 w' gh (ints .u64 (firstH S h)) ∧ Upd (· = gh) w w' := by
  intro d
  induction d with
  | zero =>
    intro i n w cs hi hn hT hb hc ht
    obtain ⟨n, rfl⟩ : ∃ m, n = m + 1 := ⟨n - 1, by omega⟩
    have : i = 8 := by omega
    subst this
    rw [List.take_of_length_le (by omega), List.take_of_length_le (by rw [firstH_len]; decide)] at ht
    refine ⟨w, ?_, ht ▸ hb, Upd.refl _ _⟩
    show ref01_first_l0_b K (ref01_first_l0 K n) h a2 ⟨gh, 0, none⟩ ((8 : Nat) : Int) w = _
    simp [ref01_first_l0_b]
  | succ d ih =>
    intro i n w cs hi hn hT hb hc ht
    obtain ⟨n, rfl⟩ : ∃ m, n = m + 1 := ⟨n - 1, by omega⟩
    have hd : decide ((i : Int) < 8) = true := by simp; omega
    have e1 : IntKind.i64.wrap ((i : Int) + 1) = ((i + 1 : Nat) : Int) := by rw [w64 (by omega) (by omega)]; rfl
    have e8 : IntKind.i64.wrap (8 + (i : Int)) = ((8 + i : Nat) : Int) := by rw [w64 (by omega) (by omega)]; rfl
    have c8 : (0 : Int) ≤ ((8 + i : Nat) : Int) ∧ ((8 + i : Nat) : Int) < ((16 : Nat) : Int) := by omega
    have c16 : (0 : Int) ≤ (i : Int) ∧ (i : Int) < ((16 : Nat) : Int) := by omega
    have c0 : (0 : Int) ≤ (i : Int) ∧ (i : Int) < ((8 : Nat) : Int) := by omega
    have l8 := rd_ld hT (i := 8 + i) (by omega)
    have l0 := rd_ld hT (i := i) (by omega)
    have hx := firstH_get S h (i := i) (by omega)
    obtain ⟨w1, s1, s2, s3⟩ := hb.stC (i := i) (by omega) (.int .u64 ((firstH S h).getD i 0))
    obtain ⟨w2, h1, h2, h3⟩ := ih (i + 1) n w1 _ (by omega) (by omega) (hT.upd s3 fun _ e => hg e.symm) s2 (by simpa using hc) (set_front ht (by rw [firstH_len]; omega) (by omega))
    refine ⟨w2, ?_, h2, s3.trans' h3 fun _ _ e => e⟩
    show ref01_first_l0_b K (ref01_first_l0 K n) h a2 ⟨gh, 0, none⟩ (i : Int) w = _
    rw [hx] at s1
    unfold ref01_first_l0_b
    rcases known_cases hk with e | e | e | e
    · subst e
      rw [hd, if_pos rfl, if_pos (by decide), e8, if_pos c8]
      simp only [Int.toNat_natCast, add_lit, Nat.mul_one, Nat.zero_add]
      rw [l8, Option.bind_some, if_pos c0]
      have s1 : stC ⟨gh, i, none⟩ (.int .u64 (Int.tmod (S.getD (8 + i) 0) 4294967296)) w = some w1 := s1
      rw [s1, Option.bind_some, e1, h1]
    · subst e
      rw [hd, if_pos rfl, if_neg (by decide), if_pos (by decide), if_pos c16]
      simp only [Int.toNat_natCast, add_lit, Nat.mul_one, Nat.zero_add]
      rw [l0, Option.bind_some, if_pos c0]
      have s1 : stC ⟨gh, i, none⟩ (.int .u64 (Int.fdiv (S.getD i 0) (2 ^ 32))) w = some w1 := s1
      rw [s1, Option.bind_some, e1, h1]
    · subst e
      rw [hd, if_pos rfl, if_neg (by decide), if_neg (by decide), if_pos (by decide), e8, if_pos c8]
      simp only [Int.toNat_natCast, add_lit, Nat.mul_one, Nat.zero_add]
      rw [l8, Option.bind_some, if_pos c0]
      have s1 : stC ⟨gh, i, none⟩ (.int .u64 (S.getD (8 + i) 0)) w = some w1 := s1
      rw [s1, Option.bind_some, e1, h1]
    · subst e
      rw [hd, if_pos rfl, if_neg (by decide), if_neg (by decide), if_neg (by decide), if_pos (by decide), if_pos c16]
      simp only [Int.toNat_natCast, add_lit, Nat.mul_one, Nat.zero_add]
      rw [l0, Option.bind_some, if_pos c0]
      have s1 : stC ⟨gh, i, none⟩ (.int .u64 (S.getD i 0)) w = some w1 := s1
      rw [s1, Option.bind_some, e1, h1]

theorem refFirst_ok {K : Nat} (hK : 18446744073709551616 ≤ K) {h : Int} (hk : known h = true) {S : List Int} (hS : S.length = 16) {w : World} (hT : Rd w ⟨0, 0, none⟩ (ints .u64 S)) :
    ∃ w', ref01_first K h w = some (((ints .u64 (firstH S h)).toArray, ()), w') ∧ Upd none_ w w' := by
  have hR : 0 < w.heap.size := hT.lt (fun e => by have := congrArg List.length e; simp [hS] at this)
  obtain ⟨w1, n1, b1, u1, z1⟩ := newB_ok z80 80 w
  obtain ⟨w2, n2, b2, u2, z2⟩ := newB_ok z80 80 w1
  have b1 : Bk 80 w1 w.heap.size z80.toList := b1
  have b2 : Bk 80 w2 w1.heap.size z80.toList := b2
  obtain ⟨w3, h3, b3, u3⟩ := refFirst_loop K hk hS (a2 := ⟨w.heap.size, 0, none⟩) (gh := w1.heap.size) (by omega) 8 0 K w2 _ rfl (by omega) (hT.upd (u1.and0 u2) fun _ => id) b2 rfl (by simp)
  have h3 : ref01_first_l0 K K h ⟨w.heap.size, 0, none⟩ ⟨w1.heap.size, 0, none⟩ 0 w2 = _ := h3
  have hl8 : (ints .u64 (firstH S h)).length = 8 := by rw [ints_length, firstH_len]
  have l3 := b3.ldA (i := 0) (n := 8) (by rw [hl8]; decide)
  rw [List.drop_zero, List.take_of_length_le (by rw [hl8]; decide)] at l3
  obtain ⟨w4, a1, a2, a3, a4⟩ := lay' ((b1.upd0 u2).upd u3 (by omega)) (vs := ints .u64 (firstH S h)) (by rw [hl8]; rfl) ints_one
  rw [hl8] at a4
  refine ⟨w4, ?_, ((u1.and0 u2).trans' u3 fun k hk e => by omega).trans' a3 fun k hk e => by omega⟩
  unfold ref01_first
  rw [n1, bnd_ok, n2, bnd_ok, h3, bnd_ok, l3, Option.bind_some, if_pos (by rw [List.size_toArray, hl8]), a1, Option.bind_some, a4, Option.bind_some]

theorem first_loop (K : Nat) {h : Int} (hk : known h = true) {S : List Int} (hS : S.length = 16) (hin : ∀ i, InK .u64 (S.getD i 0)) {gh : Nat} (hg : gh ≠ 3) :
    ∀ (d i n : Nat) (w : World) (cs : List Value), i + d = 8 → d < n → Rd w ⟨3, 0, none⟩ (ints .u64 S) → Bk 80 w gh cs → cs.length = 8 → cs.take i = ints .u64 ((firstH S h).take i) →
      ∃ w', digest_first_l0 K n h ⟨gh, 0, none⟩ (i : Int) w = some ((), w') ∧ Bk 80 w' gh (ints .u64 (firstH S h)) ∧ Upd (· = gh) w w' := by
  intro d
  induction d with
  | zero =>
    intro i n w cs hi hn hT hb hc ht
    obtain ⟨n, rfl⟩ : ∃ m, n = m + 1 := ⟨n - 1, by omega⟩
    have : i = 8 := by omega
    subst this
    rw [List.take_of_length_le (by omega), List.take_of_length_le (by rw [firstH_len]; decide)] at ht
    refine ⟨w, ?_, ht ▸ hb, Upd.refl _ _⟩
    show digest_first_l0_b K (digest_first_l0 K n) h ⟨gh, 0, none⟩ ((8 : Nat) : Int) w = _
    simp [digest_first_l0_b]
  | succ d ih =>
    intro i n w cs hi hn hT hb hc ht
    obtain ⟨n, rfl⟩ : ∃ m, n = m + 1 := ⟨n - 1, by omega⟩
    have hd : decide ((i : Int) < 8) = true := by simp; omega
    have e1 : IntKind.i64.wrap ((i : Int) + 1) = ((i + 1 : Nat) : Int) := by rw [w64 (by omega) (by omega)]; rfl
    have e8 : IntKind.i64.wrap (8 + (i : Int)) = ((8 + i : Nat) : Int) := by rw [w64 (by omega) (by omega)]; rfl
    have c8 : (0 : Int) ≤ ((8 + i : Nat) : Int) ∧ ((8 + i : Nat) : Int) < ((16 : Nat) : Int) := by omega
    have c16 : (0 : Int) ≤ (i : Int) ∧ (i : Int) < ((16 : Nat) : Int) := by omega
    have c0 : (0 : Int) ≤ (i : Int) ∧ (i : Int) < ((8 : Nat) : Int) := by omega
    have l8 := rd_ld hT (i := 8 + i) (by omega)
    have l0 := rd_ld hT (i := i) (by omega)
    have hx := firstH_get S h (i := i) (by omega)
    obtain ⟨w1, s1, s2, s3⟩ := hb.stC (i := i) (by omega) (.int .u64 ((firstH S h).getD i 0))
    obtain ⟨w2, h1, h2, h3⟩ := ih (i + 1) n w1 _ (by omega) (by omega) (hT.upd s3 fun _ e => hg e.symm) s2 (by simpa using hc) (set_front ht (by rw [firstH_len]; omega) (by omega))
    refine ⟨w2, ?_, h2, s3.trans' h3 fun _ _ e => e⟩
    show digest_first_l0_b K (digest_first_l0 K n) h ⟨gh, 0, none⟩ (i : Int) w = _
    rw [hx] at s1
    unfold digest_first_l0_b
    rcases known_cases hk with e | e | e | e
    · subst e
      rw [hd, if_pos rfl, if_pos (by decide), e8, if_pos c8]
      simp only [Int.toNat_natCast, add_lit, Nat.mul_one, Nat.zero_add]
      rw [l8, Option.bind_some, if_pos c0]
      have s1 : stC ⟨gh, i, none⟩ (.int .u64 (Int.tmod (S.getD (8 + i) 0) 4294967296)) w = some w1 := s1
      rw [and32 (hin _), s1, Option.bind_some, e1, h1]
    · subst e
      rw [hd, if_pos rfl, if_neg (by decide), if_pos (by decide), if_pos c16]
      simp only [Int.toNat_natCast, add_lit, Nat.mul_one, Nat.zero_add]
      rw [l0, Option.bind_some, if_pos c0]
      have s1 : stC ⟨gh, i, none⟩ (.int .u64 (Int.fdiv (S.getD i 0) (2 ^ 32))) w = some w1 := s1
      rw [s1, Option.bind_some, e1, h1]
    · subst e
      rw [hd, if_pos rfl, if_neg (by decide), if_neg (by decide), if_pos (by decide), e8, if_pos c8]
      simp only [Int.toNat_natCast, add_lit, Nat.mul_one, Nat.zero_add]
      rw [l8, Option.bind_some, if_pos c0]
      have s1 : stC ⟨gh, i, none⟩ (.int .u64 (S.getD (8 + i) 0)) w = some w1 := s1
      rw [s1, Option.bind_some, e1, h1]
    · subst e
      rw [hd, if_pos rfl, if_neg (by decide), if_neg (by decide), if_neg (by decide), if_pos (by decide), if_pos c16]
      simp only [Int.toNat_natCast, add_lit, Nat.mul_one, Nat.zero_add]
      rw [l0, Option.bind_some, if_pos c0]
      have s1 : stC ⟨gh, i, none⟩ (.int .u64 (S.getD i 0)) w = some w1 := s1
      rw [s1, Option.bind_some, e1, h1]

theorem first_ok {K : Nat} (hK : 18446744073709551616 ≤ K) {h : Int} (hk : known h = true) {S : List Int} (hS : S.length = 16) (hin : ∀ i, InK .u64 (S.getD i 0)) {w : World} (hT : Rd w ⟨3, 0, none⟩ (ints .u64 S)) :
    ∃ w', digest_first K h w = some (((ints .u64 (firstH S h)).toArray, ()), w') ∧ Upd none_ w w' := by
  have hR : 3 < w.heap.size := hT.lt (fun e => by have := congrArg List.length e; simp [hS] at this)
  obtain ⟨w1, n1, b1, u1, z1⟩ := newB_ok z80 80 w
  have b1 : Bk 80 w1 w.heap.size z80.toList := b1
  obtain ⟨w3, h3, b3, u3⟩ := first_loop K hk hS hin (gh := w.heap.size) (by omega) 8 0 K w1 _ rfl (by omega) (hT.upd u1 fun _ => id) b1 rfl (by simp)
  have h3 : digest_first_l0 K K h ⟨w.heap.size, 0, none⟩ 0 w1 = _ := h3
  have hl8 : (ints .u64 (firstH S h)).length = 8 := by rw [ints_length, firstH_len]
  have l3 := b3.ldA (i := 0) (n := 8) (by rw [hl8]; decide)
  rw [List.drop_zero, List.take_of_length_le (by rw [hl8]; decide)] at l3
  obtain ⟨w4, a1, a2, a3, a4⟩ := lay' b3 (vs := ints .u64 (firstH S h)) rfl ints_one
  rw [hl8] at a4
  refine ⟨w4, ?_, (u1.trans' u3 fun k hk e => by omega).trans' a3 fun k hk e => by omega⟩
  unfold digest_first
  rw [n1, bnd_ok, h3, bnd_ok, l3, Option.bind_some, if_pos (by rw [List.size_toArray, hl8]), a1, Option.bind_some, a4, Option.bind_some]

end Go.Sh

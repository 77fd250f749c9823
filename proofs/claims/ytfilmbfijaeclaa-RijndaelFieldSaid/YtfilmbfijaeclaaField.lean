/- Products and substitutions of package rijndael and of the document's answer: what they compute. -/
import Derived.Test.YtfilmbfijaeclaaGf
import Derived.Test.YtfilmbfijaeclaaSh0
set_option linter.unusedVariables false
namespace Go.Sh
open Go.Fw Go.Gf Go.RowKit Go.Proofs.Try

theorem xor8 {a b : Nat} (ha : a < 256) (hb : b < 256) : bits .xor .u8 (a : Int) (b : Int) = ((a ^^^ b : Nat) : Int) := (bits_nats (k := .u8) rfl ha hb).2.2
theorem and8 {a b : Nat} (ha : a < 256) (hb : b < 256) : bits .and .u8 (a : Int) (b : Int) = ((a &&& b : Nat) : Int) := (bits_nats (k := .u8) rfl ha hb).1
theorem or8 {a b : Nat} (ha : a < 256) (hb : b < 256) : bits .or .u8 (a : Int) (b : Int) = ((a ||| b : Nat) : Int) := (bits_nats (k := .u8) rfl ha hb).2.1
theorem xor64 {a b : Nat} (ha : a < 4611686018427387904) (hb : b < 4611686018427387904) : bits .xor .i64 (a : Int) (b : Int) = ((a ^^^ b : Nat) : Int) := by
  have ha' : a % 2 ^ 64 = a := Nat.mod_eq_of_lt (by omega)
  have hb' : b % 2 ^ 64 = b := Nat.mod_eq_of_lt (by omega)
  have hx : a ^^^ b < 2 ^ 62 := Nat.xor_lt_two_pow (by omega) (by omega)
  show IntKind.i64.wrap _ = _
  have e : ((BitVec.ofInt 64 (a : Int) ^^^ BitVec.ofInt 64 (b : Int)).toNat : Int) = ((a ^^^ b : Nat) : Int) := by
    simp only [BitVec.ofInt_natCast, BitVec.toNat_xor, BitVec.toNat_ofNat, ha', hb']
  exact (congrArg IntKind.i64.wrap e).trans (wn64 (by omega))

theorem shl8 {a : Nat} (k : Nat) : IntKind.u8.wrap ((a : Int) * 2 ^ k) = ((a * 2 ^ k % 256 : Nat) : Int) := by
  rw [IntKind.wrap_u8]; simp

theorem Times_loop (K : Nat) : ∀ (d n a b p : Nat), d ≤ 8 → a < 256 → p < 256 → b < 2 ^ d → d < n → rijndael_Times_l0 K n (a : Int) (b : Int) (p : Int) = some (.norm (((mulG d a b p : Nat) : Int), ())) := by
  intro d
  induction d with
  | zero =>
    intro n a b p hd ha hp hb hn
    obtain ⟨n, rfl⟩ : ∃ m, n = m + 1 := ⟨n - 1, by omega⟩
    have : b = 0 := by simpa using hb
    subst this
    show rijndael_Times_l0_b K (rijndael_Times_l0 K n) (a : Int) ((0 : Nat) : Int) (p : Int) = _
    simp [rijndael_Times_l0_b, mulG]
  | succ d ih =>
    intro n a b p hd ha hp hb hn
    obtain ⟨n, rfl⟩ : ∃ m, n = m + 1 := ⟨n - 1, by omega⟩
    show rijndael_Times_l0_b K (rijndael_Times_l0 K n) (a : Int) (b : Int) (p : Int) = _
    by_cases h0 : b = 0
    · subst h0
      simp [rijndael_Times_l0_b, mulG_zero]
    · have hb256 : b < 256 := by
        have : 2 ^ (d + 1) ≤ 2 ^ 8 := Nat.pow_le_pow_right (by decide) hd
        omega
      have e0 : (((b : Nat) : Int) != 0) = true := by simp; omega
      have e1 : bits .and .u8 (b : Int) 1 = ((b % 2 : Nat) : Int) := by
        have := and8 hb256 (show 1 < 256 by decide)
        rw [Nat.and_one_is_mod] at this; exact this
      have e2 : bits .and .u8 (a : Int) 128 = ((a &&& 128 : Nat) : Int) := and8 ha (show 128 < 256 by decide)
      have e3 : IntKind.u8.wrap ((a : Int) * 2 ^ 1) = ((a * 2 % 256 : Nat) : Int) := by rw [shl8]
      have e4 : bits .xor .u8 ((a * 2 % 256 : Nat) : Int) 27 = (((a * 2 % 256) ^^^ 27 : Nat) : Int) := xor8 (by omega) (show 27 < 256 by decide)
      have e5 : Int.fdiv (b : Int) (2 ^ 1) = ((b / 2 : Nat) : Int) := fdiv_pow b 1
      have hs : rijndael_Times_s1 K (a : Int) (p : Int) (((b % 2 : Nat) : Int) != 0) = some (.norm (((if b % 2 = 1 then p ^^^ a else p : Nat) : Int), ())) := by
        unfold rijndael_Times_s1
        by_cases h1 : b % 2 = 1
        · rw [h1, xor8 hp ha]; simp
        · have h2 : b % 2 = 0 := by omega
          rw [h2]; simp
      have hp' : (if b % 2 = 1 then p ^^^ a else p) < 256 := by
        split
        · exact Nat.xor_lt_two_pow (n := 8) hp ha
        · exact hp
      have ih' := ih n (xt a) (b / 2) _ (by omega) xt_lt hp' (by rw [Nat.pow_succ] at hb; omega) (by omega)
      unfold rijndael_Times_l0_b
      rw [e0, if_pos rfl, e1, hs, Option.bind_some]
      simp only [e2, e3, e4, e5]
      rw [mulG, ← ih']
      by_cases hx : a &&& 128 = 0
      · have : xt a = a * 2 % 256 := by unfold xt; rw [if_pos hx]
        rw [hx, this]; simp
      · have : xt a = (a * 2 % 256) ^^^ 27 := by unfold xt; rw [if_neg hx]
        have h3 : ((((a &&& 128 : Nat) : Int)) != 0) = true := by simp; omega
        rw [this, h3, if_pos rfl]

theorem Times_ok {K : Nat} (hK : 300 ≤ K) {a b : Nat} (ha : a < 256) (hb : b < 256) : rijndael_Times K (a : Int) (b : Int) = some (((mul a b : Nat) : Int), ()) := by
  have h := Times_loop K 8 K a b 0 (by decide) ha (by decide) hb (by omega)
  have h : rijndael_Times_l0 K K (a : Int) (b : Int) 0 = _ := h
  unfold rijndael_Times
  rw [h, Option.bind_some]
  rfl

/-! ### The document's product -/

theorem shk {i : Nat} (hi : i < 64) : (min (Int.toNat (IntKind.u64.wrap (i : Int))) IntKind.i64.bits) = i := by
  have e : IntKind.u64.wrap (i : Int) = (i : Int) := by rw [IntKind.wrap_u64]; omega
  rw [e, Int.toNat_natCast]
  exact Nat.min_eq_left (by simp only [IntKind.bits]; omega)
theorem shp {i : Nat} (hi : i < 64) : (0 : Int) ≤ IntKind.u64.wrap (i : Int) := by rw [IntKind.wrap_u64]; omega

theorem shl64 {a i : Nat} (h : a * 2 ^ i < 9223372036854775808) : IntKind.i64.wrap ((a : Int) * 2 ^ i) = ((a * 2 ^ i : Nat) : Int) := by
  have e : ((a : Int) * 2 ^ i) = ((a * 2 ^ i : Nat) : Int) := by simp
  rw [e, wn64 h]

theorem bit64 {v i : Nat} : Int.tmod (Int.fdiv (v : Int) (2 ^ i)) 2 = ((v / 2 ^ i % 2 : Nat) : Int) := by
  rw [fdiv_pow]; exact tmod_nat (v / 2 ^ i) 2

theorem ref_loop0 (K : Nat) {a b : Nat} (ha : a < 256) (hb : b < 256) : ∀ (d i n p : Nat), d + i = 8 → d < n → p < 32768 → ref02_Times_l0 K n (a : Int) (b : Int) (p : Int) (i : Int) = some (.norm (((pol d i a b p : Nat) : Int), ())) := by
  intro d
  induction d with
  | zero =>
    intro i n p hi hn hp
    obtain ⟨n, rfl⟩ : ∃ m, n = m + 1 := ⟨n - 1, by omega⟩
    have : i = 8 := by omega
    subst this
    show ref02_Times_l0_b K (ref02_Times_l0 K n) (a : Int) (b : Int) (p : Int) ((8 : Nat) : Int) = _
    simp [ref02_Times_l0_b, pol]
  | succ d ih =>
    intro i n p hi hn hp
    obtain ⟨n, rfl⟩ : ∃ m, n = m + 1 := ⟨n - 1, by omega⟩
    show ref02_Times_l0_b K (ref02_Times_l0 K n) (a : Int) (b : Int) (p : Int) (i : Int) = _
    have h8 : decide ((i : Int) < 8) = true := by simp; omega
    have hw : IntKind.i64.wrap ((i : Int) + 1) = ((i + 1 : Nat) : Int) := by rw [w64 (by omega) (by omega)]; rfl
    have hai : a * 2 ^ i < 32768 := by
      have : 2 ^ i ≤ 2 ^ 7 := Nat.pow_le_pow_right (by decide) (by omega)
      have := Nat.mul_le_mul (show a ≤ 255 by omega) this
      omega
    have hx : p ^^^ (a * 2 ^ i) < 32768 := Nat.xor_lt_two_pow (n := 15) hp hai
    unfold ref02_Times_l0_b
    rw [h8, if_pos rfl, if_pos (shp (by omega)), if_pos (shp (by omega)), wn64 (n := b) (by omega), shk (by omega), bit64, wn64 (n := a) (by omega), shl64 (by omega), xor64 (by omega) (by omega), hw]
    by_cases h1 : b / 2 ^ i % 2 = 1
    · have e1 : ((((b / 2 ^ i % 2 : Nat) : Int)) == 1) = true := by rw [h1]; rfl
      rw [e1, if_pos rfl, ih (i + 1) n _ (by omega) (by omega) hx, pol, if_pos h1]
    · have h2 : b / 2 ^ i % 2 = 0 := by omega
      have e1 : ((((b / 2 ^ i % 2 : Nat) : Int)) == 1) = false := by rw [h2]; rfl
      rw [e1, if_neg (by decide), ih (i + 1) n _ (by omega) (by omega) hp, pol, if_neg h1]

theorem ref_loop1 (K : Nat) : ∀ (d i n p : Nat), i = d + 7 → d ≤ 7 → d < n → p < 32768 → ref02_Times_l1 K n (p : Int) (i : Int) = some (.norm (((red d i p : Nat) : Int), ())) := by
  intro d
  induction d with
  | zero =>
    intro i n p hi hd hn hp
    obtain ⟨n, rfl⟩ : ∃ m, n = m + 1 := ⟨n - 1, by omega⟩
    subst hi
    show ref02_Times_l1_b K (ref02_Times_l1 K n) (p : Int) ((7 : Nat) : Int) = _
    simp [ref02_Times_l1_b, red]
  | succ d ih =>
    intro i n p hi hd hn hp
    obtain ⟨n, rfl⟩ : ∃ m, n = m + 1 := ⟨n - 1, by omega⟩
    show ref02_Times_l1_b K (ref02_Times_l1 K n) (p : Int) (i : Int) = _
    have h8 : decide ((i : Int) ≥ 8) = true := by simp; omega
    have hw : IntKind.i64.wrap ((i : Int) - 1) = ((i - 1 : Nat) : Int) := by rw [w64 (by omega) (by omega)]; omega
    have hw8 : IntKind.i64.wrap ((i : Int) - 8) = ((i - 8 : Nat) : Int) := by rw [w64 (by omega) (by omega)]; omega
    have hai : 283 * 2 ^ (i - 8) < 32768 := by
      have : 2 ^ (i - 8) ≤ 2 ^ 6 := Nat.pow_le_pow_right (by decide) (by omega)
      omega
    have hx := redS_lt (i := i) (by omega) hp
    have e283 : IntKind.i64.wrap (283 * 2 ^ (i - 8)) = ((283 * 2 ^ (i - 8) : Nat) : Int) := shl64 (a := 283) (by omega)
    unfold ref02_Times_l1_b
    rw [h8, if_pos rfl, if_pos (shp (by omega)), hw8, if_pos (shp (by omega)), shk (by omega), shk (by omega), bit64, e283, xor64 (by omega) (by omega), hw]
    have ih' := ih (i - 1) n (redS i p) (by omega) (by omega) (by omega) hx
    rw [red, ← ih']
    by_cases h1 : p / 2 ^ i % 2 = 1
    · have e1 : ((((p / 2 ^ i % 2 : Nat) : Int)) == 1) = true := by rw [h1]; rfl
      rw [e1, if_pos rfl, redS, if_pos h1]
    · have h2 : p / 2 ^ i % 2 = 0 := by omega
      have e1 : ((((p / 2 ^ i % 2 : Nat) : Int)) == 1) = false := by rw [h2]; rfl
      rw [e1, if_neg (by decide), redS, if_neg h1]

theorem refTimes_ok {K : Nat} (hK : 300 ≤ K) {a b : Nat} (ha : a < 256) (hb : b < 256) : ref02_Times K (a : Int) (b : Int) = some (((mul a b : Nat) : Int), ()) := by
  have h0 := ref_loop0 K ha hb 8 0 K 0 rfl (by omega) (by decide)
  have h0 : ref02_Times_l0 K K (a : Int) (b : Int) 0 0 = _ := h0
  have h1 := ref_loop1 K 7 14 K (pol 8 0 a b 0) rfl (by decide) (by omega) (pol_lt ha 8 0 0 rfl (by decide))
  have h1 : ref02_Times_l1 K K ((pol 8 0 a b 0 : Nat) : Int) 14 = _ := h1
  have e : IntKind.u8.wrap ((mul a b : Nat) : Int) = ((mul a b : Nat) : Int) := by
    have := mul_lt (b := b) ha
    rw [IntKind.wrap_u8]; omega
  unfold ref02_Times
  rw [h0, Option.bind_some]
  show (ref02_Times_l1 K K ((pol 8 0 a b 0 : Nat) : Int) 14).bind _ = _
  rw [h1, Option.bind_some]
  show some (IntKind.u8.wrap ((red 7 14 (pol 8 0 a b 0) : Nat) : Int), ()) = _
  rw [mul_ref ha, e]

end Go.Sh

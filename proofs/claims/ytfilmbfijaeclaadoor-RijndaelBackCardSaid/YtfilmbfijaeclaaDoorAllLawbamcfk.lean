/- Texts of this claim, put together: Gf, Field, SubsD, AesA, BookA, AesB, AesC, AesD, AesE, AesF, AesG, AesH, AesI, AesJ, AesK -/
import Derived.Test.YtfilmbfijaeclaaDoorAllSheckago
import Derived.Test.YtfilmbfijaeclaaDoorAllFwhohjab
/- The field of 256 elements: products by doubling, and by a product of polynomials and its remainder, on natural numbers; nothing of a program stands here. -/
namespace Go.Gf

/-- twice -/
def xt (a : Nat) : Nat := if a &&& 128 = 0 then a * 2 % 256 else (a * 2 % 256) ^^^ 27

def mulG : Nat → Nat → Nat → Nat → Nat
  | 0, _, _, p => p
  | n + 1, a, b, p => mulG n (xt a) (b / 2) (if b % 2 = 1 then p ^^^ a else p)

/-- the product -/
def mul (a b : Nat) : Nat := mulG 8 a b 0

theorem mulG_zero : ∀ (n a p : Nat), mulG n a 0 p = p
  | 0, _, _ => rfl
  | n + 1, a, p => by simp [mulG, mulG_zero n]

theorem xt_lt {a : Nat} : xt a < 256 := by
  unfold xt
  split
  · omega
  · exact Nat.xor_lt_two_pow (n := 8) (by omega) (by omega)

theorem mulG_lt : ∀ (n a b p : Nat), a < 256 → p < 256 → mulG n a b p < 256
  | 0, _, _, _, _, hp => hp
  | n + 1, a, b, p, ha, hp => by
    unfold mulG
    refine mulG_lt n _ _ _ xt_lt ?_
    split
    · exact Nat.xor_lt_two_pow (n := 8) hp ha
    · exact hp

theorem mul_lt {a b : Nat} (ha : a < 256) : mul a b < 256 := mulG_lt 8 a b 0 ha (by decide)

/-! ### The other way -/

def pol : Nat → Nat → Nat → Nat → Nat → Nat
  | 0, _, _, _, p => p
  | n + 1, i, a, b, p => pol n (i + 1) a b (if b / 2 ^ i % 2 = 1 then p ^^^ (a * 2 ^ i) else p)

def redS (i p : Nat) : Nat := if p / 2 ^ i % 2 = 1 then p ^^^ (283 * 2 ^ (i - 8)) else p
def red : Nat → Nat → Nat → Nat
  | 0, _, p => p
  | n + 1, i, p => red n (i - 1) (redS i p)

theorem redS_xor (i x y : Nat) : redS i (x ^^^ y) = redS i x ^^^ redS i y := by
  have hb : ∀ z : Nat, (z / 2 ^ i % 2 = 1) ↔ z.testBit i = true := fun z => by
    rw [Nat.testBit_eq_decide_div_mod_eq]; simp
  unfold redS
  simp only [hb, Nat.testBit_xor]
  have e1 : ∀ c : Nat, (x ^^^ c) ^^^ (y ^^^ c) = x ^^^ y := fun c => by
    have : (x ^^^ c) ^^^ (y ^^^ c) = (x ^^^ y) ^^^ (c ^^^ c) := by ac_rfl
    rw [this, Nat.xor_self, Nat.xor_zero]
  have e2 : ∀ c : Nat, (x ^^^ y) ^^^ c = x ^^^ (y ^^^ c) := fun c => by ac_rfl
  have e3 : ∀ c : Nat, (x ^^^ y) ^^^ c = (x ^^^ c) ^^^ y := fun c => by ac_rfl
  cases hx : x.testBit i <;> cases hy : y.testBit i
  · simp
  · simpa using e2 _
  · simpa using e3 _
  · simpa using (e1 _).symm

theorem red_xor : ∀ (n i x y : Nat), red n i (x ^^^ y) = red n i x ^^^ red n i y
  | 0, _, _, _ => rfl
  | n + 1, i, x, y => by simp only [red, redS_xor, red_xor n]

def xts : Nat → Nat → Nat
  | 0, a => a
  | n + 1, a => xt (xts n a)

theorem red_shift : ∀ a, a < 256 → ∀ i, i < 8 → red 7 14 (a * 2 ^ i) = xts i a := by decide +kernel

theorem xts_lt {a : Nat} (ha : a < 256) : ∀ i, xts i a < 256
  | 0 => ha
  | _ + 1 => xt_lt

theorem mul_pol {a b : Nat} (ha : a < 256) : ∀ (n i p : Nat), n + i = 8 → mulG n (xts i a) (b / 2 ^ i) (red 7 14 p) = red 7 14 (pol n i a b p)
  | 0, _, _, _ => rfl
  | n + 1, i, p, h => by
    have ih := mul_pol ha (b := b) n (i + 1) (if b / 2 ^ i % 2 = 1 then p ^^^ (a * 2 ^ i) else p) (by omega)
    simp only [mulG, pol]
    rw [← ih]
    have e1 : b / 2 ^ i / 2 = b / 2 ^ (i + 1) := by rw [Nat.div_div_eq_div_mul, Nat.pow_succ]
    rw [e1]
    have e2 : (if b / 2 ^ i % 2 = 1 then red 7 14 p ^^^ xts i a else red 7 14 p) = red 7 14 (if b / 2 ^ i % 2 = 1 then p ^^^ (a * 2 ^ i) else p) := by
      split
      · rw [red_xor, red_shift a ha i (by omega)]
      · rfl
    rw [e2]; rfl

theorem mul_ref {a b : Nat} (ha : a < 256) : red 7 14 (pol 8 0 a b 0) = mul a b := by
  have := mul_pol ha (b := b) 8 0 0 rfl
  rw [← this]
  simp [mul, xts]
  rfl

theorem pol_lt {a b : Nat} (ha : a < 256) : ∀ (n i p : Nat), n + i = 8 → p < 32768 → pol n i a b p < 32768
  | 0, _, _, _, hp => hp
  | n + 1, i, p, h, hp => by
    unfold pol
    refine pol_lt ha n (i + 1) _ (by omega) ?_
    split
    · refine Nat.xor_lt_two_pow (n := 15) hp ?_
      have : 2 ^ i ≤ 2 ^ 7 := Nat.pow_le_pow_right (by decide) (by omega)
      have := Nat.mul_le_mul (show a ≤ 255 by omega) this
      omega
    · exact hp

theorem redS_lt {i p : Nat} (hi : i ≤ 14) (hp : p < 32768) : redS i p < 32768 := by
  unfold redS
  split
  · refine Nat.xor_lt_two_pow (n := 15) hp ?_
    have : 2 ^ (i - 8) ≤ 2 ^ 6 := Nat.pow_le_pow_right (by decide) (by omega)
    have := Nat.mul_le_mul (show 283 ≤ 283 by omega) this
    omega
  · exact hp

end Go.Gf

/- Products and substitutions of package rijndael and of the document's answer: what they compute. -/
set_option linter.unusedVariables false
namespace Go.Sh
open Go.Fw Go.Gf Go.RowKit Go.Proofs.Tryd

theorem xor8 {a b : Nat} (ha : a < 256) (hb : b < 256) : bits .xor .u8 (a : Int) (b : Int) = ((a ^^^ b : Nat) : Int) := (bits_nats (k := .u8) rfl ha hb).2.2
theorem and8 {a b : Nat} (ha : a < 256) (hb : b < 256) : bits .and .u8 (a : Int) (b : Int) = ((a &&& b : Nat) : Int) := (bits_nats (k := .u8) rfl ha hb).1
theorem or8 {a b : Nat} (ha : a < 256) (hb : b < 256) : bits .or .u8 (a : Int) (b : Int) = ((a ||| b : Nat) : Int) := (bits_nats (k := .u8) rfl ha hb).2.1
theorem xor64 {a b : Nat} (ha : a < 4611686018427387904) (hb : b < 4611686018427387904) : bits .xor .i64 (a : Int) (b : Int) = ((a ^^^ b : Nat) : Int) := by
  have ha' : a % 2 ^ 64 = a := Nat.mod_eq_of_lt (by omega)
  have hb' : b % 2 ^ 64 = b := Nat.mod_eq_of_lt (by omega)
  have hx : a ^^^ b < 2 ^ 62 := Nat.xor_lt_two_pow (by omega) (by omega)
  show IntKind.i64.wrap _ = _
  have e : ((BitVec.ofInt 64 (a : Int) ^^^ BitVec.ofInt 64 (b : Int)).toNat : Int) = ((a ^^^ b : Nat) : Int) := by
    simp only [BitVec.ofInt_natCast, BitVec.toNat_xor, BitVec.toNat_ofNat, ha', hb']
  exact (congrArg IntKind.i64.wrap e).trans (wn64 (by omega))

theorem shl8 {a : Nat} (k : Nat) : IntKind.u8.wrap ((a : Int) * 2 ^ k) = ((a * 2 ^ k % 256 : Nat) : Int) := by
  rw [IntKind.wrap_u8]; simp

theorem Times_loop (K : Nat) : ∀ (d n a b p : Nat), d ≤ 8 → a < 256 → p < 256 → b < 2 ^ d → d < n → rijndael_Times_l0 K n (a : Int) (b : Int) (p : Int) = some (.norm (((mulG d a b p : Nat) : Int), ())) := by
  intro d
  induction d with
  | zero =>
    intro n a b p hd ha hp hb hn
    obtain ⟨n, rfl⟩ : ∃ m, n = m + 1 := ⟨n - 1, by omega⟩
    have : b = 0 := by simpa using hb
    subst this
    show rijndael_Times_l0_b K (rijndael_Times_l0 K n) (a : Int) ((0 : Nat) : Int) (p : Int) = _
    simp [rijndael_Times_l0_b, mulG]
  | succ d ih =>
    intro n a b p hd ha hp hb hn
    obtain ⟨n, rfl⟩ : ∃ m, n = m + 1 := ⟨n - 1, by omega⟩
    show rijndael_Times_l0_b K (rijndael_Times_l0 K n) (a : Int) (b : Int) (p : Int) = _
    by_cases h0 : b = 0
    · subst h0
      simp [rijndael_Times_l0_b, mulG_zero]
    · have hb256 : b < 256 := by
        have : 2 ^ (d + 1) ≤ 2 ^ 8 := Nat.pow_le_pow_right (by decide) hd
        omega
      have e0 : (((b : Nat) : Int) != 0) = true := by simp; omega
      have e1 : bits .and .u8 (b : Int) 1 = ((b % 2 : Nat) : Int) := by
        have := and8 hb256 (show 1 < 256 by decide)
        rw [Nat.and_one_is_mod] at this; exact this
      have e2 : bits .and .u8 (a : Int) 128 = ((a &&& 128 : Nat) : Int) := and8 ha (show 128 < 256 by decide)
      have e3 : IntKind.u8.wrap ((a : Int) * 2 ^ 1) = ((a * 2 % 256 : Nat) : Int) := by rw [shl8]
      have e4 : bits .xor .u8 ((a * 2 % 256 : Nat) : Int) 27 = (((a * 2 % 256) ^^^ 27 : Nat) : Int) := xor8 (by omega) (show 27 < 256 by decide)
      have e5 : Int.fdiv (b : Int) (2 ^ 1) = ((b / 2 : Nat) : Int) := fdiv_pow b 1
      have hs : rijndael_Times_s1 K (a : Int) (p : Int) (((b % 2 : Nat) : Int) != 0) = some (.norm (((if b % 2 = 1 then p ^^^ a else p : Nat) : Int), ())) := by
        unfold rijndael_Times_s1
        by_cases h1 : b % 2 = 1
        · rw [h1, xor8 hp ha]; simp
        · have h2 : b % 2 = 0 := by omega
          rw [h2]; simp
      have hp' : (if b % 2 = 1 then p ^^^ a else p) < 256 := by
        split
        · exact Nat.xor_lt_two_pow (n := 8) hp ha
        · exact hp
      have ih' := ih n (xt a) (b / 2) _ (by omega) xt_lt hp' (by rw [Nat.pow_succ] at hb; omega) (by omega)
      unfold rijndael_Times_l0_b
      rw [e0, if_pos rfl, e1, hs, Option.bind_some]
      simp only [e2, e3, e4, e5]
      rw [mulG, ← ih']
      by_cases hx : a &&& 128 = 0
      · have : xt a = a * 2 % 256 := by unfold xt; rw [if_pos hx]
        rw [hx, this]; simp
      · have : xt a = (a * 2 % 256) ^^^ 27 := by unfold xt; rw [if_neg hx]
        have h3 : ((((a &&& 128 : Nat) : Int)) != 0) = true := by simp; omega
        rw [this, h3, if_pos rfl]

theorem Times_ok {K : Nat} (hK : 300 ≤ K) {a b : Nat} (ha : a < 256) (hb : b < 256) : rijndael_Times K (a : Int) (b : Int) = some (((mul a b : Nat) : Int), ()) := by
  have h := Times_loop K 8 K a b 0 (by decide) ha (by decide) hb (by omega)
  have h : rijndael_Times_l0 K K (a : Int) (b : Int) 0 = _ := h
  unfold rijndael_Times
  rw [h, Option.bind_some]
  rfl

/-! ### The document's product -/

theorem shk {i : Nat} (hi : i < 64) : (min (Int.toNat (IntKind.u64.wrap (i : Int))) IntKind.i64.bits) = i := by
  have e : IntKind.u64.wrap (i : Int) = (i : Int) := by rw [IntKind.wrap_u64]; omega
  rw [e, Int.toNat_natCast]
  exact Nat.min_eq_left (by simp only [IntKind.bits]; omega)
theorem shp {i : Nat} (hi : i < 64) : (0 : Int) ≤ IntKind.u64.wrap (i : Int) := by rw [IntKind.wrap_u64]; omega

theorem shl64 {a i : Nat} (h : a * 2 ^ i < 9223372036854775808) : IntKind.i64.wrap ((a : Int) * 2 ^ i) = ((a * 2 ^ i : Nat) : Int) := by
  have e : ((a : Int) * 2 ^ i) = ((a * 2 ^ i : Nat) : Int) := by simp
  rw [e, wn64 h]

theorem bit64 {v i : Nat} : Int.tmod (Int.fdiv (v : Int) (2 ^ i)) 2 = ((v / 2 ^ i % 2 : Nat) : Int) := by
  rw [fdiv_pow]; exact tmod_nat (v / 2 ^ i) 2

theorem ref_loop0 (K : Nat) {a b : Nat} (ha : a < 256) (hb : b < 256) : ∀ (d i n p : Nat), d + i = 8 → d < n → p < 32768 → ref02_Times_l0 K n (a : Int) (b : Int) (p : Int) (i : Int) = some (.norm (((pol d i a b p : Nat) : Int), ())) := by
  intro d
  induction d with
  | zero =>
    intro i n p hi hn hp
    obtain ⟨n, rfl⟩ : ∃ m, n = m + 1 := ⟨n - 1, by omega⟩
    have : i = 8 := by omega
    subst this
    show ref02_Times_l0_b K (ref02_Times_l0 K n) (a : Int) (b : Int) (p : Int) ((8 : Nat) : Int) = _
    simp [ref02_Times_l0_b, pol]
  | succ d ih =>
    intro i n p hi hn hp
    obtain ⟨n, rfl⟩ : ∃ m, n = m + 1 := ⟨n - 1, by omega⟩
    show ref02_Times_l0_b K (ref02_Times_l0 K n) (a : Int) (b : Int) (p : Int) (i : Int) = _
    have h8 : decide ((i : Int) < 8) = true := by simp; omega
    have hw : IntKind.i64.wrap ((i : Int) + 1) = ((i + 1 : Nat) : Int) := by rw [w64 (by omega) (by omega)]; rfl
    have hai : a * 2 ^ i < 32768 := by
      have : 2 ^ i ≤ 2 ^ 7 := Nat.pow_le_pow_right (by decide) (by omega)
      have := Nat.mul_le_mul (show a ≤ 255 by omega) this
      omega
    have hx : p ^^^ (a * 2 ^ i) < 32768 := Nat.xor_lt_two_pow (n := 15) hp hai
    unfold ref02_Times_l0_b
    rw [h8, if_pos rfl, if_pos (shp (by omega)), if_pos (shp (by omega)), wn64 (n := b) (by omega), shk (by omega), bit64, wn64 (n := a) (by omega), shl64 (by omega), xor64 (by omega) (by omega), hw]
    by_cases h1 : b / 2 ^ i % 2 = 1
    · have e1 : ((((b / 2 ^ i % 2 : Nat) : Int)) == 1) = true := by rw [h1]; rfl
      rw [e1, if_pos rfl, ih (i + 1) n _ (by omega) (by omega) hx, pol, if_pos h1]
    · have h2 : b / 2 ^ i % 2 = 0 := by omega
      have e1 : ((((b / 2 ^ i % 2 : Nat) : Int)) == 1) = false := by rw [h2]; rfl
      rw [e1, if_neg (by decide), ih (i + 1) n _ (by omega) (by omega) hp, pol, if_neg h1]

theorem ref_loop1 (K : Nat) : ∀ (d i n p : Nat), i = d + 7 → d ≤ 7 → d < n → p < 32768 → ref02_Times_l1 K n (p : Int) (i : Int) = some (.norm (((red d i p : Nat) : Int), ())) := by
  intro d
  induction d with
  | zero =>
    intro i n p hi hd hn hp
    obtain ⟨n, rfl⟩ : ∃ m, n = m + 1 := ⟨n - 1, by omega⟩
    subst hi
    show ref02_Times_l1_b K (ref02_Times_l1 K n) (p : Int) ((7 : Nat) : Int) = _
    simp [ref02_Times_l1_b, red]
  | succ d ih =>
    intro i n p hi hd hn hp
    obtain ⟨n, rfl⟩ : ∃ m, n = m + 1 := ⟨n - 1, by omega⟩
    show ref02_Times_l1_b K (ref02_Times_l1 K n) (p : Int) (i : Int) = _
    have h8 : decide ((i : Int) ≥ 8) = true := by simp; omega
    have hw : IntKind.i64.wrap ((i : Int) - 1) = ((i - 1 : Nat) : Int) := by rw [w64 (by omega) (by omega)]; omega
    have hw8 : IntKind.i64.wrap ((i : Int) - 8) = ((i - 8 : Nat) : Int) := by rw [w64 (by omega) (by omega)]; omega
    have hai : 283 * 2 ^ (i - 8) < 32768 := by
      have : 2 ^ (i - 8) ≤ 2 ^ 6 := Nat.pow_le_pow_right (by decide) (by omega)
      omega
    have hx := redS_lt (i := i) (by omega) hp
    have e283 : IntKind.i64.wrap (283 * 2 ^ (i - 8)) = ((283 * 2 ^ (i - 8) : Nat) : Int) := shl64 (a := 283) (by omega)
    unfold ref02_Times_l1_b
    rw [h8, if_pos rfl, if_pos (shp (by omega)), hw8, if_pos (shp (by omega)), shk (by omega), shk (by omega), bit64, e283, xor64 (by omega) (by omega), hw]
    have ih' := ih (i - 1) n (redS i p) (by omega) (by omega) (by omega) hx
    rw [red, ← ih']
    by_cases h1 : p / 2 ^ i % 2 = 1
    · have e1 : ((((p / 2 ^ i % 2 : Nat) : Int)) == 1) = true := by rw [h1]; rfl
      rw [e1, if_pos rfl, redS, if_pos h1]
    · have h2 : p / 2 ^ i % 2 = 0 := by omega
      have e1 : ((((p / 2 ^ i % 2 : Nat) : Int)) == 1) = false := by rw [h2]; rfl
      rw [e1, if_neg (by decide), redS, if_neg h1]

theorem refTimes_ok {K : Nat} (hK : 300 ≤ K) {a b : Nat} (ha : a < 256) (hb : b < 256) : ref02_Times K (a : Int) (b : Int) = some (((mul a b : Nat) : Int), ()) := by
  have h0 := ref_loop0 K ha hb 8 0 K 0 rfl (by omega) (by decide)
  have h0 : ref02_Times_l0 K K (a : Int) (b : Int) 0 0 = _ := h0
  have h1 := ref_loop1 K 7 14 K (pol 8 0 a b 0) rfl (by decide) (by omega) (pol_lt ha 8 0 0 rfl (by decide))
  have h1 : ref02_Times_l1 K K ((pol 8 0 a b 0 : Nat) : Int) 14 = _ := h1
  have e : IntKind.u8.wrap ((mul a b : Nat) : Int) = ((mul a b : Nat) : Int) := by
    have := mul_lt (b := b) ha
    rw [IntKind.wrap_u8]; omega
  unfold ref02_Times
  rw [h0, Option.bind_some]
  show (ref02_Times_l1 K K ((pol 8 0 a b 0 : Nat) : Int) 14).bind _ = _
  rw [h1, Option.bind_some]
  show some (IntKind.u8.wrap ((red 7 14 (pol 8 0 a b 0) : Nat) : Int), ()) = _
  rw [mul_ref ha, e]

end Go.Sh

/- Substitutions of package rijndael and of the document's answer; 'cofferlaw02.RijndaelField': what the walk computes. -/
set_option linter.unusedVariables false
set_option maxRecDepth 100000
namespace Go.Sh
open Go.Fw Go.Gf Go.RowKit Go.Proofs.Tryd

def rot (b n : Nat) : Nat := (b * 2 ^ n % 256) ||| (b / 2 ^ (8 - n))

theorem rot_lt : ∀ b, b < 256 → rot b 1 < 256 ∧ rot b 2 < 256 ∧ rot b 3 < 256 ∧ rot b 4 < 256 := by decide +kernel

theorem turn_ok : ∀ b : Nat, b < 256 → rijndael_turn (b : Int) 1 = some (((rot b 1 : Nat) : Int), ()) ∧ rijndael_turn (b : Int) 2 = some (((rot b 2 : Nat) : Int), ()) ∧
    rijndael_turn (b : Int) 3 = some (((rot b 3 : Nat) : Int), ()) ∧ rijndael_turn (b : Int) 4 = some (((rot b 4 : Nat) : Int), ()) := by decide +kernel

def sb (q : Nat) : Nat := q ^^^ rot q 1 ^^^ rot q 2 ^^^ rot q 3 ^^^ rot q 4 ^^^ 99

def subRun : Nat → Nat → Nat → List Nat → Option (List Nat)
  | 0, _, _, _ => none
  | n + 1, p, q, t => if mul p 3 = 1 then some (t.set (mul p 3) (sb (mul q 246))) else subRun n (mul p 3) (mul q 246) (t.set (mul p 3) (sb (mul q 246)))

def sbT : List Nat := (subRun 256 1 1 ((List.replicate 256 0).set 0 99)).getD []

theorem sbT_eq : subRun 256 1 1 ((List.replicate 256 0).set 0 99) = some sbT := by
  have h : (subRun 256 1 1 ((List.replicate 256 0).set 0 99)).isSome = true := by decide +kernel
  obtain ⟨t, ht⟩ := Option.isSome_iff_exists.1 h
  unfold sbT
  rw [ht]; rfl

theorem sbT_len : sbT.length = 256 := by decide +kernel
theorem sbT_lt : ∀ i, i < 256 → sbT.getD i 0 < 256 := by decide +kernel

/-- numbers as a row of cells -/
abbrev row (t : List Nat) : List Value := ints .u8 (t.map Int.ofNat)

theorem row_set (t : List Nat) (i x : Nat) : (row t).set i (.int .u8 (x : Int)) = row (t.set i x) := by
  simp only [row, ints, List.map_set, List.map_map]
  rfl

theorem row_len (t : List Nat) : (row t).length = t.length := by simp [row, ints]

theorem row_size (t : List Nat) : (row t).toArray.size = t.length := by rw [List.size_toArray, row_len]

theorem row_get {t : List Nat} {i : Nat} (h : i < t.length) : (row t)[i]? = some (.int .u8 ((t.getD i 0 : Nat) : Int)) := by
  simp [row, ints, h, List.getD_eq_getElem?_getD]

theorem z27_row : z93 = (row (List.replicate 256 0)).toArray := by
  apply Array.ext'
  simp [z93, row, ints]

theorem sb_lt {q : Nat} (hq : q < 256) : sb q < 256 := by
  obtain ⟨h1, h2, h3, h4⟩ := rot_lt q hq
  unfold sb
  exact Nat.xor_lt_two_pow (n := 8) (Nat.xor_lt_two_pow (Nat.xor_lt_two_pow (Nat.xor_lt_two_pow (Nat.xor_lt_two_pow hq h1) h2) h3) h4) (by decide)

theorem sub_loop (K : Nat) (hK : 300 ≤ K) {g0 g : Nat} (hg : g0 ≠ g) (T : List Nat) : ∀ (f n p q : Nat) (t : List Nat) (w : World) (cs : List Value), f ≤ n → p < 256 → q < 256 → t.length = 256 → cs.length = 256 → Bk 93 w g0 cs → Bk 93 w g (row t) →
    subRun f p q t = some T → ∃ w', rijndael_substitutions_l0 K n ⟨g0, 0, none⟩ ⟨g, 0, none⟩ (p : Int) (q : Int) w = some (.ret (⟨g0, 0, none⟩, ()), w') ∧ Bk 93 w' g0 (row T) ∧ Upd (fun k => k = g0 ∨ k = g) w w' := by
  intro f
  induction f with
  | zero => intro n p q t w cs _ _ _ _ _ _ _ h; simp [subRun] at h
  | succ f ih =>
    intro n p q t w cs hn hp hq ht hc hb0 hb h
    obtain ⟨n, rfl⟩ : ∃ m, n = m + 1 := ⟨n - 1, by omega⟩
    have hp2 := mul_lt (b := 3) hp
    have hq2 := mul_lt (b := 246) hq
    have e1 : rijndael_Times K (p : Int) 3 = some (((mul p 3 : Nat) : Int), ()) := Times_ok hK hp (b := 3) (by decide)
    have e2 : rijndael_Times K (q : Int) 246 = some (((mul q 246 : Nat) : Int), ()) := Times_ok hK hq (b := 246) (by decide)
    obtain ⟨t1, t2, t3, t4⟩ := turn_ok _ hq2
    obtain ⟨r1, r2, r3, r4⟩ := rot_lt _ hq2
    have x1 := Nat.xor_lt_two_pow (n := 8) hq2 r1
    have x2 := Nat.xor_lt_two_pow (n := 8) x1 r2
    have x3 := Nat.xor_lt_two_pow (n := 8) x2 r3
    have x4 := Nat.xor_lt_two_pow (n := 8) x3 r4
    have e3 : bits .xor .u8 (((mul q 246 ^^^ rot (mul q 246) 1 ^^^ rot (mul q 246) 2 ^^^ rot (mul q 246) 3 ^^^ rot (mul q 246) 4 : Nat)) : Int) 99 = ((sb (mul q 246) : Nat) : Int) := xor8 x4 (b := 99) (by decide)
    have k1 : (0 : Int) ≤ ((mul p 3 : Nat) : Int) ∧ ((mul p 3 : Nat) : Int) < ((256 : Nat) : Int) := by omega
    obtain ⟨w1, s1, s2, s3⟩ := hb.stC (i := mul p 3) (by rw [row_len]; omega) (.int .u8 ((sb (mul q 246) : Nat) : Int))
    rw [row_set] at s2
    have s1' : stC ((⟨g, 0, none⟩ : Addr).add (mul p 3 * 1)) (.int .u8 ((sb (mul q 246) : Nat) : Int)) w = some w1 := by rw [add_lit, Nat.mul_one, Nat.zero_add]; exact s1
    have hb01 : Bk 93 w1 g0 cs := hb0.upd s3 hg
    have hlen : (t.set (mul p 3) (sb (mul q 246))).length = 256 := by simpa using ht
    show ∃ w', rijndael_substitutions_l0_b K (rijndael_substitutions_l0 K n) ⟨g0, 0, none⟩ ⟨g, 0, none⟩ (p : Int) (q : Int) w = _ ∧ _
    unfold rijndael_substitutions_l0_b
    rw [e1, Option.bind_some, e2, Option.bind_some]
    simp only [t1, t2, t3, t4, Option.bind_some]
    rw [if_pos k1, Int.toNat_natCast, xor8 hq2 r1, xor8 x1 r2, xor8 x2 r3, xor8 x3 r4, e3, s1', Option.bind_some]
    simp only [subRun] at h
    by_cases hp1 : mul p 3 = 1
    · rw [if_pos hp1] at h
      have hT := Option.some.inj h
      have d1 : ((((mul p 3 : Nat) : Int)) == 1) = true := by rw [hp1]; rfl
      have hl := s2.ldA (i := 0) (n := 256) (by rw [row_len, hlen]; decide)
      rw [List.drop_zero, List.take_of_length_le (by rw [row_len, hlen]; decide)] at hl
      obtain ⟨w2, a1, a2, a3⟩ := hb01.stA (o := 0) (vs := (row (t.set (mul p 3) (sb (mul q 246)))).toArray) (by rw [row_size, hlen, hc]; decide) (fun v hv => ints_one v hv)
      refine ⟨w2, ?_, ?_, (s3.mono fun _ _ e => .inr e).trans' a3 fun _ _ e => .inl e⟩
      · rw [d1, if_pos rfl, hl, Option.bind_some, if_pos (by rw [row_size, hlen]), a1, Option.bind_some]
      · have : seg cs 0 (row (t.set (mul p 3) (sb (mul q 246)))) = row T := by
          rw [← hT]
          simp only [seg, List.take_zero, List.nil_append, Nat.zero_add]
          rw [List.drop_eq_nil_of_le (by rw [row_len, hlen, hc]; exact Nat.le_refl _), List.append_nil]
        rw [← this]; exact a2
    · rw [if_neg hp1] at h
      have d1 : ((((mul p 3 : Nat) : Int)) == 1) = false := by simp; omega
      obtain ⟨w2, a1, a2, a3⟩ := ih n (mul p 3) (mul q 246) _ w1 cs (by omega) hp2 hq2 hlen hc hb01 s2 h
      refine ⟨w2, ?_, a2, (s3.mono fun _ _ e => .inr e).trans' a3 fun _ _ e => e⟩
      rw [d1, if_neg (by decide)]
      exact a1

theorem substitutions_ok {K : Nat} (hK : 300 ≤ K) (w : World) : ∃ w', rijndael_substitutions K w = some (((row sbT).toArray, ()), w') ∧ Upd none_ w w' := by
  obtain ⟨w1, n1, b1, u1, z1⟩ := newB_ok z93 93 w
  obtain ⟨w2, n2, b2, u2, z2⟩ := newB_ok z93 93 w1
  rw [z27_row] at b1 b2
  have b1 : Bk 93 w1 w.heap.size (row (List.replicate 256 0)) := b1
  have b2 : Bk 93 w2 w1.heap.size (row (List.replicate 256 0)) := b2
  obtain ⟨w3, s1, s2, s3⟩ := b2.stC (i := 0) (by rw [row_len]; decide) (.int .u8 ((99 : Nat) : Int))
  rw [row_set] at s2
  have hne : w.heap.size ≠ w1.heap.size := by omega
  obtain ⟨w4, h1, h2, h3⟩ := sub_loop K hK (g0 := w.heap.size) (g := w1.heap.size) hne sbT 256 K 1 1 _ w3 _ (by omega) (by decide) (by decide) (by simp) (by rw [row_len]; simp)
    ((b1.upd0 u2).upd s3 hne) s2 sbT_eq
  have h1 : rijndael_substitutions_l0 K K ⟨w.heap.size, 0, none⟩ ⟨w1.heap.size, 0, none⟩ 1 1 w3 = _ := h1
  have hl := h2.ldA (i := 0) (n := 256) (by rw [row_len, sbT_len]; decide)
  rw [List.drop_zero, List.take_of_length_le (by rw [row_len, sbT_len]; decide)] at hl
  refine ⟨w4, ?_, ?_⟩
  · unfold rijndael_substitutions
    rw [n1, bnd_ok, n2, bnd_ok]
    have s1' : stC ((⟨w1.heap.size, 0, none⟩ : Addr).add (0 * 1)) (.int .u8 99) w2 = some w3 := s1
    rw [s1', Option.bind_some, h1, bnd_ok]
    show (ldA 256 ⟨w.heap.size, 0, none⟩ w4).bind _ = _
    rw [hl, Option.bind_some]
  · refine ((u1.and0 u2).trans' s3 fun k hk e => ?_).trans' h3 fun k hk e => ?_
    · omega
    · omega

/-! ### The inverse -/

def invT : Nat → List Nat
  | 0 => List.replicate 256 0
  | i + 1 => (invT i).set (sbT.getD i 0) i

theorem invT_len : ∀ i, (invT i).length = 256
  | 0 => by simp [invT]
  | i + 1 => by simp [invT, invT_len i]

theorem inv_loop (K : Nat) {g : Nat} (a2 : Addr) : ∀ (d i n : Nat) (w : World), d + i = 256 → d < n → Bk 93 w g (row (invT i)) →
    ∃ w', rijndael_inverse_l0 K n a2 ⟨g, 0, none⟩ (row sbT).toArray (i : Int) w = some ((), w') ∧ Bk 93 w' g (row (invT 256)) ∧ Upd (· = g) w w' := by
  intro d
  induction d with
  | zero =>
    intro i n w hi hn hb
    obtain ⟨n, rfl⟩ : ∃ m, n = m + 1 := ⟨n - 1, by omega⟩
    have : i = 256 := by omega
    subst this
    refine ⟨w, ?_, hb, Upd.refl _ _⟩
    show rijndael_inverse_l0_b K (rijndael_inverse_l0 K n) a2 ⟨g, 0, none⟩ (row sbT).toArray ((256 : Nat) : Int) w = _
    simp [rijndael_inverse_l0_b]
  | succ d ih =>
    intro i n w hi hn hb
    obtain ⟨n, rfl⟩ : ∃ m, n = m + 1 := ⟨n - 1, by omega⟩
    have hlt := sbT_lt i (by omega)
    have hg : (row sbT).toArray[i]? = some (.int .u8 ((sbT.getD i 0 : Nat) : Int)) := by
      rw [List.getElem?_toArray]; exact row_get (by rw [sbT_len]; omega)
    obtain ⟨w1, s1, s2, s3⟩ := hb.stC (i := sbT.getD i 0) (by rw [row_len, invT_len]; exact hlt) (.int .u8 ((i : Nat) : Int))
    rw [row_set] at s2
    have s1' : stC ((⟨g, 0, none⟩ : Addr).add (sbT.getD i 0 * 1)) (.int .u8 (i : Int)) w = some w1 := by rw [add_lit, Nat.mul_one, Nat.zero_add]; exact s1
    obtain ⟨w2, h1, h2, h3⟩ := ih (i + 1) n w1 (by omega) (by omega) s2
    refine ⟨w2, ?_, h2, s3.trans' h3 fun _ _ e => e⟩
    have hd : decide ((i : Int) < 256) = true := by simp; omega
    have k1 : (0 : Int) ≤ (i : Int) ∧ (i : Int) < ((256 : Nat) : Int) := by omega
    have k2 : (0 : Int) ≤ ((sbT.getD i 0 : Nat) : Int) ∧ ((sbT.getD i 0 : Nat) : Int) < ((256 : Nat) : Int) := by omega
    have hw : IntKind.i64.wrap ((i : Int) + 1) = ((i + 1 : Nat) : Int) := by rw [w64 (by omega) (by omega)]; rfl
    have hw8 : IntKind.u8.wrap (i : Int) = (i : Int) := w8 (by omega) (by omega)
    show rijndael_inverse_l0_b K (rijndael_inverse_l0 K n) a2 ⟨g, 0, none⟩ (row sbT).toArray (i : Int) w = _
    unfold rijndael_inverse_l0_b
    rw [hd, if_pos rfl, if_pos k1, Int.toNat_natCast, Nat.mul_one, hg, Option.bind_some]
    show (some ((sbT.getD i 0 : Nat) : Int)).bind _ = _
    rw [Option.bind_some, if_pos k2, Int.toNat_natCast, hw8, s1', Option.bind_some, hw, h1]

theorem inverse_ok {K : Nat} (hK : 300 ≤ K) (w : World) : ∃ w', rijndael_inverse K (row sbT).toArray w = some (((row (invT 256)).toArray, ()), w') ∧ Upd none_ w w' := by
  obtain ⟨w1, n1, b1, u1, z1⟩ := newB_ok (row sbT).toArray 93 w
  obtain ⟨w2, n2, b2, u2, z2⟩ := newB_ok z93 93 w1
  obtain ⟨w3, n3, b3, u3, z3⟩ := newB_ok z93 93 w2
  rw [z27_row] at b2 b3
  have b1 : Bk 93 w1 w.heap.size (row sbT) := b1
  have b2 : Bk 93 w2 w1.heap.size (row (List.replicate 256 0)) := b2
  have b3 : Bk 93 w3 w2.heap.size (row (invT 0)) := b3
  have hl := ((b1.upd0 u2).upd0 u3).ldA (i := 0) (n := 256) (by rw [row_len, sbT_len]; decide)
  rw [List.drop_zero, List.take_of_length_le (by rw [row_len, sbT_len]; decide)] at hl
  obtain ⟨w4, h1, h2, h3⟩ := inv_loop K ⟨w1.heap.size, 0, none⟩ 256 0 K w3 rfl (by omega) b3
  have h1 : rijndael_inverse_l0 K K ⟨w1.heap.size, 0, none⟩ ⟨w2.heap.size, 0, none⟩ (row sbT).toArray 0 w3 = _ := h1
  have hl2 := h2.ldA (i := 0) (n := 256) (by rw [row_len, invT_len]; decide)
  rw [List.drop_zero, List.take_of_length_le (by rw [row_len, invT_len]; decide)] at hl2
  have hne : ¬ w1.heap.size = w2.heap.size := by omega
  obtain ⟨w5, a1, a2, a3⟩ := ((b2.upd0 u3).upd h3 hne).stA (o := 0) (vs := (row (invT 256)).toArray) (by rw [row_size, invT_len, row_len]; simp) (fun v hv => ints_one v hv)
  have e : seg (row (List.replicate 256 0)) 0 (row (invT 256)) = row (invT 256) := by
    simp only [seg, List.take_zero, List.nil_append, Nat.zero_add]
    rw [List.drop_eq_nil_of_le (by rw [row_len, row_len, invT_len]; simp), List.append_nil]
  have a2 : Bk 93 w5 w1.heap.size (row (invT 256)) := by rw [← e]; exact a2
  have hl3 := a2.ldA (i := 0) (n := 256) (by rw [row_len, invT_len]; decide)
  rw [List.drop_zero, List.take_of_length_le (by rw [row_len, invT_len]; decide)] at hl3
  refine ⟨w5, ?_, ?_⟩
  · unfold rijndael_inverse
    rw [n1, bnd_ok, n2, bnd_ok, n3, bnd_ok, hl, Option.bind_some, h1, bnd_ok, hl2, Option.bind_some, if_pos (by rw [row_size, invT_len]), a1, Option.bind_some, hl3, Option.bind_some]
  · refine (((u1.and0 u2).and0 u3).trans' h3 fun k hk e => ?_).trans' a3 fun k hk e => ?_
    · omega
    · omega

theorem both : ∀ a, a < 256 → (invT 256).getD (sbT.getD a 0) 0 = a ∧ sbT.getD ((invT 256).getD a 0) 0 = a ∧ (invT 256).getD a 0 < 256 := by decide +kernel

/-! ### The document's substitution -/

def powN : Nat → Nat → Nat → Nat
  | 0, _, p => p
  | n + 1, b, p => powN n (mul b b) (mul p (mul b b))

theorem powN_lt : ∀ a, a < 256 → powN 7 a 1 < 256 := by decide +kernel

end Go.Sh

/- Words of four bytes. Nothing of a program stands here. -/
set_option linter.unusedVariables false
set_option maxRecDepth 100000
namespace Go.Sh
open Go.Fw Go.Gf Go.RowKit Go.Proofs.Tryd

/-- a word of four bytes -/
def pk (a b c d : Nat) : Nat := a * 16777216 + (b * 65536 + (c * 256 + d))

theorem xor8_lt {a b : Nat} (ha : a < 256) (hb : b < 256) : a ^^^ b < 256 := Nat.xor_lt_two_pow (n := 8) ha hb

theorem pk_lt {a b c d : Nat} (ha : a < 256) (hb : b < 256) (hc : c < 256) (hd : d < 256) : pk a b c d < 4294967296 := by unfold pk; omega

theorem xor_split {k x y : Nat} {a b : Nat} (hx : x < 2 ^ k) (hy : y < 2 ^ k) : (a * 2 ^ k + x) ^^^ (b * 2 ^ k + y) = (a ^^^ b) * 2 ^ k + (x ^^^ y) := by
  have h1 : ((a * 2 ^ k + x) ^^^ (b * 2 ^ k + y)) / 2 ^ k = a ^^^ b := by
    rw [Nat.xor_div_two_pow]
    congr 1
    · rw [Nat.add_comm, Nat.add_mul_div_right _ _ (Nat.two_pow_pos k), Nat.div_eq_of_lt hx, Nat.zero_add]
    · rw [Nat.add_comm, Nat.add_mul_div_right _ _ (Nat.two_pow_pos k), Nat.div_eq_of_lt hy, Nat.zero_add]
  have h2 : ((a * 2 ^ k + x) ^^^ (b * 2 ^ k + y)) % 2 ^ k = x ^^^ y := by
    rw [Nat.xor_mod_two_pow]
    congr 1
    · rw [Nat.add_comm, Nat.add_mul_mod_self_right, Nat.mod_eq_of_lt hx]
    · rw [Nat.add_comm, Nat.add_mul_mod_self_right, Nat.mod_eq_of_lt hy]
  have := Nat.div_add_mod ((a * 2 ^ k + x) ^^^ (b * 2 ^ k + y)) (2 ^ k)
  rw [h1, h2, Nat.mul_comm] at this
  exact this.symm

theorem pk_xor {a b c d e f g h : Nat} (hb : b < 256) (hc : c < 256) (hd : d < 256) (hf : f < 256) (hg : g < 256) (hh : h < 256) : pk a b c d ^^^ pk e f g h = pk (a ^^^ e) (b ^^^ f) (c ^^^ g) (d ^^^ h) := by
  have h1 := xor_split (k := 8) (a := c) (b := g) (x := d) (y := h) (by omega) (by omega)
  have h2 := xor_split (k := 16) (a := b) (b := f) (x := c * 256 + d) (y := g * 256 + h) (by omega) (by omega)
  have h3 := xor_split (k := 24) (a := a) (b := e) (x := b * 65536 + (c * 256 + d)) (y := f * 65536 + (g * 256 + h)) (by omega) (by omega)
  have h1 : (c * 256 + d) ^^^ (g * 256 + h) = (c ^^^ g) * 256 + (d ^^^ h) := h1
  have h2 : (b * 65536 + (c * 256 + d)) ^^^ (f * 65536 + (g * 256 + h)) = (b ^^^ f) * 65536 + ((c * 256 + d) ^^^ (g * 256 + h)) := h2
  have h3 : pk a b c d ^^^ pk e f g h = (a ^^^ e) * 16777216 + ((b * 65536 + (c * 256 + d)) ^^^ (f * 65536 + (g * 256 + h))) := h3
  rw [h3, h2, h1]
  rfl

theorem or_split {k a x : Nat} (hx : x < 2 ^ k) : a * 2 ^ k ||| x = a * 2 ^ k + x := by
  rw [Nat.mul_comm]; exact (Nat.two_pow_add_eq_or_of_lt hx a).symm

theorem pk_or {a b c d : Nat} (hb : b < 256) (hc : c < 256) (hd : d < 256) : ((a * 16777216 ||| b * 65536) ||| c * 256) ||| d = pk a b c d := by
  have e1 : c * 256 ||| d = c * 256 + d := or_split (k := 8) (by omega)
  have e2 : b * 65536 ||| (c * 256 + d) = b * 65536 + (c * 256 + d) := or_split (k := 16) (by omega)
  have e3 : a * 16777216 ||| (b * 65536 + (c * 256 + d)) = a * 16777216 + (b * 65536 + (c * 256 + d)) := or_split (k := 24) (by omega)
  rw [Nat.or_assoc, Nat.or_assoc, e1, e2, e3]; rfl

theorem or32 {a b : Nat} (ha : a < 4294967296) (hb : b < 4294967296) : bits .or .u32 (a : Int) (b : Int) = ((a ||| b : Nat) : Int) := (bits_nats (k := .u32) rfl ha hb).2.1
theorem xor32 {a b : Nat} (ha : a < 4294967296) (hb : b < 4294967296) : bits .xor .u32 (a : Int) (b : Int) = ((a ^^^ b : Nat) : Int) := (bits_nats (k := .u32) rfl ha hb).2.2
theorem and32 {a b : Nat} (ha : a < 4294967296) (hb : b < 4294967296) : bits .and .u32 (a : Int) (b : Int) = ((a &&& b : Nat) : Int) := (bits_nats (k := .u32) rfl ha hb).1

theorem wr32 {a : Nat} : IntKind.u32.wrap (a : Int) = ((a % 4294967296 : Nat) : Int) := by rw [IntKind.wrap_u32]; simp
theorem wr32' {a : Nat} (h : a < 4294967296) : IntKind.u32.wrap (a : Int) = (a : Int) := by rw [wr32, Nat.mod_eq_of_lt h]
theorem sh32 {a k : Nat} : IntKind.u32.wrap ((a : Int) * 2 ^ k) = ((a * 2 ^ k % 4294967296 : Nat) : Int) := by
  have e : ((a : Int) * 2 ^ k) = ((a * 2 ^ k : Nat) : Int) := by simp
  rw [e, wr32]

/-- a word put together -/
theorem mk32 {a b c d : Nat} (ha : a < 256) (hb : b < 256) (hc : c < 256) (hd : d < 256) :
    bits .or .u32 (bits .or .u32 (bits .or .u32 (IntKind.u32.wrap ((IntKind.u32.wrap (a : Int)) * 2 ^ 24)) (IntKind.u32.wrap ((IntKind.u32.wrap (b : Int)) * 2 ^ 16))) (IntKind.u32.wrap ((IntKind.u32.wrap (c : Int)) * 2 ^ 8))) (IntKind.u32.wrap (d : Int)) = ((pk a b c d : Nat) : Int) := by
  rw [wr32' (a := a) (by omega), wr32' (a := b) (by omega), wr32' (a := c) (by omega), wr32' (a := d) (by omega), sh32, sh32, sh32]
  have ea : a * 2 ^ 24 % 4294967296 = a * 16777216 := Nat.mod_eq_of_lt (show a * 16777216 < 4294967296 by omega)
  have eb : b * 2 ^ 16 % 4294967296 = b * 65536 := Nat.mod_eq_of_lt (show b * 65536 < 4294967296 by omega)
  have ec : c * 2 ^ 8 % 4294967296 = c * 256 := Nat.mod_eq_of_lt (show c * 256 < 4294967296 by omega)
  rw [ea, eb, ec, or32 (by omega) (by omega)]
  have e2 : b * 65536 ||| (c * 256 + d) = b * 65536 + (c * 256 + d) := or_split (k := 16) (by omega)
  have l1 : a * 16777216 ||| b * 65536 < 4294967296 := Nat.or_lt_two_pow (n := 32) (by omega) (by omega)
  rw [or32 l1 (by omega)]
  have l2 : (a * 16777216 ||| b * 65536) ||| c * 256 < 4294967296 := Nat.or_lt_two_pow (n := 32) l1 (by omega)
  rw [or32 l2 (by omega), pk_or hb hc hd]

/-- its bytes -/
theorem pk_0 {a b c d : Nat} (hb : b < 256) (hc : c < 256) (hd : d < 256) : Int.fdiv ((pk a b c d : Nat) : Int) (2 ^ 24) = (a : Int) := by
  rw [fdiv_pow]; unfold pk; congr 1; omega
theorem and255 {x : Nat} (hx : x < 4294967296) : bits .and .u32 (x : Int) 255 = ((x % 256 : Nat) : Int) := by
  have h := and32 hx (b := 255) (by decide)
  have e : x &&& 255 = x % 256 := Nat.and_two_pow_sub_one_eq_mod x 8
  rw [e] at h; exact h
theorem pk_1 {a b c d : Nat} (ha : a < 256) (hb : b < 256) (hc : c < 256) (hd : d < 256) : bits .and .u32 (Int.fdiv ((pk a b c d : Nat) : Int) (2 ^ 16)) 255 = (b : Int) := by
  rw [fdiv_pow, and255 (by unfold pk; omega)]; unfold pk; congr 1; omega
theorem pk_2 {a b c d : Nat} (ha : a < 256) (hb : b < 256) (hc : c < 256) (hd : d < 256) : bits .and .u32 (Int.fdiv ((pk a b c d : Nat) : Int) (2 ^ 8)) 255 = (c : Int) := by
  rw [fdiv_pow, and255 (by unfold pk; omega)]; unfold pk; congr 1; omega
theorem pk_3 {a b c d : Nat} (ha : a < 256) (hb : b < 256) (hc : c < 256) (hd : d < 256) : bits .and .u32 ((pk a b c d : Nat) : Int) 255 = (d : Int) := by
  rw [and255 (pk_lt ha hb hc hd)]; unfold pk; congr 1; omega
/-- turned by a byte -/
theorem pk_rot {a b c d : Nat} (ha : a < 256) (hb : b < 256) (hc : c < 256) (hd : d < 256) : bits .or .u32 (IntKind.u32.wrap (((pk a b c d : Nat) : Int) * 2 ^ 8)) (Int.fdiv ((pk a b c d : Nat) : Int) (2 ^ 24)) = ((pk b c d a : Nat) : Int) := by
  rw [pk_0 hb hc hd, sh32]
  have e : pk a b c d * 2 ^ 8 % 4294967296 = (b * 65536 + (c * 256 + d)) * 2 ^ 8 := by unfold pk; omega
  rw [e, or32 (by omega) (by omega), or_split (k := 8) (by omega)]
  unfold pk; congr 1; omega
theorem xpk {a b c d e f g h : Nat} (ha : a < 256) (hb : b < 256) (hc : c < 256) (hd : d < 256) (he : e < 256) (hf : f < 256) (hg : g < 256) (hh : h < 256) :
    bits .xor .u32 ((pk a b c d : Nat) : Int) ((pk e f g h : Nat) : Int) = ((pk (a ^^^ e) (b ^^^ f) (c ^^^ g) (d ^^^ h) : Nat) : Int) := by
  rw [xor32 (pk_lt ha hb hc hd) (pk_lt he hf hg hh), pk_xor hb hc hd hf hg hh]

/-! ### words as four bytes -/
structure W4 where
  a : Nat
  b : Nat
  c : Nat
  d : Nat
deriving DecidableEq

def W4.ok (x : W4) : Prop := x.a < 256 ∧ x.b < 256 ∧ x.c < 256 ∧ x.d < 256
def W4.n (x : W4) : Nat := pk x.a x.b x.c x.d
def W4.xor (x y : W4) : W4 := ⟨x.a ^^^ y.a, x.b ^^^ y.b, x.c ^^^ y.c, x.d ^^^ y.d⟩
def W4.rot (x : W4) : W4 := ⟨x.b, x.c, x.d, x.a⟩
def sx (x : Nat) : Nat := sbT.getD x 0
def ux (x : Nat) : Nat := (invT 256).getD x 0
def W4.sub (x : W4) : W4 := ⟨sx x.a, sx x.b, sx x.c, sx x.d⟩
def W4.bytes (x : W4) : List Nat := [x.a, x.b, x.c, x.d]

theorem sx_lt {x : Nat} (h : x < 256) : sx x < 256 := sbT_lt x h
theorem ux_lt {x : Nat} (h : x < 256) : ux x < 256 := (both x h).2.2
theorem W4.ok_xor {x y : W4} (hx : x.ok) (hy : y.ok) : (x.xor y).ok := ⟨xor8_lt hx.1 hy.1, xor8_lt hx.2.1 hy.2.1, xor8_lt hx.2.2.1 hy.2.2.1, xor8_lt hx.2.2.2 hy.2.2.2⟩
theorem W4.ok_rot {x : W4} (hx : x.ok) : x.rot.ok := ⟨hx.2.1, hx.2.2.1, hx.2.2.2, hx.1⟩
theorem W4.ok_sub {x : W4} (hx : x.ok) : x.sub.ok := ⟨sx_lt hx.1, sx_lt hx.2.1, sx_lt hx.2.2.1, sx_lt hx.2.2.2⟩
theorem W4.lt {x : W4} (hx : x.ok) : x.n < 4294967296 := pk_lt hx.1 hx.2.1 hx.2.2.1 hx.2.2.2
theorem W4.xor_n {x y : W4} (hx : x.ok) (hy : y.ok) : bits .xor .u32 ((x.n : Nat) : Int) ((y.n : Nat) : Int) = (((x.xor y).n : Nat) : Int) := xpk hx.1 hx.2.1 hx.2.2.1 hx.2.2.2 hy.1 hy.2.1 hy.2.2.1 hy.2.2.2
theorem W4.zero_ok : (⟨0, 0, 0, 0⟩ : W4).ok := ⟨by decide, by decide, by decide, by decide⟩

end Go.Sh

/- What the helpers of the package cofferbook do. YtfilmbfijaeclaaDoor, Tryd, 22, 5 are filled in for a seat (book.sh). -/
set_option linter.unusedVariables false
namespace Go.Sh
open Go.Fw Go.RowKit Go.Proofs.Tryd

theorem sliceB : OneSlice prog 22 5 (.int .u8 0) 1 := ⟨by kernel_rfl, ⟨t5, by kernel_rfl, by kernel_rfl, by kernel_rfl, by kernel_rfl⟩, by decide, rfl, rfl⟩

/-- A slice of bytes that came in, as the source of a copy. -/
theorem src_row {w : World} {a : Option Addr} {len cap : Nat} {zs : List Int}
    (h : (a = none ∧ len = 0 ∧ cap = 0 ∧ zs = []) ∨
      ∃ x, a = some x ∧ len ≤ cap ∧ cap ≤ 140737488351232 ∧ zs.length = cap ∧ (∀ i, i < zs.length → w.cell? (x.add i) = some (.int .u8 (zs.getD i 0))) ∧ ∀ n ∈ zs, (Lit.int .u8 n).wf = true) :
    ∃ xs, ((∀ x ∈ xs, InK .u8 x) ∧ xs.length ≤ 140737488351232) ∧ Src w ⟨a, len, cap⟩ (ints .u8 xs) := by
  rcases h with ⟨rfl, rfl, rfl, rfl⟩ | ⟨x, rfl, hl, hc, hz, hcell, hwz⟩
  · exact ⟨[], ⟨fun _ h => by simp at h, Nat.zero_le _⟩, rfl, Nat.le_refl _, .inl ⟨rfl, rfl, rfl⟩, ints_one⟩
  · refine ⟨zs.take len, ⟨fun n hn => ?_, by simp; omega⟩, by simp; omega, hl, .inr ⟨x, rfl, fun i v hv => ?_⟩, ints_one⟩
    · have := hwz n (List.mem_of_mem_take hn)
      have h2 : 0 ≤ n ∧ n ≤ 255 := by simpa [Lit.wf, IntKind.bits, IntKind.min, IntKind.max, IntKind.signed] using this
      exact ⟨h2.1, by have := h2.2; simp only [IntKind.bits]; omega⟩
    · have hi : i < zs.length := by
        have := (List.getElem?_eq_some_iff.1 hv).1
        simp at this; omega
      rw [hcell i hi]
      simp only [ints, List.getElem?_map, List.getElem?_take] at hv
      split at hv
      · simpa [List.getD_eq_getElem?_getD, List.getElem?_eq_getElem hi] using hv
      · simp at hv

/-! ### SameBytes -/

theorem SameBytes_loop (K : Nat) {a b : Sl} {xs ys : List Int} (hl : xs.length = ys.length) (hs : xs.length < 9223372036854775807) :
    ∀ (d i : Nat) (n : Nat) (w : World), i + d = xs.length → d < n → RdS .u8 w a xs → RdS .u8 w b ys →
      ∃ w', book_SameBytes_l0 K n a b (i : Int) w = some (if xs.drop i = ys.drop i then .norm () else .ret (false, ()), w') ∧ Upd none_ w w' := by
  intro d
  induction d with
  | zero =>
    intro i n w hi hn ha hb
    obtain ⟨n, rfl⟩ : ∃ m, n = m + 1 := ⟨n - 1, by omega⟩
    refine ⟨w, ?_, Upd.refl _ w⟩
    show book_SameBytes_l0_b K (book_SameBytes_l0 K n) a b (i : Int) w = _
    have e1 : xs.drop i = [] := List.drop_eq_nil_of_le (by omega)
    have e2 : ys.drop i = [] := List.drop_eq_nil_of_le (by omega)
    simp [book_SameBytes_l0_b, ha.len, show ¬ i < xs.length by omega, e1, e2]
  | succ d ih =>
    intro i n w hi hn ha hb
    obtain ⟨n, rfl⟩ : ∃ m, n = m + 1 := ⟨n - 1, by omega⟩
    show ∃ w', book_SameBytes_l0_b K (book_SameBytes_l0 K n) a b (i : Int) w = _ ∧ _
    obtain ⟨p, hp, hpl⟩ := ha.drew.ld
    obtain ⟨q, hq, hql⟩ := hb.drew.ld
    have hx : xs ≠ [] := by rintro rfl; simp at hi
    have hy : ys ≠ [] := fun e => by rw [e] at hl; simp at hl; exact hx hl
    have hil : i < xs.length := by omega
    have hil2 : i < ys.length := by omega
    have hw : IntKind.i64.wrap ((i : Int) + 1) = ((i + 1 : Nat) : Int) := by rw [w64 (by omega) (by omega)]; rfl
    have e1 : xs.drop i = xs[i] :: xs.drop (i + 1) := List.drop_eq_getElem_cons hil
    have e2 : ys.drop i = ys[i] :: ys.drop (i + 1) := List.drop_eq_getElem_cons hil2
    have l1 := hpl i hil
    have l2 := hql i hil2
    by_cases hne : xs[i] = ys[i]
    · obtain ⟨w', h1, h2⟩ := ih (i + 1) n w.drew (by omega) (by omega) ha.drew hb.drew
      refine ⟨w', ?_, ?_⟩
      · simp only [book_SameBytes_l0_b, ha.len, hb.len, Int.ofNat_lt, hil, hil2, decide_true, if_true, hp hx, hq hy, Option.bind_some, Int.natCast_nonneg, and_self, Int.toNat_natCast, Nat.mul_one, l1, l2, hne, bne_self_eq_false, Bool.false_eq_true, if_false, hw, h1, e1, e2, List.cons.injEq, true_and]
      · exact (Upd.refl none_ w).drew.trans' h2 fun _ _ e => e
    · refine ⟨w.drew, ?_, (Upd.refl none_ w).drew⟩
      have hb' : (xs[i] != ys[i]) = true := by simpa using hne
      simp only [book_SameBytes_l0_b, ha.len, hb.len, Int.ofNat_lt, hil, hil2, decide_true, if_true, hp hx, hq hy, Option.bind_some, Int.natCast_nonneg, and_self, Int.toNat_natCast, Nat.mul_one, l1, l2, hb', e1, e2, List.cons.injEq, hne, false_and, if_false]

theorem SameBytes_ok {K : Nat} (hK : 18446744073709551616 ≤ K) {a b : Sl} {xs ys : List Int} {w : World} (ha : RdS .u8 w a xs) (hb : RdS .u8 w b ys) (hs : xs.length < 9223372036854775807) :
    ∃ w', book_SameBytes K a b w = some ((decide (xs = ys), ()), w') ∧ Upd none_ w w' := by
  by_cases hl : xs.length = ys.length
  · obtain ⟨w', h1, h2⟩ := SameBytes_loop K (a := a) (b := b) hl hs xs.length 0 K w (by omega) (by omega) ha hb
    refine ⟨w', ?_, h2⟩
    have h1' : book_SameBytes_l0 K K a b 0 w = _ := h1
    simp only [book_SameBytes, ha.len, hb.len, hl, bne_self_eq_false, Bool.false_eq_true, if_false, h1', bnd_ok, List.drop_zero]
    by_cases h : xs = ys <;> simp [h]
  · refine ⟨w, ?_, Upd.refl _ w⟩
    have h1 : (((xs.length : Nat) : Int) != ((ys.length : Nat) : Int)) = true := by simp; omega
    have h2 : xs ≠ ys := fun e => hl (by rw [e])
    simp only [book_SameBytes, ha.len, hb.len, h1, if_true, h2, decide_false]

end Go.Sh

/- The tables of package rijndael. -/
set_option linter.unusedVariables false
set_option maxRecDepth 100000
namespace Go.Sh
open Go.Fw Go.Gf Go.RowKit Go.Proofs.Tryd

theorem range_set {n k : Nat} {f : Nat → Value} {v : Value} : ((List.range n).map f).set k v = (List.range n).map (fun j => if j = k then v else f j) := by
  apply List.ext_getElem?
  intro j
  rw [List.getElem?_set, List.length_map, List.length_range, List.getElem?_map, List.getElem?_map]
  by_cases h1 : k = j
  · subst h1
    rw [if_pos rfl]
    by_cases h2 : k < n
    · rw [if_pos h2, List.getElem?_range h2]; simp
    · rw [if_neg h2]
      have : (List.range n)[k]? = none := by simp; omega
      rw [this]; rfl
  · rw [if_neg h1]
    by_cases h2 : j < n
    · rw [List.getElem?_range h2]
      show some (f j) = some (if j = k then v else f j)
      rw [if_neg (fun e => h1 e.symm)]
    · have : (List.range n)[j]? = none := by simp; omega
      rw [this]; rfl

theorem map_range_ext {n : Nat} {f g : Nat → Value} (h : ∀ j, j < n → f j = g j) : (List.range n).map f = (List.range n).map g := List.map_congr_left fun j hj => h j (List.mem_range.1 hj)
theorem range_get {n k : Nat} {f : Nat → Value} (h : k < n) : ((List.range n).map f)[k]? = some (f k) := by rw [List.getElem?_map, List.getElem?_range h]; rfl

def W4.rr1 (x : W4) : W4 := ⟨x.d, x.a, x.b, x.c⟩
def W4.rr : Nat → W4 → W4
  | 0, x => x
  | r + 1, x => (W4.rr r x).rr1
def mulW (s : Nat) (y : W4) : W4 := ⟨mul s y.a, mul s y.b, mul s y.c, mul s y.d⟩
def tabV (t : List Nat) (y : W4) (j : Nat) : W4 := W4.rr (j / 256) (mulW (t.getD (j % 256) 0) y)
def colL (t : List Nat) (y : W4) : List Value := (List.range 1024).map fun j => .int .u32 (((tabV t y j).n : Nat) : Int)

theorem W4.ok_rr {x : W4} (h : x.ok) : ∀ r, (W4.rr r x).ok
  | 0 => h
  | r + 1 => by have := W4.ok_rr h r; exact ⟨this.2.2.2, this.1, this.2.1, this.2.2.1⟩
theorem mulW_ok {s : Nat} (hs : s < 256) (y : W4) : (mulW s y).ok := ⟨mul_lt hs, mul_lt hs, mul_lt hs, mul_lt hs⟩

/-- turned by r bytes -/
theorem rr_ok {x : W4} (hx : x.ok) : ∀ r : Nat, r < 4 →
    bits .or .u32 (Int.fdiv ((x.n : Nat) : Int) (2 ^ (min (Int.toNat (IntKind.i64.wrap (8 * (r : Int)))) IntKind.u32.bits))) (IntKind.u32.wrap (((x.n : Nat) : Int) * 2 ^ (min (Int.toNat (IntKind.i64.wrap (32 - (IntKind.i64.wrap (8 * (r : Int)))))) IntKind.u32.bits))) = (((W4.rr r x).n : Nat) : Int) := by
  obtain ⟨ha, hb, hc, hd⟩ := hx
  have hl := pk_lt ha hb hc hd
  have key : ∀ {s k : Nat}, s + k = 32 → pk x.a x.b x.c x.d / 2 ^ s < 2 ^ k → (k < 32) →
      bits .or .u32 (Int.fdiv ((x.n : Nat) : Int) (2 ^ s)) (IntKind.u32.wrap (((x.n : Nat) : Int) * 2 ^ k)) = ((pk x.a x.b x.c x.d % 2 ^ s * 2 ^ k + pk x.a x.b x.c x.d / 2 ^ s : Nat) : Int) := by
    intro s k hs h1 hk
    have e2 : (2 : Nat) ^ 32 = 2 ^ s * 2 ^ k := by rw [← Nat.pow_add, hs]
    have e3 : pk x.a x.b x.c x.d * 2 ^ k % 4294967296 = pk x.a x.b x.c x.d % 2 ^ s * 2 ^ k := by
      show _ % 2 ^ 32 = _
      rw [e2, Nat.mul_mod_mul_right]
    have l2 : pk x.a x.b x.c x.d % 2 ^ s * 2 ^ k < 4294967296 := by rw [← e3]; exact Nat.mod_lt _ (by decide)
    have l1 : pk x.a x.b x.c x.d / 2 ^ s < 4294967296 := Nat.lt_of_le_of_lt (Nat.div_le_self _ _) hl
    show bits .or .u32 (Int.fdiv ((pk x.a x.b x.c x.d : Nat) : Int) (2 ^ s)) (IntKind.u32.wrap (((pk x.a x.b x.c x.d : Nat) : Int) * 2 ^ k)) = _
    rw [fdiv_pow, sh32, e3, or32 l1 l2, Nat.or_comm, or_split h1]
  intro r hr
  have hcase : r = 0 ∨ r = 1 ∨ r = 2 ∨ r = 3 := by omega
  rcases hcase with rfl | rfl | rfl | rfl
  · show bits .or .u32 (Int.fdiv ((pk x.a x.b x.c x.d : Nat) : Int) (2 ^ 0)) (IntKind.u32.wrap (((pk x.a x.b x.c x.d : Nat) : Int) * 2 ^ 32)) = ((pk x.a x.b x.c x.d : Nat) : Int)
    have e3 : pk x.a x.b x.c x.d * 2 ^ 32 % 4294967296 = 0 := Nat.mul_mod_left _ _
    rw [fdiv_pow, sh32, e3, Nat.pow_zero, Nat.div_one, or32 hl (by decide), Nat.or_zero]
  · refine (key (s := 8) (k := 24) rfl (show pk x.a x.b x.c x.d / 256 < 16777216 by unfold pk; omega) (by decide)).trans ?_
    simp only [Nat.reducePow]
    have e : (W4.rr 1 x).n = pk x.d x.a x.b x.c := rfl
    have h : pk x.a x.b x.c x.d % 256 * 16777216 + pk x.a x.b x.c x.d / 256 = pk x.d x.a x.b x.c := by unfold pk; omega
    rw [e, h]
  · refine (key (s := 16) (k := 16) rfl (show pk x.a x.b x.c x.d / 65536 < 65536 by unfold pk; omega) (by decide)).trans ?_
    simp only [Nat.reducePow]
    have e : (W4.rr 2 x).n = pk x.c x.d x.a x.b := rfl
    have h : pk x.a x.b x.c x.d % 65536 * 65536 + pk x.a x.b x.c x.d / 65536 = pk x.c x.d x.a x.b := by unfold pk; omega
    rw [e, h]
  · refine (key (s := 24) (k := 8) rfl (show pk x.a x.b x.c x.d / 16777216 < 256 by unfold pk; omega) (by decide)).trans ?_
    simp only [Nat.reducePow]
    have e : (W4.rr 3 x).n = pk x.b x.c x.d x.a := rfl
    have h : pk x.a x.b x.c x.d % 16777216 * 256 + pk x.a x.b x.c x.d / 16777216 = pk x.b x.c x.d x.a := by unfold pk; omega
    rw [e, h]

def prodL (t : List Nat) (y : W4) (i r : Nat) : List Value := (List.range 1024).map fun j => if j % 256 < i ∨ (j % 256 = i ∧ j / 256 < r) then .int .u32 (((tabV t y j).n : Nat) : Int) else .int .u32 0

theorem prodL_len (t : List Nat) (y : W4) (i r : Nat) : (prodL t y i r).length = 1024 := by simp [prodL]
theorem prodL_set {t : List Nat} {y : W4} {i r : Nat} (hi : i < 256) (hr : r < 4) : (prodL t y i r).set (r * 256 + i) (.int .u32 (((tabV t y (r * 256 + i)).n : Nat) : Int)) = prodL t y i (r + 1) := by
  unfold prodL
  rw [range_set]
  refine map_range_ext fun j hj => ?_
  by_cases e : j = r * 256 + i
  · rw [if_pos e, if_pos (by omega), e]
  · rw [if_neg e]
    by_cases c : j % 256 < i ∨ (j % 256 = i ∧ j / 256 < r)
    · rw [if_pos c, if_pos (by omega)]
    · rw [if_neg c, if_neg (by omega)]
theorem prodL_next {t : List Nat} {y : W4} {i : Nat} : prodL t y i 4 = prodL t y (i + 1) 0 := by
  unfold prodL
  refine map_range_ext fun j hj => ?_
  by_cases c : j % 256 < i ∨ (j % 256 = i ∧ j / 256 < 4)
  · rw [if_pos c, if_pos (by omega)]
  · rw [if_neg c, if_neg (by omega)]
theorem prodL_zero {t : List Nat} {y : W4} : prodL t y 0 0 = List.replicate 1024 (.int .u32 0) := by
  unfold prodL
  have e : (List.range 1024).map (fun _ => Value.int .u32 0) = List.replicate 1024 (.int .u32 0) := by rw [List.map_const', List.length_range]
  rw [← e]
  refine map_range_ext fun j hj => ?_
  rw [if_neg (by omega)]
theorem prodL_full {t : List Nat} {y : W4} : prodL t y 256 0 = colL t y := by
  unfold prodL colL
  refine map_range_ext fun j hj => ?_
  rw [if_pos (by omega)]

theorem prod1_loop (K : Nat) {by1 : Sl} {a4 : Addr} {g : Nat} {a10 : Array Value} {t : List Nat} {y : W4} {i : Nat} (hi : i < 256) (hs : t.getD i 0 < 256) :
    ∀ (d r n : Nat) (w : World), d + r = 4 → d < n → Bk 128 w g (prodL t y i r) →
      ∃ w', rijndael_products_l1 K n by1 a4 ⟨g, 0, none⟩ (i : Int) ((((mulW (t.getD i 0) y).n : Nat)) : Int) a10 (i : Int) (r : Int) w = some ((), w') ∧ Bk 128 w' g (prodL t y i 4) ∧ Upd (· = g) w w' := by
  intro d
  induction d with
  | zero =>
    intro r n w hr hn b
    obtain ⟨n, rfl⟩ : ∃ m, n = m + 1 := ⟨n - 1, by omega⟩
    obtain rfl : r = 4 := by omega
    refine ⟨w, ?_, b, Upd.refl _ w⟩
    have eu : rijndael_products_l1 K (n + 1) = rijndael_products_l1_b K (rijndael_products_l1 K n) := rfl
    rw [eu]
    unfold rijndael_products_l1_b
    rw [if_neg (by decide)]
  | succ d ih =>
    intro r n w hr hn b
    obtain ⟨n, rfl⟩ : ∃ m, n = m + 1 := ⟨n - 1, by omega⟩
    have hr4 : r < 4 := by omega
    have bd := b.drew
    obtain ⟨w1, s1, s2, s3⟩ := bd.stC (i := r * 256 + i) (by rw [prodL_len]; omega) (.int .u32 (((tabV t y (r * 256 + i)).n : Nat) : Int))
    rw [prodL_set hi hr4] at s2
    have s3 : Upd (· = g) w w1 := s3.predrew
    obtain ⟨w2, g1, g2, g3⟩ := ih (r + 1) n w1 (by omega) (by omega) s2
    refine ⟨w2, ?_, g2, s3.trans' g3 fun _ _ e => e⟩
    have e8 : IntKind.i64.wrap (8 * (r : Int)) = ((8 * r : Nat) : Int) := by rw [w64 (by omega) (by omega)]; omega
    have e1 : IntKind.i64.wrap ((r : Int) + 1) = ((r + 1 : Nat) : Int) := by rw [w64 (by omega) (by omega)]; rfl
    have e32 : (0 : Int) ≤ IntKind.i64.wrap (32 - IntKind.i64.wrap (8 * (r : Int))) := by rw [e8, w64 (by omega) (by omega)]; omega
    have ev := rr_ok (mulW_ok hs y) r hr4
    have et : tabV t y (r * 256 + i) = W4.rr r (mulW (t.getD i 0) y) := by
      unfold tabV
      rw [show (r * 256 + i) / 256 = r by omega, show (r * 256 + i) % 256 = i by omega]
    rw [et] at s1
    have s1 : stC (((⟨g, 0, none⟩ : Addr).add (r * 256)).add (i * 1)) (.int .u32 (((W4.rr r (mulW (t.getD i 0) y)).n : Nat) : Int)) w.drew = some w1 := by
      rw [add_lit, add_lit, Nat.mul_one, Nat.zero_add]; exact s1
    have eu : rijndael_products_l1 K (n + 1) = rijndael_products_l1_b K (rijndael_products_l1 K n) := rfl
    rw [eu]
    unfold rijndael_products_l1_b
    rw [if_pos (decide_eq_true (by omega)), if_pos (by rw [e8]; omega), if_pos e32, if_pos (by omega), if_pos (by omega), ev, Int.toNat_natCast, Int.toNat_natCast, s1, Option.bind_some, e1, g1]

theorem prod0_loop {K : Nat} (hK : 300 ≤ K) {by1 : Sl} {a4 : Addr} {g : Nat} {t : List Nat} (ht : t.length = 256) (hs : ∀ i, i < 256 → t.getD i 0 < 256) {y : W4} (hy : y.ok) :
    ∀ (d i n : Nat) (w : World), d + i = 256 → d < n → Bk 128 w g (prodL t y i 0) → RdS .u8 w by1 [(y.a : Int), y.b, y.c, y.d] → (∀ p, by1.a = some p → p.block ≠ g) →
      ∃ w', rijndael_products_l0 K n by1 a4 ⟨g, 0, none⟩ (row t).toArray (i : Int) w = some ((), w') ∧ Bk 128 w' g (prodL t y 256 0) ∧ Upd (· = g) w w' := by
  intro d
  induction d with
  | zero =>
    intro i n w hi hn b r hb
    obtain ⟨n, rfl⟩ : ∃ m, n = m + 1 := ⟨n - 1, by omega⟩
    obtain rfl : i = 256 := by omega
    refine ⟨w, ?_, b, Upd.refl _ w⟩
    have eu : rijndael_products_l0 K (n + 1) = rijndael_products_l0_b K (rijndael_products_l0 K n) := rfl
    rw [eu]
    unfold rijndael_products_l0_b
    rw [if_neg (by decide)]
  | succ d ih =>
    intro i n w hi hn b r hb
    obtain ⟨n, rfl⟩ : ∃ m, n = m + 1 := ⟨n - 1, by omega⟩
    have hi2 : i < 256 := by omega
    have bd := b.drew
    have ud : Upd (· = g) w w.drew := (Upd.refl _ w).drew
    have hlen := r.len
    have hl4 : by1.len = 4 := hlen
    obtain ⟨p, hp, hld⟩ := r.drew.ld
    have hp := hp (by simp)
    have hx := hs i hi2
    have f0 : ldI .u8 (p.add (0 * 1)) w.drew = some (y.a : Int) := hld 0 (by simp)
    have f1 : ldI .u8 (p.add (1 * 1)) w.drew = some (y.b : Int) := hld 1 (by simp)
    have f2 : ldI .u8 (p.add (2 * 1)) w.drew = some (y.c : Int) := hld 2 (by simp)
    have f3 : ldI .u8 (p.add (3 * 1)) w.drew = some (y.d : Int) := hld 3 (by simp)
    obtain ⟨w1, a1, a2, a3⟩ := prod1_loop K (by1 := by1) (a4 := a4) (a10 := (row t).toArray) (t := t) (y := y) hi2 hx 4 0 K w.drew rfl (by omega) bd
    have a1 : rijndael_products_l1 K K by1 a4 ⟨g, 0, none⟩ (i : Int) ((((mulW (t.getD i 0) y).n : Nat)) : Int) (row t).toArray (i : Int) 0 w.drew = some ((), w1) := a1
    rw [prodL_next] at a2
    have u1 : Upd (· = g) w w1 := ud.trans' a3 fun _ _ e => e
    obtain ⟨w2, g1, g2, g3⟩ := ih (i + 1) n w1 (by omega) (by omega) a2 (r.upd u1 fun q hq e => hb q hq e) hb
    refine ⟨w2, ?_, g2, u1.trans' g3 fun _ _ e => e⟩
    have e1 : IntKind.i64.wrap ((i : Int) + 1) = ((i + 1 : Nat) : Int) := by rw [w64 (by omega) (by omega)]; rfl
    have hg : (row t).toArray[i]? = some (.int .u8 ((t.getD i 0 : Nat) : Int)) := by
      rw [List.getElem?_toArray]; exact row_get (by rw [ht]; exact hi2)
    obtain ⟨y1, y2, y3, y4⟩ := hy
    have em := mk32 (mul_lt (b := y.a) hx) (mul_lt (b := y.b) hx) (mul_lt (b := y.c) hx) (mul_lt (b := y.d) hx)
    have eu : rijndael_products_l0 K (n + 1) = rijndael_products_l0_b K (rijndael_products_l0 K n) := rfl
    rw [eu]
    unfold rijndael_products_l0_b
    rw [if_pos (decide_eq_true (by omega)), if_pos (by omega), Int.toNat_natCast, Nat.mul_one, hg, Option.bind_some]
    show ((some ((t.getD i 0 : Nat) : Int)).bind _) = _
    rw [Option.bind_some, hp, Option.bind_some, if_pos (by rw [hl4]; decide), Option.bind_some, if_pos (by rw [hl4]; decide), Option.bind_some, if_pos (by rw [hl4]; decide), Option.bind_some, if_pos (by rw [hl4]; decide),
      f0, Option.bind_some, Times_ok hK hx y1, Option.bind_some, f1, Option.bind_some, Times_ok hK hx y2, Option.bind_some, f2, Option.bind_some, Times_ok hK hx y3, Option.bind_some, f3, Option.bind_some, Times_ok hK hx y4, Option.bind_some, em]
    show bnd (rijndael_products_l1 K K by1 a4 ⟨g, 0, none⟩ (i : Int) ((((mulW (t.getD i 0) y).n : Nat)) : Int) (row t).toArray (i : Int) 0 w.drew) _ = _
    rw [a1, bnd_ok, e1, g1]

end Go.Sh

/- The tables of package rijndael, made. -/
set_option linter.unusedVariables false
set_option maxRecDepth 100000
namespace Go.Sh
open Go.Fw Go.Gf Go.RowKit Go.Proofs.Tryd

theorem built130 : prog.built 130 [(0, .agg (row sbT).toArray)] = some (row sbT ++ (row (List.replicate 256 0) ++ List.replicate 2048 (Value.int .u32 0))).toArray := by kernel_rfl

theorem z128_eq (t : List Nat) (y : W4) : z128.toList = prodL t y 0 0 := by rw [prodL_zero]; simp [z128]
theorem colL_len (t : List Nat) (y : W4) : (colL t y).length = 1024 := by simp [colL]
theorem colL_one (t : List Nat) (y : W4) : ∀ v ∈ colL t y, v.oneCell' = true := by
  intro v hv
  unfold colL at hv
  obtain ⟨j, _, rfl⟩ := List.mem_map.1 hv
  rfl

theorem seg_all {cs vs : List Value} (h : vs.length = cs.length) : seg cs 0 vs = vs := by
  simp only [seg, List.take_zero, List.nil_append, Nat.zero_add]
  rw [List.drop_eq_nil_of_le (by omega), List.append_nil]

theorem products_ok {K : Nat} (hK : 300 ≤ K) {t : List Nat} (ht : t.length = 256) (hs : ∀ i, i < 256 → t.getD i 0 < 256) {y : W4} (hy : y.ok) {by1 : Sl} {w : World} (r : RdS .u8 w by1 [(y.a : Int), y.b, y.c, y.d]) (hb : ∀ p, by1.a = some p → p.block < w.heap.size) :
    ∃ w', rijndael_products K (row t).toArray by1 w = some (((colL t y).toArray, ()), w') ∧ Upd none_ w w' := by
  obtain ⟨w1, n1, b1, u1, z1⟩ := newB_ok (row t).toArray 93 w
  obtain ⟨w2, n2, b2, u2, z2⟩ := newB_ok z128 128 w1
  obtain ⟨w3, n3, b3, u3, z3⟩ := newB_ok z128 128 w2
  rw [z128_eq t y] at b2 b3
  have b1 : Bk 93 w1 w.heap.size (row t) := b1
  have hl := ((b1.upd0 u2).upd0 u3).ldA (i := 0) (n := 256) (by rw [row_len, ht]; decide)
  rw [List.drop_zero, List.take_of_length_le (by rw [row_len, ht]; decide)] at hl
  have q3 := (u1.and0 u2).and0 u3
  have hz3 := u1.size
  obtain ⟨w4, h1, h2, h3⟩ := prod0_loop hK (by1 := by1) (a4 := ⟨w1.heap.size, 0, none⟩) (g := w2.heap.size) ht hs hy 256 0 K w3 rfl (by omega) b3 (r.upd0 q3) (fun p hp e => by have := hb p hp; omega)
  have h1 : rijndael_products_l0 K K by1 ⟨w1.heap.size, 0, none⟩ ⟨w2.heap.size, 0, none⟩ (row t).toArray 0 w3 = _ := h1
  rw [prodL_full] at h2
  have hl2 := h2.ldA (i := 0) (n := 1024) (by rw [colL_len]; decide)
  rw [List.drop_zero, List.take_of_length_le (by rw [colL_len]; decide)] at hl2
  have hne : ¬ w1.heap.size = w2.heap.size := by omega
  obtain ⟨w5, a1, a2, a3⟩ := ((b2.upd0 u3).upd h3 hne).stA (o := 0) (vs := (colL t y).toArray) (by rw [List.size_toArray, colL_len, prodL_len]; decide) (fun v hv => colL_one t y v hv)
  have a2 : Bk 128 w5 w1.heap.size (seg (prodL t y 0 0) 0 (colL t y)) := a2
  rw [seg_all (by rw [colL_len, prodL_len])] at a2
  have hl3 := a2.ldA (i := 0) (n := 1024) (by rw [colL_len]; decide)
  rw [List.drop_zero, List.take_of_length_le (by rw [colL_len]; decide)] at hl3
  refine ⟨w5, ?_, (q3.trans' h3 fun k hk e => by omega).trans' a3 fun k hk e => by omega⟩
  unfold rijndael_products
  rw [n1, bnd_ok, n2, bnd_ok, n3, bnd_ok, hl, Option.bind_some, h1, bnd_ok, hl2, Option.bind_some, if_pos (by rw [List.size_toArray, colL_len]), a1, Option.bind_some, hl3, Option.bind_some]

def encY : W4 := ⟨2, 1, 1, 3⟩
def decY : W4 := ⟨14, 9, 13, 11⟩
/-- what the tables hold -/
def tabsL : List Value := row sbT ++ (row (invT 256) ++ (colL sbT encY ++ colL (invT 256) decY))

theorem seg_mid {xs ys zs vs : List Value} {o : Nat} (ho : xs.length = o) (h : vs.length = ys.length) : seg (xs ++ (ys ++ zs)) o vs = xs ++ (vs ++ zs) := by
  subst ho
  have e1 : (xs ++ (ys ++ zs)).take xs.length = xs := List.take_left' rfl
  have e2 : (xs ++ (ys ++ zs)).drop (xs.length + ys.length) = zs := by
    rw [← List.append_assoc, ← List.length_append]; exact List.drop_left' rfl
  unfold seg
  rw [h, e1, e2, List.append_assoc]

theorem four_ok (w : World) (y : W4) (hy : y.ok) : ∃ w', bldS prog 22 4 #[(0, (.int .u8 (y.a : Int))), (1, (.int .u8 (y.b : Int))), (2, (.int .u8 (y.c : Int))), (3, (.int .u8 (y.d : Int)))] w = some (⟨some ⟨w.heap.size, 0, none⟩, 4, 4⟩, w') ∧ RdS .u8 w' ⟨some ⟨w.heap.size, 0, none⟩, 4, 4⟩ [(y.a : Int), y.b, y.c, y.d] ∧ Own 5 w' ⟨some ⟨w.heap.size, 0, none⟩, 4, 4⟩ (ints .u8 [(y.a : Int), y.b, y.c, y.d]) ∧ Upd none_ w w' ∧ w'.heap.size = w.heap.size + 1 := by
  obtain ⟨w', h1, h2, h3, h4⟩ := bldS_ok sliceB [.int .u8 (y.a : Int), .int .u8 (y.b : Int), .int .u8 (y.c : Int), .int .u8 (y.d : Int)] (by
    intro v hv
    simp only [List.mem_cons, List.not_mem_nil, or_false] at hv
    rcases hv with rfl | rfl | rfl | rfl <;> rfl) (Nat.succ_pos _) (show 4 ≤ 16777216 by decide) w
  have h2 : Own 5 w' ⟨some ⟨w.heap.size, 0, none⟩, 4, 4⟩ (ints .u8 [(y.a : Int), y.b, y.c, y.d]) := h2
  exact ⟨w', h1, h2.rd, h2, h3, h4⟩

theorem made_ok {K : Nat} (hK : 300 ≤ K) (w : World) : ∃ g w', rijndael_made K w = some ((some ⟨g, 0, none⟩, ()), w') ∧ w.heap.size ≤ g ∧ Bk 130 w' g tabsL ∧ Upd none_ w w' := by
  obtain ⟨w1, a1, u1⟩ := substitutions_ok hK w
  obtain ⟨w2, n2, b2, u2, z2⟩ := newB_ok (row sbT ++ (row (List.replicate 256 0) ++ List.replicate 2048 (Value.int .u32 0))).toArray 130 w1
  have b2 : Bk 130 w2 w1.heap.size (row sbT ++ (row (List.replicate 256 0) ++ List.replicate 2048 (Value.int .u32 0))) := b2
  have hz1 := u1.size
  have q2 := u1.and0 u2
  have ls : (row sbT).length = 256 := by rw [row_len, sbT_len]
  have li : (row (invT 256)).length = 256 := by rw [row_len, invT_len]
  have lz : (row (List.replicate 256 0)).length = 256 := by rw [row_len, List.length_replicate]
  have hl2 := b2.ldA (i := 0) (n := 256) (by rw [List.length_append, ls]; omega)
  rw [List.drop_zero, List.take_left' ls] at hl2
  obtain ⟨w3, a3, u3⟩ := inverse_ok hK w2
  obtain ⟨w4, s4, b4, u4⟩ := (b2.upd0 u3).stA (o := 256) (vs := (row (invT 256)).toArray) (by rw [List.size_toArray, li, List.length_append, List.length_append, ls, lz]; omega) (fun v hv => ints_one v hv)
  have b4 : Bk 130 w4 w1.heap.size (seg (row sbT ++ (row (List.replicate 256 0) ++ List.replicate 2048 (Value.int .u32 0))) 256 (row (invT 256))) := b4
  rw [seg_mid ls (by rw [li, lz])] at b4
  have q4 : Upd none_ w w4 := (q2.and0 u3).trans' u4 fun k hk e => by omega
  have hl4 := b4.ldA (i := 0) (n := 256) (by rw [List.length_append, ls]; omega)
  rw [List.drop_zero, List.take_left' ls] at hl4
  obtain ⟨w5, n5, r5, o5, u5, z5⟩ := four_ok w4 encY ⟨by decide, by decide, by decide, by decide⟩
  have hz3 := u3.size
  have hz4 := u4.size
  obtain ⟨w6, a6, u6⟩ := products_ok hK sbT_len sbT_lt (y := encY) ⟨by decide, by decide, by decide, by decide⟩ r5 (fun p hp => by obtain rfl := Option.some.inj hp; show w4.heap.size < _; omega)
  have b6 := (b4.upd0 u5).upd0 u6
  have e6 : row sbT ++ (row (invT 256) ++ List.replicate 2048 (Value.int .u32 0)) = (row sbT ++ row (invT 256)) ++ (List.replicate 1024 (Value.int .u32 0) ++ List.replicate 1024 (Value.int .u32 0)) := by
    rw [List.append_assoc, List.replicate_append_replicate]
  rw [e6] at b6
  have l512 : (row sbT ++ row (invT 256)).length = 512 := by rw [List.length_append, ls, li]
  obtain ⟨w7, s7, b7, u7⟩ := b6.stA (o := 512) (vs := (colL sbT encY).toArray) (by rw [List.size_toArray, colL_len, List.length_append, l512, List.length_append, List.length_replicate]; omega) (fun v hv => colL_one _ _ v hv)
  have b7 : Bk 130 w7 w1.heap.size (seg ((row sbT ++ row (invT 256)) ++ (List.replicate 1024 (Value.int .u32 0) ++ List.replicate 1024 (Value.int .u32 0))) 512 (colL sbT encY)) := b7
  rw [seg_mid l512 (by rw [colL_len, List.length_replicate])] at b7
  have q7 : Upd none_ w w7 := ((q4.and0 u5).and0 u6).trans' u7 fun k hk e => by omega
  have hl7 := b7.ldA (i := 256) (n := 256) (by rw [List.length_append, l512]; omega)
  rw [List.append_assoc, List.drop_left' ls, List.take_left' li] at hl7
  obtain ⟨w8, n8, r8, o8, u8, z8⟩ := four_ok w7 decY ⟨by decide, by decide, by decide, by decide⟩
  obtain ⟨w9, a9, u9⟩ := products_ok hK (invT_len 256) (fun i hi => (both i hi).2.2) (y := decY) ⟨by decide, by decide, by decide, by decide⟩ r8 (fun p hp => by obtain rfl := Option.some.inj hp; show w7.heap.size < _; omega)
  have b9 := (b7.upd0 u8).upd0 u9
  have e9 : (row sbT ++ row (invT 256)) ++ (colL sbT encY ++ List.replicate 1024 (Value.int .u32 0)) = ((row sbT ++ row (invT 256)) ++ colL sbT encY) ++ (List.replicate 1024 (Value.int .u32 0) ++ []) := by
    rw [List.append_nil, List.append_assoc (row sbT ++ row (invT 256))]
  rw [e9] at b9
  have l1536 : ((row sbT ++ row (invT 256)) ++ colL sbT encY).length = 1536 := by rw [List.length_append, l512, colL_len]
  obtain ⟨w10, s10, b10, u10⟩ := b9.stA (o := 1536) (vs := (colL (invT 256) decY).toArray) (by rw [List.size_toArray, colL_len, List.length_append, l1536, List.length_append, List.length_replicate]; omega) (fun v hv => colL_one _ _ v hv)
  have b10 : Bk 130 w10 w1.heap.size (seg (((row sbT ++ row (invT 256)) ++ colL sbT encY) ++ (List.replicate 1024 (Value.int .u32 0) ++ [])) 1536 (colL (invT 256) decY)) := b10
  rw [seg_mid l1536 (by rw [colL_len, List.length_replicate]), List.append_nil, List.append_assoc, List.append_assoc] at b10
  refine ⟨w1.heap.size, w10, ?_, hz1, b10, ((q7.and0 u8).and0 u9).trans' u10 fun k hk e => by have := q7.size; omega⟩
  have f6 : (row sbT).toArray.size = 256 := by rw [List.size_toArray, ls]
  have f7 : (row (invT 256)).toArray.size = 256 := by rw [List.size_toArray, li]
  unfold rijndael_made
  rw [a1, bnd_ok, built130, Option.bind_some, n2, bnd_ok]
  show (ldA 256 (⟨w1.heap.size, 0, none⟩ : Addr) w2).bind _ = _
  rw [hl2, Option.bind_some, a3, bnd_ok, if_pos f7]
  show (stA (⟨w1.heap.size, 256, none⟩ : Addr) (row (invT 256)).toArray w3).bind _ = _
  rw [s4, Option.bind_some]
  show (ldA 256 (⟨w1.heap.size, 0, none⟩ : Addr) w4).bind _ = _
  rw [hl4, Option.bind_some]
  show bnd (bldS prog 22 4 #[(0, (.int .u8 ((encY.a : Nat) : Int))), (1, (.int .u8 ((encY.b : Nat) : Int))), (2, (.int .u8 ((encY.c : Nat) : Int))), (3, (.int .u8 ((encY.d : Nat) : Int)))] w4) _ = _
  rw [n5, bnd_ok, a6, bnd_ok, if_pos (by rw [List.size_toArray, colL_len])]
  show (stA (⟨w1.heap.size, 512, none⟩ : Addr) (colL sbT encY).toArray w6).bind _ = _
  rw [s7, Option.bind_some]
  show (ldA 256 (⟨w1.heap.size, 256, none⟩ : Addr) w7).bind _ = _
  rw [hl7, Option.bind_some]
  show bnd (bldS prog 22 4 #[(0, (.int .u8 ((decY.a : Nat) : Int))), (1, (.int .u8 ((decY.b : Nat) : Int))), (2, (.int .u8 ((decY.c : Nat) : Int))), (3, (.int .u8 ((decY.d : Nat) : Int)))] w7) _ = _
  rw [n8, bnd_ok, a9, bnd_ok, if_pos (by rw [List.size_toArray, colL_len])]
  show (stA (⟨w1.heap.size, 1536, none⟩ : Addr) (colL (invT 256) decY).toArray w9).bind _ = _
  rw [s10, Option.bind_some]

end Go.Sh

/- Package rijndael: words through the tables, numbers, the schedule. -/
set_option linter.unusedVariables false
set_option maxRecDepth 100000
namespace Go.Sh
open Go.Fw Go.Gf Go.RowKit Go.Proofs.Tryd

theorem ls256 : (row sbT).length = 256 := by rw [row_len, sbT_len]
theorem li256 : (row (invT 256)).length = 256 := by rw [row_len, invT_len]
theorem tabV_at {t : List Nat} {y : W4} {r i : Nat} (hi : i < 256) : tabV t y (r * 256 + i) = W4.rr r (mulW (t.getD i 0) y) := by
  unfold tabV
  rw [show (r * 256 + i) / 256 = r by omega, show (r * 256 + i) % 256 = i by omega]
theorem colL_get {t : List Nat} {y : W4} {r i : Nat} (hr : r < 4) (hi : i < 256) : (colL t y)[r * 256 + i]? = some (.int .u32 (((W4.rr r (mulW (t.getD i 0) y)).n : Nat) : Int)) := by
  unfold colL
  rw [range_get (by omega), tabV_at hi]

theorem tb_s {w : World} {g : Nat} (b : Bk 130 w g tabsL) {i : Nat} (hi : i < 256) : ldI .u8 (((⟨g, 0, none⟩ : Addr).add 0).add (i * 1)) w = some ((sx i : Nat) : Int) := by
  rw [add_lit, add_lit]
  refine b.ldI ?_
  unfold tabsL
  rw [List.getElem?_append_left (by rw [ls256]; omega), show 0 + 0 + i * 1 = i by omega]
  exact row_get (by rw [sbT_len]; exact hi)
theorem tb_u {w : World} {g : Nat} (b : Bk 130 w g tabsL) {i : Nat} (hi : i < 256) : ldI .u8 (((⟨g, 0, none⟩ : Addr).add 256).add (i * 1)) w = some ((ux i : Nat) : Int) := by
  rw [add_lit, add_lit]
  refine b.ldI ?_
  unfold tabsL
  rw [List.getElem?_append_right (by rw [ls256]; omega), ls256, List.getElem?_append_left (by rw [li256]; omega), show 0 + 256 + i * 1 - 256 = i by omega]
  exact row_get (by rw [invT_len]; exact hi)
theorem tb_c {w : World} {g : Nat} (b : Bk 130 w g tabsL) {r i : Nat} (hr : r < 4) (hi : i < 256) : ldI .u32 ((((⟨g, 0, none⟩ : Addr).add 512).add (r * 256)).add (i * 1)) w = some (((W4.rr r (mulW (sx i) encY)).n : Nat) : Int) := by
  rw [add_lit, add_lit, add_lit]
  refine b.ldI ?_
  unfold tabsL
  rw [List.getElem?_append_right (by rw [ls256]; omega), ls256, List.getElem?_append_right (by rw [li256]; omega), li256, List.getElem?_append_left (by rw [colL_len]; omega), show 0 + 512 + r * 256 + i * 1 - 256 - 256 = r * 256 + i by omega]
  exact colL_get hr hi
theorem tb_d {w : World} {g : Nat} (b : Bk 130 w g tabsL) {r i : Nat} (hr : r < 4) (hi : i < 256) : ldI .u32 ((((⟨g, 0, none⟩ : Addr).add 1536).add (r * 256)).add (i * 1)) w = some (((W4.rr r (mulW (ux i) decY)).n : Nat) : Int) := by
  rw [add_lit, add_lit, add_lit]
  refine b.ldI ?_
  unfold tabsL
  rw [List.getElem?_append_right (by rw [ls256]; omega), ls256, List.getElem?_append_right (by rw [li256]; omega), li256, List.getElem?_append_right (by rw [colL_len]; omega), colL_len, show 0 + 1536 + r * 256 + i * 1 - 256 - 256 - 1024 = r * 256 + i by omega]
  exact colL_get hr hi

theorem nat_in {a n : Nat} (h : a < n) : (0 : Int) ≤ (a : Int) ∧ (a : Int) < ((n : Nat) : Int) := ⟨by omega, by omega⟩

theorem word_ok {w : World} {g : Nat} (b : Bk 130 w g tabsL) {x : W4} (hx : x.ok) : rijndael_tables_word (some ⟨g, 0, none⟩) ((x.n : Nat) : Int) w = some ((((x.sub.n : Nat) : Int), ()), w.drew) := by
  obtain ⟨ha, hb, hc, hd⟩ := hx
  have e0 : Int.fdiv ((x.n : Nat) : Int) (2 ^ 24) = (x.a : Int) := pk_0 hb hc hd
  have e1 : bits .and .u32 (Int.fdiv ((x.n : Nat) : Int) (2 ^ 16)) 255 = (x.b : Int) := pk_1 ha hb hc hd
  have e2 : bits .and .u32 (Int.fdiv ((x.n : Nat) : Int) (2 ^ 8)) 255 = (x.c : Int) := pk_2 ha hb hc hd
  have e3 : bits .and .u32 ((x.n : Nat) : Int) 255 = (x.d : Int) := pk_3 ha hb hc hd
  have bd := b.drew
  unfold rijndael_tables_word
  rw [Option.bind_some, e0, if_pos (nat_in ha), Option.bind_some, e1, if_pos (nat_in hb), Option.bind_some, e2, if_pos (nat_in hc), Option.bind_some, e3, if_pos (nat_in hd), Int.toNat_natCast, Int.toNat_natCast, Int.toNat_natCast, Int.toNat_natCast,
    tb_s bd ha, Option.bind_some, tb_s bd hb, Option.bind_some, tb_s bd hc, Option.bind_some, tb_s bd hd, Option.bind_some, mk32 (sx_lt ha) (sx_lt hb) (sx_lt hc) (sx_lt hd)]
  rfl

/-! ### numbers -/
def numN (zs : List Int) : Nat := zs.foldl (fun n z => n * 256 + z.toNat) 0

theorem in8 {z : Int} (h : InK .u8 z) : 0 ≤ z ∧ z ≤ 255 := by
  have h1 := h.1
  have h2 : z < 2 ^ 8 := h.2
  exact ⟨h1, by omega⟩

theorem numN_snoc (zs : List Int) (z : Int) : numN (zs ++ [z]) = numN zs * 256 + z.toNat := by unfold numN; rw [List.foldl_append]; rfl
theorem numN_lt {zs : List Int} (h : ∀ z ∈ zs, InK .u8 z) : numN zs < 256 ^ zs.length := by
  have key : ∀ (zs : List Int) (n k : Nat), n < 256 ^ k → (∀ z ∈ zs, InK .u8 z) → zs.foldl (fun n z => n * 256 + z.toNat) n < 256 ^ (k + zs.length) := by
    intro zs
    induction zs with
    | nil => intro n k h _; exact h
    | cons z r ih =>
      intro n k h hz
      have h1 : z.toNat < 256 := by
        have := hz z (List.mem_cons_self ..)
        have h2 : (0 : Int) ≤ z ∧ z ≤ 255 := in8 this
        omega
      rw [List.foldl_cons, List.length_cons, show k + (r.length + 1) = (k + 1) + r.length by omega]
      refine ih _ _ ?_ fun y hy => hz y (List.mem_cons_of_mem _ hy)
      rw [Nat.pow_succ]
      omega
  have := key zs 0 0 (by decide) h
  rwa [Nat.zero_add] at this

theorem or64 {a b : Nat} (ha : a < 2 ^ 64) (hb : b < 2 ^ 64) : bits .or .u64 (a : Int) (b : Int) = ((a ||| b : Nat) : Int) := (bits_nats (k := .u64) rfl ha hb).2.1
theorem wru64 {a : Nat} (h : a < 18446744073709551616) : IntKind.u64.wrap (a : Int) = (a : Int) := by rw [IntKind.wrap_u64]; omega

theorem number_loop (K : Nat) {s : Sl} {zs : List Int} {w : World} (r : RdS .u8 w s zs) (hz : ∀ z ∈ zs, InK .u8 z) (h8 : zs.length ≤ 8) :
    ∀ (d i n : Nat), d + i = zs.length → d < n → rijndael_number_l0 K n ((numN (zs.take i) : Nat) : Int) s ((zs.length : Nat) : Int) (i : Int) w = some (.norm (((numN zs : Nat) : Int), ())) := by
  intro d
  induction d with
  | zero =>
    intro i n hi hn
    obtain ⟨n, rfl⟩ : ∃ m, n = m + 1 := ⟨n - 1, by omega⟩
    show rijndael_number_l0_b K w _ _ s _ _ = _
    unfold rijndael_number_l0_b
    rw [if_neg (fun e => by have := of_decide_eq_true e; omega), List.take_of_length_le (by omega)]
  | succ d ih =>
    intro i n hi hn
    obtain ⟨n, rfl⟩ : ∃ m, n = m + 1 := ⟨n - 1, by omega⟩
    have hil : i < zs.length := by omega
    obtain ⟨p, hp, hld⟩ := r.ld
    have hp := hp (by intro e; rw [e] at hil; simp at hil)
    have hrl := r.len
    have h1 := hld i hil
    have hzi := hz zs[i] (List.getElem_mem hil)
    have hzi : (0 : Int) ≤ zs[i] ∧ zs[i] ≤ 255 := in8 hzi
    have hlt := numN_lt (zs := zs.take i) fun z h => hz z (List.mem_of_mem_take h)
    rw [List.length_take, Nat.min_eq_left (by omega)] at hlt
    have hlt2 : numN (zs.take i) < 72057594037927936 := Nat.lt_of_lt_of_le hlt (by
      have : 256 ^ i ≤ 256 ^ 7 := Nat.pow_le_pow_right (by decide) (by omega)
      simpa using this)
    obtain ⟨m, hm⟩ : ∃ m : Nat, zs[i] = (m : Int) := ⟨zs[i].toNat, by omega⟩
    have e1 : IntKind.i64.wrap ((i : Int) + 1) = ((i + 1 : Nat) : Int) := by rw [w64 (by omega) (by omega)]; rfl
    have e2 : ((numN (zs.take i) : Nat) : Int) * 2 ^ 8 = ((numN (zs.take i) * 2 ^ 8 : Nat) : Int) := by simp
    have e3 : bits .or .u64 (IntKind.u64.wrap (((numN (zs.take i) : Nat) : Int) * 2 ^ 8)) (IntKind.u64.wrap (m : Int)) = ((numN (zs.take (i + 1)) : Nat) : Int) := by
      rw [e2, wru64 (show numN (zs.take i) * 2 ^ 8 < 18446744073709551616 by omega), wru64 (by omega), or64 (by omega) (by omega), or_split (k := 8) (by omega), List.take_add_one, List.getElem?_eq_getElem hil]
      show ((_ : Nat) : Int) = ((numN (zs.take i ++ [zs[i]]) : Nat) : Int)
      rw [numN_snoc, hm, Int.toNat_natCast]
    show rijndael_number_l0_b K w (rijndael_number_l0 K n · · · · w) _ s _ _ = _
    unfold rijndael_number_l0_b
    rw [if_pos (decide_eq_true (by omega)), hp, Option.bind_some, if_pos (by rw [hrl]; exact nat_in hil), Int.toNat_natCast, Nat.mul_one, h1, Option.bind_some, hm, e3, e1]
    exact ih (i + 1) n (by omega) (by omega)

theorem number_ok {K : Nat} (hK : 300 ≤ K) {s : Sl} {zs : List Int} {w : World} (r : RdS .u8 w s zs) (hz : ∀ z ∈ zs, InK .u8 z) {n : Nat} (hn : n ≤ zs.length) (h8 : n ≤ 8) :
    rijndael_number K s (n : Int) w = some (((numN (zs.take n) : Nat) : Int), ()) := by
  have hc := r.cap
  have hl := r.len
  have r2 := RdS.sub r (lo := 0) (hi := n) (Nat.zero_le _) hn
  rw [List.drop_zero] at r2
  have hlen : (zs.take n).length = n := by rw [List.length_take, Nat.min_eq_left hn]
  have h := number_loop K r2 (fun z h => hz z (List.mem_of_mem_take h)) (by omega) n 0 K (by omega) (by omega)
  rw [hlen, List.take_zero] at h
  have h : rijndael_number_l0 K K 0 ⟨sla s.a 0 s.cap 1, n - 0, s.cap - 0⟩ ((n : Nat) : Int) 0 w = _ := h
  unfold rijndael_number
  rw [if_pos ⟨by omega, by omega⟩, Int.toNat_natCast, Nat.sub_zero]
  rw [Nat.sub_zero] at h
  rw [h, Option.bind_some]

end Go.Sh

/- Package rijndael: the schedule of a key. -/
set_option linter.unusedVariables false
set_option maxRecDepth 100000
namespace Go.Sh
open Go.Fw Go.Gf Go.RowKit Go.Proofs.Tryd

theorem sliceW : OneSlice prog 34 50 (.int .u32 0) 4 := ⟨by kernel_rfl, ⟨t50, by kernel_rfl, by kernel_rfl, by kernel_rfl, by kernel_rfl⟩, by decide, rfl, rfl⟩

theorem own_bk {e : TypeId} {w : World} {g n : Nat} {vs : List Value} (h : Own e w ⟨some ⟨g, 0, none⟩, n, n⟩ vs) (hn : 0 < n) : Bk e w g vs := by
  have hl : n = vs.length := h.len
  obtain ⟨g', cs, h1, h2, h3, h4, h5, h6⟩ := h.bk (by intro e; rw [e] at hl; simp at hl; omega)
  have h1 : (⟨g, 0, none⟩ : Addr) = ⟨g', 0, none⟩ := Option.some.inj h1
  simp only [Addr.mk.injEq] at h1
  obtain ⟨rfl, _⟩ := h1
  have h5 : cs.length = n := h5
  have h6 : cs.take n = vs := h6
  rw [List.take_of_length_le (by omega)] at h6
  rw [← h6]; exact h2

theorem mkW_full (w : World) {n : Nat} (hn : n ≤ 1000) (h0 : 0 < n) :
    ∃ w', mkS prog 34 (.int .i64 (n : Int)) (.int .i64 (n : Int)) w = some (⟨some ⟨w.heap.size, 0, none⟩, n, n⟩, w') ∧ Bk 50 w' w.heap.size (List.replicate n (.int .u32 0)) ∧ Upd none_ w w' ∧ w.heap.size < w'.heap.size := by
  obtain ⟨i, hi, hsz, hz, hby⟩ := sliceW.info
  obtain ⟨w', hr, ho, hg⟩ := run_make_full (P := prog) w 0 34 50 i (.int .u32 0) 1 sliceW.ht hi hz hsz .i64 .i64 n (by rw [hby]; omega) (by simp only [maxLen]; omega) (Nat.zero_le _)
  obtain ⟨s, h1, h2, h3⟩ := Own.of_row ho
  have hs : s = ⟨some ⟨w.heap.size, 0, none⟩, n, n⟩ := by
    cases s
    simp only [Value.slice.injEq] at h1
    simp [← h1.1, ← h1.2.1, ← h1.2.2]
  have hc : (madeCells (Value.int .u32 0).cells (n * 1)).toList = List.replicate n (.int .u32 0) := by
    apply List.ext_getElem
    · simp [madeCells]
    · intro k h1 h2; simp [madeCells, Nat.mod_one, Value.cells]
  rw [hs, hc] at h3
  have hb := own_bk h3 h0
  refine ⟨w', ?_, hb, (Upd.of_grown hg).mono fun k _ e => by (cases e), hb.lt⟩
  unfold mkS
  rw [hr]

/-- words, and room behind them -/
def wc (S : List W4) (n : Nat) : List Value := (S.map fun x => Value.int .u32 ((x.n : Nat) : Int)) ++ List.replicate (n - S.length) (.int .u32 0)

theorem wc_len {S : List W4} {n : Nat} (h : S.length ≤ n) : (wc S n).length = n := by
  unfold wc; rw [List.length_append, List.length_map, List.length_replicate]; omega
theorem wc_set {S : List W4} {n : Nat} (h : S.length < n) (x : W4) : (wc S n).set S.length (.int .u32 ((x.n : Nat) : Int)) = wc (S ++ [x]) n := by
  unfold wc
  obtain ⟨m, hm⟩ : ∃ m, n - S.length = m + 1 := ⟨n - S.length - 1, by omega⟩
  have hm2 : n - (S ++ [x]).length = m := by rw [List.length_append, List.length_singleton]; omega
  rw [hm, hm2, List.replicate_succ, List.set_append_right _ _ (by rw [List.length_map]; exact Nat.le_refl _), List.length_map, Nat.sub_self, List.set_cons_zero, List.map_append, List.append_assoc]
  rfl
theorem wc_get {S : List W4} {n i : Nat} (h : i < S.length) (z : W4) : (wc S n)[i]? = some (.int .u32 (((S.getD i z).n : Nat) : Int)) := by
  unfold wc
  rw [List.getElem?_append_left (by rw [List.length_map]; exact h), List.getElem?_map, List.getD_eq_getElem?_getD, List.getElem?_eq_getElem h]
  rfl

def z4 : W4 := ⟨0, 0, 0, 0⟩
def rcT : List Nat := [1, 2, 4, 8, 16, 32, 64, 128, 27, 54]
def Rc (w : World) : Prop := Rd w ⟨0, 0, none⟩ (ints .u8 (rcT.map Int.ofNat))
theorem rc_ld {w : World} (h : Rc w) {j : Nat} (hj : j < 10) : ldI .u8 ((⟨0, 0, none⟩ : Addr).add (j * 1)) w = some ((rcT.getD j 0 : Nat) : Int) := by
  have : (ints .u8 (rcT.map Int.ofNat))[j]? = some (.int .u8 ((rcT.getD j 0 : Nat) : Int)) := row_get hj
  have := h j _ this
  rw [Nat.mul_one]
  unfold ldI
  rw [this]
  rfl

def stepW (nk i : Nat) (t : W4) : W4 := if i % nk = 0 then (t.rot.sub).xor ⟨rcT.getD (i / nk - 1) 0, 0, 0, 0⟩ else if i % nk = 4 ∧ nk = 8 then t.sub else t
def nextW (nk : Nat) (S : List W4) : W4 := (S.getD (S.length - nk) z4).xor (stepW nk S.length (S.getD (S.length - 1) z4))
def expW (nk : Nat) : Nat → List W4 → List W4
  | 0, S => S
  | n + 1, S => expW nk n (S ++ [nextW nk S])

theorem rcT_lt (j : Nat) : rcT.getD j 0 < 256 := by
  by_cases h : j < 10
  · have : ∀ j, j < 10 → rcT.getD j 0 < 256 := by decide
    exact this j h
  · rw [List.getD_eq_getElem?_getD, List.getElem?_eq_none (show rcT.length ≤ j by show 10 ≤ j; omega)]; decide
theorem stepW_ok {nk i : Nat} {t : W4} (ht : t.ok) : (stepW nk i t).ok := by
  unfold stepW
  split
  · exact W4.ok_xor (W4.ok_sub (W4.ok_rot ht)) ⟨rcT_lt _, (show 0 < 256 by decide), (show 0 < 256 by decide), (show 0 < 256 by decide)⟩
  · split
    · exact W4.ok_sub ht
    · exact ht
theorem getD_ok {S : List W4} (h : ∀ x ∈ S, x.ok) (i : Nat) : (S.getD i z4).ok := by
  rw [List.getD_eq_getElem?_getD]
  cases hi : S[i]? with
  | none => exact W4.zero_ok
  | some x => exact h x (List.mem_of_getElem? hi)
theorem nextW_ok {nk : Nat} {S : List W4} (h : ∀ x ∈ S, x.ok) : (nextW nk S).ok := W4.ok_xor (getD_ok h _) (stepW_ok (getD_ok h _))
theorem snoc_ok {S : List W4} (h : ∀ x ∈ S, x.ok) {y : W4} (hy : y.ok) : ∀ x ∈ S ++ [y], x.ok := fun x hx => by
  rcases List.mem_append.1 hx with hx | hx
  · exact h x hx
  · rw [List.mem_singleton.1 hx]; exact hy
theorem expW_ok {nk : Nat} : ∀ (n : Nat) {S : List W4}, (∀ x ∈ S, x.ok) → ∀ x ∈ expW nk n S, x.ok
  | 0, S, h => h
  | n + 1, S, h => expW_ok n (snoc_ok h (nextW_ok h))
theorem expW_len {nk : Nat} : ∀ (n : Nat) (S : List W4), (expW nk n S).length = S.length + n
  | 0, S => rfl
  | n + 1, S => by rw [expW, expW_len n, List.length_append, List.length_singleton]; omega

theorem tmod_nat (i n : Nat) : Int.tmod (i : Int) (n : Int) = ((i % n : Nat) : Int) := by rw [Int.tmod_eq_emod_of_nonneg (by omega)]; rfl
theorem tdiv_nat (i n : Nat) : Int.tdiv (i : Int) (n : Int) = ((i / n : Nat) : Int) := by rw [Int.tdiv_eq_ediv_of_nonneg (by omega)]; rfl

theorem s3_ok {K : Nat} {w : World} {g : Nat} (b : Bk 130 w g tabsL) (rc : Rc w) {nk i : Nat} (hk : nk = 4 ∨ nk = 6 ∨ nk = 8) (h1 : nk ≤ i) (h2 : i < 4 * (nk + 7)) {t : W4} (ht : t.ok) :
    ∃ w', rijndael_New_s3 K (nk : Int) (some ⟨g, 0, none⟩) (i : Int) ((t.n : Nat) : Int) (Int.tmod (i : Int) (nk : Int)) w = some (((((stepW nk i t).n : Nat) : Int), ()), w') ∧ Upd none_ w w' := by
  have ud : Upd none_ w w.drew := (Upd.refl none_ w).drew
  rw [tmod_nat]
  unfold rijndael_New_s3 stepW
  by_cases c0 : i % nk = 0
  · have hq : 1 ≤ i / nk ∧ i / nk - 1 < 10 := by
      rcases hk with rfl | rfl | rfl <;> omega
    have e0 : IntKind.i64.wrap ((IntKind.i64.wrap (Int.tdiv (i : Int) (nk : Int))) - 1) = ((i / nk - 1 : Nat) : Int) := by
      have e00 : IntKind.i64.wrap ((i / nk : Nat) : Int) = ((i / nk : Nat) : Int) := w64 (by omega) (by omega)
      rw [tdiv_nat, e00, w64 (by omega) (by omega)]; omega
    have hr := W4.ok_rot ht
    obtain ⟨ha, hb, hc, hd⟩ := ht
    have e1 : bits .or .u32 (IntKind.u32.wrap (((t.n : Nat) : Int) * 2 ^ 8)) (Int.fdiv ((t.n : Nat) : Int) (2 ^ 24)) = ((t.rot.n : Nat) : Int) := pk_rot ha hb hc hd
    have hs := W4.ok_sub hr
    have hw := word_ok b.drew hr
    have hrc := rcT_lt (i / nk - 1)
    have e2 : IntKind.u32.wrap ((IntKind.u32.wrap ((rcT.getD (i / nk - 1) 0 : Nat) : Int)) * 2 ^ 24) = (((⟨rcT.getD (i / nk - 1) 0, 0, 0, 0⟩ : W4).n : Nat) : Int) := by
      have e3 : rcT.getD (i / nk - 1) 0 * 2 ^ 24 % 4294967296 = rcT.getD (i / nk - 1) 0 * 16777216 := Nat.mod_eq_of_lt (show rcT.getD (i / nk - 1) 0 * 16777216 < 4294967296 by omega)
      have e4 : (⟨rcT.getD (i / nk - 1) 0, 0, 0, 0⟩ : W4).n = rcT.getD (i / nk - 1) 0 * 16777216 := by show pk (rcT.getD (i / nk - 1) 0) 0 0 0 = _; unfold pk; omega
      rw [wr32' (by omega), sh32, e3, e4]
    have hnk : ((nk : Nat) : Int) ≠ 0 := by omega
    have hs4 : rijndael_New_s4 K (nk : Int) (some ⟨g, 0, none⟩) (i : Int) ((t.rot.n : Nat) : Int) w = some ((((((t.rot.sub).xor ⟨rcT.getD (i / nk - 1) 0, 0, 0, 0⟩).n : Nat) : Int), ()), w.drew.drew) := by
      unfold rijndael_New_s4
      rw [if_pos hnk, e0, if_pos (nat_in hq.2), Int.toNat_natCast, rc_ld (Rd.upd rc ud fun _ => id) hq.2, Option.bind_some, hw, bnd_ok, rc_ld (Rd.upd rc ud.drew fun _ => id) hq.2, Option.bind_some]
      unfold sameK
      rw [if_pos rfl, e2, W4.xor_n hs ⟨hrc, (show 0 < 256 by decide), (show 0 < 256 by decide), (show 0 < 256 by decide)⟩]
    refine ⟨w.drew.drew, ?_, ud.drew⟩
    rw [c0, if_pos (show (((0 : Nat) : Int) == 0) = true from rfl), e1, hs4, bnd_ok, if_pos rfl]
  · rw [if_neg (by simp; omega), if_neg c0]
    by_cases c4 : i % nk = 4
    · rw [if_pos (by rw [c4]; rfl)]
      by_cases c8 : nk = 8
      · rw [if_neg (by rw [c8]; decide), word_ok b ht, bnd_ok, if_pos ⟨c4, c8⟩]
        exact ⟨_, rfl, ud⟩
      · rw [if_pos (by simp; omega), if_neg (fun h => c8 h.2)]
        exact ⟨_, rfl, Upd.refl _ w⟩
    · rw [if_neg (by simp; omega), if_neg (fun h => c4 h.1)]
      exact ⟨_, rfl, Upd.refl _ w⟩

theorem l2_loop {K : Nat} {key : Sl} {t gw : Nat} {nk n : Nat} (hk : nk = 4 ∨ nk = 6 ∨ nk = 8) (hn : n = 4 * (nk + 7)) (hw0 : 0 < gw) (htw : t ≠ gw) :
    ∀ (d f : Nat) (w : World) (S : List W4), d + S.length = n → d < f → nk ≤ S.length → (∀ x ∈ S, x.ok) → Bk 50 w gw (wc S n) → Bk 130 w t tabsL → Rc w →
      ∃ w', rijndael_New_l2 K f key (nk : Int) (some ⟨t, 0, none⟩) ⟨some ⟨gw, 0, none⟩, n, n⟩ ((S.length : Nat) : Int) w = some ((), w') ∧ Bk 50 w' gw (wc (expW nk d S) n) ∧ Upd (· = gw) w w' := by
  intro d
  induction d with
  | zero =>
    intro f w S hd hf hk1 hS b bt rc
    obtain ⟨f, rfl⟩ : ∃ m, f = m + 1 := ⟨f - 1, by omega⟩
    refine ⟨w, ?_, b, Upd.refl _ w⟩
    have eu : rijndael_New_l2 K (f + 1) = rijndael_New_l2_b K (rijndael_New_l2 K f) := rfl
    rw [eu]
    unfold rijndael_New_l2_b
    rw [if_neg (fun e => by have := of_decide_eq_true e; have e2 : ((S.length : Nat) : Int) < ((n : Nat) : Int) := this; omega)]
  | succ d ih =>
    intro f w S hd hf hk1 hS b bt rc
    obtain ⟨f, rfl⟩ : ∃ m, f = m + 1 := ⟨f - 1, by omega⟩
    have hk0 : 0 < nk := by omega
    obtain ⟨w1, a1, u1⟩ := s3_ok (K := K) bt rc hk hk1 (by omega) (getD_ok hS (S.length - 1))
    have b1 := b.upd0 u1
    obtain ⟨w2, c1, c2, c3⟩ := b1.stC (i := S.length) (by rw [wc_len (by omega)]; omega) (.int .u32 (((nextW nk S).n : Nat) : Int))
    rw [wc_set (by omega)] at c2
    have u2 : Upd (· = gw) w w2 := (u1.mono (T := (· = gw)) fun _ _ e => e.elim).trans' c3 fun _ _ e => e
    obtain ⟨w3, g1, g2, g3⟩ := ih f w2 (S ++ [nextW nk S]) (by rw [List.length_append, List.length_singleton]; omega) (by omega) (by rw [List.length_append]; omega) (snoc_ok hS (nextW_ok hS)) c2 (bt.upd u2 htw) (Rd.upd rc u2 fun _ e => by have e : 0 = gw := e; omega)
    refine ⟨w3, ?_, g2, u2.trans' g3 fun _ _ e => e⟩
    have e1 : IntKind.i64.wrap (((S.length : Nat) : Int) - 1) = ((S.length - 1 : Nat) : Int) := by rw [w64 (by omega) (by omega)]; omega
    have e2 : IntKind.i64.wrap (((S.length : Nat) : Int) - (nk : Int)) = ((S.length - nk : Nat) : Int) := by rw [w64 (by omega) (by omega)]; omega
    have e3 : IntKind.i64.wrap (((S.length : Nat) : Int) + 1) = (((S ++ [nextW nk S]).length : Nat) : Int) := by rw [w64 (by omega) (by omega), List.length_append, List.length_singleton]; omega
    have f1 : ldI .u32 ((⟨gw, 0, none⟩ : Addr).add ((S.length - 1) * 1)) w = some (((S.getD (S.length - 1) z4).n : Nat) : Int) := by
      rw [add_lit, Nat.mul_one, Nat.zero_add]; exact b.ldI (wc_get (by omega) z4)
    have f2 : ldI .u32 ((⟨gw, 0, none⟩ : Addr).add ((S.length - nk) * 1)) w1 = some (((S.getD (S.length - nk) z4).n : Nat) : Int) := by
      rw [add_lit, Nat.mul_one, Nat.zero_add]; exact b1.ldI (wc_get (by omega) z4)
    have ex := W4.xor_n (getD_ok hS (S.length - nk)) (stepW_ok (nk := nk) (i := S.length) (getD_ok hS (S.length - 1)))
    have c1' : stC ((⟨gw, 0, none⟩ : Addr).add (S.length * 1)) (.int .u32 (((nextW nk S).n : Nat) : Int)) w1 = some w2 := by
      rw [add_lit, Nat.mul_one, Nat.zero_add]; exact c1
    have hnk : ((nk : Nat) : Int) ≠ 0 := by omega
    have eu : rijndael_New_l2 K (f + 1) = rijndael_New_l2_b K (rijndael_New_l2 K f) := rfl
    rw [eu]
    unfold rijndael_New_l2_b
    rw [if_pos (decide_eq_true (show ((S.length : Nat) : Int) < ((n : Nat) : Int) by omega)), Option.bind_some, e1, if_pos (nat_in (show S.length - 1 < n by omega)), Int.toNat_natCast, f1, Option.bind_some, if_pos hnk, a1, bnd_ok, Option.bind_some, e2, if_pos (nat_in (show S.length - nk < n by omega)), Int.toNat_natCast, f2, Option.bind_some, Option.bind_some, if_pos (nat_in (show S.length < n by omega)), Int.toNat_natCast]
    show (stC _ (.int .u32 (bits .xor .u32 _ _)) w1).bind _ = _
    rw [ex]
    show (stC ((⟨gw, 0, none⟩ : Addr).add (S.length * 1)) (.int .u32 (((nextW nk S).n : Nat) : Int)) w1).bind _ = _
    rw [c1', Option.bind_some, e3, g1]

end Go.Sh

/- Package rijndael: New. -/
set_option linter.unusedVariables false
set_option maxRecDepth 100000
namespace Go.Sh
open Go.Fw Go.Gf Go.RowKit Go.Proofs.Tryd

/-- a word of a key -/
def kb (ks : List Int) (i : Nat) : Nat := (ks.getD i 0).toNat
def kw (ks : List Int) (i : Nat) : W4 := ⟨kb ks (4 * i), kb ks (4 * i + 1), kb ks (4 * i + 2), kb ks (4 * i + 3)⟩
def keyS (ks : List Int) (nk : Nat) : List W4 := (List.range nk).map (kw ks)

theorem kb_lt {ks : List Int} (hk : ∀ z ∈ ks, InK .u8 z) (i : Nat) : kb ks i < 256 := by
  unfold kb
  rw [List.getD_eq_getElem?_getD]
  cases h : ks[i]? with
  | none => decide
  | some z => have := in8 (hk z (List.mem_of_getElem? h)); show z.toNat < 256; omega
theorem kw_ok {ks : List Int} (hk : ∀ z ∈ ks, InK .u8 z) (i : Nat) : (kw ks i).ok := ⟨kb_lt hk _, kb_lt hk _, kb_lt hk _, kb_lt hk _⟩
theorem keyS_ok {ks : List Int} (hk : ∀ z ∈ ks, InK .u8 z) (nk : Nat) : ∀ x ∈ keyS ks nk, x.ok := fun x hx => by
  obtain ⟨i, _, rfl⟩ := List.mem_map.1 hx
  exact kw_ok hk i
theorem keyS_len (ks : List Int) (nk : Nat) : (keyS ks nk).length = nk := by simp [keyS]
theorem keyS_succ (ks : List Int) (i : Nat) : keyS ks (i + 1) = keyS ks i ++ [kw ks i] := by simp [keyS, List.range_succ]

theorem take4 {ks : List Int} {i : Nat} (h : i + 4 ≤ ks.length) : (ks.drop i).take 4 = [ks.getD i 0, ks.getD (i + 1) 0, ks.getD (i + 2) 0, ks.getD (i + 3) 0] := by
  have g : ∀ j, j < ks.length → ks.drop j = ks.getD j 0 :: ks.drop (j + 1) := fun j hj => by
    rw [List.drop_eq_getElem_cons hj, List.getD_eq_getElem?_getD, List.getElem?_eq_getElem hj]; rfl
  rw [g i (by omega), g (i + 1) (by omega), g (i + 2) (by omega), g (i + 3) (by omega)]
  rfl
theorem num4 {ks : List Int} (hk : ∀ z ∈ ks, InK .u8 z) {i : Nat} (h : 4 * i + 4 ≤ ks.length) : numN ((ks.drop (4 * i)).take 4) = (kw ks i).n := by
  rw [take4 (i := 4 * i) h]
  have h0 := kb_lt hk (4 * i)
  have h1 := kb_lt hk (4 * i + 1)
  have h2 := kb_lt hk (4 * i + 2)
  have h3 := kb_lt hk (4 * i + 3)
  show (((0 * 256 + kb ks (4 * i)) * 256 + kb ks (4 * i + 1)) * 256 + kb ks (4 * i + 2)) * 256 + kb ks (4 * i + 3) = pk (kb ks (4 * i)) (kb ks (4 * i + 1)) (kb ks (4 * i + 2)) (kb ks (4 * i + 3))
  unfold pk; omega

theorem l1_loop {K : Nat} (hK : 300 ≤ K) {key : Sl} {ks : List Int} (hks : ∀ z ∈ ks, InK .u8 z) {t gw : Nat} {nk n : Nat} (hnk : nk ≤ 8) (hlen : ks.length = 4 * nk) (hn : nk ≤ n) :
    ∀ (d i f : Nat) (w : World), d + i = nk → d < f → RdS .u8 w key ks → (∀ p, key.a = some p → p.block ≠ gw) → Bk 50 w gw (wc (keyS ks i) n) →
      ∃ w', rijndael_New_l1 K f key (nk : Int) (some ⟨t, 0, none⟩) ⟨some ⟨gw, 0, none⟩, n, n⟩ (nk : Int) (i : Int) w = some ((), w') ∧ Bk 50 w' gw (wc (keyS ks nk) n) ∧ Upd (· = gw) w w' := by
  intro d
  induction d with
  | zero =>
    intro i f w hd hf r hb b
    obtain ⟨f, rfl⟩ : ∃ m, f = m + 1 := ⟨f - 1, by omega⟩
    obtain rfl : i = nk := by omega
    refine ⟨w, ?_, b, Upd.refl _ w⟩
    have eu : rijndael_New_l1 K (f + 1) = rijndael_New_l1_b K (rijndael_New_l1 K f) := rfl
    rw [eu]
    unfold rijndael_New_l1_b
    rw [if_neg (fun e => by have := of_decide_eq_true e; omega)]
  | succ d ih =>
    intro i f w hd hf r hb b
    obtain ⟨f, rfl⟩ : ∃ m, f = m + 1 := ⟨f - 1, by omega⟩
    have hl := r.len
    have hc := r.cap
    have r2 := RdS.sub r (lo := 4 * i) (hi := ks.length) (by omega) (Nat.le_refl _)
    rw [List.take_of_length_le (Nat.le_refl _)] at r2
    have hnum := number_ok hK r2 (fun z hz => hks z (List.mem_of_mem_drop hz)) (n := 4) (by rw [List.length_drop]; omega) (by decide)
    rw [num4 hks (by omega)] at hnum
    have hko := kw_ok hks i
    obtain ⟨w1, c1, c2, c3⟩ := b.stC (i := (keyS ks i).length) (by rw [wc_len (by rw [keyS_len]; omega), keyS_len]; omega) (.int .u32 (((kw ks i).n : Nat) : Int))
    rw [wc_set (by rw [keyS_len]; omega), ← keyS_succ] at c2
    rw [keyS_len] at c1
    obtain ⟨w2, g1, g2, g3⟩ := ih (i + 1) f w1 (by omega) (by omega) (r.upd c3 fun p hp e => hb p hp e) hb c2
    refine ⟨w2, ?_, g2, c3.trans' g3 fun _ _ e => e⟩
    have e4 : IntKind.i64.wrap (4 * (i : Int)) = ((4 * i : Nat) : Int) := by rw [w64 (by omega) (by omega)]; omega
    have e1 : IntKind.i64.wrap ((i : Int) + 1) = ((i + 1 : Nat) : Int) := by rw [w64 (by omega) (by omega)]; rfl
    have c1' : stC ((⟨gw, 0, none⟩ : Addr).add (i * 1)) (.int .u32 (((kw ks i).n : Nat) : Int)) w = some w1 := by
      rw [add_lit, Nat.mul_one, Nat.zero_add]; exact c1
    have eu : rijndael_New_l1 K (f + 1) = rijndael_New_l1_b K (rijndael_New_l1 K f) := rfl
    rw [eu]
    unfold rijndael_New_l1_b
    rw [if_pos (decide_eq_true (by omega)), e4, if_pos ⟨by omega, by rw [hl]; omega⟩, Int.toNat_natCast, hl]
    have hnum : rijndael_number K ⟨sla key.a (4 * i) key.cap 1, ks.length - 4 * i, key.cap - 4 * i⟩ 4 w = _ := hnum
    rw [hnum, Option.bind_some, Option.bind_some, if_pos (nat_in (show i < n by omega)), Int.toNat_natCast]
    show (stC _ (.int .u32 (IntKind.u32.wrap (((kw ks i).n : Nat) : Int))) w).bind _ = _
    rw [wr32' (W4.lt hko), c1', Option.bind_some, e1, g1]

/-! ### the other way's words -/
def imc (x : W4) : W4 := (((W4.rr 0 (mulW x.a decY)).xor (W4.rr 1 (mulW x.b decY))).xor (W4.rr 2 (mulW x.c decY))).xor (W4.rr 3 (mulW x.d decY))
theorem imc_ok {x : W4} (h : x.ok) : (imc x).ok := W4.ok_xor (W4.ok_xor (W4.ok_xor (W4.ok_rr (mulW_ok h.1 _) 0) (W4.ok_rr (mulW_ok h.2.1 _) 1)) (W4.ok_rr (mulW_ok h.2.2.1 _) 2)) (W4.ok_rr (mulW_ok h.2.2.2 _) 3)
def backV (S : List W4) (j : Nat) : W4 := if 0 < j / 4 * 4 ∧ j / 4 * 4 < S.length - 4 then imc (S.getD (S.length - 4 - j / 4 * 4 + j % 4) z4) else S.getD (S.length - 4 - j / 4 * 4 + j % 4) z4
def backS (S : List W4) : List W4 := (List.range S.length).map (backV S)
theorem backV_ok {S : List W4} (h : ∀ x ∈ S, x.ok) (j : Nat) : (backV S j).ok := by
  unfold backV; split
  · exact imc_ok (getD_ok h _)
  · exact getD_ok h _
theorem backS_len (S : List W4) : (backS S).length = S.length := by simp [backS]
def backP (S : List W4) (k : Nat) : List W4 := (List.range k).map (backV S)
theorem backP_len (S : List W4) (k : Nat) : (backP S k).length = k := by simp [backP]
theorem backP_succ (S : List W4) (k : Nat) : backP S (k + 1) = backP S k ++ [backV S k] := by simp [backP, List.range_succ]

theorem inv_s3 {K : Nat} {w : World} {g : Nat} (b : Bk 130 w g tabsL) {x : W4} (hx : x.ok) (m : Bool) : ∃ w', rijndael_tables_inverted_s3 K (some ⟨g, 0, none⟩) ((x.n : Nat) : Int) m w = some (((((if m = true then imc x else x).n : Nat) : Int), ()), w') ∧ Upd none_ w w' := by
  cases m with
  | false => exact ⟨w, rfl, Upd.refl _ w⟩
  | true =>
    obtain ⟨ha, hb, hc, hd⟩ := hx
    have e0 : Int.fdiv ((x.n : Nat) : Int) (2 ^ 24) = (x.a : Int) := pk_0 hb hc hd
    have e1 : bits .and .u32 (Int.fdiv ((x.n : Nat) : Int) (2 ^ 16)) 255 = (x.b : Int) := pk_1 ha hb hc hd
    have e2 : bits .and .u32 (Int.fdiv ((x.n : Nat) : Int) (2 ^ 8)) 255 = (x.c : Int) := pk_2 ha hb hc hd
    have e3 : bits .and .u32 ((x.n : Nat) : Int) 255 = (x.d : Int) := pk_3 ha hb hc hd
    have bd := b.drew
    have hu : ∀ {i : Nat}, i < 256 → ux (sx i) = i := fun h => (both _ h).1
    have d0 := tb_d bd (r := 0) (by decide) (sx_lt ha)
    have d1 := tb_d bd (r := 1) (by decide) (sx_lt hb)
    have d2 := tb_d bd (r := 2) (by decide) (sx_lt hc)
    have d3 := tb_d bd (r := 3) (by decide) (sx_lt hd)
    rw [hu ha] at d0
    rw [hu hb] at d1
    rw [hu hc] at d2
    rw [hu hd] at d3
    have k0 := W4.ok_rr (mulW_ok ha decY) 0
    have k1 := W4.ok_rr (mulW_ok hb decY) 1
    have k2 := W4.ok_rr (mulW_ok hc decY) 2
    have k3 := W4.ok_rr (mulW_ok hd decY) 3
    refine ⟨w.drew, ?_, (Upd.refl none_ w).drew⟩
    unfold rijndael_tables_inverted_s3
    rw [if_pos rfl, if_pos rfl, Option.bind_some, e0, if_pos (nat_in ha), Option.bind_some, Option.bind_some, e1, if_pos (nat_in hb), Option.bind_some, Option.bind_some, e2, if_pos (nat_in hc), Option.bind_some, Option.bind_some, e3, if_pos (nat_in hd), Option.bind_some, Int.toNat_natCast, Int.toNat_natCast, Int.toNat_natCast, Int.toNat_natCast,
      tb_s bd ha, Option.bind_some, if_pos (nat_in (sx_lt ha)), Int.toNat_natCast, d0, Option.bind_some, tb_s bd hb, Option.bind_some, if_pos (nat_in (sx_lt hb)), Int.toNat_natCast, d1, Option.bind_some, tb_s bd hc, Option.bind_some, if_pos (nat_in (sx_lt hc)), Int.toNat_natCast, d2, Option.bind_some, tb_s bd hd, Option.bind_some, if_pos (nat_in (sx_lt hd)), Int.toNat_natCast, d3, Option.bind_some,
      W4.xor_n k0 k1, W4.xor_n (W4.ok_xor k0 k1) k2, W4.xor_n (W4.ok_xor (W4.ok_xor k0 k1) k2) k3]
    rfl

theorem inv_s2 {K : Nat} {w : World} {n i : Nat} (hn : 4 ≤ n) (hn2 : n ≤ 1000) : rijndael_tables_inverted_s2 K (n : Int) (i : Int) w = some ((decide (0 < i ∧ i < n - 4), ()), w) := by
  unfold rijndael_tables_inverted_s2
  have e : IntKind.i64.wrap ((n : Int) - 4) = ((n - 4 : Nat) : Int) := by rw [w64 (by omega) (by omega)]; omega
  by_cases h : 0 < i
  · rw [if_pos (decide_eq_true (by omega)), e]
    congr 4; exact propext ⟨fun h2 => ⟨h, by omega⟩, fun h2 => by have := h2.2; omega⟩
  · rw [if_neg (fun h2 => h (by have := of_decide_eq_true h2; omega)), decide_eq_false (fun h2 => h h2.1)]

theorem inv_l1 {K : Nat} {S : List W4} (hS : ∀ x ∈ S, x.ok) {t gw gb n i : Nat} (hn : S.length = n) (hn4 : n % 4 = 0) (hn0 : 4 ≤ n) (hn1 : n ≤ 1000) (hi : i % 4 = 0) (hin : i < n) (hne : gw ≠ gb) (htb : t ≠ gb) :
    ∀ (d j f : Nat) (w : World), d + j = 4 → d < f → Bk 50 w gw (wc S n) → Bk 130 w t tabsL → Bk 50 w gb (wc (backP S (i + j)) n) →
      ∃ w', rijndael_tables_inverted_l1 K f (some ⟨t, 0, none⟩) ⟨some ⟨gw, 0, none⟩, n, n⟩ (n : Int) ⟨some ⟨gb, 0, none⟩, n, n⟩ (i : Int) (j : Int) w = some ((), w') ∧ Bk 50 w' gb (wc (backP S (i + 4)) n) ∧ Upd (· = gb) w w' := by
  intro d
  induction d with
  | zero =>
    intro j f w hd hf bw bt bb
    obtain ⟨f, rfl⟩ : ∃ m, f = m + 1 := ⟨f - 1, by omega⟩
    obtain rfl : j = 4 := by omega
    refine ⟨w, ?_, bb, Upd.refl _ w⟩
    have eu : rijndael_tables_inverted_l1 K (f + 1) = rijndael_tables_inverted_l1_b K (rijndael_tables_inverted_l1 K f) := rfl
    rw [eu]
    unfold rijndael_tables_inverted_l1_b
    rw [if_neg (by decide)]
  | succ d ih =>
    intro j f w hd hf bw bt bb
    obtain ⟨f, rfl⟩ : ∃ m, f = m + 1 := ⟨f - 1, by omega⟩
    have hx := getD_ok hS (n - 4 - i + j)
    obtain ⟨w1, a1, u1⟩ := inv_s3 (K := K) bt hx (decide (0 < i ∧ i < n - 4))
    have ev : (if decide (0 < i ∧ i < n - 4) = true then imc (S.getD (n - 4 - i + j) z4) else S.getD (n - 4 - i + j) z4) = backV S (i + j) := by
      unfold backV
      rw [show (i + j) / 4 * 4 = i by omega, show (i + j) % 4 = j by omega, hn]
      by_cases h : 0 < i ∧ i < n - 4
      · rw [if_pos (decide_eq_true h), if_pos h]
      · rw [if_neg (fun e => h (of_decide_eq_true e)), if_neg h]
    rw [ev] at a1
    obtain ⟨w2, c1, c2, c3⟩ := (bb.upd0 u1).stC (i := (backP S (i + j)).length) (by rw [wc_len (by rw [backP_len]; omega), backP_len]; omega) (.int .u32 (((backV S (i + j)).n : Nat) : Int))
    rw [wc_set (by rw [backP_len]; omega), ← backP_succ] at c2
    rw [backP_len] at c1
    have u2 : Upd (· = gb) w w2 := (u1.mono (T := (· = gb)) fun _ _ e => e.elim).trans' c3 fun _ _ e => e
    obtain ⟨w3, g1, g2, g3⟩ := ih (j + 1) f w2 (by omega) (by omega) (bw.upd u2 hne) (bt.upd u2 htb) c2
    refine ⟨w3, ?_, g2, u2.trans' g3 fun _ _ e => e⟩
    have ea : IntKind.i64.wrap ((n : Int) - 4) = ((n - 4 : Nat) : Int) := by rw [w64 (by omega) (by omega)]; omega
    have eb : IntKind.i64.wrap (((n - 4 : Nat) : Int) - (i : Int)) = ((n - 4 - i : Nat) : Int) := by rw [w64 (by omega) (by omega)]; omega
    have ec : IntKind.i64.wrap (((n - 4 - i : Nat) : Int) + (j : Int)) = ((n - 4 - i + j : Nat) : Int) := by rw [w64 (by omega) (by omega)]; omega
    have ed : IntKind.i64.wrap ((i : Int) + (j : Int)) = ((i + j : Nat) : Int) := by rw [w64 (by omega) (by omega)]; omega
    have ee : IntKind.i64.wrap ((j : Int) + 1) = ((j + 1 : Nat) : Int) := by rw [w64 (by omega) (by omega)]; rfl
    have f1 : ldI .u32 ((⟨gw, 0, none⟩ : Addr).add ((n - 4 - i + j) * 1)) w = some (((S.getD (n - 4 - i + j) z4).n : Nat) : Int) := by
      rw [add_lit, Nat.mul_one, Nat.zero_add]; exact bw.ldI (wc_get (by omega) z4)
    have c1' : stC ((⟨gb, 0, none⟩ : Addr).add ((i + j) * 1)) (.int .u32 (((backV S (i + j)).n : Nat) : Int)) w1 = some w2 := by
      rw [add_lit, Nat.mul_one, Nat.zero_add]; exact c1
    have eu : rijndael_tables_inverted_l1 K (f + 1) = rijndael_tables_inverted_l1_b K (rijndael_tables_inverted_l1 K f) := rfl
    rw [eu]
    unfold rijndael_tables_inverted_l1_b
    rw [if_pos (decide_eq_true (by omega)), Option.bind_some, ea, eb, ec, if_pos (nat_in (show n - 4 - i + j < n by omega)), Int.toNat_natCast, f1, Option.bind_some, inv_s2 hn0 hn1, bnd_ok, a1, bnd_ok, Option.bind_some, ed, if_pos (nat_in (show i + j < n by omega)), Int.toNat_natCast, c1', Option.bind_some, ee, g1]

theorem inv_l0 {K : Nat} (hK : 300 ≤ K) {S : List W4} (hS : ∀ x ∈ S, x.ok) {t gw gb n : Nat} (hn : S.length = n) (hn4 : n % 4 = 0) (hn0 : 4 ≤ n) (hn1 : n ≤ 1000) (hne : gw ≠ gb) (htb : t ≠ gb) :
    ∀ (d i f : Nat) (w : World), 4 * d + i = n → i % 4 = 0 → d < f → Bk 50 w gw (wc S n) → Bk 130 w t tabsL → Bk 50 w gb (wc (backP S i) n) →
      ∃ w', rijndael_tables_inverted_l0 K f (some ⟨t, 0, none⟩) ⟨some ⟨gw, 0, none⟩, n, n⟩ (n : Int) ⟨some ⟨gb, 0, none⟩, n, n⟩ (i : Int) w = some ((), w') ∧ Bk 50 w' gb (wc (backP S n) n) ∧ Upd (· = gb) w w' := by
  intro d
  induction d with
  | zero =>
    intro i f w hd hi4 hf bw bt bb
    obtain ⟨f, rfl⟩ : ∃ m, f = m + 1 := ⟨f - 1, by omega⟩
    obtain rfl : i = n := by omega
    refine ⟨w, ?_, bb, Upd.refl _ w⟩
    have eu : rijndael_tables_inverted_l0 K (f + 1) = rijndael_tables_inverted_l0_b K (rijndael_tables_inverted_l0 K f) := rfl
    rw [eu]
    unfold rijndael_tables_inverted_l0_b
    rw [if_neg (fun e => by have := of_decide_eq_true e; omega)]
  | succ d ih =>
    intro i f w hd hi4 hf bw bt bb
    obtain ⟨f, rfl⟩ : ∃ m, f = m + 1 := ⟨f - 1, by omega⟩
    obtain ⟨w1, a1, a2, a3⟩ := inv_l1 (K := K) hS hn hn4 hn0 hn1 hi4 (by omega) hne htb 4 0 K w rfl (by omega) bw bt bb
    have a1 : rijndael_tables_inverted_l1 K K (some ⟨t, 0, none⟩) ⟨some ⟨gw, 0, none⟩, n, n⟩ (n : Int) ⟨some ⟨gb, 0, none⟩, n, n⟩ (i : Int) 0 w = _ := a1
    obtain ⟨w2, g1, g2, g3⟩ := ih (i + 4) f w1 (by omega) (by omega) (by omega) (bw.upd a3 hne) (bt.upd a3 htb) a2
    refine ⟨w2, ?_, g2, a3.trans' g3 fun _ _ e => e⟩
    have ee : IntKind.i64.wrap ((i : Int) + 4) = ((i + 4 : Nat) : Int) := by rw [w64 (by omega) (by omega)]; rfl
    have eu : rijndael_tables_inverted_l0 K (f + 1) = rijndael_tables_inverted_l0_b K (rijndael_tables_inverted_l0 K f) := rfl
    rw [eu]
    unfold rijndael_tables_inverted_l0_b
    rw [if_pos (decide_eq_true (by omega)), a1, bnd_ok, ee, g1]

end Go.Sh

/- Package rijndael: New and what is asked of a key. -/
set_option linter.unusedVariables false
set_option maxRecDepth 100000
namespace Go.Sh
open Go.Fw Go.Gf Go.RowKit Go.Proofs.Tryd

theorem wc_all {S : List W4} {n : Nat} (h : S.length = n) : wc S n = S.map fun x => Value.int .u32 ((x.n : Nat) : Int) := by
  unfold wc; rw [h, Nat.sub_self]; simp
theorem wc_nil (n : Nat) : wc [] n = List.replicate n (.int .u32 0) := by simp [wc]

theorem inverted_ok {K : Nat} (hK : 300 ≤ K) {S : List W4} (hS : ∀ x ∈ S, x.ok) {t gw n : Nat} (hn : S.length = n) (hn4 : n % 4 = 0) (hn0 : 4 ≤ n) (hn1 : n ≤ 1000) {w : World} (bw : Bk 50 w gw (wc S n)) (bt : Bk 130 w t tabsL) :
    ∃ w', rijndael_tables_inverted K (some ⟨t, 0, none⟩) ⟨some ⟨gw, 0, none⟩, n, n⟩ w = some ((⟨some ⟨w.heap.size, 0, none⟩, n, n⟩, ()), w') ∧ Bk 50 w' w.heap.size (wc (backS S) n) ∧ Upd none_ w w' ∧ w.heap.size < w'.heap.size := by
  obtain ⟨w1, a1, b1, u1, z1⟩ := mkW_full w hn1 (by omega)
  rw [← wc_nil] at b1
  have hw := bw.lt
  have ht := bt.lt
  obtain ⟨w2, c1, c2, c3⟩ := inv_l0 hK hS hn hn4 hn0 hn1 (t := t) (gw := gw) (gb := w.heap.size) (by omega) (by omega) (n / 4) 0 K w1 (by omega) rfl (by omega) (bw.upd0 u1) (bt.upd0 u1) b1
  have c1 : rijndael_tables_inverted_l0 K K (some ⟨t, 0, none⟩) ⟨some ⟨gw, 0, none⟩, n, n⟩ (n : Int) ⟨some ⟨w.heap.size, 0, none⟩, n, n⟩ 0 w1 = _ := c1
  have hb : backP S n = backS S := by unfold backP backS; rw [hn]
  rw [hb] at c2
  refine ⟨w2, ?_, c2, u1.trans' c3 fun k hk e => by omega, by have := c3.size; omega⟩
  unfold rijndael_tables_inverted
  rw [a1, bnd_ok, c1, bnd_ok]

def keyC (kl t gw gb n : Nat) : List Value := [.int .i32 0, .int .u32 0, .int .u32 0, .int .u32 0, .int .i32 0, .int .i32 0, .int .i64 (kl : Int), .pointer (some ⟨t, 0, none⟩), .slice (some ⟨gw, 0, none⟩) n n, .slice (some ⟨gb, 0, none⟩) n n]

theorem built92 (kl : Int) (t : Option Addr) (a b : Sl) : prog.built 92 [(1, (.int .i64 kl)), (2, (.pointer t)), (3, (.slice a.a a.len a.cap)), (4, (.slice b.a b.len b.cap))] = some #[.int .i32 0, .int .u32 0, .int .u32 0, .int .u32 0, .int .i32 0, .int .i32 0, .int .i64 kl, .pointer t, .slice a.a a.len a.cap, .slice b.a b.len b.cap] := by kernel_rfl

structure KeyAt (w : World) (g t gw gb kl : Nat) (S : List W4) : Prop where
  b : Bk 92 w g (keyC kl t gw gb S.length)
  bt : Bk 130 w t tabsL
  bw : Bk 50 w gw (wc S S.length)
  bb : Bk 50 w gb (wc (backS S) S.length)
  ok : ∀ x ∈ S, x.ok
  len : S.length = kl + 28
  kl : kl = 16 ∨ kl = 24 ∨ kl = 32

theorem KeyAt.upd {w w' : World} {g t gw gb kl : Nat} {S : List W4} {X : Nat → Prop} (k : KeyAt w g t gw gb kl S) (u : Upd X w w') (h1 : ¬ X g) (h2 : ¬ X t) (h3 : ¬ X gw) (h4 : ¬ X gb) : KeyAt w' g t gw gb kl S :=
  ⟨k.b.upd u h1, k.bt.upd u h2, k.bw.upd u h3, k.bb.upd u h4, k.ok, k.len, k.kl⟩
theorem KeyAt.upd0 {w w' : World} {g t gw gb kl : Nat} {S : List W4} (k : KeyAt w g t gw gb kl S) (u : Upd none_ w w') : KeyAt w' g t gw gb kl S := k.upd u id id id id

/-- the words of a key's schedule -/
def schedS (ks : List Int) : List W4 := expW (ks.length / 4) (ks.length + 28 - ks.length / 4) (keyS ks (ks.length / 4))
theorem schedS_len {ks : List Int} (h : ks.length = 16 ∨ ks.length = 24 ∨ ks.length = 32) : (schedS ks).length = ks.length + 28 := by
  unfold schedS; rw [expW_len, keyS_len]; omega
theorem schedS_ok {ks : List Int} (hk : ∀ z ∈ ks, InK .u8 z) : ∀ x ∈ schedS ks, x.ok := expW_ok _ (keyS_ok hk _)

theorem New_err {K : Nat} {key : Sl} {n : Nat} (hl : key.len = n) (h : ¬ (n = 16 ∨ n = 24 ∨ n = 32)) (w : World) : rijndael_New K key w = some ((none, 20, ()), w) := by
  have e : rijndael_New_s0 K ((key.len : Nat) : Int) w = some (.ret (none, 20, ()), w) := by
    unfold rijndael_New_s0
    rw [hl, if_neg (by simp; omega), if_neg (by simp; omega), if_neg (by simp; omega)]
  unfold rijndael_New
  rw [e, bnd_ok]

theorem New_ok {K : Nat} (hK : 300 ≤ K) {key : Sl} {ks : List Int} {w : World} (rc : Rc w) (hks : ∀ z ∈ ks, InK .u8 z) (r : RdS .u8 w key ks) (hb : ∀ p, key.a = some p → p.block < w.heap.size) (hl : ks.length = 16 ∨ ks.length = 24 ∨ ks.length = 32) :
    ∃ g t gw gb w', rijndael_New K key w = some ((some ⟨g, 0, none⟩, 0, ()), w') ∧ KeyAt w' g t gw gb ks.length (schedS ks) ∧ w.heap.size ≤ g ∧ w.heap.size ≤ t ∧ w.heap.size ≤ gw ∧ w.heap.size ≤ gb ∧ Upd none_ w w' := by
  have h0 : 0 < w.heap.size := Rd.lt rc (by decide)
  have hlen := r.len
  obtain ⟨t, w1, a1, ht, bt1, u1⟩ := made_ok hK w
  obtain ⟨nk, hnk⟩ : ∃ nk, nk = ks.length / 4 := ⟨_, rfl⟩
  obtain ⟨n, hn⟩ : ∃ n, n = ks.length + 28 := ⟨_, rfl⟩
  have hk3 : nk = 4 ∨ nk = 6 ∨ nk = 8 := by omega
  have hn4 : n = 4 * (nk + 7) := by omega
  have hks4 : ks.length = 4 * nk := by omega
  have hz1 := u1.size
  obtain ⟨w2, a2, b2, u2, z2⟩ := mkW_full w1 (n := n) (by omega) (by omega)
  rw [← wc_nil] at b2
  have q2 := u1.and0 u2
  have htl := bt1.lt
  obtain ⟨w3, a3, b3, u3⟩ := l1_loop hK (t := t) (gw := w1.heap.size) (n := n) hks (by omega) hks4 (by omega) nk 0 K w2 rfl (by omega) (r.upd0 q2) (fun p hp e => by have := hb p hp; omega) b2
  have a3 : rijndael_New_l1 K K key (nk : Int) (some ⟨t, 0, none⟩) ⟨some ⟨w1.heap.size, 0, none⟩, n, n⟩ (nk : Int) 0 w2 = _ := a3
  have q3 : Upd none_ w w3 := q2.trans' u3 fun k hk e => by omega
  have bt3 := (bt1.upd0 u2).upd u3 (by omega)
  obtain ⟨w4, a4, b4, u4⟩ := l2_loop (K := K) (key := key) (t := t) (gw := w1.heap.size) hk3 hn4 (by omega) (by omega) (n - nk) K w3 (keyS ks nk) (by rw [keyS_len]; omega) (by omega) (by rw [keyS_len]; exact Nat.le_refl _) (keyS_ok hks nk) b3 bt3 (Rd.upd rc q3 fun _ => id)
  rw [keyS_len] at a4
  have q4 : Upd none_ w w4 := q3.trans' u4 fun k hk e => by omega
  have bt4 := bt3.upd u4 (by omega)
  have hS : expW nk (n - nk) (keyS ks nk) = schedS ks := by unfold schedS; rw [← hnk, ← hn]
  rw [hS] at b4
  have hsl : (schedS ks).length = n := by rw [schedS_len hl, hn]
  have hso := schedS_ok hks
  obtain ⟨w5, a5, b5, u5, z5⟩ := inverted_ok hK hso hsl (by omega) (by omega) (by omega) b4 bt4
  have q5 := q4.and0 u5
  obtain ⟨w6, n6, b6, u6, z6⟩ := newB_ok #[.int .i32 0, .int .u32 0, .int .u32 0, .int .u32 0, .int .i32 0, .int .i32 0, .int .i64 ((ks.length : Nat) : Int), .pointer (some ⟨t, 0, none⟩), .slice (some ⟨w1.heap.size, 0, none⟩) n n, .slice (some ⟨w4.heap.size, 0, none⟩) n n] 92 w5
  have hz4 := q4.size
  have hz5 := q5.size
  refine ⟨w5.heap.size, t, w1.heap.size, w4.heap.size, w6, ?_, ⟨by rw [hsl]; exact b6, (bt4.upd0 u5).upd0 u6, by rw [hsl]; exact (b4.upd0 u5).upd0 u6, by rw [hsl]; exact b5.upd0 u6, hso, schedS_len hl, hl⟩, hz5, ht, hz1, hz4, q5.and0 u6⟩
  have es0 : rijndael_New_s0 K ((key.len : Nat) : Int) w = some (.norm (), w) := by
    unfold rijndael_New_s0
    rw [hlen]
    rcases hl with h | h | h <;> rw [h] <;> rfl
  have e1 : IntKind.i64.wrap (Int.tdiv ((key.len : Nat) : Int) 4) = (nk : Int) := by
    have := tdiv_nat key.len 4
    have e : Int.tdiv ((key.len : Nat) : Int) 4 = ((key.len / 4 : Nat) : Int) := this
    rw [e, w64 (by omega) (by omega), hlen, ← hnk]
  have e2 : IntKind.i64.wrap ((nk : Int) + 7) = ((nk + 7 : Nat) : Int) := by rw [w64 (by omega) (by omega)]; omega
  have e3 : IntKind.i64.wrap (4 * ((nk + 7 : Nat) : Int)) = (n : Int) := by rw [w64 (by omega) (by omega)]; omega
  unfold rijndael_New
  rw [es0, bnd_ok]
  dsimp only
  rw [a1, bnd_ok, e1, e2, e3, a2, bnd_ok, a3, bnd_ok, a4, bnd_ok, a5, bnd_ok]
  dsimp only
  have hb92 := built92 ((key.len : Nat) : Int) (some ⟨t, 0, none⟩) ⟨some ⟨w1.heap.size, 0, none⟩, n, n⟩ ⟨some ⟨w4.heap.size, 0, none⟩, n, n⟩
  dsimp only at hb92
  rw [hb92, Option.bind_some, hlen, n6, bnd_ok]

theorem sched_ok {w : World} {g t gw gb kl : Nat} {S : List W4} (k : KeyAt w g t gw gb kl S) (back : Bool) :
    rijndael_Key_schedule (some ⟨g, 0, none⟩) back w = some ((⟨some ⟨(if back = true then gb else gw), 0, none⟩, S.length, S.length⟩, 0, ()), w) := by
  have c0 : w.cell? ⟨g, 0, none⟩ = some (.int .i32 0) := (k.b.cell 0).trans rfl
  have c2 : w.cell? ⟨g, 0 + 2, none⟩ = some (.int .u32 0) := (k.b.cell 2).trans rfl
  have c3 : w.cell? ⟨g, 0 + 3, none⟩ = some (.int .u32 0) := (k.b.cell 3).trans rfl
  have c4 : w.cell? ⟨g, 0 + 4, none⟩ = some (.int .i32 0) := (k.b.cell 4).trans rfl
  have l8 : ldS ⟨g, 0 + 8, none⟩ w = some ⟨some ⟨gw, 0, none⟩, S.length, S.length⟩ := k.b.ldS (i := 8) rfl
  have l9 : ldS ⟨g, 0 + 9, none⟩ w = some ⟨some ⟨gb, 0, none⟩, S.length, S.length⟩ := k.b.ldS (i := 9) rfl
  unfold rijndael_Key_schedule
  dsimp only
  rw [if_pos ⟨rfl, by rw [c0]; rfl, by rw [add_lit, c2]; rfl, by rw [add_lit, c3]; rfl, by rw [add_lit, c4], by rw [add_lit]; exact k.b.frozen 4⟩, add_lit, l8, Option.bind_some, if_neg (show ¬ (some (⟨gw, 0, none⟩ : Addr)).isNone = true from Bool.noConfusion)]
  cases back with
  | false => rw [if_neg (by decide)]; rfl
  | true => rw [if_pos rfl, add_lit, l9, Option.bind_some]; rfl

theorem sched_nil (back : Bool) (w : World) : rijndael_Key_schedule none back w = some ((⟨none, 0, 0⟩, 1, ()), w) := rfl

theorem Size_ok2 {w : World} {g t gw gb kl : Nat} {S : List W4} (k : KeyAt w g t gw gb kl S) : rijndael_Key_Size (some ⟨g, 0, none⟩) w = some (((kl : Int), ()), w) := by
  have l6 : ldI .i64 ((⟨g, 0, none⟩ : Addr).add 6) w = some (kl : Int) := by rw [add_lit]; exact k.b.ldI (i := 0 + 6) rfl
  unfold rijndael_Key_Size
  rw [sched_ok k, bnd_ok, if_neg (show ¬ ((0 : Int) != 0) = true by decide), Option.bind_some, l6, Option.bind_some]
theorem Size_nil (w : World) : rijndael_Key_Size none w = some ((0, ()), w) := by
  unfold rijndael_Key_Size
  rw [sched_nil, bnd_ok, if_pos (show ((1 : Int) != 0) = true by decide)]

theorem Rounds_ok2 {w : World} {g t gw gb kl : Nat} {S : List W4} (k : KeyAt w g t gw gb kl S) : rijndael_Key_Rounds (some ⟨g, 0, none⟩) w = some ((((kl / 4 + 6 : Nat) : Int), ()), w) := by
  have hl := k.len
  have hk := k.kl
  unfold rijndael_Key_Rounds
  rw [sched_ok k, bnd_ok]
  dsimp only
  have e1 : IntKind.i64.wrap (Int.tdiv ((S.length : Nat) : Int) 4) = ((S.length / 4 : Nat) : Int) := by
    have e : Int.tdiv ((S.length : Nat) : Int) 4 = ((S.length / 4 : Nat) : Int) := tdiv_nat S.length 4
    rw [e, w64 (by omega) (by omega)]
  have e2 : IntKind.i64.wrap (((S.length / 4 : Nat) : Int) - 1) = ((kl / 4 + 6 : Nat) : Int) := by rw [w64 (by omega) (by omega)]; omega
  rw [e1, e2, if_pos (by omega)]
theorem Rounds_nil (w : World) : rijndael_Key_Rounds none w = some ((0, ()), w) := by
  unfold rijndael_Key_Rounds
  rw [sched_nil, bnd_ok]
  rfl

theorem words_one (S : List W4) : ∀ v ∈ wc S S.length, v.oneCell' = true := fun v hv => by
  rw [wc_all rfl] at hv
  obtain ⟨x, _, rfl⟩ := List.mem_map.1 hv
  rfl

/-- the words as numbers -/
def wN (S : List W4) : List Int := S.map fun x => ((x.n : Nat) : Int)
theorem wN_ints (S : List W4) : ints .u32 (wN S) = wc S S.length := by rw [wc_all rfl]; simp [wN, ints]

theorem Words_ok2 {w : World} {g t gw gb kl : Nat} {S : List W4} (k : KeyAt w g t gw gb kl S) :
    ∃ s w', rijndael_Key_Words (some ⟨g, 0, none⟩) w = some ((s, ()), w') ∧ Own 50 w' s (ints .u32 (wN S)) ∧ Upd none_ w w' ∧ ∀ x, s.blk = some x → w.heap.size ≤ x := by
  have hl := k.len
  have hk := k.kl
  have hsrc : Src w ⟨some ⟨gw, 0, none⟩, S.length, S.length⟩ (ints .u32 (wN S)) := by
    rw [wN_ints]
    exact ⟨by rw [wc_len (Nat.le_refl _)], Nat.le_refl _, .inr ⟨_, rfl, k.bw.rd 0 _ fun i v hv => by rw [Nat.zero_add]; exact hv⟩, words_one S⟩
  obtain ⟨s, w', a1, a2, a3, a4, a5⟩ := apd_ok sliceW (Own.nil 50 w) hsrc (by show (0 + S.length) * 4 ≤ _; omega)
  rw [List.nil_append] at a3
  refine ⟨s, w', ?_, a3, a4.mono fun x _ e => (by cases e), fun x hx => ?_⟩
  · unfold rijndael_Key_Words
    rw [sched_ok k, bnd_ok]
    show bnd (apd prog 34 34 (.slice none 0 0) (.slice (some ⟨gw, 0, none⟩) S.length S.length) w) _ = _
    rw [a1, bnd_ok]
  · rcases a5 with e | e
    · rw [e] at hx; cases hx
    · rw [e] at hx; exact Nat.le_of_eq (Option.some.inj hx)
theorem Words_nil (w : World) : ∃ s w', rijndael_Key_Words none w = some ((s, ()), w') ∧ s.len = 0 ∧ Upd none_ w w' := by
  have hsrc : Src w ⟨none, 0, 0⟩ [] := ⟨rfl, Nat.le_refl _, .inl ⟨rfl, rfl, rfl⟩, fun v hv => by cases hv⟩
  obtain ⟨s, w', a1, a2, a3, a4, a5⟩ := apd_ok sliceW (Own.nil 50 w) hsrc (by show (0 + 0) * 4 ≤ _; omega)
  refine ⟨s, w', ?_, a2, a4.mono fun x _ e => (by cases e)⟩
  unfold rijndael_Key_Words
  rw [sched_nil, bnd_ok, a1, bnd_ok]

end Go.Sh

/- The document's substitution tables. -/
set_option linter.unusedVariables false
set_option maxRecDepth 100000
namespace Go.Sh
open Go.Fw Go.Gf Go.RowKit Go.Proofs.Tryd

def bitN (y i : Nat) : Nat := (y / 2 ^ i ^^^ y / 2 ^ ((i + 4) % 8) ^^^ y / 2 ^ ((i + 5) % 8) ^^^ y / 2 ^ ((i + 6) % 8) ^^^ y / 2 ^ ((i + 7) % 8) ^^^ 99 / 2 ^ i) % 2
def bitsN (y : Nat) : Nat → Nat → Nat → Nat
  | 0, _, s => s
  | d + 1, i, s => bitsN y d (i + 1) (s + bitN y i * 2 ^ i)
theorem bitsN_eq : ∀ y, y < 256 → bitsN y 8 0 0 = sb y := by decide +kernel

theorem bits_loop (K : Nat) {y : Nat} (hy : y < 256) : ∀ (d i n s : Nat), d + i = 8 → d < n → s < 2 ^ i → ref02_bits_l0 K n (y : Int) (s : Int) (i : Int) = some (.norm (((bitsN y d i s : Nat) : Int), ())) := by
  intro d
  induction d with
  | zero =>
    intro i n s hi hn hs
    obtain ⟨n, rfl⟩ : ∃ m, n = m + 1 := ⟨n - 1, by omega⟩
    obtain rfl : i = 8 := by omega
    have eu : ref02_bits_l0 K (n + 1) = ref02_bits_l0_b K (ref02_bits_l0 K n) := rfl
    rw [eu]
    unfold ref02_bits_l0_b
    rw [if_neg (by decide)]
    rfl
  | succ d ih =>
    intro i n s hi hn hs
    obtain ⟨n, rfl⟩ : ∃ m, n = m + 1 := ⟨n - 1, by omega⟩
    have hi8 : i < 8 := by omega
    have ed : decide ((i : Int) < 8) = true := decide_eq_true (by omega)
    have i1 : d + (i + 1) = 8 := by omega
    have i2 : d < n := by omega
    have p0 := eq_true (shp (i := i) (by omega))
    have p4 := eq_true (shp (i := (i + 4) % 8) (by omega))
    have p5 := eq_true (shp (i := (i + 5) % 8) (by omega))
    have p6 := eq_true (shp (i := (i + 6) % 8) (by omega))
    have p7 := eq_true (shp (i := (i + 7) % 8) (by omega))
    have k0 := shk (i := i) (by omega)
    have k4 := shk (i := (i + 4) % 8) (by omega)
    have k5 := shk (i := (i + 5) % 8) (by omega)
    have k6 := shk (i := (i + 6) % 8) (by omega)
    have k7 := shk (i := (i + 7) % 8) (by omega)
    have q0 := fdiv_pow y i
    have q4 := fdiv_pow y ((i + 4) % 8)
    have q5 := fdiv_pow y ((i + 5) % 8)
    have q6 := fdiv_pow y ((i + 6) % 8)
    have q7 := fdiv_pow y ((i + 7) % 8)
    have em : ∀ k : Nat, k < 100 → Int.tmod (IntKind.i64.wrap ((i : Int) + (k : Int))) 8 = (((i + k) % 8 : Nat) : Int) := fun k hk => by
      have e : IntKind.i64.wrap ((i : Int) + (k : Int)) = ((i + k : Nat) : Int) := by rw [w64 (by omega) (by omega)]; omega
      rw [e]; exact tmod_nat (i + k) 8
    have e4 := em 4 (by decide)
    have e5 := em 5 (by decide)
    have e6 := em 6 (by decide)
    have e7 := em 7 (by decide)
    have hd : ∀ v k : Nat, v < 256 → v / 2 ^ k < 256 := fun v k h => Nat.lt_of_le_of_lt (Nat.div_le_self _ _) h
    have hx : ∀ {a b : Nat}, a < 256 → b < 256 → bits .xor .i64 (a : Int) (b : Int) = ((a ^^^ b : Nat) : Int) := fun ha hb => xor64 (by omega) (by omega)
    have x1 := xor8_lt (hd y i hy) (hd y ((i + 4) % 8) hy)
    have x2 := xor8_lt x1 (hd y ((i + 5) % 8) hy)
    have x3 := xor8_lt x2 (hd y ((i + 6) % 8) hy)
    have x4 := xor8_lt x3 (hd y ((i + 7) % 8) hy)
    have hb : bitN y i < 2 := Nat.mod_lt _ (by decide)
    have hp : 2 ^ i ≤ 128 := Nat.le_trans (Nat.pow_le_pow_right (by decide) (show i ≤ 7 by omega)) (by decide)
    have hm : bitN y i * 2 ^ i ≤ 2 ^ i := by
      have h := Nat.mul_le_mul_right (2 ^ i) (show bitN y i ≤ 1 by omega)
      omega
    have et : Int.tmod (((y / 2 ^ i ^^^ y / 2 ^ ((i + 4) % 8) ^^^ y / 2 ^ ((i + 5) % 8) ^^^ y / 2 ^ ((i + 6) % 8) ^^^ y / 2 ^ ((i + 7) % 8) ^^^ 99 / 2 ^ i : Nat)) : Int) 2 = ((bitN y i : Nat) : Int) := tmod_nat _ 2
    have e99 : Int.fdiv 99 (2 ^ i) = ((99 / 2 ^ i : Nat) : Int) := fdiv_pow 99 i
    have esh := shl64 (a := bitN y i) (i := i) (by omega)
    have esl : s + bitN y i * 2 ^ i < 2 ^ (i + 1) := by rw [Nat.pow_succ]; omega
    have es : IntKind.i64.wrap ((s : Int) + ((bitN y i * 2 ^ i : Nat) : Int)) = ((s + bitN y i * 2 ^ i : Nat) : Int) := by rw [w64 (by omega) (by omega)]; omega
    have e1 : IntKind.i64.wrap ((i : Int) + 1) = ((i + 1 : Nat) : Int) := by rw [w64 (by omega) (by omega)]; rfl
    have e4 : Int.tmod (IntKind.i64.wrap ((i : Int) + 4)) 8 = (((i + 4) % 8 : Nat) : Int) := e4
    have e5 : Int.tmod (IntKind.i64.wrap ((i : Int) + 5)) 8 = (((i + 5) % 8 : Nat) : Int) := e5
    have e6 : Int.tmod (IntKind.i64.wrap ((i : Int) + 6)) 8 = (((i + 6) % 8 : Nat) : Int) := e6
    have e7 : Int.tmod (IntKind.i64.wrap ((i : Int) + 7)) 8 = (((i + 7) % 8 : Nat) : Int) := e7
    have c1 := hx (hd y i hy) (hd y ((i + 4) % 8) hy)
    have c2 := (congrArg (fun z => bits .xor .i64 z ((y / 2 ^ ((i + 5) % 8) : Nat) : Int)) c1).trans (hx x1 (hd y ((i + 5) % 8) hy))
    have c3 := (congrArg (fun z => bits .xor .i64 z ((y / 2 ^ ((i + 6) % 8) : Nat) : Int)) c2).trans (hx x2 (hd y ((i + 6) % 8) hy))
    have c4 := (congrArg (fun z => bits .xor .i64 z ((y / 2 ^ ((i + 7) % 8) : Nat) : Int)) c3).trans (hx x3 (hd y ((i + 7) % 8) hy))
    have c5 := (congrArg (fun z => bits .xor .i64 z ((99 / 2 ^ i : Nat) : Int)) c4).trans (hx x4 (hd 99 i (by decide)))
    have eu : ref02_bits_l0 K (n + 1) = ref02_bits_l0_b K (ref02_bits_l0 K n) := rfl
    rw [eu]
    unfold ref02_bits_l0_b
    rw [if_pos ed]
    simp only [e4, e5, e6, e7, p0, p4, p5, p6, p7, k0, k4, k5, k6, k7, e99, q0, q4, q5, q6, q7, if_true, c5, et, esh, es, e1]
    exact ih (i + 1) n _ i1 i2 esl

theorem bits_gen {K : Nat} (hK : 300 ≤ K) {y : Nat} (hy : y < 256) : ref02_bits K (y : Int) = some (((sb y : Nat) : Int), ()) := by
  have h := bits_loop K hy 8 0 K 0 rfl (by omega) (by decide)
  have h : ref02_bits_l0 K K (y : Int) 0 0 = _ := h
  unfold ref02_bits
  rw [h, Option.bind_some]
  dsimp only
  rw [bitsN_eq y hy]
  have := sb_lt hy
  rw [w8 (by omega) (by omega)]

def boxRun : Nat → Nat → Nat → List Nat → List Nat
  | 0, _, _, t => t
  | n + 1, b, y, t => boxRun n (mul b 3) (mul y 246) (t.set b (sb y))
theorem boxRun_eq : (boxRun 255 1 1 (List.replicate 256 0)).set 0 (sb 0) = sbT := by decide +kernel
theorem boxRun_len : ∀ (n b y : Nat) (t : List Nat), (boxRun n b y t).length = t.length
  | 0, _, _, t => rfl
  | n + 1, b, y, t => by rw [boxRun, boxRun_len n, List.length_set]

theorem box0_loop {K : Nat} (hK : 300 ≤ K) {a0 a1 u : Addr} {g : Nat} : ∀ (d i n b y : Nat) (t : List Nat) (w : World), d + i = 255 → d < n → b < 256 → y < 256 → t.length = 256 → Bk 93 w g (row t) →
    ∃ w', ref02_Boxes_l0 K n a0 a1 ⟨g, 0, none⟩ u (b : Int) (y : Int) (i : Int) w = some ((), w') ∧ Bk 93 w' g (row (boxRun d b y t)) ∧ Upd (· = g) w w' := by
  intro d
  induction d with
  | zero =>
    intro i n b y t w hi hn hb hy ht bk
    obtain ⟨n, rfl⟩ : ∃ m, n = m + 1 := ⟨n - 1, by omega⟩
    obtain rfl : i = 255 := by omega
    refine ⟨w, ?_, bk, Upd.refl _ w⟩
    have eu : ref02_Boxes_l0 K (n + 1) = ref02_Boxes_l0_b K (ref02_Boxes_l0 K n) := rfl
    rw [eu]
    unfold ref02_Boxes_l0_b
    rw [if_neg (by decide)]
  | succ d ih =>
    intro i n b y t w hi hn hb hy ht bk
    obtain ⟨n, rfl⟩ : ∃ m, n = m + 1 := ⟨n - 1, by omega⟩
    obtain ⟨w1, s1, s2, s3⟩ := bk.stC (i := b) (by rw [row_len, ht]; exact hb) (.int .u8 ((sb y : Nat) : Int))
    rw [row_set] at s2
    have s1' : stC ((⟨g, 0, none⟩ : Addr).add (b * 1)) (.int .u8 ((sb y : Nat) : Int)) w = some w1 := by rw [add_lit, Nat.mul_one, Nat.zero_add]; exact s1
    obtain ⟨w2, h1, h2, h3⟩ := ih (i + 1) n (mul b 3) (mul y 246) _ w1 (by omega) (by omega) (mul_lt hb) (mul_lt hy) (by rw [List.length_set]; exact ht) s2
    refine ⟨w2, ?_, h2, s3.trans' h3 fun _ _ e => e⟩
    have e1 : IntKind.i64.wrap ((i : Int) + 1) = ((i + 1 : Nat) : Int) := by rw [w64 (by omega) (by omega)]; rfl
    have ey : IntKind.i64.wrap (y : Int) = (y : Int) := w64 (by omega) (by omega)
    have t1 : ref02_Times K (b : Int) 3 = some (((mul b 3 : Nat) : Int), ()) := refTimes_ok hK hb (b := 3) (by decide)
    have t2 : ref02_Times K (y : Int) 246 = some (((mul y 246 : Nat) : Int), ()) := refTimes_ok hK hy (b := 246) (by decide)
    have eu : ref02_Boxes_l0 K (n + 1) = ref02_Boxes_l0_b K (ref02_Boxes_l0 K n) := rfl
    rw [eu]
    unfold ref02_Boxes_l0_b
    rw [if_pos (decide_eq_true (by omega)), ey, bits_gen hK hy, Option.bind_some, if_pos (nat_in hb), Int.toNat_natCast, s1', Option.bind_some, t1, Option.bind_some, t2, Option.bind_some, e1, h1]

theorem box1_loop (K : Nat) {a0 a1 : Addr} {gs g : Nat} (hne : gs ≠ g) : ∀ (d i n : Nat) (w : World), d + i = 256 → d < n → Bk 93 w gs (row sbT) → Bk 93 w g (row (invT i)) →
    ∃ w', ref02_Boxes_l1 K n a0 a1 ⟨gs, 0, none⟩ ⟨g, 0, none⟩ (i : Int) w = some ((), w') ∧ Bk 93 w' g (row (invT 256)) ∧ Upd (· = g) w w' := by
  intro d
  induction d with
  | zero =>
    intro i n w hi hn bs hb
    obtain ⟨n, rfl⟩ : ∃ m, n = m + 1 := ⟨n - 1, by omega⟩
    obtain rfl : i = 256 := by omega
    refine ⟨w, ?_, hb, Upd.refl _ _⟩
    have eu : ref02_Boxes_l1 K (n + 1) = ref02_Boxes_l1_b K (ref02_Boxes_l1 K n) := rfl
    rw [eu]
    unfold ref02_Boxes_l1_b
    rw [if_neg (by decide)]
  | succ d ih =>
    intro i n w hi hn bs hb
    obtain ⟨n, rfl⟩ : ∃ m, n = m + 1 := ⟨n - 1, by omega⟩
    have hlt := sbT_lt i (by omega)
    have hg : ldI .u8 ((⟨gs, 0, none⟩ : Addr).add (i * 1)) w = some ((sbT.getD i 0 : Nat) : Int) := by
      rw [add_lit, Nat.mul_one, Nat.zero_add]; exact bs.ldI (row_get (by rw [sbT_len]; omega))
    obtain ⟨w1, s1, s2, s3⟩ := hb.stC (i := sbT.getD i 0) (by rw [row_len, invT_len]; exact hlt) (.int .u8 ((i : Nat) : Int))
    rw [row_set] at s2
    have s1' : stC ((⟨g, 0, none⟩ : Addr).add (sbT.getD i 0 * 1)) (.int .u8 (i : Int)) w = some w1 := by rw [add_lit, Nat.mul_one, Nat.zero_add]; exact s1
    obtain ⟨w2, h1, h2, h3⟩ := ih (i + 1) n w1 (by omega) (by omega) (bs.upd s3 hne) s2
    refine ⟨w2, ?_, h2, s3.trans' h3 fun _ _ e => e⟩
    have hw : IntKind.i64.wrap ((i : Int) + 1) = ((i + 1 : Nat) : Int) := by rw [w64 (by omega) (by omega)]; rfl
    have hw8 : IntKind.u8.wrap (i : Int) = (i : Int) := w8 (by omega) (by omega)
    have eu : ref02_Boxes_l1 K (n + 1) = ref02_Boxes_l1_b K (ref02_Boxes_l1 K n) := rfl
    rw [eu]
    unfold ref02_Boxes_l1_b
    rw [if_pos (decide_eq_true (by omega)), if_pos (nat_in (show i < 256 by omega)), Int.toNat_natCast, hg, Option.bind_some, if_pos (nat_in hlt), Int.toNat_natCast, hw8, s1', Option.bind_some, hw, h1]

theorem sb0 : sb 0 = 99 := by decide +kernel

theorem Boxes_ok {K : Nat} (hK : 300 ≤ K) (w : World) : ∃ w', ref02_Boxes K w = some (((row sbT).toArray, (row (invT 256)).toArray, ()), w') ∧ Upd none_ w w' := by
  obtain ⟨w1, n1, b1, u1, z1⟩ := newB_ok z93 93 w
  obtain ⟨w2, n2, b2, u2, z2⟩ := newB_ok z93 93 w1
  obtain ⟨w3, n3, b3, u3, z3⟩ := newB_ok z93 93 w2
  obtain ⟨w4, n4, b4, u4, z4⟩ := newB_ok z93 93 w3
  rw [z27_row] at b1 b2 b3 b4
  have b1 : Bk 93 w1 w.heap.size (row (List.replicate 256 0)) := b1
  have b2 : Bk 93 w2 w1.heap.size (row (List.replicate 256 0)) := b2
  have b3 : Bk 93 w3 w2.heap.size (row (List.replicate 256 0)) := b3
  have b4 : Bk 93 w4 w3.heap.size (row (invT 0)) := b4
  have q4 := ((u1.and0 u2).and0 u3).and0 u4
  obtain ⟨w5, a5, b5, u5⟩ := box0_loop hK (a0 := ⟨w.heap.size, 0, none⟩) (a1 := ⟨w1.heap.size, 0, none⟩) (u := ⟨w3.heap.size, 0, none⟩) 255 0 K 1 1 _ w4 rfl (by omega) (by decide) (by decide) (by simp) (b3.upd0 u4)
  have a5 : ref02_Boxes_l0 K K ⟨w.heap.size, 0, none⟩ ⟨w1.heap.size, 0, none⟩ ⟨w2.heap.size, 0, none⟩ ⟨w3.heap.size, 0, none⟩ 1 1 0 w4 = _ := a5
  have hb0 := bits_gen hK (y := 0) (by decide)
  have hb0 : ref02_bits K 0 = some (((sb 0 : Nat) : Int), ()) := hb0
  obtain ⟨w6, s6, b6, u6⟩ := b5.stC (i := 0) (by rw [row_len, boxRun_len]; simp) (.int .u8 ((sb 0 : Nat) : Int))
  rw [row_set, boxRun_eq] at b6
  have s6' : stC ((⟨w2.heap.size, 0, none⟩ : Addr).add (0 * 1)) (.int .u8 ((sb 0 : Nat) : Int)) w5 = some w6 := s6
  have u46 : Upd (· = w2.heap.size) w4 w6 := u5.trans' u6 fun _ _ e => e
  have bu6 := b4.upd u46 (by omega)
  obtain ⟨w7, a7, b7, u7⟩ := box1_loop K (a0 := ⟨w.heap.size, 0, none⟩) (a1 := ⟨w1.heap.size, 0, none⟩) (gs := w2.heap.size) (g := w3.heap.size) (by omega) 256 0 K w6 rfl (by omega) b6 bu6
  have a7 : ref02_Boxes_l1 K K ⟨w.heap.size, 0, none⟩ ⟨w1.heap.size, 0, none⟩ ⟨w2.heap.size, 0, none⟩ ⟨w3.heap.size, 0, none⟩ 0 w6 = _ := a7
  have b67 := b6.upd u7 (by omega)
  have l256 : ∀ t : List Nat, t.length = 256 → (row t).length = 256 := fun t h => by rw [row_len, h]
  have f1 : ∀ {w' : World} {g : Nat} {t : List Nat}, t.length = 256 → Bk 93 w' g (row t) → ldA 256 ⟨g, 0, none⟩ w' = some (row t).toArray := fun ht b => by
    have h := b.ldA (i := 0) (n := 256) (by rw [row_len, ht]; decide)
    rw [List.drop_zero, List.take_of_length_le (by rw [row_len, ht]; decide)] at h
    exact h
  have u47 : Upd (fun k => k = w2.heap.size ∨ k = w3.heap.size) w4 w7 := (u46.mono fun k _ e => .inl e).trans' u7 fun k _ e => .inr e
  have b17 := (((b1.upd0 u2).upd0 u3).upd0 u4).upd u47 (by omega)
  have b27 := ((b2.upd0 u3).upd0 u4).upd u47 (by omega)
  have ud : Upd none_ w7 w7.drew := (Upd.refl none_ w7).drew
  obtain ⟨w8, c8, d8, u8⟩ := b17.drew.stA (o := 0) (vs := (row sbT).toArray) (by rw [List.size_toArray, ls256, row_len, List.length_replicate]; decide) (fun v hv => ints_one v hv)
  have d8 : Bk 93 w8 w.heap.size (seg (row (List.replicate 256 0)) 0 (row sbT)) := d8
  rw [seg_all (by rw [ls256, row_len, List.length_replicate])] at d8
  have b78 := b7.drew.upd u8 (by omega)
  have b28 := b27.drew.upd u8 (by omega)
  obtain ⟨w9, c9, d9, u9⟩ := b28.stA (o := 0) (vs := (row (invT 256)).toArray) (by rw [List.size_toArray, li256, row_len, List.length_replicate]; decide) (fun v hv => ints_one v hv)
  have d9 : Bk 93 w9 w1.heap.size (seg (row (List.replicate 256 0)) 0 (row (invT 256))) := d9
  rw [seg_all (by rw [li256, row_len, List.length_replicate])] at d9
  have d89 := d8.upd u9 (by omega)
  refine ⟨w9, ?_, ((((q4.trans' u47 fun k hk e => by omega).and0 ud).trans' u8 fun k hk e => by omega).trans' u9 fun k hk e => by omega)⟩
  unfold ref02_Boxes
  rw [n1, bnd_ok, n2, bnd_ok, n3, bnd_ok, n4, bnd_ok, a5, bnd_ok, hb0, Option.bind_some, s6', Option.bind_some, a7, bnd_ok, f1 sbT_len b67.drew, Option.bind_some, f1 (invT_len 256) b7.drew, Option.bind_some, if_pos (by rw [List.size_toArray, ls256]), c8, Option.bind_some, f1 (invT_len 256) b78, Option.bind_some]
  unfold sameK
  rw [if_pos rfl, if_pos (by rw [List.size_toArray, li256]), c9, Option.bind_some, f1 sbT_len d89, Option.bind_some, f1 (invT_len 256) d9, Option.bind_some]

end Go.Sh

/- The document's key. -/
set_option linter.unusedVariables false
set_option maxRecDepth 100000
namespace Go.Sh
open Go.Fw Go.Gf Go.RowKit Go.Proofs.Tryd

def slV (s : Sl) : Value := .slice s.a s.len s.cap
def refC (sb sr : Sl) (by_ : List Value) (wp : Bool) : List Value := [slV sb, slV sr] ++ (row sbT ++ (row (invT 256) ++ (by_ ++ [.bool wp])))

def byV (r j : Nat) : Nat := if r = 1 then j else if r = 2 then mul j 2 else if r = 3 then mul j 2 ^^^ j else if r = 9 then mul (mul (mul j 2) 2) 2 ^^^ j else if r = 11 then (mul (mul (mul j 2) 2) 2 ^^^ mul j 2) ^^^ j else if r = 13 then (mul (mul (mul j 2) 2) 2 ^^^ mul (mul j 2) 2) ^^^ j else (mul (mul (mul j 2) 2) 2 ^^^ mul (mul j 2) 2) ^^^ mul j 2
def bySet (r : Nat) : Prop := r = 1 ∨ r = 2 ∨ r = 3 ∨ r = 9 ∨ r = 11 ∨ r = 13 ∨ r = 14
structure ByAt (by_ : List Value) (i : Nat) : Prop where
  len : by_.length = 4096
  at_ : ∀ j r, j < i → bySet r → by_[r * 256 + j]? = some (.int .u8 ((byV r j : Nat) : Int))

theorem refC_len {sb sr : Sl} {by_ : List Value} {wp : Bool} (h : by_.length = 4096) : (refC sb sr by_ wp).length = 4611 := by
  simp only [refC, List.length_append, List.length_cons, List.length_nil, ls256, li256, h]

theorem rf_0 {w : World} {g : Nat} {sb sr : Sl} {by_ : List Value} {wp : Bool} (b : Bk 96 w g (refC sb sr by_ wp)) : ldS ((⟨g, 0, none⟩ : Addr).add 0) w = some sb := by rw [add_lit]; exact b.ldS (i := 0 + 0) rfl
theorem rf_1 {w : World} {g : Nat} {sb sr : Sl} {by_ : List Value} {wp : Bool} (b : Bk 96 w g (refC sb sr by_ wp)) : ldS ((⟨g, 0, none⟩ : Addr).add 1) w = some sr := by rw [add_lit]; exact b.ldS (i := 0 + 1) rfl
theorem rf_s {w : World} {g : Nat} {sb sr : Sl} {by_ : List Value} {wp : Bool} (b : Bk 96 w g (refC sb sr by_ wp)) {i : Nat} (hi : i < 256) : ldI .u8 (((⟨g, 0, none⟩ : Addr).add 2).add (i * 1)) w = some ((sx i : Nat) : Int) := by
  rw [add_lit, add_lit]
  refine b.ldI ?_
  unfold refC
  rw [List.getElem?_append_right (by show 2 ≤ _; omega), List.getElem?_append_left (by rw [ls256]; show 0 + 2 + i * 1 - 2 < 256; omega)]
  show (row sbT)[0 + 2 + i * 1 - 2]? = _
  rw [show 0 + 2 + i * 1 - 2 = i by omega]
  exact row_get (by rw [sbT_len]; exact hi)
theorem rf_u {w : World} {g : Nat} {sb sr : Sl} {by_ : List Value} {wp : Bool} (b : Bk 96 w g (refC sb sr by_ wp)) {i : Nat} (hi : i < 256) : ldI .u8 (((⟨g, 0, none⟩ : Addr).add 258).add (i * 1)) w = some ((ux i : Nat) : Int) := by
  rw [add_lit, add_lit]
  refine b.ldI ?_
  unfold refC
  rw [List.getElem?_append_right (by show 2 ≤ _; omega)]
  show (row sbT ++ _)[0 + 258 + i * 1 - 2]? = _
  rw [List.getElem?_append_right (by rw [ls256]; omega), ls256, List.getElem?_append_left (by rw [li256]; omega), show 0 + 258 + i * 1 - 2 - 256 = i by omega]
  exact row_get (by rw [invT_len]; exact hi)
theorem rf_by {w : World} {g : Nat} {sb sr : Sl} {by_ : List Value} {wp : Bool} (b : Bk 96 w g (refC sb sr by_ wp)) (hy : ByAt by_ 256) {r i : Nat} (hr : bySet r) (hi : i < 256) : ldI .u8 ((((⟨g, 0, none⟩ : Addr).add 514).add (r * 256)).add (i * 1)) w = some ((byV r i : Nat) : Int) := by
  have hr16 : r < 16 := by unfold bySet at hr; omega
  rw [add_lit, add_lit, add_lit]
  refine b.ldI ?_
  unfold refC
  rw [List.getElem?_append_right (by show 2 ≤ _; omega)]
  show (row sbT ++ _)[0 + 514 + r * 256 + i * 1 - 2]? = _
  rw [List.getElem?_append_right (by rw [ls256]; omega), ls256, List.getElem?_append_right (by rw [li256]; omega), li256, List.getElem?_append_left (by rw [hy.len]; omega), show 0 + 514 + r * 256 + i * 1 - 2 - 256 - 256 = r * 256 + i by omega]
  exact hy.at_ i r hi hr
theorem rf_st {w : World} {g : Nat} {sb sr : Sl} {by_ : List Value} {wp : Bool} (b : Bk 96 w g (refC sb sr by_ wp)) (hl : by_.length = 4096) {r i : Nat} (hr : r < 16) (hi : i < 256) (v : Value) : ∃ w', stC ((((⟨g, 0, none⟩ : Addr).add 514).add (r * 256)).add (i * 1)) v w = some w' ∧ Bk 96 w' g (refC sb sr (by_.set (r * 256 + i) v) wp) ∧ Upd (· = g) w w' := by
  rw [add_lit, add_lit, add_lit]
  obtain ⟨w', h1, h2, h3⟩ := b.stC (i := 0 + 514 + r * 256 + i * 1) (by rw [refC_len hl]; omega) v
  refine ⟨w', h1, ?_, h3⟩
  have e : (refC sb sr by_ wp).set (0 + 514 + r * 256 + i * 1) v = refC sb sr (by_.set (r * 256 + i) v) wp := by
    unfold refC
    rw [List.set_append_right _ _ (by show 2 ≤ _; omega)]
    show _ ++ (row sbT ++ _).set (0 + 514 + r * 256 + i * 1 - 2) v = _
    rw [List.set_append_right _ _ (by rw [ls256]; omega), ls256, List.set_append_right _ _ (by rw [li256]; omega), li256, List.set_append_left _ _ (by rw [hl]; omega), show 0 + 514 + r * 256 + i * 1 - 2 - 256 - 256 = r * 256 + i by omega]
  rw [← e]; exact h2
theorem rf_st0 {w : World} {g : Nat} {sb sr : Sl} {by_ : List Value} {wp : Bool} (b : Bk 96 w g (refC sb sr by_ wp)) (hl : by_.length = 4096) (s : Sl) : ∃ w', stC ((⟨g, 0, none⟩ : Addr).add 0) (.slice s.a s.len s.cap) w = some w' ∧ Bk 96 w' g (refC s sr by_ wp) ∧ Upd (· = g) w w' := by
  rw [add_lit]; exact b.stC (i := 0 + 0) (by rw [refC_len hl]; omega) (slV s)
theorem rf_st1 {w : World} {g : Nat} {sb sr : Sl} {by_ : List Value} {wp : Bool} (b : Bk 96 w g (refC sb sr by_ wp)) (hl : by_.length = 4096) (s : Sl) : ∃ w', stC ((⟨g, 0, none⟩ : Addr).add 1) (.slice s.a s.len s.cap) w = some w' ∧ Bk 96 w' g (refC sb s by_ wp) ∧ Upd (· = g) w w' := by
  rw [add_lit]; exact b.stC (i := 0 + 1) (by rw [refC_len hl]; omega) (slV s)

theorem byAt_next {by_ : List Value} {i : Nat} (h : ByAt by_ i) (hi : i < 256) :
    ByAt (((((((by_.set (1 * 256 + i) (.int .u8 ((byV 1 i : Nat) : Int))).set (2 * 256 + i) (.int .u8 ((byV 2 i : Nat) : Int))).set (3 * 256 + i) (.int .u8 ((byV 3 i : Nat) : Int))).set (9 * 256 + i) (.int .u8 ((byV 9 i : Nat) : Int))).set (11 * 256 + i) (.int .u8 ((byV 11 i : Nat) : Int))).set (13 * 256 + i) (.int .u8 ((byV 13 i : Nat) : Int))).set (14 * 256 + i) (.int .u8 ((byV 14 i : Nat) : Int))) (i + 1) := by
  refine ⟨by simp only [List.length_set]; exact h.len, fun j r hj hr => ?_⟩
  have hl := h.len
  by_cases e : j = i
  · subst e
    rcases hr with rfl | rfl | rfl | rfl | rfl | rfl | rfl <;>
      (repeat (rw [List.getElem?_set_ne (by omega)])) <;>
      rw [List.getElem?_set_self (by first | (simp only [List.length_set]; omega) | omega)]
  · have hr16 : r < 16 := by unfold bySet at hr; omega
    rw [List.getElem?_set_ne (by omega), List.getElem?_set_ne (by omega), List.getElem?_set_ne (by omega), List.getElem?_set_ne (by omega), List.getElem?_set_ne (by omega), List.getElem?_set_ne (by omega), List.getElem?_set_ne (by omega)]
    exact h.at_ j r (by omega) hr

theorem by_loop {K : Nat} (hK : 300 ≤ K) {key : Sl} {g : Nat} {sb sr : Sl} : ∀ (d i n : Nat) (by_ : List Value) (w : World), d + i = 256 → d < n → ByAt by_ i → Bk 96 w g (refC sb sr by_ false) →
    ∃ by' w', ref02_New_l1 K n key ⟨g, 0, none⟩ (i : Int) w = some ((), w') ∧ ByAt by' 256 ∧ Bk 96 w' g (refC sb sr by' false) ∧ Upd (· = g) w w' := by
  intro d
  induction d with
  | zero =>
    intro i n by_ w hi hn hb b
    obtain ⟨n, rfl⟩ : ∃ m, n = m + 1 := ⟨n - 1, by omega⟩
    obtain rfl : i = 256 := by omega
    refine ⟨by_, w, ?_, hb, b, Upd.refl _ w⟩
    have eu : ref02_New_l1 K (n + 1) = ref02_New_l1_b K (ref02_New_l1 K n) := rfl
    rw [eu]
    unfold ref02_New_l1_b
    rw [if_neg (by decide)]
  | succ d ih =>
    intro i n by_ w hi hn hb b
    obtain ⟨n, rfl⟩ : ∃ m, n = m + 1 := ⟨n - 1, by omega⟩
    have hi2 : i < 256 := by omega
    have hl := hb.len
    have h2 := mul_lt (b := 2) hi2
    have h4 := mul_lt (b := 2) h2
    have h8 := mul_lt (b := 2) h4
    have t2 : ref02_Times K (i : Int) 2 = some (((mul i 2 : Nat) : Int), ()) := refTimes_ok hK hi2 (b := 2) (by decide)
    have t4 : ref02_Times K ((mul i 2 : Nat) : Int) 2 = some (((mul (mul i 2) 2 : Nat) : Int), ()) := refTimes_ok hK h2 (b := 2) (by decide)
    have t8 : ref02_Times K ((mul (mul i 2) 2 : Nat) : Int) 2 = some (((mul (mul (mul i 2) 2) 2 : Nat) : Int), ()) := refTimes_ok hK h4 (b := 2) (by decide)
    have x3 : bits .xor .u8 ((mul i 2 : Nat) : Int) (i : Int) = ((byV 3 i : Nat) : Int) := xor8 h2 hi2
    have x9 : bits .xor .u8 ((mul (mul (mul i 2) 2) 2 : Nat) : Int) (i : Int) = ((byV 9 i : Nat) : Int) := xor8 h8 hi2
    have y11 : bits .xor .u8 ((mul (mul (mul i 2) 2) 2 : Nat) : Int) ((mul i 2 : Nat) : Int) = ((mul (mul (mul i 2) 2) 2 ^^^ mul i 2 : Nat) : Int) := xor8 h8 h2
    have x11 : bits .xor .u8 ((mul (mul (mul i 2) 2) 2 ^^^ mul i 2 : Nat) : Int) (i : Int) = ((byV 11 i : Nat) : Int) := xor8 (xor8_lt h8 h2) hi2
    have y13 : bits .xor .u8 ((mul (mul (mul i 2) 2) 2 : Nat) : Int) ((mul (mul i 2) 2 : Nat) : Int) = ((mul (mul (mul i 2) 2) 2 ^^^ mul (mul i 2) 2 : Nat) : Int) := xor8 h8 h4
    have x13 : bits .xor .u8 ((mul (mul (mul i 2) 2) 2 ^^^ mul (mul i 2) 2 : Nat) : Int) (i : Int) = ((byV 13 i : Nat) : Int) := xor8 (xor8_lt h8 h4) hi2
    have x14 : bits .xor .u8 ((mul (mul (mul i 2) 2) 2 ^^^ mul (mul i 2) 2 : Nat) : Int) ((mul i 2 : Nat) : Int) = ((byV 14 i : Nat) : Int) := xor8 (xor8_lt h8 h4) h2
    obtain ⟨w1, a1, b1, u1⟩ := rf_st b hl (r := 1) (by decide) hi2 (.int .u8 ((byV 1 i : Nat) : Int))
    obtain ⟨w2, a2, b2, u2⟩ := rf_st b1 (by simp only [List.length_set]; exact hl) (r := 2) (by decide) hi2 (.int .u8 ((byV 2 i : Nat) : Int))
    obtain ⟨w3, a3, b3, u3⟩ := rf_st b2 (by simp only [List.length_set]; exact hl) (r := 3) (by decide) hi2 (.int .u8 ((byV 3 i : Nat) : Int))
    obtain ⟨w4, a4, b4, u4⟩ := rf_st b3 (by simp only [List.length_set]; exact hl) (r := 9) (by decide) hi2 (.int .u8 ((byV 9 i : Nat) : Int))
    obtain ⟨w5, a5, b5, u5⟩ := rf_st b4 (by simp only [List.length_set]; exact hl) (r := 11) (by decide) hi2 (.int .u8 ((byV 11 i : Nat) : Int))
    obtain ⟨w6, a6, b6, u6⟩ := rf_st b5 (by simp only [List.length_set]; exact hl) (r := 13) (by decide) hi2 (.int .u8 ((byV 13 i : Nat) : Int))
    obtain ⟨w7, a7, b7, u7⟩ := rf_st b6 (by simp only [List.length_set]; exact hl) (r := 14) (by decide) hi2 (.int .u8 ((byV 14 i : Nat) : Int))
    have u07 : Upd (· = g) w w7 := (((((u1.trans' u2 fun _ _ e => e).trans' u3 fun _ _ e => e).trans' u4 fun _ _ e => e).trans' u5 fun _ _ e => e).trans' u6 fun _ _ e => e).trans' u7 fun _ _ e => e
    obtain ⟨by', wz, g1, g2, g3, g4⟩ := ih (i + 1) n _ w7 (by omega) (by omega) (byAt_next hb hi2) b7
    refine ⟨by', wz, ?_, g2, g3, u07.trans' g4 fun _ _ e => e⟩
    have e1 : IntKind.i64.wrap ((i : Int) + 1) = ((i + 1 : Nat) : Int) := by rw [w64 (by omega) (by omega)]; rfl
    have hw8 : IntKind.u8.wrap (i : Int) = (i : Int) := w8 (by omega) (by omega)
    have a1 : stC ((((⟨g, 0, none⟩ : Addr).add 514).add (1 * 256)).add (i * 1)) (.int .u8 (i : Int)) w = some w1 := a1
    have a2 : stC ((((⟨g, 0, none⟩ : Addr).add 514).add (2 * 256)).add (i * 1)) (.int .u8 ((mul i 2 : Nat) : Int)) w1 = some w2 := a2
    have hin := nat_in hi2
    have eu : ref02_New_l1 K (n + 1) = ref02_New_l1_b K (ref02_New_l1 K n) := rfl
    rw [eu]
    unfold ref02_New_l1_b
    rw [if_pos (decide_eq_true (by omega)), hw8, t2, Option.bind_some, t4, Option.bind_some, t8, Option.bind_some, if_pos hin, Int.toNat_natCast, a1, Option.bind_some, if_pos hin, a2, Option.bind_some, if_pos hin, x3, a3, Option.bind_some, if_pos hin, x9, a4, Option.bind_some, if_pos hin, y11, x11, a5, Option.bind_some, if_pos hin, y13, x13, a6, Option.bind_some, if_pos hin, x14, a7, Option.bind_some, e1, g1]

/-! ### the round keys, as bytes -/
def w4I (x : W4) : List Int := [(x.a : Int), x.b, x.c, x.d]
def byteW (x : W4) (j : Nat) : Nat := if j = 0 then x.a else if j = 1 then x.b else if j = 2 then x.c else x.d
def roundB (S : List W4) : List Int := S.flatMap w4I
theorem roundB_len (S : List W4) : (roundB S).length = 4 * S.length := by
  induction S with
  | nil => rfl
  | cons x r ih =>
    show (w4I x ++ roundB r).length = _
    rw [List.length_append, ih, List.length_cons]; show 4 + _ = _; omega
theorem roundB_snoc (S : List W4) (x : W4) : roundB (S ++ [x]) = roundB S ++ w4I x := by simp [roundB]
theorem byteW_lt {x : W4} (h : x.ok) (j : Nat) : byteW x j < 256 := by
  obtain ⟨a, b, c, d⟩ := h
  unfold byteW; split
  · exact a
  · split
    · exact b
    · split
      · exact c
      · exact d
theorem w4I_get (x : W4) {j : Nat} (hj : j < 4) : (w4I x)[j]? = some ((byteW x j : Nat) : Int) := by
  have : j = 0 ∨ j = 1 ∨ j = 2 ∨ j = 3 := by omega
  rcases this with rfl | rfl | rfl | rfl <;> rfl
theorem roundB_get : ∀ (S : List W4) (i j : Nat), i < S.length → j < 4 → (roundB S)[4 * i + j]? = some ((byteW (S.getD i z4) j : Nat) : Int)
  | [], i, j, hi, _ => by simp at hi
  | x :: r, 0, j, _, hj => by
    show (w4I x ++ roundB r)[4 * 0 + j]? = _
    rw [List.getElem?_append_left (by show 4 * 0 + j < 4; omega), show 4 * 0 + j = j by omega]
    exact w4I_get x hj
  | x :: r, i + 1, j, hi, hj => by
    show (w4I x ++ roundB r)[4 * (i + 1) + j]? = _
    rw [List.getElem?_append_right (by show 4 ≤ _; omega)]
    show (roundB r)[4 * (i + 1) + j - 4]? = some ((byteW (r.getD i z4) j : Nat) : Int)
    rw [show 4 * (i + 1) + j - 4 = 4 * i + j by omega]
    exact roundB_get r i j (by simpa using hi) hj
theorem w4I_ok {x : W4} (h : x.ok) : ∀ z ∈ w4I x, InK .u8 z := by
  intro z hz
  obtain ⟨j, hj, rfl⟩ := List.mem_iff_getElem.1 hz
  have hj4 : j < 4 := hj
  have := w4I_get x hj4
  rw [List.getElem?_eq_getElem hj] at this
  rw [Option.some.inj this]
  exact InK.of_nat (byteW_lt h j)
theorem byteW_xor {x y : W4} (j : Nat) : byteW (x.xor y) j = byteW x j ^^^ byteW y j := by
  unfold byteW W4.xor
  split
  · rfl
  · split
    · rfl
    · split <;> rfl

theorem key_round {ks : List Int} (hk : ∀ z ∈ ks, InK .u8 z) {nk : Nat} (hl : ks.length = 4 * nk) : roundB (keyS ks nk) = ks := by
  apply List.ext_getElem?
  intro m
  by_cases h : m < 4 * nk
  · have e := roundB_get (keyS ks nk) (m / 4) (m % 4) (by rw [keyS_len]; omega) (by omega)
    rw [show 4 * (m / 4) + m % 4 = m by omega] at e
    rw [e, List.getElem?_eq_getElem (by omega)]
    have eg : (keyS ks nk).getD (m / 4) z4 = kw ks (m / 4) := by
      unfold keyS
      rw [List.getD_eq_getElem?_getD, List.getElem?_map, List.getElem?_range (by omega)]; rfl
    rw [eg]
    have eb : byteW (kw ks (m / 4)) (m % 4) = kb ks m := by
      have hc : m % 4 = 0 ∨ m % 4 = 1 ∨ m % 4 = 2 ∨ m % 4 = 3 := by omega
      rcases hc with c | c | c | c <;> rw [c]
      · show kb ks (4 * (m / 4)) = _; congr 1; omega
      · show kb ks (4 * (m / 4) + 1) = _; congr 1; omega
      · show kb ks (4 * (m / 4) + 2) = _; congr 1; omega
      · show kb ks (4 * (m / 4) + 3) = _; congr 1; omega
    rw [eb]
    unfold kb
    rw [List.getD_eq_getElem?_getD, List.getElem?_eq_getElem (show m < ks.length by omega)]
    show some ((ks[m].toNat : Nat) : Int) = _
    have := in8 (hk ks[m] (List.getElem_mem _))
    congr 1; omega
  · rw [List.getElem?_eq_none (by rw [roundB_len, keyS_len]; omega), List.getElem?_eq_none (by omega)]

/-- a byte of an owned list -/
theorem own_ld {w : World} {s : Sl} {zs : List Int} (o : Own 5 w s (ints .u8 zs)) {i : Nat} {z : Int} (h : zs[i]? = some z) : ∃ p, s.a = some p ∧ s.len = zs.length ∧ i < zs.length ∧ ldI .u8 (p.add (i * 1)) w = some z := by
  obtain ⟨p, hp, hld⟩ := o.rd.ld
  have hi := (List.getElem?_eq_some_iff.1 h).1
  refine ⟨p, hp (by intro e; rw [e] at hi; simp at hi), by rw [o.len, ints_length], hi, ?_⟩
  rw [Nat.mul_one, hld i hi, (List.getElem?_eq_some_iff.1 h).2]

end Go.Sh

/- The document's key: its schedule. -/
set_option linter.unusedVariables false
set_option maxRecDepth 100000
namespace Go.Sh
open Go.Fw Go.Gf Go.RowKit Go.Proofs.Tryd

/-- the fours of a step: a slice of four bytes -/
structure Four (w : World) (s : Sl) (k : Nat) (u : W4) : Prop where
  a : s = ⟨some ⟨k, 0, none⟩, 4, 4⟩
  o : Own 5 w s (ints .u8 (w4I u))

theorem Four.upd {w w' : World} {s : Sl} {k : Nat} {u : W4} {X : Nat → Prop} (f : Four w s k u) (h : Upd X w w') (hX : ¬ X k) : Four w' s k u := by
  refine ⟨f.a, f.o.upd h fun x hx => ?_⟩
  rw [f.a] at hx
  have : k = x := Option.some.inj hx
  rw [← this]; exact hX
theorem Four.ld {w : World} {s : Sl} {k : Nat} {u : W4} (f : Four w s k u) {j : Nat} (hj : j < 4) : ldI .u8 ((⟨k, 0, none⟩ : Addr).add (j * 1)) w = some ((byteW u j : Nat) : Int) := by
  obtain ⟨p, hp, _, _, hld⟩ := own_ld f.o (w4I_get u hj)
  rw [f.a] at hp
  obtain rfl := Option.some.inj hp
  exact hld
theorem Four.lt {w : World} {s : Sl} {k : Nat} {u : W4} (f : Four w s k u) : k < w.heap.size := f.o.lt (by rw [f.a]; rfl)

theorem four_mk (w : World) {a b c d : Int} {u : W4} (hu : [a, b, c, d] = w4I u) : ∃ w', bldS prog 22 4 #[(0, (.int .u8 a)), (1, (.int .u8 b)), (2, (.int .u8 c)), (3, (.int .u8 d))] w = some (⟨some ⟨w.heap.size, 0, none⟩, 4, 4⟩, w') ∧ Four w' ⟨some ⟨w.heap.size, 0, none⟩, 4, 4⟩ w.heap.size u ∧ Upd none_ w w' ∧ w'.heap.size = w.heap.size + 1 := by
  obtain ⟨w', h1, h2, h3, h4⟩ := bldS_ok sliceB [.int .u8 a, .int .u8 b, .int .u8 c, .int .u8 d] (by
    intro v hv
    simp only [List.mem_cons, List.not_mem_nil, or_false] at hv
    rcases hv with rfl | rfl | rfl | rfl <;> rfl) (Nat.succ_pos _) (show 4 ≤ 16777216 by decide) w
  have h2 : Own 5 w' ⟨some ⟨w.heap.size, 0, none⟩, 4, 4⟩ (ints .u8 [a, b, c, d]) := h2
  rw [hu] at h2
  exact ⟨w', h1, ⟨rfl, h2⟩, h3, h4⟩

theorem take_succ4 {x : W4} {j : Nat} (hj : j < 4) : (w4I x).take (j + 1) = (w4I x).take j ++ [((byteW x j : Nat) : Int)] := by
  rw [List.take_add_one, w4I_get x hj]; rfl

theorem l5_loop {K : Nat} {g B nk : Nat} {sb : Sl} {by_ : List Value} (hby : by_.length = 4096) {S : List W4} (hS : ∀ x ∈ S, x.ok) {u : W4} (hu : u.ok) (hnk : 4 ≤ nk) (hkS : nk ≤ S.length) (hS2 : S.length ≤ 100) (hBg : B ≤ g) {t13 : Sl} {kt : Nat} (htg : kt ≠ g) {pw : Int} :
    ∀ (d j f : Nat) (w : World) (sr : Sl), d + j = 4 → d < f → Bk 96 w g (refC sb sr by_ false) → Own 5 w sr (ints .u8 (roundB S ++ (w4I ((S.getD (S.length - nk) z4).xor u)).take j)) → Four w t13 kt u → (∀ k, sr.blk = some k → B ≤ k ∧ k ≠ kt ∧ k ≠ g) → B ≤ w.heap.size →
      ∃ sr' w', ref02_New_l5 K f ⟨g, 0, none⟩ (nk : Int) pw ((S.length : Nat) : Int) t13 (j : Int) w = some ((), w') ∧ Bk 96 w' g (refC sb sr' by_ false) ∧ Own 5 w' sr' (ints .u8 (roundB (S ++ [(S.getD (S.length - nk) z4).xor u]))) ∧ (∀ k, sr'.blk = some k → B ≤ k ∧ k ≠ g) ∧ Upd (fun k => B ≤ k) w w' := by
  intro d
  induction d with
  | zero =>
    intro j f w sr hd hf b o ft hsr hB
    obtain ⟨f, rfl⟩ : ∃ m, f = m + 1 := ⟨f - 1, by omega⟩
    obtain rfl : j = 4 := by omega
    refine ⟨sr, w, ?_, b, ?_, fun k hk => ⟨(hsr k hk).1, (hsr k hk).2.2⟩, Upd.refl _ w⟩
    · have eu : ref02_New_l5 K (f + 1) = ref02_New_l5_b K (ref02_New_l5 K f) := rfl
      rw [eu]
      unfold ref02_New_l5_b
      rw [if_neg (by decide)]
    · rw [roundB_snoc]; exact o
  | succ d ih =>
    intro j f w sr hd hf b o ft hsr hB
    obtain ⟨f, rfl⟩ : ∃ m, f = m + 1 := ⟨f - 1, by omega⟩
    have hj : j < 4 := by omega
    have ud : Upd none_ w w.drew := (Upd.refl none_ w).drew
    have bd := b.drew
    have od := o.drew
    have hx := getD_ok hS (S.length - nk)
    have hget : (roundB S ++ (w4I ((S.getD (S.length - nk) z4).xor u)).take j)[4 * (S.length - nk) + j]? = some ((byteW (S.getD (S.length - nk) z4) j : Nat) : Int) := by
      rw [List.getElem?_append_left (by rw [roundB_len]; omega)]
      exact roundB_get S _ _ (by omega) hj
    obtain ⟨p, hp, hl, hlt, hld⟩ := own_ld od hget
    have f13 := (ft.upd ud id).ld hj
    have ex : bits .xor .u8 ((byteW (S.getD (S.length - nk) z4) j : Nat) : Int) ((byteW u j : Nat) : Int) = ((byteW ((S.getD (S.length - nk) z4).xor u) j : Nat) : Int) := by
      rw [xor8 (byteW_lt hx j) (byteW_lt hu j), byteW_xor]
    obtain ⟨w1, c1, c2, c3, c4⟩ := bldS1_ok sliceB (.int .u8 ((byteW ((S.getD (S.length - nk) z4).xor u) j : Nat) : Int)) rfl w.drew
    have c3 : Upd none_ w w1 := c3.predrew
    have hz1 := c3.size
    have hlen : sr.len = (roundB S ++ (w4I ((S.getD (S.length - nk) z4).xor u)).take j).length := hl
    have hlb : (roundB S ++ (w4I ((S.getD (S.length - nk) z4).xor u)).take j).length ≤ 404 := by
      rw [List.length_append, roundB_len, List.length_take]; omega
    obtain ⟨sr2, w2, d1, d2, d3, d4, d5⟩ := apd_ok sliceB (o.upd0 c3) (c2.src (fun v hv => by rw [List.mem_singleton.1 hv]; rfl)) (by show (sr.len + 1) * 1 ≤ _; omega)
    have d3 : Own 5 w2 sr2 (ints .u8 (roundB S ++ (w4I ((S.getD (S.length - nk) z4).xor u)).take (j + 1))) := by
      rw [take_succ4 hj, ← List.append_assoc, ints_append]; exact d3
    have hgl := b.lt
    have b2 := (b.upd0 c3).upd d4 fun e => (hsr g e).2.2 rfl
    obtain ⟨w3, e1, e2, e3⟩ := rf_st1 b2 hby sr2
    have hfl := ft.lt
    have hsr2 : ∀ k, sr2.blk = some k → B ≤ k ∧ k ≠ kt ∧ k ≠ g := fun k hk => by
      rcases d5 with e | e
      · exact hsr k (e ▸ hk)
      · rw [e] at hk
        have hk : w1.heap.size = k := Option.some.inj hk
        omega
    have u12 : Upd (fun k => B ≤ k) w w2 := (c3.mono (T := fun k => B ≤ k) fun _ _ e => e.elim).trans' d4 fun k _ e => (hsr k e).1
    have u13 : Upd (fun k => B ≤ k) w w3 := u12.trans' e3 fun k _ e => by rw [e]; exact hBg
    have ft3 := ((ft.upd c3 id).upd d4 fun e => (hsr kt e).2.1 rfl).upd e3 htg
    have o3 := d3.upd e3 fun k hk e => (hsr2 k hk).2.2 e
    obtain ⟨sr', w4, g1, g2, g3, g4, g5⟩ := ih (j + 1) f w3 sr2 (by omega) (by omega) e2 o3 ft3 hsr2 (by have := u13.size; omega)
    refine ⟨sr', w4, ?_, g2, g3, g4, u13.trans' g5 fun _ _ e => e⟩
    have e6 : IntKind.i64.wrap (((S.length : Nat) : Int) - (nk : Int)) = ((S.length - nk : Nat) : Int) := by rw [w64 (by omega) (by omega)]; omega
    have e7 : IntKind.i64.wrap (4 * ((S.length - nk : Nat) : Int)) = ((4 * (S.length - nk) : Nat) : Int) := by rw [w64 (by omega) (by omega)]; omega
    have e8 : IntKind.i64.wrap (((4 * (S.length - nk) : Nat) : Int) + (j : Int)) = ((4 * (S.length - nk) + j : Nat) : Int) := by rw [w64 (by omega) (by omega)]; omega
    have e9 : IntKind.i64.wrap ((j : Int) + 1) = ((j + 1 : Nat) : Int) := by rw [w64 (by omega) (by omega)]; rfl
    have ft4 : t13.len = 4 := by rw [ft.a]
    have fta : t13.a = some ⟨kt, 0, none⟩ := by rw [ft.a]
    have b1 := b.upd0 c3
    have eu : ref02_New_l5 K (f + 1) = ref02_New_l5_b K (ref02_New_l5 K f) := rfl
    rw [eu]
    unfold ref02_New_l5_b
    rw [if_pos (decide_eq_true (by omega)), fta, Option.bind_some, if_pos (by rw [ft4]; exact nat_in hj), rf_1 bd, Option.bind_some, hp, Option.bind_some, e6, e7, e8, if_pos (nat_in (show 4 * (S.length - nk) + j < sr.len by omega)), Int.toNat_natCast, hld, Option.bind_some, Int.toNat_natCast, f13, Option.bind_some, Option.bind_some, ex, c1, bnd_ok, rf_1 b1, Option.bind_some]
    unfold sameK
    rw [if_pos rfl, d1, bnd_ok, e1, Option.bind_some, e9, g1]

def pwF : Nat → Nat
  | 0 => 1
  | n + 1 => mul (pwF n) 2
theorem pwF_lt : ∀ n, pwF n < 256
  | 0 => by decide
  | n + 1 => mul_lt (pwF_lt n)
theorem pwF_rc : ∀ j, j < 10 → pwF j = rcT.getD j 0 := by decide +kernel

theorem ref_s3 {K : Nat} (hK : 300 ≤ K) {g : Nat} {sb sr : Sl} {by_ : List Value} {w : World} (b : Bk 96 w g (refC sb sr by_ false)) {nk i : Nat} (hk : nk = 4 ∨ nk = 6 ∨ nk = 8) (h1 : nk ≤ i) (h2 : i < 4 * (nk + 7)) {t13 : Sl} {kt : Nat} {t : W4} (ht : t.ok) (ft : Four w t13 kt t) :
    ∃ t14 kt' w', ref02_New_s3 K ⟨g, 0, none⟩ (nk : Int) ((pwF ((i - 1) / nk) : Nat) : Int) (i : Int) t13 ((Int.tmod (i : Int) (nk : Int)) == 0) w = some ((((pwF (i / nk) : Nat) : Int), t14, ()), w') ∧ Four w' t14 kt' (stepW nk i t) ∧ (kt' = kt ∨ w.heap.size ≤ kt') ∧ Upd none_ w w' := by
  have ud : Upd none_ w w.drew := (Upd.refl none_ w).drew
  have bd := b.drew
  have fd := ft.upd ud id
  have fa : t13.a = some ⟨kt, 0, none⟩ := by rw [ft.a]
  have fl : t13.len = 4 := by rw [ft.a]
  obtain ⟨ha, hb, hc, hd⟩ := ht
  have l0 : ldI .u8 ((⟨kt, 0, none⟩ : Addr).add (0 * 1)) w.drew = some ((t.a : Nat) : Int) := fd.ld (j := 0) (by decide)
  have l1 : ldI .u8 ((⟨kt, 0, none⟩ : Addr).add (1 * 1)) w.drew = some ((t.b : Nat) : Int) := fd.ld (j := 1) (by decide)
  have l2 : ldI .u8 ((⟨kt, 0, none⟩ : Addr).add (2 * 1)) w.drew = some ((t.c : Nat) : Int) := fd.ld (j := 2) (by decide)
  have l3 : ldI .u8 ((⟨kt, 0, none⟩ : Addr).add (3 * 1)) w.drew = some ((t.d : Nat) : Int) := fd.ld (j := 3) (by decide)
  have i0 : (0 : Int) ≤ 0 ∧ (0 : Int) < ((t13.len : Nat) : Int) := by rw [fl]; decide
  have i1 : (0 : Int) ≤ 1 ∧ (1 : Int) < ((t13.len : Nat) : Int) := by rw [fl]; decide
  have i2 : (0 : Int) ≤ 2 ∧ (2 : Int) < ((t13.len : Nat) : Int) := by rw [fl]; decide
  have i3 : (0 : Int) ≤ 3 ∧ (3 : Int) < ((t13.len : Nat) : Int) := by rw [fl]; decide
  rw [tmod_nat]
  by_cases c0 : i % nk = 0
  · have hq : 1 ≤ i / nk ∧ i / nk - 1 < 10 ∧ (i - 1) / nk = i / nk - 1 := by
      rcases hk with rfl | rfl | rfl <;> omega
    have hpw := pwF_lt (i / nk - 1)
    have hrc := pwF_rc (i / nk - 1) hq.2.1
    have est : stepW nk i t = (t.rot.sub).xor ⟨rcT.getD (i / nk - 1) 0, 0, 0, 0⟩ := by unfold stepW; rw [if_pos c0]
    have e4 : [((sx t.b ^^^ pwF (i / nk - 1) : Nat) : Int), ((sx t.c : Nat) : Int), ((sx t.d : Nat) : Int), ((sx t.a : Nat) : Int)] = w4I (stepW nk i t) := by
      rw [est, ← hrc]
      show _ = [((sx t.b ^^^ pwF (i / nk - 1) : Nat) : Int), ((sx t.c ^^^ 0 : Nat) : Int), ((sx t.d ^^^ 0 : Nat) : Int), ((sx t.a ^^^ 0 : Nat) : Int)]
      rw [Nat.xor_zero, Nat.xor_zero, Nat.xor_zero]
    obtain ⟨w1, m1, m2, m3, m4⟩ := four_mk w.drew e4
    have tp : ref02_Times K ((pwF (i / nk - 1) : Nat) : Int) 2 = some (((pwF (i / nk) : Nat) : Int), ()) := by
      have h := refTimes_ok hK hpw (b := 2) (by decide)
      have e : mul (pwF (i / nk - 1)) 2 = pwF (i / nk) := by
        obtain ⟨q, hq'⟩ : ∃ q, i / nk = q + 1 := ⟨i / nk - 1, by omega⟩
        rw [hq']; rfl
      rw [e] at h; exact h
    refine ⟨_, w.heap.size, w1, ?_, m2, .inr (Nat.le_refl _), m3.predrew⟩
    unfold ref02_New_s3
    rw [c0, if_pos (show (((0 : Nat) : Int) == 0) = true from rfl), fa, Option.bind_some, if_pos i1, Option.bind_some, if_pos i2, Option.bind_some, if_pos i3, Option.bind_some, if_pos i0, l1, Option.bind_some, if_pos (nat_in hb), Int.toNat_natCast, rf_s bd hb, Option.bind_some, l2, Option.bind_some, if_pos (nat_in hc), Int.toNat_natCast, rf_s bd hc, Option.bind_some, l3, Option.bind_some, if_pos (nat_in hd), Int.toNat_natCast, rf_s bd hd, Option.bind_some, l0, Option.bind_some, if_pos (nat_in ha), Int.toNat_natCast, rf_s bd ha, Option.bind_some, hq.2.2, xor8 (sx_lt hb) hpw, m1, bnd_ok, tp, Option.bind_some]
  · have hq : (i - 1) / nk = i / nk := by
      rcases hk with rfl | rfl | rfl <;> omega
    have hs4 : ref02_New_s4 K (nk : Int) (i : Int) w = some ((decide (nk = 8 ∧ i % 8 = 4), ()), w) := by
      unfold ref02_New_s4
      by_cases h8 : nk = 8
      · rw [if_pos (by rw [h8]; rfl)]
        have e : Int.tmod (i : Int) 8 = ((i % 8 : Nat) : Int) := tmod_nat i 8
        rw [e]
        by_cases h4 : i % 8 = 4
        · rw [h4, decide_eq_true ⟨h8, rfl⟩]; rfl
        · rw [decide_eq_false (fun h => h4 h.2)]
          have : (((i % 8 : Nat) : Int) == 4) = false := by simp; omega
          rw [this]
      · rw [if_neg (by simp; omega), decide_eq_false (fun h => h8 h.1)]
    unfold ref02_New_s3
    rw [if_neg (by simp; omega), hs4, bnd_ok, hq]
    by_cases h8 : nk = 8 ∧ i % 8 = 4
    · have est : stepW nk i t = t.sub := by unfold stepW; rw [if_neg c0, if_pos ⟨by rw [h8.1]; exact h8.2, h8.1⟩]
      have e4 : [((sx t.a : Nat) : Int), ((sx t.b : Nat) : Int), ((sx t.c : Nat) : Int), ((sx t.d : Nat) : Int)] = w4I (stepW nk i t) := by rw [est]; rfl
      obtain ⟨w1, m1, m2, m3, m4⟩ := four_mk w.drew e4
      refine ⟨_, w.heap.size, w1, ?_, m2, .inr (Nat.le_refl _), m3.predrew⟩
      rw [decide_eq_true h8, if_pos rfl, fa, Option.bind_some, if_pos i0, Option.bind_some, if_pos i1, Option.bind_some, if_pos i2, Option.bind_some, if_pos i3, l0, Option.bind_some, if_pos (nat_in ha), Int.toNat_natCast, rf_s bd ha, Option.bind_some, l1, Option.bind_some, if_pos (nat_in hb), Int.toNat_natCast, rf_s bd hb, Option.bind_some, l2, Option.bind_some, if_pos (nat_in hc), Int.toNat_natCast, rf_s bd hc, Option.bind_some, l3, Option.bind_some, if_pos (nat_in hd), Int.toNat_natCast, rf_s bd hd, Option.bind_some, m1, bnd_ok]
    · have est : stepW nk i t = t := by
        unfold stepW
        rw [if_neg c0, if_neg (fun h => h8 ⟨h.2, by rw [← h.2]; exact h.1⟩)]
      rw [est, decide_eq_false h8, if_neg (by decide)]
      exact ⟨t13, kt, w, rfl, ft, .inl rfl, Upd.refl _ w⟩

theorem ref_l2 {K : Nat} (hK : 300 ≤ K) {g B nk n : Nat} {sb : Sl} {by_ : List Value} (hby : by_.length = 4096) (hk : nk = 4 ∨ nk = 6 ∨ nk = 8) (hn : n = 4 * (nk + 7)) (hBg : B ≤ g) :
    ∀ (d f : Nat) (w : World) (S : List W4) (sr : Sl), d + S.length = n → d < f → nk ≤ S.length → (∀ x ∈ S, x.ok) → Bk 96 w g (refC sb sr by_ false) → Own 5 w sr (ints .u8 (roundB S)) → (∀ k, sr.blk = some k → B ≤ k ∧ k ≠ g) → B ≤ w.heap.size →
      ∃ sr' w', ref02_New_l2 K f ⟨g, 0, none⟩ (nk : Int) ((pwF ((S.length - 1) / nk) : Nat) : Int) ((S.length : Nat) : Int) w = some ((), w') ∧ Bk 96 w' g (refC sb sr' by_ false) ∧ Own 5 w' sr' (ints .u8 (roundB (expW nk d S))) ∧ (∀ k, sr'.blk = some k → B ≤ k ∧ k ≠ g) ∧ Upd (fun k => B ≤ k) w w' := by
  intro d
  induction d with
  | zero =>
    intro f w S sr hd hf hk1 hS b o hsr hB
    obtain ⟨f, rfl⟩ : ∃ m, f = m + 1 := ⟨f - 1, by omega⟩
    refine ⟨sr, w, ?_, b, o, hsr, Upd.refl _ w⟩
    have e7 : IntKind.i64.wrap ((nk : Int) + 7) = ((nk + 7 : Nat) : Int) := by rw [w64 (by omega) (by omega)]; omega
    have e8 : IntKind.i64.wrap (4 * ((nk + 7 : Nat) : Int)) = (n : Int) := by rw [w64 (by omega) (by omega)]; omega
    have eu : ref02_New_l2 K (f + 1) = ref02_New_l2_b K (ref02_New_l2 K f) := rfl
    rw [eu]
    unfold ref02_New_l2_b
    rw [e7, e8, if_neg (fun e => by have := of_decide_eq_true e; omega)]
  | succ d ih =>
    intro f w S sr hd hf hk1 hS b o hsr hB
    obtain ⟨f, rfl⟩ : ∃ m, f = m + 1 := ⟨f - 1, by omega⟩
    have ud : Upd none_ w w.drew := (Upd.refl none_ w).drew
    have bd := b.drew
    have od := o.drew
    obtain ⟨t, ht⟩ : ∃ t, t = S.getD (S.length - 1) z4 := ⟨_, rfl⟩
    have hto : t.ok := by rw [ht]; exact getD_ok hS _
    have gt : ∀ j, j < 4 → (roundB S)[4 * (S.length - 1) + j]? = some ((byteW t j : Nat) : Int) := fun j hj => by rw [ht]; exact roundB_get S _ _ (by omega) hj
    obtain ⟨p, hp, hl, hlt, m0⟩ := own_ld od (gt 0 (by decide))
    obtain ⟨p1, hp1, _, _, m1⟩ := own_ld od (gt 1 (by decide))
    obtain ⟨p2, hp2, _, _, m2⟩ := own_ld od (gt 2 (by decide))
    obtain ⟨p3, hp3, _, _, m3⟩ := own_ld od (gt 3 (by decide))
    rw [hp] at hp1 hp2 hp3
    obtain rfl := Option.some.inj hp1
    obtain rfl := Option.some.inj hp2
    obtain rfl := Option.some.inj hp3
    have hrl := roundB_len S
    obtain ⟨w1, c1, c2, c3, c4⟩ := four_mk w.drew (a := ((byteW t 0 : Nat) : Int)) (b := ((byteW t 1 : Nat) : Int)) (c := ((byteW t 2 : Nat) : Int)) (d := ((byteW t 3 : Nat) : Int)) (u := t) rfl
    have c3 : Upd none_ w w1 := c3.predrew
    have hz1 := c3.size
    obtain ⟨t14, kt, w2, e1, e2, e3, e4⟩ := ref_s3 hK (b.upd0 c3) hk hk1 (by omega) hto c2
    have q2 := c3.and0 e4
    have hz2 := e4.size
    have hgl := b.lt
    have hktB : w.heap.size ≤ kt := by
      rcases e3 with e | e
      · rw [e]; exact Nat.le_refl _
      · omega
    have hsl : ∀ k, sr.blk = some k → k < w.heap.size := fun k hk => o.lt hk
    obtain ⟨sr', w3, f1, f2, f3, f4, f5⟩ := l5_loop (K := K) (B := B) (nk := nk) (sb := sb) hby hS (stepW_ok (nk := nk) (i := S.length) hto) (by omega) hk1 (by omega) hBg (t13 := t14) (kt := kt) (by omega) (pw := ((pwF (S.length / nk) : Nat) : Int)) 4 0 K w2 sr rfl (by omega) (b.upd0 q2) (by rw [List.take_zero, List.append_nil]; exact o.upd0 q2) e2 (fun k hk => ⟨(hsr k hk).1, by have := hsl k hk; omega, (hsr k hk).2⟩) (by have := q2.size; omega)
    have hnx : (S.getD (S.length - nk) z4).xor (stepW nk S.length t) = nextW nk S := by unfold nextW; rw [ht]
    rw [hnx] at f3
    have f1 : ref02_New_l5 K K ⟨g, 0, none⟩ (nk : Int) ((pwF (S.length / nk) : Nat) : Int) ((S.length : Nat) : Int) t14 0 w2 = some ((), w3) := f1
    have u3 : Upd (fun k => B ≤ k) w w3 := (q2.mono (T := fun k => B ≤ k) fun _ _ e => e.elim).trans' f5 fun _ _ e => e
    have hl' : (S ++ [nextW nk S]).length = S.length + 1 := by rw [List.length_append, List.length_singleton]
    obtain ⟨sr2, w4, g1, g2, g3, g4, g5⟩ := ih f w3 (S ++ [nextW nk S]) sr' (by rw [hl']; omega) (by omega) (by rw [hl']; omega) (snoc_ok hS (nextW_ok hS)) f2 f3 f4 (by have := u3.size; omega)
    rw [hl', Nat.add_sub_cancel] at g1
    refine ⟨sr2, w4, ?_, g2, g3, g4, u3.trans' g5 fun _ _ e => e⟩
    have e7 : IntKind.i64.wrap ((nk : Int) + 7) = ((nk + 7 : Nat) : Int) := by rw [w64 (by omega) (by omega)]; omega
    have e8 : IntKind.i64.wrap (4 * ((nk + 7 : Nat) : Int)) = (n : Int) := by rw [w64 (by omega) (by omega)]; omega
    have ei : IntKind.i64.wrap (4 * ((S.length : Nat) : Int)) = ((4 * S.length : Nat) : Int) := by rw [w64 (by omega) (by omega)]; omega
    have ej : ∀ j : Nat, j < 4 → IntKind.i64.wrap (((4 * S.length : Nat) : Int) - ((4 - j : Nat) : Int)) = ((4 * (S.length - 1) + j : Nat) : Int) := fun j hj => by rw [w64 (by omega) (by omega)]; omega
    have j0 : IntKind.i64.wrap (((4 * S.length : Nat) : Int) - 4) = ((4 * (S.length - 1) + 0 : Nat) : Int) := ej 0 (by decide)
    have j1 : IntKind.i64.wrap (((4 * S.length : Nat) : Int) - 3) = ((4 * (S.length - 1) + 1 : Nat) : Int) := ej 1 (by decide)
    have j2 : IntKind.i64.wrap (((4 * S.length : Nat) : Int) - 2) = ((4 * (S.length - 1) + 2 : Nat) : Int) := ej 2 (by decide)
    have j3 : IntKind.i64.wrap (((4 * S.length : Nat) : Int) - 1) = ((4 * (S.length - 1) + 3 : Nat) : Int) := ej 3 (by decide)
    have ek : IntKind.i64.wrap (((S.length : Nat) : Int) + 1) = ((S.length + 1 : Nat) : Int) := by rw [w64 (by omega) (by omega)]; rfl
    have hnk0 : ((nk : Nat) : Int) ≠ 0 := by omega
    have eu : ref02_New_l2 K (f + 1) = ref02_New_l2_b K (ref02_New_l2 K f) := rfl
    rw [eu]
    unfold ref02_New_l2_b
    rw [e7, e8, if_pos (decide_eq_true (by omega)), rf_1 bd, Option.bind_some, hp, Option.bind_some, ei, j0, if_pos (nat_in (show 4 * (S.length - 1) + 0 < sr.len by omega)), Int.toNat_natCast, m0, Option.bind_some, Option.bind_some, hp, Option.bind_some, j1, if_pos (nat_in (show 4 * (S.length - 1) + 1 < sr.len by omega)), Int.toNat_natCast, m1, Option.bind_some, Option.bind_some, hp, Option.bind_some, j2, if_pos (nat_in (show 4 * (S.length - 1) + 2 < sr.len by omega)), Int.toNat_natCast, m2, Option.bind_some, Option.bind_some, hp, Option.bind_some, j3, if_pos (nat_in (show 4 * (S.length - 1) + 3 < sr.len by omega)), Int.toNat_natCast, m3, Option.bind_some, c1, bnd_ok, if_pos hnk0, e1, bnd_ok]
    dsimp only
    rw [f1, bnd_ok, ek, g1]

end Go.Sh

/- The document's key: New, Words, Rounds. -/
set_option linter.unusedVariables false
set_option maxRecDepth 100000
namespace Go.Sh
open Go.Fw Go.Gf Go.RowKit Go.Proofs.Tryd

/-- the document's key: fresh from B on -/
structure RefAt (w : World) (B N g kl : Nat) (S : List W4) (wp : Bool) : Prop where
  ex : ∃ sb sr by_, Bk 96 w g (refC sb sr by_ wp) ∧ sb.len = kl ∧ Own 5 w sr (ints .u8 (roundB S)) ∧ ByAt by_ 256 ∧ ∀ k, sr.blk = some k → B ≤ k ∧ k < N ∧ k ≠ g
  ok : ∀ x ∈ S, x.ok
  len : S.length = kl + 28
  kl : kl = 16 ∨ kl = 24 ∨ kl = 32
  gB : B ≤ g
  gN : g < N

theorem RefAt.upd {w w' : World} {B N g kl : Nat} {S : List W4} {wp : Bool} {X : Nat → Prop} (r : RefAt w B N g kl S wp) (u : Upd X w w') (hX : ∀ k, B ≤ k → k < N → ¬ X k) : RefAt w' B N g kl S wp := by
  obtain ⟨⟨sb, sr, by_, h1, h2, h3, h4, h5⟩, r2, r3, r4, r5, r6⟩ := r
  exact ⟨⟨sb, sr, by_, h1.upd u (hX g r5 r6), h2, h3.upd u fun k hk => hX k (h5 k hk).1 (h5 k hk).2.1, h4, h5⟩, r2, r3, r4, r5, r6⟩
theorem RefAt.upd0 {w w' : World} {B N g kl : Nat} {S : List W4} {wp : Bool} (r : RefAt w B N g kl S wp) (u : Upd none_ w w') : RefAt w' B N g kl S wp := r.upd u fun _ _ _ => id

theorem built96 : prog.built 96 [] = some (⟨[.slice none 0 0, .slice none 0 0] ++ (row (List.replicate 256 0) ++ (row (List.replicate 256 0) ++ (row (List.replicate 4096 0) ++ [.bool false])))⟩ : Array Value) := by kernel_rfl

theorem refNew_err {K : Nat} {key : Sl} {n : Nat} (hl : key.len = n) (h : ¬ (n = 16 ∨ n = 24 ∨ n = 32)) (w : World) : ref02_New K key w = some ((none, 20, ()), w) := by
  have e : ref02_New_s0 K key w = some ((true, ()), w) := by
    unfold ref02_New_s0
    rw [hl, if_pos (by simp; omega), if_pos (by simp; omega)]
    have : (((n : Nat) : Int) != 32) = true := by simp; omega
    rw [this]
  unfold ref02_New
  rw [e, bnd_ok, if_pos rfl]

theorem byAt_zero : ByAt (row (List.replicate 4096 0)) 0 := ⟨by rw [row_len, List.length_replicate], fun j r hj => by omega⟩

theorem refNew_ok {K : Nat} (hK : 300 ≤ K) {key : Sl} {ks : List Int} {w : World} (hks : ∀ z ∈ ks, InK .u8 z) (r : Src w key (ints .u8 ks)) (hl : ks.length = 16 ∨ ks.length = 24 ∨ ks.length = 32) :
    ∃ g w', ref02_New K key w = some ((some ⟨g, 0, none⟩, 0, ()), w') ∧ RefAt w' w.heap.size w'.heap.size g ks.length (schedS ks) false ∧ Upd none_ w w' := by
  have hlen : key.len = ks.length := by rw [r.len, ints_length]
  obtain ⟨nk, hnk⟩ : ∃ nk, nk = ks.length / 4 := ⟨_, rfl⟩
  have hk3 : nk = 4 ∨ nk = 6 ∨ nk = 8 := by omega
  have hks4 : ks.length = 4 * nk := by omega
  obtain ⟨w1, n1, b1, u1, z1⟩ := newB_ok (⟨[.slice none 0 0, .slice none 0 0] ++ (row (List.replicate 256 0) ++ (row (List.replicate 256 0) ++ (row (List.replicate 4096 0) ++ [.bool false])))⟩ : Array Value) 96 w
  have b1 : Bk 96 w1 w.heap.size ([.slice none 0 0, .slice none 0 0] ++ (row (List.replicate 256 0) ++ (row (List.replicate 256 0) ++ (row (List.replicate 4096 0) ++ [.bool false])))) := b1
  have l0 : (row (List.replicate 256 0)).length = 256 := by rw [row_len, List.length_replicate]
  have l40 : (row (List.replicate 4096 0)).length = 4096 := by rw [row_len, List.length_replicate]
  obtain ⟨w2, a2, u2⟩ := Boxes_ok hK w1
  obtain ⟨w3, a3, b3, u3⟩ := (b1.upd0 u2).stA (o := 2) (vs := (row sbT).toArray) (by rw [List.size_toArray, ls256, List.length_append, List.length_append, l0]; show 2 + 256 ≤ 2 + (256 + _); omega) (fun v hv => ints_one v hv)
  have b3 : Bk 96 w3 w.heap.size (seg ([.slice none 0 0, .slice none 0 0] ++ (row (List.replicate 256 0) ++ (row (List.replicate 256 0) ++ (row (List.replicate 4096 0) ++ [.bool false])))) 2 (row sbT)) := b3
  rw [seg_mid (o := 2) (xs := [.slice none 0 0, .slice none 0 0]) rfl (by rw [ls256, l0]), ← List.append_assoc] at b3
  have l258 : ([.slice none 0 0, .slice none 0 0] ++ row sbT : List Value).length = 258 := by rw [List.length_append, ls256]; rfl
  obtain ⟨w4, a4, b4, u4⟩ := b3.stA (o := 258) (vs := (row (invT 256)).toArray) (by rw [List.size_toArray, li256, List.length_append, l258, List.length_append, l0]; omega) (fun v hv => ints_one v hv)
  have b4 : Bk 96 w4 w.heap.size (seg (([.slice none 0 0, .slice none 0 0] ++ row sbT) ++ (row (List.replicate 256 0) ++ (row (List.replicate 4096 0) ++ [.bool false]))) 258 (row (invT 256))) := b4
  rw [seg_mid l258 (by rw [li256, l0]), List.append_assoc] at b4
  have b4 : Bk 96 w4 w.heap.size (refC ⟨none, 0, 0⟩ ⟨none, 0, 0⟩ (row (List.replicate 4096 0)) false) := b4
  have hz1 := u1.size
  have hz2 := u2.size
  have q4 : Upd none_ w w4 := ((u1.and0 u2).trans' u3 fun k hk e => by omega).trans' u4 fun k hk e => by omega
  obtain ⟨by5, w5, a5, y5, b5, u5⟩ := by_loop hK (key := key) 256 0 K _ w4 rfl (by omega) byAt_zero b4
  have a5 : ref02_New_l1 K K key ⟨w.heap.size, 0, none⟩ 0 w4 = _ := a5
  have q5 : Upd none_ w w5 := q4.trans' u5 fun k hk e => by omega
  have hsz : w.heap.size < w5.heap.size := b5.lt
  obtain ⟨sb, w6, a6, s6, o6, u6, k6⟩ := apd_ok sliceB (Own.nil 5 w5) ((r.upd q5 fun p hp => id)) (by show (0 + key.len) * 1 ≤ _; omega)
  have u6 : Upd none_ w5 w6 := u6.mono fun k _ e => by (cases e)
  obtain ⟨w7, a7, b7, u7⟩ := rf_st0 (b5.upd0 u6) y5.len sb
  have q7 : Upd none_ w w7 := (q5.and0 u6).trans' u7 fun k hk e => by omega
  have hz6 := u6.size
  have hz7 := u7.size
  obtain ⟨sr, w8, a8, s8, o8, u8, k8⟩ := apd_ok sliceB (Own.nil 5 w7) ((r.upd q7 fun p hp => id)) (by show (0 + key.len) * 1 ≤ _; omega)
  have u8 : Upd none_ w7 w8 := u8.mono fun k _ e => by (cases e)
  rw [List.nil_append] at o8
  obtain ⟨w9, a9, b9, u9⟩ := rf_st1 (b7.upd0 u8) y5.len sr
  have q9 : Upd none_ w w9 := (q7.and0 u8).trans' u9 fun k hk e => by omega
  have fr : ∀ k, sr.blk = some k → w.heap.size ≤ k ∧ k ≠ w.heap.size := fun k hk => by
    rcases k8 with e | e
    · rw [e] at hk; cases hk
    · rw [e] at hk
      have := Option.some.inj hk
      omega
  have o9 := o8.upd u9 fun k hk e => (fr k hk).2 e
  have hkr := key_round hks hks4
  rw [← hkr] at o9
  have hp0 : pwF (((keyS ks nk).length - 1) / nk) = 1 := by
    rw [keyS_len]
    have : (nk - 1) / nk = 0 := by rcases hk3 with rfl | rfl | rfl <;> rfl
    rw [this]; rfl
  obtain ⟨sr2, w10, a10, b10, o10, f10, u10⟩ := ref_l2 hK (g := w.heap.size) (B := w.heap.size) (sb := sb) y5.len hk3 rfl (Nat.le_refl _) (4 * (nk + 7) - nk) K w9 (keyS ks nk) sr (by rw [keyS_len]; omega) (by omega) (by rw [keyS_len]; exact Nat.le_refl _) (keyS_ok hks nk) b9 o9 fr q9.size
  rw [hp0, keyS_len] at a10
  have hS : expW nk (4 * (nk + 7) - nk) (keyS ks nk) = schedS ks := by
    unfold schedS
    rw [← hnk, show 4 * (nk + 7) - nk = ks.length + 28 - nk by omega]
  rw [hS] at o10
  refine ⟨w.heap.size, w10, ?_, ⟨⟨sb, sr2, by5, b10, by rw [s6]; show 0 + key.len = _; omega, o10, y5, fun k hk => ⟨(f10 k hk).1, o10.lt hk, (f10 k hk).2⟩⟩, schedS_ok hks, schedS_len hl, hl, Nat.le_refl _, b10.lt⟩, q9.trans' u10 fun k hk e => by omega⟩
  have es0 : ref02_New_s0 K key w = some ((false, ()), w) := by
    unfold ref02_New_s0
    rw [hlen]
    rcases hl with h | h | h <;> rw [h] <;> rfl
  have e1 : IntKind.i64.wrap (Int.tdiv ((key.len : Nat) : Int) 4) = (nk : Int) := by
    have e : Int.tdiv ((key.len : Nat) : Int) 4 = ((key.len / 4 : Nat) : Int) := tdiv_nat key.len 4
    rw [e, w64 (by omega) (by omega), hlen, ← hnk]
  unfold ref02_New
  rw [es0, bnd_ok, if_neg (by decide), built96, Option.bind_some, n1, bnd_ok, a2, bnd_ok, if_pos (by rw [List.size_toArray, ls256])]
  dsimp only
  show (stA (⟨w.heap.size, 2, none⟩ : Addr) (row sbT).toArray w2).bind _ = _
  rw [a3, Option.bind_some, if_pos (by rw [List.size_toArray, li256])]
  show (stA (⟨w.heap.size, 258, none⟩ : Addr) (row (invT 256)).toArray w3).bind _ = _
  rw [a4, Option.bind_some, a5, bnd_ok, rf_0 b5, Option.bind_some]
  dsimp only
  rw [a6, bnd_ok, a7, Option.bind_some, rf_1 b7, Option.bind_some]
  dsimp only
  rw [a8, bnd_ok, a9, Option.bind_some, e1]
  have a10 : ref02_New_l2 K K ⟨w.heap.size, 0, none⟩ (nk : Int) 1 (nk : Int) w9 = some ((), w10) := a10
  rw [a10, bnd_ok]

/-! ### its words -/
theorem wordI {x : W4} (h : x.ok) : bits .or .u32 (bits .or .u32 (bits .or .u32 (IntKind.u32.wrap ((IntKind.u32.wrap ((byteW x 0 : Nat) : Int)) * 2 ^ 24)) (IntKind.u32.wrap ((IntKind.u32.wrap ((byteW x 1 : Nat) : Int)) * 2 ^ 16))) (IntKind.u32.wrap ((IntKind.u32.wrap ((byteW x 2 : Nat) : Int)) * 2 ^ 8))) (IntKind.u32.wrap ((byteW x 3 : Nat) : Int)) = ((x.n : Nat) : Int) := mk32 h.1 h.2.1 h.2.2.1 h.2.2.2

theorem rwords_loop {K : Nat} {g : Nat} {sb sr : Sl} {by_ : List Value} {wp : Bool} {S : List W4} (hS : ∀ x ∈ S, x.ok) (hl : S.length ≤ 100) {B : Nat} (hgB : g < B) (hsr : ∀ k, sr.blk = some k → k < B) :
    ∀ (d i f : Nat) (w : World) (l : Sl), d + i = S.length → d < f → Bk 96 w g (refC sb sr by_ wp) → Own 5 w sr (ints .u8 (roundB S)) → Own 50 w l (ints .u32 (wN (S.take i))) → (∀ k, l.blk = some k → B ≤ k) → B ≤ w.heap.size →
      ∃ l' w', ref02_Key_Words_l0 K f (some ⟨g, 0, none⟩) l ((4 * i : Nat) : Int) w = some ((l', ()), w') ∧ Own 50 w' l' (ints .u32 (wN S)) ∧ (∀ k, l'.blk = some k → B ≤ k) ∧ Upd (fun k => B ≤ k) w w' := by
  intro d
  induction d with
  | zero =>
    intro i f w l hd hf b o ol hB1 hB2
    obtain ⟨f, rfl⟩ : ∃ m, f = m + 1 := ⟨f - 1, by omega⟩
    obtain rfl : i = S.length := by omega
    rw [List.take_length] at ol
    refine ⟨l, w, ?_, ol, hB1, Upd.refl _ w⟩
    have hsl : sr.len = 4 * S.length := by rw [o.len, ints_length, roundB_len]
    have eu : ref02_Key_Words_l0 K (f + 1) = ref02_Key_Words_l0_b K (ref02_Key_Words_l0 K f) := rfl
    rw [eu]
    unfold ref02_Key_Words_l0_b
    rw [Option.bind_some, rf_1 b, Option.bind_some, if_neg (fun e => by have := of_decide_eq_true e; omega)]
  | succ d ih =>
    intro i f w l hd hf b o ol hB1 hB2
    obtain ⟨f, rfl⟩ : ∃ m, f = m + 1 := ⟨f - 1, by omega⟩
    have hi : i < S.length := by omega
    have hsl : sr.len = 4 * S.length := by rw [o.len, ints_length, roundB_len]
    have bd := b.drew
    have od := o.drew
    have hx := getD_ok hS i
    obtain ⟨p, hp, _, _, m0⟩ := own_ld od (roundB_get S i 0 hi (by decide))
    obtain ⟨p1, hp1, _, _, m1⟩ := own_ld od (roundB_get S i 1 hi (by decide))
    obtain ⟨p2, hp2, _, _, m2⟩ := own_ld od (roundB_get S i 2 hi (by decide))
    obtain ⟨p3, hp3, _, _, m3⟩ := own_ld od (roundB_get S i 3 hi (by decide))
    rw [hp] at hp1 hp2 hp3
    obtain rfl := Option.some.inj hp1
    obtain rfl := Option.some.inj hp2
    obtain rfl := Option.some.inj hp3
    obtain ⟨w1, c1, c2, c3, c4⟩ := bldS1_ok sliceW (.int .u32 (((S.getD i z4).n : Nat) : Int)) rfl w.drew
    have c3 : Upd none_ w w1 := c3.predrew
    have hz1 := c3.size
    have hll : l.len = i := by rw [ol.len, ints_length]; simp [wN]; omega
    obtain ⟨l2, w2, d1, d2, d3, d4, d5⟩ := apd_ok sliceW (ol.upd0 c3) (c2.src (fun v hv => by rw [List.mem_singleton.1 hv]; rfl)) (by show (l.len + 1) * 4 ≤ _; omega)
    have et : S.take (i + 1) = S.take i ++ [S.getD i z4] := by
      rw [List.take_add_one, List.getD_eq_getElem?_getD, List.getElem?_eq_getElem hi]; rfl
    have d3 : Own 50 w2 l2 (ints .u32 (wN (S.take (i + 1)))) := by
      have e : wN (S.take i ++ [S.getD i z4]) = wN (S.take i) ++ [(((S.getD i z4).n : Nat) : Int)] := by simp [wN]
      rw [et, e, ints_append]; exact d3
    have u2 : Upd (fun k => B ≤ k) w w2 := (c3.mono (T := fun k => B ≤ k) fun _ _ e => e.elim).trans' d4 fun k _ e => hB1 k e
    have hB3 : ∀ k, l2.blk = some k → B ≤ k := fun k hk => by
      rcases d5 with e | e
      · exact hB1 k (e ▸ hk)
      · rw [e] at hk
        have := Option.some.inj hk; omega
    obtain ⟨l', w3, g1, g2, g3, g4⟩ := ih (i + 1) f w2 l2 (by omega) (by omega) (b.upd u2 (by omega)) (o.upd u2 fun k hk e => by have := hsr k hk; omega) d3 hB3 (by have := u2.size; omega)
    refine ⟨l', w3, ?_, g2, g3, u2.trans' g4 fun _ _ e => e⟩
    have j1 : IntKind.i64.wrap (((4 * i : Nat) : Int) + 1) = ((4 * i + 1 : Nat) : Int) := by rw [w64 (by omega) (by omega)]; omega
    have j2 : IntKind.i64.wrap (((4 * i : Nat) : Int) + 2) = ((4 * i + 2 : Nat) : Int) := by rw [w64 (by omega) (by omega)]; omega
    have j3 : IntKind.i64.wrap (((4 * i : Nat) : Int) + 3) = ((4 * i + 3 : Nat) : Int) := by rw [w64 (by omega) (by omega)]; omega
    have j4 : IntKind.i64.wrap (((4 * i : Nat) : Int) + 4) = ((4 * (i + 1) : Nat) : Int) := by rw [w64 (by omega) (by omega)]; omega
    have m0 : ldI .u8 (p.add ((4 * i) * 1)) w.drew = some ((byteW (S.getD i z4) 0 : Nat) : Int) := m0
    have eu : ref02_Key_Words_l0 K (f + 1) = ref02_Key_Words_l0_b K (ref02_Key_Words_l0 K f) := rfl
    rw [eu]
    unfold ref02_Key_Words_l0_b
    rw [Option.bind_some, rf_1 b, Option.bind_some, if_pos (decide_eq_true (by omega)), Option.bind_some, Option.bind_some, Option.bind_some, Option.bind_some, rf_1 bd, Option.bind_some, hp, Option.bind_some, if_pos (nat_in (show 4 * i < sr.len by omega)), Int.toNat_natCast, m0, Option.bind_some, Option.bind_some, hp, Option.bind_some, j1, if_pos (nat_in (show 4 * i + 1 < sr.len by omega)), Int.toNat_natCast, m1, Option.bind_some, Option.bind_some, hp, Option.bind_some, j2, if_pos (nat_in (show 4 * i + 2 < sr.len by omega)), Int.toNat_natCast, m2, Option.bind_some, Option.bind_some, hp, Option.bind_some, j3, if_pos (nat_in (show 4 * i + 3 < sr.len by omega)), Int.toNat_natCast, m3, Option.bind_some, wordI hx, c1, bnd_ok, d1, bnd_ok, j4, g1]

theorem refWords_ok {K : Nat} (hK : 300 ≤ K) {w : World} {B N g kl : Nat} {S : List W4} {wp : Bool} (r : RefAt w B N g kl S wp) :
    ∃ l w', ref02_Key_Words K (some ⟨g, 0, none⟩) w = some ((l, ()), w') ∧ Own 50 w' l (ints .u32 (wN S)) ∧ (∀ k, l.blk = some k → w.heap.size ≤ k) ∧ Upd none_ w w' := by
  obtain ⟨⟨sb, sr, by_, h1, h2, h3, h4, h5⟩, r2, r3, r4, r5, r6⟩ := r
  obtain ⟨l, w', a1, a2, a3, a4⟩ := rwords_loop (K := K) r2 (by omega) (B := w.heap.size) h1.lt (fun k hk => h3.lt hk) S.length 0 K w ⟨none, 0, 0⟩ rfl (by omega) h1 h3 (Own.nil 50 w) (fun k hk => by cases hk) (Nat.le_refl _)
  have a1 : ref02_Key_Words_l0 K K (some ⟨g, 0, none⟩) ⟨none, 0, 0⟩ 0 w = _ := a1
  refine ⟨l, w', ?_, a2, a3, a4.mono fun k hk e => by omega⟩
  unfold ref02_Key_Words
  rw [a1, bnd_ok]

theorem refRounds_ok {w : World} {B N g kl : Nat} {S : List W4} {wp : Bool} (r : RefAt w B N g kl S wp) : ref02_Key_Rounds (some ⟨g, 0, none⟩) w = some (((kl / 4 + 6 : Nat) : Int), ()) := by
  obtain ⟨⟨sb, sr, by_, h1, h2, h3, h4, h5⟩, r2, r3, r4, r5, r6⟩ := r
  have e1 : IntKind.i64.wrap (Int.tdiv ((sb.len : Nat) : Int) 4) = ((kl / 4 : Nat) : Int) := by
    have e : Int.tdiv ((sb.len : Nat) : Int) 4 = ((sb.len / 4 : Nat) : Int) := tdiv_nat sb.len 4
    rw [e, w64 (by omega) (by omega), h2]
  have e2 : IntKind.i64.wrap (((kl / 4 : Nat) : Int) + 6) = ((kl / 4 + 6 : Nat) : Int) := by rw [w64 (by omega) (by omega)]; omega
  unfold ref02_Key_Rounds
  rw [Option.bind_some, rf_0 h1, Option.bind_some, e1, e2]

end Go.Sh

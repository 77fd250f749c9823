/- Texts of this claim, put together: Gf, Field, Fld, Pol, Rs, Rep, Sol, Cod, EscA, EscB, BookA, BookB, BookC, EscC, EscD, EscE, EscF, EscG, EscH, EscI, EscJ -/
import Derived.Test.YteomkfcfhlljkaaDoorAllFwocfjfh
import Derived.Test.YteomkfcfhlljkaaDoorAllShiiimmk
/- The field of 256 elements: products by doubling, and by a product of polynomials and its remainder, on natural numbers; nothing of a program stands here. -/
namespace Go.Gf

/-- twice -/
def xt (a : Nat) : Nat := if a &&& 128 = 0 then a * 2 % 256 else (a * 2 % 256) ^^^ 27

def mulG : Nat → Nat → Nat → Nat → Nat
  | 0, _, _, p => p
  | n + 1, a, b, p => mulG n (xt a) (b / 2) (if b % 2 = 1 then p ^^^ a else p)

/-- the product -/
def mul (a b : Nat) : Nat := mulG 8 a b 0

theorem mulG_zero : ∀ (n a p : Nat), mulG n a 0 p = p
  | 0, _, _ => rfl
  | n + 1, a, p => by simp [mulG, mulG_zero n]

theorem xt_lt {a : Nat} : xt a < 256 := by
  unfold xt
  split
  · omega
  · exact Nat.xor_lt_two_pow (n := 8) (by omega) (by omega)

theorem mulG_lt : ∀ (n a b p : Nat), a < 256 → p < 256 → mulG n a b p < 256
  | 0, _, _, _, _, hp => hp
  | n + 1, a, b, p, ha, hp => by
    unfold mulG
    refine mulG_lt n _ _ _ xt_lt ?_
    split
    · exact Nat.xor_lt_two_pow (n := 8) hp ha
    · exact hp

theorem mul_lt {a b : Nat} (ha : a < 256) : mul a b < 256 := mulG_lt 8 a b 0 ha (by decide)

/-! ### The other way -/

def pol : Nat → Nat → Nat → Nat → Nat → Nat
  | 0, _, _, _, p => p
  | n + 1, i, a, b, p => pol n (i + 1) a b (if b / 2 ^ i % 2 = 1 then p ^^^ (a * 2 ^ i) else p)

def redS (i p : Nat) : Nat := if p / 2 ^ i % 2 = 1 then p ^^^ (283 * 2 ^ (i - 8)) else p
def red : Nat → Nat → Nat → Nat
  | 0, _, p => p
  | n + 1, i, p => red n (i - 1) (redS i p)

theorem redS_xor (i x y : Nat) : redS i (x ^^^ y) = redS i x ^^^ redS i y := by
  have hb : ∀ z : Nat, (z / 2 ^ i % 2 = 1) ↔ z.testBit i = true := fun z => by
    rw [Nat.testBit_eq_decide_div_mod_eq]; simp
  unfold redS
  simp only [hb, Nat.testBit_xor]
  have e1 : ∀ c : Nat, (x ^^^ c) ^^^ (y ^^^ c) = x ^^^ y := fun c => by
    have : (x ^^^ c) ^^^ (y ^^^ c) = (x ^^^ y) ^^^ (c ^^^ c) := by ac_rfl
    rw [this, Nat.xor_self, Nat.xor_zero]
  have e2 : ∀ c : Nat, (x ^^^ y) ^^^ c = x ^^^ (y ^^^ c) := fun c => by ac_rfl
  have e3 : ∀ c : Nat, (x ^^^ y) ^^^ c = (x ^^^ c) ^^^ y := fun c => by ac_rfl
  cases hx : x.testBit i <;> cases hy : y.testBit i
  · simp
  · simpa using e2 _
  · simpa using e3 _
  · simpa using (e1 _).symm

theorem red_xor : ∀ (n i x y : Nat), red n i (x ^^^ y) = red n i x ^^^ red n i y
  | 0, _, _, _ => rfl
  | n + 1, i, x, y => by simp only [red, redS_xor, red_xor n]

def xts : Nat → Nat → Nat
  | 0, a => a
  | n + 1, a => xt (xts n a)

theorem red_shift : ∀ a, a < 256 → ∀ i, i < 8 → red 7 14 (a * 2 ^ i) = xts i a := by decide +kernel

theorem mul_pol {a b : Nat} (ha : a < 256) : ∀ (n i p : Nat), n + i = 8 → mulG n (xts i a) (b / 2 ^ i) (red 7 14 p) = red 7 14 (pol n i a b p)
  | 0, _, _, _ => rfl
  | n + 1, i, p, h => by
    have ih := mul_pol ha (b := b) n (i + 1) (if b / 2 ^ i % 2 = 1 then p ^^^ (a * 2 ^ i) else p) (by omega)
    simp only [mulG, pol]
    rw [← ih]
    have e1 : b / 2 ^ i / 2 = b / 2 ^ (i + 1) := by rw [Nat.div_div_eq_div_mul, Nat.pow_succ]
    rw [e1]
    have e2 : (if b / 2 ^ i % 2 = 1 then red 7 14 p ^^^ xts i a else red 7 14 p) = red 7 14 (if b / 2 ^ i % 2 = 1 then p ^^^ (a * 2 ^ i) else p) := by
      split
      · rw [red_xor, red_shift a ha i (by omega)]
      · rfl
    rw [e2]; rfl

theorem mul_ref {a b : Nat} (ha : a < 256) : red 7 14 (pol 8 0 a b 0) = mul a b := by
  have := mul_pol ha (b := b) 8 0 0 rfl
  rw [← this]
  simp [mul, xts]
  rfl

theorem pol_lt {a b : Nat} (ha : a < 256) : ∀ (n i p : Nat), n + i = 8 → p < 32768 → pol n i a b p < 32768
  | 0, _, _, _, hp => hp
  | n + 1, i, p, h, hp => by
    unfold pol
    refine pol_lt ha n (i + 1) _ (by omega) ?_
    split
    · refine Nat.xor_lt_two_pow (n := 15) hp ?_
      have : 2 ^ i ≤ 2 ^ 7 := Nat.pow_le_pow_right (by decide) (by omega)
      have := Nat.mul_le_mul (show a ≤ 255 by omega) this
      omega
    · exact hp

theorem redS_lt {i p : Nat} (hi : i ≤ 14) (hp : p < 32768) : redS i p < 32768 := by
  unfold redS
  split
  · refine Nat.xor_lt_two_pow (n := 15) hp ?_
    have : 2 ^ (i - 8) ≤ 2 ^ 6 := Nat.pow_le_pow_right (by decide) (by omega)
    have := Nat.mul_le_mul (show 283 ≤ 283 by omega) this
    omega
  · exact hp

end Go.Gf

/- Products and substitutions of package rijndael and of the document's answer: what they compute. -/
set_option linter.unusedVariables false
namespace Go.Sh
open Go.Fw Go.Gf Go.RowKit Go.Proofs.Tryd

theorem xor8 {a b : Nat} (ha : a < 256) (hb : b < 256) : bits .xor .u8 (a : Int) (b : Int) = ((a ^^^ b : Nat) : Int) := (bits_nats (k := .u8) rfl ha hb).2.2
theorem and8 {a b : Nat} (ha : a < 256) (hb : b < 256) : bits .and .u8 (a : Int) (b : Int) = ((a &&& b : Nat) : Int) := (bits_nats (k := .u8) rfl ha hb).1
theorem xor64 {a b : Nat} (ha : a < 4611686018427387904) (hb : b < 4611686018427387904) : bits .xor .i64 (a : Int) (b : Int) = ((a ^^^ b : Nat) : Int) := by
  have ha' : a % 2 ^ 64 = a := Nat.mod_eq_of_lt (by omega)
  have hb' : b % 2 ^ 64 = b := Nat.mod_eq_of_lt (by omega)
  have hx : a ^^^ b < 2 ^ 62 := Nat.xor_lt_two_pow (by omega) (by omega)
  show IntKind.i64.wrap _ = _
  have e : ((BitVec.ofInt 64 (a : Int) ^^^ BitVec.ofInt 64 (b : Int)).toNat : Int) = ((a ^^^ b : Nat) : Int) := by
    simp only [BitVec.ofInt_natCast, BitVec.toNat_xor, BitVec.toNat_ofNat, ha', hb']
  exact (congrArg IntKind.i64.wrap e).trans (wn64 (by omega))

theorem shl8 {a : Nat} (k : Nat) : IntKind.u8.wrap ((a : Int) * 2 ^ k) = ((a * 2 ^ k % 256 : Nat) : Int) := by
  rw [IntKind.wrap_u8]; simp

theorem Times_loop (K : Nat) : ∀ (d n a b p : Nat), d ≤ 8 → a < 256 → p < 256 → b < 2 ^ d → d < n → rijndael_Times_l0 K n (a : Int) (b : Int) (p : Int) = some (.norm (((mulG d a b p : Nat) : Int), ())) := by
  intro d
  induction d with
  | zero =>
    intro n a b p hd ha hp hb hn
    obtain ⟨n, rfl⟩ : ∃ m, n = m + 1 := ⟨n - 1, by omega⟩
    have : b = 0 := by simpa using hb
    subst this
    show rijndael_Times_l0_b K (rijndael_Times_l0 K n) (a : Int) ((0 : Nat) : Int) (p : Int) = _
    simp [rijndael_Times_l0_b, mulG]
  | succ d ih =>
    intro n a b p hd ha hp hb hn
    obtain ⟨n, rfl⟩ : ∃ m, n = m + 1 := ⟨n - 1, by omega⟩
    show rijndael_Times_l0_b K (rijndael_Times_l0 K n) (a : Int) (b : Int) (p : Int) = _
    by_cases h0 : b = 0
    · subst h0
      simp [rijndael_Times_l0_b, mulG_zero]
    · have hb256 : b < 256 := by
        have : 2 ^ (d + 1) ≤ 2 ^ 8 := Nat.pow_le_pow_right (by decide) hd
        omega
      have e0 : (((b : Nat) : Int) != 0) = true := by simp; omega
      have e1 : bits .and .u8 (b : Int) 1 = ((b % 2 : Nat) : Int) := by
        have := and8 hb256 (show 1 < 256 by decide)
        rw [Nat.and_one_is_mod] at this; exact this
      have e2 : bits .and .u8 (a : Int) 128 = ((a &&& 128 : Nat) : Int) := and8 ha (show 128 < 256 by decide)
      have e3 : IntKind.u8.wrap ((a : Int) * 2 ^ 1) = ((a * 2 % 256 : Nat) : Int) := by rw [shl8]
      have e4 : bits .xor .u8 ((a * 2 % 256 : Nat) : Int) 27 = (((a * 2 % 256) ^^^ 27 : Nat) : Int) := xor8 (by omega) (show 27 < 256 by decide)
      have e5 : Int.fdiv (b : Int) (2 ^ 1) = ((b / 2 : Nat) : Int) := fdiv_pow b 1
      have hs : rijndael_Times_s1 K (a : Int) (p : Int) (((b % 2 : Nat) : Int) != 0) = some (.norm (((if b % 2 = 1 then p ^^^ a else p : Nat) : Int), ())) := by
        unfold rijndael_Times_s1
        by_cases h1 : b % 2 = 1
        · rw [h1, xor8 hp ha]; simp
        · have h2 : b % 2 = 0 := by omega
          rw [h2]; simp
      have hp' : (if b % 2 = 1 then p ^^^ a else p) < 256 := by
        split
        · exact Nat.xor_lt_two_pow (n := 8) hp ha
        · exact hp
      have ih' := ih n (xt a) (b / 2) _ (by omega) xt_lt hp' (by rw [Nat.pow_succ] at hb; omega) (by omega)
      unfold rijndael_Times_l0_b
      rw [e0, if_pos rfl, e1, hs, Option.bind_some]
      simp only [e2, e3, e4, e5]
      rw [mulG, ← ih']
      by_cases hx : a &&& 128 = 0
      · have : xt a = a * 2 % 256 := by unfold xt; rw [if_pos hx]
        rw [hx, this]; simp
      · have : xt a = (a * 2 % 256) ^^^ 27 := by unfold xt; rw [if_neg hx]
        have h3 : ((((a &&& 128 : Nat) : Int)) != 0) = true := by simp; omega
        rw [this, h3, if_pos rfl]

theorem Times_ok {K : Nat} (hK : 300 ≤ K) {a b : Nat} (ha : a < 256) (hb : b < 256) : rijndael_Times K (a : Int) (b : Int) = some (((mul a b : Nat) : Int), ()) := by
  have h := Times_loop K 8 K a b 0 (by decide) ha (by decide) hb (by omega)
  have h : rijndael_Times_l0 K K (a : Int) (b : Int) 0 = _ := h
  unfold rijndael_Times
  rw [h, Option.bind_some]
  rfl

/-! ### The document's product -/

theorem shk {i : Nat} (hi : i < 64) : (min (Int.toNat (IntKind.u64.wrap (i : Int))) IntKind.i64.bits) = i := by
  have e : IntKind.u64.wrap (i : Int) = (i : Int) := by rw [IntKind.wrap_u64]; omega
  rw [e, Int.toNat_natCast]
  exact Nat.min_eq_left (by simp only [IntKind.bits]; omega)
theorem shp {i : Nat} (hi : i < 64) : (0 : Int) ≤ IntKind.u64.wrap (i : Int) := by rw [IntKind.wrap_u64]; omega

theorem shl64 {a i : Nat} (h : a * 2 ^ i < 9223372036854775808) : IntKind.i64.wrap ((a : Int) * 2 ^ i) = ((a * 2 ^ i : Nat) : Int) := by
  have e : ((a : Int) * 2 ^ i) = ((a * 2 ^ i : Nat) : Int) := by simp
  rw [e, wn64 h]

theorem bit64 {v i : Nat} : Int.tmod (Int.fdiv (v : Int) (2 ^ i)) 2 = ((v / 2 ^ i % 2 : Nat) : Int) := by
  rw [fdiv_pow]; exact tmod_nat (v / 2 ^ i) 2

theorem ref_loop0 (K : Nat) {a b : Nat} (ha : a < 256) (hb : b < 256) : ∀ (d i n p : Nat), d + i = 8 → d < n → p < 32768 → ref02_Times_l0 K n (a : Int) (b : Int) (p : Int) (i : Int) = some (.norm (((pol d i a b p : Nat) : Int), ())) := by
  intro d
  induction d with
  | zero =>
    intro i n p hi hn hp
    obtain ⟨n, rfl⟩ : ∃ m, n = m + 1 := ⟨n - 1, by omega⟩
    have : i = 8 := by omega
    subst this
    show ref02_Times_l0_b K (ref02_Times_l0 K n) (a : Int) (b : Int) (p : Int) ((8 : Nat) : Int) = _
    simp [ref02_Times_l0_b, pol]
  | succ d ih =>
    intro i n p hi hn hp
    obtain ⟨n, rfl⟩ : ∃ m, n = m + 1 := ⟨n - 1, by omega⟩
    show ref02_Times_l0_b K (ref02_Times_l0 K n) (a : Int) (b : Int) (p : Int) (i : Int) = _
    have h8 : decide ((i : Int) < 8) = true := by simp; omega
    have hw : IntKind.i64.wrap ((i : Int) + 1) = ((i + 1 : Nat) : Int) := by rw [w64 (by omega) (by omega)]; rfl
    have hai : a * 2 ^ i < 32768 := by
      have : 2 ^ i ≤ 2 ^ 7 := Nat.pow_le_pow_right (by decide) (by omega)
      have := Nat.mul_le_mul (show a ≤ 255 by omega) this
      omega
    have hx : p ^^^ (a * 2 ^ i) < 32768 := Nat.xor_lt_two_pow (n := 15) hp hai
    unfold ref02_Times_l0_b
    rw [h8, if_pos rfl, if_pos (shp (by omega)), if_pos (shp (by omega)), wn64 (n := b) (by omega), shk (by omega), bit64, wn64 (n := a) (by omega), shl64 (by omega), xor64 (by omega) (by omega), hw]
    by_cases h1 : b / 2 ^ i % 2 = 1
    · have e1 : ((((b / 2 ^ i % 2 : Nat) : Int)) == 1) = true := by rw [h1]; rfl
      rw [e1, if_pos rfl, ih (i + 1) n _ (by omega) (by omega) hx, pol, if_pos h1]
    · have h2 : b / 2 ^ i % 2 = 0 := by omega
      have e1 : ((((b / 2 ^ i % 2 : Nat) : Int)) == 1) = false := by rw [h2]; rfl
      rw [e1, if_neg (by decide), ih (i + 1) n _ (by omega) (by omega) hp, pol, if_neg h1]

theorem ref_loop1 (K : Nat) : ∀ (d i n p : Nat), i = d + 7 → d ≤ 7 → d < n → p < 32768 → ref02_Times_l1 K n (p : Int) (i : Int) = some (.norm (((red d i p : Nat) : Int), ())) := by
  intro d
  induction d with
  | zero =>
    intro i n p hi hd hn hp
    obtain ⟨n, rfl⟩ : ∃ m, n = m + 1 := ⟨n - 1, by omega⟩
    subst hi
    show ref02_Times_l1_b K (ref02_Times_l1 K n) (p : Int) ((7 : Nat) : Int) = _
    simp [ref02_Times_l1_b, red]
  | succ d ih =>
    intro i n p hi hd hn hp
    obtain ⟨n, rfl⟩ : ∃ m, n = m + 1 := ⟨n - 1, by omega⟩
    show ref02_Times_l1_b K (ref02_Times_l1 K n) (p : Int) (i : Int) = _
    have h8 : decide ((i : Int) ≥ 8) = true := by simp; omega
    have hw : IntKind.i64.wrap ((i : Int) - 1) = ((i - 1 : Nat) : Int) := by rw [w64 (by omega) (by omega)]; omega
    have hw8 : IntKind.i64.wrap ((i : Int) - 8) = ((i - 8 : Nat) : Int) := by rw [w64 (by omega) (by omega)]; omega
    have hai : 283 * 2 ^ (i - 8) < 32768 := by
      have : 2 ^ (i - 8) ≤ 2 ^ 6 := Nat.pow_le_pow_right (by decide) (by omega)
      omega
    have hx := redS_lt (i := i) (by omega) hp
    have e283 : IntKind.i64.wrap (283 * 2 ^ (i - 8)) = ((283 * 2 ^ (i - 8) : Nat) : Int) := shl64 (a := 283) (by omega)
    unfold ref02_Times_l1_b
    rw [h8, if_pos rfl, if_pos (shp (by omega)), hw8, if_pos (shp (by omega)), shk (by omega), shk (by omega), bit64, e283, xor64 (by omega) (by omega), hw]
    have ih' := ih (i - 1) n (redS i p) (by omega) (by omega) (by omega) hx
    rw [red, ← ih']
    by_cases h1 : p / 2 ^ i % 2 = 1
    · have e1 : ((((p / 2 ^ i % 2 : Nat) : Int)) == 1) = true := by rw [h1]; rfl
      rw [e1, if_pos rfl, redS, if_pos h1]
    · have h2 : p / 2 ^ i % 2 = 0 := by omega
      have e1 : ((((p / 2 ^ i % 2 : Nat) : Int)) == 1) = false := by rw [h2]; rfl
      rw [e1, if_neg (by decide), redS, if_neg h1]

theorem refTimes_ok {K : Nat} (hK : 300 ≤ K) {a b : Nat} (ha : a < 256) (hb : b < 256) : ref02_Times K (a : Int) (b : Int) = some (((mul a b : Nat) : Int), ()) := by
  have h0 := ref_loop0 K ha hb 8 0 K 0 rfl (by omega) (by decide)
  have h0 : ref02_Times_l0 K K (a : Int) (b : Int) 0 0 = _ := h0
  have h1 := ref_loop1 K 7 14 K (pol 8 0 a b 0) rfl (by decide) (by omega) (pol_lt ha 8 0 0 rfl (by decide))
  have h1 : ref02_Times_l1 K K ((pol 8 0 a b 0 : Nat) : Int) 14 = _ := h1
  have e : IntKind.u8.wrap ((mul a b : Nat) : Int) = ((mul a b : Nat) : Int) := by
    have := mul_lt (b := b) ha
    rw [IntKind.wrap_u8]; omega
  unfold ref02_Times
  rw [h0, Option.bind_some]
  show (ref02_Times_l1 K K ((pol 8 0 a b 0 : Nat) : Int) 14).bind _ = _
  rw [h1, Option.bind_some]
  show some (IntKind.u8.wrap ((red 7 14 (pol 8 0 a b 0) : Nat) : Int), ()) = _
  rw [mul_ref ha, e]

end Go.Sh

/- The field of 256 elements: its laws. Nothing of a program stands here. -/
set_option maxRecDepth 100000
namespace Go.Gf

theorem xt_xor {a b : Nat} (ha : a < 256) (hb : b < 256) : xt (a ^^^ b) = xt a ^^^ xt b := by
  have hh : ∀ x, x < 256 → x &&& 128 = 0 ∨ x &&& 128 = 128 := by decide +kernel
  have em : (a ^^^ b) * 2 % 256 = (a * 2 % 256) ^^^ (b * 2 % 256) := by
    have e1 : ∀ x : Nat, x * 2 % 256 = (x <<< 1) % 2 ^ 8 := fun x => by rw [Nat.shiftLeft_eq]
    rw [e1, e1, e1, Nat.shiftLeft_xor_distrib, Nat.xor_mod_two_pow]
  have ea : (a ^^^ b) &&& 128 = (a &&& 128) ^^^ (b &&& 128) := Nat.and_xor_distrib_right ..
  unfold xt
  rw [ea, em]
  obtain ⟨x, hx⟩ : ∃ x, x = a * 2 % 256 := ⟨_, rfl⟩
  obtain ⟨y, hy⟩ : ∃ y, y = b * 2 % 256 := ⟨_, rfl⟩
  rw [← hx, ← hy]
  rcases hh a ha with h1 | h1 <;> rcases hh b hb with h2 | h2 <;> rw [h1, h2]
  · rfl
  · rw [if_neg (by decide), if_pos rfl, if_neg (by decide)]; ac_rfl
  · rw [if_neg (by decide), if_neg (by decide), if_pos rfl]; ac_rfl
  · rw [if_pos (by decide), if_neg (by decide), if_neg (by decide)]
    have : (x ^^^ 27) ^^^ (y ^^^ 27) = (x ^^^ y) ^^^ (27 ^^^ 27) := by ac_rfl
    rw [this, Nat.xor_self, Nat.xor_zero]

theorem mulG_xor : ∀ (n a a' m p p' : Nat), a < 256 → a' < 256 → mulG n (a ^^^ a') m (p ^^^ p') = mulG n a m p ^^^ mulG n a' m p'
  | 0, _, _, _, _, _, _, _ => rfl
  | n + 1, a, a', m, p, p', ha, ha' => by
    unfold mulG
    rw [xt_xor ha ha']
    by_cases c : m % 2 = 1
    · rw [if_pos c, if_pos c, if_pos c]
      have : (p ^^^ p') ^^^ (a ^^^ a') = (p ^^^ a) ^^^ (p' ^^^ a') := by ac_rfl
      rw [this]
      exact mulG_xor n _ _ _ _ _ xt_lt xt_lt
    · rw [if_neg c, if_neg c, if_neg c]
      exact mulG_xor n _ _ _ _ _ xt_lt xt_lt
theorem mul_xor {a b : Nat} (ha : a < 256) (hb : b < 256) (m : Nat) : mul (a ^^^ b) m = mul a m ^^^ mul b m := mulG_xor 8 a b m 0 0 ha hb

theorem nat_xor_mod_two (m n : Nat) : (m ^^^ n) % 2 = (m % 2 + n % 2) % 2 := by
  have h := Nat.testBit_xor m n 0
  rw [Nat.testBit_zero, Nat.testBit_zero, Nat.testBit_zero] at h
  rcases Nat.mod_two_eq_zero_or_one m with h1 | h1 <;> rcases Nat.mod_two_eq_zero_or_one n with h2 | h2 <;> rcases Nat.mod_two_eq_zero_or_one (m ^^^ n) with h3 | h3 <;> rw [h1, h2, h3] at h <;> rw [h1, h2, h3] <;> simp at h ⊢

theorem mulG_xorR : ∀ (n a m m' p p' : Nat), mulG n a (m ^^^ m') (p ^^^ p') = mulG n a m p ^^^ mulG n a m' p'
  | 0, _, _, _, _, _ => rfl
  | n + 1, a, m, m', p, p' => by
    unfold mulG
    have e1 : (m ^^^ m') / 2 = m / 2 ^^^ m' / 2 := Nat.xor_div_two
    have e2 : (m ^^^ m') % 2 = (m % 2 + m' % 2) % 2 := nat_xor_mod_two m m'
    rw [e1]
    have key : (if (m ^^^ m') % 2 = 1 then p ^^^ p' ^^^ a else p ^^^ p') = (if m % 2 = 1 then p ^^^ a else p) ^^^ (if m' % 2 = 1 then p' ^^^ a else p') := by
      rw [e2]
      rcases Nat.mod_two_eq_zero_or_one m with h1 | h1 <;> rcases Nat.mod_two_eq_zero_or_one m' with h2 | h2 <;> rw [h1, h2]
      · rfl
      · rw [if_pos (by decide), if_neg (by decide), if_pos rfl]; ac_rfl
      · rw [if_pos (by decide), if_pos rfl, if_neg (by decide)]; ac_rfl
      · rw [if_neg (by decide), if_pos rfl, if_pos rfl]
        have : (p ^^^ a) ^^^ (p' ^^^ a) = (p ^^^ p') ^^^ (a ^^^ a) := by ac_rfl
        rw [this, Nat.xor_self, Nat.xor_zero]
    rw [key]
    exact mulG_xorR n _ _ _ _ _
theorem mul_xorR (a m m' : Nat) : mul a (m ^^^ m') = mul a m ^^^ mul a m' := mulG_xorR 8 a m m' 0 0

/-- a byte, as an element of the field -/
structure F where
  n : Nat
  lt : n < 256
deriving DecidableEq

theorem F.ext' {a b : F} (h : a.n = b.n) : a = b := by
  cases a; cases b; cases h; rfl

instance : Add F := ⟨fun a b => ⟨a.n ^^^ b.n, Nat.xor_lt_two_pow (n := 8) a.lt b.lt⟩⟩
instance : Mul F := ⟨fun a b => ⟨mul a.n b.n, mul_lt a.lt⟩⟩
instance : OfNat F 0 := ⟨⟨0, by decide⟩⟩
instance : OfNat F 1 := ⟨⟨1, by decide⟩⟩

theorem F.add_n (a b : F) : (a + b).n = a.n ^^^ b.n := rfl
theorem F.zero_n : (0 : F).n = 0 := rfl
theorem F.add_comm (a b : F) : a + b = b + a := F.ext' (Nat.xor_comm _ _)
theorem F.add_assoc (a b c : F) : a + b + c = a + (b + c) := F.ext' (Nat.xor_assoc _ _ _)
theorem F.add_left_comm (a b c : F) : a + (b + c) = b + (a + c) := by rw [← F.add_assoc, F.add_comm a b, F.add_assoc]
theorem F.add_zero (a : F) : a + 0 = a := F.ext' (Nat.xor_zero _)
theorem F.zero_add (a : F) : 0 + a = a := F.ext' (Nat.zero_xor _)
theorem F.add_self (a : F) : a + a = 0 := F.ext' (Nat.xor_self _)
theorem F.add_cancel (a b : F) : a + (a + b) = b := by rw [← F.add_assoc, F.add_self, F.zero_add]
theorem F.add_mul (a b c : F) : (a + b) * c = a * c + b * c := F.ext' (mul_xor a.lt b.lt _)
theorem F.mul_add (a b c : F) : a * (b + c) = a * b + a * c := F.ext' (mul_xorR _ _ _)
theorem F.eq_of_add {a b : F} (h : a + b = 0) : a = b := by
  have := congrArg (· + b) h
  simp only [F.add_assoc, F.add_self, F.add_zero, F.zero_add] at this
  exact this
theorem F.zero_mul (a : F) : 0 * a = 0 := by
  have := F.add_mul 0 0 a
  rw [F.add_self, F.add_self] at this
  exact this
theorem F.mul_zero (a : F) : a * 0 = 0 := by
  have := F.mul_add a 0 0
  rw [F.add_self, F.add_self] at this
  exact this

/-- the eight bits -/
def bit (k : Nat) : F := if h : k < 8 then ⟨2 ^ k, Nat.lt_of_lt_of_le (Nat.pow_lt_pow_right (by decide) h) (Nat.le_refl _)⟩ else 0

/-- what goes with sums is told of the eight bits is told of all bytes -/
theorem F.lin {f g : F → F} (hf : ∀ a b, f (a + b) = f a + f b) (hg : ∀ a b, g (a + b) = g a + g b) (hb : ∀ k, k < 8 → f (bit k) = g (bit k)) : ∀ a, f a = g a := by
  have key : ∀ n, n ≤ 8 → ∀ a : F, a.n < 2 ^ n → f a = g a := by
    intro n
    induction n with
    | zero =>
      intro _ a h
      have h0 : a = 0 := F.ext' (by have : (2 : Nat) ^ 0 = 1 := rfl; rw [F.zero_n]; omega)
      subst h0
      have h1 := hf 0 0
      have h2 := hg 0 0
      rw [F.add_self, F.add_self] at h1 h2
      rw [h1, h2]
    | succ n ih =>
      intro hn a h
      have h2 : (2 : Nat) ^ (n + 1) = 2 ^ n + 2 ^ n := by rw [Nat.pow_succ]; omega
      by_cases c : a.n < 2 ^ n
      · exact ih (by omega) a c
      · have hx : a.n ^^^ 2 ^ n < 2 ^ n := by
          have hbit : a.n.testBit n = true := by
            rw [Nat.testBit_eq_decide_div_mod_eq]
            have : a.n / 2 ^ n = 1 := by
              have hp : 0 < 2 ^ n := Nat.two_pow_pos n
              apply Nat.div_eq_of_lt_le <;> omega
            rw [this]; decide
          apply Nat.lt_pow_two_of_testBit
          intro i hi
          rw [Nat.testBit_xor, Nat.testBit_two_pow]
          by_cases e : n = i
          · subst e; simp [hbit]
          · have : a.n < 2 ^ i := Nat.lt_of_lt_of_le h (Nat.pow_le_pow_right (by decide) (by omega))
            simp [e, Nat.testBit_lt_two_pow this]
        have hbn : (bit n).n = 2 ^ n := by unfold bit; rw [dif_pos (by omega)]
        have ea : a = (a + bit n) + bit n := by rw [F.add_assoc, F.add_self, F.add_zero]
        rw [ea, hf, hg, hb n (by omega), ih (by omega) (a + bit n) (by rw [F.add_n, hbn]; exact hx)]
  intro a
  exact key 8 (Nat.le_refl _) a a.lt

theorem F.mul_comm (a b : F) : a * b = b * a := by
  have h : ∀ i, i < 8 → ∀ j, j < 8 → bit i * bit j = bit j * bit i := by decide +kernel
  refine F.lin (f := fun a => a * b) (g := fun a => b * a) (fun x y => F.add_mul x y b) (fun x y => F.mul_add b x y) (fun i hi => ?_) a
  exact F.lin (f := fun b => bit i * b) (g := fun b => b * bit i) (fun x y => F.mul_add _ x y) (fun x y => F.add_mul x y _) (fun j hj => h i hi j hj) b

theorem F.mul_assoc (a b c : F) : a * b * c = a * (b * c) := by
  have h : ∀ i, i < 8 → ∀ j, j < 8 → ∀ k, k < 8 → bit i * bit j * bit k = bit i * (bit j * bit k) := by decide +kernel
  refine F.lin (f := fun a => a * b * c) (g := fun a => a * (b * c)) (fun x y => by simp only [F.add_mul]) (fun x y => F.add_mul x y _) (fun i hi => ?_) a
  refine F.lin (f := fun b => bit i * b * c) (g := fun b => bit i * (b * c)) (fun x y => by simp only [F.add_mul, F.mul_add]) (fun x y => by simp only [F.add_mul, F.mul_add]) (fun j hj => ?_) b
  exact F.lin (f := fun c => bit i * bit j * c) (g := fun c => bit i * (bit j * c)) (fun x y => F.mul_add _ x y) (fun x y => by simp only [F.mul_add]) (fun k hk => h i hi j hj k hk) c

theorem F.mul_left_comm (a b c : F) : a * (b * c) = b * (a * c) := by rw [← F.mul_assoc, F.mul_comm a b, F.mul_assoc]
theorem F.one_mul (a : F) : 1 * a = a :=
  F.lin (f := fun a => 1 * a) (g := fun a => a) (fun x y => F.mul_add _ x y) (fun _ _ => rfl) (by decide +kernel) a
theorem F.mul_one (a : F) : a * 1 = a := by rw [F.mul_comm, F.one_mul]

def F.pow (a : F) : Nat → F
  | 0 => 1
  | n + 1 => F.pow a n * a
theorem F.pow_zero (a : F) : F.pow a 0 = 1 := rfl
theorem F.pow_succ (a : F) (n : Nat) : F.pow a (n + 1) = F.pow a n * a := rfl
theorem F.pow_add (a : F) (m : Nat) : ∀ n, F.pow a (m + n) = F.pow a m * F.pow a n
  | 0 => (F.mul_one _).symm
  | n + 1 => by rw [← Nat.add_assoc, F.pow_succ, F.pow_add a m n, F.pow_succ, F.mul_assoc]
theorem F.pow_mul (a : F) (m : Nat) : ∀ n, F.pow a (m * n) = F.pow (F.pow a m) n
  | 0 => rfl
  | n + 1 => by rw [Nat.mul_succ, F.pow_add, F.pow_mul a m n, F.pow_succ]
theorem F.one_pow : ∀ n, F.pow 1 n = 1
  | 0 => rfl
  | n + 1 => by rw [F.pow_succ, F.one_pow n, F.mul_one]
/-- the inverse: b^254, as b^2 times b^4 and so on -/
def invG : Nat → F → F → F
  | 0, _, v => v
  | n + 1, b, v => invG n (b * b) (v * (b * b))
def F.inv (b : F) : F := invG 7 b 1

theorem F.mul_inv {a : F} (h : a ≠ 0) : a * a.inv = 1 := by
  have key : ∀ n, n < 256 → n ≠ 0 → ∀ h : n < 256, (⟨n, h⟩ : F) * F.inv ⟨n, h⟩ = 1 := by decide +kernel
  exact key a.n a.lt (fun e => h (F.ext' e)) a.lt
theorem F.inv_mul {a : F} (h : a ≠ 0) : a.inv * a = 1 := by rw [F.mul_comm, F.mul_inv h]
theorem F.mul_eq_zero {a b : F} (h : a * b = 0) : a = 0 ∨ b = 0 := by
  by_cases ha : a = 0
  · exact .inl ha
  · right
    have := congrArg (a.inv * ·) h
    simp only [← F.mul_assoc, F.inv_mul ha, F.one_mul, F.mul_zero] at this
    exact this
theorem F.mul_ne_zero {a b : F} (ha : a ≠ 0) (hb : b ≠ 0) : a * b ≠ 0 := fun h => (F.mul_eq_zero h).elim ha hb
theorem F.mul_cancel {a b c : F} (ha : a ≠ 0) (h : a * b = a * c) : b = c := by
  have := congrArg (a.inv * ·) h
  simp only [← F.mul_assoc, F.inv_mul ha, F.one_mul] at this
  exact this
theorem F.add_ne_zero {a b : F} (h : a ≠ b) : a + b ≠ 0 := fun e => h (F.eq_of_add e)
theorem F.one_ne_zero : (1 : F) ≠ 0 := by decide
theorem F.inv_ne_zero {a : F} (h : a ≠ 0) : a.inv ≠ 0 := fun e => F.one_ne_zero (by rw [← F.mul_inv h, e, F.mul_zero])
/-! ### The powers of 3 -/
def F.three : F := ⟨3, by decide⟩
theorem pow3_255 : F.pow F.three 255 = 1 := by decide +kernel
theorem pow3_ne {k : Nat} (h0 : 0 < k) (h : k < 255) : F.pow F.three k ≠ 1 := by
  have key : ∀ k, k < 255 → 0 < k → F.pow F.three k ≠ 1 := by decide +kernel
  exact key k h h0
theorem pow3_nz (k : Nat) : F.pow F.three k ≠ 0 := by
  induction k with
  | zero => exact F.one_ne_zero
  | succ k ih => exact F.mul_ne_zero ih (by decide)
theorem pow3_mod (k : Nat) : F.pow F.three (k % 255) = F.pow F.three k := by
  have := Nat.div_add_mod k 255
  rw [← this, F.pow_add, F.pow_mul, pow3_255, F.one_pow, F.one_mul, Nat.mul_add_mod, Nat.mod_mod]
theorem pow3_inj {i j : Nat} (hi : i < 255) (hj : j < 255) (h : F.pow F.three i = F.pow F.three j) : i = j := by
  have key : ∀ i j, i ≤ j → j < 255 → F.pow F.three i = F.pow F.three j → i = j := by
    intro i j hij hj h
    obtain ⟨d, rfl⟩ : ∃ d, j = i + d := ⟨j - i, by omega⟩
    cases d with
    | zero => rfl
    | succ d =>
      rw [F.pow_add] at h
      have := F.mul_cancel (pow3_nz i) ((F.mul_one _).trans h)
      exact absurd this.symm (pow3_ne (by omega) (by omega))
  rcases Nat.le_total i j with hc | hc
  · exact key i j hc hj h
  · exact (key j i hc hi h.symm).symm

end Go.Gf

/- Polynomials over the field of 256 elements: values, roots, the one through some points. Nothing of a program stands here. -/
set_option maxRecDepth 100000
namespace Go.Gf

/-- the value of a polynomial, the constant number first -/
def ev : List F → F → F
  | [], _ => 0
  | c :: l, x => c + x * ev l x

theorem ev_nil (x : F) : ev [] x = 0 := rfl
theorem ev_cons (c : F) (l : List F) (x : F) : ev (c :: l) x = c + x * ev l x := rfl

/-- the values at r of what is left of the list, one number fewer each time: the quotient by x - r -/
def syn (r : F) : List F → List F
  | [] => []
  | d :: l => ev (d :: l) r :: syn r l

theorem syn_length (r : F) : ∀ l, (syn r l).length = l.length
  | [] => rfl
  | _ :: l => by simp [syn, syn_length r l]

theorem ev_syn (r : F) : ∀ (l : List F) (x : F), ev l x = ev l r + (x + r) * (match l with | [] => 0 | _ :: l' => ev (syn r l') x)
  | [], x => by simp [ev, F.mul_zero, F.add_zero]
  | [c], x => by simp [ev, syn, F.mul_zero, F.add_zero]
  | c :: d :: l, x => by
    have ih := ev_syn r (d :: l) x
    simp only at ih
    simp only [syn]
    rw [ev_cons c, ev_cons c (d :: l) r, ih, ev_cons (ev (d :: l) r)]
    obtain ⟨A, hA⟩ : ∃ A, ev (d :: l) r = A := ⟨_, rfl⟩
    obtain ⟨B, hB⟩ : ∃ B, ev (syn r l) x = B := ⟨_, rfl⟩
    rw [hA, hB]
    simp only [F.mul_add, F.add_mul, F.add_assoc, F.add_comm, F.add_left_comm, F.mul_assoc, F.mul_comm, F.mul_left_comm, F.add_cancel, F.add_self, F.add_zero, F.zero_add]

theorem ev_append_zeros (l : List F) (x : F) : ∀ n, ev (l ++ List.replicate n 0) x = ev l x := by
  induction l with
  | nil =>
    intro n
    induction n with
    | zero => rfl
    | succ n ih =>
      rw [List.nil_append] at ih
      rw [List.nil_append, List.replicate_succ, ev_cons, ih, ev_nil, F.mul_zero, F.add_zero]
  | cons c l ih => intro n; rw [List.cons_append, ev_cons, ih, ev_cons]

theorem syn_zero (r : F) : ∀ l, (∀ c ∈ syn r l, c = 0) → ∀ c ∈ l, c = 0
  | [], _ => by simp
  | d :: l, h => by
    have h1 : ev (d :: l) r = 0 := h _ (by simp [syn])
    have h2 : ∀ c ∈ syn r l, c = 0 := fun c hc => h c (by simp [syn, hc])
    have h3 := syn_zero r l h2
    have h4 : ev l r = 0 := by
      cases l with
      | nil => rfl
      | cons e l => exact h2 _ (by simp [syn])
    rw [ev_cons, h4, F.mul_zero, F.add_zero] at h1
    intro c hc
    rcases List.mem_cons.1 hc with e | e
    · rw [e]; exact h1
    · exact h3 c e

theorem ev_zeros : ∀ (l : List F) (x : F), (∀ c ∈ l, c = 0) → ev l x = 0
  | [], _, _ => rfl
  | c :: l, x, h => by rw [ev_cons, h c (by simp), ev_zeros l x (fun d hd => h d (by simp [hd])), F.mul_zero, F.add_zero]

/-- more roots than numbers: all numbers are nought -/
theorem ev_roots : ∀ (rs : List F) (l : List F), rs.Nodup → l.length ≤ rs.length → (∀ r ∈ rs, ev l r = 0) → ∀ c ∈ l, c = 0
  | _, [], _, _, _ => by simp
  | [], c :: l, _, h, _ => by simp at h
  | r :: rs, c :: l, hn, hl, hr => by
    have hn' := List.nodup_cons.1 hn
    have hq : ∀ d ∈ syn r l, d = 0 := by
      refine ev_roots rs (syn r l) hn'.2 (by rw [syn_length]; simpa using hl) fun r' hr' => ?_
      have h1 := ev_syn r (c :: l) r'
      simp only at h1
      rw [hr r' (by simp [hr']), hr r (by simp), F.zero_add] at h1
      have hne : r' + r ≠ 0 := F.add_ne_zero fun e => hn'.1 (e ▸ hr')
      exact (F.mul_eq_zero h1.symm).resolve_left hne
    have hz := syn_zero r l hq
    have h0 := hr r (by simp)
    rw [ev_cons, ev_zeros l r hz, F.mul_zero, F.add_zero] at h0
    intro d hd
    rcases List.mem_cons.1 hd with e | e
    · rw [e]; exact h0
    · exact hz d e

def addL : List F → List F → List F
  | [], m => m
  | l, [] => l
  | a :: l, b :: m => (a + b) :: addL l m
theorem addL_length : ∀ l m : List F, l.length = m.length → (addL l m).length = l.length
  | [], m, h => by simp at h; simp [addL, h]
  | a :: l, [], h => by simp at h
  | a :: l, b :: m, h => by simp [addL, addL_length l m (by simpa using h)]
theorem ev_addL (x : F) : ∀ l m : List F, ev (addL l m) x = ev l x + ev m x
  | [], m => by rw [ev_nil, F.zero_add]; rfl
  | a :: l, [] => by rw [ev_nil, F.add_zero]; rfl
  | a :: l, b :: m => by
    show (a + b) + x * ev (addL l m) x = (a + x * ev l x) + (b + x * ev m x)
    rw [ev_addL x l m, F.mul_add]
    simp only [F.add_assoc, F.add_comm, F.add_left_comm]

/-- is it a polynomial of n numbers? -/
def IsPoly (n : Nat) (f : F → F) : Prop := ∃ l : List F, l.length = n ∧ ∀ x, f x = ev l x

theorem IsPoly.add {n : Nat} {f g : F → F} (h : IsPoly n f) (h' : IsPoly n g) : IsPoly n (fun x => f x + g x) := by
  obtain ⟨l, hl, e⟩ := h; obtain ⟨m, hm, e'⟩ := h'
  exact ⟨addL l m, by rw [addL_length _ _ (by omega), hl], fun x => by rw [ev_addL, ← e, ← e']⟩
theorem IsPoly.mono {n m : Nat} {f : F → F} (h : IsPoly n f) (hm : n ≤ m) : IsPoly m f := by
  obtain ⟨l, hl, e⟩ := h
  exact ⟨l ++ List.replicate (m - n) 0, by simp [hl]; omega, fun x => by rw [e, ev_append_zeros]⟩
theorem IsPoly.zero (n : Nat) : IsPoly n (fun _ => 0) := IsPoly.mono (n := 0) ⟨[], rfl, fun _ => rfl⟩ (Nat.zero_le n)
theorem IsPoly.const (c : F) : IsPoly 1 (fun _ => c) := ⟨[c], rfl, fun x => by rw [ev_cons, ev_nil, F.mul_zero, F.add_zero]⟩
theorem IsPoly.ev (l : List F) : IsPoly l.length (ev l) := ⟨l, rfl, fun _ => rfl⟩

/-- two that agree at as many points as they have numbers are one -/
theorem IsPoly.ext {n : Nat} {f g : F → F} (h : IsPoly n f) (h' : IsPoly n g) {rs : List F} (hn : rs.Nodup) (hl : n ≤ rs.length) (ha : ∀ r ∈ rs, f r = g r) (x : F) : f x = g x := by
  obtain ⟨l, hll, e⟩ := h.add h'
  have hz := ev_roots rs l hn (by omega) fun r hr => by rw [← e]; show f r + g r = 0; rw [ha r hr, F.add_self]
  have := e x
  rw [ev_zeros l x hz] at this
  exact F.eq_of_add this

/-! ### Through points -/

end Go.Gf

/- Rows with a right code: the sums, how far two of them lie apart, the one that lies near. Nothing of a program stands here. -/
set_option maxRecDepth 100000
namespace Go.Gf

/-- a row's value by Horner's rule, the first number that of the highest power -/
def horG (x : F) : List F → F → F
  | [], v => v
  | c :: l, v => horG x l (v * x + c)
def hor (x : F) (l : List F) : F := horG x l 0

theorem horG_eq (x : F) : ∀ (l : List F) (v : F), horG x l v = v * F.pow x l.length + hor x l
  | [], v => by simp [horG, hor, F.pow_zero, F.mul_one, F.add_zero]
  | c :: l, v => by
    show horG x l (v * x + c) = _ + horG x l (0 * x + c)
    rw [horG_eq x l, horG_eq x l (0 * x + c), F.zero_mul, F.zero_add, List.length_cons, F.pow_succ, F.add_mul]
    simp only [F.mul_assoc, F.add_assoc, F.mul_comm x]
theorem hor_nil (x : F) : hor x [] = 0 := rfl
theorem hor_cons (x c : F) (l : List F) : hor x (c :: l) = c * F.pow x l.length + hor x l := by
  show horG x l (0 * x + c) = _
  rw [horG_eq, F.zero_mul, F.zero_add]
/-- two rows added -/
def xorR : List F → List F → List F
  | a :: l, b :: m => (a + b) :: xorR l m
  | _, _ => []
theorem xorR_length : ∀ {l m : List F}, l.length = m.length → (xorR l m).length = l.length
  | [], m, h => by cases m <;> simp [xorR] at h ⊢
  | a :: l, [], h => by simp at h
  | a :: l, b :: m, h => by simp [xorR, xorR_length (l := l) (m := m) (by simpa using h)]
theorem hor_xorR (x : F) : ∀ {l m : List F}, l.length = m.length → hor x (xorR l m) = hor x l + hor x m
  | [], m, h => by
    cases m with
    | nil => exact (F.add_zero _).symm
    | cons b m => simp at h
  | a :: l, [], h => by simp at h
  | a :: l, b :: m, h => by
    have h' : l.length = m.length := by simpa using h
    show hor x ((a + b) :: xorR l m) = _
    rw [hor_cons, hor_cons, hor_cons, hor_xorR x h', xorR_length h', h', F.add_mul]
    simp only [F.add_assoc, F.add_comm, F.add_left_comm]

/-- the places of a row where it is not nought: what stands there, 3 to the power of the place -/
def supp : List F → List (F × F)
  | [] => []
  | c :: l => if c = 0 then supp l else (c, F.pow F.three l.length) :: supp l

theorem supp_cons (c : F) (l : List F) : supp (c :: l) = if c = 0 then supp l else (c, F.pow F.three l.length) :: supp l := rfl

def sumP (j : Nat) : List (F × F) → F
  | [] => 0
  | p :: ps => p.1 * F.pow p.2 j + sumP j ps

theorem pow_comm' (a : F) (m n : Nat) : F.pow (F.pow a m) n = F.pow (F.pow a n) m := by rw [← F.pow_mul, ← F.pow_mul, Nat.mul_comm]

theorem hor_supp (j : Nat) : ∀ l : List F, hor (F.pow F.three j) l = sumP j (supp l)
  | [] => rfl
  | c :: l => by
    rw [hor_cons, hor_supp j l]
    rw [supp_cons]
    by_cases h : c = 0
    · rw [if_pos h, h, F.zero_mul, F.zero_add]
    · rw [if_neg h, sumP, pow_comm']

theorem supp_place : ∀ {l : List F} {p : F × F}, p ∈ supp l → ∃ i, i < l.length ∧ p.2 = F.pow F.three i
  | [], _, h => by simp [supp] at h
  | c :: l, p, h => by
    unfold supp at h
    by_cases hc : c = 0
    · rw [if_pos hc] at h
      obtain ⟨i, hi, e⟩ := supp_place h
      exact ⟨i, by simp; omega, e⟩
    · rw [if_neg hc] at h
      rcases List.mem_cons.1 h with e | e
      · exact ⟨l.length, by simp, by rw [e]⟩
      · obtain ⟨i, hi, e⟩ := supp_place e
        exact ⟨i, by simp; omega, e⟩

theorem supp_nodup : ∀ {l : List F}, l.length ≤ 255 → ((supp l).map (·.2)).Nodup
  | [], _ => by simp [supp]
  | c :: l, h => by
    have h' : l.length ≤ 255 := by simp at h; omega
    unfold supp
    by_cases hc : c = 0
    · rw [if_pos hc]; exact supp_nodup h'
    · rw [if_neg hc, List.map_cons, List.nodup_cons]
      refine ⟨fun hm => ?_, supp_nodup h'⟩
      obtain ⟨p, hp, e⟩ := List.mem_map.1 hm
      obtain ⟨i, hi, e2⟩ := supp_place hp
      have : i = l.length := pow3_inj (by simp at h; omega) (by simp at h; omega) (e2.symm.trans e)
      omega

def shiftP (x0 : F) (ps : List (F × F)) : List (F × F) := ps.map fun p => (p.1 * (p.2 + x0), p.2)
theorem shiftP_sum (x0 : F) (j : Nat) : ∀ qs : List (F × F), sumP j (shiftP x0 qs) = sumP (j + 1) qs + x0 * sumP j qs
  | [] => by simp [shiftP, sumP, F.mul_zero, F.add_zero]
  | q :: qs => by
    have ih := shiftP_sum x0 j qs
    show q.1 * (q.2 + x0) * F.pow q.2 j + sumP j (shiftP x0 qs) = (q.1 * F.pow q.2 (j + 1) + sumP (j + 1) qs) + x0 * (q.1 * F.pow q.2 j + sumP j qs)
    rw [ih, F.pow_succ]
    obtain ⟨A, hA⟩ : ∃ A, F.pow q.2 j = A := ⟨_, rfl⟩
    obtain ⟨B, hB⟩ : ∃ B, sumP (j + 1) qs = B := ⟨_, rfl⟩
    obtain ⟨C, hC⟩ : ∃ C, sumP j qs = C := ⟨_, rfl⟩
    rw [hA, hB, hC]
    simp only [F.mul_add, F.add_mul, F.add_assoc, F.add_comm, F.add_left_comm, F.mul_assoc, F.mul_comm, F.mul_left_comm]
theorem shiftP_places (x0 : F) (ps : List (F × F)) : (shiftP x0 ps).map (·.2) = ps.map (·.2) := by
  simp [shiftP, List.map_map, Function.comp_def]
theorem sumP_zeros : ∀ {qs : List (F × F)}, (∀ p ∈ qs, p.1 = 0) → sumP 0 qs = 0
  | [], _ => rfl
  | q :: qs, h => by rw [sumP, h q (by simp), F.zero_mul, F.zero_add]; exact sumP_zeros fun p hp => h p (by simp [hp])

/-- as many sums as places: all stands at nought -/
theorem vdm (m : Nat) : ∀ (ps : List (F × F)), (ps.map (·.2)).Nodup → ps.length ≤ m → (∀ j, j < m → sumP j ps = 0) → ∀ p ∈ ps, p.1 = 0 := by
  induction m with
  | zero =>
    intro ps _ hl _ p hp
    cases ps with
    | nil => cases hp
    | cons q ps => simp at hl
  | succ m ih =>
    intro ps hn hl hs
    cases ps with
    | nil => intro p hp; cases hp
    | cons q ps =>
      have hn' : q.2 ∉ ps.map (·.2) ∧ (ps.map (·.2)).Nodup := List.nodup_cons.1 hn
      have h1 : ∀ j, j < m → sumP j (shiftP q.2 ps) = 0 := fun j hj => by
        have e := shiftP_sum q.2 j (q :: ps)
        have e2 : sumP j (shiftP q.2 (q :: ps)) = q.1 * (q.2 + q.2) * F.pow q.2 j + sumP j (shiftP q.2 ps) := rfl
        rw [e2, F.add_self, F.mul_zero, F.zero_mul, F.zero_add, hs (j + 1) (by omega), hs j (by omega), F.mul_zero, F.add_zero] at e
        exact e
      have h2 := ih (shiftP q.2 ps) (by rw [shiftP_places]; exact hn'.2) (by simp [shiftP] at hl ⊢; exact hl) h1
      have h3 : ∀ p ∈ ps, p.1 = 0 := fun p hp => by
        have h4 : (p.1 * (p.2 + q.2), p.2) ∈ shiftP q.2 ps := List.mem_map.2 ⟨p, hp, rfl⟩
        have h5 := h2 _ h4
        have hne : p.2 + q.2 ≠ 0 := F.add_ne_zero fun e => hn'.1 (e ▸ List.mem_map.2 ⟨p, hp, rfl⟩)
        exact (F.mul_eq_zero h5).resolve_right hne
      have h5 := hs 0 (by omega)
      rw [sumP, sumP_zeros h3, F.add_zero, F.pow_zero, F.mul_one] at h5
      intro p hp
      rcases List.mem_cons.1 hp with e | e
      · rw [e]; exact h5
      · exact h3 p e

theorem supp_nz : ∀ {l : List F} {p : F × F}, p ∈ supp l → p.1 ≠ 0
  | [], _, h => by simp [supp] at h
  | c :: l, p, h => by
    unfold supp at h
    by_cases hc : c = 0
    · rw [if_pos hc] at h; exact supp_nz h
    · rw [if_neg hc] at h
      rcases List.mem_cons.1 h with e | e
      · rw [e]; exact hc
      · exact supp_nz e
theorem supp_nil : ∀ {l : List F}, supp l = [] → ∀ c ∈ l, c = 0
  | [], _ => by simp
  | c :: l, h => by
    unfold supp at h
    by_cases hc : c = 0
    · rw [if_pos hc] at h
      intro d hd
      rcases List.mem_cons.1 hd with e | e
      · rw [e]; exact hc
      · exact supp_nil h d e
    · rw [if_neg hc] at h; simp at h

/-- is the row's code right? -/
def Right (l : List F) : Prop := ∀ j, j < 4 → hor (F.pow F.three j) l = 0
instance (l : List F) : Decidable (Right l) := inferInstanceAs (Decidable (∀ j, j < 4 → _))

/-- in how many places two rows differ -/
def far (l m : List F) : Nat := (supp (xorR l m)).length

/-- rows with right codes: alike, or unlike in five places or more -/
theorem right_far {l m : List F} (h : l.length = m.length) (hl : l.length ≤ 255) (h1 : Right l) (h2 : Right m) (hf : far l m ≤ 4) : l = m := by
  have hx := xorR_length h
  have hz : supp (xorR l m) = [] := by
    have := vdm 4 (supp (xorR l m)) (supp_nodup (by omega)) hf fun j hj => by rw [← hor_supp, hor_xorR _ h, h1 j hj, h2 j hj, F.add_zero]
    cases hs : supp (xorR l m) with
    | nil => rfl
    | cons p ps => exact absurd (this p (by rw [hs]; simp)) (supp_nz (l := xorR l m) (by rw [hs]; simp))
  have hall := supp_nil hz
  clear h1 h2 hf hz hl hx
  induction l generalizing m with
  | nil => cases m with
    | nil => rfl
    | cons b m => simp at h
  | cons a l ih =>
    cases m with
    | nil => simp at h
    | cons b m =>
      rw [F.eq_of_add (hall (a + b) (by simp [xorR])), ih (by simpa using h) fun c hc => hall c (by simp [xorR, hc])]

end Go.Gf

/- A row put right: by the program's way, and by trying all places: both find the one row that lies near. Nothing of a program stands here. -/
set_option maxRecDepth 100000
namespace Go.Gf

/-- 3 to the power j -/
def tj (j : Nat) : F := F.pow F.three j
/-- the sums of a row -/
def sj (b : List F) (j : Nat) : F := hor (tj j) b

/-! ### All places tried, one by one -/

theorem pow_one (x : F) : F.pow x 1 = x := by show 1 * x = x; rw [F.one_mul]
/-! ### The program's way -/

def delta (b : List F) : F := sj b 0 * sj b 2 + sj b 1 * sj b 1
def one (b : List F) : F := (sj b 0 * sj b 3 + sj b 1 * sj b 2) * (delta b).inv
def two (b : List F) : F := (sj b 1 * sj b 3 + sj b 2 * sj b 2) * (delta b).inv
def rootsG (o t : F) : Nat → Nat → List F
  | 0, _ => []
  | d + 1, i => if tj i * tj i + o * tj i + t = 0 then tj i :: rootsG o t d (i + 1) else rootsG o t d (i + 1)
def roots (b : List F) : List F := rootsG (one b) (two b) b.length 0
end Go.Gf

/- Equations solved by taking rows away from rows. Nothing of a program stands here. -/
set_option maxRecDepth 100000
namespace Go.Gf

def dot : List F → List F → F
  | a :: l, b :: m => a * b + dot l m
  | _, _ => 0

theorem dot_cons (a b : F) (l m : List F) : dot (a :: l) (b :: m) = a * b + dot l m := rfl
theorem dot_nilR (l : List F) : dot l [] = 0 := by cases l <;> rfl
theorem dot_scale (f : F) : ∀ (l z : List F), dot (l.map (f * ·)) z = f * dot l z
  | [], z => by show (0 : F) = f * 0; rw [F.mul_zero]
  | a :: l, [] => by rw [dot_nilR, dot_nilR, F.mul_zero]
  | a :: l, b :: z => by
    rw [List.map_cons, dot_cons, dot_cons, dot_scale f l z, F.mul_add, F.mul_assoc]
theorem dot_scaleR (f : F) : ∀ (l z : List F), dot (l.map (· * f)) z = dot l z * f := by
  intro l z
  have : l.map (· * f) = l.map (f * ·) := List.map_congr_left fun a _ => F.mul_comm a f
  rw [this, dot_scale, F.mul_comm]
theorem dot_xorR : ∀ {l m : List F} (z : List F), l.length = m.length → dot (xorR l m) z = dot l z + dot m z
  | [], m, z, h => by
    cases m with
    | nil => exact (F.add_zero _).symm
    | cons b m => simp at h
  | a :: l, [], z, h => by simp at h
  | a :: l, b :: m, [], h => by rw [dot_nilR, dot_nilR, dot_nilR, F.add_zero]
  | a :: l, b :: m, c :: z, h => by
    show dot ((a + b) :: xorR l m) (c :: z) = _
    rw [dot_cons, dot_cons, dot_cons, dot_xorR z (by simpa using h), F.add_mul]
    simp only [F.add_assoc, F.add_comm, F.add_left_comm]
/-- a number of some rows -/
def E (rows : List (List F)) (i t : Nat) : F := (rows.getD i []).getD t 0

def Z (rows : List (List F)) (z : List F) : Prop := ∀ r ∈ rows, dot r z = 0

def swapR (rows : List (List F)) (c a : Nat) : List (List F) := (rows.set c (rows.getD a [])).set a (rows.getD c [])
def normR (rows : List (List F)) (c : Nat) : List (List F) := rows.set c ((rows.getD c []).map (· * (E rows c c).inv))
def lessR (q : List F) (c : Nat) (r : List F) : List F := xorR r (q.map (r.getD c 0 * ·))
def elimR (rows : List (List F)) (c : Nat) : List (List F) := rows.mapIdx fun i r => if i = c then r else lessR (rows.getD c []) c r
def pivotG (rows : List (List F)) (c : Nat) : Nat → Nat → Option Nat
  | 0, _ => none
  | d + 1, i => if E rows i c ≠ 0 then some i else pivotG rows c d (i + 1)
def stepS (rows : List (List F)) (c : Nat) : Option (List (List F)) :=
  (pivotG rows c (rows.length - c) c).map fun a => elimR (normR (swapR rows c a) c) c
def solveG : List (List F) → Nat → Nat → Option (List (List F))
  | rows, 0, _ => some rows
  | rows, d + 1, c => (stepS rows c).bind fun r => solveG r d (c + 1)
def restG (r : List (List F)) (n : Nat) : Nat → Nat → Bool
  | 0, _ => true
  | d + 1, i => if E r i n = 0 then restG r n d (i + 1) else false
def solve (n : Nat) (rows : List (List F)) : Option (List F) :=
  (solveG rows n 0).bind fun r => if restG r n (r.length - n) n = true then some ((List.range n).map fun c => E r c n) else none
theorem restG_iff (r : List (List F)) (n : Nat) : ∀ (d i : Nat), restG r n d i = true ↔ ∀ k, i ≤ k → k < i + d → E r k n = 0
  | 0, i => ⟨fun _ k h1 h2 => by omega, fun _ => rfl⟩
  | d + 1, i => by
    unfold restG
    by_cases c : E r i n = 0
    · rw [if_pos c, restG_iff r n d (i + 1)]
      constructor
      · intro h k h1 h2
        by_cases e : k = i
        · rw [e]; exact c
        · exact h k (by omega) (by omega)
      · intro h k h1 h2; exact h k (by omega) (by omega)
    · rw [if_neg c]
      constructor
      · intro h; cases h
      · intro h; exact absurd (h i (Nat.le_refl _) (by omega)) c

/-! ### What a step keeps -/

theorem Z_iff (rows : List (List F)) (z : List F) : Z rows z ↔ ∀ i, i < rows.length → dot (rows.getD i []) z = 0 := by
  constructor
  · intro h i hi
    rw [List.getD_eq_getElem?_getD, List.getElem?_eq_getElem hi]
    exact h _ (List.getElem_mem hi)
  · intro h r hr
    obtain ⟨i, hi, e⟩ := List.getElem_of_mem hr
    have := h i hi
    rw [List.getD_eq_getElem?_getD, List.getElem?_eq_getElem hi] at this
    rw [← e]; exact this

theorem getD_set_self {rows : List (List F)} {c : Nat} (r : List F) (hc : c < rows.length) : (rows.set c r).getD c [] = r := by
  rw [List.getD_eq_getElem?_getD, List.getElem?_set_self hc]; rfl
theorem getD_set_ne {rows : List (List F)} {c i : Nat} (r : List F) (h : c ≠ i) : (rows.set c r).getD i [] = rows.getD i [] := by
  rw [List.getD_eq_getElem?_getD, List.getElem?_set_ne h, List.getD_eq_getElem?_getD]

theorem swap_get {rows : List (List F)} {c a : Nat} (hc : c < rows.length) (ha : a < rows.length) (i : Nat) :
    (swapR rows c a).getD i [] = if i = a then rows.getD c [] else if i = c then rows.getD a [] else rows.getD i [] := by
  unfold swapR
  by_cases h : i = a
  · subst h; rw [if_pos rfl, getD_set_self _ (by simpa using ha)]
  · rw [if_neg h, getD_set_ne _ (Ne.symm h)]
    by_cases h2 : i = c
    · subst h2; rw [if_pos rfl, getD_set_self _ hc]
    · rw [if_neg h2, getD_set_ne _ (Ne.symm h2)]
theorem swap_length (rows : List (List F)) (c a : Nat) : (swapR rows c a).length = rows.length := by simp [swapR]
theorem norm_length (rows : List (List F)) (c : Nat) : (normR rows c).length = rows.length := by simp [normR]
theorem elim_length (rows : List (List F)) (c : Nat) : (elimR rows c).length = rows.length := by simp [elimR]
theorem norm_get {rows : List (List F)} {c : Nat} (hc : c < rows.length) (i : Nat) : (normR rows c).getD i [] = if i = c then (rows.getD c []).map (· * (E rows c c).inv) else rows.getD i [] := by
  unfold normR
  by_cases h : i = c
  · subst h; rw [if_pos rfl, getD_set_self _ hc]
  · rw [if_neg h, getD_set_ne _ (Ne.symm h)]
theorem elim_get {rows : List (List F)} {c : Nat} {i : Nat} (hi : i < rows.length) : (elimR rows c).getD i [] = if i = c then rows.getD i [] else lessR (rows.getD c []) c (rows.getD i []) := by
  unfold elimR
  rw [List.getD_eq_getElem?_getD, List.getElem?_mapIdx, List.getElem?_eq_getElem hi]
  simp [List.getD_eq_getElem?_getD, List.getElem?_eq_getElem hi]

theorem Z_swap {rows : List (List F)} {c a : Nat} (hc : c < rows.length) (ha : a < rows.length) (z : List F) : Z (swapR rows c a) z ↔ Z rows z := by
  rw [Z_iff, Z_iff, swap_length]
  constructor
  · intro h i hi
    by_cases h1 : i = a
    · subst h1
      by_cases h2 : c = i
      · subst h2; have := h c hc; rw [swap_get hc ha, if_pos rfl] at this; exact this
      · have := h c hc; rw [swap_get hc ha, if_neg h2, if_pos rfl] at this; exact this
    · by_cases h2 : i = c
      · subst h2; have := h a ha; rw [swap_get hc ha, if_pos rfl] at this; exact this
      · have := h i hi; rw [swap_get hc ha, if_neg h1, if_neg h2] at this; exact this
  · intro h i hi
    rw [swap_get hc ha]
    split
    · exact h c hc
    · split
      · exact h a ha
      · exact h i hi
theorem Z_norm {rows : List (List F)} {c : Nat} (hc : c < rows.length) (hz : E rows c c ≠ 0) (z : List F) : Z (normR rows c) z ↔ Z rows z := by
  rw [Z_iff, Z_iff, norm_length]
  constructor
  · intro h i hi
    have h1 := h i hi
    rw [norm_get hc] at h1
    by_cases h2 : i = c
    · rw [if_pos h2, dot_scaleR] at h1
      rw [h2]
      exact (F.mul_eq_zero h1).resolve_right (F.inv_ne_zero hz)
    · rwa [if_neg h2] at h1
  · intro h i hi
    rw [norm_get hc]
    split
    · rw [dot_scaleR, h c hc, F.zero_mul]
    · exact h i hi
theorem Z_elim {rows : List (List F)} {c m : Nat} (hc : c < rows.length) (hl : ∀ i, i < rows.length → (rows.getD i []).length = m) (z : List F) : Z (elimR rows c) z ↔ Z rows z := by
  rw [Z_iff, Z_iff, elim_length]
  have hd : ∀ i, i < rows.length → dot (lessR (rows.getD c []) c (rows.getD i [])) z = dot (rows.getD i []) z + (rows.getD i []).getD c 0 * dot (rows.getD c []) z := fun i hi => by
    unfold lessR
    rw [dot_xorR z (by rw [List.length_map, hl i hi, hl c hc]), dot_scale]
  constructor
  · intro h i hi
    have h0 := h c hc
    rw [elim_get hc, if_pos rfl] at h0
    have h1 := h i hi
    rw [elim_get hi] at h1
    by_cases h2 : i = c
    · rwa [if_pos h2] at h1
    · rw [if_neg h2, hd i hi, h0, F.mul_zero, F.add_zero] at h1; exact h1
  · intro h i hi
    rw [elim_get hi]
    split
    · exact h i hi
    · rw [hd i hi, h i hi, h c hc, F.mul_zero, F.add_zero]

theorem getD_xorR : ∀ {l m : List F} (t : Nat), l.length = m.length → (xorR l m).getD t 0 = l.getD t 0 + m.getD t 0
  | [], m, t, h => by
    cases m with
    | nil => simp [xorR, F.add_zero]
    | cons b m => simp at h
  | a :: l, [], t, h => by simp at h
  | a :: l, b :: m, 0, h => rfl
  | a :: l, b :: m, t + 1, h => by
    have := getD_xorR (l := l) (m := m) t (by simpa using h)
    simpa [xorR] using this
theorem getD_map0 (f : F → F) (hf : f 0 = 0) : ∀ (l : List F) (t : Nat), (l.map f).getD t 0 = f (l.getD t 0)
  | [], t => by simp [hf]
  | a :: l, 0 => rfl
  | a :: l, t + 1 => by simpa using getD_map0 f hf l t

structure Shape (m n c : Nat) (rows : List (List F)) : Prop where
  len : rows.length = m
  row : ∀ i, i < m → (rows.getD i []).length = n + 1
  unit : ∀ i t, i < m → t < c → E rows i t = if i = t then 1 else 0

theorem pivot_some {rows : List (List F)} {c : Nat} : ∀ (d i a : Nat), pivotG rows c d i = some a → i ≤ a ∧ a < i + d ∧ E rows a c ≠ 0
  | 0, _, _, h => by cases h
  | d + 1, i, a, h => by
    unfold pivotG at h
    split at h
    · rename_i hne; obtain rfl := Option.some.inj h; exact ⟨Nat.le_refl _, by omega, hne⟩
    · have := pivot_some d (i + 1) a h; exact ⟨by omega, by omega, this.2.2⟩
theorem pivot_none {rows : List (List F)} {c : Nat} : ∀ (d i : Nat), pivotG rows c d i = none → ∀ a, i ≤ a → a < i + d → E rows a c = 0
  | 0, _, _, a, h1, h2 => by omega
  | d + 1, i, h, a, h1, h2 => by
    unfold pivotG at h
    split at h
    · cases h
    · rename_i hne
      by_cases e : a = i
      · subst e; exact Classical.byContradiction hne
      · exact pivot_none d (i + 1) h a (by omega) (by omega)

theorem step_shape {m n c : Nat} {rows : List (List F)} (S : Shape m n c rows) (hcm : c < m) {a : Nat} (ha : c ≤ a) (ham : a < m) (hz : E rows a c ≠ 0) :
    Shape m n (c + 1) (elimR (normR (swapR rows c a) c) c) ∧ ∀ z, Z (elimR (normR (swapR rows c a) c) c) z ↔ Z rows z := by
  have hl := S.len
  have hc : c < rows.length := by omega
  have ha' : a < rows.length := by omega
  obtain ⟨R1, hR1⟩ : ∃ R1, swapR rows c a = R1 := ⟨_, rfl⟩
  have l1 : R1.length = m := by rw [← hR1, swap_length, hl]
  have g1 : ∀ i, R1.getD i [] = if i = a then rows.getD c [] else if i = c then rows.getD a [] else rows.getD i [] := fun i => by rw [← hR1]; exact swap_get hc ha' i
  have s1 : Shape m n c R1 := by
    refine ⟨l1, fun i hi => ?_, fun i t hi ht => ?_⟩
    · rw [g1]
      split
      · exact S.row c hcm
      · split
        · exact S.row a ham
        · exact S.row i hi
    · unfold E
      rw [g1]
      by_cases h1 : i = a
      · rw [if_pos h1, if_neg (by omega)]
        have := S.unit c t hcm ht
        rw [if_neg (by omega)] at this; exact this
      · rw [if_neg h1]
        by_cases h2 : i = c
        · rw [if_pos h2, if_neg (by omega)]
          have := S.unit a t ham ht
          rw [if_neg (by omega)] at this; exact this
        · rw [if_neg h2]; exact S.unit i t hi ht
  have p1 : E R1 c c ≠ 0 := by
    unfold E
    rw [g1]
    by_cases h1 : c = a
    · rw [if_pos h1, h1]; rw [← h1] at hz ⊢; exact hz
    · rw [if_neg h1, if_pos rfl]; exact hz
  obtain ⟨R2, hR2⟩ : ∃ R2, normR R1 c = R2 := ⟨_, rfl⟩
  have l2 : R2.length = m := by rw [← hR2, norm_length, l1]
  have g2 : ∀ i, R2.getD i [] = if i = c then (R1.getD c []).map (· * (E R1 c c).inv) else R1.getD i [] := fun i => by rw [← hR2]; exact norm_get (by omega) i
  have e2 : ∀ i t, E R2 i t = if i = c then E R1 c t * (E R1 c c).inv else E R1 i t := fun i t => by
    unfold E
    rw [g2]
    split
    · exact getD_map0 (· * _) (F.zero_mul _) _ _
    · rfl
  have r2 : ∀ i, i < m → (R2.getD i []).length = n + 1 := fun i hi => by
    rw [g2]
    split
    · rw [List.length_map]; exact s1.row c hcm
    · exact s1.row i hi
  have u2 : E R2 c c = 1 := by rw [e2, if_pos rfl, F.mul_inv p1]
  have v2 : ∀ t, t < c → E R2 c t = 0 := fun t ht => by
    rw [e2, if_pos rfl, s1.unit c t hcm ht, if_neg (by omega), F.zero_mul]
  have w2 : ∀ i t, i < m → t < c → E R2 i t = if i = t then 1 else 0 := fun i t hi ht => by
    by_cases h : i = c
    · subst h; rw [v2 t ht, if_neg (by omega)]
    · rw [e2, if_neg h]; exact s1.unit i t hi ht
  refine ⟨⟨by rw [hR1, hR2, elim_length, l2], fun i hi => ?_, fun i t hi ht => ?_⟩, fun z => ?_⟩
  · rw [hR1, hR2, elim_get (by omega)]
    split
    · exact r2 i hi
    · unfold lessR
      rw [xorR_length (by rw [List.length_map, r2 i hi, r2 c hcm])]
      exact r2 i hi
  · rw [hR1, hR2]
    have e3 : E (elimR R2 c) i t = if i = c then E R2 c t else E R2 i t + E R2 i c * E R2 c t := by
      unfold E
      rw [elim_get (by omega)]
      split
      · rename_i h; rw [h]
      · unfold lessR
        rw [getD_xorR _ (by rw [List.length_map, r2 i hi, r2 c hcm]), getD_map0 _ (F.mul_zero _)]
    rw [e3]
    by_cases h : i = c
    · subst h
      rw [if_pos rfl]
      by_cases ht2 : t = i
      · subst ht2; rw [if_pos rfl, u2]
      · rw [if_neg (by omega), v2 t (by omega)]
    · rw [if_neg h]
      by_cases ht2 : t = c
      · subst ht2; rw [u2, F.mul_one, F.add_self, if_neg h]
      · rw [v2 t (by omega), F.mul_zero, F.add_zero]; exact w2 i t hi (by omega)
  · rw [hR1, hR2, Z_elim (by omega) (m := n + 1) (fun i hi => r2 i (by omega)), ← hR2, Z_norm (by omega) p1, ← hR1, Z_swap hc ha']

/-! ### Sums of a row that is a unit row -/

/-- a row all of whose numbers but some are nought -/
theorem dot_two : ∀ (l z : List F) (i c : Nat), i < c → l.length = z.length → c < l.length → l.getD i 0 = 1 → (∀ t, t ≠ i → t ≠ c → l.getD t 0 = 0 ∨ z.getD t 0 = 0) → dot l z = z.getD i 0 + l.getD c 0 * z.getD c 0
  | [], _, _, _, _, _, h, _, _ => by simp at h
  | _ :: _, [], _, _, _, h, _, _, _ => by simp at h
  | a :: l, b :: z, i, 0, h, _, _, _, _ => by omega
  | a :: l, b :: z, 0, c + 1, _, hl, hc, h1, h0 => by
    have ha : a = 1 := by simpa using h1
    have one : ∀ (l z : List F) (c : Nat), l.length = z.length → c < l.length → (∀ t, t ≠ c → l.getD t 0 = 0 ∨ z.getD t 0 = 0) → dot l z = l.getD c 0 * z.getD c 0 := by
      have none : ∀ (l z : List F), (∀ t, l.getD t 0 = 0 ∨ z.getD t 0 = 0) → dot l z = 0 := by
        intro l
        induction l with
        | nil => intro z _; rfl
        | cons a l ih =>
          intro z h
          cases z with
          | nil => rfl
          | cons b z =>
            have h0 := h 0
            rw [dot_cons, ih z fun t => by simpa using h (t + 1)]
            rcases h0 with h0 | h0
            · have : a = 0 := by simpa using h0
              rw [this, F.zero_mul, F.add_zero]
            · have : b = 0 := by simpa using h0
              rw [this, F.mul_zero, F.add_zero]
      intro l
      induction l with
      | nil => intro z c _ h _; simp at h
      | cons a l ih =>
        intro z c hl hc h
        cases z with
        | nil => simp at hl
        | cons b z =>
          cases c with
          | zero =>
            rw [dot_cons, none l z fun t => by simpa using h (t + 1) (by omega), F.add_zero]; rfl
          | succ c =>
            have h0 := h 0 (by omega)
            rw [dot_cons, ih z c (by simpa using hl) (by simpa using hc) fun t ht => by simpa using h (t + 1) (by omega)]
            have : a * b = 0 := by
              rcases h0 with h0 | h0
              · have : a = 0 := by simpa using h0
                rw [this, F.zero_mul]
              · have : b = 0 := by simpa using h0
                rw [this, F.mul_zero]
            rw [this, F.zero_add]; simp
    rw [dot_cons, one l z c (by simpa using hl) (by simpa using hc) fun t ht => by simpa using h0 (t + 1) (by omega) (by omega), ha, F.one_mul]
    simp
  | a :: l, b :: z, i + 1, c + 1, h, hl, hc, h1, h0 => by
    have h00 := h0 0 (by omega) (by omega)
    have : a * b = 0 := by
      rcases h00 with h0 | h0
      · have : a = 0 := by simpa using h0
        rw [this, F.zero_mul]
      · have : b = 0 := by simpa using h0
        rw [this, F.mul_zero]
    rw [dot_cons, this, F.zero_add, dot_two l z i c (by omega) (by simpa using hl) (by simpa using hc) (by simpa using h1) fun t h1 h2 => by simpa using h0 (t + 1) (by omega) (by omega)]
    simp

theorem dot_last : ∀ (l z : List F) (c : Nat), l.length = z.length → c < l.length → (∀ t, t ≠ c → l.getD t 0 = 0 ∨ z.getD t 0 = 0) → dot l z = l.getD c 0 * z.getD c 0 := by
  intro l z c hl hc h
  have := dot_two (1 :: l) (0 :: z) 0 (c + 1) (by omega) (by simpa using hl) (by simpa using hc) rfl (fun t h1 h2 => by
    cases t with
    | zero => omega
    | succ t => simpa using h t (by omega))
  rw [dot_cons, F.mul_zero, F.zero_add] at this
  rw [this]
  simp [F.zero_add]

/-- where but nought solves the equations without their last numbers: a step goes on -/
theorem pivot_there {m n c : Nat} {rows : List (List F)} (S : Shape m n c rows) (hcn : c < n) (hker : ∀ y, y.length = n → Z rows (y ++ [0]) → ∀ v ∈ y, v = 0) :
    ∃ a, pivotG rows c (rows.length - c) c = some a ∧ c ≤ a ∧ a < m ∧ E rows a c ≠ 0 := by
  cases h : pivotG rows c (rows.length - c) c with
  | some a =>
    have := pivot_some _ _ _ h
    have := S.len
    exact ⟨a, rfl, by omega, by omega, (pivot_some _ _ _ h).2.2⟩
  | none =>
    exfalso
    have hn := pivot_none _ _ h
    have hl := S.len
    -- the numbers that solve them
    obtain ⟨y, hy⟩ : ∃ y : List F, y = (List.range n).map fun t => if t < c then E rows t c else if t = c then 1 else 0 := ⟨_, rfl⟩
    have ylen : y.length = n := by rw [hy]; simp
    have yget : ∀ t, (y ++ [0]).getD t 0 = if t < c then E rows t c else if t = c then 1 else 0 := fun t => by
      by_cases ht : t < n
      · rw [List.getD_eq_getElem?_getD, List.getElem?_append_left (by omega), hy]
        simp [ht]
      · rw [if_neg (by omega), if_neg (by omega)]
        by_cases ht2 : t = n
        · subst ht2; rw [List.getD_eq_getElem?_getD, List.getElem?_append_right (by omega)]; simp [ylen]
        · rw [List.getD_eq_getElem?_getD, List.getElem?_eq_none (by simp; omega)]; rfl
    have hz : Z rows (y ++ [0]) := by
      rw [Z_iff]
      intro i hi
      have hrl := S.row i (by omega)
      by_cases hic : i < c
      · rw [dot_two _ _ i c hic (by rw [hrl]; simp [ylen]) (by omega) (by have := S.unit i i (by omega) hic; rw [if_pos rfl] at this; exact this) (fun t h1 h2 => by
          by_cases ht : t < c
          · left; have := S.unit i t (by omega) ht; rw [if_neg (Ne.symm h1)] at this; exact this
          · right; rw [yget, if_neg ht, if_neg h2]), yget, yget, if_pos hic, if_neg (Nat.lt_irrefl c), if_pos rfl, F.mul_one]
        exact F.add_self _
      · rw [dot_last _ _ c (by rw [hrl]; simp [ylen]) (by omega) (fun t h1 => by
          by_cases ht : t < c
          · left; have := S.unit i t (by omega) ht; rw [if_neg (by omega)] at this; exact this
          · right; rw [yget, if_neg ht, if_neg h1])]
        have := hn i (by omega) (by omega)
        unfold E at this
        rw [this, F.zero_mul]
    have hone : (1 : F) ∈ y := by
      rw [hy]
      exact List.mem_map.2 ⟨c, by simpa using hcn, by simp⟩
    exact F.one_ne_zero (hker y ylen hz 1 hone)

theorem solveG_shape {m n : Nat} {rows0 : List (List F)} (hker : ∀ y, y.length = n → Z rows0 (y ++ [0]) → ∀ v ∈ y, v = 0) :
    ∀ (d c : Nat) (rows : List (List F)), c + d = n → Shape m n c rows → (∀ z, Z rows z ↔ Z rows0 z) → ∃ R, solveG rows d c = some R ∧ Shape m n n R ∧ ∀ z, Z R z ↔ Z rows0 z
  | 0, c, rows, hcd, S, hZ => ⟨rows, rfl, (show c = n by omega) ▸ S, hZ⟩
  | d + 1, c, rows, hcd, S, hZ => by
    obtain ⟨a, h1, h2, h3, h4⟩ := pivot_there S (by omega) fun y hy hz => hker y hy ((hZ _).1 hz)
    obtain ⟨S', hZ'⟩ := step_shape S (by omega) h2 h3 h4
    obtain ⟨R, hR, hS, hz⟩ := solveG_shape hker d (c + 1) _ (by omega) S' fun z => (hZ' z).trans (hZ z)
    refine ⟨R, ?_, hS, hz⟩
    show (stepS rows c).bind _ = _
    unfold stepS
    rw [h1]
    exact hR

/-- **the equations are solved just where they can be, by the one list of numbers that solves them** -/
theorem solve_spec {n : Nat} {rows : List (List F)} (hl : ∀ r ∈ rows, r.length = n + 1) (hker : ∀ y, y.length = n → Z rows (y ++ [0]) → ∀ v ∈ y, v = 0) (y : List F) :
    solve n rows = some y ↔ y.length = n ∧ Z rows (y ++ [1]) := by
  have S0 : Shape rows.length n 0 rows := ⟨rfl, fun i hi => by
    rw [List.getD_eq_getElem?_getD, List.getElem?_eq_getElem hi]; exact hl _ (List.getElem_mem hi), fun _ _ _ h => by omega⟩
  obtain ⟨R, hR, S, hZ⟩ := solveG_shape hker n 0 rows (by omega) S0 fun _ => Iff.rfl
  have hRl := S.len
  have hnm : n ≤ rows.length := by
    apply Classical.byContradiction
    intro hc
    have hlt : rows.length < n := by omega
    -- a number more than rows: but nought solves them
    have S' : Shape rows.length n rows.length R := ⟨S.len, S.row, fun i t hi ht => S.unit i t hi (by omega)⟩
    obtain ⟨a, _, h2, h3, _⟩ := pivot_there S' hlt fun y hy hz => hker y hy ((hZ _).1 hz)
    omega
  unfold solve
  rw [hR, Option.bind_some]
  have key : ∀ (y : List F) (i : Nat), y.length = n → i < rows.length → dot (R.getD i []) (y ++ [1]) = (if i < n then y.getD i 0 else 0) + E R i n := by
    intro y i hy hi
    have hrl := S.row i hi
    have y1 : (y ++ [1]).getD n 0 = (1 : F) := by
      rw [List.getD_eq_getElem?_getD, List.getElem?_append_right (by omega)]; simp [hy]
    by_cases hin : i < n
    · rw [if_pos hin, dot_two _ _ i n hin (by rw [hrl]; simp [hy]) (by omega) (by have := S.unit i i hi hin; rw [if_pos rfl] at this; exact this) (fun t h1 h2 => by
        by_cases ht : t < n
        · left; have := S.unit i t hi ht; rw [if_neg (Ne.symm h1)] at this; exact this
        · left; rw [List.getD_eq_getElem?_getD, List.getElem?_eq_none (by omega)]; rfl), y1, F.mul_one]
      congr 1
      rw [List.getD_eq_getElem?_getD, List.getElem?_append_left (by omega), List.getD_eq_getElem?_getD]
    · rw [if_neg hin, dot_last _ _ n (by rw [hrl]; simp [hy]) (by omega) (fun t h1 => by
        by_cases ht : t < n
        · left; have := S.unit i t hi ht; rw [if_neg (by omega)] at this; exact this
        · left; rw [List.getD_eq_getElem?_getD, List.getElem?_eq_none (by omega)]; rfl), y1, F.mul_one, F.zero_add]
      rfl
  have hall : ∀ y : List F, y.length = n → (Z rows (y ++ [1]) ↔ ((∀ i, i < n → y.getD i 0 = E R i n) ∧ ∀ i, n ≤ i → i < R.length → E R i n = 0)) := by
    intro y hy
    rw [← hZ, Z_iff]
    constructor
    · intro h
      refine ⟨fun i hi => ?_, fun i h1 h2 => ?_⟩
      · have := h i (by omega)
        rw [key y i hy (by omega), if_pos hi] at this
        exact F.eq_of_add this
      · have := h i h2
        rw [key y i hy (by omega), if_neg (by omega), F.zero_add] at this
        exact this
    · rintro ⟨h1, h2⟩ i hi
      rw [key y i hy (by omega)]
      by_cases hin : i < n
      · rw [if_pos hin, h1 i hin, F.add_self]
      · rw [if_neg hin, h2 i (by omega) hi, F.add_zero]
  have hrest : restG R n (R.length - n) n = true ↔ ∀ i, n ≤ i → i < R.length → E R i n = 0 := by
    rw [restG_iff]
    constructor
    · intro h i h1 h2; exact h i h1 (by omega)
    · intro h i h1 h2; exact h i h1 (by omega)
  constructor
  · intro h
    split at h
    · rename_i hc
      have hc := hrest.1 hc
      obtain rfl := Option.some.inj h
      have hlen : ((List.range n).map fun c => E R c n).length = n := by simp
      refine ⟨hlen, (hall _ hlen).2 ⟨fun i hi => ?_, hc⟩⟩
      rw [List.getD_eq_getElem?_getD]; simp [hi]
    · cases h
  · rintro ⟨hlen, h⟩
    obtain ⟨h1, h2⟩ := (hall y hlen).1 h
    rw [if_pos (hrest.2 h2)]
    congr 1
    apply List.ext_getElem (by simp [hlen])
    intro i h3 h4
    have h5 : i < n := by simpa using h3
    have := h1 i h5
    rw [List.getD_eq_getElem?_getD, List.getElem?_eq_getElem (by omega)] at this
    simpa using this.symm

end Go.Gf

/- The four bytes that make a row's code right: by division, and by solving equations: the same. Nothing of a program stands here. -/
set_option maxRecDepth 100000
namespace Go.Gf

/-- times (x - a) -/
def timesX (g : List F) (a : F) : List F := xorR (g ++ [0]) (0 :: g.map (· * a))
/-- what the program divides by -/
def genL : List F := timesX (timesX (timesX (timesX [1] (tj 0)) (tj 1)) (tj 2)) (tj 3)
def genT : List F := genL.tail
theorem genL_eq : genL = 1 :: genT := by decide +kernel
theorem genT_len : genT.length = 4 := by decide +kernel
theorem genL_root : ∀ j, j < 4 → hor (tj j) genL = 0 := by decide +kernel

def addHead : List F → List F → List F
  | a :: m, b :: l => (a + b) :: addHead m l
  | _, l => l
theorem addHead_length : ∀ m l : List F, (addHead m l).length = l.length
  | [], l => by cases l <;> rfl
  | _ :: _, [] => rfl
  | a :: m, b :: l => by simp [addHead, addHead_length m l]

theorem hor_addHead (x : F) : ∀ (m l : List F), m.length ≤ l.length → hor x (addHead m l) = hor x l + hor x m * F.pow x (l.length - m.length)
  | [], l, _ => by
    have : addHead [] l = l := by cases l <;> rfl
    rw [this, hor_nil, F.zero_mul, F.add_zero]
  | a :: m, [], h => by simp at h
  | a :: m, b :: l, h => by
    have h' : m.length ≤ l.length := by simpa using h
    show hor x ((a + b) :: addHead m l) = _
    rw [hor_cons, hor_cons, hor_cons, hor_addHead x m l h', addHead_length, F.add_mul, F.add_mul, F.mul_assoc]
    have e : F.pow x m.length * F.pow x ((b :: l).length - (a :: m).length) = F.pow x l.length := by
      rw [← F.pow_add]; congr 1; simp only [List.length_cons]; omega
    have e2 : (b :: l).length - (a :: m).length = l.length - m.length := by simp
    rw [e, e2]
    simp only [F.add_assoc, F.add_comm, F.add_left_comm]

def divR : Nat → List F → List F
  | n + 1, c :: l => divR n (addHead (genT.map (c * ·)) l)
  | _, l => l

theorem divR_length : ∀ (n : Nat) (l : List F), n ≤ l.length → (divR n l).length = l.length - n
  | 0, l, _ => by cases l <;> rfl
  | n + 1, [], h => by simp at h
  | n + 1, c :: l, h => by
    show (divR n (addHead _ l)).length = _
    rw [divR_length n _ (by rw [addHead_length]; simpa using h), addHead_length]
    simp

theorem hor_map (x c : F) : ∀ l : List F, hor x (l.map (c * ·)) = c * hor x l
  | [] => by rw [List.map_nil, hor_nil, F.mul_zero]
  | a :: l => by rw [List.map_cons, hor_cons, hor_cons, hor_map x c l, F.mul_add, List.length_map, F.mul_assoc]

theorem hor_divR {j : Nat} (hj : j < 4) : ∀ (n : Nat) (l : List F), n + 4 ≤ l.length → hor (tj j) (divR n l) = hor (tj j) l
  | 0, l, _ => by cases l <;> rfl
  | n + 1, [], h => by simp at h
  | n + 1, c :: l, h => by
    have hl : n + 4 ≤ l.length := by simp at h; omega
    show hor (tj j) (divR n (addHead _ l)) = _
    rw [hor_divR hj n _ (by rw [addHead_length]; exact hl), hor_addHead _ _ _ (by rw [List.length_map, genT_len]; omega), hor_cons, hor_map, List.length_map, genT_len]
    have hg := genL_root j hj
    rw [genL_eq, hor_cons, genT_len, F.one_mul] at hg
    rw [← F.eq_of_add hg, F.mul_assoc, ← F.pow_add, show 4 + (l.length - 4) = l.length by omega, F.add_comm]

/-- the row with its code -/
def remP (b : List F) : List F := divR b.length (b ++ [0, 0, 0, 0])
def codedP (b : List F) : List F := b ++ remP b
theorem remP_length (b : List F) : (remP b).length = 4 := by
  unfold remP
  rw [divR_length _ _ (by simp)]
  simp

theorem hor_zeros4 (x : F) : hor x [0, 0, 0, 0] = 0 := by
  simp only [hor_cons, hor_nil, F.zero_mul, F.add_zero]

theorem sum_rem (b : List F) {j : Nat} (hj : j < 4) : hor (tj j) (remP b) = hor (tj j) (b ++ [0, 0, 0, 0]) := hor_divR hj _ _ (by simp)

theorem codedP_length (b : List F) : (codedP b).length = b.length + 4 := by unfold codedP; rw [List.length_append, remP_length]

/-- the document's four equations -/
def eqnR (s : Nat → F) (j : Nat) : List F := [tj (3 * j), tj (2 * j), tj j, 1, s j]
def eqnsR (s : Nat → F) : List (List F) := [eqnR s 0, eqnR s 1, eqnR s 2, eqnR s 3]

theorem tj_mul (k j : Nat) : tj (k * j) = F.pow (tj j) k := by
  unfold tj; rw [Nat.mul_comm, F.pow_mul]

theorem dot_eqn (s : Nat → F) (j : Nat) (x : List F) (hx : x.length = 4) (v : F) : dot (eqnR s j) (x ++ [v]) = hor (tj j) x + s j * v := by
  match x, hx with
  | [a, b, c, d], _ =>
    show tj (3 * j) * a + (tj (2 * j) * b + (tj j * c + (1 * d + (s j * v + 0)))) = hor (tj j) [a, b, c, d] + s j * v
    simp only [hor_cons, hor_nil, List.length_cons, List.length_nil]
    rw [tj_mul 3 j, tj_mul 2 j, F.pow_zero, F.one_mul, F.mul_one, F.add_zero, F.add_zero, F.mul_comm a, F.mul_comm b, F.mul_comm c]
    show F.pow (tj j) 3 * a + (F.pow (tj j) 2 * b + (tj j * c + (d + s j * v))) = F.pow (tj j) 3 * a + (F.pow (tj j) 2 * b + (F.pow (tj j) 1 * c + d)) + s j * v
    rw [pow_one]
    simp only [F.add_assoc]

theorem eqns_mem {s : Nat → F} {z : List F} : Z (eqnsR s) z ↔ ∀ j, j < 4 → dot (eqnR s j) z = 0 := by
  constructor
  · intro h j hj
    match j, hj with
    | 0, _ => exact h _ (by simp [eqnsR])
    | 1, _ => exact h _ (by simp [eqnsR])
    | 2, _ => exact h _ (by simp [eqnsR])
    | 3, _ => exact h _ (by simp [eqnsR])
  · intro h r hr
    simp only [eqnsR, List.mem_cons, List.not_mem_nil, or_false] at hr
    rcases hr with rfl | rfl | rfl | rfl
    · exact h 0 (by decide)
    · exact h 1 (by decide)
    · exact h 2 (by decide)
    · exact h 3 (by decide)

/-- **the document's equations are solved by the program's remainder** -/
theorem solve_coded (b : List F) : solve 4 (eqnsR fun j => hor (tj j) (b ++ [0, 0, 0, 0])) = some (remP b) := by
  refine (solve_spec (fun r hr => ?_) (fun y hy hz => ?_) _).2 ⟨remP_length b, ?_⟩
  · simp only [eqnsR, List.mem_cons, List.not_mem_nil, or_false] at hr
    rcases hr with rfl | rfl | rfl | rfl <;> rfl
  · rw [eqns_mem] at hz
    have hr : Right y := fun j hj => by
      have := hz j hj
      rw [dot_eqn _ _ _ hy, F.mul_zero, F.add_zero] at this
      exact this
    have hzero : Right [0, 0, 0, 0] := fun j _ => hor_zeros4 _
    have hfar : far y [0, 0, 0, 0] ≤ 4 := by
      unfold far
      have h1 : ∀ l : List F, (supp l).length ≤ l.length := by
        intro l
        induction l with
        | nil => exact Nat.le_refl _
        | cons c l ih => rw [supp_cons]; split <;> simp only [List.length_cons] <;> omega
      have := h1 (xorR y [0, 0, 0, 0])
      rw [xorR_length hy] at this
      omega
    have := right_far (m := [0, 0, 0, 0]) hy (by omega) hr hzero hfar
    subst this
    simp
  · rw [eqns_mem]
    intro j hj
    rw [dot_eqn _ _ _ (remP_length b), F.mul_one, sum_rem b hj, F.add_self]

end Go.Gf

/- Bytes as numbers of the field: products, powers, inverses. -/
set_option linter.unusedVariables false
set_option maxRecDepth 100000
namespace Go.Sh
open Go.Fw Go.Gf Go.RowKit Go.Proofs.Tryd

/-- a number of the field as a byte -/
def bF (a : F) : Int := (a.n : Int)
def toF (x : Int) : F := ⟨x.toNat % 256, Nat.mod_lt _ (by decide)⟩
theorem toF_bF (a : F) : toF (bF a) = a := F.ext' (by show (Int.toNat (a.n : Int)) % 256 = a.n; rw [Int.toNat_natCast, Nat.mod_eq_of_lt a.lt])
theorem bF_toF {x : Int} (h : InK .u8 x) : bF (toF x) = x := by
  obtain ⟨a, rfl, ha⟩ := h.nat
  have ha : a < 256 := ha
  show ((Int.toNat (a : Int) % 256 : Nat) : Int) = a
  rw [Int.toNat_natCast, Nat.mod_eq_of_lt ha]
theorem bF_inj {a b : F} (h : bF a = bF b) : a = b := by rw [← toF_bF a, h, toF_bF]
theorem bF_eq {a b : F} : bF a = bF b ↔ a = b := ⟨bF_inj, fun h => by rw [h]⟩
theorem bF_in (a : F) : InK .u8 (bF a) := ⟨Int.natCast_nonneg _, by show (a.n : Int) < 2 ^ 8; have := a.lt; omega⟩
theorem bF_zero : bF 0 = 0 := rfl
theorem bF_three : bF F.three = 3 := rfl
theorem bF_beq (a : F) : ((bF a == 0) = true) = (a = 0) := by rw [beq_iff_eq, ← bF_zero, bF_eq]
theorem bF_bne (a : F) : ((bF a != 0) = true) = (a ≠ 0) := by rw [bne_iff_ne, ← bF_zero, ne_eq, bF_eq]
/-- bytes -/
def fb (l : List F) : List Value := ints .u8 (l.map bF)
theorem fb_length (l : List F) : (fb l).length = l.length := by unfold fb; rw [ints_length, List.length_map]
theorem fb_append (l m : List F) : fb (l ++ m) = fb l ++ fb m := by unfold fb; rw [List.map_append, ints_append]
theorem fb_take (l : List F) (n : Nat) : (fb l).take n = fb (l.take n) := by unfold fb; rw [ints_take, List.map_take]
theorem fb_drop (l : List F) (n : Nat) : (fb l).drop n = fb (l.drop n) := by simp [fb, ints, List.map_drop]
theorem fb_set (l : List F) (i : Nat) (a : F) : (fb l).set i (.int .u8 (bF a)) = fb (l.set i a) := by simp [fb, ints, List.map_set]
theorem bytes_fb {xs : List Int} (h : ∀ x ∈ xs, InK .u8 x) : ∃ l : List F, xs = l.map bF := by
  refine ⟨xs.map toF, ?_⟩
  rw [List.map_map]
  conv => lhs; rw [← List.map_id xs]
  exact List.map_congr_left fun x hx => (bF_toF (h x hx)).symm
theorem addF (a b : F) : bits .xor .u8 (bF a) (bF b) = bF (a + b) := xor8 a.lt b.lt
theorem tm {K : Nat} (hK : 300 ≤ K) (a b : F) : rijndael_Times K (bF a) (bF b) = some (bF (a * b), ()) := Times_ok hK a.lt b.lt
theorem rtm {K : Nat} (hK : 300 ≤ K) (a b : F) : ref02_Times K (bF a) (bF b) = some (bF (a * b), ()) := refTimes_ok hK a.lt b.lt
theorem rtimes {K : Nat} (hK : 300 ≤ K) (a b : F) : ref11_times K (bF a) (bF b) = some (bF (a * b), ()) := by
  unfold ref11_times; rw [rtm hK, Option.bind_some]

theorem power_loop {K : Nat} (hK : 300 ≤ K) (n : Nat) (hn : n ≤ 255) : ∀ (d i m : Nat) (v : F), i + d = n → d < m →
    escrow_power_l0 K m (bF v) (n : Int) (i : Int) = some (.norm (bF (v * F.pow F.three d), ())) := by
  intro d
  induction d with
  | zero =>
    intro i m v hi hm
    obtain ⟨m, rfl⟩ : ∃ q, m = q + 1 := ⟨m - 1, by omega⟩
    show escrow_power_l0_b K (escrow_power_l0 K m) (bF v) (n : Int) (i : Int) = _
    unfold escrow_power_l0_b
    rw [if_neg (by simp only [decide_eq_true_eq]; omega), F.pow_zero, F.mul_one]
  | succ d ih =>
    intro i m v hi hm
    obtain ⟨m, rfl⟩ : ∃ q, m = q + 1 := ⟨m - 1, by omega⟩
    have e3 : IntKind.i64.wrap ((i : Int) + 1) = ((i + 1 : Nat) : Int) := by rw [w64 (by omega) (by omega)]; rfl
    have et := tm hK v F.three
    rw [bF_three] at et
    show escrow_power_l0_b K (escrow_power_l0 K m) (bF v) (n : Int) (i : Int) = _
    unfold escrow_power_l0_b
    rw [if_pos (decide_eq_true (show (i : Int) < (n : Int) by omega)), et, Option.bind_some, e3, ih (i + 1) m _ (by omega) (by omega), F.pow_succ, F.mul_assoc, F.mul_comm F.three]

theorem power_ok {K : Nat} (hK : 300 ≤ K) (n : Nat) : escrow_power K (n : Int) = some (bF (tj n), ()) := by
  have h1 : Int.tmod (n : Int) 255 = ((n % 255 : Nat) : Int) := rfl
  have hl : n % 255 < 255 := Nat.mod_lt _ (by decide)
  have h2 := power_loop hK (n % 255) (by omega) (n % 255) 0 K 1 (by omega) (by omega)
  rw [F.one_mul, pow3_mod] at h2
  unfold escrow_power
  rw [h1]
  have h2 : escrow_power_l0 K K 1 ((n % 255 : Nat) : Int) 0 = _ := h2
  rw [h2]
  rfl

end Go.Sh

/- The four sums of a row. -/
set_option linter.unusedVariables false
set_option maxRecDepth 100000
namespace Go.Sh
open Go.Fw Go.Gf Go.RowKit Go.Proofs.Tryd

def sumsL (l : List F) : List F := [sj l 0, sj l 1, sj l 2, sj l 3]

theorem src_cell {w : World} {s : Sl} {l : List F} (h : Src w s (fb l)) {i : Nat} (hi : i < l.length) : ∃ p, s.a = some p ∧ ldI .u8 (p.add i) w = some (bF l[i]) := by
  obtain ⟨p, p1, p2⟩ := h.rds.ld
  have hne : l.map bF ≠ [] := fun e => by have := congrArg List.length e; simp at this; rw [this] at hi; simp at hi
  refine ⟨p, p1 hne, ?_⟩
  have := p2 i (by rw [List.length_map]; exact hi)
  rw [this, List.getElem_map]

theorem src_updF {X : Nat → Prop} {w w' : World} {s : Sl} {l : List F} (h : Src w s (fb l)) (u : Upd X w w') (hn : ∀ q, s.a = some q → l ≠ [] → ¬ X q.block) : Src w' s (fb l) :=
  ⟨h.len, h.cap, h.rd.imp id fun ⟨p, hp, hr⟩ => ⟨p, hp, hr.upd u fun hne => hn p hp fun e => hne (by rw [e]; rfl)⟩, h.one⟩
theorem src_ltF {w : World} {s : Sl} {l : List F} (hs : Src w s (fb l)) : ∀ q, s.a = some q → l ≠ [] → q.block < w.heap.size := fun q hq hne => by
  rcases hs.rd with ⟨a, _, _⟩ | ⟨p, a, h⟩
  · rw [a] at hq; cases hq
  · rw [a] at hq
    obtain rfl := Option.some.inj hq
    exact h.lt fun e => hne (by cases l with | nil => rfl | cons _ _ => cases e)

theorem bk_cellF {e : TypeId} {w : World} {g : Nat} {S : List F} (h : Bk e w g (fb S)) {j : Nat} (hj : j < S.length) : ldI .u8 ⟨g, j, none⟩ w = some (bF S[j]) := by
  refine h.ldI ?_
  simp [fb, ints, hj]

theorem fb_one (l : List F) : ∀ v ∈ fb l, v.oneCell' = true := fun v hv => by obtain ⟨x, _, rfl⟩ := List.mem_map.1 hv; rfl

end Go.Sh

/- What the helpers of the package cofferbook do. YteomkfcfhlljkaaDoor, Tryd, 23, 5 are filled in for a seat (book.sh). -/
set_option linter.unusedVariables false
namespace Go.Sh
open Go.Fw Go.RowKit Go.Proofs.Tryd

theorem sliceB : OneSlice prog 23 5 (.int .u8 0) 1 := ⟨by kernel_rfl, ⟨t5, by kernel_rfl, by kernel_rfl, by kernel_rfl, by kernel_rfl⟩, by decide, rfl, rfl⟩

/-! ### SameBytes -/

theorem SameBytes_loop (K : Nat) {a b : Sl} {xs ys : List Int} (hl : xs.length = ys.length) (hs : xs.length < 9223372036854775807) :
    ∀ (d i : Nat) (n : Nat) (w : World), i + d = xs.length → d < n → RdS .u8 w a xs → RdS .u8 w b ys →
      ∃ w', book_SameBytes_l0 K n a b (i : Int) w = some (if xs.drop i = ys.drop i then .norm () else .ret (false, ()), w') ∧ Upd none_ w w' := by
  intro d
  induction d with
  | zero =>
    intro i n w hi hn ha hb
    obtain ⟨n, rfl⟩ : ∃ m, n = m + 1 := ⟨n - 1, by omega⟩
    refine ⟨w, ?_, Upd.refl _ w⟩
    show book_SameBytes_l0_b K (book_SameBytes_l0 K n) a b (i : Int) w = _
    have e1 : xs.drop i = [] := List.drop_eq_nil_of_le (by omega)
    have e2 : ys.drop i = [] := List.drop_eq_nil_of_le (by omega)
    simp [book_SameBytes_l0_b, ha.len, show ¬ i < xs.length by omega, e1, e2]
  | succ d ih =>
    intro i n w hi hn ha hb
    obtain ⟨n, rfl⟩ : ∃ m, n = m + 1 := ⟨n - 1, by omega⟩
    show ∃ w', book_SameBytes_l0_b K (book_SameBytes_l0 K n) a b (i : Int) w = _ ∧ _
    obtain ⟨p, hp, hpl⟩ := ha.drew.ld
    obtain ⟨q, hq, hql⟩ := hb.drew.ld
    have hx : xs ≠ [] := by rintro rfl; simp at hi
    have hy : ys ≠ [] := fun e => by rw [e] at hl; simp at hl; exact hx hl
    have hil : i < xs.length := by omega
    have hil2 : i < ys.length := by omega
    have hw : IntKind.i64.wrap ((i : Int) + 1) = ((i + 1 : Nat) : Int) := by rw [w64 (by omega) (by omega)]; rfl
    have e1 : xs.drop i = xs[i] :: xs.drop (i + 1) := List.drop_eq_getElem_cons hil
    have e2 : ys.drop i = ys[i] :: ys.drop (i + 1) := List.drop_eq_getElem_cons hil2
    have l1 := hpl i hil
    have l2 := hql i hil2
    by_cases hne : xs[i] = ys[i]
    · obtain ⟨w', h1, h2⟩ := ih (i + 1) n w.drew (by omega) (by omega) ha.drew hb.drew
      refine ⟨w', ?_, ?_⟩
      · simp only [book_SameBytes_l0_b, ha.len, hb.len, Int.ofNat_lt, hil, hil2, decide_true, if_true, hp hx, hq hy, Option.bind_some, Int.natCast_nonneg, and_self, Int.toNat_natCast, Nat.mul_one, l1, l2, hne, bne_self_eq_false, Bool.false_eq_true, if_false, hw, h1, e1, e2, List.cons.injEq, true_and]
      · exact (Upd.refl none_ w).drew.trans' h2 fun _ _ e => e
    · refine ⟨w.drew, ?_, (Upd.refl none_ w).drew⟩
      have hb' : (xs[i] != ys[i]) = true := by simpa using hne
      simp only [book_SameBytes_l0_b, ha.len, hb.len, Int.ofNat_lt, hil, hil2, decide_true, if_true, hp hx, hq hy, Option.bind_some, Int.natCast_nonneg, and_self, Int.toNat_natCast, Nat.mul_one, l1, l2, hb', e1, e2, List.cons.injEq, hne, false_and, if_false]

theorem SameBytes_ok {K : Nat} (hK : 18446744073709551616 ≤ K) {a b : Sl} {xs ys : List Int} {w : World} (ha : RdS .u8 w a xs) (hb : RdS .u8 w b ys) (hs : xs.length < 9223372036854775807) :
    ∃ w', book_SameBytes K a b w = some ((decide (xs = ys), ()), w') ∧ Upd none_ w w' := by
  by_cases hl : xs.length = ys.length
  · obtain ⟨w', h1, h2⟩ := SameBytes_loop K (a := a) (b := b) hl hs xs.length 0 K w (by omega) (by omega) ha hb
    refine ⟨w', ?_, h2⟩
    have h1' : book_SameBytes_l0 K K a b 0 w = _ := h1
    simp only [book_SameBytes, ha.len, hb.len, hl, bne_self_eq_false, Bool.false_eq_true, if_false, h1', bnd_ok, List.drop_zero]
    by_cases h : xs = ys <;> simp [h]
  · refine ⟨w, ?_, Upd.refl _ w⟩
    have h1 : (((xs.length : Nat) : Int) != ((ys.length : Nat) : Int)) = true := by simp; omega
    have h2 : xs ≠ ys := fun e => hl (by rw [e])
    simp only [book_SameBytes, ha.len, hb.len, h1, if_true, h2, decide_false]

end Go.Sh

/- What the helpers of the package cofferbook do. YteomkfcfhlljkaaDoor, Tryd, 23, 5 are filled in for a seat (book.sh). -/
set_option linter.unusedVariables false
namespace Go.Sh
open Go.Fw Go.RowKit Go.Proofs.Tryd

/-! ### Bytes -/

def marks : List Int := (List.range 70).map fun i => (((181 + i) % 256 : Nat) : Int)

theorem marks_len : marks.length = 70 := rfl

theorem mark_at (i : Nat) (hi : i < 70) : IntKind.u8.wrap (IntKind.i64.wrap (181 + (i : Int))) = marks[i]'(by rw [marks_len]; exact hi) := by
  rw [w64 (by omega) (by omega), IntKind.wrap_u8]
  simp [marks]

theorem Bytes_loop (K B : Nat) (l : Sl) :
    ∀ (d i n : Nat) (w : World) (s : Sl) (xs : List Int), i + d = 70 → d < n → OwnS 5 w s (ints .u8 xs) → s.len + d ≤ 140737488355328 → B ≤ w.heap.size → Fresh B s →
      ∃ s' w', book_Bytes_l0 K n l s (i : Int) w = some ((s', ()), w') ∧ OwnS 5 w' s' (ints .u8 (xs ++ marks.drop i)) ∧ Below B w w' ∧ Fresh B s' := by
  intro d
  induction d with
  | zero =>
    intro i n w s xs hi hn ho hs hB hf
    obtain ⟨n, rfl⟩ : ∃ m, n = m + 1 := ⟨n - 1, by omega⟩
    have : i = 70 := by omega
    subst this
    refine ⟨s, w, ?_, ?_, Below.refl B w, hf⟩
    · show book_Bytes_l0_b K (book_Bytes_l0 K n) l s ((70 : Nat) : Int) w = _
      simp [book_Bytes_l0_b]
    · have : marks.drop 70 = [] := rfl
      rw [this, List.append_nil]; exact ho
  | succ d ih =>
    intro i n w s xs hi hn ho hs hB hf
    obtain ⟨n, rfl⟩ : ∃ m, n = m + 1 := ⟨n - 1, by omega⟩
    have hi70 : i < 70 := by omega
    obtain ⟨w1, h1, ho1, u1, hz1⟩ := bldS1_ok sliceB (.int .u8 (marks[i]'(by rw [marks_len]; exact hi70))) rfl w
    have hfr : ∀ k, s.blk = some k → ¬ (none_ k) := fun _ _ => id
    obtain ⟨s2, w2, h2, l2, ho2, u2, b2⟩ := apd_ok sliceB (ho.upd0 u1) (ho1.src (by simp [Value.oneCell'])) (by show (s.len + 1) * 1 ≤ _; omega)
    have bl1 : Below B w w1 := u1.below hB fun _ _ => id
    have bl2 : Below B w w2 := below_upd bl1 u2 (by omega) fun k hk e => by have := hf k e; omega
    have hf2 : Fresh B s2 := by
      intro k hk
      rcases b2 with e | e
      · exact hf k (e ▸ hk)
      · rw [e] at hk; have := Option.some.inj hk; omega
    obtain ⟨s3, w3, h3, ho3, bl3, hf3⟩ := ih (i + 1) n w2 s2 (xs ++ [marks[i]'(by rw [marks_len]; exact hi70)]) (by omega) (by omega) (by simpa using ho2) (by rw [l2]; show s.len + 1 + d ≤ _; omega) (by have := bl2.size; omega) hf2
    refine ⟨s3, w3, ?_, ?_, bl2.trans bl3, hf3⟩
    · show book_Bytes_l0_b K (book_Bytes_l0 K n) l s (i : Int) w = _
      have hw : IntKind.i64.wrap ((i : Int) + 1) = ((i + 1 : Nat) : Int) := by rw [w64 (by omega) (by omega)]; rfl
      have hd : decide ((i : Int) < 70) = true := by simp; omega
      simp only [book_Bytes_l0_b, hd, if_true, mark_at i hi70, h1, bnd_ok, h2, hw, h3]
    · have e : marks.drop i = marks[i]'(by rw [marks_len]; exact hi70) :: marks.drop (i + 1) := List.drop_eq_getElem_cons (by rw [marks_len]; exact hi70)
      rw [e]
      simpa using ho3

/-- Bytes: a copy, the marks behind it. -/
theorem Bytes_ok {K : Nat} (hK : 18446744073709551616 ≤ K) {l : Sl} {bs : List Int} {w : World} (hl : Src w l (ints .u8 bs)) (hb : bs.length ≤ 140737488351232) :
    ∃ g cap w', book_Bytes K l w = some ((⟨some ⟨g, 0, none⟩, bs.length, cap⟩, ()), w') ∧ OwnS 5 w' ⟨some ⟨g, 0, none⟩, bs.length + 70, cap⟩ (ints .u8 (bs ++ marks)) ∧ w.heap.size ≤ g ∧ Upd none_ w w' := by
  have hlen : l.len = bs.length := by simpa using hl.len
  obtain ⟨s1, w1, h1, l1, ho1, u1, b1⟩ := apd_ok sliceB (OwnS.nil 5 w) hl (by show (0 + l.len) * 1 ≤ _; omega)
  have bl1 : Below w.heap.size w w1 := u1.below (Nat.le_refl _) fun k _ e => by cases e
  have hf1 : Fresh w.heap.size s1 := by
    intro k hk
    rcases b1 with e | e
    · rw [e] at hk; cases hk
    · rw [e] at hk; have := Option.some.inj hk; omega
  obtain ⟨s2, w2, h2, ho2, bl2, hf2⟩ := Bytes_loop K w.heap.size l 70 0 K w1 s1 bs (by omega) (by omega) ho1 (by rw [l1]; show 0 + l.len + 70 ≤ _; omega) bl1.size hf1
  have h2' : book_Bytes_l0 K K l s1 0 w1 = _ := h2
  have ho2 : OwnS 5 w2 s2 (ints .u8 (bs ++ marks)) := ho2
  have hl2 : s2.len = bs.length + 70 := by rw [ho2.len]; simp [marks_len]
  obtain ⟨g, hg⟩ : ∃ g, s2.a = some ⟨g, 0, none⟩ := by
    rcases ho2.2 with ⟨a1, a2, _⟩ | ⟨g, cur, a1, _⟩
    · omega
    · exact ⟨g, a1⟩
  refine ⟨g, s2.cap, w2, ?_, ?_, hf2 g (by simp [Sl.blk, hg]), Upd.of_below (bl1.trans bl2)⟩
  · have hc := ho2.cap.1
    have hi : (0 : Int) ≤ ((l.len : Nat) : Int) ∧ ((l.len : Nat) : Int) ≤ ((s2.cap : Nat) : Int) := by omega
    have h1' : apd prog 23 23 (.slice none 0 0) (.slice l.a l.len l.cap) w = some (s1, w1) := h1
    simp only [book_Bytes, h1', bnd_ok, h2', hi, and_self, if_true, sla_zero, hg, Int.toNat_natCast, Nat.sub_zero]
    rw [hlen]
  · have : s2 = ⟨some ⟨g, 0, none⟩, bs.length + 70, s2.cap⟩ := by cases s2; simp_all
    rw [← this]; exact ho2

end Go.Sh

/- What the helpers of the package cofferbook do. YteomkfcfhlljkaaDoor, Tryd, 23, 5 are filled in for a seat (book.sh). -/
set_option linter.unusedVariables false
namespace Go.Sh
open Go.Fw Go.RowKit Go.Proofs.Tryd

/-! ### WholeBytes -/

/-- The front of what Bytes made. -/
theorem marked_front {w : World} {g cap : Nat} {bs : List Int} (h : OwnS 5 w ⟨some ⟨g, 0, none⟩, bs.length + 70, cap⟩ (ints .u8 (bs ++ marks))) :
    OwnS 5 w ⟨some ⟨g, 0, none⟩, bs.length, cap⟩ (ints .u8 bs) := by
  have := h.cut (n := bs.length) (Nat.le_add_right _ _)
  rw [ints_take, List.take_left] at this
  exact this

theorem WholeBytes_loop (K : Nat) {s : Sl} {bs : List Int} (hb : bs.length ≤ 140737488351232) :
    ∀ (d i n : Nat) (w : World), i + d = 70 → d < n → RdS .u8 w s (bs ++ marks) → book_WholeBytes_l0 K n ((bs.length : Nat) : Int) s (i : Int) w = some (.norm (), w) := by
  intro d
  induction d with
  | zero =>
    intro i n w hi hn hr
    obtain ⟨n, rfl⟩ : ∃ m, n = m + 1 := ⟨n - 1, by omega⟩
    have : i = 70 := by omega
    subst this
    show book_WholeBytes_l0_b K (book_WholeBytes_l0 K n) ((bs.length : Nat) : Int) s ((70 : Nat) : Int) w = _
    simp [book_WholeBytes_l0_b]
  | succ d ih =>
    intro i n w hi hn hr
    obtain ⟨n, rfl⟩ : ∃ m, n = m + 1 := ⟨n - 1, by omega⟩
    have hi70 : i < 70 := by omega
    show book_WholeBytes_l0_b K (book_WholeBytes_l0 K n) ((bs.length : Nat) : Int) s (i : Int) w = _
    have hll : s.len = bs.length + 70 := by rw [hr.len]; simp [marks_len]
    obtain ⟨p, hp, hpl⟩ := hr.ld
    have hne : bs ++ marks ≠ [] := by intro e; have := congrArg List.length e; simp [marks_len] at this
    have l1 := hpl (bs.length + i) (by simp [marks_len]; omega)
    have e1 : (bs ++ marks)[bs.length + i]'(by simp [marks_len]; omega) = marks[i]'(by rw [marks_len]; exact hi70) := by simp
    rw [e1] at l1
    have hw : IntKind.i64.wrap ((i : Int) + 1) = ((i + 1 : Nat) : Int) := by rw [w64 (by omega) (by omega)]; rfl
    have hw2 : IntKind.i64.wrap (((bs.length : Nat) : Int) + (i : Int)) = ((bs.length + i : Nat) : Int) := by rw [w64 (by omega) (by omega)]; rfl
    have hd : decide ((i : Int) < 70) = true := by simp; omega
    have hin : (0 : Int) ≤ ((bs.length + i : Nat) : Int) ∧ ((bs.length + i : Nat) : Int) < ((bs.length + 70 : Nat) : Int) := by omega
    simp only [book_WholeBytes_l0_b, hd, if_true, hp hne, Option.bind_some, hw2, hll, hin, and_self, Int.toNat_natCast, Nat.mul_one, l1, mark_at i hi70, bne_self_eq_false, Bool.false_eq_true, if_false, hw]
    exact ih (i + 1) n w (by omega) (by omega) hr

theorem WholeBytes_ok {K : Nat} (hK : 18446744073709551616 ≤ K) {g cap : Nat} {l : Sl} {bs xs : List Int} {w : World}
    (ho : OwnS 5 w ⟨some ⟨g, 0, none⟩, bs.length + 70, cap⟩ (ints .u8 (bs ++ marks))) (hl : RdS .u8 w l xs) (hb : bs.length ≤ 140737488351232) :
    ∃ w', book_WholeBytes K ⟨some ⟨g, 0, none⟩, bs.length, cap⟩ l w = some ((decide (bs = xs), ()), w') ∧ Upd none_ w w' := by
  obtain ⟨w1, h1, u1⟩ := SameBytes_ok hK (marked_front ho).rd hl (by omega)
  by_cases he : bs = xs
  · have hc := ho.cap.1
    have hc : bs.length + 70 ≤ cap := hc
    have ho1 := ho.upd0 u1
    have hlp := WholeBytes_loop K hb 70 0 K w1 (by omega) (by omega) ho1.rd
    have hlp : book_WholeBytes_l0 K K ((bs.length : Nat) : Int) ⟨some ⟨g, 0, none⟩, bs.length + 70, cap⟩ 0 w1 = _ := hlp
    have hw : IntKind.i64.wrap (((bs.length : Nat) : Int) + 70) = ((bs.length + 70 : Nat) : Int) := by rw [w64 (by omega) (by omega)]; rfl
    have hin : (0 : Int) ≤ ((bs.length + 70 : Nat) : Int) ∧ ((bs.length + 70 : Nat) : Int) ≤ ((cap : Nat) : Int) := by omega
    refine ⟨w1, ?_, u1⟩
    simp only [book_WholeBytes, h1, bnd_ok, decide_eq_true he, Bool.not_true, Bool.false_eq_true, if_false, hw, hin, and_self, if_true, sla_zero, Int.toNat_natCast, Nat.sub_zero, hlp]
  · refine ⟨w1, ?_, u1⟩
    simp only [book_WholeBytes, h1, bnd_ok, decide_eq_false he, Bool.not_false, if_true]

end Go.Sh

/- Slices: none of bytes, made zeros appended, a clone. -/
set_option linter.unusedVariables false
set_option maxRecDepth 100000
namespace Go.Sh
open Go.Fw Go.Gf Go.RowKit Go.Proofs.Tryd

/-- an empty list of elements -/
theorem bld0_ok {P : Program} {t e : TypeId} {z : Value} {bytes : Nat} (T : OneSlice P t e z bytes) (w : World) :
    ∃ w', bldS P t 0 #[] w = some (⟨some ⟨w.heap.size, 0, none⟩, 0, 0⟩, w') ∧ OwnS e w' ⟨some ⟨w.heap.size, 0, none⟩, 0, 0⟩ [] ∧ Upd none_ w w' := by
  obtain ⟨i, hi, hsz, hz, hby⟩ := T.info
  have hr : (Instr.buildSlice t 0 #[]).run P w = .ok (.slice (some ⟨w.heap.size, 0, none⟩) 0 0) (w.alloc (.cells #[] e)) := by
    simp [Instr.buildSlice, run_underlying T.ht, sizeOf, typeInfo, hi, newRow, Instr.fill, show Array.range 0 = #[] from rfl]
  refine ⟨w.alloc (.cells #[] e), ?_, ⟨rfl, .inr ⟨w.heap.size, #[], rfl, heap_alloc_new w _, Nat.le_refl _, by simp only [maxLen]; omega, by simp, by simp⟩⟩, Upd.alloc _ _ _⟩
  unfold bldS; rw [hr]

theorem zeroCells_list {z : Value} (hz : z.cells = #[z]) (n : Nat) : (Builtin.zeroCells z.cells n) = (List.replicate n z).toArray := by
  rw [hz]
  apply Array.ext (by simp [Builtin.zeroCells])
  intro k h1 h2
  simp [Builtin.zeroCells, Nat.mod_one]

/-- made zeros are appended -/
theorem apdz_ok {P : Program} {t tn e : TypeId} {z : Value} {bytes : Nat} {kn : IntKind} (T : OneSlice P t e z bytes) (h1 : z.oneCell' = true) (htn : P.underlying tn = some (.int kn)) {w : World} {s : Sl} {xs : List Value} (h : OwnS e w s xs) (h1x : ∀ v ∈ xs, v.oneCell' = true) {n : Nat} (hn : 0 < n) (hb : (s.len + n) * bytes ≤ 1099511627776) :
    ∃ s' w', apd P t tn (.slice s.a s.len s.cap) (.int .i64 (n : Int)) w = some (s', w') ∧ s'.len = s.len + n ∧ OwnS e w' s' (xs ++ List.replicate n z) ∧ Upd (fun k => s.blk = some k) w w' ∧ (s'.blk = s.blk ∨ s'.blk = some w.heap.size) := by
  obtain ⟨i, hi, hsz, hz, hby⟩ := T.info
  have hp := T.pos
  have hbig : (s.len + n) ≤ (s.len + n) * bytes := Nat.le_mul_of_pos_right _ hp
  have hbn : n * bytes ≤ (s.len + n) * bytes := Nat.mul_le_mul_right _ (by omega)
  have hxl : s.len = xs.length := h.len
  by_cases hroom : s.len + n ≤ s.cap
  · -- room
    obtain ⟨g, cs, a1, a2, a3, a4, a5⟩ : ∃ g cs, s.a = some ⟨g, 0, none⟩ ∧ Bk e w g cs ∧ s.cap ≤ maxLen ∧ cs.length = s.cap ∧ cs.take s.len = xs := by
      rcases h.2 with ⟨e1, e2, e3⟩ | ⟨g, cs, e1, e2, e3, e4, e5, e6⟩
      · omega
      · exact ⟨g, cs.toList, e1, by unfold Bk; simpa using e2, e4, by simpa using e5, by simpa using e6⟩
    obtain ⟨w', s1, s2, s3⟩ := Bk.stL (List.replicate n z) s.len 0 w cs a2 (by simp; omega) (fun v hv => by rw [(List.mem_replicate.1 hv).2]; exact h1)
    rw [Nat.add_zero] at s2
    have hst := stL_run (P := P) _ _ _ _ s1
    have hw : IntKind.i64.wrap (n : Int) = n := by rw [IntKind.wrap_i64]; omega
    have hneg : ¬ ((n : Int) < 0) := by omega
    have hns : ¬ (n * i.size = 0) := Nat.mul_ne_zero (by omega) (by omega)
    have h48i : ¬ (281474976710656 < (n : Int) * (i.bytes : Int)) := by rw [← Int.natCast_mul, hby]; omega
    have hzl : (Builtin.zeroCells z.cells n) = (List.replicate n z).toArray := zeroCells_list T.z0 n
    refine ⟨⟨some ⟨g, 0, none⟩, s.len + n, s.cap⟩, w', ?_, rfl, ?_, s3.mono fun k _ hk => by rw [hk]; simp [Sl.blk, a1], .inl (by simp [Sl.blk, a1])⟩
    · unfold apd
      rw [a1]
      simp [Builtin.append_, run_underlying T.ht, run_underlying htn, sizeOf, typeInfo, zeroValue, hi, hz, asInt, asIntOf, hw, hneg, hns, h48i, hroom, hzl, hsz, hst, (show ¬ n = 0 by omega)]
    · have := OwnS.of_bk s2 hroom a3 (by rw [seg_length (by simp; omega)]; exact a4)
      have e2 : (seg cs s.len (List.replicate n z)).take (s.len + n) = xs ++ List.replicate n z := by
        unfold seg
        rw [List.take_left' (by rw [List.length_append, List.length_take, List.length_replicate]; omega), a5]
      rw [e2] at this
      exact this
  · have hold : (Builtin.firstCells i.size s.len (.slice s.a s.len s.cap)).run P w.drew = .ok xs.toArray w.drew := by
      cases ha : s.a with
      | none =>
        rcases h.2 with ⟨e1, e2, e3⟩ | ⟨g, cs, e1, _⟩
        · have : xs = [] := List.eq_nil_of_length_eq_zero (by omega)
          rw [this]; simp [Builtin.firstCells]
        · rw [ha] at e1; cases e1
      | some p =>
        have hsrc := (h.drew).src h1x
        rcases hsrc.rd with ⟨e1, _⟩ | ⟨q, e1, e2⟩
        · rw [ha] at e1; cases e1
        · rw [ha] at e1
          obtain rfl := Option.some.inj e1
          exact run_firstCells_some (P := P) w.drew i.size s.len p s.len s.cap xs (by rw [hsz, hxl, Nat.mul_one]) e2
    have hw : IntKind.i64.wrap (n : Int) = n := by rw [IntKind.wrap_i64]; omega
    have hneg : ¬ ((n : Int) < 0) := by omega
    have hns : ¬ (n * i.size = 0) := Nat.mul_ne_zero (by omega) (by omega)
    have h48i : ¬ (281474976710656 < (n : Int) * (i.bytes : Int)) := by rw [← Int.natCast_mul, hby]; omega
    have hfit : Builtin.nextslicecap (s.len + n) s.cap * i.bytes ≤ 281474976710656 := growslice_fits (by omega) (by rw [hby]; omega)
    have h48' : ¬ (281474976710656 < Builtin.nextslicecap (s.len + n) s.cap * i.bytes) := by omega
    have h63' : ¬ (9223372036854775807 < ((s.len : Int) + (n : Int))) := by omega
    have hr : (Builtin.append_ #[t, tn] 0 #[.slice s.a s.len s.cap, .int .i64 n]).run P w =
        .ok (.slice (some ⟨w.heap.size, 0, none⟩) (s.len + n) (grownCap w (s.len + n) s.cap e)) (w.drew.alloc (.cells (xs.toArray ++ Builtin.zeroCells z.cells n ++ Builtin.zeroCells z.cells (grownCap w (s.len + n) s.cap e - (s.len + n))) e)) := by
      simp [Builtin.append_, run_underlying T.ht, run_underlying htn, sizeOf, typeInfo, zeroValue, hi, hz, asInt, asIntOf, hw, hroom, hneg, hns, h63', h48', h48i, Question.forced, hold, newRow, grownCap]
    have hgc := grownCap_le_maxLen w (s.len + n) s.cap e (by simp only [maxLen]; omega)
    have hgl := grownCap_ge w (s.len + n) s.cap e
    have hzl : ∀ m, (Builtin.zeroCells z.cells m) = (List.replicate m z).toArray := zeroCells_list T.z0
    rw [hzl, hzl] at hr
    refine ⟨⟨some ⟨w.heap.size, 0, none⟩, s.len + n, grownCap w (s.len + n) s.cap e⟩, _, by unfold apd; rw [hr], rfl, ⟨by show _ = s.len + n; rw [List.length_append, List.length_replicate]; omega, .inr ⟨w.heap.size, _, rfl, heap_alloc_new w.drew _, hgl, hgc, ?_, ?_⟩⟩, ((Upd.refl _ w).drew.trans' (Upd.alloc none_ _ _) fun _ _ e => e.elim), .inr rfl⟩
    · simp; omega
    · simp only [Array.toList_append]
      rw [List.take_left' (by simp; omega)]

/-- bytes that are read (the library has a Src of its own) -/
abbrev BSrc (w : World) (s : Sl) (l : List F) : Prop := Fw.Src w s (fb l)

theorem own_lt {e : TypeId} {w : World} {s : Sl} {xs : List Value} (h : OwnS e w s xs) : ∀ q, s.a = some q → q.block < w.heap.size := fun q hq => h.lt (k := q.block) (by simp [Sl.blk, hq])

/-- the end of a slice -/
theorem src_subF {w : World} {s : Sl} {vs : List Value} (h : Fw.Src w s vs) {lo : Nat} (h1 : lo ≤ vs.length) : Fw.Src w ⟨sla s.a lo s.cap 1, s.len - lo, s.cap - lo⟩ (vs.drop lo) := by
  have hl := h.len
  have hc := h.cap
  refine ⟨by simp; omega, by show s.len - lo ≤ s.cap - lo; omega, ?_, fun v hv => h.one v (List.mem_of_mem_drop hv)⟩
  rcases h.rd with ⟨a1, a2, a3⟩ | ⟨p, a1, a2⟩
  · left
    refine ⟨by simp [sla, a1], by show s.cap - lo = 0; omega, by rw [a3]; simp⟩
  · right
    by_cases hm : s.cap = lo
    · refine ⟨p, by simp [sla, a1, hm], fun i v hv => ?_⟩
      have : vs.drop lo = [] := List.drop_eq_nil_of_le (by omega)
      rw [this] at hv; simp at hv
    · refine ⟨p.add lo, by simp [sla, a1, hm], fun i v hv => ?_⟩
      have e : (p.add lo).add i = p.add (lo + i) := by
        unfold Addr.add
        by_cases h1 : lo = 0 <;> by_cases h2 : i = 0 <;> simp [h1, h2, Nat.add_assoc]
      rw [e]
      rw [List.getElem?_drop] at hv
      exact a2 _ _ hv
/-- a clone -/
theorem clone_ok (K : Nat) {w : World} {b : Sl} {l : List F} (hs : BSrc w b l) (hl : l.length ≤ 1099511627776) :
    ∃ s' w', slices_Clone_byte_byte b w = some ((s', ()), w') ∧ OwnS 5 w' s' (fb l) ∧ Upd none_ w w' ∧ Fresh w.heap.size s' := by
  have hbl : b.len = l.length := by rw [hs.len, fb_length]
  unfold slices_Clone_byte_byte
  cases ha : b.a with
  | none =>
    have h0 : l = [] := by
      rcases hs.rd with ⟨e1, e2, e3⟩ | ⟨q, e1, e2⟩
      · have := congrArg List.length e3
        rw [fb_length] at this
        exact List.eq_nil_of_length_eq_zero this
      · rw [ha] at e1; cases e1
    exact ⟨⟨none, 0, 0⟩, w, by rw [if_pos (by rfl)], by rw [h0]; exact OwnS.nil _ _, Upd.refl _ _, fun k hk => by cases hk⟩
  | some p =>
    obtain ⟨w1, a1, a2, a3⟩ := bld0_ok sliceB w
    obtain ⟨s2, w2, b1, b2, b3, b4, b5⟩ := apd_ok sliceB a2 (hs.upd0 a3) (by show (0 + b.len) * 1 ≤ _; omega)
    refine ⟨s2, w2, ?_, b3, a3.trans' b4 fun j hj e => by have e2 : w.heap.size = j := Option.some.inj e; omega, fun j hj => ?_⟩
    · rw [if_neg (by simp), a1, bnd_ok, ← ha]
      dsimp only
      rw [b1, bnd_ok]
    · rcases b5 with e | e
      · rw [e] at hj; have e2 : w.heap.size = j := Option.some.inj hj; omega
      · rw [e] at hj; have e2 : w1.heap.size = j := Option.some.inj hj; have := a3.size; omega

end Go.Sh

/- Coded: the four bytes behind a row. -/
set_option linter.unusedVariables false
set_option maxRecDepth 100000
namespace Go.Sh
open Go.Fw Go.Gf Go.RowKit Go.Proofs.Tryd

def onG : Nat → List F → List F → List F
  | _, [], N => N
  | off, m :: ms, N => onG (off + 1) ms (N.set off (N.getD off 0 + m))

theorem onG_length : ∀ (ms : List F) (off : Nat) (N : List F), (onG off ms N).length = N.length
  | [], _, _ => rfl
  | m :: ms, off, N => (onG_length ms (off + 1) (N.set off (N.getD off 0 + m))).trans (List.length_set ..)

theorem onG_eq : ∀ (ms : List F) (off : Nat) (N : List F), off + ms.length ≤ N.length → onG off ms N = N.take off ++ addHead ms (N.drop off)
  | [], off, N, _ => by
    have : addHead [] (N.drop off) = N.drop off := by cases N.drop off <;> rfl
    rw [this, List.take_append_drop]; rfl
  | m :: ms, off, N, h => by
    simp only [List.length_cons] at h
    have hi : off < N.length := by omega
    show onG (off + 1) ms (N.set off _) = _
    rw [onG_eq ms (off + 1) _ (by rw [List.length_set]; omega), List.drop_eq_getElem_cons hi]
    show _ = N.take off ++ (m + N[off]) :: addHead ms (N.drop (off + 1))
    have hg : N.getD off 0 = N[off] := by rw [List.getD_eq_getElem?_getD, List.getElem?_eq_getElem hi]; rfl
    rw [hg, F.add_comm m, List.drop_set_of_lt (by omega), List.take_succ_eq_append_getElem (by simpa using hi)]
    simp [List.take_set_of_le]

def stepG (g : List F) (a : F) : List F := onG 1 (g.map (· * a)) (g ++ [0])
theorem stepG_all : stepG (stepG (stepG (stepG [1] (tj 0)) (tj 1)) (tj 2)) (tj 3) = genL := by decide +kernel

theorem own_cell {e : TypeId} {w : World} {s : Sl} {l : List F} (h : OwnS e w s (fb l)) {i : Nat} (hi : i < l.length) : ∃ p, s.a = some p ∧ ldI .u8 (p.add i) w = some (bF (l.getD i 0)) := by
  obtain ⟨p, p1, p2⟩ := src_cell (h.src ints_one) hi
  refine ⟨p, p1, ?_⟩
  rw [p2, List.getD_eq_getElem?_getD, List.getElem?_eq_getElem hi]; rfl

theorem own_set {e : TypeId} {w : World} {s : Sl} {l : List F} (h : OwnS e w s (fb l)) {i : Nat} (hi : i < l.length) (v : F) :
    ∃ p w', s.a = some p ∧ stC (p.add i) (.int .u8 (bF v)) w = some w' ∧ OwnS e w' s (fb (l.set i v)) ∧ Upd (fun k => s.blk = some k) w w' := by
  obtain ⟨p, w', a, b, c, d⟩ := h.st (i := i) (by rw [h.len, fb_length]; exact hi) (.int .u8 (bF v))
  rw [fb_set] at c
  exact ⟨p, w', a, b, c, d⟩

theorem coded_l1 {K : Nat} (hK : 300 ≤ K) {b nx gs : Sl} {j : Nat} {a14 : Int} {G : List F} (hG : G.length < 4611686018427387904) (hne : ∀ q, gs.a = some q → G ≠ [] → nx.blk ≠ some q.block) :
    ∀ (d i m : Nat) (w : World) (N : List F), i + d = G.length → d < m → N.length = G.length + 1 → OwnS 5 w nx (fb N) → BSrc w gs G →
      ∃ w', escrow_coded_l1 K m b (j : Int) nx a14 gs ((G.length : Nat) : Int) (i : Int) w = some ((), w') ∧ OwnS 5 w' nx (fb (onG (i + 1) ((G.drop i).map (· * tj j)) N)) ∧ Upd (fun k => nx.blk = some k) w w' := by
  intro d
  induction d with
  | zero =>
    intro i m w N hi hm hN ho hs
    obtain ⟨m, rfl⟩ : ∃ q, m = q + 1 := ⟨m - 1, by omega⟩
    refine ⟨w, ?_, by rw [List.drop_eq_nil_of_le (by omega)]; exact ho, Upd.refl _ _⟩
    show escrow_coded_l1_b K (escrow_coded_l1 K m) b (j : Int) nx a14 gs ((G.length : Nat) : Int) (i : Int) w = _
    unfold escrow_coded_l1_b
    rw [if_neg (by simp only [decide_eq_true_eq]; omega)]
  | succ d ih =>
    intro i m w N hi hm hN ho hs
    obtain ⟨m, rfl⟩ : ∃ q, m = q + 1 := ⟨m - 1, by omega⟩
    have hgl : gs.len = G.length := by rw [hs.len, fb_length]
    have hnl : nx.len = N.length := by rw [ho.len, fb_length]
    obtain ⟨p, p1, p2⟩ := src_cell hs (i := i) (by omega)
    have e3 : IntKind.i64.wrap ((i : Int) + 1) = ((i + 1 : Nat) : Int) := by rw [w64 (by omega) (by omega)]; rfl
    have c1 : (0 : Int) ≤ (i : Int) ∧ (i : Int) < ((gs.len : Nat) : Int) := by omega
    have c2 : (0 : Int) ≤ ((i + 1 : Nat) : Int) ∧ ((i + 1 : Nat) : Int) < ((nx.len : Nat) : Int) := by omega
    have ud := (Upd.refl none_ w).drew
    obtain ⟨q, q1, q2⟩ := own_cell (ho.upd0 ud) (i := i + 1) (by omega)
    obtain ⟨q', w1, s1, s2, s3, s4⟩ := own_set (ho.upd0 ud) (i := i + 1) (by omega) (N.getD (i + 1) 0 + G[i]'(by omega) * tj j)
    obtain rfl : q' = q := Option.some.inj (s1.symm.trans q1)
    have u1 : Upd (fun k => nx.blk = some k) w w1 := s4.predrew
    obtain ⟨w2, k1, k2, k3⟩ := ih (i + 1) m w1 _ (by omega) (by omega) (by rw [List.length_set]; exact hN) s3 (src_updF hs u1 fun q hq hne' => hne q hq hne')
    refine ⟨w2, ?_, ?_, u1.trans' k3 fun _ _ e => e⟩
    · show escrow_coded_l1_b K (escrow_coded_l1 K m) b (j : Int) nx a14 gs ((G.length : Nat) : Int) (i : Int) w = _
      unfold escrow_coded_l1_b
      rw [if_pos (decide_eq_true (show (i : Int) < ((G.length : Nat) : Int) by omega)), p1, Option.bind_some, if_pos c1, Int.toNat_natCast, Nat.mul_one, p2, Option.bind_some, q1, Option.bind_some, e3, if_pos c2, Int.toNat_natCast, Nat.mul_one, q2, Option.bind_some, power_ok hK, Option.bind_some]
      dsimp only
      rw [tm hK, Option.bind_some, Option.bind_some, if_pos c2]
      dsimp only
      rw [addF, s2, Option.bind_some, k1]
    · rw [List.drop_eq_getElem_cons (show i < G.length by omega)]
      exact k2

theorem coded_l3 {K : Nat} (hK : 300 ≤ K) {b rs gs : Sl} {i9 : Nat} {c : F} {a46 a47 : Int} {G : List F} (hbig : i9 + G.length < 4611686018427387904) (hne : ∀ q, gs.a = some q → G ≠ [] → rs.blk ≠ some q.block) :
    ∀ (d i m : Nat) (w : World) (N : List F), i + d = G.length → d < m → i9 + G.length ≤ N.length → OwnS 5 w rs (fb N) → BSrc w gs G →
      ∃ w', escrow_coded_l3 K m b gs rs (i9 : Int) (bF c) a46 a47 gs ((G.length : Nat) : Int) (i : Int) w = some ((), w') ∧ OwnS 5 w' rs (fb (onG (i9 + i) ((G.drop i).map (c * ·)) N)) ∧ Upd (fun k => rs.blk = some k) w w' := by
  intro d
  induction d with
  | zero =>
    intro i m w N hi hm hN ho hs
    obtain ⟨m, rfl⟩ : ∃ q, m = q + 1 := ⟨m - 1, by omega⟩
    refine ⟨w, ?_, by rw [List.drop_eq_nil_of_le (by omega)]; exact ho, Upd.refl _ _⟩
    show escrow_coded_l3_b K (escrow_coded_l3 K m) b gs rs (i9 : Int) (bF c) a46 a47 gs ((G.length : Nat) : Int) (i : Int) w = _
    unfold escrow_coded_l3_b
    rw [if_neg (by simp only [decide_eq_true_eq]; omega)]
  | succ d ih =>
    intro i m w N hi hm hN ho hs
    obtain ⟨m, rfl⟩ : ∃ q, m = q + 1 := ⟨m - 1, by omega⟩
    have hgl : gs.len = G.length := by rw [hs.len, fb_length]
    have hnl : rs.len = N.length := by rw [ho.len, fb_length]
    obtain ⟨p, p1, p2⟩ := src_cell hs (i := i) (by omega)
    have e3 : IntKind.i64.wrap ((i : Int) + 1) = ((i + 1 : Nat) : Int) := by rw [w64 (by omega) (by omega)]; rfl
    have e4 : IntKind.i64.wrap ((i9 : Int) + (i : Int)) = ((i9 + i : Nat) : Int) := by rw [w64 (by omega) (by omega)]; rfl
    have c1 : (0 : Int) ≤ (i : Int) ∧ (i : Int) < ((gs.len : Nat) : Int) := by omega
    have c2 : (0 : Int) ≤ ((i9 + i : Nat) : Int) ∧ ((i9 + i : Nat) : Int) < ((rs.len : Nat) : Int) := by omega
    have ud := (Upd.refl none_ w).drew
    obtain ⟨q, q1, q2⟩ := own_cell (ho.upd0 ud) (i := i9 + i) (by omega)
    obtain ⟨q', w1, s1, s2, s3, s4⟩ := own_set (ho.upd0 ud) (i := i9 + i) (by omega) (N.getD (i9 + i) 0 + c * G[i]'(by omega))
    obtain rfl : q' = q := Option.some.inj (s1.symm.trans q1)
    have u1 : Upd (fun k => rs.blk = some k) w w1 := s4.predrew
    obtain ⟨w2, k1, k2, k3⟩ := ih (i + 1) m w1 _ (by omega) (by omega) (by rw [List.length_set]; exact hN) s3 (src_updF hs u1 fun q hq hne' => hne q hq hne')
    refine ⟨w2, ?_, ?_, u1.trans' k3 fun _ _ e => e⟩
    · show escrow_coded_l3_b K (escrow_coded_l3 K m) b gs rs (i9 : Int) (bF c) a46 a47 gs ((G.length : Nat) : Int) (i : Int) w = _
      unfold escrow_coded_l3_b
      rw [if_pos (decide_eq_true (show (i : Int) < ((G.length : Nat) : Int) by omega)), p1, Option.bind_some, if_pos c1, Int.toNat_natCast, Nat.mul_one, p2, Option.bind_some, q1, Option.bind_some, e4, if_pos c2, Int.toNat_natCast, Nat.mul_one, q2, Option.bind_some, tm hK, Option.bind_some, Option.bind_some, if_pos c2]
      dsimp only
      rw [addF, s2, Option.bind_some, e3, k1]
    · rw [List.drop_eq_getElem_cons (show i < G.length by omega)]
      exact k2

theorem coded_step {K : Nat} (hK : 18446744073709551616 ≤ K) {b gs : Sl} {G : List F} (hG : G.length ≤ 16) {j m : Nat} (hj : j < 4) {w : World} (ho : OwnS 5 w gs (fb G)) :
    ∃ s' w', escrow_coded_l0 K (m + 1) b gs (j : Int) w = escrow_coded_l0 K m b s' ((j + 1 : Nat) : Int) w' ∧ OwnS 5 w' s' (fb (stepG G (tj j))) ∧ Upd none_ w w' ∧ Fresh w.heap.size s' := by
  have hgl : gs.len = G.length := by rw [ho.len, fb_length]
  obtain ⟨s1, w1, a1, a2, a3, a4⟩ := clone_ok K (ho.src ints_one) (by omega)
  obtain ⟨w2, b1, b2, b3, b4⟩ := bldS1_ok sliceB (.int .u8 (bF 0)) rfl w1
  have b1 : bldS prog 23 1 #[(0, (.int .u8 0))] w1 = some (⟨some ⟨w1.heap.size, 0, none⟩, 1, 1⟩, w2) := b1
  have b2 : OwnS 5 w2 ⟨some ⟨w1.heap.size, 0, none⟩, 1, 1⟩ (fb [0]) := b2
  have h1l := a2.len
  rw [fb_length] at h1l
  obtain ⟨s3, w3, c1, c2, c3, c4, c5⟩ := apd_ok sliceB (a2.upd0 b3) (b2.src ints_one) (by show (s1.len + 1) * 1 ≤ _; omega)
  rw [← fb_append] at c3
  have q1 := a3.size
  have q2 := b3.size
  have hf3 : ∀ k, s3.blk = some k → w.heap.size ≤ k := fun k hk => by
    rcases c5 with e | e
    · rw [e] at hk; exact a4 k hk
    · rw [e] at hk; have e2 : w2.heap.size = k := Option.some.inj hk; omega
  have u3 : Upd none_ w w3 := (a3.and0 b3).trans' c4 fun k hk e => by have := a4 k e; omega
  have hgb : ∀ q, gs.a = some q → q.block < w.heap.size := own_lt ho
  obtain ⟨w4, d1, d2, d3⟩ := coded_l1 (K := K) (by omega) (b := b) (a14 := (j : Int)) (j := j) (by omega) (fun q hq _ e => by have := hf3 _ e; have := hgb q hq; omega) G.length 0 K w3 _ (by omega) (by omega) (by rw [List.length_append]; rfl) c3 ((ho.upd0 u3).src ints_one)
  have d1 : escrow_coded_l1 K K b (j : Int) s3 (j : Int) gs ((gs.len : Nat) : Int) 0 w3 = some ((), w4) := by rw [hgl]; exact d1
  have e3 : IntKind.i64.wrap ((j : Int) + 1) = ((j + 1 : Nat) : Int) := by rw [w64 (by omega) (by omega)]; rfl
  refine ⟨s3, w4, ?_, d2, u3.trans' d3 fun k hk e => by have := hf3 k e; omega, hf3⟩
  show escrow_coded_l0_b K (escrow_coded_l0 K m) b gs (j : Int) w = _
  unfold escrow_coded_l0_b
  rw [if_pos (decide_eq_true (show (j : Int) < 4 by omega)), a1, bnd_ok, b1, bnd_ok]
  dsimp only
  rw [c1, bnd_ok, d1, bnd_ok, e3]

/-- the division, byte by byte -/
theorem coded_l2 {K : Nat} (hK : 18446744073709551616 ≤ K) {b rs gs : Sl} {n : Nat} (hn : n ≤ 1099511627776) (hne : ∀ q, gs.a = some q → rs.blk ≠ some q.block) :
    ∀ (d i m : Nat) (w : World) (R : List F), i + d = n → d < m → R.length = n + 4 → OwnS 5 w rs (fb R) → BSrc w gs genL →
      ∃ R' w', escrow_coded_l2 K m b gs rs ((n : Nat) : Int) (i : Int) w = some ((), w') ∧ OwnS 5 w' rs (fb R') ∧ R'.length = n + 4 ∧ R'.drop n = divR d (R.drop i) ∧ Upd (fun k => rs.blk = some k) w w' := by
  intro d
  induction d with
  | zero =>
    intro i m w R hi hm hR ho hs
    obtain ⟨m, rfl⟩ : ∃ q, m = q + 1 := ⟨m - 1, by omega⟩
    obtain rfl : i = n := by omega
    refine ⟨R, w, ?_, ho, hR, by cases R.drop i <;> rfl, Upd.refl _ _⟩
    show escrow_coded_l2_b K (escrow_coded_l2 K m) b gs rs ((i : Nat) : Int) (i : Int) w = _
    unfold escrow_coded_l2_b
    rw [if_neg (by simp only [decide_eq_true_eq]; omega)]
  | succ d ih =>
    intro i m w R hi hm hR ho hs
    obtain ⟨m, rfl⟩ : ∃ q, m = q + 1 := ⟨m - 1, by omega⟩
    have hrl : rs.len = R.length := by rw [ho.len, fb_length]
    have hgl : gs.len = genL.length := by rw [hs.len, fb_length]
    have hg5 : genL.length = 5 := by rw [genL_eq, List.length_cons, genT_len]
    obtain ⟨p, p1, p2⟩ := own_cell ho (i := i) (by omega)
    have c1 : (0 : Int) ≤ (i : Int) ∧ (i : Int) < ((rs.len : Nat) : Int) := by omega
    have e3 : IntKind.i64.wrap ((i : Int) + 1) = ((i + 1 : Nat) : Int) := by rw [w64 (by omega) (by omega)]; rfl
    obtain ⟨w1, s1, s2, s3⟩ := coded_l3 (K := K) (by omega) (b := b) (i9 := i) (c := R.getD i 0) (a46 := ((n : Nat) : Int)) (a47 := (i : Int)) (G := genL) (by omega) (fun q hq _ => hne q hq) genL.length 0 K w R (by omega) (by omega) (by omega) ho hs
    have s1 : escrow_coded_l3 K K b gs rs (i : Int) (bF (R.getD i 0)) ((n : Nat) : Int) (i : Int) gs ((gs.len : Nat) : Int) 0 w = some ((), w1) := by rw [hgl]; exact s1
    rw [Nat.add_zero, List.drop_zero] at s2
    obtain ⟨R', w2, k1, k2, k3, k4, k5⟩ := ih (i + 1) m w1 _ (by omega) (by omega) (by rw [onG_length]; exact hR) s2 (src_updF hs s3 fun q hq _ => hne q hq)
    refine ⟨R', w2, ?_, k2, k3, ?_, s3.trans' k5 fun _ _ e => e⟩
    · show escrow_coded_l2_b K (escrow_coded_l2 K m) b gs rs ((n : Nat) : Int) (i : Int) w = _
      unfold escrow_coded_l2_b
      rw [if_pos (decide_eq_true (show (i : Int) < ((n : Nat) : Int) by omega)), p1, Option.bind_some, if_pos c1, Int.toNat_natCast, Nat.mul_one, p2, Option.bind_some, s1, bnd_ok, e3, k1]
    · rw [k4, onG_eq _ _ _ (by rw [List.length_map]; omega)]
      have h1 : R.drop i = R.getD i 0 :: R.drop (i + 1) := by
        rw [List.drop_eq_getElem_cons (show i < R.length by omega)]
        congr 1
        rw [List.getD_eq_getElem?_getD, List.getElem?_eq_getElem (by omega)]; rfl
      rw [h1, genL_eq, List.map_cons]
      have h2 : (R.take i ++ addHead (R.getD i 0 * 1 :: genT.map (R.getD i 0 * ·)) (R.getD i 0 :: R.drop (i + 1))).drop (i + 1) = addHead (genT.map (R.getD i 0 * ·)) (R.drop (i + 1)) := by
        show (R.take i ++ (_ :: addHead (genT.map (R.getD i 0 * ·)) (R.drop (i + 1)))).drop (i + 1) = _
        rw [List.drop_append, List.drop_eq_nil_of_le (by rw [List.length_take]; omega), List.length_take, Nat.min_eq_left (by omega), show i + 1 - i = 1 by omega]
        rfl
      rw [h2]
      rfl

theorem coded_ok {K : Nat} (hK : 18446744073709551616 ≤ K) {w : World} {b : Sl} {l : List F} (hs : BSrc w b l) (hl : l.length ≤ 1073741824) :
    ∃ s' w', escrow_coded K b w = some ((s', ()), w') ∧ OwnS 5 w' s' (fb (codedP l)) ∧ Upd none_ w w' ∧ Fresh w.heap.size s' := by
  have hbl : b.len = l.length := by rw [hs.len, fb_length]
  obtain ⟨w0, a1, a2, a3, a4⟩ := bldS1_ok sliceB (.int .u8 (bF 1)) rfl w
  have a1 : bldS prog 23 1 #[(0, (.int .u8 1))] w = some (⟨some ⟨w.heap.size, 0, none⟩, 1, 1⟩, w0) := a1
  have a2 : OwnS 5 w0 ⟨some ⟨w.heap.size, 0, none⟩, 1, 1⟩ (fb [1]) := a2
  obtain ⟨k, hk⟩ : ∃ k, K = k + 5 := ⟨K - 5, by omega⟩
  obtain ⟨s1, w1, b1, b2, b3, b4⟩ := coded_step hK (b := b) (G := [1]) (by decide) (j := 0) (m := k + 4) (by omega) a2
  obtain ⟨s2, w2, c1, c2, c3, c4⟩ := coded_step hK (b := b) (G := stepG [1] (tj 0)) (by decide) (j := 1) (m := k + 3) (by omega) b2
  obtain ⟨s3, w3, d1, d2, d3, d4⟩ := coded_step hK (b := b) (G := stepG (stepG [1] (tj 0)) (tj 1)) (by decide) (j := 2) (m := k + 2) (by omega) c2
  obtain ⟨s4, w4, e1, e2, e3, e4⟩ := coded_step hK (b := b) (G := stepG (stepG (stepG [1] (tj 0)) (tj 1)) (tj 2)) (by decide) (j := 3) (m := k + 1) (by omega) d2
  rw [stepG_all] at e2
  have hl0 : escrow_coded_l0 K K b ⟨some ⟨w.heap.size, 0, none⟩, 1, 1⟩ 0 w0 = some ((s4, ()), w4) := by
    have gen : ∀ n, n = k + 5 → escrow_coded_l0 K n b ⟨some ⟨w.heap.size, 0, none⟩, 1, 1⟩ ((0 : Nat) : Int) w0 = some ((s4, ()), w4) := fun n hn => by
      rw [hn, b1, c1, d1, e1]
      show escrow_coded_l0_b K (escrow_coded_l0 K k) b s4 ((4 : Nat) : Int) w4 = _
      unfold escrow_coded_l0_b
      rw [if_neg (by decide)]
    exact gen K hk
  have u4 : Upd none_ w w4 := (((a3.and0 b3).and0 c3).and0 d3).and0 e3
  obtain ⟨s5, w5, f1, f2, f3, f4⟩ := clone_ok K (hs.upd0 u4) (by omega)
  have h5l := f2.len
  rw [fb_length] at h5l
  obtain ⟨s6, w6, g1, g2, g3, g4, g5⟩ := apdz_ok sliceB rfl (tn := 3) (kn := .i64) (by kernel_rfl) f2 (fb_one _) (n := 4) (by omega) (by omega)
  have g1 : apd prog 23 3 (.slice s5.a s5.len s5.cap) (.int .i64 4) w5 = some (s6, w6) := g1
  have ez : List.replicate 4 (Value.int .u8 0) = fb [0, 0, 0, 0] := rfl
  rw [ez, ← fb_append] at g3
  have q4 := u4.size
  have q5 := f3.size
  have hs4 : ∀ q, s4.a = some q → q.block < w4.heap.size := own_lt e2
  have hf6 : ∀ j, s6.blk = some j → w4.heap.size ≤ j := fun j hj => by
    rcases g5 with e | e
    · rw [e] at hj; exact f4 j hj
    · rw [e] at hj; have e2 : w5.heap.size = j := Option.some.inj hj; omega
  have u46 : Upd none_ w4 w6 := f3.trans' g4 fun j hj e => by have := f4 j e; omega
  obtain ⟨R, w7, h1, h2, h3, h4, h5⟩ := coded_l2 hK (b := b) (rs := s6) (gs := s4) (n := l.length) (by omega) (fun q hq e => by have := hf6 _ e; have := hs4 q hq; omega) l.length 0 K w6 _ (by omega) (by omega) (by rw [List.length_append]; rfl) g3 ((e2.upd0 u46).src ints_one)
  have h1 : escrow_coded_l2 K K b s4 s6 ((b.len : Nat) : Int) 0 w6 = some ((), w7) := by rw [hbl]; exact h1
  have u47 : Upd none_ w4 w7 := u46.trans' h5 fun j hj e => by have := hf6 j e; omega
  have u7 : Upd none_ w w7.drew := (u4.and0 u47).drew
  obtain ⟨s8, w8, i1, i2, i3, i4⟩ := clone_ok K (hs.upd0 u7) (by omega)
  have h8l := i2.len
  rw [fb_length] at h8l
  have h6l : s6.len = l.length + 4 := by rw [h2.len, fb_length, h3]
  have hsub := Go.Fw.OwnS.src (((h2.upd0 (Upd.refl none_ w7).drew).upd0 i3)) (fb_one _)
  have hd := src_subF hsub (lo := l.length) (by rw [fb_length]; omega)
  rw [fb_drop] at hd
  obtain ⟨s9, w9, j1, j2, j3, j4, j5⟩ := apd_ok sliceB i2 hd (by show (s8.len + (s6.len - l.length)) * 1 ≤ _; omega)
  rw [← fb_append, h4, List.drop_zero] at j3
  have q7 := u7.size
  have q8 := i3.size
  have cc : (0 : Int) ≤ ((l.length : Nat) : Int) ∧ ((l.length : Nat) : Int) ≤ ((s6.len : Nat) : Int) := by omega
  refine ⟨s9, w9, ?_, j3, (u7.and0 i3).trans' j4 fun j hj e => by have := i4 j e; omega, fun j hj => ?_⟩
  · unfold escrow_coded
    rw [a1, bnd_ok, hl0, bnd_ok, f1, bnd_ok, g1, bnd_ok, h1, bnd_ok, hbl, if_pos cc, i1, bnd_ok, Int.toNat_natCast]
    dsimp only
    rw [j1, bnd_ok]
  · rcases j5 with e | e
    · rw [e] at hj; have := i4 j hj; omega
    · rw [e] at hj; have e2 : w8.heap.size = j := Option.some.inj hj; omega

end Go.Sh

/- A row put right: the program's way; its parts. -/
set_option linter.unusedVariables false
set_option maxRecDepth 100000
namespace Go.Sh
open Go.Fw Go.Gf Go.RowKit Go.Proofs.Tryd

theorem asI_int (κ : IntKind) (n : Int) : asI κ (.int κ n) = some n := by cases κ <;> rfl

section
variable {K : Nat} (hK : 300 ≤ K) {w : World} {g : Nat} {e : TypeId} {c0 c1 c2 c3 : F}
include hK

end

/-- an index, or none -/
def atI : Option Nat → Int
  | some k => (k : Int)
  | none => -1

end Go.Sh

/- A row put right: the program's way, whole. -/
set_option linter.unusedVariables false
set_option maxRecDepth 100000
namespace Go.Sh
open Go.Fw Go.Gf Go.RowKit Go.Proofs.Tryd

end Go.Sh

/- The document's powers, sums, quotients. -/
set_option linter.unusedVariables false
set_option maxRecDepth 100000
namespace Go.Sh
open Go.Fw Go.Gf Go.RowKit Go.Proofs.Tryd

def powL (n : Nat) : List F := (List.range n).map tj
theorem powL_length (n : Nat) : (powL n).length = n := by simp [powL]
theorem powL_succ (n : Nat) : powL (n + 1) = powL n ++ [tj n] := by simp [powL, List.range_succ]
theorem powL_get {n i : Nat} (hi : i < n) : (powL n)[i]'(by rw [powL_length]; exact hi) = tj i := by simp [powL]

/-- a byte is pushed behind bytes that were made here -/
theorem push_fb {w : World} {s : Sl} {l : List F} (ho : OwnS 5 w s (fb l)) (hl : l.length ≤ 1099511627776) (v : F) :
    ∃ w1 s' w', bldS prog 23 1 #[(0, (.int .u8 (bF v)))] w = some (⟨some ⟨w.heap.size, 0, none⟩, 1, 1⟩, w1) ∧ apd prog 23 23 (.slice s.a s.len s.cap) (.slice (some ⟨w.heap.size, 0, none⟩) 1 1) w1 = some (s', w') ∧ OwnS 5 w' s' (fb (l ++ [v])) ∧ Upd (fun k => s.blk = some k) w w' ∧ ∀ k, s'.blk = some k → s.blk = some k ∨ w.heap.size ≤ k := by
  obtain ⟨w1, a1, a2, a3, a4⟩ := bldS1_ok sliceB (.int .u8 (bF v)) rfl w
  have a2 : OwnS 5 w1 ⟨some ⟨w.heap.size, 0, none⟩, 1, 1⟩ (fb [v]) := a2
  have hpl := ho.len
  rw [fb_length] at hpl
  obtain ⟨s2, w2, b1, b2, b3, b4, b5⟩ := apd_ok sliceB (ho.upd0 a3) (a2.src ints_one) (by show (s.len + 1) * 1 ≤ _; omega)
  rw [← fb_append] at b3
  have q1 := a3.size
  refine ⟨w1, s2, w2, a1, b1, b3, (a3.mono (T := fun k => s.blk = some k) fun _ _ e => e.elim).trans' b4 fun _ _ e => e, fun k hk => ?_⟩
  rcases b5 with e | e
  · rw [e] at hk; exact .inl hk
  · rw [e] at hk; have e2 : w1.heap.size = k := Option.some.inj hk; exact .inr (by omega)

theorem rPowers_loop {K : Nat} (hK : 300 ≤ K) {n : Nat} (hn : n ≤ 1099511627776) :
    ∀ (d i m : Nat) (w : World) (s : Sl), i + d = n → d < m → OwnS 5 w s (fb (powL i)) →
      ∃ s' w', ref11_Powers_l0 K m (n : Int) s (bF (tj i)) (i : Int) w = some ((s', ()), w') ∧ OwnS 5 w' s' (fb (powL n)) ∧ Upd (fun k => s.blk = some k) w w' ∧ ∀ k, s'.blk = some k → s.blk = some k ∨ w.heap.size ≤ k := by
  intro d
  induction d with
  | zero =>
    intro i m w s hi hm ho
    obtain ⟨m, rfl⟩ : ∃ q, m = q + 1 := ⟨m - 1, by omega⟩
    obtain rfl : i = n := by omega
    refine ⟨s, w, ?_, ho, Upd.refl _ _, fun k hk => .inl hk⟩
    show ref11_Powers_l0_b K (ref11_Powers_l0 K m) (i : Int) s (bF (tj i)) (i : Int) w = _
    unfold ref11_Powers_l0_b
    rw [if_neg (by simp)]
  | succ d ih =>
    intro i m w s hi hm ho
    obtain ⟨m, rfl⟩ : ∃ q, m = q + 1 := ⟨m - 1, by omega⟩
    have e3 : IntKind.i64.wrap ((i : Int) + 1) = ((i + 1 : Nat) : Int) := by rw [w64 (by omega) (by omega)]; rfl
    obtain ⟨w1, s2, w2, a1, a2, a3, a4, a5⟩ := push_fb ho (by rw [powL_length]; omega) (tj i)
    rw [← powL_succ] at a3
    obtain ⟨s3, w3, b1, b2, b3, b4⟩ := ih (i + 1) m w2 s2 (by omega) (by omega) a3
    have q := a4.size
    have et := rtimes hK (tj i) F.three
    rw [bF_three] at et
    refine ⟨s3, w3, ?_, b2, a4.trans' b3 (fun k hk e => (a5 k e).elim id fun e2 => absurd hk (by omega)), fun k hk => (b4 k hk).elim (a5 k) fun e => .inr (by omega)⟩
    show ref11_Powers_l0_b K (ref11_Powers_l0 K m) (n : Int) s (bF (tj i)) (i : Int) w = _
    unfold ref11_Powers_l0_b
    rw [if_pos (decide_eq_true (show (i : Int) < (n : Int) by omega)), a1, bnd_ok]
    dsimp only
    rw [a2, bnd_ok, et, Option.bind_some, e3]
    exact b1

theorem rPowers_ok {K : Nat} (hK : 18446744073709551616 ≤ K) (w : World) {n : Nat} (hn : n ≤ 1099511627776) :
    ∃ s' w', ref11_Powers K (n : Int) w = some ((s', ()), w') ∧ OwnS 5 w' s' (fb (powL n)) ∧ Upd none_ w w' ∧ Fresh w.heap.size s' := by
  obtain ⟨s', w', a1, a2, a3, a4⟩ := rPowers_loop (K := K) (by omega) hn n 0 K w ⟨none, 0, 0⟩ (by omega) (by omega) (OwnS.nil _ _)
  have a1 : ref11_Powers_l0 K K (n : Int) ⟨none, 0, 0⟩ 1 0 w = some ((s', ()), w') := a1
  refine ⟨s', w', ?_, a2, a3.mono (fun j _ e => by cases e), fun j hj => (a4 j hj).elim (fun e => by cases e) id⟩
  unfold ref11_Powers
  rw [a1, bnd_ok]

theorem over_ne {a b v : F} (hb : b ≠ 0) (h : v.n < (a * b.inv).n) : v * b ≠ a := fun e => by
  have : v = a * b.inv := by rw [← e, F.mul_assoc, F.mul_inv hb, F.mul_one]
  rw [this] at h; exact absurd h (Nat.lt_irrefl _)

theorem rover_loop {K : Nat} (hK : 300 ≤ K) {a b : F} (hb : b ≠ 0) : ∀ (d i m : Nat), i + d = (a * b.inv).n → d < m → ref11_over_l0 K m (bF a) (bF b) (i : Int) = some (.ret (bF (a * b.inv), ())) := by
  have hab : a * b.inv * b = a := by rw [F.mul_assoc, F.inv_mul hb, F.mul_one]
  intro d
  induction d with
  | zero =>
    intro i m hi hm
    obtain ⟨m, rfl⟩ : ∃ q, m = q + 1 := ⟨m - 1, by omega⟩
    have hlt := (a * b.inv).lt
    have hbi : IntKind.u8.wrap (i : Int) = bF (a * b.inv) := by
      rw [IntKind.wrap_u8]; show _ = (((a * b.inv).n : Nat) : Int); omega
    show ref11_over_l0_b K (ref11_over_l0 K m) (bF a) (bF b) (i : Int) = _
    unfold ref11_over_l0_b
    rw [if_pos (decide_eq_true (show (i : Int) < 256 by omega)), hbi, rtimes hK, Option.bind_some, hab, if_pos (by simp)]
  | succ d ih =>
    intro i m hi hm
    obtain ⟨m, rfl⟩ : ∃ q, m = q + 1 := ⟨m - 1, by omega⟩
    have hlt := (a * b.inv).lt
    obtain ⟨v, hv⟩ : ∃ v : F, v.n = i := ⟨⟨i, by omega⟩, rfl⟩
    have hbi : IntKind.u8.wrap (i : Int) = bF v := by
      rw [IntKind.wrap_u8]; show _ = ((v.n : Nat) : Int); omega
    have hne := over_ne hb (v := v) (a := a) (by omega)
    have hbq : ¬ (bF (v * b) == bF a) = true := by rw [beq_iff_eq, bF_eq]; exact hne
    have e3 : IntKind.i64.wrap ((i : Int) + 1) = ((i + 1 : Nat) : Int) := by rw [w64 (by omega) (by omega)]; rfl
    show ref11_over_l0_b K (ref11_over_l0 K m) (bF a) (bF b) (i : Int) = _
    unfold ref11_over_l0_b
    rw [if_pos (decide_eq_true (show (i : Int) < 256 by omega)), hbi, rtimes hK, Option.bind_some]
    dsimp only
    rw [if_neg hbq, e3]
    exact ih (i + 1) m (by omega) (by omega)

theorem rover_ok {K : Nat} (hK : 300 ≤ K) (a : F) {b : F} (hb : b ≠ 0) : ref11_over K (bF a) (bF b) = some (bF (a * b.inv), ()) := by
  have h := rover_loop hK (a := a) hb (a * b.inv).n 0 K (by omega) (by have := (a * b.inv).lt; omega)
  have h : ref11_over_l0 K K (bF a) (bF b) 0 = _ := h
  unfold ref11_over
  rw [h]; rfl

/-! ### Sums -/

def sumG (j : Nat) : F → List F → F
  | a, [] => a
  | a, c :: l => sumG j (a + c * tj (j * l.length)) l
theorem sumG_eq (j : Nat) : ∀ (l : List F) (a : F), sumG j a l = a + sj l j
  | [], a => by show a = a + 0; rw [F.add_zero]
  | c :: l, a => by
    show sumG j (a + c * tj (j * l.length)) l = _
    rw [sumG_eq j l]
    unfold sj
    rw [hor_cons, Nat.mul_comm, tj_mul, F.add_assoc]

theorem rSums_l1 {K : Nat} (hK : 300 ≤ K) {b ps : Sl} {l : List F} {g : Nat} {e : TypeId} {a2 : Addr} (hl : l.length ≤ 1099511627776) {i : Nat} (hi : i < l.length) {w : World} {S : List F} (hS : S.length = 4) (hb : Bk e w g (fb S)) (hs : BSrc w b l) (hp : BSrc w ps (powL 255)) {j m : Nat} (hj : j < 4) :
    ∃ w', ref11_Sums_l1 K (m + 1) b a2 ⟨g, 0, none⟩ ps ((l.length : Nat) : Int) (i : Int) (j : Int) w = ref11_Sums_l1 K m b a2 ⟨g, 0, none⟩ ps ((l.length : Nat) : Int) (i : Int) ((j + 1 : Nat) : Int) w' ∧ Bk e w' g (fb (S.set j (S.getD j 0 + l[i] * tj (j * (l.length - 1 - i))))) ∧ Upd (· = g) w w' := by
  have hbl : b.len = l.length := by rw [hs.len, fb_length]
  have hpl : ps.len = 255 := by rw [hp.len, fb_length, powL_length]
  have ud := (Upd.refl none_ w).drew
  obtain ⟨r, hr⟩ : ∃ r, r = l.length - 1 - i := ⟨_, rfl⟩
  rw [← hr]
  have hjr : j * r ≤ 3 * 1099511627776 := Nat.mul_le_mul (by omega) (by omega)
  have e1 : IntKind.i64.wrap (((l.length : Nat) : Int) - 1) = ((l.length - 1 : Nat) : Int) := by rw [w64 (by omega) (by omega)]; omega
  have e2 : IntKind.i64.wrap (((l.length - 1 : Nat) : Int) - (i : Int)) = ((r : Nat) : Int) := by rw [w64 (by omega) (by omega)]; omega
  have e4 : IntKind.i64.wrap ((j : Int) * ((r : Nat) : Int)) = ((j * r : Nat) : Int) := by rw [← Int.natCast_mul, w64 (by omega) (by omega)]
  have e5 : Int.tmod ((j * r : Nat) : Int) 255 = ((j * r % 255 : Nat) : Int) := rfl
  have hlt : j * r % 255 < 255 := Nat.mod_lt _ (by decide)
  have hj1 : IntKind.i64.wrap ((j : Int) + 1) = ((j + 1 : Nat) : Int) := by rw [w64 (by omega) (by omega)]; rfl
  obtain ⟨p, p1, p2⟩ := src_cell (hs.upd0 ud) hi
  obtain ⟨q, q1, q2⟩ := src_cell (hp.upd0 ud) (i := j * r % 255) (by rw [powL_length]; exact hlt)
  rw [powL_get hlt] at q2
  have etj : tj (j * r % 255) = tj (j * r) := pow3_mod _
  rw [etj] at q2
  have hc := bk_cellF hb.drew (j := j) (by omega)
  have hgd : S[j]'(by omega) = S.getD j 0 := by rw [List.getD_eq_getElem?_getD, List.getElem?_eq_getElem (by omega)]; rfl
  rw [hgd] at hc
  obtain ⟨w1, s1, s2, s3⟩ := hb.drew.stC (i := j) (by rw [fb_length]; omega) (.int .u8 (bF (S.getD j 0 + l[i] * tj (j * r))))
  rw [fb_set] at s2
  have c1 : (0 : Int) ≤ (i : Int) ∧ (i : Int) < ((b.len : Nat) : Int) := by omega
  have c2 : (0 : Int) ≤ (j : Int) ∧ (j : Int) < ((4 : Nat) : Int) := by omega
  have c3 : (0 : Int) ≤ ((j * r % 255 : Nat) : Int) ∧ ((j * r % 255 : Nat) : Int) < ((ps.len : Nat) : Int) := by rw [hpl]; exact ⟨Int.natCast_nonneg _, Int.ofNat_lt.2 hlt⟩
  refine ⟨w1, ?_, s2, s3.predrew⟩
  show ref11_Sums_l1_b K (ref11_Sums_l1 K m) b a2 ⟨g, 0, none⟩ ps ((l.length : Nat) : Int) (i : Int) (j : Int) w = _
  unfold ref11_Sums_l1_b
  rw [if_pos (decide_eq_true (show (j : Int) < 4 by omega)), if_pos c2, p1, Option.bind_some, if_pos c1, q1, Option.bind_some, e1, e2, e4, e5, if_pos c3, Int.toNat_natCast, Nat.mul_one, add_lit, Nat.zero_add, hc, Option.bind_some, Int.toNat_natCast, Nat.mul_one, p2, Option.bind_some, Int.toNat_natCast, Nat.mul_one, q2, Option.bind_some, rtimes hK, Option.bind_some, if_pos c2, addF, s1, Option.bind_some, hj1]

theorem rSums_l0 {K : Nat} (hK : 18446744073709551616 ≤ K) {b ps : Sl} {l : List F} {g : Nat} {e : TypeId} {a2 : Addr} (hl : l.length ≤ 1099511627776) (hgb : ∀ q, b.a = some q → l ≠ [] → q.block ≠ g) (hgp : ∀ q, ps.a = some q → q.block ≠ g) :
    ∀ (d i m : Nat) (w : World) (a b0 c dd : F), i + d = l.length → d < m → Bk e w g (fb [a, b0, c, dd]) → BSrc w b l → BSrc w ps (powL 255) →
      ∃ w', ref11_Sums_l0 K m b a2 ⟨g, 0, none⟩ ps ((l.length : Nat) : Int) (i : Int) w = some ((), w') ∧ Bk e w' g (fb [sumG 0 a (l.drop i), sumG 1 b0 (l.drop i), sumG 2 c (l.drop i), sumG 3 dd (l.drop i)]) ∧ Upd (· = g) w w' := by
  intro d
  induction d with
  | zero =>
    intro i m w a b0 c dd hi hm hb hs hp
    obtain ⟨m, rfl⟩ : ∃ q, m = q + 1 := ⟨m - 1, by omega⟩
    refine ⟨w, ?_, by rw [List.drop_eq_nil_of_le (by omega)]; exact hb, Upd.refl _ _⟩
    show ref11_Sums_l0_b K (ref11_Sums_l0 K m) b a2 ⟨g, 0, none⟩ ps ((l.length : Nat) : Int) (i : Int) w = _
    unfold ref11_Sums_l0_b
    rw [if_neg (by simp only [decide_eq_true_eq]; omega)]
  | succ d ih =>
    intro i m w a b0 c dd hi hm hb hs hp
    obtain ⟨m, rfl⟩ : ∃ q, m = q + 1 := ⟨m - 1, by omega⟩
    have hil : i < l.length := by omega
    have e3 : IntKind.i64.wrap ((i : Int) + 1) = ((i + 1 : Nat) : Int) := by rw [w64 (by omega) (by omega)]; rfl
    obtain ⟨k, hk⟩ : ∃ k, K = k + 5 := ⟨K - 5, by omega⟩
    have up : ∀ {w w' : World}, BSrc w b l → Upd (· = g) w w' → BSrc w' b l := fun h u => src_updF h u fun q hq hne => hgb q hq hne
    have upp : ∀ {w w' : World}, BSrc w ps (powL 255) → Upd (· = g) w w' → BSrc w' ps (powL 255) := fun h u => src_updF h u fun q hq _ => hgp q hq
    obtain ⟨w1, a1, b1, u1⟩ := rSums_l1 (K := K) (by omega) (a2 := a2) hl hil rfl hb hs hp (j := 0) (m := k + 4) (by omega)
    obtain ⟨w2, a2', b2, u2⟩ := rSums_l1 (K := K) (by omega) (a2 := a2) hl hil (by rfl) b1 (up hs u1) (upp hp u1) (j := 1) (m := k + 3) (by omega)
    have u12 := u1.trans' u2 fun _ _ e => e
    obtain ⟨w3, a3, b3, u3⟩ := rSums_l1 (K := K) (by omega) (a2 := a2) hl hil (by rfl) b2 (up hs u12) (upp hp u12) (j := 2) (m := k + 2) (by omega)
    have u13 := u12.trans' u3 fun _ _ e => e
    obtain ⟨w4, a4, b4, u4⟩ := rSums_l1 (K := K) (by omega) (a2 := a2) hl hil (by rfl) b3 (up hs u13) (upp hp u13) (j := 3) (m := k + 1) (by omega)
    have u14 := u13.trans' u4 fun _ _ e => e
    have b4 : Bk e w4 g (fb [a + l[i] * tj (0 * (l.length - 1 - i)), b0 + l[i] * tj (1 * (l.length - 1 - i)), c + l[i] * tj (2 * (l.length - 1 - i)), dd + l[i] * tj (3 * (l.length - 1 - i))]) := b4
    have hin : ref11_Sums_l1 K K b a2 ⟨g, 0, none⟩ ps ((l.length : Nat) : Int) (i : Int) 0 w = some ((), w4) := by
      have gen : ∀ n, n = k + 5 → ref11_Sums_l1 K n b a2 ⟨g, 0, none⟩ ps ((l.length : Nat) : Int) (i : Int) ((0 : Nat) : Int) w = some ((), w4) := fun n hn => by
        rw [hn, a1, a2', a3, a4]
        show ref11_Sums_l1_b K (ref11_Sums_l1 K k) b a2 ⟨g, 0, none⟩ ps ((l.length : Nat) : Int) (i : Int) ((4 : Nat) : Int) w4 = _
        unfold ref11_Sums_l1_b
        rw [if_neg (by decide)]
      exact gen K hk
    obtain ⟨w5, c1, c2, c3⟩ := ih (i + 1) m w4 _ _ _ _ (by omega) (by omega) b4 (up hs u14) (upp hp u14)
    refine ⟨w5, ?_, ?_, u14.trans' c3 fun _ _ e => e⟩
    · show ref11_Sums_l0_b K (ref11_Sums_l0 K m) b a2 ⟨g, 0, none⟩ ps ((l.length : Nat) : Int) (i : Int) w = _
      unfold ref11_Sums_l0_b
      rw [if_pos (decide_eq_true (show (i : Int) < ((l.length : Nat) : Int) by omega)), hin, bnd_ok, e3]
      exact c1
    · rw [List.drop_eq_getElem_cons hil]
      have hr : (l.drop (i + 1)).length = l.length - 1 - i := by rw [List.length_drop]; omega
      show Bk e w5 g (fb [sumG 0 (a + l[i] * tj (0 * (l.drop (i + 1)).length)) _, sumG 1 (b0 + l[i] * tj (1 * (l.drop (i + 1)).length)) _, sumG 2 (c + l[i] * tj (2 * (l.drop (i + 1)).length)) _, sumG 3 (dd + l[i] * tj (3 * (l.drop (i + 1)).length)) _])
      rw [hr]
      exact c2

theorem rSums_ok {K : Nat} (hK : 18446744073709551616 ≤ K) {w : World} {b : Sl} {l : List F} (hs : BSrc w b l) (hl : l.length ≤ 1099511627776) :
    ∃ w', ref11_Sums K b w = some (((fb (sumsL l)).toArray, ()), w') ∧ Upd none_ w w' := by
  have hbl : b.len = l.length := by rw [hs.len, fb_length]
  have hlt := src_ltF hs
  obtain ⟨w1, a1, a2, a3, a4⟩ := newB_ok z153 153 w
  obtain ⟨w2, b1, b2, b3, b4⟩ := newB_ok z153 153 w1
  have a2 : Bk 153 w1 w.heap.size (fb [0, 0, 0, 0]) := a2
  have b2 : Bk 153 w2 w1.heap.size (fb [0, 0, 0, 0]) := b2
  obtain ⟨sp, w3, c1, c2, c3, c4⟩ := rPowers_ok hK w2 (n := 255) (by omega)
  have u3 := (a3.and0 b3).and0 c3
  have q1 := a3.size
  obtain ⟨w4, d1, d2, d3⟩ := rSums_l0 hK (b := b) (ps := sp) (a2 := ⟨w.heap.size, 0, none⟩) (g := w1.heap.size) hl (fun q hq hne => by have := hlt q hq hne; omega) (fun q hq => by have := c4 q.block (by simp [Sl.blk, hq]); omega) l.length 0 K w3 0 0 0 0 (by omega) (by omega) (b2.upd0 c3) (hs.upd0 u3) (c2.src (fb_one _))
  have d1 : ref11_Sums_l0 K K b ⟨w.heap.size, 0, none⟩ ⟨w1.heap.size, 0, none⟩ sp ((b.len : Nat) : Int) 0 w3 = some ((), w4) := by rw [hbl]; exact d1
  have d2 : Bk 153 w4 w1.heap.size (fb (sumsL l)) := by
    rw [List.drop_zero, sumG_eq, sumG_eq, sumG_eq, sumG_eq, F.zero_add, F.zero_add, F.zero_add, F.zero_add] at d2
    exact d2
  have a6 := ((a2.upd0 b3).upd0 c3).upd d3 (by omega)
  have g1 := d2.ldA (i := 0) (n := 4) (by rw [fb_length]; simp [sumsL])
  obtain ⟨w7, h1, h2, h3⟩ := a6.stA (o := 0) (vs := (fb (sumsL l)).toArray) (by simp [fb, ints, sumsL]) (fun v hv => fb_one _ v hv)
  have h2 : Bk 153 w7 w.heap.size (fb (sumsL l)) := h2
  have g2 := h2.ldA (i := 0) (n := 4) (by rw [fb_length]; simp [sumsL])
  have g1 : ldA 4 ⟨w1.heap.size, 0, none⟩ w4 = some (fb (sumsL l)).toArray := g1
  have g2 : ldA 4 ⟨w.heap.size, 0, none⟩ w7 = some (fb (sumsL l)).toArray := g2
  refine ⟨w7, ?_, (u3.trans' d3 fun j hj e => by omega).trans' h3 fun j hj e => by omega⟩
  unfold ref11_Sums
  have c1 : ref11_Powers K 255 w2 = some ((sp, ()), w3) := c1
  rw [a1, bnd_ok, b1, bnd_ok, c1, bnd_ok]
  dsimp only
  rw [d1, bnd_ok, g1, Option.bind_some, if_pos (by simp [fb, ints, sumsL]), h1, Option.bind_some, g2, Option.bind_some]

end Go.Sh

/- Rows of bytes that were made here. -/
set_option linter.unusedVariables false
set_option maxRecDepth 100000
namespace Go.Sh
open Go.Fw Go.Gf Go.RowKit Go.Proofs.Tryd

abbrev nilF : Sl := ⟨none, 0, 0⟩
abbrev slF (s : Sl) : Value := .slice s.a s.len s.cap

theorem sliceR : OneSlice prog 67 23 (.slice none 0 0) 24 := ⟨by kernel_rfl, ⟨t23, by kernel_rfl, by kernel_rfl, by kernel_rfl, by kernel_rfl⟩, by decide, rfl, rfl⟩

structure RowsAt (w : World) (rs : Sl) (ss : List Sl) (R : List (List F)) (m B N : Nat) : Prop where
  own : OwnS 23 w rs (ss.map slF)
  len : ss.length = R.length
  row : ∀ i, i < R.length → OwnS 5 w (ss.getD i nilF) (fb (R.getD i []))
  rlen : ∀ i, i < R.length → (R.getD i []).length = m
  apart : ∀ i j, i < R.length → j < R.length → i ≠ j → ∀ k, (ss.getD i nilF).blk = some k → (ss.getD j nilF).blk ≠ some k
  off : ∀ i, i < R.length → ∀ k, rs.blk = some k → (ss.getD i nilF).blk ≠ some k
  low : (∀ k, rs.blk = some k → B ≤ k ∧ k < N) ∧ ∀ i, i < R.length → ∀ k, (ss.getD i nilF).blk = some k → B ≤ k ∧ k < N

theorem RowsAt.upd {w w' : World} {rs : Sl} {ss : List Sl} {R : List (List F)} {m B N : Nat} {X : Nat → Prop} (h : RowsAt w rs ss R m B N) (u : Upd X w w') (hn : ∀ k, B ≤ k → k < N → ¬ X k) : RowsAt w' rs ss R m B N :=
  ⟨h.own.upd u fun k hk => hn k (h.low.1 k hk).1 (h.low.1 k hk).2, h.len, fun i hi => (h.row i hi).upd u fun k hk => hn k (h.low.2 i hi k hk).1 (h.low.2 i hi k hk).2, h.rlen, h.apart, h.off, h.low⟩
theorem RowsAt.upd0 {w w' : World} {rs : Sl} {ss : List Sl} {R : List (List F)} {m B N : Nat} (h : RowsAt w rs ss R m B N) (u : Upd none_ w w') : RowsAt w' rs ss R m B N := h.upd u fun _ _ _ => id
theorem RowsAt.drew {w : World} {rs : Sl} {ss : List Sl} {R : List (List F)} {m B N : Nat} (h : RowsAt w rs ss R m B N) : RowsAt w.drew rs ss R m B N := h.upd0 (Upd.refl _ _).drew
theorem RowsAt.size {w : World} {rs : Sl} {ss : List Sl} {R : List (List F)} {m B N : Nat} (h : RowsAt w rs ss R m B N) : rs.len = R.length := by rw [h.own.len, List.length_map, h.len]
theorem RowsAt.slen {w : World} {rs : Sl} {ss : List Sl} {R : List (List F)} {m B N : Nat} (h : RowsAt w rs ss R m B N) {i : Nat} (hi : i < R.length) : (ss.getD i nilF).len = m := by rw [(h.row i hi).len, fb_length, h.rlen i hi]

theorem slF_one (ss : List Sl) : ∀ v ∈ ss.map slF, v.oneCell' = true := fun v hv => by obtain ⟨s, _, rfl⟩ := List.mem_map.1 hv; rfl

/-- a header is read -/
theorem RowsAt.ld {w : World} {rs : Sl} {ss : List Sl} {R : List (List F)} {m B N : Nat} (h : RowsAt w rs ss R m B N) {i : Nat} (hi : i < R.length) : ∃ p, rs.a = some p ∧ ldS (p.add i) w = some (ss.getD i nilF) := by
  have hs := h.own.src (slF_one ss)
  have hl := h.len
  rcases hs.rd with ⟨_, _, e⟩ | ⟨p, e1, e2⟩
  · have := congrArg List.length e
    rw [List.length_map] at this
    simp at this; rw [this] at hl; simp at hl; omega
  · refine ⟨p, e1, ?_⟩
    have hv : (ss.map slF)[i]? = some (slF (ss.getD i nilF)) := by
      rw [List.getElem?_map, List.getElem?_eq_getElem (by omega), List.getD_eq_getElem?_getD, List.getElem?_eq_getElem (by omega)]; rfl
    have := e2 i _ hv
    unfold ldS
    rw [this]; rfl

/-- a cell is read -/
theorem RowsAt.cell {w : World} {rs : Sl} {ss : List Sl} {R : List (List F)} {m B N : Nat} (h : RowsAt w rs ss R m B N) {i t : Nat} (hi : i < R.length) (ht : t < m) : ∃ p, (ss.getD i nilF).a = some p ∧ ldI .u8 (p.add t) w = some (bF (Gf.E R i t)) :=
  own_cell (h.row i hi) (by rw [h.rlen i hi]; exact ht)

theorem getD_set_l {α : Type} {l : List α} {c i : Nat} (v d : α) (hc : c < l.length) : (l.set c v).getD i d = if i = c then v else l.getD i d := by
  rw [List.getD_eq_getElem?_getD]
  by_cases e : i = c
  · rw [if_pos e, e, List.getElem?_set_self hc]; rfl
  · rw [if_neg e, List.getElem?_set_ne (fun h => e h.symm), List.getD_eq_getElem?_getD]

/-- a cell is written -/
theorem RowsAt.put {w : World} {rs : Sl} {ss : List Sl} {R : List (List F)} {m B N : Nat} (h : RowsAt w rs ss R m B N) {i t : Nat} (hi : i < R.length) (ht : t < m) (v : F) :
    ∃ p w', (ss.getD i nilF).a = some p ∧ stC (p.add t) (.int .u8 (bF v)) w = some w' ∧ RowsAt w' rs ss (R.set i ((R.getD i []).set t v)) m B N ∧ Upd (fun k => B ≤ k ∧ k < N) w w' := by
  obtain ⟨p, w', a, b, c, d⟩ := own_set (h.row i hi) (i := t) (by rw [h.rlen i hi]; exact ht) v
  have hl : (R.set i ((R.getD i []).set t v)).length = R.length := List.length_set
  refine ⟨p, w', a, b, ⟨h.own.upd d fun k hk e => h.off i hi k hk e, by rw [hl]; exact h.len, fun j hj => ?_, fun j hj => ?_, fun x y hx hy => h.apart x y (by omega) (by omega), fun x hx => h.off x (by omega), h.low.1, fun x hx => h.low.2 x (by omega)⟩, d.mono fun k _ e => h.low.2 i hi k e⟩
  · rw [hl] at hj
    rw [getD_set_l _ _ hi]
    by_cases e : j = i
    · rw [if_pos e, e]; exact c
    · rw [if_neg e]
      exact (h.row j hj).upd d fun k hk e2 => h.apart i j hi hj (fun x => e x.symm) k e2 hk
  · rw [hl] at hj
    rw [getD_set_l _ _ hi]
    by_cases e : j = i
    · rw [if_pos e, List.length_set]; exact h.rlen i hi
    · rw [if_neg e]; exact h.rlen j hj

/-- two rows change their places -/
theorem RowsAt.swap {w : World} {rs : Sl} {ss : List Sl} {R : List (List F)} {m B N : Nat} (h : RowsAt w rs ss R m B N) {c a : Nat} (hc : c < R.length) (ha : a < R.length) :
    ∃ p w1 w2 ss', rs.a = some p ∧ stC (p.add c) (slF (ss.getD a nilF)) w = some w1 ∧ stC (p.add a) (slF (ss.getD c nilF)) w1 = some w2 ∧ RowsAt w2 rs ss' (Gf.swapR R c a) m B N ∧ Upd (fun k => B ≤ k ∧ k < N) w w2 := by
  have hrl := h.size
  have hsl := h.len
  obtain ⟨p, w1, a1, a2, a3, a4⟩ := h.own.st (i := c) (by omega) (slF (ss.getD a nilF))
  obtain ⟨p', w2, b1, b2, b3, b4⟩ := a3.st (i := a) (by omega) (slF (ss.getD c nilF))
  obtain rfl : p' = p := Option.some.inj (b1.symm.trans a1)
  have ec : ((ss.map slF).set c (slF (ss.getD a nilF))).set a (slF (ss.getD c nilF)) = ((ss.set c (ss.getD a nilF)).set a (ss.getD c nilF)).map slF := by
    rw [List.map_set, List.map_set]
  rw [ec] at b3
  have u2 := a4.trans' b4 fun _ _ e => e
  have hget : ∀ i, ((ss.set c (ss.getD a nilF)).set a (ss.getD c nilF)).getD i nilF = if i = a then ss.getD c nilF else if i = c then ss.getD a nilF else ss.getD i nilF := fun i => by
    rw [getD_set_l _ _ (by rw [List.length_set]; omega)]
    by_cases e : i = a
    · rw [if_pos e, if_pos e]
    · rw [if_neg e, if_neg e, getD_set_l _ _ (by omega)]
  have hRget := Gf.swap_get hc ha
  have hRl := Gf.swap_length R c a
  -- where a row comes from
  have key : ∀ i, i < R.length → ∃ j, j < R.length ∧ ((ss.set c (ss.getD a nilF)).set a (ss.getD c nilF)).getD i nilF = ss.getD j nilF ∧ (Gf.swapR R c a).getD i [] = R.getD j [] ∧ j = (if i = a then c else if i = c then a else i) := fun i hi => by
    rw [hget, hRget]
    by_cases e : i = a
    · exact ⟨c, hc, by rw [if_pos e], by rw [if_pos e], by rw [if_pos e]⟩
    · by_cases e2 : i = c
      · exact ⟨a, ha, by rw [if_neg e, if_pos e2], by rw [if_neg e, if_pos e2], by rw [if_neg e, if_pos e2]⟩
      · exact ⟨i, hi, by rw [if_neg e, if_neg e2], by rw [if_neg e, if_neg e2], by rw [if_neg e, if_neg e2]⟩
  refine ⟨p', w1, w2, (ss.set c (ss.getD a nilF)).set a (ss.getD c nilF), a1, a2, b2, ⟨b3, by rw [hRl, List.length_set, List.length_set]; exact hsl, fun i hi => ?_, fun i hi => ?_, fun i j hi hj hij => ?_, fun i hi => ?_, h.low.1, fun i hi => ?_⟩, u2.mono fun k _ e => h.low.1 k e⟩
  · rw [hRl] at hi
    obtain ⟨j, j1, j2, j3, j4⟩ := key i hi
    rw [j2, j3]
    exact (h.row j j1).upd u2 fun k hk e => h.off j j1 k e hk
  · rw [hRl] at hi
    obtain ⟨j, j1, j2, j3, j4⟩ := key i hi
    rw [j3]; exact h.rlen j j1
  · rw [hRl] at hi hj
    obtain ⟨x, x1, x2, x3, x4⟩ := key i hi
    obtain ⟨y, y1, y2, y3, y4⟩ := key j hj
    rw [x2, y2]
    refine h.apart x y x1 y1 fun e => ?_
    rw [x4, y4] at e
    split at e
    · split at e
      · omega
      · split at e <;> omega
    · split at e
      · split at e
        · omega
        · split at e <;> omega
      · split at e
        · omega
        · split at e <;> omega
  · rw [hRl] at hi
    obtain ⟨j, j1, j2, j3, j4⟩ := key i hi
    rw [j2]; exact h.off j j1
  · rw [hRl] at hi
    obtain ⟨j, j1, j2, j3, j4⟩ := key i hi
    rw [j2]; exact h.low.2 j j1

/-- a row is pushed -/
theorem RowsAt.push {w : World} {rs : Sl} {ss : List Sl} {R : List (List F)} {m B N : Nat} (h : RowsAt w rs ss R m B N) (hR : R.length ≤ 4096) {s : Sl} {r : List F} (ho : OwnS 5 w s (fb r)) (hr : r.length = m) (hs : ∀ k, s.blk = some k → N ≤ k) (hN : N ≤ w.heap.size) (hBN : B ≤ N) :
    ∃ w1 rs' w2, bldS prog 67 1 #[(0, slF s)] w = some (⟨some ⟨w.heap.size, 0, none⟩, 1, 1⟩, w1) ∧ apd prog 67 67 (.slice rs.a rs.len rs.cap) (.slice (some ⟨w.heap.size, 0, none⟩) 1 1) w1 = some (rs', w2) ∧ RowsAt w2 rs' (ss ++ [s]) (R ++ [r]) m B w2.heap.size ∧ Upd (fun k => B ≤ k ∧ k < N) w w2 := by
  obtain ⟨w1, a1, a2, a3, a4⟩ := bldS1_ok sliceR (slF s) rfl w
  have hrl := h.size
  have hsl := h.len
  obtain ⟨rs', w2, b1, b2, b3, b4, b5⟩ := apd_ok sliceR (h.own.upd0 a3) (a2.src (fun v hv => by simp only [List.mem_singleton] at hv; rw [hv]; rfl)) (by show (rs.len + 1) * 24 ≤ _; omega)
  have q1 := a3.size
  have q2 := b4.size
  have u2 : Upd (fun k => rs.blk = some k) w w2 := (a3.mono (T := fun k => rs.blk = some k) fun _ _ e => e.elim).trans' b4 fun _ _ e => e
  have hrs' : ∀ k, rs'.blk = some k → rs.blk = some k ∨ (w.heap.size < k ∧ k < w2.heap.size) := fun k hk => by
    rcases b5 with e | e
    · rw [e] at hk; exact .inl hk
    · have := b3.lt hk
      rw [e] at hk; have e2 : w1.heap.size = k := Option.some.inj hk; exact .inr (by omega)
  have hsw : ∀ k, s.blk = some k → k < w.heap.size := fun k hk => ho.lt hk
  have hg : ∀ i, i < R.length → (ss ++ [s]).getD i nilF = ss.getD i nilF := fun i hi => by
    rw [List.getD_eq_getElem?_getD, List.getElem?_append_left (by omega), ← List.getD_eq_getElem?_getD]
  have hgR : ∀ i, i < R.length → (R ++ [r]).getD i [] = R.getD i [] := fun i hi => by
    rw [List.getD_eq_getElem?_getD, List.getElem?_append_left hi, ← List.getD_eq_getElem?_getD]
  have hge : (ss ++ [s]).getD R.length nilF = s := by
    rw [List.getD_eq_getElem?_getD, List.getElem?_append_right (by omega), hsl, Nat.sub_self]; rfl
  have hgeR : (R ++ [r]).getD R.length [] = r := by
    rw [List.getD_eq_getElem?_getD, List.getElem?_append_right (by omega), Nat.sub_self]; rfl
  have cases_i : ∀ i, i < (R ++ [r]).length → i < R.length ∨ i = R.length := fun i hi => by rw [List.length_append] at hi; simp at hi; omega
  have hbm : (ss.map slF ++ [slF s]) = (ss ++ [s]).map slF := by simp
  have b3 : OwnS 23 w2 rs' ((ss ++ [s]).map slF) := by rw [← hbm]; exact b3
  refine ⟨w1, rs', w2, a1, b1, ⟨b3, by simp [hsl], fun i hi => ?_, fun i hi => ?_, fun i j hi hj hij k hk => ?_, fun i hi k hk => ?_, fun k hk => ?_, fun i hi k hk => ?_⟩, u2.mono fun k _ e => h.low.1 k e⟩
  · rcases cases_i i hi with h1 | rfl
    · rw [hg i h1, hgR i h1]
      exact (h.row i h1).upd u2 fun k hk e => h.off i h1 k e hk
    · rw [hge, hgeR]
      exact ho.upd u2 fun k hk e => by have := hs k hk; have := h.low.1 k e; omega
  · rcases cases_i i hi with h1 | rfl
    · rw [hgR i h1]; exact h.rlen i h1
    · rw [hgeR]; exact hr
  · rcases cases_i i hi with h1 | rfl
    · rw [hg i h1] at hk
      rcases cases_i j hj with h2 | rfl
      · rw [hg j h2]; exact h.apart i j h1 h2 hij k hk
      · rw [hge]
        intro e
        have := hs k e
        have := h.low.2 i h1 k hk
        omega
    · rw [hge] at hk
      rcases cases_i j hj with h2 | rfl
      · rw [hg j h2]
        intro e
        have := hs k hk
        have := h.low.2 j h2 k e
        omega
      · exact absurd rfl hij
  · rcases cases_i i hi with h1 | rfl
    · rw [hg i h1]
      intro e
      have h3 := h.low.2 i h1 k e
      rcases hrs' k hk with e2 | e2
      · exact h.off i h1 k e2 e
      · omega
    · rw [hge]
      intro e
      have h3 := hs k e
      have := hsw k e
      rcases hrs' k hk with e2 | e2
      · have := h.low.1 k e2; omega
      · omega
  · rcases hrs' k hk with e | e
    · have := h.low.1 k e; omega
    · omega
  · rcases cases_i i hi with h1 | rfl
    · rw [hg i h1] at hk
      have := h.low.2 i h1 k hk; omega
    · rw [hge] at hk
      have := hs k hk
      have := hsw k hk
      omega

theorem RowsAt.nil (w : World) (m B : Nat) : RowsAt w nilF [] [] m B B :=
  ⟨OwnS.nil _ _, rfl, fun i hi => by simp at hi, fun i hi => by simp at hi, fun i j hi => by simp at hi, fun i hi => by simp at hi, fun k hk => (by cases hk), fun i hi => by simp at hi⟩

/-- a wider range -/
theorem RowsAt.wide {w : World} {rs : Sl} {ss : List Sl} {R : List (List F)} {m B N N' : Nat} (h : RowsAt w rs ss R m B N) (hN : N ≤ N') : RowsAt w rs ss R m B N' :=
  ⟨h.own, h.len, h.row, h.rlen, h.apart, h.off, fun k hk => by have := h.low.1 k hk; omega, fun i hi k hk => by have := h.low.2 i hi k hk; omega⟩

/-- rows that are read -/
structure RowsIn (w : World) (rs : Sl) (ss : List Sl) (R : List (List F)) (m : Nat) : Prop where
  own : Fw.Src w rs (ss.map slF)
  len : ss.length = R.length
  row : ∀ i, i < R.length → BSrc w (ss.getD i nilF) (R.getD i [])
  rlen : ∀ i, i < R.length → (R.getD i []).length = m

theorem RowsAt.into {w : World} {rs : Sl} {ss : List Sl} {R : List (List F)} {m B N : Nat} (h : RowsAt w rs ss R m B N) : RowsIn w rs ss R m :=
  ⟨h.own.src (slF_one ss), h.len, fun i hi => (h.row i hi).src (fb_one _), h.rlen⟩

theorem src_upd1 {X : Nat → Prop} {w w' : World} {s : Sl} {vs : List Value} (h : Fw.Src w s vs) (u : Upd X w w') (hn : ∀ q, s.a = some q → vs ≠ [] → ¬ X q.block) : Fw.Src w' s vs :=
  ⟨h.len, h.cap, h.rd.imp id fun ⟨p, hp, hr⟩ => ⟨p, hp, hr.upd u fun hne => hn p hp hne⟩, h.one⟩

theorem RowsIn.upd {w w' : World} {rs : Sl} {ss : List Sl} {R : List (List F)} {m : Nat} {X : Nat → Prop} (h : RowsIn w rs ss R m) (u : Upd X w w') (h1 : ∀ k, X k → ¬ k < w.heap.size) : RowsIn w' rs ss R m :=
  ⟨h.own.upd0 (u.mono fun k hk e => h1 k e hk), h.len, fun i hi => (h.row i hi).upd0 (u.mono fun k hk e => h1 k e hk), h.rlen⟩
theorem RowsIn.upd0 {w w' : World} {rs : Sl} {ss : List Sl} {R : List (List F)} {m : Nat} (h : RowsIn w rs ss R m) (u : Upd none_ w w') : RowsIn w' rs ss R m := h.upd u fun _ e => e.elim

theorem RowsIn.ld {w : World} {rs : Sl} {ss : List Sl} {R : List (List F)} {m : Nat} (h : RowsIn w rs ss R m) {i : Nat} (hi : i < R.length) : ∃ p, rs.a = some p ∧ ldS (p.add i) w = some (ss.getD i nilF) := by
  have hl := h.len
  rcases h.own.rd with ⟨_, _, e⟩ | ⟨p, e1, e2⟩
  · have := congrArg List.length e
    rw [List.length_map] at this
    simp at this; rw [this] at hl; simp at hl; omega
  · refine ⟨p, e1, ?_⟩
    have hv : (ss.map slF)[i]? = some (slF (ss.getD i nilF)) := by
      rw [List.getElem?_map, List.getElem?_eq_getElem (by omega), List.getD_eq_getElem?_getD, List.getElem?_eq_getElem (by omega)]; rfl
    have := e2 i _ hv
    unfold ldS
    rw [this]; rfl
theorem RowsIn.size {w : World} {rs : Sl} {ss : List Sl} {R : List (List F)} {m : Nat} (h : RowsIn w rs ss R m) : rs.len = R.length := by rw [h.own.len, List.length_map, h.len]

end Go.Sh

/- Equations solved by the document: parts. -/
set_option linter.unusedVariables false
set_option maxRecDepth 100000
namespace Go.Sh
open Go.Fw Go.Gf Go.RowKit Go.Proofs.Tryd

theorem solve_copy {K : Nat} (hK : 18446744073709551616 ≤ K) {m0 : Sl} {n4 : Int} {ms : List Sl} {R : List (List F)} {m B : Nat} (hR : R.length ≤ 4096) (hm : m ≤ 4096) :
    ∀ (d i f : Nat) (w : World) (rs : Sl) (ss : List Sl), i + d = R.length → d < f → RowsAt w rs ss (R.take i) m B w.heap.size → B ≤ w.heap.size → RowsIn w m0 ms R m → (∀ k, B ≤ k → ¬ m0.blk = some k) → (∀ i, i < R.length → ∀ k, B ≤ k → ¬ (ms.getD i nilF).blk = some k) →
      ∃ rs' ss' w', ref11_Solve_l0 K f m0 n4 rs (i : Int) w = some ((rs', ()), w') ∧ RowsAt w' rs' ss' R m B w'.heap.size ∧ Upd (fun k => B ≤ k) w w' := by
  intro d
  induction d with
  | zero =>
    intro i f w rs ss hi hf h hB hm0 h1 h2
    obtain ⟨f, rfl⟩ : ∃ q, f = q + 1 := ⟨f - 1, by omega⟩
    refine ⟨rs, ss, w, ?_, by rw [List.take_of_length_le (by omega)] at h; exact h, Upd.refl _ _⟩
    show ref11_Solve_l0_b K (ref11_Solve_l0 K f) m0 n4 rs (i : Int) w = _
    unfold ref11_Solve_l0_b
    rw [if_neg (by rw [hm0.size]; simp only [decide_eq_true_eq]; omega)]
  | succ d ih =>
    intro i f w rs ss hi hf h hB hm0 h1 h2
    obtain ⟨f, rfl⟩ : ∃ q, f = q + 1 := ⟨f - 1, by omega⟩
    have hil : i < R.length := by omega
    have hms := hm0.size
    have e3 : IntKind.i64.wrap ((i : Int) + 1) = ((i + 1 : Nat) : Int) := by rw [w64 (by omega) (by omega)]; rfl
    obtain ⟨w1, a1, a2, a3⟩ := bld0_ok sliceB w
    obtain ⟨p, p1, p2⟩ := (hm0.upd0 a3).ld hil
    have c1 : (0 : Int) ≤ (i : Int) ∧ (i : Int) < ((m0.len : Nat) : Int) := by omega
    have hrow := hm0.row i hil
    have hrl := hm0.rlen i hil
    have hsl : (ms.getD i nilF).len = m := by rw [hrow.len, fb_length, hrl]
    obtain ⟨s2, w2, b1, b2, b3, b4, b5⟩ := apd_ok sliceB a2 (hrow.upd0 a3) (by show (0 + (ms.getD i nilF).len) * 1 ≤ _; omega)
    have q1 := a3.size
    have q2 := b4.size
    have u2 : Upd none_ w w2 := a3.trans' b4 fun j hj e => by have e2 : w.heap.size = j := Option.some.inj e; omega
    have hs2 : ∀ k, s2.blk = some k → w.heap.size ≤ k := fun k hk => by
      rcases b5 with e | e
      · rw [e] at hk; have e2 : w.heap.size = k := Option.some.inj hk; omega
      · rw [e] at hk; have e2 : w1.heap.size = k := Option.some.inj hk; omega
    have b3 : OwnS 5 w2 s2 (fb (R.getD i [])) := b3
    obtain ⟨w3, rs', w4, c2, c3, c4, c5⟩ := (h.upd0 u2).push (by rw [List.length_take]; omega) b3 hrl hs2 (by omega) hB
    have q4 := c5.size
    have etk : R.take i ++ [R.getD i []] = R.take (i + 1) := by
      rw [List.take_succ_eq_append_getElem hil, List.getD_eq_getElem?_getD, List.getElem?_eq_getElem hil]; rfl
    rw [etk] at c4
    have u4 : Upd (fun k => B ≤ k) w w4 := (u2.mono (T := fun k => B ≤ k) fun _ _ e => e.elim).trans' c5 fun k _ e => e.1
    have hm4 : RowsIn w4 m0 ms R m := ⟨src_upd1 hm0.own u4 fun q hq _ e => h1 q.block e (by simp [Sl.blk, hq]), hm0.len, fun j hj => src_upd1 (hm0.row j hj) u4 fun q hq _ e => h2 j hj q.block e (by unfold Sl.blk; rw [hq]; rfl), hm0.rlen⟩
    obtain ⟨rs'', ss'', w5, d1, d2, d3⟩ := ih (i + 1) f w4 rs' _ (by omega) (by omega) c4 (by omega) hm4 h1 h2
    refine ⟨rs'', ss'', w5, ?_, d2, u4.trans' d3 fun _ _ e => e⟩
    show ref11_Solve_l0_b K (ref11_Solve_l0 K f) m0 n4 rs (i : Int) w = _
    unfold ref11_Solve_l0_b
    rw [if_pos (decide_eq_true (show (i : Int) < ((m0.len : Nat) : Int) by omega)), a1, bnd_ok, p1, Option.bind_some, if_pos c1, Int.toNat_natCast, Nat.mul_one, p2, Option.bind_some]
    dsimp only
    rw [b1, bnd_ok, c2, bnd_ok]
    dsimp only
    rw [c3, bnd_ok, e3, d1]

theorem solve_pivot {K : Nat} {rs x7 : Sl} {ss : List Sl} {n4 : Int} {R : List (List F)} {m B N c : Nat} {w : World} (h : RowsAt w rs ss R m B N) (hc : c < m) (hR : R.length ≤ 4096) :
    ∀ (d i f : Nat), i + d = R.length → d + 2 < f → ref11_Solve_l2 K f n4 rs x7 (c : Int) (-1) (i : Int) w = some ((atI (Gf.pivotG R c d i), ()), w) := by
  intro d
  have hsz := h.size
  induction d with
  | zero =>
    intro i f hi hf
    obtain ⟨f, rfl⟩ : ∃ q, f = q + 1 := ⟨f - 1, by omega⟩
    show ref11_Solve_l2_b K (ref11_Solve_l2 K f) n4 rs x7 (c : Int) (-1) (i : Int) w = _
    unfold ref11_Solve_l2_b ref11_Solve_s3
    rw [if_neg (by rw [hsz]; simp only [decide_eq_true_eq]; omega), bnd_ok, if_neg (by decide)]
    rfl
  | succ d ih =>
    intro i f hi hf
    obtain ⟨f, rfl⟩ : ∃ q, f = q + 1 := ⟨f - 1, by omega⟩
    have hil : i < R.length := by omega
    have e3 : IntKind.i64.wrap ((i : Int) + 1) = ((i + 1 : Nat) : Int) := by rw [w64 (by omega) (by omega)]; rfl
    obtain ⟨p, p1, p2⟩ := h.ld hil
    obtain ⟨q, q1, q2⟩ := h.cell hil hc
    have hsl := h.slen hil
    have c1 : (0 : Int) ≤ (i : Int) ∧ (i : Int) < ((rs.len : Nat) : Int) := by omega
    have c2 : (0 : Int) ≤ (c : Int) ∧ (c : Int) < (((ss.getD i nilF).len : Nat) : Int) := by omega
    show ref11_Solve_l2_b K (ref11_Solve_l2 K f) n4 rs x7 (c : Int) (-1) (i : Int) w = _
    unfold ref11_Solve_l2_b ref11_Solve_s3
    rw [if_pos (decide_eq_true (show (i : Int) < ((rs.len : Nat) : Int) by omega)), bnd_ok, if_pos (by decide), p1, Option.bind_some, if_pos c1, Int.toNat_natCast, Nat.mul_one, p2, Option.bind_some, q1, Option.bind_some, if_pos c2, Int.toNat_natCast, Nat.mul_one, q2, Option.bind_some, e3]
    by_cases hz : Gf.E R i c = 0
    · have hp : Gf.pivotG R c (d + 1) i = Gf.pivotG R c d (i + 1) := by
        show (if Gf.E R i c ≠ 0 then some i else Gf.pivotG R c d (i + 1)) = _
        rw [if_neg (fun e => e hz)]
      rw [if_neg (by rw [bF_bne]; exact fun e => e hz), hp]
      exact ih (i + 1) f (by omega) (by omega)
    · have hp : Gf.pivotG R c (d + 1) i = some i := by
        show (if Gf.E R i c ≠ 0 then some i else Gf.pivotG R c d (i + 1)) = _
        rw [if_pos hz]
      rw [if_pos (by rw [bF_bne]; exact hz), hp]
      obtain ⟨f, rfl⟩ : ∃ q, f = q + 1 := ⟨f - 1, by omega⟩
      show ref11_Solve_l2_b K (ref11_Solve_l2 K f) n4 rs x7 (c : Int) (i : Int) ((i + 1 : Nat) : Int) w = _
      have hs3 : ref11_Solve_s3 K rs (i : Int) ((i + 1 : Nat) : Int) w = some ((false, ()), w) := by
        unfold ref11_Solve_s3
        split
        · rw [decide_eq_false (show ¬ (i : Int) < 0 by omega)]
        · rfl
      unfold ref11_Solve_l2_b
      rw [hs3, bnd_ok, if_neg (by decide)]
      rfl

/-- a row whose first k numbers are done -/
def pnorm (k : Nat) (r : List F) (by_ : F) : List F := (r.take k).map (· * by_) ++ r.drop k
theorem pnorm_get {k : Nat} {r : List F} {by_ : F} : (pnorm k r by_).getD k 0 = r.getD k 0 := by
  unfold pnorm
  rw [List.getD_eq_getElem?_getD, List.getD_eq_getElem?_getD]
  by_cases h : k ≤ r.length
  · rw [List.getElem?_append_right (by simp; omega), List.length_map, List.length_take, Nat.min_eq_left h, Nat.sub_self, List.getElem?_drop, Nat.add_zero]
  · rw [List.getElem?_eq_none (by simp; omega), List.getElem?_eq_none (by omega)]
theorem pnorm_set {k : Nat} {r : List F} {by_ : F} (h : k < r.length) : (pnorm k r by_).set k (r.getD k 0 * by_) = pnorm (k + 1) r by_ := by
  unfold pnorm
  rw [List.set_append_right _ _ (by simp; omega), List.length_map, List.length_take, Nat.min_eq_left (by omega), Nat.sub_self, List.drop_eq_getElem_cons h, List.set_cons_zero, List.take_succ_eq_append_getElem h, List.map_append]
  have : r.getD k 0 = r[k] := by rw [List.getD_eq_getElem?_getD, List.getElem?_eq_getElem h]; rfl
  rw [this]; simp

theorem getD_lt {R : List (List F)} {c : Nat} (v : List F) (hc : c < R.length) : (R.set c v).getD c [] = v := by rw [getD_set_l _ _ hc, if_pos rfl]

theorem solve_norm {K : Nat} (hK : 300 ≤ K) {rs x7 : Sl} {ss : List Sl} {n B N c : Nat} {R : List (List F)} {by_ : F} (hc : c < R.length) (hcm : (R.getD c []).length = n + 1) (hn : n ≤ 4096) (hR : R.length ≤ 4096) :
    ∀ (d k f : Nat) (w : World), k + d = n + 1 → d < f → RowsAt w rs ss (R.set c (pnorm k (R.getD c []) by_)) (n + 1) B N →
      ∃ w', ref11_Solve_l4 K f (n : Int) rs x7 (c : Int) (bF by_) (k : Int) w = some ((), w') ∧ RowsAt w' rs ss (R.set c ((R.getD c []).map (· * by_))) (n + 1) B N ∧ Upd (fun k => B ≤ k ∧ k < N) w w' := by
  intro d
  induction d with
  | zero =>
    intro k f w hk hf h
    obtain ⟨f, rfl⟩ : ∃ q, f = q + 1 := ⟨f - 1, by omega⟩
    refine ⟨w, ?_, ?_, Upd.refl _ _⟩
    · show ref11_Solve_l4_b K (ref11_Solve_l4 K f) (n : Int) rs x7 (c : Int) (bF by_) (k : Int) w = _
      unfold ref11_Solve_l4_b
      rw [if_neg (by simp only [decide_eq_true_eq]; omega)]
    · have : pnorm k (R.getD c []) by_ = (R.getD c []).map (· * by_) := by
        unfold pnorm
        rw [List.take_of_length_le (by omega), List.drop_eq_nil_of_le (by omega), List.append_nil]
      rw [this] at h; exact h
  | succ d ih =>
    intro k f w hk hf h
    obtain ⟨f, rfl⟩ : ∃ q, f = q + 1 := ⟨f - 1, by omega⟩
    have hcs : c < (R.set c (pnorm k (R.getD c []) by_)).length := by rw [List.length_set]; exact hc
    have hsz := h.size
    rw [List.length_set] at hsz
    have e3 : IntKind.i64.wrap ((k : Int) + 1) = ((k + 1 : Nat) : Int) := by rw [w64 (by omega) (by omega)]; rfl
    obtain ⟨p, p1, p2⟩ := h.drew.ld hcs
    obtain ⟨q, q1, q2⟩ := h.drew.cell hcs (t := k) (by omega)
    have hE : Gf.E (R.set c (pnorm k (R.getD c []) by_)) c k = (R.getD c []).getD k 0 := by
      unfold Gf.E
      rw [getD_lt _ hc, pnorm_get]
    rw [hE] at q2
    have hsl := h.slen hcs
    obtain ⟨q', w1, s1, s2, s3, s4⟩ := h.drew.put hcs (t := k) (by omega) ((R.getD c []).getD k 0 * by_)
    obtain rfl : q' = q := Option.some.inj (s1.symm.trans q1)
    rw [getD_lt _ hc, pnorm_set (by omega), List.set_set] at s3
    have c1 : (0 : Int) ≤ (c : Int) ∧ (c : Int) < ((rs.len : Nat) : Int) := by omega
    have c2 : (0 : Int) ≤ (k : Int) ∧ (k : Int) < (((ss.getD c nilF).len : Nat) : Int) := by omega
    obtain ⟨w2, k1, k2, k3⟩ := ih (k + 1) f w1 (by omega) (by omega) s3
    refine ⟨w2, ?_, k2, s4.predrew.trans' k3 fun _ _ e => e⟩
    show ref11_Solve_l4_b K (ref11_Solve_l4 K f) (n : Int) rs x7 (c : Int) (bF by_) (k : Int) w = _
    unfold ref11_Solve_l4_b
    rw [if_pos (decide_eq_true (show (k : Int) ≤ (n : Int) by omega)), p1, Option.bind_some, if_pos c1, Option.bind_some, if_pos c1, Int.toNat_natCast, Nat.mul_one, p2, Option.bind_some, Option.bind_some, q1, Option.bind_some, if_pos c2, Int.toNat_natCast, Nat.mul_one, q2, Option.bind_some, rtimes hK, Option.bind_some, Option.bind_some, if_pos c2]
    dsimp only
    rw [s2, Option.bind_some, e3, k1]

def pless (k : Nat) (r q : List F) (f : F) : List F := xorR (r.take k) ((q.take k).map (f * ·)) ++ r.drop k
theorem xorR_append : ∀ {a b c d : List F}, a.length = c.length → xorR (a ++ b) (c ++ d) = xorR a c ++ xorR b d
  | [], b, [], d, _ => rfl
  | x :: a, b, y :: c, d, h => by
    show (x + y) :: xorR (a ++ b) (c ++ d) = (x + y) :: (xorR a c ++ xorR b d)
    rw [xorR_append (by simpa using h)]
  | [], _, _ :: _, _, h => by simp at h
  | _ :: _, _, [], _, h => by simp at h
theorem pless_get {k : Nat} {r q : List F} {f : F} (h : r.length = q.length) (hk : k < r.length) : (pless k r q f).getD k 0 = r.getD k 0 := by
  unfold pless
  have hl : (xorR (r.take k) ((q.take k).map (f * ·))).length = k := by rw [Gf.xorR_length (by simp; omega)]; simp; omega
  rw [List.getD_eq_getElem?_getD, List.getD_eq_getElem?_getD, List.getElem?_append_right (by omega), hl, Nat.sub_self, List.getElem?_drop, Nat.add_zero]
theorem pless_set {k : Nat} {r q : List F} {f : F} (h : r.length = q.length) (hk : k < r.length) : (pless k r q f).set k (r.getD k 0 + f * q.getD k 0) = pless (k + 1) r q f := by
  unfold pless
  have hl : (xorR (r.take k) ((q.take k).map (f * ·))).length = k := by rw [Gf.xorR_length (by simp; omega)]; simp; omega
  have h1 : r.getD k 0 = r[k] := by rw [List.getD_eq_getElem?_getD, List.getElem?_eq_getElem hk]; rfl
  have h2 : q.getD k 0 = q[k]'(by omega) := by rw [List.getD_eq_getElem?_getD, List.getElem?_eq_getElem (by omega)]; rfl
  rw [List.set_append_right _ _ (by omega), hl, Nat.sub_self, List.drop_eq_getElem_cons hk, List.set_cons_zero, List.take_succ_eq_append_getElem hk, List.take_succ_eq_append_getElem (show k < q.length by omega), List.map_append, xorR_append (by simp; omega), h1, h2]
  simp [xorR]

theorem solve_less {K : Nat} (hK : 300 ≤ K) {rs x7 : Sl} {ss : List Sl} {n B N c i : Nat} {R : List (List F)} {fac : F} (hc : c < R.length) (hi : i < R.length) (hic : i ≠ c) (hcm : (R.getD c []).length = n + 1) (him : (R.getD i []).length = n + 1) (hn : n ≤ 4096) (hR : R.length ≤ 4096) :
    ∀ (d k f : Nat) (w : World), k + d = n + 1 → d < f → RowsAt w rs ss (R.set i (pless k (R.getD i []) (R.getD c []) fac)) (n + 1) B N →
      ∃ w', ref11_Solve_l7 K f (n : Int) rs x7 (c : Int) (i : Int) (bF fac) (k : Int) w = some ((), w') ∧ RowsAt w' rs ss (R.set i (xorR (R.getD i []) ((R.getD c []).map (fac * ·)))) (n + 1) B N ∧ Upd (fun k => B ≤ k ∧ k < N) w w' := by
  intro d
  induction d with
  | zero =>
    intro k f w hk hf h
    obtain ⟨f, rfl⟩ : ∃ q, f = q + 1 := ⟨f - 1, by omega⟩
    refine ⟨w, ?_, ?_, Upd.refl _ _⟩
    · show ref11_Solve_l7_b K (ref11_Solve_l7 K f) (n : Int) rs x7 (c : Int) (i : Int) (bF fac) (k : Int) w = _
      unfold ref11_Solve_l7_b
      rw [if_neg (by simp only [decide_eq_true_eq]; omega)]
    · have : pless k (R.getD i []) (R.getD c []) fac = xorR (R.getD i []) ((R.getD c []).map (fac * ·)) := by
        unfold pless
        rw [List.take_of_length_le (by omega), List.take_of_length_le (by omega), List.drop_eq_nil_of_le (by omega), List.append_nil]
      rw [this] at h; exact h
  | succ d ih =>
    intro k f w hk hf h
    obtain ⟨f, rfl⟩ : ∃ q, f = q + 1 := ⟨f - 1, by omega⟩
    have his : i < (R.set i (pless k (R.getD i []) (R.getD c []) fac)).length := by rw [List.length_set]; exact hi
    have hcs : c < (R.set i (pless k (R.getD i []) (R.getD c []) fac)).length := by rw [List.length_set]; exact hc
    have hsz := h.size
    rw [List.length_set] at hsz
    have e3 : IntKind.i64.wrap ((k : Int) + 1) = ((k + 1 : Nat) : Int) := by rw [w64 (by omega) (by omega)]; rfl
    obtain ⟨p, p1, p2⟩ := h.drew.ld his
    obtain ⟨p', p1', p3⟩ := h.drew.ld hcs
    obtain rfl : p' = p := Option.some.inj (p1'.symm.trans p1)
    obtain ⟨q, q1, q2⟩ := h.drew.cell his (t := k) (by omega)
    obtain ⟨z, z1, z2⟩ := h.drew.cell hcs (t := k) (by omega)
    have hE : Gf.E (R.set i (pless k (R.getD i []) (R.getD c []) fac)) i k = (R.getD i []).getD k 0 := by
      unfold Gf.E
      rw [getD_lt _ hi, pless_get (by omega) (by omega)]
    have hEc : Gf.E (R.set i (pless k (R.getD i []) (R.getD c []) fac)) c k = (R.getD c []).getD k 0 := by
      unfold Gf.E
      rw [getD_set_l _ _ hi, if_neg (fun e => hic e.symm)]
    rw [hE] at q2
    rw [hEc] at z2
    have hsl := h.slen his
    have hslc := h.slen hcs
    obtain ⟨q', w1, s1, s2, s3, s4⟩ := h.drew.put his (t := k) (by omega) ((R.getD i []).getD k 0 + fac * (R.getD c []).getD k 0)
    obtain rfl : q' = q := Option.some.inj (s1.symm.trans q1)
    rw [getD_lt _ hi, pless_set (by omega) (by omega), List.set_set] at s3
    have c1 : (0 : Int) ≤ (i : Int) ∧ (i : Int) < ((rs.len : Nat) : Int) := by omega
    have c1c : (0 : Int) ≤ (c : Int) ∧ (c : Int) < ((rs.len : Nat) : Int) := by omega
    have c2 : (0 : Int) ≤ (k : Int) ∧ (k : Int) < (((ss.getD i nilF).len : Nat) : Int) := by omega
    have c3 : (0 : Int) ≤ (k : Int) ∧ (k : Int) < (((ss.getD c nilF).len : Nat) : Int) := by omega
    obtain ⟨w2, k1, k2, k3⟩ := ih (k + 1) f w1 (by omega) (by omega) s3
    refine ⟨w2, ?_, k2, s4.predrew.trans' k3 fun _ _ e => e⟩
    show ref11_Solve_l7_b K (ref11_Solve_l7 K f) (n : Int) rs x7 (c : Int) (i : Int) (bF fac) (k : Int) w = _
    unfold ref11_Solve_l7_b
    rw [if_pos (decide_eq_true (show (k : Int) ≤ (n : Int) by omega)), p1, Option.bind_some, if_pos c1, Option.bind_some, if_pos c1, Option.bind_some, if_pos c1c, Int.toNat_natCast, Nat.mul_one, p2, Option.bind_some, Option.bind_some, q1, Option.bind_some, if_pos c2, Int.toNat_natCast, Nat.mul_one, q2, Option.bind_some, Int.toNat_natCast, Nat.mul_one, p3, Option.bind_some, z1, Option.bind_some, if_pos c3, z2, Option.bind_some, rtimes hK, Option.bind_some, Option.bind_some, if_pos c2]
    dsimp only
    rw [addF, s2, Option.bind_some, e3, k1]

end Go.Sh

/- Equations solved by the document. -/
set_option linter.unusedVariables false
set_option maxRecDepth 100000
namespace Go.Sh
open Go.Fw Go.Gf Go.RowKit Go.Proofs.Tryd

def elimP (R : List (List F)) (c i : Nat) : List (List F) := R.mapIdx fun j r => if j < i ∧ j ≠ c then Gf.lessR (R.getD c []) c r else r
theorem elimP_length (R : List (List F)) (c i : Nat) : (elimP R c i).length = R.length := by simp [elimP]
theorem elimP_get {R : List (List F)} {c i j : Nat} (hj : j < R.length) : (elimP R c i).getD j [] = if j < i ∧ j ≠ c then Gf.lessR (R.getD c []) c (R.getD j []) else R.getD j [] := by
  unfold elimP
  rw [List.getD_eq_getElem?_getD, List.getElem?_mapIdx, List.getElem?_eq_getElem hj]
  simp [List.getD_eq_getElem?_getD, List.getElem?_eq_getElem hj]
theorem list_ext_getD {A B : List (List F)} (h : A.length = B.length) (hg : ∀ j, j < A.length → A.getD j [] = B.getD j []) : A = B := by
  apply List.ext_getElem h
  intro j h1 h2
  have := hg j h1
  rwa [List.getD_eq_getElem?_getD, List.getD_eq_getElem?_getD, List.getElem?_eq_getElem h1, List.getElem?_eq_getElem h2] at this
theorem elimP_zero (R : List (List F)) (c : Nat) : elimP R c 0 = R := list_ext_getD (elimP_length _ _ _) fun j hj => by
  rw [elimP_length] at hj
  rw [elimP_get hj, if_neg (by omega)]
theorem elimP_all (R : List (List F)) (c : Nat) : elimP R c R.length = Gf.elimR R c := list_ext_getD (by rw [elimP_length, Gf.elim_length]) fun j hj => by
  rw [elimP_length] at hj
  rw [elimP_get hj, Gf.elim_get hj]
  by_cases e : j = c
  · rw [if_neg (by omega), if_pos e]
  · rw [if_pos ⟨hj, e⟩, if_neg e]
theorem xorR_zero : ∀ {l m : List F}, l.length = m.length → xorR l (m.map ((0 : F) * ·)) = l
  | [], [], _ => rfl
  | a :: l, b :: m, h => by
    show (a + 0 * b) :: xorR l (m.map ((0 : F) * ·)) = a :: l
    rw [F.zero_mul, F.add_zero, xorR_zero (by simpa using h)]
  | [], _ :: _, h => by simp at h
  | _ :: _, [], h => by simp at h
theorem elimP_same {R : List (List F)} {c i : Nat} (hi : i < R.length) (h : i = c ∨ (Gf.E R i c = 0 ∧ (R.getD i []).length = (R.getD c []).length)) : elimP R c (i + 1) = elimP R c i := list_ext_getD (by rw [elimP_length, elimP_length]) fun j hj => by
  rw [elimP_length] at hj
  rw [elimP_get hj, elimP_get hj]
  by_cases e : j = i
  · subst e
    rcases h with h | ⟨h1, h2⟩
    · rw [if_neg (by omega), if_neg (by omega)]
    · rw [if_neg (show ¬ (j < j ∧ j ≠ c) by omega)]
      by_cases ec : j = c
      · rw [if_neg (by omega)]
      · rw [if_pos ⟨by omega, ec⟩]
        unfold Gf.lessR
        have : (R.getD j []).getD c 0 = 0 := h1
        rw [this, xorR_zero h2]
  · by_cases c1 : j < i ∧ j ≠ c
    · rw [if_pos c1, if_pos ⟨by omega, c1.2⟩]
    · rw [if_neg c1, if_neg (by omega)]
theorem elimP_step {R : List (List F)} {c i : Nat} (hi : i < R.length) (hic : i ≠ c) : elimP R c (i + 1) = (elimP R c i).set i (Gf.lessR (R.getD c []) c (R.getD i [])) := list_ext_getD (by rw [elimP_length, List.length_set, elimP_length]) fun j hj => by
  rw [elimP_length] at hj
  rw [elimP_get hj, getD_set_l _ _ (by rw [elimP_length]; exact hi), elimP_get hj]
  by_cases e : j = i
  · subst e
    rw [if_pos ⟨by omega, hic⟩, if_pos rfl]
  · rw [if_neg e]
    by_cases c1 : j < i ∧ j ≠ c
    · rw [if_pos c1, if_pos ⟨by omega, c1.2⟩]
    · rw [if_neg c1, if_neg (by omega)]

theorem solve_elim {K : Nat} (hK : 18446744073709551616 ≤ K) {rs x7 : Sl} {ss : List Sl} {n B N c : Nat} {R : List (List F)} (hc : c < R.length) (hcn : c < n + 1) (hn : n ≤ 4096) (hR : R.length ≤ 4096) (hrl : ∀ i, i < R.length → (R.getD i []).length = n + 1) :
    ∀ (d i f : Nat) (w : World), i + d = R.length → d < f → RowsAt w rs ss (elimP R c i) (n + 1) B N →
      ∃ w', ref11_Solve_l5 K f (n : Int) rs x7 (c : Int) (i : Int) w = some ((), w') ∧ RowsAt w' rs ss (Gf.elimR R c) (n + 1) B N ∧ Upd (fun k => B ≤ k ∧ k < N) w w' := by
  intro d
  induction d with
  | zero =>
    intro i f w hi hf h
    obtain ⟨f, rfl⟩ : ∃ q, f = q + 1 := ⟨f - 1, by omega⟩
    have hsz := h.size
    rw [elimP_length] at hsz
    refine ⟨w, ?_, by rw [show i = R.length by omega, elimP_all] at h; exact h, Upd.refl _ _⟩
    show ref11_Solve_l5_b K (ref11_Solve_l5 K f) (n : Int) rs x7 (c : Int) (i : Int) w = _
    unfold ref11_Solve_l5_b
    rw [if_neg (by rw [hsz]; simp only [decide_eq_true_eq]; omega)]
  | succ d ih =>
    intro i f w hi hf h
    obtain ⟨f, rfl⟩ : ∃ q, f = q + 1 := ⟨f - 1, by omega⟩
    have hil : i < R.length := by omega
    have hsz := h.size
    rw [elimP_length] at hsz
    have e3 : IntKind.i64.wrap ((i : Int) + 1) = ((i + 1 : Nat) : Int) := by rw [w64 (by omega) (by omega)]; rfl
    have hip : i < (elimP R c i).length := by rw [elimP_length]; exact hil
    have hcp : c < (elimP R c i).length := by rw [elimP_length]; exact hc
    have hgi : (elimP R c i).getD i [] = R.getD i [] := by rw [elimP_get hil, if_neg (by omega)]
    have hgc : (elimP R c i).getD c [] = R.getD c [] := by rw [elimP_get hc, if_neg (by omega)]
    have c1 : (0 : Int) ≤ (i : Int) ∧ (i : Int) < ((rs.len : Nat) : Int) := by omega
    show ∃ w', ref11_Solve_l5_b K (ref11_Solve_l5 K f) (n : Int) rs x7 (c : Int) (i : Int) w = some ((), w') ∧ _
    unfold ref11_Solve_l5_b ref11_Solve_s6
    rw [if_pos (decide_eq_true (show (i : Int) < ((rs.len : Nat) : Int) by omega)), e3]
    by_cases hic : i = c
    · rw [if_pos (by rw [hic]; simp), bnd_ok, if_pos rfl]
      exact ih (i + 1) f w (by omega) (by omega) (by rw [elimP_same hil (.inl hic)]; exact h)
    · obtain ⟨p, p1, p2⟩ := h.ld hip
      obtain ⟨q, q1, q2⟩ := h.cell hip hcn
      have hsl := h.slen hip
      have hE : Gf.E (elimP R c i) i c = Gf.E R i c := by unfold Gf.E; rw [hgi]
      rw [hE] at q2
      have c2 : (0 : Int) ≤ (c : Int) ∧ (c : Int) < (((ss.getD i nilF).len : Nat) : Int) := by omega
      rw [if_neg (by rw [beq_iff_eq]; omega), p1, Option.bind_some, if_pos c1, Int.toNat_natCast, Nat.mul_one, p2, Option.bind_some, q1, Option.bind_some, if_pos c2, Int.toNat_natCast, Nat.mul_one, q2, Option.bind_some, bnd_ok]
      dsimp only
      by_cases hz : Gf.E R i c = 0
      · rw [if_pos (by rw [bF_beq]; exact hz)]
        exact ih (i + 1) f w (by omega) (by omega) (by rw [elimP_same hil (.inr ⟨hz, by rw [hrl i hil, hrl c hc]⟩)]; exact h)
      · rw [if_neg (by rw [bF_beq]; exact hz), Option.bind_some, if_pos c1, p2, Option.bind_some, q1, Option.bind_some, if_pos c2, q2, Option.bind_some]
        have h0 : RowsAt w rs ss ((elimP R c i).set i (pless 0 ((elimP R c i).getD i []) ((elimP R c i).getD c []) (Gf.E R i c))) (n + 1) B N := by
          have e0 : pless 0 ((elimP R c i).getD i []) ((elimP R c i).getD c []) (Gf.E R i c) = (elimP R c i).getD i [] := by simp [pless, xorR]
          rw [e0]
          have : (elimP R c i).set i ((elimP R c i).getD i []) = elimP R c i := by
            rw [List.getD_eq_getElem?_getD, List.getElem?_eq_getElem hip]
            exact List.set_getElem_self hip
          rw [this]; exact h
        obtain ⟨w1, a1, a2, a3⟩ := solve_less (K := K) (by omega) (x7 := x7) hcp hip hic (by rw [hgc]; exact hrl c hc) (by rw [hgi]; exact hrl i hil) hn (by rw [elimP_length]; exact hR) (n + 1) 0 K w (by omega) (by omega) h0
        have a1 : ref11_Solve_l7 K K (n : Int) rs x7 (c : Int) (i : Int) (bF (Gf.E R i c)) 0 w = some ((), w1) := a1
        rw [hgi, hgc] at a2
        have hst : (elimP R c i).set i (xorR (R.getD i []) ((R.getD c []).map (Gf.E R i c * ·))) = elimP R c (i + 1) := (elimP_step hil hic).symm
        rw [hst] at a2
        obtain ⟨w2, b1, b2, b3⟩ := ih (i + 1) f w1 (by omega) (by omega) a2
        exact ⟨w2, by rw [a1, bnd_ok, b1], b2, a3.trans' b3 fun _ _ e => e⟩

theorem solve_l1 {K : Nat} (hK : 18446744073709551616 ≤ K) {rs : Sl} {n B N : Nat} (hn : n ≤ 4096) :
    ∀ (d c f : Nat) (w : World) (ss : List Sl) (R : List (List F)) (x : Sl), c + d = n → d < f → R.length ≤ 4096 → RowsAt w rs ss R (n + 1) B N → B ≤ N → N ≤ w.heap.size → OwnS 5 w x (fb (List.replicate c 0)) → (∀ k, x.blk = some k → N ≤ k) →
      match Gf.solveG R d c with
      | none => ∃ w', ref11_Solve_l1 K f (n : Int) rs x (c : Int) w = some (.ret (nilF, false, ()), w') ∧ Upd (fun k => B ≤ k) w w'
      | some R' => ∃ x' ss' w', ref11_Solve_l1 K f (n : Int) rs x (c : Int) w = some (.norm (x', ()), w') ∧ RowsAt w' rs ss' R' (n + 1) B N ∧ OwnS 5 w' x' (fb (List.replicate n 0)) ∧ (∀ k, x'.blk = some k → N ≤ k) ∧ Upd (fun k => B ≤ k) w w' := by
  intro d
  induction d with
  | zero =>
    intro c f w ss R x hc hf hR h hBN hN hx hxN
    obtain ⟨f, rfl⟩ : ∃ q, f = q + 1 := ⟨f - 1, by omega⟩
    obtain rfl : c = n := by omega
    refine ⟨x, ss, w, ?_, h, hx, hxN, Upd.refl _ _⟩
    show ref11_Solve_l1_b K (ref11_Solve_l1 K f) (c : Int) rs x (c : Int) w = _
    unfold ref11_Solve_l1_b
    rw [if_neg (by simp)]
  | succ d ih =>
    intro c f w ss R x hc hf hR h hBN hN hx hxN
    obtain ⟨f, rfl⟩ : ∃ q, f = q + 1 := ⟨f - 1, by omega⟩
    have hcn : c < n := by omega
    have hsz := h.size
    have e3 : IntKind.i64.wrap ((c : Int) + 1) = ((c + 1 : Nat) : Int) := by rw [w64 (by omega) (by omega)]; rfl
    obtain ⟨w1, x2, w2, a1, a2, a3, a4, a5⟩ := push_fb hx (by rw [List.length_replicate]; omega) 0
    have a1 : bldS prog 23 1 #[(0, (.int .u8 0))] w = some (⟨some ⟨w.heap.size, 0, none⟩, 1, 1⟩, w1) := a1
    have erep : List.replicate c (0 : F) ++ [0] = List.replicate (c + 1) 0 := by rw [← List.replicate_succ']
    rw [erep] at a3
    have q2 := a4.size
    have hx2 : ∀ k, x2.blk = some k → N ≤ k := fun k hk => (a5 k hk).elim (hxN k) fun e => by omega
    have h2 := h.upd a4 fun k h1 h2 e => by have := hxN k e; omega
    have u2 : Upd (fun k => B ≤ k) w w2 := a4.mono fun k _ e => by have := hxN k e; omega
    have hun : ref11_Solve_l1 K (f + 1) (n : Int) rs x (c : Int) w = ref11_Solve_l1_b K (ref11_Solve_l1 K f) (n : Int) rs x (c : Int) w := rfl
    have hsg : Gf.solveG R (d + 1) c = (Gf.stepS R c).bind fun r => Gf.solveG r d (c + 1) := rfl
    rw [hun, hsg]
    unfold ref11_Solve_l1_b
    rw [if_pos (decide_eq_true (show (c : Int) < (n : Int) by omega)), a1, bnd_ok]
    dsimp only
    rw [a2, bnd_ok]
    by_cases hcR : c < R.length
    · have hpv := solve_pivot (K := K) (x7 := x2) (n4 := (n : Int)) h2 (c := c) (by omega) hR (R.length - c) c K (by omega) (by omega)
      rw [hpv, bnd_ok]
      unfold Gf.stepS
      cases hp : Gf.pivotG R c (R.length - c) c with
      | none =>
        exact ⟨w2, by rw [if_pos (by decide)], u2⟩
      | some a =>
        obtain ⟨ha1, ha2, ha3⟩ := Gf.pivot_some _ _ _ hp
        have haR : a < R.length := by omega
        have eat : atI (some a) = (a : Int) := rfl
        rw [eat]
        dsimp only
        have ca : (0 : Int) ≤ (a : Int) ∧ (a : Int) < ((rs.len : Nat) : Int) := by omega
        have cc : (0 : Int) ≤ (c : Int) ∧ (c : Int) < ((rs.len : Nat) : Int) := by omega
        obtain ⟨p, p1, p2⟩ := h2.drew.ld haR
        obtain ⟨p', p1', p3⟩ := h2.drew.ld hcR
        obtain rfl : p' = p := Option.some.inj (p1'.symm.trans p1)
        obtain ⟨q, w3, w4, ss', s1, s2, s3, s4, s5⟩ := h2.drew.swap hcR haR
        obtain rfl : q = p' := Option.some.inj (s1.symm.trans p1)
        have hcS : c < (Gf.swapR R c a).length := by rw [Gf.swap_length]; exact hcR
        obtain ⟨r, r1, r2⟩ := s4.ld hcS
        obtain rfl : r = q := Option.some.inj (r1.symm.trans p1)
        obtain ⟨z, z1, z2⟩ := s4.cell hcS (t := c) (by omega)
        have hsl := s4.slen hcS
        have hEc : Gf.E (Gf.swapR R c a) c c = Gf.E R a c := by
          unfold Gf.E
          rw [Gf.swap_get hcR haR]
          by_cases e : c = a
          · rw [if_pos e, e]
          · rw [if_neg e, if_pos rfl]
        have hne : Gf.E (Gf.swapR R c a) c c ≠ 0 := by rw [hEc]; exact ha3
        have hov := rover_ok (K := K) (by omega) 1 hne
        rw [F.one_mul] at hov
        have hov : ref11_over K 1 (bF (Gf.E (Gf.swapR R c a) c c)) = some (bF (Gf.E (Gf.swapR R c a) c c).inv, ()) := hov
        have c2 : (0 : Int) ≤ (c : Int) ∧ (c : Int) < (((ss'.getD c nilF).len : Nat) : Int) := by omega
        have u4 : Upd (fun k => B ≤ k) w w4 := u2.trans' (s5.predrew.mono (T := fun k => B ≤ k) fun _ _ e => e.1) fun _ _ e => e
        have h0 : RowsAt w4 rs ss' ((Gf.swapR R c a).set c (pnorm 0 ((Gf.swapR R c a).getD c []) (Gf.E (Gf.swapR R c a) c c).inv)) (n + 1) B N := by
          have e0 : pnorm 0 ((Gf.swapR R c a).getD c []) (Gf.E (Gf.swapR R c a) c c).inv = (Gf.swapR R c a).getD c [] := by simp [pnorm]
          rw [e0]
          have : (Gf.swapR R c a).set c ((Gf.swapR R c a).getD c []) = Gf.swapR R c a := by
            rw [List.getD_eq_getElem?_getD, List.getElem?_eq_getElem hcS]
            exact List.set_getElem_self hcS
          rw [this]; exact s4
        obtain ⟨w5, b1, b2, b3⟩ := solve_norm (K := K) (by omega) (x7 := x2) hcS (s4.rlen c hcS) hn (by rw [Gf.swap_length]; exact hR) (n + 1) 0 K w4 (by omega) (by omega) h0
        have b1 : ref11_Solve_l4 K K (n : Int) rs x2 (c : Int) (bF (Gf.E (Gf.swapR R c a) c c).inv) 0 w4 = some ((), w5) := b1
        have b2 : RowsAt w5 rs ss' (Gf.normR (Gf.swapR R c a) c) (n + 1) B N := b2
        have hNl : (Gf.normR (Gf.swapR R c a) c).length = R.length := by rw [Gf.norm_length, Gf.swap_length]
        obtain ⟨w6, d1, d2, d3⟩ := solve_elim hK (x7 := x2) (rs := rs) (ss := ss') (R := Gf.normR (Gf.swapR R c a) c) (by rw [hNl]; exact hcR) (show c < n + 1 by omega) hn (by rw [hNl]; exact hR) (fun i hi => b2.rlen i hi) R.length 0 K w5 (by rw [hNl]; omega) (by omega) (by rw [elimP_zero]; exact b2)
        have d1 : ref11_Solve_l5 K K (n : Int) rs x2 (c : Int) 0 w5 = some ((), w6) := d1
        have u26 : Upd (fun k => B ≤ k ∧ k < N) w2 w6 := (s5.predrew.trans' b3 fun _ _ e => e).trans' d3 fun _ _ e => e
        have q6 := u26.size
        have hx6 := a3.upd u26 fun k hk e => by have := hx2 k hk; omega
        have u6 : Upd (fun k => B ≤ k) w w6 := u2.trans' (u26.mono (T := fun k => B ≤ k) fun _ _ e => e.1) fun _ _ e => e
        have hEl : (Gf.elimR (Gf.normR (Gf.swapR R c a) c) c).length = R.length := by rw [Gf.elim_length, hNl]
        have hrec := ih (c + 1) f w6 ss' _ x2 (by omega) (by omega) (by rw [hEl]; exact hR) d2 hBN (by omega) hx6 hx2
        have hrun : (if decide ((a : Int) < 0) = true then some (.ret (nilF, false, ()), w2) else ((rs.a).bind fun p_27 =>
  if (0 : Int) ≤ (a : Int) ∧ (a : Int) < ((rs.len : Nat) : Int) then ((rs.a).bind fun p_28 =>
  if (0 : Int) ≤ (c : Int) ∧ (c : Int) < ((rs.len : Nat) : Int) then ((ldS (p_27.add ((Int.toNat (a : Int)) * 1)) w2.drew).bind fun v_29 =>
  (ldS (p_28.add ((Int.toNat (c : Int)) * 1)) w2.drew).bind fun v_30 =>
  (rs.a).bind fun p_31 =>
  if (0 : Int) ≤ (c : Int) ∧ (c : Int) < ((rs.len : Nat) : Int) then ((stC (p_31.add ((Int.toNat (c : Int)) * 1)) (.slice v_29.a v_29.len v_29.cap) w2.drew).bind fun w_32 =>
  (rs.a).bind fun p_33 =>
  if (0 : Int) ≤ (a : Int) ∧ (a : Int) < ((rs.len : Nat) : Int) then ((stC (p_33.add ((Int.toNat (a : Int)) * 1)) (.slice v_30.a v_30.len v_30.cap) w_32).bind fun w_34 =>
  (rs.a).bind fun p_35 =>
  if (0 : Int) ≤ (c : Int) ∧ (c : Int) < ((rs.len : Nat) : Int) then ((ldS (p_35.add ((Int.toNat (c : Int)) * 1)) w_34).bind fun v_36 =>
  (v_36.a).bind fun p_37 =>
  if (0 : Int) ≤ (c : Int) ∧ (c : Int) < ((v_36.len : Nat) : Int) then ((ldI .u8 (p_37.add ((Int.toNat (c : Int)) * 1)) w_34).bind fun v_38 =>
  (ref11_over K 1 v_38).bind fun r_39 =>
  bnd (ref11_Solve_l4 K K (n : Int) rs x2 (c : Int) r_39.1 0 w_34) fun y_49 w_50 =>
  bnd (ref11_Solve_l5 K K (n : Int) rs x2 (c : Int) 0 w_50) fun y_76 w_77 =>
  ref11_Solve_l1 K f (n : Int) rs x2 (IntKind.i64.wrap ((c : Int) + 1)) w_77) else none) else none) else none) else none) else none) else none)) = ref11_Solve_l1 K f (n : Int) rs x2 ((c + 1 : Nat) : Int) w6 := by
          rw [if_neg (by simp only [decide_eq_true_eq]; omega), p1, Option.bind_some, if_pos ca, Option.bind_some, if_pos cc, Int.toNat_natCast, Nat.mul_one, p2, Option.bind_some, Int.toNat_natCast, Nat.mul_one, p3, Option.bind_some, Option.bind_some, if_pos cc]
          rw [s2, Option.bind_some, Option.bind_some, if_pos ca, s3, Option.bind_some, Option.bind_some, if_pos cc, r2, Option.bind_some, z1, Option.bind_some, if_pos c2, z2, Option.bind_some, hov, Option.bind_some]
          dsimp only
          rw [b1, bnd_ok, d1, bnd_ok, e3]
        rw [hrun, Option.map_some, Option.bind_some]
        cases hs : Gf.solveG (Gf.elimR (Gf.normR (Gf.swapR R c a) c) c) d (c + 1) with
        | none =>
          rw [hs] at hrec
          obtain ⟨w7, k1, k2⟩ := hrec
          exact ⟨w7, k1, u6.trans' k2 fun _ _ e => e⟩
        | some R' =>
          rw [hs] at hrec
          obtain ⟨x', ss'', w7, k1, k2, k3, k4, k5⟩ := hrec
          exact ⟨x', ss'', w7, k1, k2, k3, k4, u6.trans' k5 fun _ _ e => e⟩
    · have hlz : R.length - c = 0 := by omega
      have hpv : ref11_Solve_l2 K K (n : Int) rs x2 (c : Int) (-1) (c : Int) w2 = some ((-1, ()), w2) := by
        obtain ⟨k, hk⟩ : ∃ k, K = k + 1 := ⟨K - 1, by omega⟩
        have gen : ∀ m, m = k + 1 → ref11_Solve_l2 K m (n : Int) rs x2 (c : Int) (-1) (c : Int) w2 = some ((-1, ()), w2) := fun m hm => by
          rw [hm]
          show ref11_Solve_l2_b K (ref11_Solve_l2 K k) (n : Int) rs x2 (c : Int) (-1) (c : Int) w2 = _
          unfold ref11_Solve_l2_b ref11_Solve_s3
          rw [if_neg (by rw [hsz]; simp only [decide_eq_true_eq]; omega), bnd_ok, if_neg (by decide)]
        exact gen K hk
      have hss : Gf.stepS R c = none := by unfold Gf.stepS; rw [hlz]; rfl
      rw [hpv, bnd_ok, hss]
      exact ⟨w2, by rw [if_pos (by decide)], u2⟩

end Go.Sh

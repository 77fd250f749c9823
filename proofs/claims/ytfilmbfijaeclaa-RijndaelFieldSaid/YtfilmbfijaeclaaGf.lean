/- The field of 256 elements: products by doubling, and by a product of polynomials and its remainder, on natural numbers; nothing of a program stands here. -/
import Derived.Test.YtfilmbfijaeclaaFwP
namespace Go.Gf

/-- twice -/
def xt (a : Nat) : Nat := if a &&& 128 = 0 then a * 2 % 256 else (a * 2 % 256) ^^^ 27

def mulG : Nat → Nat → Nat → Nat → Nat
  | 0, _, _, p => p
  | n + 1, a, b, p => mulG n (xt a) (b / 2) (if b % 2 = 1 then p ^^^ a else p)

/-- the product -/
def mul (a b : Nat) : Nat := mulG 8 a b 0

theorem mulG_zero : ∀ (n a p : Nat), mulG n a 0 p = p
  | 0, _, _ => rfl
  | n + 1, a, p => by simp [mulG, mulG_zero n]

theorem xt_lt {a : Nat} : xt a < 256 := by
  unfold xt
  split
  · omega
  · exact Nat.xor_lt_two_pow (n := 8) (by omega) (by omega)

theorem mulG_lt : ∀ (n a b p : Nat), a < 256 → p < 256 → mulG n a b p < 256
  | 0, _, _, _, _, hp => hp
  | n + 1, a, b, p, ha, hp => by
    unfold mulG
    refine mulG_lt n _ _ _ xt_lt ?_
    split
    · exact Nat.xor_lt_two_pow (n := 8) hp ha
    · exact hp

theorem mul_lt {a b : Nat} (ha : a < 256) : mul a b < 256 := mulG_lt 8 a b 0 ha (by decide)

/-! ### The other way -/

def pol : Nat → Nat → Nat → Nat → Nat → Nat
  | 0, _, _, _, p => p
  | n + 1, i, a, b, p => pol n (i + 1) a b (if b / 2 ^ i % 2 = 1 then p ^^^ (a * 2 ^ i) else p)

def redS (i p : Nat) : Nat := if p / 2 ^ i % 2 = 1 then p ^^^ (283 * 2 ^ (i - 8)) else p
def red : Nat → Nat → Nat → Nat
  | 0, _, p => p
  | n + 1, i, p => red n (i - 1) (redS i p)

theorem redS_xor (i x y : Nat) : redS i (x ^^^ y) = redS i x ^^^ redS i y := by
  have hb : ∀ z : Nat, (z / 2 ^ i % 2 = 1) ↔ z.testBit i = true := fun z => by
    rw [Nat.testBit_eq_decide_div_mod_eq]; simp
  unfold redS
  simp only [hb, Nat.testBit_xor]
  have e1 : ∀ c : Nat, (x ^^^ c) ^^^ (y ^^^ c) = x ^^^ y := fun c => by
    have : (x ^^^ c) ^^^ (y ^^^ c) = (x ^^^ y) ^^^ (c ^^^ c) := by ac_rfl
    rw [this, Nat.xor_self, Nat.xor_zero]
  have e2 : ∀ c : Nat, (x ^^^ y) ^^^ c = x ^^^ (y ^^^ c) := fun c => by ac_rfl
  have e3 : ∀ c : Nat, (x ^^^ y) ^^^ c = (x ^^^ c) ^^^ y := fun c => by ac_rfl
  cases hx : x.testBit i <;> cases hy : y.testBit i
  · simp
  · simpa using e2 _
  · simpa using e3 _
  · simpa using (e1 _).symm

theorem red_xor : ∀ (n i x y : Nat), red n i (x ^^^ y) = red n i x ^^^ red n i y
  | 0, _, _, _ => rfl
  | n + 1, i, x, y => by simp only [red, redS_xor, red_xor n]

def xts : Nat → Nat → Nat
  | 0, a => a
  | n + 1, a => xt (xts n a)

theorem red_shift : ∀ a, a < 256 → ∀ i, i < 8 → red 7 14 (a * 2 ^ i) = xts i a := by decide +kernel

theorem xts_lt {a : Nat} (ha : a < 256) : ∀ i, xts i a < 256
  | 0 => ha
  | _ + 1 => xt_lt

theorem mul_pol {a b : Nat} (ha : a < 256) : ∀ (n i p : Nat), n + i = 8 → mulG n (xts i a) (b / 2 ^ i) (red 7 14 p) = red 7 14 (pol n i a b p)
  | 0, _, _, _ => rfl
  | n + 1, i, p, h => by
    have ih := mul_pol ha (b := b) n (i + 1) (if b / 2 ^ i % 2 = 1 then p ^^^ (a * 2 ^ i) else p) (by omega)
    simp only [mulG, pol]
    rw [← ih]
    have e1 : b / 2 ^ i / 2 = b / 2 ^ (i + 1) := by rw [Nat.div_div_eq_div_mul, Nat.pow_succ]
    rw [e1]
    have e2 : (if b / 2 ^ i % 2 = 1 then red 7 14 p ^^^ xts i a else red 7 14 p) = red 7 14 (if b / 2 ^ i % 2 = 1 then p ^^^ (a * 2 ^ i) else p) := by
      split
      · rw [red_xor, red_shift a ha i (by omega)]
      · rfl
    rw [e2]; rfl

theorem mul_ref {a b : Nat} (ha : a < 256) : red 7 14 (pol 8 0 a b 0) = mul a b := by
  have := mul_pol ha (b := b) 8 0 0 rfl
  rw [← this]
  simp [mul, xts]
  rfl

theorem pol_lt {a b : Nat} (ha : a < 256) : ∀ (n i p : Nat), n + i = 8 → p < 32768 → pol n i a b p < 32768
  | 0, _, _, _, hp => hp
  | n + 1, i, p, h, hp => by
    unfold pol
    refine pol_lt ha n (i + 1) _ (by omega) ?_
    split
    · refine Nat.xor_lt_two_pow (n := 15) hp ?_
      have : 2 ^ i ≤ 2 ^ 7 := Nat.pow_le_pow_right (by decide) (by omega)
      have := Nat.mul_le_mul (show a ≤ 255 by omega) this
      omega
    · exact hp

theorem redS_lt {i p : Nat} (hi : i ≤ 14) (hp : p < 32768) : redS i p < 32768 := by
  unfold redS
  split
  · refine Nat.xor_lt_two_pow (n := 15) hp ?_
    have : 2 ^ (i - 8) ≤ 2 ^ 6 := Nat.pow_le_pow_right (by decide) (by omega)
    have := Nat.mul_le_mul (show 283 ≤ 283 by omega) this
    omega
  · exact hp

end Go.Gf

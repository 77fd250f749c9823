/- Bits: 'and', 'or', 'xor' of numbers of a kind, as those of natural numbers; nothing of a program stands here. -/
import Derived.Test.YtgmdbhckccmhjaaDoorFwN
import Derived.Laws.BitsLemmas
namespace Go.Fw

/-- a number of an unsigned kind -/
def InK (k : IntKind) (x : Int) : Prop := 0 ≤ x ∧ x < 2 ^ k.bits

theorem wrap_nat {k : IntKind} (hs : k.signed = false) (n : Nat) (h : n < 2 ^ k.bits) : k.wrap (n : Int) = (n : Int) := by
  unfold IntKind.wrap
  simp only [hs, Bool.false_and, Bool.false_eq_true, if_false]
  exact Int.emod_eq_of_lt (Int.natCast_nonneg _) (by exact_mod_cast h)

theorem bits_nats {k : IntKind} (hs : k.signed = false) {a b : Nat} (ha : a < 2 ^ k.bits) (hb : b < 2 ^ k.bits) :
    bits .and k a b = ((a &&& b : Nat) : Int) ∧ bits .or k a b = ((a ||| b : Nat) : Int) ∧ bits .xor k a b = ((a ^^^ b : Nat) : Int) := by
  have ha' : a % 2 ^ k.bits = a := Nat.mod_eq_of_lt ha
  have hb' : b % 2 ^ k.bits = b := Nat.mod_eq_of_lt hb
  refine ⟨?_, ?_, ?_⟩
  · simp only [bits, BitVec.ofInt_natCast, BitVec.toNat_and, BitVec.toNat_ofNat, ha', hb']
    exact wrap_nat hs _ (Nat.and_lt_two_pow _ hb)
  · simp only [bits, BitVec.ofInt_natCast, BitVec.toNat_or, BitVec.toNat_ofNat, ha', hb']
    exact wrap_nat hs _ (Nat.or_lt_two_pow ha hb)
  · simp only [bits, BitVec.ofInt_natCast, BitVec.toNat_xor, BitVec.toNat_ofNat, ha', hb']
    exact wrap_nat hs _ (Nat.xor_lt_two_pow ha hb)

theorem InK.nat {k : IntKind} {x : Int} (h : InK k x) : ∃ n : Nat, x = (n : Int) ∧ n < 2 ^ k.bits := by
  obtain ⟨h0, h1⟩ := h
  obtain ⟨n, rfl⟩ := Int.eq_ofNat_of_zero_le h0
  exact ⟨n, rfl, by exact_mod_cast h1⟩

theorem InK.of_nat {k : IntKind} {n : Nat} (h : n < 2 ^ k.bits) : InK k (n : Int) := ⟨Int.natCast_nonneg _, by exact_mod_cast h⟩

theorem InK.xor {k : IntKind} (hs : k.signed = false) {x y : Int} (hx : InK k x) (hy : InK k y) : InK k (bits .xor k x y) := by
  obtain ⟨a, rfl, ha⟩ := hx.nat; obtain ⟨b, rfl, hb⟩ := hy.nat
  rw [(bits_nats hs ha hb).2.2]; exact InK.of_nat (Nat.xor_lt_two_pow ha hb)
theorem InK.or {k : IntKind} (hs : k.signed = false) {x y : Int} (hx : InK k x) (hy : InK k y) : InK k (bits .or k x y) := by
  obtain ⟨a, rfl, ha⟩ := hx.nat; obtain ⟨b, rfl, hb⟩ := hy.nat
  rw [(bits_nats hs ha hb).2.1]; exact InK.of_nat (Nat.or_lt_two_pow ha hb)
theorem InK.and {k : IntKind} (hs : k.signed = false) {x y : Int} (hx : InK k x) (hy : InK k y) : InK k (bits .and k x y) := by
  obtain ⟨a, rfl, ha⟩ := hx.nat; obtain ⟨b, rfl, hb⟩ := hy.nat
  rw [(bits_nats hs ha hb).1]; exact InK.of_nat (Nat.and_lt_two_pow _ hb)

theorem or_eq_zero {a b : Nat} : a ||| b = 0 ↔ a = 0 ∧ b = 0 := by
  constructor
  · intro h
    refine ⟨Nat.eq_of_testBit_eq fun i => ?_, Nat.eq_of_testBit_eq fun i => ?_⟩ <;>
    · have := congrArg (·.testBit i) h
      simp only [Nat.testBit_or, Nat.zero_testBit, Bool.or_eq_false_iff] at this
      simp [this]
  · rintro ⟨rfl, rfl⟩; rfl

theorem xor_eq_zero {a b : Nat} : a ^^^ b = 0 ↔ a = b := by
  constructor
  · intro h
    refine Nat.eq_of_testBit_eq fun i => ?_
    have := congrArg (·.testBit i) h
    simp only [Nat.testBit_xor, Nat.zero_testBit] at this
    cases h1 : a.testBit i <;> cases h2 : b.testBit i <;> simp_all
  · rintro rfl; simp

/-- 'or' with the unlikeness of two numbers -/
theorem or_xor_zero {k : IntKind} (hs : k.signed = false) {u x y : Int} (hu : InK k u) (hx : InK k x) (hy : InK k y) : bits .or k u (bits .xor k x y) = 0 ↔ u = 0 ∧ x = y := by
  obtain ⟨a, rfl, ha⟩ := hx.nat; obtain ⟨b, rfl, hb⟩ := hy.nat; obtain ⟨c, rfl, hc⟩ := hu.nat
  rw [(bits_nats hs ha hb).2.2, (bits_nats hs hc (Nat.xor_lt_two_pow ha hb)).2.1]
  constructor
  · intro h
    have h : c ||| (a ^^^ b) = 0 := by exact_mod_cast h
    obtain ⟨h1, h2⟩ := or_eq_zero.1 h
    rw [xor_eq_zero.1 h2, h1]; simp
  · rintro ⟨h1, h2⟩
    have h1 : c = 0 := by exact_mod_cast h1
    have h2 : a = b := by exact_mod_cast h2
    subst h1; subst h2; simp

end Go.Fw

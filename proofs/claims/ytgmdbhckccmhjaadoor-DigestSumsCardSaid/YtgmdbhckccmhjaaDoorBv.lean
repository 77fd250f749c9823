/- 'or' for 'xor' where no bit is in both, and where two of three decide; sums in another order; nothing of a program stands here. -/
import Derived.Test.YtgmdbhckccmhjaaDoorSpec64
namespace Go.Sha
open Go.Fw

theorem bits_bv {k : IntKind} (hs : k.signed = false) (x y : Int) :
    bits .and k x y = (((BitVec.ofInt k.bits x &&& BitVec.ofInt k.bits y).toNat : Nat) : Int) ∧ bits .or k x y = (((BitVec.ofInt k.bits x ||| BitVec.ofInt k.bits y).toNat : Nat) : Int) ∧
    bits .xor k x y = (((BitVec.ofInt k.bits x ^^^ BitVec.ofInt k.bits y).toNat : Nat) : Int) :=
  ⟨wrap_nat hs _ (BitVec.isLt _), wrap_nat hs _ (BitVec.isLt _), wrap_nat hs _ (BitVec.isLt _)⟩

theorem bv_of {n : Nat} (v : BitVec n) : BitVec.ofInt n ((v.toNat : Nat) : Int) = v := by
  rw [BitVec.ofInt_natCast]
  apply BitVec.eq_of_toNat_eq
  simp

theorem bv_all {n : Nat} : BitVec.ofInt n ((2 ^ n - 1 : Nat) : Int) = BitVec.allOnes n := by
  rw [BitVec.ofInt_natCast]
  apply BitVec.eq_of_toNat_eq
  simp [BitVec.toNat_allOnes]

theorem or_comm_bits {k : IntKind} (hs : k.signed = false) (x y : Int) : bits .or k x y = bits .or k y x := by
  rw [(bits_bv hs x y).2.1, (bits_bv hs y x).2.1, BitVec.or_comm]

theorem ch_or {k : IntKind} (hs : k.signed = false) (m : Int) (hm : BitVec.ofInt k.bits m = BitVec.allOnes k.bits) (e f g : Int) :
    bits .or k (bits .and k e f) (bits .and k (bits .xor k m e) g) = bits .xor k (bits .and k e f) (bits .and k (bits .xor k m e) g) := by
  rw [(bits_bv hs _ _).2.1, (bits_bv hs (bits .and k e f) _).2.2, (bits_bv hs e f).1, (bits_bv hs (bits .xor k m e) g).1, (bits_bv hs m e).2.2]
  simp only [bv_of, hm]
  congr 2
  apply BitVec.eq_of_getLsbD_eq
  intro i hi
  simp only [BitVec.getLsbD_or, BitVec.getLsbD_and, BitVec.getLsbD_xor, BitVec.getLsbD_allOnes, hi, decide_true]
  cases (BitVec.ofInt k.bits e).getLsbD i <;> cases (BitVec.ofInt k.bits f).getLsbD i <;> cases (BitVec.ofInt k.bits g).getLsbD i <;> rfl

theorem maj_or {k : IntKind} (hs : k.signed = false) (a b c : Int) :
    bits .or k (bits .or k (bits .and k a b) (bits .and k a c)) (bits .and k b c) = bits .xor k (bits .xor k (bits .and k a b) (bits .and k a c)) (bits .and k b c) := by
  rw [(bits_bv hs _ _).2.1, (bits_bv hs (bits .and k a b) (bits .and k a c)).2.1, (bits_bv hs (bits .xor k _ _) _).2.2, (bits_bv hs (bits .and k a b) (bits .and k a c)).2.2, (bits_bv hs a b).1, (bits_bv hs a c).1, (bits_bv hs b c).1]
  simp only [bv_of]
  congr 2
  apply BitVec.eq_of_getLsbD_eq
  intro i hi
  simp only [BitVec.getLsbD_or, BitVec.getLsbD_and, BitVec.getLsbD_xor]
  cases (BitVec.ofInt k.bits a).getLsbD i <;> cases (BitVec.ofInt k.bits b).getLsbD i <;> cases (BitVec.ofInt k.bits c).getLsbD i <;> rfl

theorem all32 : BitVec.ofInt IntKind.u32.bits IntKind.u32.max = BitVec.allOnes IntKind.u32.bits := by decide +kernel
theorem all64 : BitVec.ofInt IntKind.u64.bits IntKind.u64.max = BitVec.allOnes IntKind.u64.bits := by decide +kernel

theorem rr32_or (x : Int) (n : Nat) : bits .or .u32 (Int.fdiv x (2 ^ n)) (IntKind.u32.wrap (x * 2 ^ (32 - n))) = rr32 x n := or_comm_bits rfl _ _
theorem rr64_or (x : Int) (n : Nat) : bits .or .u64 (Int.fdiv x (2 ^ n)) (IntKind.u64.wrap (x * 2 ^ (64 - n))) = rr64 x n := or_comm_bits rfl _ _

theorem sch32_ref (x y w16 w7 : Int) :
    IntKind.u32.wrap ((IntKind.u32.wrap ((IntKind.u32.wrap ((bits .xor .u32 (bits .xor .u32 (rr32 y 17) (rr32 y 19)) (Int.fdiv y (2 ^ 10))) + w7)) + (bits .xor .u32 (bits .xor .u32 (rr32 x 7) (rr32 x 18)) (Int.fdiv x (2 ^ 3))))) + w16) = sch32 x y w16 w7 := by
  unfold sch32
  simp only [IntKind.wrap_u32]
  omega
theorem sch64_ref (x y w16 w7 : Int) :
    IntKind.u64.wrap ((IntKind.u64.wrap ((IntKind.u64.wrap ((bits .xor .u64 (bits .xor .u64 (rr64 y 19) (rr64 y 61)) (Int.fdiv y (2 ^ 6))) + w7)) + (bits .xor .u64 (bits .xor .u64 (rr64 x 1) (rr64 x 8)) (Int.fdiv x (2 ^ 7))))) + w16) = sch64 x y w16 w7 := by
  unfold sch64
  simp only [IntKind.wrap_u64]
  omega

end Go.Sha

/- The compression of words of 64 bits, on lists of numbers, by the machine's own operators; nothing of a program stands here. -/
import Derived.Test.YtgmdbhckccmhjaaDoorSpec32
import Derived.Laws.Bits64
namespace Go.Sha
open Go.Fw

/-- a rotation to the right -/
def rr64 (x : Int) (n : Nat) : Int := bits .or .u64 (IntKind.u64.wrap (x * 2 ^ (64 - n))) (Int.fdiv x (2 ^ n))

def sch64 (x y w16 w7 : Int) : Int :=
  IntKind.u64.wrap ((IntKind.u64.wrap ((IntKind.u64.wrap (w16 + w7)) + (bits .xor .u64 (bits .xor .u64 (rr64 x 1) (rr64 x 8)) (Int.fdiv x (2 ^ 7))))) + (bits .xor .u64 (bits .xor .u64 (rr64 y 19) (rr64 y 61)) (Int.fdiv y (2 ^ 6))))

/-- a byte behind a word -/
def sh8 (v x : Int) : Int := bits .or .u64 (IntKind.u64.wrap (v * 2 ^ 8)) (IntKind.u64.wrap x)

/-- eight bytes behind a word -/
def word64 (v : Int) (bs : List Int) (o : Nat) : Nat → Int
  | 0 => v
  | n + 1 => sh8 (word64 v bs o n) (bs.getD (o + n) 0)

/-- the sixteen words of a block -/
def words64 (bs : List Int) : Nat → List Int
  | 0 => []
  | n + 1 => words64 bs n ++ [word64 0 bs (8 * n) 8]

/-- words behind words -/
def ext64 : Nat → List Int → List Int
  | 0, s => s
  | n + 1, s => ext64 n (s ++ [sch64 (s.getD (s.length - 15) 0) (s.getD (s.length - 2) 0) (s.getD (s.length - 16) 0) (s.getD (s.length - 7) 0)])

def t1_64 (e f g k x w : Int) : Int :=
  IntKind.u64.wrap ((IntKind.u64.wrap ((IntKind.u64.wrap ((IntKind.u64.wrap (k + (bits .xor .u64 (bits .xor .u64 (rr64 e 14) (rr64 e 18)) (rr64 e 41)))) + (bits .xor .u64 (bits .and .u64 e f) (bits .and .u64 (bits .xor .u64 IntKind.u64.max e) g)))) + x)) + w)
def t2_64 (a b c : Int) : Int :=
  IntKind.u64.wrap ((bits .xor .u64 (bits .xor .u64 (rr64 a 28) (rr64 a 34)) (rr64 a 39)) + (bits .xor .u64 (bits .xor .u64 (bits .and .u64 a b) (bits .and .u64 a c)) (bits .and .u64 b c)))

/-- rounds: how many, from which on, the words, the constants -/
def rounds64 (W C : List Int) : Nat → Nat → Int → Int → Int → Int → Int → Int → Int → Int → V8
  | 0, _, a, b, c, d, e, f, g, k => (a, b, c, d, e, f, g, k, ())
  | n + 1, i, a, b, c, d, e, f, g, k =>
    rounds64 W C n (i + 1) (IntKind.u64.wrap (t1_64 e f g k (C.getD i 0) (W.getD i 0) + t2_64 a b c)) a b c (IntKind.u64.wrap (d + t1_64 e f g k (C.getD i 0) (W.getD i 0))) e f g

/-- the rounds of a block -/
def rv64 (C H bs : List Int) : V8 :=
  rounds64 (ext64 64 (words64 bs 16)) C 80 0 (H.getD 0 0) (H.getD 1 0) (H.getD 2 0) (H.getD 3 0) (H.getD 4 0) (H.getD 5 0) (H.getD 6 0) (H.getD 7 0)

/-- eight sums -/
def sum8w (v x : List Int) : List Int := (List.range 8).map fun i => IntKind.u64.wrap (v.getD i 0 + x.getD i 0)

/-- a block of 128 bytes is taken -/
def comp64 (C H bs : List Int) : List Int := sum8w H (list8 (rv64 C H bs))

/-- blocks are taken -/
def comps64 (C : List Int) : Nat → List Int → List Int → List Int
  | 0, H, _ => H
  | n + 1, H, bs => comps64 C n (comp64 C H bs) (bs.drop 128)

theorem words64_len (bs : List Int) : ∀ n, (words64 bs n).length = n
  | 0 => rfl
  | n + 1 => by simp [words64, words64_len bs n]

theorem ext64_len : ∀ n s, (ext64 n s).length = s.length + n
  | 0, s => rfl
  | n + 1, s => by simp [ext64, ext64_len n]; omega

theorem comp64_len (C H bs : List Int) : (comp64 C H bs).length = 8 := by simp [comp64, sum8w]

theorem comps64_len (C : List Int) : ∀ (n : Nat) (H bs : List Int), H.length = 8 → (comps64 C n H bs).length = 8
  | 0, _, _, h => h
  | n + 1, H, bs, _ => comps64_len C n _ _ (comp64_len C H bs)

theorem sh8_eq {v x : Int} (hx : InK .u8 x) : sh8 v x = (v * 256 + x) % 18446744073709551616 := by
  obtain ⟨b, rfl, hb⟩ := hx.nat
  have hb : b < 256 := hb
  unfold sh8
  have e1 : IntKind.u64.wrap (b : Int) = (b : Int) := by rw [IntKind.wrap_u64]; omega
  obtain ⟨q, hq⟩ : ∃ q : Nat, (v % 72057594037927936) = (q : Int) := Int.eq_ofNat_of_zero_le (Int.emod_nonneg _ (by decide))
  have hq2 : q < 72057594037927936 := by omega
  have e2 : IntKind.u64.wrap (v * 2 ^ 8) = ((q * 256 : Nat) : Int) := by
    rw [IntKind.wrap_u64]
    have : (v * 2 ^ 8 : Int) = v * 256 := rfl
    rw [this]
    omega
  rw [e1, e2, (bits_nats (k := .u64) rfl (show q * 256 < 2 ^ 64 by omega) (show b < 2 ^ 64 by omega)).2.1]
  have e3 : q * 256 ||| b = q * 256 + b := by
    rw [Nat.mul_comm]
    exact (Nat.two_pow_add_eq_or_of_lt (i := 8) hb q).symm
  rw [e3]
  omega

/-- eight bytes behind whatever word -/
theorem word64_any {bs : List Int} (h : ∀ i, InK .u8 (bs.getD i 0)) (v : Int) (o : Nat) : word64 v bs o 8 = word64 0 bs o 8 := by
  simp only [word64, sh8_eq (h _)]
  omega

end Go.Sha

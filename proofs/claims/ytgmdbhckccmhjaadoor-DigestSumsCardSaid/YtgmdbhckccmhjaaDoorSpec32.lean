/- The compression of words of 32 bits, on lists of numbers, by the machine's own operators; nothing of a program stands here. -/
import Derived.Test.YtgmdbhckccmhjaaDoorFwP
namespace Go.Sha
open Go.Fw

/-- a rotation to the right -/
def rr32 (x : Int) (n : Nat) : Int := bits .or .u32 (IntKind.u32.wrap (x * 2 ^ (32 - n))) (Int.fdiv x (2 ^ n))

def sch32 (x y w16 w7 : Int) : Int :=
  IntKind.u32.wrap ((IntKind.u32.wrap ((IntKind.u32.wrap (w16 + w7)) + (bits .xor .u32 (bits .xor .u32 (rr32 x 7) (rr32 x 18)) (Int.fdiv x (2 ^ 3))))) + (bits .xor .u32 (bits .xor .u32 (rr32 y 17) (rr32 y 19)) (Int.fdiv y (2 ^ 10))))

def word32 (p q r s : Int) : Int :=
  bits .or .u32 (bits .or .u32 (bits .or .u32 (IntKind.u32.wrap ((IntKind.u32.wrap p) * 2 ^ 24)) (IntKind.u32.wrap ((IntKind.u32.wrap q) * 2 ^ 16))) (IntKind.u32.wrap ((IntKind.u32.wrap r) * 2 ^ 8))) (IntKind.u32.wrap s)

/-- the sixteen words of a block -/
def words32 (bs : List Int) : Nat → List Int
  | 0 => []
  | n + 1 => words32 bs n ++ [word32 (bs.getD (4 * n) 0) (bs.getD (4 * n + 1) 0) (bs.getD (4 * n + 2) 0) (bs.getD (4 * n + 3) 0)]

/-- words behind words -/
def ext32 : Nat → List Int → List Int
  | 0, s => s
  | n + 1, s => ext32 n (s ++ [sch32 (s.getD (s.length - 15) 0) (s.getD (s.length - 2) 0) (s.getD (s.length - 16) 0) (s.getD (s.length - 7) 0)])

def t1_32 (e f g k x w : Int) : Int :=
  IntKind.u32.wrap ((IntKind.u32.wrap ((IntKind.u32.wrap ((IntKind.u32.wrap (k + (bits .xor .u32 (bits .xor .u32 (rr32 e 6) (rr32 e 11)) (rr32 e 25)))) + (bits .xor .u32 (bits .and .u32 e f) (bits .and .u32 (bits .xor .u32 IntKind.u32.max e) g)))) + x)) + w)
def t2_32 (a b c : Int) : Int :=
  IntKind.u32.wrap ((bits .xor .u32 (bits .xor .u32 (rr32 a 2) (rr32 a 13)) (rr32 a 22)) + (bits .xor .u32 (bits .xor .u32 (bits .and .u32 a b) (bits .and .u32 a c)) (bits .and .u32 b c)))

abbrev V8 := Int × Int × Int × Int × Int × Int × Int × Int × Unit

/-- rounds: how many, from which on, the words, the constants -/
def rounds32 (W C : List Int) : Nat → Nat → Int → Int → Int → Int → Int → Int → Int → Int → V8
  | 0, _, a, b, c, d, e, f, g, k => (a, b, c, d, e, f, g, k, ())
  | n + 1, i, a, b, c, d, e, f, g, k =>
    rounds32 W C n (i + 1) (IntKind.u32.wrap (t1_32 e f g k (IntKind.u32.wrap (Int.fdiv (C.getD i 0) (2 ^ 32))) (W.getD i 0) + t2_32 a b c)) a b c
      (IntKind.u32.wrap (d + t1_32 e f g k (IntKind.u32.wrap (Int.fdiv (C.getD i 0) (2 ^ 32))) (W.getD i 0))) e f g

def list8 (v : V8) : List Int := [v.1, v.2.1, v.2.2.1, v.2.2.2.1, v.2.2.2.2.1, v.2.2.2.2.2.1, v.2.2.2.2.2.2.1, v.2.2.2.2.2.2.2.1]

/-- the rounds of a block -/
def rv32 (C H bs : List Int) : V8 :=
  rounds32 (ext32 48 (words32 bs 16)) C 64 0 ((H.map IntKind.u32.wrap).getD 0 0) ((H.map IntKind.u32.wrap).getD 1 0) ((H.map IntKind.u32.wrap).getD 2 0) ((H.map IntKind.u32.wrap).getD 3 0) ((H.map IntKind.u32.wrap).getD 4 0) ((H.map IntKind.u32.wrap).getD 5 0) ((H.map IntKind.u32.wrap).getD 6 0) ((H.map IntKind.u32.wrap).getD 7 0)

/-- eight sums -/
def sum8 (v x : List Int) : List Int := (List.range 8).map fun i => IntKind.u64.wrap (IntKind.u32.wrap (v.getD i 0 + x.getD i 0))

/-- a block of 64 bytes is taken -/
def comp32 (C H bs : List Int) : List Int := sum8 (H.map IntKind.u32.wrap) (list8 (rv32 C H bs))

/-- blocks are taken -/
def comps32 (C : List Int) : Nat → List Int → List Int → List Int
  | 0, H, _ => H
  | n + 1, H, bs => comps32 C n (comp32 C H bs) (bs.drop 64)

theorem words32_len (bs : List Int) : ∀ n, (words32 bs n).length = n
  | 0 => rfl
  | n + 1 => by simp [words32, words32_len bs n]

theorem ext32_len : ∀ n s, (ext32 n s).length = s.length + n
  | 0, s => rfl
  | n + 1, s => by simp [ext32, ext32_len n]; omega

theorem comp32_len (C H bs : List Int) : (comp32 C H bs).length = 8 := by simp [comp32, sum8]

theorem comps32_len (C : List Int) : ∀ (n : Nat) (H bs : List Int), H.length = 8 → (comps32 C n H bs).length = 8
  | 0, _, _, h => h
  | n + 1, H, bs, _ => comps32_len C n _ _ (comp32_len C H bs)

end Go.Sha

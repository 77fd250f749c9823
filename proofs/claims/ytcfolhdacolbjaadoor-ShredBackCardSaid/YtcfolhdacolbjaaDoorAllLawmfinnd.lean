/- Texts of this claim, put together: Spec32, Spec64, Fed, Bv, Narrow, Wide, Ref32, Ref64, Kind, First, BookA, BookB, BookC -/
import Derived.Test.YtcfolhdacolbjaaDoorAllShBbogdag
import Derived.Test.YtcfolhdacolbjaaDoorAllFwfmlfdo
import Derived.Laws.Bits64
import Derived.Test.YtcfolhdacolbjaaDoorAllShfljomm
import Derived.Test.YtcfolhdacolbjaaDoorAllShdiilgh
/- The compression of words of 32 bits, on lists of numbers, by the machine's own operators; nothing of a program stands here. -/
namespace Go.Sha
open Go.Fw

/-- a rotation to the right -/
def rr32 (x : Int) (n : Nat) : Int := bits .or .u32 (IntKind.u32.wrap (x * 2 ^ (32 - n))) (Int.fdiv x (2 ^ n))

def sch32 (x y w16 w7 : Int) : Int :=
  IntKind.u32.wrap ((IntKind.u32.wrap ((IntKind.u32.wrap (w16 + w7)) + (bits .xor .u32 (bits .xor .u32 (rr32 x 7) (rr32 x 18)) (Int.fdiv x (2 ^ 3))))) + (bits .xor .u32 (bits .xor .u32 (rr32 y 17) (rr32 y 19)) (Int.fdiv y (2 ^ 10))))

def word32 (p q r s : Int) : Int :=
  bits .or .u32 (bits .or .u32 (bits .or .u32 (IntKind.u32.wrap ((IntKind.u32.wrap p) * 2 ^ 24)) (IntKind.u32.wrap ((IntKind.u32.wrap q) * 2 ^ 16))) (IntKind.u32.wrap ((IntKind.u32.wrap r) * 2 ^ 8))) (IntKind.u32.wrap s)

/-- the sixteen words of a block -/
def words32 (bs : List Int) : Nat → List Int
  | 0 => []
  | n + 1 => words32 bs n ++ [word32 (bs.getD (4 * n) 0) (bs.getD (4 * n + 1) 0) (bs.getD (4 * n + 2) 0) (bs.getD (4 * n + 3) 0)]

/-- words behind words -/
def ext32 : Nat → List Int → List Int
  | 0, s => s
  | n + 1, s => ext32 n (s ++ [sch32 (s.getD (s.length - 15) 0) (s.getD (s.length - 2) 0) (s.getD (s.length - 16) 0) (s.getD (s.length - 7) 0)])

def t1_32 (e f g k x w : Int) : Int :=
  IntKind.u32.wrap ((IntKind.u32.wrap ((IntKind.u32.wrap ((IntKind.u32.wrap (k + (bits .xor .u32 (bits .xor .u32 (rr32 e 6) (rr32 e 11)) (rr32 e 25)))) + (bits .xor .u32 (bits .and .u32 e f) (bits .and .u32 (bits .xor .u32 IntKind.u32.max e) g)))) + x)) + w)
def t2_32 (a b c : Int) : Int :=
  IntKind.u32.wrap ((bits .xor .u32 (bits .xor .u32 (rr32 a 2) (rr32 a 13)) (rr32 a 22)) + (bits .xor .u32 (bits .xor .u32 (bits .and .u32 a b) (bits .and .u32 a c)) (bits .and .u32 b c)))

abbrev V8 := Int × Int × Int × Int × Int × Int × Int × Int × Unit

/-- rounds: how many, from which on, the words, the constants -/
def rounds32 (W C : List Int) : Nat → Nat → Int → Int → Int → Int → Int → Int → Int → Int → V8
  | 0, _, a, b, c, d, e, f, g, k => (a, b, c, d, e, f, g, k, ())
  | n + 1, i, a, b, c, d, e, f, g, k =>
    rounds32 W C n (i + 1) (IntKind.u32.wrap (t1_32 e f g k (IntKind.u32.wrap (Int.fdiv (C.getD i 0) (2 ^ 32))) (W.getD i 0) + t2_32 a b c)) a b c
      (IntKind.u32.wrap (d + t1_32 e f g k (IntKind.u32.wrap (Int.fdiv (C.getD i 0) (2 ^ 32))) (W.getD i 0))) e f g

def list8 (v : V8) : List Int := [v.1, v.2.1, v.2.2.1, v.2.2.2.1, v.2.2.2.2.1, v.2.2.2.2.2.1, v.2.2.2.2.2.2.1, v.2.2.2.2.2.2.2.1]

/-- the rounds of a block -/
def rv32 (C H bs : List Int) : V8 :=
  rounds32 (ext32 48 (words32 bs 16)) C 64 0 ((H.map IntKind.u32.wrap).getD 0 0) ((H.map IntKind.u32.wrap).getD 1 0) ((H.map IntKind.u32.wrap).getD 2 0) ((H.map IntKind.u32.wrap).getD 3 0) ((H.map IntKind.u32.wrap).getD 4 0) ((H.map IntKind.u32.wrap).getD 5 0) ((H.map IntKind.u32.wrap).getD 6 0) ((H.map IntKind.u32.wrap).getD 7 0)

/-- eight sums -/
def sum8 (v x : List Int) : List Int := (List.range 8).map fun i => IntKind.u64.wrap (IntKind.u32.wrap (v.getD i 0 + x.getD i 0))

/-- a block of 64 bytes is taken -/
def comp32 (C H bs : List Int) : List Int := sum8 (H.map IntKind.u32.wrap) (list8 (rv32 C H bs))

/-- blocks are taken -/
def comps32 (C : List Int) : Nat → List Int → List Int → List Int
  | 0, H, _ => H
  | n + 1, H, bs => comps32 C n (comp32 C H bs) (bs.drop 64)

theorem words32_len (bs : List Int) : ∀ n, (words32 bs n).length = n
  | 0 => rfl
  | n + 1 => by simp [words32, words32_len bs n]

theorem ext32_len : ∀ n s, (ext32 n s).length = s.length + n
  | 0, s => rfl
  | n + 1, s => by simp [ext32, ext32_len n]; omega

theorem comp32_len (C H bs : List Int) : (comp32 C H bs).length = 8 := by simp [comp32, sum8]

theorem comps32_len (C : List Int) : ∀ (n : Nat) (H bs : List Int), H.length = 8 → (comps32 C n H bs).length = 8
  | 0, _, _, h => h
  | n + 1, H, bs, _ => comps32_len C n _ _ (comp32_len C H bs)

end Go.Sha

/- The compression of words of 64 bits, on lists of numbers, by the machine's own operators; nothing of a program stands here. -/
namespace Go.Sha
open Go.Fw

/-- a rotation to the right -/
def rr64 (x : Int) (n : Nat) : Int := bits .or .u64 (IntKind.u64.wrap (x * 2 ^ (64 - n))) (Int.fdiv x (2 ^ n))

def sch64 (x y w16 w7 : Int) : Int :=
  IntKind.u64.wrap ((IntKind.u64.wrap ((IntKind.u64.wrap (w16 + w7)) + (bits .xor .u64 (bits .xor .u64 (rr64 x 1) (rr64 x 8)) (Int.fdiv x (2 ^ 7))))) + (bits .xor .u64 (bits .xor .u64 (rr64 y 19) (rr64 y 61)) (Int.fdiv y (2 ^ 6))))

/-- a byte behind a word -/
def sh8 (v x : Int) : Int := bits .or .u64 (IntKind.u64.wrap (v * 2 ^ 8)) (IntKind.u64.wrap x)

/-- eight bytes behind a word -/
def word64 (v : Int) (bs : List Int) (o : Nat) : Nat → Int
  | 0 => v
  | n + 1 => sh8 (word64 v bs o n) (bs.getD (o + n) 0)

/-- the sixteen words of a block -/
def words64 (bs : List Int) : Nat → List Int
  | 0 => []
  | n + 1 => words64 bs n ++ [word64 0 bs (8 * n) 8]

/-- words behind words -/
def ext64 : Nat → List Int → List Int
  | 0, s => s
  | n + 1, s => ext64 n (s ++ [sch64 (s.getD (s.length - 15) 0) (s.getD (s.length - 2) 0) (s.getD (s.length - 16) 0) (s.getD (s.length - 7) 0)])

def t1_64 (e f g k x w : Int) : Int :=
  IntKind.u64.wrap ((IntKind.u64.wrap ((IntKind.u64.wrap ((IntKind.u64.wrap (k + (bits .xor .u64 (bits .xor .u64 (rr64 e 14) (rr64 e 18)) (rr64 e 41)))) + (bits .xor .u64 (bits .and .u64 e f) (bits .and .u64 (bits .xor .u64 IntKind.u64.max e) g)))) + x)) + w)
def t2_64 (a b c : Int) : Int :=
  IntKind.u64.wrap ((bits .xor .u64 (bits .xor .u64 (rr64 a 28) (rr64 a 34)) (rr64 a 39)) + (bits .xor .u64 (bits .xor .u64 (bits .and .u64 a b) (bits .and .u64 a c)) (bits .and .u64 b c)))

/-- rounds: how many, from which on, the words, the constants -/
def rounds64 (W C : List Int) : Nat → Nat → Int → Int → Int → Int → Int → Int → Int → Int → V8
  | 0, _, a, b, c, d, e, f, g, k => (a, b, c, d, e, f, g, k, ())
  | n + 1, i, a, b, c, d, e, f, g, k =>
    rounds64 W C n (i + 1) (IntKind.u64.wrap (t1_64 e f g k (C.getD i 0) (W.getD i 0) + t2_64 a b c)) a b c (IntKind.u64.wrap (d + t1_64 e f g k (C.getD i 0) (W.getD i 0))) e f g

/-- the rounds of a block -/
def rv64 (C H bs : List Int) : V8 :=
  rounds64 (ext64 64 (words64 bs 16)) C 80 0 (H.getD 0 0) (H.getD 1 0) (H.getD 2 0) (H.getD 3 0) (H.getD 4 0) (H.getD 5 0) (H.getD 6 0) (H.getD 7 0)

/-- eight sums -/
def sum8w (v x : List Int) : List Int := (List.range 8).map fun i => IntKind.u64.wrap (v.getD i 0 + x.getD i 0)

/-- a block of 128 bytes is taken -/
def comp64 (C H bs : List Int) : List Int := sum8w H (list8 (rv64 C H bs))

/-- blocks are taken -/
def comps64 (C : List Int) : Nat → List Int → List Int → List Int
  | 0, H, _ => H
  | n + 1, H, bs => comps64 C n (comp64 C H bs) (bs.drop 128)

theorem words64_len (bs : List Int) : ∀ n, (words64 bs n).length = n
  | 0 => rfl
  | n + 1 => by simp [words64, words64_len bs n]

theorem ext64_len : ∀ n s, (ext64 n s).length = s.length + n
  | 0, s => rfl
  | n + 1, s => by simp [ext64, ext64_len n]; omega

theorem comp64_len (C H bs : List Int) : (comp64 C H bs).length = 8 := by simp [comp64, sum8w]

theorem comps64_len (C : List Int) : ∀ (n : Nat) (H bs : List Int), H.length = 8 → (comps64 C n H bs).length = 8
  | 0, _, _, h => h
  | n + 1, H, bs, _ => comps64_len C n _ _ (comp64_len C H bs)

theorem sh8_eq {v x : Int} (hx : InK .u8 x) : sh8 v x = (v * 256 + x) % 18446744073709551616 := by
  obtain ⟨b, rfl, hb⟩ := hx.nat
  have hb : b < 256 := hb
  unfold sh8
  have e1 : IntKind.u64.wrap (b : Int) = (b : Int) := by rw [IntKind.wrap_u64]; omega
  obtain ⟨q, hq⟩ : ∃ q : Nat, (v % 72057594037927936) = (q : Int) := Int.eq_ofNat_of_zero_le (Int.emod_nonneg _ (by decide))
  have hq2 : q < 72057594037927936 := by omega
  have e2 : IntKind.u64.wrap (v * 2 ^ 8) = ((q * 256 : Nat) : Int) := by
    rw [IntKind.wrap_u64]
    have : (v * 2 ^ 8 : Int) = v * 256 := rfl
    rw [this]
    omega
  rw [e1, e2, (bits_nats (k := .u64) rfl (show q * 256 < 2 ^ 64 by omega) (show b < 2 ^ 64 by omega)).2.1]
  have e3 : q * 256 ||| b = q * 256 + b := by
    rw [Nat.mul_comm]
    exact (Nat.two_pow_add_eq_or_of_lt (i := 8) hb q).symm
  rw [e3]
  omega

/-- eight bytes behind whatever word -/
theorem word64_any {bs : List Int} (h : ∀ i, InK .u8 (bs.getD i 0)) (v : Int) (o : Nat) : word64 v bs o 8 = word64 0 bs o 8 := by
  simp only [word64, sh8_eq (h _)]
  omega

end Go.Sha

/- A digest that is fed part by part, on lists; nothing of a program stands here. -/
namespace Go.Sha
open Go.Fw

def narrowB (h : Int) : Bool := h == 224 || h == 256
/-- bytes of a block -/
def blk (h : Int) : Nat := if narrowB h = true then 64 else 128

theorem blk_pos (h : Int) : 0 < blk h := by unfold blk; split <;> decide
theorem blk_le (h : Int) : blk h ≤ 128 := by unfold blk; split <;> decide

def compH (h : Int) (C H bs : List Int) : List Int := if narrowB h = true then comp32 C H bs else comp64 C H bs
def compsH (h : Int) (C : List Int) (n : Nat) (H bs : List Int) : List Int := if narrowB h = true then comps32 C n H bs else comps64 C n H bs

theorem compsH_zero (h : Int) (C H bs : List Int) : compsH h C 0 H bs = H := by unfold compsH; split <;> rfl
theorem compsH_succ (h : Int) (C : List Int) (n : Nat) (H bs : List Int) : compsH h C (n + 1) H bs = compsH h C n (compH h C H bs) (bs.drop (blk h)) := by
  unfold compsH compH blk; split <;> rfl
theorem compsH_len (h : Int) (C : List Int) (n : Nat) (H bs : List Int) (hH : H.length = 8) : (compsH h C n H bs).length = 8 := by
  unfold compsH; split
  · exact comps32_len C n H bs hH
  · exact comps64_len C n H bs hH

theorem words32_front {bs : List Int} (k : Nat) (hk : 64 ≤ k) : ∀ n, n ≤ 16 → words32 (bs.take k) n = words32 bs n
  | 0, _ => rfl
  | n + 1, hn => by
    have g : ∀ q, q < 64 → (bs.take k).getD q 0 = bs.getD q 0 := fun q hq => by
      simp [List.getD_eq_getElem?_getD, List.getElem?_take, show q < k by omega]
    simp only [words32]
    rw [words32_front k hk n (by omega), g _ (by omega), g _ (by omega), g _ (by omega), g _ (by omega)]

theorem word64_front {bs : List Int} (k : Nat) (v : Int) (o : Nat) : ∀ n, o + n ≤ k → word64 v (bs.take k) o n = word64 v bs o n
  | 0, _ => rfl
  | n + 1, hn => by
    simp only [word64]
    rw [word64_front k v o n (by omega)]
    congr 1
    simp [List.getD_eq_getElem?_getD, List.getElem?_take, show o + n < k by omega]

theorem words64_front {bs : List Int} (k : Nat) (hk : 128 ≤ k) : ∀ n, n ≤ 16 → words64 (bs.take k) n = words64 bs n
  | 0, _ => rfl
  | n + 1, hn => by
    simp only [words64]
    rw [words64_front k hk n (by omega), word64_front k 0 (8 * n) 8 (by omega)]

/-- of a list the first block alone counts -/
theorem compH_front (h : Int) (C H bs : List Int) (k : Nat) (hk : blk h ≤ k) : compH h C H (bs.take k) = compH h C H bs := by
  unfold compH blk at *
  split
  · rename_i hn
    rw [if_pos hn] at hk
    unfold comp32 rv32
    rw [words32_front k hk 16 (Nat.le_refl _)]
  · rename_i hn
    rw [if_neg hn] at hk
    unfold comp64 rv64
    rw [words64_front k hk 16 (Nat.le_refl _)]

theorem compsH_front (h : Int) (C : List Int) : ∀ (n : Nat) (H bs : List Int) (k : Nat), n * blk h ≤ k → compsH h C n H (bs.take k) = compsH h C n H bs
  | 0, H, bs, k, _ => by rw [compsH_zero, compsH_zero]
  | n + 1, H, bs, k, hk => by
    have h1 : (n + 1) * blk h = n * blk h + blk h := Nat.succ_mul n _
    rw [compsH_succ, compsH_succ, compH_front h C H bs k (by omega), List.drop_take, compsH_front h C n _ _ (k - blk h) (by omega)]

theorem compsH_add (h : Int) (C : List Int) : ∀ (n m : Nat) (H bs : List Int), compsH h C (n + m) H bs = compsH h C m (compsH h C n H bs) (bs.drop (n * blk h))
  | 0, m, H, bs => by rw [compsH_zero, Nat.zero_add, Nat.zero_mul, List.drop_zero]
  | n + 1, m, H, bs => by
    rw [show n + 1 + m = (n + m) + 1 by omega, compsH_succ, compsH_succ, compsH_add h C n m, List.drop_drop, Nat.succ_mul, Nat.add_comm (blk h)]

/-- what is held of what was fed -/
structure Fed (h : Int) (C H0 xs : List Int) (H half : List Int) : Prop where
  words : H = compsH h C (xs.length / blk h) H0 xs
  held : half.take (xs.length % blk h) = xs.drop (xs.length / blk h * blk h)
  len : half.length = 128

theorem Fed.start (h : Int) (C H0 : List Int) : Fed h C H0 [] H0 (List.replicate 128 0) := by
  refine ⟨?_, ?_, by simp⟩
  · simp [compsH_zero]
  · simp

/-- bytes written over a list -/
def over (l : List Int) (o : Nat) (ys : List Int) : List Int := l.take o ++ ys ++ l.drop (o + ys.length)

theorem over_len {l ys : List Int} {o : Nat} (h : o + ys.length ≤ l.length) : (over l o ys).length = l.length := by
  simp [over]; omega

theorem over_front {l ys : List Int} {o : Nat} (h : o + ys.length ≤ l.length) : (over l o ys).take (o + ys.length) = l.take o ++ ys := by
  unfold over
  rw [List.take_append_of_le_length (by simp; omega), List.take_of_length_le (by simp; omega)]

theorem div_add_lt {n m b : Nat} (hb : 0 < b) (h : n % b + m < b) : (n + m) / b = n / b ∧ (n + m) % b = n % b + m := by
  have h1 := Nat.div_add_mod n b
  have h2 : n + m = n % b + m + b * (n / b) := by omega
  constructor
  · rw [h2, Nat.add_mul_div_left _ _ hb, Nat.div_eq_of_lt h, Nat.zero_add]
  · rw [h2, Nat.add_mul_mod_self_left, Nat.mod_eq_of_lt h]

/-- fed less than what fills a block -/
theorem Fed.less {h : Int} {C H0 xs H half ys : List Int} (f : Fed h C H0 xs H half) (hl : xs.length % blk h + ys.length < blk h) : Fed h C H0 (xs ++ ys) H (over half (xs.length % blk h) ys) := by
  have hb := blk_le h
  obtain ⟨d1, d2⟩ := div_add_lt (blk_pos h) hl
  have hle : xs.length / blk h * blk h ≤ xs.length := Nat.div_mul_le_self _ _
  refine ⟨?_, ?_, by rw [over_len (by rw [f.len]; omega)]; exact f.len⟩
  · rw [List.length_append, d1, f.words]
    have := compsH_front h C (xs.length / blk h) H0 (xs ++ ys) xs.length hle
    rw [List.take_left] at this
    exact this
  · rw [List.length_append, d1, d2, over_front (by rw [f.len]; omega), f.held, List.drop_append_of_le_length hle]

/-- a block is filled, and taken -/
theorem Fed.fill {h : Int} {C H0 xs H half ys : List Int} (f : Fed h C H0 xs H half) (hl : xs.length % blk h + ys.length = blk h) :
    Fed h C H0 (xs ++ ys) (compsH h C 1 H ((over half (xs.length % blk h) ys).take (blk h))) (over half (xs.length % blk h) ys) := by
  have hb := blk_le h
  have hp := blk_pos h
  have h1 := Nat.div_add_mod xs.length (blk h)
  have h2 : xs.length + ys.length = (xs.length / blk h + 1) * blk h := by rw [Nat.succ_mul, Nat.mul_comm]; omega
  have d1 : (xs.length + ys.length) / blk h = xs.length / blk h + 1 := by rw [h2]; exact Nat.mul_div_cancel _ hp
  have d2 : (xs.length + ys.length) % blk h = 0 := by rw [h2]; exact Nat.mul_mod_left _ _
  have hle : xs.length / blk h * blk h ≤ xs.length := Nat.div_mul_le_self _ _
  refine ⟨?_, ?_, by rw [over_len (by rw [f.len]; omega)]; exact f.len⟩
  · rw [List.length_append, d1, compsH_add, f.words]
    have e1 := compsH_front h C (xs.length / blk h) H0 (xs ++ ys) xs.length hle
    rw [List.take_left] at e1
    rw [← e1]
    congr 1
    have e2 := over_front (l := half) (ys := ys) (o := xs.length % blk h) (by rw [f.len]; omega)
    rw [hl] at e2
    rw [e2, f.held, List.drop_append_of_le_length hle]
  · rw [List.length_append, d1, d2]
    simp
    omega

/-- whole blocks are taken, what is left is held; nothing was held -/
theorem Fed.whole {h : Int} {C H0 xs H half ys : List Int} (f : Fed h C H0 xs H half) (hz : xs.length % blk h = 0) :
    Fed h C H0 (xs ++ ys) (compsH h C (ys.length / blk h) H (ys.take (ys.length / blk h * blk h))) (over half 0 (ys.drop (ys.length / blk h * blk h))) := by
  have hb := blk_le h
  have hp := blk_pos h
  have h1 := Nat.div_add_mod xs.length (blk h)
  have hx : xs.length = xs.length / blk h * blk h := by rw [Nat.mul_comm]; omega
  have d1 : (xs.length + ys.length) / blk h = xs.length / blk h + ys.length / blk h := by
    have : xs.length + ys.length = ys.length + blk h * (xs.length / blk h) := by omega
    rw [this, Nat.add_mul_div_left _ _ hp, Nat.add_comm]
  have d2 : (xs.length + ys.length) % blk h = ys.length % blk h := by
    have : xs.length + ys.length = ys.length + blk h * (xs.length / blk h) := by omega
    rw [this, Nat.add_mul_mod_self_left]
  have hyl := Nat.div_add_mod ys.length (blk h)
  have hym := Nat.mod_lt ys.length hp
  have hyle : ys.length / blk h * blk h ≤ ys.length := Nat.div_mul_le_self _ _
  have hrl : (ys.drop (ys.length / blk h * blk h)).length = ys.length % blk h := by
    rw [List.length_drop]
    have : blk h * (ys.length / blk h) = ys.length / blk h * blk h := Nat.mul_comm _ _
    omega
  refine ⟨?_, ?_, by rw [over_len (by rw [hrl, f.len]; omega)]; exact f.len⟩
  · rw [List.length_append, d1, compsH_add, f.words]
    have e1 := compsH_front h C (xs.length / blk h) H0 (xs ++ ys) xs.length (by omega)
    rw [List.take_left] at e1
    rw [← e1, compsH_front h C _ _ ys _ (Nat.le_refl _)]
    congr 1
    rw [← hx, List.drop_left]
  · rw [List.length_append, d1, d2]
    have := over_front (l := half) (ys := ys.drop (ys.length / blk h * blk h)) (o := 0) (by rw [hrl, f.len]; omega)
    rw [hrl, Nat.zero_add] at this
    rw [this, List.take_zero, List.nil_append, Nat.add_mul, ← hx, List.drop_append]
    simp

end Go.Sha

/- 'or' for 'xor' where no bit is in both, and where two of three decide; sums in another order; nothing of a program stands here. -/
namespace Go.Sha
open Go.Fw

theorem bits_bv {k : IntKind} (hs : k.signed = false) (x y : Int) :
    bits .and k x y = (((BitVec.ofInt k.bits x &&& BitVec.ofInt k.bits y).toNat : Nat) : Int) ∧ bits .or k x y = (((BitVec.ofInt k.bits x ||| BitVec.ofInt k.bits y).toNat : Nat) : Int) ∧
    bits .xor k x y = (((BitVec.ofInt k.bits x ^^^ BitVec.ofInt k.bits y).toNat : Nat) : Int) :=
  ⟨wrap_nat hs _ (BitVec.isLt _), wrap_nat hs _ (BitVec.isLt _), wrap_nat hs _ (BitVec.isLt _)⟩

theorem bv_of {n : Nat} (v : BitVec n) : BitVec.ofInt n ((v.toNat : Nat) : Int) = v := by
  rw [BitVec.ofInt_natCast]
  apply BitVec.eq_of_toNat_eq
  simp

theorem bv_all {n : Nat} : BitVec.ofInt n ((2 ^ n - 1 : Nat) : Int) = BitVec.allOnes n := by
  rw [BitVec.ofInt_natCast]
  apply BitVec.eq_of_toNat_eq
  simp [BitVec.toNat_allOnes]

theorem or_comm_bits {k : IntKind} (hs : k.signed = false) (x y : Int) : bits .or k x y = bits .or k y x := by
  rw [(bits_bv hs x y).2.1, (bits_bv hs y x).2.1, BitVec.or_comm]

theorem ch_or {k : IntKind} (hs : k.signed = false) (m : Int) (hm : BitVec.ofInt k.bits m = BitVec.allOnes k.bits) (e f g : Int) :
    bits .or k (bits .and k e f) (bits .and k (bits .xor k m e) g) = bits .xor k (bits .and k e f) (bits .and k (bits .xor k m e) g) := by
  rw [(bits_bv hs _ _).2.1, (bits_bv hs (bits .and k e f) _).2.2, (bits_bv hs e f).1, (bits_bv hs (bits .xor k m e) g).1, (bits_bv hs m e).2.2]
  simp only [bv_of, hm]
  congr 2
  apply BitVec.eq_of_getLsbD_eq
  intro i hi
  simp only [BitVec.getLsbD_or, BitVec.getLsbD_and, BitVec.getLsbD_xor, BitVec.getLsbD_allOnes, hi, decide_true]
  cases (BitVec.ofInt k.bits e).getLsbD i <;> cases (BitVec.ofInt k.bits f).getLsbD i <;> cases (BitVec.ofInt k.bits g).getLsbD i <;> rfl

theorem maj_or {k : IntKind} (hs : k.signed = false) (a b c : Int) :
    bits .or k (bits .or k (bits .and k a b) (bits .and k a c)) (bits .and k b c) = bits .xor k (bits .xor k (bits .and k a b) (bits .and k a c)) (bits .and k b c) := by
  rw [(bits_bv hs _ _).2.1, (bits_bv hs (bits .and k a b) (bits .and k a c)).2.1, (bits_bv hs (bits .xor k _ _) _).2.2, (bits_bv hs (bits .and k a b) (bits .and k a c)).2.2, (bits_bv hs a b).1, (bits_bv hs a c).1, (bits_bv hs b c).1]
  simp only [bv_of]
  congr 2
  apply BitVec.eq_of_getLsbD_eq
  intro i hi
  simp only [BitVec.getLsbD_or, BitVec.getLsbD_and, BitVec.getLsbD_xor]
  cases (BitVec.ofInt k.bits a).getLsbD i <;> cases (BitVec.ofInt k.bits b).getLsbD i <;> cases (BitVec.ofInt k.bits c).getLsbD i <;> rfl

theorem all32 : BitVec.ofInt IntKind.u32.bits IntKind.u32.max = BitVec.allOnes IntKind.u32.bits := by decide +kernel
theorem all64 : BitVec.ofInt IntKind.u64.bits IntKind.u64.max = BitVec.allOnes IntKind.u64.bits := by decide +kernel

theorem rr32_or (x : Int) (n : Nat) : bits .or .u32 (Int.fdiv x (2 ^ n)) (IntKind.u32.wrap (x * 2 ^ (32 - n))) = rr32 x n := or_comm_bits rfl _ _
theorem rr64_or (x : Int) (n : Nat) : bits .or .u64 (Int.fdiv x (2 ^ n)) (IntKind.u64.wrap (x * 2 ^ (64 - n))) = rr64 x n := or_comm_bits rfl _ _

theorem sch32_ref (x y w16 w7 : Int) :
    IntKind.u32.wrap ((IntKind.u32.wrap ((IntKind.u32.wrap ((bits .xor .u32 (bits .xor .u32 (rr32 y 17) (rr32 y 19)) (Int.fdiv y (2 ^ 10))) + w7)) + (bits .xor .u32 (bits .xor .u32 (rr32 x 7) (rr32 x 18)) (Int.fdiv x (2 ^ 3))))) + w16) = sch32 x y w16 w7 := by
  unfold sch32
  simp only [IntKind.wrap_u32]
  omega
theorem sch64_ref (x y w16 w7 : Int) :
    IntKind.u64.wrap ((IntKind.u64.wrap ((IntKind.u64.wrap ((bits .xor .u64 (bits .xor .u64 (rr64 y 19) (rr64 y 61)) (Int.fdiv y (2 ^ 6))) + w7)) + (bits .xor .u64 (bits .xor .u64 (rr64 x 1) (rr64 x 8)) (Int.fdiv x (2 ^ 7))))) + w16) = sch64 x y w16 w7 := by
  unfold sch64
  simp only [IntKind.wrap_u64]
  omega

end Go.Sha

/- Package digest: narrow takes blocks: what it computes. -/
set_option linter.unusedVariables false
namespace Go.Sh
open Go.Fw Go.Sha Go.RowKit Go.Proofs.Tryd

theorem neg_and31 : ∀ n : Nat, n < 32 → 0 < n → bits .and .u64 (IntKind.u64.wrap (-(n : Int))) 31 = ((32 - n : Nat) : Int) := by decide +kernel

theorem RL32 (x : Int) {n : Nat} (h0 : 0 < n) (h1 : n < 32) : bits_RotateLeft32 x (-(n : Int)) = some (rr32 x n, ()) := by
  have e1 := neg_and31 n h1 h0
  have e2 : IntKind.u64.wrap (32 - ((32 - n : Nat) : Int)) = (n : Int) := by rw [IntKind.wrap_u64]; omega
  have m1 : min (32 - n) IntKind.u32.bits = 32 - n := Nat.min_eq_left (by simp only [IntKind.bits]; omega)
  have m2 : min n IntKind.u32.bits = n := Nat.min_eq_left (by simp only [IntKind.bits]; omega)
  unfold bits_RotateLeft32
  rw [e1, e2]
  simp only [Int.toNat_natCast, m1, m2, Int.natCast_nonneg, if_true, rr32]

theorem add_add (p : Addr) (a b : Nat) : (p.add a).add b = p.add (a + b) := by
  unfold Addr.add
  by_cases h1 : a = 0 <;> by_cases h2 : b = 0 <;> simp [h1, h2, Nat.add_assoc]

theorem rdD {κ : IntKind} {w : World} {s : Sl} {zs : List Int} (h : RdS κ w s zs) : ∃ p, (zs ≠ [] → s.a = some p) ∧ ∀ i, i < zs.length → ldI κ (p.add i) w = some (zs.getD i 0) := by
  obtain ⟨p, h1, h2⟩ := h.ld
  refine ⟨p, h1, fun i hi => ?_⟩
  rw [h2 i hi, List.getD_eq_getElem?_getD, List.getElem?_eq_getElem hi]; rfl

/-- the row of a block's cells from its front on -/
theorem row_front {κ : IntKind} {cs : List Value} {xs : List Int} {i : Nat} (h : cs.take xs.length = ints κ xs) (hi : i < xs.length) : cs[i]? = some (.int κ (xs.getD i 0)) := by
  have h1 : (cs.take xs.length)[i]? = (ints κ xs)[i]? := by rw [h]
  rw [List.getElem?_take, if_pos hi] at h1
  rw [h1, List.getD_eq_getElem?_getD, List.getElem?_eq_getElem hi]
  simp [ints, hi]

theorem front_set {κ : IntKind} {cs : List Value} {xs : List Int} (h : cs.take xs.length = ints κ xs) (hl : xs.length < cs.length) (x : Int) :
    (cs.set xs.length (.int κ x)).take (xs ++ [x]).length = ints κ (xs ++ [x]) := by
  rw [ints_append, ← h]
  simp only [List.length_append, List.length_cons, List.length_nil, Nat.zero_add]
  rw [List.take_add_one, List.take_set_of_le (Nat.le_refl _)]
  simp [hl]

theorem narrow_l1 (K : Nat) (h0 : Option Addr) {b : Sl} {bs : List Int} (hbl : 64 ≤ bs.length) (hlim : bs.length ≤ 140737488355328) {gw : Nat} (hne : ∀ p, b.a = some p → p.block ≠ gw) :
    ∀ (d i n : Nat) (w : World) (cs : List Value), i + d = 16 → d < n → RdS .u8 w b bs → Bk 80 w gw cs → cs.length = 64 → cs.take i = ints .u32 (words32 bs i) →
      ∃ w' cs', digest_narrow_l1 K n h0 b ⟨gw, 0, none⟩ (i : Int) w = some ((), w') ∧ Bk 80 w' gw cs' ∧ cs'.length = 64 ∧ cs'.take 16 = ints .u32 (words32 bs 16) ∧ Upd (· = gw) w w' := by
  intro d
  induction d with
  | zero =>
    intro i n w cs hi hn hr hb hc ht
    obtain ⟨n, rfl⟩ : ∃ m, n = m + 1 := ⟨n - 1, by omega⟩
    have : i = 16 := by omega
    subst this
    refine ⟨w, cs, ?_, hb, hc, ht, Upd.refl _ _⟩
    show digest_narrow_l1_b K (digest_narrow_l1 K n) h0 b ⟨gw, 0, none⟩ ((16 : Nat) : Int) w = _
    simp [digest_narrow_l1_b]
  | succ d ih =>
    intro i n w cs hi hn hr hb hc ht
    obtain ⟨n, rfl⟩ : ∃ m, n = m + 1 := ⟨n - 1, by omega⟩
    have hbn : bs ≠ [] := fun e => by rw [e] at hbl; simp at hbl
    obtain ⟨p, hp, hl⟩ := rdD hr.drew
    have hcap := hr.cap
    have hlen := hr.len
    have hd : decide ((i : Int) < 16) = true := by simp; omega
    have e4 : IntKind.i64.wrap (4 * (i : Int)) = ((4 * i : Nat) : Int) := by rw [w64 (by omega) (by omega)]; omega
    have e44 : IntKind.i64.wrap (((4 * i : Nat) : Int) + 4) = ((4 * i + 4 : Nat) : Int) := by rw [w64 (by omega) (by omega)]; omega
    have e1 : IntKind.i64.wrap ((i : Int) + 1) = ((i + 1 : Nat) : Int) := by rw [w64 (by omega) (by omega)]; rfl
    have c1 : (0 : Int) ≤ ((4 * i + 4 : Nat) : Int) ∧ ((4 * i + 4 : Nat) : Int) ≤ ((b.cap : Nat) : Int) := by omega
    have c2 : (0 : Int) ≤ ((4 * i : Nat) : Int) ∧ ((4 * i : Nat) : Int) ≤ ((4 * i + 4 : Nat) : Int) := by omega
    have e5 : 4 * i + 4 - 4 * i = 4 := by omega
    have hsl : sla b.a (4 * i) b.cap 1 = some (p.add (4 * i)) := by
      have : b.cap ≠ 4 * i := by omega
      simp [sla, hp hbn, this]
    have l0 := hl (4 * i) (by omega)
    have l1 := hl (4 * i + 1) (by omega)
    have l2 := hl (4 * i + 2) (by omega)
    have l3 := hl (4 * i + 3) (by omega)
    have c3 : (0 : Int) ≤ (i : Int) ∧ (i : Int) < ((64 : Nat) : Int) := by omega
    have k0 : (0 : Int) ≤ 0 ∧ (0 : Int) < ((4 : Nat) : Int) := by decide
    have k1 : (0 : Int) ≤ 1 ∧ (1 : Int) < ((4 : Nat) : Int) := by decide
    have k2 : (0 : Int) ≤ 2 ∧ (2 : Int) < ((4 : Nat) : Int) := by decide
    have k3 : (0 : Int) ≤ 3 ∧ (3 : Int) < ((4 : Nat) : Int) := by decide
    obtain ⟨w1, s1, s2, s3⟩ := hb.drew.stC (i := i) (by omega) (.int .u32 (word32 (bs.getD (4 * i) 0) (bs.getD (4 * i + 1) 0) (bs.getD (4 * i + 2) 0) (bs.getD (4 * i + 3) 0)))
    have s1' : stC ((⟨gw, 0, none⟩ : Addr).add (i * 1)) (.int .u32 (word32 (bs.getD (4 * i) 0) (bs.getD (4 * i + 1) 0) (bs.getD (4 * i + 2) 0) (bs.getD (4 * i + 3) 0))) w.drew = some w1 := by
      rw [add_lit, Nat.mul_one, Nat.zero_add]; exact s1
    have ht' : cs.take (words32 bs i).length = ints .u32 (words32 bs i) := by rw [words32_len]; exact ht
    have hfs := front_set ht' (by rw [words32_len]; omega) (word32 (bs.getD (4 * i) 0) (bs.getD (4 * i + 1) 0) (bs.getD (4 * i + 2) 0) (bs.getD (4 * i + 3) 0))
    rw [words32_len] at hfs
    have hfs' : (cs.set i (.int .u32 (word32 (bs.getD (4 * i) 0) (bs.getD (4 * i + 1) 0) (bs.getD (4 * i + 2) 0) (bs.getD (4 * i + 3) 0)))).take (i + 1) = ints .u32 (words32 bs (i + 1)) := by
      have : (words32 bs i ++ [word32 (bs.getD (4 * i) 0) (bs.getD (4 * i + 1) 0) (bs.getD (4 * i + 2) 0) (bs.getD (4 * i + 3) 0)]).length = i + 1 := by simp [words32_len]
      rw [this] at hfs; exact hfs
    obtain ⟨w2, cs2, h1, h2, h3, h4, h5⟩ := ih (i + 1) n w1 _ (by omega) (by omega) (hr.drew.upd s3 (fun q hq e => hne q hq e)) s2 (by simpa using hc) hfs'
    refine ⟨w2, cs2, ?_, h2, h3, h4, (s3.predrew).trans' h5 fun _ _ e => e⟩
    show digest_narrow_l1_b K (digest_narrow_l1 K n) h0 b ⟨gw, 0, none⟩ (i : Int) w = _
    unfold digest_narrow_l1_b
    rw [hd, if_pos rfl, e4, e44]
    simp only [Int.toNat_natCast, e5]
    rw [if_pos c1, if_pos c2, hsl]
    simp only [Option.bind_some]
    rw [if_pos k0, if_pos k1, if_pos k2, if_pos k3]
    simp only [add_add, Nat.zero_mul, Nat.one_mul, Nat.add_zero, Nat.reduceMul, l0, l1, l2, l3, Option.bind_some]
    rw [if_pos c3]
    show (stC ((⟨gw, 0, none⟩ : Addr).add (i * 1)) (.int .u32 (word32 (bs.getD (4 * i) 0) (bs.getD (4 * i + 1) 0) (bs.getD (4 * i + 2) 0) (bs.getD (4 * i + 3) 0))) w.drew).bind _ = _
    rw [s1', Option.bind_some, e1, h1]

theorem narrow_l2 (K : Nat) (h0 : Option Addr) {b : Sl} {gw : Nat} :
    ∀ (d n : Nat) (w : World) (cs : List Value) (S : List Int), S.length + d = 64 → 16 ≤ S.length → d < n → Bk 80 w gw cs → cs.length = 64 → cs.take S.length = ints .u32 S →
      ∃ w' cs', digest_narrow_l2 K n h0 b ⟨gw, 0, none⟩ ((S.length : Nat) : Int) w = some ((), w') ∧ Bk 80 w' gw cs' ∧ cs' = ints .u32 (ext32 d S) ∧ Upd (· = gw) w w' := by
  intro d
  induction d with
  | zero =>
    intro n w cs S hi h16 hn hb hc ht
    obtain ⟨n, rfl⟩ : ∃ m, n = m + 1 := ⟨n - 1, by omega⟩
    have hS : S.length = 64 := by omega
    refine ⟨w, cs, ?_, hb, ?_, Upd.refl _ _⟩
    · show digest_narrow_l2_b K (digest_narrow_l2 K n) h0 b ⟨gw, 0, none⟩ ((S.length : Nat) : Int) w = _
      rw [hS]
      simp [digest_narrow_l2_b]
    · rw [hS, List.take_of_length_le (by omega)] at ht; exact ht
  | succ d ih =>
    intro n w cs S hi h16 hn hb hc ht
    obtain ⟨n, rfl⟩ : ∃ m, n = m + 1 := ⟨n - 1, by omega⟩
    have hd : decide (((S.length : Nat) : Int) < 64) = true := by simp; omega
    have e15 : IntKind.i64.wrap (((S.length : Nat) : Int) - 15) = ((S.length - 15 : Nat) : Int) := by rw [w64 (by omega) (by omega)]; omega
    have e2 : IntKind.i64.wrap (((S.length : Nat) : Int) - 2) = ((S.length - 2 : Nat) : Int) := by rw [w64 (by omega) (by omega)]; omega
    have e16 : IntKind.i64.wrap (((S.length : Nat) : Int) - 16) = ((S.length - 16 : Nat) : Int) := by rw [w64 (by omega) (by omega)]; omega
    have e7 : IntKind.i64.wrap (((S.length : Nat) : Int) - 7) = ((S.length - 7 : Nat) : Int) := by rw [w64 (by omega) (by omega)]; omega
    have e1 : IntKind.i64.wrap (((S.length : Nat) : Int) + 1) = ((S.length + 1 : Nat) : Int) := by rw [w64 (by omega) (by omega)]; rfl
    have c15 : (0 : Int) ≤ ((S.length - 15 : Nat) : Int) ∧ ((S.length - 15 : Nat) : Int) < ((64 : Nat) : Int) := by omega
    have c2 : (0 : Int) ≤ ((S.length - 2 : Nat) : Int) ∧ ((S.length - 2 : Nat) : Int) < ((64 : Nat) : Int) := by omega
    have c16 : (0 : Int) ≤ ((S.length - 16 : Nat) : Int) ∧ ((S.length - 16 : Nat) : Int) < ((64 : Nat) : Int) := by omega
    have c7 : (0 : Int) ≤ ((S.length - 7 : Nat) : Int) ∧ ((S.length - 7 : Nat) : Int) < ((64 : Nat) : Int) := by omega
    have c0 : (0 : Int) ≤ ((S.length : Nat) : Int) ∧ ((S.length : Nat) : Int) < ((64 : Nat) : Int) := by omega
    have l15 := hb.drew.ldI (row_front ht (i := S.length - 15) (by omega))
    have l2 := hb.drew.ldI (row_front ht (i := S.length - 2) (by omega))
    have l16 := hb.drew.drew.ldI (row_front ht (i := S.length - 16) (by omega))
    have l7 := hb.drew.drew.ldI (row_front ht (i := S.length - 7) (by omega))
    have r7 := RL32 (S.getD (S.length - 15) 0) (n := 7) (by decide) (by decide)
    have r18 := RL32 (S.getD (S.length - 15) 0) (n := 18) (by decide) (by decide)
    have r17 := RL32 (S.getD (S.length - 2) 0) (n := 17) (by decide) (by decide)
    have r19 := RL32 (S.getD (S.length - 2) 0) (n := 19) (by decide) (by decide)
    have r7 : bits_RotateLeft32 (S.getD (S.length - 15) 0) (-7) = some (rr32 (S.getD (S.length - 15) 0) 7, ()) := r7
    have r18 : bits_RotateLeft32 (S.getD (S.length - 15) 0) (-18) = some (rr32 (S.getD (S.length - 15) 0) 18, ()) := r18
    have r17 : bits_RotateLeft32 (S.getD (S.length - 2) 0) (-17) = some (rr32 (S.getD (S.length - 2) 0) 17, ()) := r17
    have r19 : bits_RotateLeft32 (S.getD (S.length - 2) 0) (-19) = some (rr32 (S.getD (S.length - 2) 0) 19, ()) := r19
    let x := sch32 (S.getD (S.length - 15) 0) (S.getD (S.length - 2) 0) (S.getD (S.length - 16) 0) (S.getD (S.length - 7) 0)
    obtain ⟨w1, s1, s2, s3⟩ := hb.drew.drew.stC (i := S.length) (by omega) (.int .u32 x)
    have s1' : stC ((⟨gw, 0, none⟩ : Addr).add (S.length * 1)) (.int .u32 x) w.drew.drew = some w1 := by rw [add_lit, Nat.mul_one, Nat.zero_add]; exact s1
    have hfs := front_set ht (by omega) x
    have hSl : (S ++ [x]).length = S.length + 1 := by simp
    obtain ⟨w2, cs2, h1, h2, h3, h5⟩ := ih n w1 _ (S ++ [x]) (by rw [hSl]; omega) (by rw [hSl]; omega) (by omega) s2 (by simpa using hc) hfs
    rw [hSl] at h1
    refine ⟨w2, cs2, ?_, h2, by rw [h3]; rfl, (s3.predrew.predrew).trans' h5 fun _ _ e => e⟩
    show digest_narrow_l2_b K (digest_narrow_l2 K n) h0 b ⟨gw, 0, none⟩ ((S.length : Nat) : Int) w = _
    unfold digest_narrow_l2_b
    rw [hd, if_pos rfl, e15, e2, e16, e7]
    simp only [Int.toNat_natCast]
    rw [if_pos c15, if_pos c2]
    simp only [add_lit, Nat.mul_one, Nat.zero_add]
    rw [l15, Option.bind_some, l2, Option.bind_some, if_pos c16, if_pos c7, l16, Option.bind_some, l7, Option.bind_some, r7, Option.bind_some, r18, Option.bind_some, r17, Option.bind_some, r19, Option.bind_some, if_pos c0]
    show (stC ⟨gw, S.length, none⟩ (.int .u32 x) w.drew.drew).bind _ = _
    rw [s1, Option.bind_some, e1, h1]

/-- a row of words, eight of them, in some place of a block -/
def At (e : TypeId) (w : World) (g o : Nat) (cs : List Value) (κ : IntKind) (xs : List Int) : Prop := Bk e w g cs ∧ (cs.drop o).take xs.length = ints κ xs ∧ o + xs.length ≤ cs.length

theorem at_get {κ : IntKind} {cs : List Value} {xs : List Int} {o i : Nat} (h : (cs.drop o).take xs.length = ints κ xs) (hi : i < xs.length) : cs[o + i]? = some (.int κ (xs.getD i 0)) := by
  have := row_front h hi
  rwa [List.getElem?_drop] at this

theorem narrow_l3 (K : Nat) {gh oh gv : Nat} {b : Sl} {w4 : Addr} {eh : TypeId} {H : List Int} (hH : H.length = 8) {ch : List Value} (hne : gh ≠ gv) (hAt : (ch.drop oh).take 8 = ints .u64 H) :
    ∀ (d i n : Nat) (w : World) (cs : List Value), i + d = 8 → d < n → Bk eh w gh ch → Bk 82 w gv cs → cs.length = 8 → cs.take i = ints .u32 ((H.map IntKind.u32.wrap).take i) →
      ∃ w', digest_narrow_l3 K n (some ⟨gh, oh, none⟩) b w4 ⟨gv, 0, none⟩ (i : Int) w = some ((), w') ∧ Bk 82 w' gv (ints .u32 (H.map IntKind.u32.wrap)) ∧ Upd (· = gv) w w' := by
  intro d
  induction d with
  | zero =>
    intro i n w cs hi hn hbh hb hc ht
    obtain ⟨n, rfl⟩ : ∃ m, n = m + 1 := ⟨n - 1, by omega⟩
    have : i = 8 := by omega
    subst this
    rw [List.take_of_length_le (by omega), List.take_of_length_le (by simp [hH])] at ht
    refine ⟨w, ?_, ht ▸ hb, Upd.refl _ _⟩
    show digest_narrow_l3_b K (digest_narrow_l3 K n) (some ⟨gh, oh, none⟩) b w4 ⟨gv, 0, none⟩ ((8 : Nat) : Int) w = _
    simp [digest_narrow_l3_b]
  | succ d ih =>
    intro i n w cs hi hn hbh hb hc ht
    obtain ⟨n, rfl⟩ : ∃ m, n = m + 1 := ⟨n - 1, by omega⟩
    have hd : decide ((i : Int) < 8) = true := by simp; omega
    have e1 : IntKind.i64.wrap ((i : Int) + 1) = ((i + 1 : Nat) : Int) := by rw [w64 (by omega) (by omega)]; rfl
    have c0 : (0 : Int) ≤ (i : Int) ∧ (i : Int) < ((8 : Nat) : Int) := by omega
    have hAt' : (ch.drop oh).take H.length = ints .u64 H := by rw [hH]; exact hAt
    have l0 := hbh.ldI (at_get hAt' (i := i) (by omega))
    obtain ⟨w1, s1, s2, s3⟩ := hb.stC (i := i) (by omega) (.int .u32 (IntKind.u32.wrap (H.getD i 0)))
    have hlen : ((H.map IntKind.u32.wrap).take i).length = i := by simp [hH]; omega
    have ht' : cs.take ((H.map IntKind.u32.wrap).take i).length = ints .u32 ((H.map IntKind.u32.wrap).take i) := by rw [hlen]; exact ht
    have hfs := front_set ht' (by rw [hlen]; omega) (IntKind.u32.wrap (H.getD i 0))
    have hstep : (H.map IntKind.u32.wrap).take i ++ [IntKind.u32.wrap (H.getD i 0)] = (H.map IntKind.u32.wrap).take (i + 1) := by
      have hi8 : i < H.length := by omega
      rw [List.take_add_one, List.getElem?_map, List.getElem?_eq_getElem hi8, List.getD_eq_getElem?_getD, List.getElem?_eq_getElem hi8]
      rfl
    rw [hlen, hstep] at hfs
    have hfs' : (cs.set i (.int .u32 (IntKind.u32.wrap (H.getD i 0)))).take (i + 1) = ints .u32 ((H.map IntKind.u32.wrap).take (i + 1)) := by
      have : ((H.map IntKind.u32.wrap).take (i + 1)).length = i + 1 := by simp [hH]; omega
      rw [this] at hfs; exact hfs
    obtain ⟨w2, h1, h2, h3⟩ := ih (i + 1) n w1 _ (by omega) (by omega) (hbh.upd s3 hne) s2 (by simpa using hc) hfs'
    refine ⟨w2, ?_, h2, s3.trans' h3 fun _ _ e => e⟩
    show digest_narrow_l3_b K (digest_narrow_l3 K n) (some ⟨gh, oh, none⟩) b w4 ⟨gv, 0, none⟩ (i : Int) w = _
    unfold digest_narrow_l3_b
    rw [hd, if_pos rfl, Option.bind_some, if_pos c0]
    simp only [Int.toNat_natCast, add_lit, Nat.mul_one, Nat.zero_add]
    rw [l0, Option.bind_some, if_pos c0, s1, Option.bind_some, e1, h1]

theorem narrow_l4 (K : Nat) {h0 : Option Addr} {b : Sl} {gw : Nat} {v10 : Addr} {W C : List Int} (hW : W.length = 64) (hC : C.length = 80) :
    ∀ (m i n : Nat) (w : World) (a b1 c d e f g k : Int), i + m = 64 → m < n → Bk 80 w gw (ints .u32 W) → Rd w ⟨0, 0, none⟩ (ints .u64 C) →
      ∃ w', digest_narrow_l4 K n h0 b ⟨gw, 0, none⟩ v10 a b1 c d e f g k (i : Int) w = some (rounds32 W C m i a b1 c d e f g k, w') ∧ Upd none_ w w' := by
  intro m
  induction m with
  | zero =>
    intro i n w a b1 c d e f g k hi hn hb hr
    obtain ⟨n, rfl⟩ : ∃ m, n = m + 1 := ⟨n - 1, by omega⟩
    have : i = 64 := by omega
    subst this
    refine ⟨w, ?_, Upd.refl _ _⟩
    show digest_narrow_l4_b K (digest_narrow_l4 K n) h0 b ⟨gw, 0, none⟩ v10 a b1 c d e f g k ((64 : Nat) : Int) w = _
    simp [digest_narrow_l4_b, rounds32]
  | succ m ih =>
    intro i n w a b1 c d e f g k hi hn hb hr
    obtain ⟨n, rfl⟩ : ∃ m, n = m + 1 := ⟨n - 1, by omega⟩
    have hd : decide ((i : Int) < 64) = true := by simp; omega
    have e1 : IntKind.i64.wrap ((i : Int) + 1) = ((i + 1 : Nat) : Int) := by rw [w64 (by omega) (by omega)]; rfl
    have c80 : (0 : Int) ≤ (i : Int) ∧ (i : Int) < ((80 : Nat) : Int) := by omega
    have c64 : (0 : Int) ≤ (i : Int) ∧ (i : Int) < ((64 : Nat) : Int) := by omega
    have l0 : ldI .u64 ⟨0, i, none⟩ w = some (C.getD i 0) := by
      have := hr i (.int .u64 (C.getD i 0)) (by simp [ints, List.getD_eq_getElem?_getD, show i < C.length by omega])
      rw [add_lit, Nat.zero_add] at this
      simp [ldI, this, asI]
    have l1 : ldI .u32 ⟨gw, i, none⟩ w.drew = some (W.getD i 0) := hb.drew.ldI (by simp [ints, List.getD_eq_getElem?_getD, show i < W.length by omega])
    have r6 : bits_RotateLeft32 e (-6) = some (rr32 e 6, ()) := RL32 e (n := 6) (by decide) (by decide)
    have r11 : bits_RotateLeft32 e (-11) = some (rr32 e 11, ()) := RL32 e (n := 11) (by decide) (by decide)
    have r25 : bits_RotateLeft32 e (-25) = some (rr32 e 25, ()) := RL32 e (n := 25) (by decide) (by decide)
    have r2 : bits_RotateLeft32 a (-2) = some (rr32 a 2, ()) := RL32 a (n := 2) (by decide) (by decide)
    have r13 : bits_RotateLeft32 a (-13) = some (rr32 a 13, ()) := RL32 a (n := 13) (by decide) (by decide)
    have r22 : bits_RotateLeft32 a (-22) = some (rr32 a 22, ()) := RL32 a (n := 22) (by decide) (by decide)
    obtain ⟨w1, h1, h2⟩ := ih (i + 1) n w.drew (IntKind.u32.wrap (t1_32 e f g k (IntKind.u32.wrap (Int.fdiv (C.getD i 0) (2 ^ 32))) (W.getD i 0) + t2_32 a b1 c)) a b1 c
      (IntKind.u32.wrap (d + t1_32 e f g k (IntKind.u32.wrap (Int.fdiv (C.getD i 0) (2 ^ 32))) (W.getD i 0))) e f g (by omega) (by omega) hb.drew (hr.upd (S := none_) (Upd.refl _ _).drew fun _ => id)
    refine ⟨w1, ?_, h2.predrew⟩
    show digest_narrow_l4_b K (digest_narrow_l4 K n) h0 b ⟨gw, 0, none⟩ v10 a b1 c d e f g k (i : Int) w = _
    unfold digest_narrow_l4_b
    rw [hd, if_pos rfl, if_pos c80]
    simp only [Int.toNat_natCast, add_lit, Nat.mul_one, Nat.zero_add]
    rw [l0, Option.bind_some, if_pos c64, r6, Option.bind_some, r11, Option.bind_some, r25, Option.bind_some, l1, Option.bind_some, r2, Option.bind_some, r13, Option.bind_some, r22, Option.bind_some, e1]
    exact h1

theorem built82 (x0 x1 x2 x3 x4 x5 x6 x7 : Int) : prog.built 82 [(0, (.int .u32 x0)), (1, (.int .u32 x1)), (2, (.int .u32 x2)), (3, (.int .u32 x3)), (4, (.int .u32 x4)), (5, (.int .u32 x5)), (6, (.int .u32 x6)), (7, (.int .u32 x7))] =
    some (ints .u32 [x0, x1, x2, x3, x4, x5, x6, x7]).toArray := by kernel_rfl

theorem seg_snoc {cs vs : List Value} {o : Nat} (h : o + vs.length < cs.length) (v : Value) : (seg cs o vs).set (o + vs.length) v = seg cs o (vs ++ [v]) := by
  apply List.ext_getElem?
  intro i
  rw [List.getElem?_set, seg_length (by omega), seg_get (by omega), seg_get (by simp; omega)]
  simp only [List.length_append, List.length_cons, List.length_nil, Nat.zero_add]
  by_cases h1 : o + vs.length = i
  · subst h1
    rw [if_pos rfl, if_pos h, if_neg (by omega), if_pos (by omega)]
    simp
  · rw [if_neg h1]
    by_cases h2 : i < o
    · simp [h2]
    · rw [if_neg h2, if_neg h2]
      by_cases h3 : i < o + vs.length
      · rw [if_pos h3, if_pos (by omega), List.getElem?_append_left (by omega)]
      · rw [if_neg h3, if_neg (by omega)]

theorem seg_nil (cs : List Value) (o : Nat) : seg cs o [] = cs := by simp [seg]

theorem narrow_l5 (K : Nat) {gh oh gv : Nat} {b : Sl} {w4 : Addr} {eh : TypeId} {v x : List Int} (hv : v.length = 8) (hx : x.length = 8) {ch : List Value} (hne : gh ≠ gv) (hch : oh + 8 ≤ ch.length) :
    ∀ (d i n : Nat) (w : World), i + d = 8 → d < n → Bk eh w gh (seg ch oh (ints .u64 ((sum8 v x).take i))) → Bk 82 w gv (ints .u32 v) →
      ∃ w', digest_narrow_l5 K n (some ⟨gh, oh, none⟩) b w4 ⟨gv, 0, none⟩ (ints .u32 x).toArray (i : Int) w = some ((), w') ∧
        Bk eh w' gh (seg ch oh (ints .u64 (sum8 v x))) ∧ Upd (· = gh) w w' := by
  intro d
  induction d with
  | zero =>
    intro i n w hi hn hb hbv
    obtain ⟨n, rfl⟩ : ∃ m, n = m + 1 := ⟨n - 1, by omega⟩
    have : i = 8 := by omega
    subst this
    rw [List.take_of_length_le (by simp [sum8])] at hb
    refine ⟨w, ?_, hb, Upd.refl _ _⟩
    show digest_narrow_l5_b K (digest_narrow_l5 K n) (some ⟨gh, oh, none⟩) b w4 ⟨gv, 0, none⟩ (ints .u32 x).toArray ((8 : Nat) : Int) w = _
    simp [digest_narrow_l5_b]
  | succ d ih =>
    intro i n w hi hn hb hbv
    obtain ⟨n, rfl⟩ : ∃ m, n = m + 1 := ⟨n - 1, by omega⟩
    have hd : decide ((i : Int) < 8) = true := by simp; omega
    have e1 : IntKind.i64.wrap ((i : Int) + 1) = ((i + 1 : Nat) : Int) := by rw [w64 (by omega) (by omega)]; rfl
    have c0 : (0 : Int) ≤ (i : Int) ∧ (i : Int) < ((8 : Nat) : Int) := by omega
    have hxi : i < x.length := by omega
    have hvi : i < v.length := by omega
    have hg : (ints .u32 x).toArray[i]? = some (.int .u32 (x.getD i 0)) := by
      rw [List.getElem?_toArray]; simp [ints, List.getD_eq_getElem?_getD, hxi]
    have l0 : ldI .u32 ⟨gv, i, none⟩ w.drew = some (v.getD i 0) := hbv.drew.ldI (by simp [ints, List.getD_eq_getElem?_getD, hvi])
    let out := sum8 v x
    have hol : (ints .u64 (out.take i)).length = i := by simp [ints, out, sum8]; omega
    have hsl : (seg ch oh (ints .u64 (out.take i))).length = ch.length := seg_length (by rw [hol]; omega)
    obtain ⟨w1, s1, s2, s3⟩ := hb.drew.stC (i := oh + i) (by rw [hsl]; omega) (.int .u64 (IntKind.u64.wrap (IntKind.u32.wrap (v.getD i 0 + x.getD i 0))))
    have hstep : (seg ch oh (ints .u64 (out.take i))).set (oh + i) (.int .u64 (IntKind.u64.wrap (IntKind.u32.wrap (v.getD i 0 + x.getD i 0)))) = seg ch oh (ints .u64 (out.take (i + 1))) := by
      have h1 := seg_snoc (cs := ch) (vs := ints .u64 (out.take i)) (o := oh) (by rw [hol]; omega) (.int .u64 (IntKind.u64.wrap (IntKind.u32.wrap (v.getD i 0 + x.getD i 0))))
      rw [hol] at h1
      rw [h1]
      congr 1
      rw [List.take_add_one, ints_append]
      congr 1
      have : out[i]? = some (IntKind.u64.wrap (IntKind.u32.wrap (v.getD i 0 + x.getD i 0))) := by
        simp only [out, sum8, List.getElem?_map, List.getElem?_range (show i < 8 by omega)]; rfl
      rw [this]; rfl
    rw [hstep] at s2
    obtain ⟨w2, h1, h2, h3⟩ := ih (i + 1) n w1 (by omega) (by omega) s2 (hbv.drew.upd s3 (fun e => hne e.symm))
    refine ⟨w2, ?_, h2, s3.predrew.trans' h3 fun _ _ e => e⟩
    show digest_narrow_l5_b K (digest_narrow_l5 K n) (some ⟨gh, oh, none⟩) b w4 ⟨gv, 0, none⟩ (ints .u32 x).toArray (i : Int) w = _
    unfold digest_narrow_l5_b
    rw [hd, if_pos rfl, if_pos c0]
    simp only [Int.toNat_natCast, add_lit, Nat.mul_one, Nat.zero_add]
    rw [hg, Option.bind_some]
    simp only [asI, if_true, Option.bind_some]
    rw [if_pos c0, l0, Option.bind_some, if_pos c0, add_lit, s1, Option.bind_some, e1, h1]

/-- ONE BLOCK: of a slice of at least 64 bytes that lies in another block than the words, or whose bytes do. -/
theorem narrow_block {K : Nat} (hK : 18446744073709551616 ≤ K) (rec : Option Addr → Sl → Addr → World → Option (Unit × World)) {gh oh gw : Nat} {b : Sl} {eh : TypeId} {bs H C : List Int} (hH : H.length = 8) (hC : C.length = 80) {ch : List Value}
    (hbl : 64 ≤ bs.length) (hlim : bs.length ≤ 140737488355328) (hbw : ∀ p, b.a = some p → p.block ≠ gw) (hhw : gh ≠ gw) (hch : oh + 8 ≤ ch.length) (hAt : (ch.drop oh).take 8 = ints .u64 H)
    {w : World} {cw : List Value} (hr : RdS .u8 w b bs) (hbh : Bk eh w gh ch) (hb : Bk 80 w gw cw) (hcw : cw.length = 64) (hT : Rd w ⟨0, 0, none⟩ (ints .u64 C)) (hg2 : gw ≠ 0) :
    ∃ w' cw', digest_narrow_l0_b K rec (some ⟨gh, oh, none⟩) b ⟨gw, 0, none⟩ w = rec (some ⟨gh, oh, none⟩) ⟨sla b.a 64 b.cap 1, b.len - 64, b.cap - 64⟩ ⟨gw, 0, none⟩ w' ∧
      Bk eh w' gh (seg ch oh (ints .u64 (comp32 C H bs))) ∧ Bk 80 w' gw cw' ∧ cw'.length = 64 ∧ Upd (fun k => k = gh ∨ k = gw) w w' := by
  obtain ⟨w1, c1, h1, b1, l1, t1, u1⟩ := narrow_l1 K (some ⟨gh, oh, none⟩) hbl hlim hbw 16 0 K w cw rfl (by omega) hr hb hcw (by simp [words32])
  have h1 : digest_narrow_l1 K K (some ⟨gh, oh, none⟩) b ⟨gw, 0, none⟩ 0 w = _ := h1
  obtain ⟨w2, c2, h2, b2, t2, u2⟩ := narrow_l2 K (some ⟨gh, oh, none⟩) (b := b) 48 K w1 c1 (words32 bs 16) (by rw [words32_len]) (by rw [words32_len]; decide) (by omega) b1 l1 (by rw [words32_len]; exact t1)
  rw [words32_len] at h2
  have h2 : digest_narrow_l2 K K (some ⟨gh, oh, none⟩) b ⟨gw, 0, none⟩ 16 w1 = _ := h2
  rw [t2] at b2
  obtain ⟨w3, n3, b3, u3, z3⟩ := newB_ok z82 82 w2
  have b3 : Bk 82 w3 w2.heap.size z82.toList := b3
  have hbh2 : Bk eh w2 gh ch := (hbh.upd u1 hhw).upd u2 hhw
  have hgv : gh ≠ w2.heap.size := fun e => by have := hbh2.lt; omega
  have hgwv : gw ≠ w2.heap.size := fun e => by have := b2.lt; omega
  obtain ⟨w4, h4, b4, u4⟩ := narrow_l3 K (b := b) (w4 := ⟨gw, 0, none⟩) hH hgv hAt 8 0 K w3 _ rfl (by omega) (hbh2.upd0 u3) b3 rfl (by simp)
  have h4 : digest_narrow_l3 K K (some ⟨gh, oh, none⟩) b ⟨gw, 0, none⟩ ⟨w2.heap.size, 0, none⟩ 0 w3 = _ := h4
  have hT4 : Rd w4 ⟨0, 0, none⟩ (ints .u64 C) := by
    have hlt := hT.lt (fun e => by have := congrArg List.length e; simp [hC] at this)
    have hlt : 0 < w.heap.size := hlt
    have := u1.size; have := u2.size
    exact (((hT.upd u1 fun _ e => hg2 e.symm).upd u2 fun _ e => hg2 e.symm).upd u3 fun _ => id).upd u4 fun _ e => (by have e : 0 = w2.heap.size := e; omega)
  have b4w : Bk 80 w4 gw (ints .u32 (ext32 48 (words32 bs 16))) := (b2.upd0 u3).upd u4 hgwv
  have hvl : (H.map IntKind.u32.wrap).length = 8 := by rw [List.length_map, hH]
  have lv : ∀ i, i < 8 → ldI .u32 ⟨w2.heap.size, i, none⟩ w4.drew = some ((H.map IntKind.u32.wrap).getD i 0) := fun i hi => b4.drew.ldI (by
    have : i < (H.map IntKind.u32.wrap).length := by omega
    rw [ints, List.getElem?_map, List.getElem?_eq_getElem this, List.getD_eq_getElem?_getD, List.getElem?_eq_getElem this]; rfl)
  have h5x := narrow_l4 K (h0 := some ⟨gh, oh, none⟩) (b := b) (v10 := ⟨w2.heap.size, 0, none⟩) (W := ext32 48 (words32 bs 16)) (by rw [ext32_len, words32_len]) hC 64 0 K w4.drew ((H.map IntKind.u32.wrap).getD 0 0) ((H.map IntKind.u32.wrap).getD 1 0) ((H.map IntKind.u32.wrap).getD 2 0) ((H.map IntKind.u32.wrap).getD 3 0) ((H.map IntKind.u32.wrap).getD 4 0) ((H.map IntKind.u32.wrap).getD 5 0) ((H.map IntKind.u32.wrap).getD 6 0) ((H.map IntKind.u32.wrap).getD 7 0) rfl (by omega) b4w.drew
    (hT4.upd (S := none_) (Upd.refl _ _).drew fun _ => id)
  obtain ⟨y, hy⟩ : ∃ y, rv32 C H bs = y := ⟨_, rfl⟩
  unfold rv32 at hy
  rw [hy] at h5x
  obtain ⟨w5, h5, u5⟩ := h5x
  have hc : comp32 C H bs = sum8 (H.map IntKind.u32.wrap) (list8 y) := by unfold comp32 rv32; rw [hy]
  rw [hc]
  have b5v := (b4.drew).upd0 u5
  have b5h : Bk eh w5 gh (seg ch oh (ints .u64 ((sum8 (H.map IntKind.u32.wrap) (list8 y)).take 0))) := by
    rw [List.take_zero]
    show Bk eh w5 gh (seg ch oh [])
    rw [seg_nil]
    exact ((((hbh2.upd0 u3).upd u4 hgv).drew).upd0 u5)
  obtain ⟨w6, h6, b6, u6⟩ := narrow_l5 K (b := b) (w4 := ⟨gw, 0, none⟩) hvl (x := list8 y) rfl hgv hch 8 0 K w5 rfl (by omega) b5h b5v
  refine ⟨w6, _, ?_, b6, ((((b4w).drew).upd0 u5)).upd u6 (fun e => hhw e.symm), by simp [ints, ext32_len, words32_len], ?_⟩
  · have hlen := hr.len
    have hd : decide (((b.len : Nat) : Int) ≥ 64) = true := by simp; omega
    have k64 : (0 : Int) ≤ 64 ∧ (64 : Int) ≤ ((b.len : Nat) : Int) := by omega
    unfold digest_narrow_l0_b
    rw [hd, if_pos rfl, h1, bnd_ok, h2, bnd_ok, n3, bnd_ok, h4, bnd_ok]
    simp only [add_lit, Nat.zero_mul, Nat.one_mul, Nat.add_zero, Nat.zero_add, Nat.reduceMul]
    rw [lv 0 (by decide), Option.bind_some, lv 1 (by decide), Option.bind_some, lv 2 (by decide), Option.bind_some, lv 3 (by decide), Option.bind_some, lv 4 (by decide), Option.bind_some, lv 5 (by decide), Option.bind_some, lv 6 (by decide), Option.bind_some, lv 7 (by decide), Option.bind_some]
    have h5' : digest_narrow_l4 K K (some ⟨gh, oh, none⟩) b ⟨gw, 0, none⟩ ⟨w2.heap.size, 0, none⟩ ((H.map IntKind.u32.wrap).getD 0 0) ((H.map IntKind.u32.wrap).getD 1 0) ((H.map IntKind.u32.wrap).getD 2 0) ((H.map IntKind.u32.wrap).getD 3 0) ((H.map IntKind.u32.wrap).getD 4 0) ((H.map IntKind.u32.wrap).getD 5 0) ((H.map IntKind.u32.wrap).getD 6 0) ((H.map IntKind.u32.wrap).getD 7 0) 0 w4.drew = some (y, w5) := h5
    have h6' : digest_narrow_l5 K K (some ⟨gh, oh, none⟩) b ⟨gw, 0, none⟩ ⟨w2.heap.size, 0, none⟩ (ints .u32 [y.1, y.2.1, y.2.2.1, y.2.2.2.1, y.2.2.2.2.1, y.2.2.2.2.2.1, y.2.2.2.2.2.2.1, y.2.2.2.2.2.2.2.1]).toArray 0 w5 = some ((), w6) := h6
    rw [h5', bnd_ok, built82, Option.bind_some, h6', bnd_ok, if_pos k64]
  · have q1 : Upd (fun k => k = gh ∨ k = gw) w w2 := (u1.trans' u2 fun _ _ e => e).mono fun _ _ e => .inr e
    have q2 : Upd (fun k => k = gh ∨ k = gw) w w4 := (q1.and0 u3).trans' u4 fun k hk e => by
      have := u1.size; have := u2.size; omega
    exact (q2.drew.and0 u5).trans' u6 fun _ _ e => .inl e

theorem seg_seg {cs a b : List Value} {o : Nat} (h : a.length = b.length) (hl : o + a.length ≤ cs.length) : seg (seg cs o a) o b = seg cs o b := by
  apply List.ext_getElem?
  intro i
  have h1 : (seg cs o a).length = cs.length := seg_length hl
  rw [seg_get (cs := seg cs o a) (by omega), seg_get (cs := cs) (vs := b) (by omega), seg_get hl]
  by_cases c1 : i < o
  · simp [c1]
  · by_cases c2 : i < o + b.length
    · simp [c1, c2]
    · simp [c1, c2, h]

theorem seg_at {cs a : List Value} {o : Nat} (hl : o + a.length ≤ cs.length) : ((seg cs o a).drop o).take a.length = a := by
  simp only [seg, List.append_assoc]
  rw [List.drop_left' (by simp; omega), List.take_left]

theorem narrow_loop {K : Nat} (hK : 18446744073709551616 ≤ K) {gh oh gw : Nat} {eh : TypeId} {C : List Int} (hC : C.length = 80) (hhw : gh ≠ gw) (hg2 : gw ≠ 0) (hg3 : gh ≠ 0) :
    ∀ (m n : Nat) (w : World) (b : Sl) (bs H : List Int) (ch cw : List Value), bs.length / 64 = m → m < n → bs.length ≤ 140737488355328 → H.length = 8 → oh + 8 ≤ ch.length → (ch.drop oh).take 8 = ints .u64 H →
      (∀ p, b.a = some p → bs ≠ [] → p.block ≠ gw) → ((∀ p, b.a = some p → p.block ≠ gh) ∨ bs.length < 128) → RdS .u8 w b bs → Bk eh w gh ch → Bk 80 w gw cw → cw.length = 64 → Rd w ⟨0, 0, none⟩ (ints .u64 C) →
      ∃ w', digest_narrow_l0 K n (some ⟨gh, oh, none⟩) b ⟨gw, 0, none⟩ w = some ((), w') ∧ Bk eh w' gh (seg ch oh (ints .u64 (comps32 C m H bs))) ∧ Upd (fun k => k = gh ∨ k = gw) w w' := by
  intro m
  induction m with
  | zero =>
    intro n w b bs H ch cw hm hn hlim hH hch hAt hbw hbh hr hb hw hcw hT
    obtain ⟨n, rfl⟩ : ∃ k, n = k + 1 := ⟨n - 1, by omega⟩
    refine ⟨w, ?_, ?_, Upd.refl _ _⟩
    · show digest_narrow_l0_b K (digest_narrow_l0 K n) (some ⟨gh, oh, none⟩) b ⟨gw, 0, none⟩ w = _
      have hd : decide (((b.len : Nat) : Int) ≥ 64) = false := by rw [hr.len]; simp; omega
      unfold digest_narrow_l0_b
      rw [hd, if_neg (by decide)]
    · have : seg ch oh (ints .u64 (comps32 C 0 H bs)) = ch := by
        show seg ch oh (ints .u64 H) = ch
        rw [← hAt]
        apply List.ext_getElem?
        intro i
        have hl : ((ch.drop oh).take 8).length = 8 := by simp; omega
        rw [seg_get (by omega), hl]
        by_cases c1 : i < oh
        · simp [c1]
        · by_cases c2 : i < oh + 8
          · rw [if_neg c1, if_pos c2, List.getElem?_take, if_pos (by omega), List.getElem?_drop]; congr 1; omega
          · rw [if_neg c1, if_neg c2]
      rw [this]; exact hb
  | succ m ih =>
    intro n w b bs H ch cw hm hn hlim hH hch hAt hbw hbh hr hb hw hcw hT
    obtain ⟨n, rfl⟩ : ∃ k, n = k + 1 := ⟨n - 1, by omega⟩
    have h64 : 64 ≤ bs.length := by omega
    have hbs : bs ≠ [] := fun e => by rw [e] at h64; simp at h64
    replace hbw : ∀ p, b.a = some p → p.block ≠ gw := fun p hp => hbw p hp hbs
    obtain ⟨w1, cw1, h1, b1, bw1, l1, u1⟩ := narrow_block hK (digest_narrow_l0 K n) hH hC h64 hlim hbw hhw hch hAt hr hb hw hcw hT hg2
    have hcl : (ints .u64 (comp32 C H bs)).length = 8 := by rw [ints_length, comp32_len]
    have hT1 := hT.upd u1 fun _ e => by rcases e with e | e; exact hg3 e.symm; exact hg2 e.symm
    have hlen := hr.len
    have hcap := hr.cap
    by_cases hz : bs.length < 128
    · -- the last one: what is left is not read
      have hm0 : m = 0 := by omega
      subst hm0
      obtain ⟨n, rfl⟩ : ∃ k, n = k + 1 := ⟨n - 1, by omega⟩
      refine ⟨w1, ?_, b1, u1⟩
      show digest_narrow_l0_b K (digest_narrow_l0 K (n + 1)) (some ⟨gh, oh, none⟩) b ⟨gw, 0, none⟩ w = _
      rw [h1]
      show digest_narrow_l0_b K (digest_narrow_l0 K n) (some ⟨gh, oh, none⟩) ⟨sla b.a 64 b.cap 1, b.len - 64, b.cap - 64⟩ ⟨gw, 0, none⟩ w1 = _
      have hd : decide (((b.len - 64 : Nat) : Int) ≥ 64) = false := by rw [hlen]; simp; omega
      unfold digest_narrow_l0_b
      rw [hd, if_neg (by decide)]
    · have hbg : ∀ p, b.a = some p → p.block ≠ gh := by
        rcases hbh with h | h
        · exact h
        · omega
      have hr1 := (hr.upd u1 fun p hp e => by rcases e with e | e; exact hbg p hp e; exact hbw p hp e).sub (lo := 64) (hi := bs.length) h64 (Nat.le_refl _)
      rw [List.take_length] at hr1
      have hblk : ∀ q, sla b.a 64 b.cap 1 = some q → ∃ p, b.a = some p ∧ q.block = p.block := by
        intro q hq
        unfold sla at hq
        split at hq
        · exact ⟨q, hq, rfl⟩
        · cases hb' : b.a with
          | none => rw [hb'] at hq; simp at hq
          | some p => rw [hb'] at hq; simp at hq; exact ⟨p, rfl, by rw [← hq]; unfold Addr.add; split <;> rfl⟩
      obtain ⟨w2, h2, b2, u2⟩ := ih n w1 ⟨sla b.a 64 b.cap 1, bs.length - 64, b.cap - 64⟩ (bs.drop 64) (comp32 C H bs) (seg ch oh (ints .u64 (comp32 C H bs))) cw1 (by simp; omega) (by omega) (by simp; omega) (comp32_len C H bs)
        (by rw [seg_length (by omega)]; exact hch) (by have := seg_at (cs := ch) (a := ints .u64 (comp32 C H bs)) (o := oh) (by omega); rwa [hcl] at this)
        (fun q hq _ => by obtain ⟨p, hp, e⟩ := hblk q hq; rw [e]; exact hbw p hp) (.inl fun q hq => by obtain ⟨p, hp, e⟩ := hblk q hq; rw [e]; exact hbg p hp) hr1 b1 bw1 l1 hT1
      refine ⟨w2, ?_, ?_, u1.trans' u2 fun _ _ e => e⟩
      · show digest_narrow_l0_b K (digest_narrow_l0 K n) (some ⟨gh, oh, none⟩) b ⟨gw, 0, none⟩ w = _
        rw [h1, hlen, h2]
      · rw [seg_seg (by rw [hcl, ints_length, comps32_len C m _ _ (comp32_len C H bs)]) (by omega)] at b2
        exact b2

/-- narrow: the blocks of a slice are taken. -/
theorem narrow_ok {K : Nat} (hK : 18446744073709551616 ≤ K) {gh oh : Nat} {eh : TypeId} {C : List Int} (hC : C.length = 80) (hg3 : gh ≠ 0) {w : World} {b : Sl} {bs H : List Int} {ch : List Value}
    (hlim : bs.length ≤ 140737488355328) (hH : H.length = 8) (hch : oh + 8 ≤ ch.length) (hAt : (ch.drop oh).take 8 = ints .u64 H)
    (hbv : ∀ p, b.a = some p → bs ≠ [] → p.block < w.heap.size) (hbh : (∀ p, b.a = some p → p.block ≠ gh) ∨ bs.length < 128) (hr : RdS .u8 w b bs) (hb : Bk eh w gh ch) (hT : Rd w ⟨0, 0, none⟩ (ints .u64 C)) :
    ∃ w', digest_narrow K (some ⟨gh, oh, none⟩) b w = some ((), w') ∧ Bk eh w' gh (seg ch oh (ints .u64 (comps32 C (bs.length / 64) H bs))) ∧ Upd (· = gh) w w' := by
  obtain ⟨w1, n1, b1, u1, z1⟩ := newB_ok z80 80 w
  have b1 : Bk 80 w1 w.heap.size z80.toList := b1
  have hlt : 0 < w.heap.size := hT.lt (fun e => by have := congrArg List.length e; simp [hC] at this)
  obtain ⟨w2, h2, b2, u2⟩ := narrow_loop hK hC (gw := w.heap.size) (fun e => by have := hb.lt; omega) (by omega) hg3 (bs.length / 64) K w1 b bs H ch _ rfl (by omega) hlim hH hch hAt
    (fun p hp hne e => by have := hbv p hp hne; omega) hbh (hr.upd0 u1) (hb.upd0 u1) b1 rfl (hT.upd u1 fun _ => id)
  refine ⟨w2, ?_, b2, (u1.mono fun _ _ e => e.elim).trans' u2 fun k hk e => by rcases e with e | e; exact e; omega⟩
  unfold digest_narrow
  rw [n1, bnd_ok, h2, bnd_ok]

end Go.Sh

/- Package digest: wide takes blocks: what it computes. -/
set_option linter.unusedVariables false
namespace Go.Sh
open Go.Fw Go.Sha Go.RowKit Go.Proofs.Tryd

theorem neg_and63 : ∀ n : Nat, n < 64 → 0 < n → bits .and .u64 (IntKind.u64.wrap (-(n : Int))) 63 = ((64 - n : Nat) : Int) := by decide +kernel

theorem RL64 (x : Int) {n : Nat} (h0 : 0 < n) (h1 : n < 64) : bits_RotateLeft64 x (-(n : Int)) = some (rr64 x n, ()) := by
  have e1 := neg_and63 n h1 h0
  have e2 : IntKind.u64.wrap (64 - ((64 - n : Nat) : Int)) = (n : Int) := by rw [IntKind.wrap_u64]; omega
  have m1 : min (64 - n) IntKind.u64.bits = 64 - n := Nat.min_eq_left (by simp only [IntKind.bits]; omega)
  have m2 : min n IntKind.u64.bits = n := Nat.min_eq_left (by simp only [IntKind.bits]; omega)
  unfold bits_RotateLeft64
  rw [e1, e2]
  simp only [Int.toNat_natCast, m1, m2, Int.natCast_nonneg, if_true, rr64]

theorem wide_l3 (K : Nat) (h0 : Option Addr) {b : Sl} {gw : Nat} :
    ∀ (d n : Nat) (w : World) (cs : List Value) (S : List Int), S.length + d = 80 → 16 ≤ S.length → d < n → Bk 83 w gw cs → cs.length = 80 → cs.take S.length = ints .u64 S →
      ∃ w' cs', digest_wide_l3 K n h0 b ⟨gw, 0, none⟩ ((S.length : Nat) : Int) w = some ((), w') ∧ Bk 83 w' gw cs' ∧ cs' = ints .u64 (ext64 d S) ∧ Upd (· = gw) w w' := by
  intro d
  induction d with
  | zero =>
    intro n w cs S hi h16 hn hb hc ht
    obtain ⟨n, rfl⟩ : ∃ m, n = m + 1 := ⟨n - 1, by omega⟩
    have hS : S.length = 80 := by omega
    refine ⟨w, cs, ?_, hb, ?_, Upd.refl _ _⟩
    · show digest_wide_l3_b K (digest_wide_l3 K n) h0 b ⟨gw, 0, none⟩ ((S.length : Nat) : Int) w = _
      rw [hS]
      simp [digest_wide_l3_b]
    · rw [hS, List.take_of_length_le (by omega)] at ht; exact ht
  | succ d ih =>
    intro n w cs S hi h16 hn hb hc ht
    obtain ⟨n, rfl⟩ : ∃ m, n = m + 1 := ⟨n - 1, by omega⟩
    have hd : decide (((S.length : Nat) : Int) < 80) = true := by simp; omega
    have e15 : IntKind.i64.wrap (((S.length : Nat) : Int) - 15) = ((S.length - 15 : Nat) : Int) := by rw [w64 (by omega) (by omega)]; omega
    have e2 : IntKind.i64.wrap (((S.length : Nat) : Int) - 2) = ((S.length - 2 : Nat) : Int) := by rw [w64 (by omega) (by omega)]; omega
    have e16 : IntKind.i64.wrap (((S.length : Nat) : Int) - 16) = ((S.length - 16 : Nat) : Int) := by rw [w64 (by omega) (by omega)]; omega
    have e7 : IntKind.i64.wrap (((S.length : Nat) : Int) - 7) = ((S.length - 7 : Nat) : Int) := by rw [w64 (by omega) (by omega)]; omega
    have e1 : IntKind.i64.wrap (((S.length : Nat) : Int) + 1) = ((S.length + 1 : Nat) : Int) := by rw [w64 (by omega) (by omega)]; rfl
    have c15 : (0 : Int) ≤ ((S.length - 15 : Nat) : Int) ∧ ((S.length - 15 : Nat) : Int) < ((80 : Nat) : Int) := by omega
    have c2 : (0 : Int) ≤ ((S.length - 2 : Nat) : Int) ∧ ((S.length - 2 : Nat) : Int) < ((80 : Nat) : Int) := by omega
    have c16 : (0 : Int) ≤ ((S.length - 16 : Nat) : Int) ∧ ((S.length - 16 : Nat) : Int) < ((80 : Nat) : Int) := by omega
    have c7 : (0 : Int) ≤ ((S.length - 7 : Nat) : Int) ∧ ((S.length - 7 : Nat) : Int) < ((80 : Nat) : Int) := by omega
    have c0 : (0 : Int) ≤ ((S.length : Nat) : Int) ∧ ((S.length : Nat) : Int) < ((80 : Nat) : Int) := by omega
    have l15 := hb.drew.ldI (row_front ht (i := S.length - 15) (by omega))
    have l2 := hb.drew.ldI (row_front ht (i := S.length - 2) (by omega))
    have l16 := hb.drew.drew.ldI (row_front ht (i := S.length - 16) (by omega))
    have l7 := hb.drew.drew.ldI (row_front ht (i := S.length - 7) (by omega))
    have r7 := RL64 (S.getD (S.length - 15) 0) (n := 1) (by decide) (by decide)
    have r18 := RL64 (S.getD (S.length - 15) 0) (n := 8) (by decide) (by decide)
    have r17 := RL64 (S.getD (S.length - 2) 0) (n := 19) (by decide) (by decide)
    have r19 := RL64 (S.getD (S.length - 2) 0) (n := 61) (by decide) (by decide)
    have r7 : bits_RotateLeft64 (S.getD (S.length - 15) 0) (-1) = some (rr64 (S.getD (S.length - 15) 0) 1, ()) := r7
    have r18 : bits_RotateLeft64 (S.getD (S.length - 15) 0) (-8) = some (rr64 (S.getD (S.length - 15) 0) 8, ()) := r18
    have r17 : bits_RotateLeft64 (S.getD (S.length - 2) 0) (-19) = some (rr64 (S.getD (S.length - 2) 0) 19, ()) := r17
    have r19 : bits_RotateLeft64 (S.getD (S.length - 2) 0) (-61) = some (rr64 (S.getD (S.length - 2) 0) 61, ()) := r19
    let x := sch64 (S.getD (S.length - 15) 0) (S.getD (S.length - 2) 0) (S.getD (S.length - 16) 0) (S.getD (S.length - 7) 0)
    obtain ⟨w1, s1, s2, s3⟩ := hb.drew.drew.stC (i := S.length) (by omega) (.int .u64 x)
    have s1' : stC ((⟨gw, 0, none⟩ : Addr).add (S.length * 1)) (.int .u64 x) w.drew.drew = some w1 := by rw [add_lit, Nat.mul_one, Nat.zero_add]; exact s1
    have hfs := front_set ht (by omega) x
    have hSl : (S ++ [x]).length = S.length + 1 := by simp
    obtain ⟨w2, cs2, h1, h2, h3, h5⟩ := ih n w1 _ (S ++ [x]) (by rw [hSl]; omega) (by rw [hSl]; omega) (by omega) s2 (by simpa using hc) hfs
    rw [hSl] at h1
    refine ⟨w2, cs2, ?_, h2, by rw [h3]; rfl, (s3.predrew.predrew).trans' h5 fun _ _ e => e⟩
    show digest_wide_l3_b K (digest_wide_l3 K n) h0 b ⟨gw, 0, none⟩ ((S.length : Nat) : Int) w = _
    unfold digest_wide_l3_b
    rw [hd, if_pos rfl, e15, e2, e16, e7]
    simp only [Int.toNat_natCast]
    rw [if_pos c15, if_pos c2]
    simp only [add_lit, Nat.mul_one, Nat.zero_add]
    rw [l15, Option.bind_some, l2, Option.bind_some, if_pos c16, if_pos c7, l16, Option.bind_some, l7, Option.bind_some, r7, Option.bind_some, r18, Option.bind_some, r17, Option.bind_some, r19, Option.bind_some, if_pos c0]
    show (stC ⟨gw, S.length, none⟩ (.int .u64 x) w.drew.drew).bind _ = _
    rw [s1, Option.bind_some, e1, h1]

theorem wide_l4 (K : Nat) {h0 : Option Addr} {b : Sl} {gw : Nat} {W C : List Int} (hW : W.length = 80) (hC : C.length = 80) :
    ∀ (m i n : Nat) (w : World) (a b1 c d e f g k : Int), i + m = 80 → m < n → Bk 83 w gw (ints .u64 W) →
      ∃ w', digest_wide_l4 K n h0 b ⟨gw, 0, none⟩ a b1 c d e f g k (ints .u64 C).toArray (i : Int) w = some (rounds64 W C m i a b1 c d e f g k, w') ∧ Upd none_ w w' := by
  intro m
  induction m with
  | zero =>
    intro i n w a b1 c d e f g k hi hn hb
    obtain ⟨n, rfl⟩ : ∃ m, n = m + 1 := ⟨n - 1, by omega⟩
    have : i = 80 := by omega
    subst this
    refine ⟨w, ?_, Upd.refl _ _⟩
    show digest_wide_l4_b K (digest_wide_l4 K n) h0 b ⟨gw, 0, none⟩ a b1 c d e f g k (ints .u64 C).toArray ((80 : Nat) : Int) w = _
    simp [digest_wide_l4_b, rounds64]
  | succ m ih =>
    intro i n w a b1 c d e f g k hi hn hb
    obtain ⟨n, rfl⟩ : ∃ m, n = m + 1 := ⟨n - 1, by omega⟩
    have hd : decide ((i : Int) < 80) = true := by simp; omega
    have e1 : IntKind.i64.wrap ((i : Int) + 1) = ((i + 1 : Nat) : Int) := by rw [w64 (by omega) (by omega)]; rfl
    have c80 : (0 : Int) ≤ (i : Int) ∧ (i : Int) < ((80 : Nat) : Int) := by omega
    have hg : (ints .u64 C).toArray[i]? = some (.int .u64 (C.getD i 0)) := by
      rw [List.getElem?_toArray]; simp [ints, List.getD_eq_getElem?_getD, show i < C.length by omega]
    have l1 : ldI .u64 ⟨gw, i, none⟩ w.drew = some (W.getD i 0) := hb.drew.ldI (by simp [ints, List.getD_eq_getElem?_getD, show i < W.length by omega])
    have q14 : bits_RotateLeft64 e (-14) = some (rr64 e 14, ()) := RL64 e (n := 14) (by decide) (by decide)
    have q18 : bits_RotateLeft64 e (-18) = some (rr64 e 18, ()) := RL64 e (n := 18) (by decide) (by decide)
    have q41 : bits_RotateLeft64 e (-41) = some (rr64 e 41, ()) := RL64 e (n := 41) (by decide) (by decide)
    have q28 : bits_RotateLeft64 a (-28) = some (rr64 a 28, ()) := RL64 a (n := 28) (by decide) (by decide)
    have q34 : bits_RotateLeft64 a (-34) = some (rr64 a 34, ()) := RL64 a (n := 34) (by decide) (by decide)
    have q39 : bits_RotateLeft64 a (-39) = some (rr64 a 39, ()) := RL64 a (n := 39) (by decide) (by decide)
    obtain ⟨w1, h1, h2⟩ := ih (i + 1) n w.drew (IntKind.u64.wrap (t1_64 e f g k (C.getD i 0) (W.getD i 0) + t2_64 a b1 c)) a b1 c
      (IntKind.u64.wrap (d + t1_64 e f g k (C.getD i 0) (W.getD i 0))) e f g (by omega) (by omega) hb.drew
    refine ⟨w1, ?_, h2.predrew⟩
    show digest_wide_l4_b K (digest_wide_l4 K n) h0 b ⟨gw, 0, none⟩ a b1 c d e f g k (ints .u64 C).toArray (i : Int) w = _
    unfold digest_wide_l4_b
    rw [hd, if_pos rfl, if_pos c80]
    simp only [Int.toNat_natCast, add_lit, Nat.mul_one, Nat.zero_add]
    rw [hg, Option.bind_some]
    simp only [asI, if_true, Option.bind_some]
    rw [if_pos c80, q14, Option.bind_some, q18, Option.bind_some, q41, Option.bind_some, l1, Option.bind_some, q28, Option.bind_some, q34, Option.bind_some, q39, Option.bind_some, e1]
    exact h1

theorem ints_set {κ : IntKind} (xs : List Int) (i : Nat) (x : Int) : (ints κ xs).set i (.int κ x) = ints κ (xs.set i x) := by
  simp only [ints, List.map_set]

theorem wide_l2 (K : Nat) (h0 : Option Addr) {b s : Sl} {bs xs : List Int} {o : Nat} (hx8 : xs.length = 8) (hxs : ∀ j, j < 8 → xs.getD j 0 = bs.getD (o + j) 0) {gw i : Nat} {a30 : Int} (hi80 : i < 80) (hne : ∀ p, s.a = some p → p.block ≠ gw) {v : Int} {ws : List Int} (hws : ws.length = 80) :
    ∀ (d j n : Nat) (w : World), j + d = 8 → d < n → RdS .u8 w s xs → Bk 83 w gw (ints .u64 (ws.set i (word64 v bs o j))) → (∀ j, j < 8 → InK .u8 (bs.getD (o + j) 0)) →
      ∃ w', digest_wide_l2 K n h0 b ⟨gw, 0, none⟩ (i : Int) a30 s 8 (j : Int) w = some ((), w') ∧ Bk 83 w' gw (ints .u64 (ws.set i (word64 v bs o 8))) ∧ Upd (· = gw) w w' := by
  intro d
  induction d with
  | zero =>
    intro j n w hj hn hr hb hin
    obtain ⟨n, rfl⟩ : ∃ m, n = m + 1 := ⟨n - 1, by omega⟩
    have : j = 8 := by omega
    subst this
    refine ⟨w, ?_, hb, Upd.refl _ _⟩
    show digest_wide_l2_b K (digest_wide_l2 K n) h0 b ⟨gw, 0, none⟩ (i : Int) a30 s 8 ((8 : Nat) : Int) w = _
    simp [digest_wide_l2_b]
  | succ d ih =>
    intro j n w hj hn hr hb hin
    obtain ⟨n, rfl⟩ : ∃ m, n = m + 1 := ⟨n - 1, by omega⟩
    obtain ⟨p, hp, hl⟩ := rdD hr
    have hxn : xs ≠ [] := fun e => by rw [e] at hx8; cases hx8
    have hlen := hr.len
    have hd : decide ((j : Int) < 8) = true := by simp; omega
    have e1 : IntKind.i64.wrap ((j : Int) + 1) = ((j + 1 : Nat) : Int) := by rw [w64 (by omega) (by omega)]; rfl
    have c1 : (0 : Int) ≤ (j : Int) ∧ (j : Int) < ((s.len : Nat) : Int) := by omega
    have c2 : (0 : Int) ≤ (i : Int) ∧ (i : Int) < ((80 : Nat) : Int) := by omega
    have lx := hl j (by omega)
    rw [hxs j (by omega)] at lx
    have lw : ldI .u64 ⟨gw, i, none⟩ w = some (word64 v bs o j) := hb.ldI (by simp [ints, hws, hi80])
    obtain ⟨w1, s1, s2, s3⟩ := hb.stC (i := i) (by rw [ints_length, List.length_set, hws]; exact hi80) (.int .u64 (word64 v bs o (j + 1)))
    rw [ints_set, List.set_set] at s2
    obtain ⟨w2, h1, h2, h3⟩ := ih (j + 1) n w1 (by omega) (by omega) (hr.upd s3 fun q hq e => hne q hq e) s2 hin
    refine ⟨w2, ?_, h2, s3.trans' h3 fun _ _ e => e⟩
    show digest_wide_l2_b K (digest_wide_l2 K n) h0 b ⟨gw, 0, none⟩ (i : Int) a30 s 8 (j : Int) w = _
    unfold digest_wide_l2_b
    rw [hd, if_pos rfl, hp hxn, Option.bind_some, if_pos c1]
    simp only [Int.toNat_natCast, add_lit, Nat.mul_one, Nat.zero_add]
    rw [lx, Option.bind_some, if_pos c2, lw, Option.bind_some, if_pos c2]
    show (stC ⟨gw, i, none⟩ (.int .u64 (word64 v bs o (j + 1))) w).bind _ = _
    rw [s1, Option.bind_some, e1, h1]

theorem wide_l1 {K : Nat} (hK : 18446744073709551616 ≤ K) (h0 : Option Addr) {b : Sl} {bs : List Int} (hin : ∀ i, InK .u8 (bs.getD i 0)) (hbl : 128 ≤ bs.length) (hlim : bs.length ≤ 140737488355328) {gw : Nat} (hne : ∀ p, b.a = some p → p.block ≠ gw) :
    ∀ (d i n : Nat) (w : World) (ws : List Int), i + d = 16 → d < n → RdS .u8 w b bs → Bk 83 w gw (ints .u64 ws) → ws.length = 80 → ws.take i = words64 bs i →
      ∃ w' ws', digest_wide_l1 K n h0 b ⟨gw, 0, none⟩ (i : Int) w = some ((), w') ∧ Bk 83 w' gw (ints .u64 ws') ∧ ws'.length = 80 ∧ ws'.take 16 = words64 bs 16 ∧ Upd (· = gw) w w' := by
  intro d
  induction d with
  | zero =>
    intro i n w ws hi hn hr hb hc ht
    obtain ⟨n, rfl⟩ : ∃ m, n = m + 1 := ⟨n - 1, by omega⟩
    have : i = 16 := by omega
    subst this
    refine ⟨w, ws, ?_, hb, hc, ht, Upd.refl _ _⟩
    show digest_wide_l1_b K (digest_wide_l1 K n) h0 b ⟨gw, 0, none⟩ ((16 : Nat) : Int) w = _
    simp [digest_wide_l1_b]
  | succ d ih =>
    intro i n w ws hi hn hr hb hc ht
    obtain ⟨n, rfl⟩ : ∃ m, n = m + 1 := ⟨n - 1, by omega⟩
    have hcap := hr.cap
    have hlen := hr.len
    have hd : decide ((i : Int) < 16) = true := by simp; omega
    have e8 : IntKind.i64.wrap (8 * (i : Int)) = ((8 * i : Nat) : Int) := by rw [w64 (by omega) (by omega)]; omega
    have e88 : IntKind.i64.wrap (((8 * i : Nat) : Int) + 8) = ((8 * i + 8 : Nat) : Int) := by rw [w64 (by omega) (by omega)]; omega
    have e1 : IntKind.i64.wrap ((i : Int) + 1) = ((i + 1 : Nat) : Int) := by rw [w64 (by omega) (by omega)]; rfl
    have c1 : (0 : Int) ≤ ((8 * i + 8 : Nat) : Int) ∧ ((8 * i + 8 : Nat) : Int) ≤ ((b.cap : Nat) : Int) := by omega
    have c2 : (0 : Int) ≤ ((8 * i : Nat) : Int) ∧ ((8 * i : Nat) : Int) ≤ ((8 * i + 8 : Nat) : Int) := by omega
    have hs := hr.sub (lo := 8 * i) (hi := 8 * i + 8) (by omega) (by omega)
    have hx8 : ((bs.take (8 * i + 8)).drop (8 * i)).length = 8 := by simp; omega
    have hblk : ∀ q, sla b.a (8 * i) b.cap 1 = some q → q.block ≠ gw := by
      intro q hq
      unfold sla at hq
      split at hq
      · exact hne q hq
      · cases hb' : b.a with
        | none => rw [hb'] at hq; simp at hq
        | some p =>
          rw [hb'] at hq; simp at hq
          have : q.block = p.block := by rw [← hq]; unfold Addr.add; split <;> rfl
          rw [this]; exact hne p hb'
    have hb0 : Bk 83 w gw (ints .u64 (ws.set i (word64 (ws.getD i 0) bs (8 * i) 0))) := by
      have : ws.set i (word64 (ws.getD i 0) bs (8 * i) 0) = ws := by
        show ws.set i (ws.getD i 0) = ws
        rw [List.getD_eq_getElem?_getD, List.getElem?_eq_getElem (show i < ws.length by omega)]
        exact List.set_getElem_self _
      rw [this]; exact hb
    obtain ⟨w1, h1, b1, u1⟩ := wide_l2 K h0 (b := b) (s := ⟨sla b.a (8 * i) b.cap 1, 8 * i + 8 - 8 * i, b.cap - 8 * i⟩) (bs := bs) (o := 8 * i) hx8
      (fun j hj => by simp [List.getD_eq_getElem?_getD, List.getElem?_drop, List.getElem?_take, show 8 * i + j < 8 * i + 8 by omega]) (i := i) (a30 := (i : Int)) (by omega) hblk (v := ws.getD i 0) hc 8 0 K w rfl (by omega) hs hb0 (fun j _ => hin _)
    have h1 : digest_wide_l2 K K h0 b ⟨gw, 0, none⟩ (i : Int) (i : Int) ⟨sla b.a (8 * i) b.cap 1, 8 * i + 8 - 8 * i, b.cap - 8 * i⟩ 8 0 w = _ := h1
    rw [word64_any hin] at b1
    have ht1 : (ws.set i (word64 0 bs (8 * i) 8)).take (i + 1) = words64 bs (i + 1) := by
      rw [List.take_add_one, List.take_set_of_le (Nat.le_refl _), ht]
      simp [words64, show i < ws.length by omega]
    obtain ⟨w2, ws2, h2, b2, l2, t2, u2⟩ := ih (i + 1) n w1 _ (by omega) (by omega) (hr.upd u1 fun q hq e => hne q hq e) b1 (by simpa using hc) ht1
    refine ⟨w2, ws2, ?_, b2, l2, t2, u1.trans' u2 fun _ _ e => e⟩
    have e8s : 8 * i + 8 - 8 * i = 8 := by omega
    show digest_wide_l1_b K (digest_wide_l1 K n) h0 b ⟨gw, 0, none⟩ (i : Int) w = _
    unfold digest_wide_l1_b
    rw [hd, if_pos rfl, e8, e88]
    simp only [Int.toNat_natCast]
    rw [if_pos c1, if_pos c2]
    have c8 : (((8 * i + 8 - 8 * i : Nat)) : Int) = 8 := by omega
    rw [c8, h1, bnd_ok, e1, h2]

theorem built75 (x0 x1 x2 x3 x4 x5 x6 x7 : Int) : prog.built 75 [(0, (.int .u64 x0)), (1, (.int .u64 x1)), (2, (.int .u64 x2)), (3, (.int .u64 x3)), (4, (.int .u64 x4)), (5, (.int .u64 x5)), (6, (.int .u64 x6)), (7, (.int .u64 x7))] =
    some (ints .u64 [x0, x1, x2, x3, x4, x5, x6, x7]).toArray := by kernel_rfl

theorem wide_l5 (K : Nat) {gh oh : Nat} {b : Sl} {w4 : Addr} {eh : TypeId} {H x : List Int} (hH : H.length = 8) (hx : x.length = 8) {ch : List Value} (hch : oh + 8 ≤ ch.length) (hAt : (ch.drop oh).take 8 = ints .u64 H) :
    ∀ (d i n : Nat) (w : World), i + d = 8 → d < n → Bk eh w gh (seg ch oh (ints .u64 ((sum8w H x).take i))) →
      ∃ w', digest_wide_l5 K n (some ⟨gh, oh, none⟩) b w4 (ints .u64 x).toArray (i : Int) w = some ((), w') ∧ Bk eh w' gh (seg ch oh (ints .u64 (sum8w H x))) ∧ Upd (· = gh) w w' := by
  intro d
  induction d with
  | zero =>
    intro i n w hi hn hb
    obtain ⟨n, rfl⟩ : ∃ m, n = m + 1 := ⟨n - 1, by omega⟩
    have : i = 8 := by omega
    subst this
    rw [List.take_of_length_le (by simp [sum8w])] at hb
    refine ⟨w, ?_, hb, Upd.refl _ _⟩
    show digest_wide_l5_b K (digest_wide_l5 K n) (some ⟨gh, oh, none⟩) b w4 (ints .u64 x).toArray ((8 : Nat) : Int) w = _
    simp [digest_wide_l5_b]
  | succ d ih =>
    intro i n w hi hn hb
    obtain ⟨n, rfl⟩ : ∃ m, n = m + 1 := ⟨n - 1, by omega⟩
    have hd : decide ((i : Int) < 8) = true := by simp; omega
    have e1 : IntKind.i64.wrap ((i : Int) + 1) = ((i + 1 : Nat) : Int) := by rw [w64 (by omega) (by omega)]; rfl
    have c0 : (0 : Int) ≤ (i : Int) ∧ (i : Int) < ((8 : Nat) : Int) := by omega
    have hxi : i < x.length := by omega
    have hg : (ints .u64 x).toArray[i]? = some (.int .u64 (x.getD i 0)) := by
      rw [List.getElem?_toArray]; simp [ints, List.getD_eq_getElem?_getD, hxi]
    have hol : (ints .u64 ((sum8w H x).take i)).length = i := by simp [ints, sum8w]; omega
    have hsl : (seg ch oh (ints .u64 ((sum8w H x).take i))).length = ch.length := seg_length (by rw [hol]; omega)
    have hAt' : (ch.drop oh).take H.length = ints .u64 H := by rw [hH]; exact hAt
    have l0 : ldI .u64 ⟨gh, oh + i, none⟩ w.drew = some (H.getD i 0) := hb.drew.ldI (by
      rw [seg_get (by rw [hol]; omega), hol, if_neg (by omega), if_neg (by omega)]
      exact at_get hAt' (by omega))
    obtain ⟨w1, s1, s2, s3⟩ := hb.drew.stC (i := oh + i) (by rw [hsl]; omega) (.int .u64 (IntKind.u64.wrap (H.getD i 0 + x.getD i 0)))
    have hstep : (seg ch oh (ints .u64 ((sum8w H x).take i))).set (oh + i) (.int .u64 (IntKind.u64.wrap (H.getD i 0 + x.getD i 0))) = seg ch oh (ints .u64 ((sum8w H x).take (i + 1))) := by
      have h1 := seg_snoc (cs := ch) (vs := ints .u64 ((sum8w H x).take i)) (o := oh) (by rw [hol]; omega) (.int .u64 (IntKind.u64.wrap (H.getD i 0 + x.getD i 0)))
      rw [hol] at h1
      rw [h1]
      congr 1
      rw [List.take_add_one, ints_append]
      congr 1
      have : (sum8w H x)[i]? = some (IntKind.u64.wrap (H.getD i 0 + x.getD i 0)) := by
        simp only [sum8w, List.getElem?_map, List.getElem?_range (show i < 8 by omega)]; rfl
      rw [this]; rfl
    rw [hstep] at s2
    obtain ⟨w2, h1, h2, h3⟩ := ih (i + 1) n w1 (by omega) (by omega) s2
    refine ⟨w2, ?_, h2, s3.predrew.trans' h3 fun _ _ e => e⟩
    show digest_wide_l5_b K (digest_wide_l5 K n) (some ⟨gh, oh, none⟩) b w4 (ints .u64 x).toArray (i : Int) w = _
    unfold digest_wide_l5_b
    rw [hd, if_pos rfl, if_pos c0]
    simp only [Int.toNat_natCast, Nat.mul_one]
    rw [hg, Option.bind_some]
    simp only [asI, if_true, Option.bind_some]
    rw [if_pos c0, add_lit, l0, Option.bind_some, if_pos c0, s1, Option.bind_some, e1, h1]

theorem ldA_of_rd {w : World} {g : Nat} {vs : List Value} (h : Rd w ⟨g, 0, none⟩ vs) (hne : vs ≠ []) : ldA vs.length ⟨g, 0, none⟩ w = some vs.toArray := by
  obtain ⟨m, hm⟩ : ∃ m, vs.length = m + 1 := ⟨vs.length - 1, by have := List.length_pos_iff.2 hne; omega⟩
  have hlast := h m (vs[m]'(by omega)) (List.getElem?_eq_getElem (by omega))
  rw [add_lit, Nat.zero_add] at hlast
  unfold World.cell? at hlast
  unfold ldA
  split at hlast
  · rename_i c e fz hb
    simp only [Option.isSome_none, Bool.false_eq_true, if_false] at hlast
    have hsz : m < c.size := (Array.getElem?_eq_some_iff.1 hlast).1
    simp only [hb]
    rw [if_pos ⟨trivial, by omega⟩]
    congr 1
    apply Array.ext (by simp; omega)
    intro i h1 h2
    have h2' : i < vs.length := by simpa using h2
    have hi := h i vs[i] (List.getElem?_eq_getElem h2')
    rw [add_lit, Nat.zero_add] at hi
    simp only [World.cell?, hb, Option.isSome_none, Bool.false_eq_true, if_false] at hi
    have := (Array.getElem?_eq_some_iff.1 hi).2
    simp [this]
  · cases hlast

/-- ONE BLOCK. -/
theorem wide_block {K : Nat} (hK : 18446744073709551616 ≤ K) (rec : Option Addr → Sl → Addr → World → Option (Unit × World)) {gh oh gw : Nat} {b : Sl} {eh : TypeId} {bs H C : List Int} (hin : ∀ i, InK .u8 (bs.getD i 0)) (hH : H.length = 8) (hC : C.length = 80) {ch : List Value}
    (hbl : 128 ≤ bs.length) (hlim : bs.length ≤ 140737488355328) (hbw : ∀ p, b.a = some p → p.block ≠ gw) (hhw : gh ≠ gw) (hch : oh + 8 ≤ ch.length) (hAt : (ch.drop oh).take 8 = ints .u64 H)
    {w : World} {ws : List Int} (hr : RdS .u8 w b bs) (hbh : Bk eh w gh ch) (hb : Bk 83 w gw (ints .u64 ws)) (hcw : ws.length = 80) (hT : Rd w ⟨0, 0, none⟩ (ints .u64 C)) (hg2 : gw ≠ 0) :
    ∃ w' ws', digest_wide_l0_b K rec (some ⟨gh, oh, none⟩) b ⟨gw, 0, none⟩ w = rec (some ⟨gh, oh, none⟩) ⟨sla b.a 128 b.cap 1, b.len - 128, b.cap - 128⟩ ⟨gw, 0, none⟩ w' ∧
      Bk eh w' gh (seg ch oh (ints .u64 (comp64 C H bs))) ∧ Bk 83 w' gw (ints .u64 ws') ∧ ws'.length = 80 ∧ Upd (fun k => k = gh ∨ k = gw) w w' := by
  obtain ⟨w1, c1, h1, b1, l1, t1, u1⟩ := wide_l1 hK (some ⟨gh, oh, none⟩) hin hbl hlim hbw 16 0 K w ws rfl (by omega) hr hb hcw (by simp [words64])
  have h1 : digest_wide_l1 K K (some ⟨gh, oh, none⟩) b ⟨gw, 0, none⟩ 0 w = _ := h1
  obtain ⟨w2, c2, h2, b2, t2, u2⟩ := wide_l3 K (some ⟨gh, oh, none⟩) (b := b) 64 K w1 (ints .u64 c1) (words64 bs 16) (by rw [words64_len]) (by rw [words64_len]; decide) (by omega) b1 (by rw [ints_length]; exact l1) (by rw [words64_len, ints_take, t1])
  rw [words64_len] at h2
  have h2 : digest_wide_l3 K K (some ⟨gh, oh, none⟩) b ⟨gw, 0, none⟩ 16 w1 = _ := h2
  rw [t2] at b2
  have hbh2 : Bk eh w2 gh ch := (hbh.upd u1 hhw).upd u2 hhw
  have hT2 : Rd w2 ⟨0, 0, none⟩ (ints .u64 C) := (hT.upd u1 fun _ e => hg2 e.symm).upd u2 fun _ e => hg2 e.symm
  have hT2d : Rd w2.drew ⟨0, 0, none⟩ (ints .u64 C) := hT2.upd (S := none_) (Upd.refl _ _).drew fun _ => id
  have hCne : ints .u64 C ≠ [] := fun e => by have := congrArg List.length e; simp [hC] at this
  have hld := ldA_of_rd hT2d hCne
  rw [ints_length, hC] at hld
  have hAt' : (ch.drop oh).take H.length = ints .u64 H := by rw [hH]; exact hAt
  have lv : ∀ i, i < 8 → ldI .u64 ⟨gh, oh + i, none⟩ w2.drew = some (H.getD i 0) := fun i hi => hbh2.drew.ldI (at_get hAt' (by omega))
  have h5x := wide_l4 K (h0 := some ⟨gh, oh, none⟩) (b := b) (W := ext64 64 (words64 bs 16)) (C := C) (by rw [ext64_len, words64_len]) hC 80 0 K w2.drew (H.getD 0 0) (H.getD 1 0) (H.getD 2 0) (H.getD 3 0) (H.getD 4 0) (H.getD 5 0) (H.getD 6 0) (H.getD 7 0) rfl (by omega) b2.drew
  obtain ⟨y, hy⟩ : ∃ y, rv64 C H bs = y := ⟨_, rfl⟩
  unfold rv64 at hy
  rw [hy] at h5x
  obtain ⟨w5, h5, u5⟩ := h5x
  have hc : comp64 C H bs = sum8w H (list8 y) := by unfold comp64 rv64; rw [hy]
  rw [hc]
  have b5h : Bk eh w5 gh (seg ch oh (ints .u64 ((sum8w H (list8 y)).take 0))) := by
    rw [List.take_zero]
    show Bk eh w5 gh (seg ch oh [])
    rw [seg_nil]
    exact hbh2.drew.upd0 u5
  obtain ⟨w6, h6, b6, u6⟩ := wide_l5 K (b := b) (w4 := ⟨gw, 0, none⟩) hH (x := list8 y) rfl hch hAt 8 0 K w5 rfl (by omega) b5h
  refine ⟨w6, ext64 64 (words64 bs 16), ?_, b6, (b2.drew.upd0 u5).upd u6 (fun e => hhw e.symm), by rw [ext64_len, words64_len], ?_⟩
  · have hlen := hr.len
    have hd : decide (((b.len : Nat) : Int) ≥ 128) = true := by simp; omega
    have k64 : (0 : Int) ≤ 128 ∧ (128 : Int) ≤ ((b.len : Nat) : Int) := by omega
    have h5' : digest_wide_l4 K K (some ⟨gh, oh, none⟩) b ⟨gw, 0, none⟩ (H.getD 0 0) (H.getD 1 0) (H.getD 2 0) (H.getD 3 0) (H.getD 4 0) (H.getD 5 0) (H.getD 6 0) (H.getD 7 0) (ints .u64 C).toArray 0 w2.drew = some (y, w5) := h5
    have h6' : digest_wide_l5 K K (some ⟨gh, oh, none⟩) b ⟨gw, 0, none⟩ (ints .u64 [y.1, y.2.1, y.2.2.1, y.2.2.2.1, y.2.2.2.2.1, y.2.2.2.2.2.1, y.2.2.2.2.2.2.1, y.2.2.2.2.2.2.2.1]).toArray 0 w5 = some ((), w6) := h6
    unfold digest_wide_l0_b
    rw [hd, if_pos rfl, h1, bnd_ok, h2, bnd_ok]
    simp only [Option.bind_some, add_lit, Nat.zero_mul, Nat.one_mul, Nat.reduceMul]
    rw [lv 0 (by decide), Option.bind_some, lv 1 (by decide), Option.bind_some, lv 2 (by decide), Option.bind_some, lv 3 (by decide), Option.bind_some, lv 4 (by decide), Option.bind_some, lv 5 (by decide), Option.bind_some, lv 6 (by decide), Option.bind_some, lv 7 (by decide), Option.bind_some]
    rw [hld, Option.bind_some, h5', bnd_ok, built75, Option.bind_some, h6', bnd_ok, if_pos k64]
  · have q1 : Upd (fun k => k = gh ∨ k = gw) w w2 := (u1.trans' u2 fun _ _ e => e).mono fun _ _ e => .inr e
    exact (q1.drew.and0 u5).trans' u6 fun _ _ e => .inl e

theorem wide_loop {K : Nat} (hK : 18446744073709551616 ≤ K) {gh oh gw : Nat} {eh : TypeId} {C : List Int} (hC : C.length = 80) (hhw : gh ≠ gw) (hg2 : gw ≠ 0) (hg3 : gh ≠ 0) :
    ∀ (m n : Nat) (w : World) (b : Sl) (bs H : List Int) (ch : List Value) (ws : List Int), (∀ i, InK .u8 (bs.getD i 0)) → bs.length / 128 = m → m < n → bs.length ≤ 140737488355328 → H.length = 8 → oh + 8 ≤ ch.length → (ch.drop oh).take 8 = ints .u64 H →
      (∀ p, b.a = some p → bs ≠ [] → p.block ≠ gw) → ((∀ p, b.a = some p → p.block ≠ gh) ∨ bs.length < 256) → RdS .u8 w b bs → Bk eh w gh ch → Bk 83 w gw (ints .u64 ws) → ws.length = 80 → Rd w ⟨0, 0, none⟩ (ints .u64 C) →
      ∃ w', digest_wide_l0 K n (some ⟨gh, oh, none⟩) b ⟨gw, 0, none⟩ w = some ((), w') ∧ Bk eh w' gh (seg ch oh (ints .u64 (comps64 C m H bs))) ∧ Upd (fun k => k = gh ∨ k = gw) w w' := by
  intro m
  induction m with
  | zero =>
    intro n w b bs H ch cw hin hm hn hlim hH hch hAt hbw hbh hr hb hw hcw hT
    obtain ⟨n, rfl⟩ : ∃ k, n = k + 1 := ⟨n - 1, by omega⟩
    refine ⟨w, ?_, ?_, Upd.refl _ _⟩
    · show digest_wide_l0_b K (digest_wide_l0 K n) (some ⟨gh, oh, none⟩) b ⟨gw, 0, none⟩ w = _
      have hd : decide (((b.len : Nat) : Int) ≥ 128) = false := by rw [hr.len]; simp; omega
      unfold digest_wide_l0_b
      rw [hd, if_neg (by decide)]
    · have : seg ch oh (ints .u64 (comps64 C 0 H bs)) = ch := by
        show seg ch oh (ints .u64 H) = ch
        rw [← hAt]
        apply List.ext_getElem?
        intro i
        have hl : ((ch.drop oh).take 8).length = 8 := by simp; omega
        rw [seg_get (by omega), hl]
        by_cases c1 : i < oh
        · simp [c1]
        · by_cases c2 : i < oh + 8
          · rw [if_neg c1, if_pos c2, List.getElem?_take, if_pos (by omega), List.getElem?_drop]; congr 1; omega
          · rw [if_neg c1, if_neg c2]
      rw [this]; exact hb
  | succ m ih =>
    intro n w b bs H ch cw hin hm hn hlim hH hch hAt hbw hbh hr hb hw hcw hT
    obtain ⟨n, rfl⟩ : ∃ k, n = k + 1 := ⟨n - 1, by omega⟩
    have h64 : 128 ≤ bs.length := by omega
    have hbs : bs ≠ [] := fun e => by rw [e] at h64; simp at h64
    replace hbw : ∀ p, b.a = some p → p.block ≠ gw := fun p hp => hbw p hp hbs
    obtain ⟨w1, cw1, h1, b1, bw1, l1, u1⟩ := wide_block hK (digest_wide_l0 K n) hin hH hC h64 hlim hbw hhw hch hAt hr hb hw hcw hT hg2
    have hcl : (ints .u64 (comp64 C H bs)).length = 8 := by rw [ints_length, comp64_len]
    have hT1 := hT.upd u1 fun _ e => by rcases e with e | e; exact hg3 e.symm; exact hg2 e.symm
    have hlen := hr.len
    have hcap := hr.cap
    by_cases hz : bs.length < 256
    · -- the last one: what is left is not read
      have hm0 : m = 0 := by omega
      subst hm0
      obtain ⟨n, rfl⟩ : ∃ k, n = k + 1 := ⟨n - 1, by omega⟩
      refine ⟨w1, ?_, b1, u1⟩
      show digest_wide_l0_b K (digest_wide_l0 K (n + 1)) (some ⟨gh, oh, none⟩) b ⟨gw, 0, none⟩ w = _
      refine h1.trans ?_
      have e : digest_wide_l0 K (n + 1) = digest_wide_l0_b K (digest_wide_l0 K n) := rfl
      rw [e]
      have hd : decide (((b.len - 128 : Nat) : Int) ≥ 128) = false := by rw [hlen]; simp; omega
      unfold digest_wide_l0_b
      rw [hd, if_neg (by decide)]
    · have hbg : ∀ p, b.a = some p → p.block ≠ gh := by
        rcases hbh with h | h
        · exact h
        · omega
      have hr1 := (hr.upd u1 fun p hp e => by rcases e with e | e; exact hbg p hp e; exact hbw p hp e).sub (lo := 128) (hi := bs.length) h64 (Nat.le_refl _)
      rw [List.take_length] at hr1
      have hblk : ∀ q, sla b.a 128 b.cap 1 = some q → ∃ p, b.a = some p ∧ q.block = p.block := by
        intro q hq
        unfold sla at hq
        split at hq
        · exact ⟨q, hq, rfl⟩
        · cases hb' : b.a with
          | none => rw [hb'] at hq; simp at hq
          | some p => rw [hb'] at hq; simp at hq; exact ⟨p, rfl, by rw [← hq]; unfold Addr.add; split <;> rfl⟩
      obtain ⟨w2, h2, b2, u2⟩ := ih n w1 ⟨sla b.a 128 b.cap 1, bs.length - 128, b.cap - 128⟩ (bs.drop 128) (comp64 C H bs) (seg ch oh (ints .u64 (comp64 C H bs))) cw1 (fun i => by have := hin (128 + i); simpa [List.getD_eq_getElem?_getD, List.getElem?_drop] using this) (by simp; omega) (by omega) (by simp; omega) (comp64_len C H bs)
        (by rw [seg_length (by omega)]; exact hch) (by have := seg_at (cs := ch) (a := ints .u64 (comp64 C H bs)) (o := oh) (by omega); rwa [hcl] at this)
        (fun q hq _ => by obtain ⟨p, hp, e⟩ := hblk q hq; rw [e]; exact hbw p hp) (.inl fun q hq => by obtain ⟨p, hp, e⟩ := hblk q hq; rw [e]; exact hbg p hp) hr1 b1 bw1 l1 hT1
      refine ⟨w2, ?_, ?_, u1.trans' u2 fun _ _ e => e⟩
      · show digest_wide_l0_b K (digest_wide_l0 K n) (some ⟨gh, oh, none⟩) b ⟨gw, 0, none⟩ w = _
        rw [h1, hlen, h2]
      · rw [seg_seg (by rw [hcl, ints_length, comps64_len C m _ _ (comp64_len C H bs)]) (by omega)] at b2
        exact b2

/-- wide: the blocks of a slice are taken. -/
theorem wide_ok {K : Nat} (hK : 18446744073709551616 ≤ K) {gh oh : Nat} {eh : TypeId} {C : List Int} (hC : C.length = 80) (hg3 : gh ≠ 0) {w : World} {b : Sl} {bs H : List Int} {ch : List Value} (hin : ∀ i, InK .u8 (bs.getD i 0))
    (hlim : bs.length ≤ 140737488355328) (hH : H.length = 8) (hch : oh + 8 ≤ ch.length) (hAt : (ch.drop oh).take 8 = ints .u64 H)
    (hbv : ∀ p, b.a = some p → bs ≠ [] → p.block < w.heap.size) (hbh : (∀ p, b.a = some p → p.block ≠ gh) ∨ bs.length < 256) (hr : RdS .u8 w b bs) (hb : Bk eh w gh ch) (hT : Rd w ⟨0, 0, none⟩ (ints .u64 C)) :
    ∃ w', digest_wide K (some ⟨gh, oh, none⟩) b w = some ((), w') ∧ Bk eh w' gh (seg ch oh (ints .u64 (comps64 C (bs.length / 128) H bs))) ∧ Upd (· = gh) w w' := by
  obtain ⟨w1, n1, b1, u1, z1⟩ := newB_ok z83 83 w
  have b1 : Bk 83 w1 w.heap.size (ints .u64 (List.replicate 80 0)) := by
    have e : z83.toList = ints .u64 (List.replicate 80 0) := by simp [z83, ints]
    rw [← e]; exact b1
  have hlt : 0 < w.heap.size := hT.lt (fun e => by have := congrArg List.length e; simp [hC] at this)
  obtain ⟨w2, h2, b2, u2⟩ := wide_loop hK hC (gw := w.heap.size) (fun e => by have := hb.lt; omega) (by omega) hg3 (bs.length / 128) K w1 b bs H ch (List.replicate 80 0) hin rfl (by omega) hlim hH hch hAt
    (fun p hp hne e => by have := hbv p hp hne; omega) hbh (hr.upd0 u1) (hb.upd0 u1) b1 (by simp) (hT.upd u1 fun _ => id)
  refine ⟨w2, ?_, b2, (u1.mono fun _ _ e => e.elim).trans' u2 fun k hk e => by rcases e with e | e; exact e; omega⟩
  unfold digest_wide
  rw [n1, bnd_ok, h2, bnd_ok]

end Go.Sh

/- The document's own answer: taken32, narrow: what they compute. -/
set_option linter.unusedVariables false
namespace Go.Sh
open Go.Fw Go.Sha Go.RowKit Go.Proofs.Tryd

/-- the constants of 32 bits -/
def kc32 (C : List Int) : List Int := (C.take 64).map fun c => IntKind.u32.wrap (Int.fdiv c (2 ^ 32))

theorem kc32_len {C : List Int} (h : C.length = 80) : (kc32 C).length = 64 := by simp [kc32, h]

theorem kc32_get {C : List Int} (h : C.length = 80) {i : Nat} (hi : i < 64) : (kc32 C).getD i 0 = IntKind.u32.wrap (Int.fdiv (C.getD i 0) (2 ^ 32)) := by
  have h1 : i < C.length := by omega
  simp [kc32, List.getD_eq_getElem?_getD, List.getElem?_take, hi, List.getElem?_eq_getElem h1]

theorem ref_l0 (K : Nat) {b : Sl} {bs : List Int} (hbl : bs.length = 64) {h3 k5 a6 : Addr} {gw : Nat} (hne : ∀ p, b.a = some p → p.block ≠ gw) :
    ∀ (d i n : Nat) (w : World) (cs : List Value), i + d = 16 → d < n → RdS .u8 w b bs → Bk 80 w gw cs → cs.length = 64 → cs.take i = ints .u32 (words32 bs i) →
      ∃ w' cs', ref01_taken32_l0 K n b h3 k5 a6 ⟨gw, 0, none⟩ (i : Int) w = some ((), w') ∧ Bk 80 w' gw cs' ∧ cs'.length = 64 ∧ cs'.take 16 = ints .u32 (words32 bs 16) ∧ Upd (· = gw) w w' := by
  intro d
  induction d with
  | zero =>
    intro i n w cs hi hn hr hb hc ht
    obtain ⟨n, rfl⟩ : ∃ m, n = m + 1 := ⟨n - 1, by omega⟩
    have : i = 16 := by omega
    subst this
    refine ⟨w, cs, ?_, hb, hc, ht, Upd.refl _ _⟩
    show ref01_taken32_l0_b K (ref01_taken32_l0 K n) b h3 k5 a6 ⟨gw, 0, none⟩ ((16 : Nat) : Int) w = _
    simp [ref01_taken32_l0_b]
  | succ d ih =>
    intro i n w cs hi hn hr hb hc ht
    obtain ⟨n, rfl⟩ : ∃ m, n = m + 1 := ⟨n - 1, by omega⟩
    have hbn : bs ≠ [] := fun e => by rw [e] at hbl; simp at hbl
    obtain ⟨p, hp, hl⟩ := rdD hr.drew
    have hlen := hr.len
    have hd : decide ((i : Int) < 16) = true := by simp; omega
    have e4 : IntKind.i64.wrap (4 * (i : Int)) = ((4 * i : Nat) : Int) := by rw [w64 (by omega) (by omega)]; omega
    have f1 : IntKind.i64.wrap (((4 * i : Nat) : Int) + 1) = ((4 * i + 1 : Nat) : Int) := by rw [w64 (by omega) (by omega)]; omega
    have f2 : IntKind.i64.wrap (((4 * i : Nat) : Int) + 2) = ((4 * i + 2 : Nat) : Int) := by rw [w64 (by omega) (by omega)]; omega
    have f3 : IntKind.i64.wrap (((4 * i : Nat) : Int) + 3) = ((4 * i + 3 : Nat) : Int) := by rw [w64 (by omega) (by omega)]; omega
    have e1 : IntKind.i64.wrap ((i : Int) + 1) = ((i + 1 : Nat) : Int) := by rw [w64 (by omega) (by omega)]; rfl
    have k0 : (0 : Int) ≤ ((4 * i : Nat) : Int) ∧ ((4 * i : Nat) : Int) < ((b.len : Nat) : Int) := by omega
    have k1 : (0 : Int) ≤ ((4 * i + 1 : Nat) : Int) ∧ ((4 * i + 1 : Nat) : Int) < ((b.len : Nat) : Int) := by omega
    have k2 : (0 : Int) ≤ ((4 * i + 2 : Nat) : Int) ∧ ((4 * i + 2 : Nat) : Int) < ((b.len : Nat) : Int) := by omega
    have k3 : (0 : Int) ≤ ((4 * i + 3 : Nat) : Int) ∧ ((4 * i + 3 : Nat) : Int) < ((b.len : Nat) : Int) := by omega
    have l0 := hl (4 * i) (by omega)
    have l1 := hl (4 * i + 1) (by omega)
    have l2 := hl (4 * i + 2) (by omega)
    have l3 := hl (4 * i + 3) (by omega)
    have c3 : (0 : Int) ≤ (i : Int) ∧ (i : Int) < ((64 : Nat) : Int) := by omega
    obtain ⟨w1, s1, s2, s3⟩ := hb.drew.stC (i := i) (by omega) (.int .u32 (word32 (bs.getD (4 * i) 0) (bs.getD (4 * i + 1) 0) (bs.getD (4 * i + 2) 0) (bs.getD (4 * i + 3) 0)))
    have ht' : cs.take (words32 bs i).length = ints .u32 (words32 bs i) := by rw [words32_len]; exact ht
    have hfs := front_set ht' (by rw [words32_len]; omega) (word32 (bs.getD (4 * i) 0) (bs.getD (4 * i + 1) 0) (bs.getD (4 * i + 2) 0) (bs.getD (4 * i + 3) 0))
    rw [words32_len] at hfs
    have hfs' : (cs.set i (.int .u32 (word32 (bs.getD (4 * i) 0) (bs.getD (4 * i + 1) 0) (bs.getD (4 * i + 2) 0) (bs.getD (4 * i + 3) 0)))).take (i + 1) = ints .u32 (words32 bs (i + 1)) := by
      have : (words32 bs i ++ [word32 (bs.getD (4 * i) 0) (bs.getD (4 * i + 1) 0) (bs.getD (4 * i + 2) 0) (bs.getD (4 * i + 3) 0)]).length = i + 1 := by simp [words32_len]
      rw [this] at hfs; exact hfs
    obtain ⟨w2, cs2, h1, h2, h4, h5, h6⟩ := ih (i + 1) n w1 _ (by omega) (by omega) (hr.drew.upd s3 (fun q hq e => hne q hq e)) s2 (by simpa using hc) hfs'
    refine ⟨w2, cs2, ?_, h2, h4, h5, (s3.predrew).trans' h6 fun _ _ e => e⟩
    show ref01_taken32_l0_b K (ref01_taken32_l0 K n) b h3 k5 a6 ⟨gw, 0, none⟩ (i : Int) w = _
    unfold ref01_taken32_l0_b
    rw [hd, if_pos rfl, e4, f1, f2, f3, hp hbn]
    simp only [Option.bind_some, Int.toNat_natCast, Nat.mul_one]
    rw [if_pos k0, if_pos k1, if_pos k2, if_pos k3, l0, Option.bind_some, l1, Option.bind_some, l2, Option.bind_some, l3, Option.bind_some, if_pos c3, add_lit, Nat.zero_add]
    show (stC ⟨gw, i, none⟩ (.int .u32 (word32 (bs.getD (4 * i) 0) (bs.getD (4 * i + 1) 0) (bs.getD (4 * i + 2) 0) (bs.getD (4 * i + 3) 0))) w.drew).bind _ = _
    rw [s1, Option.bind_some, e1, h1]

theorem ref_l1 (K : Nat) {h3 k5 a6 : Addr} {gw : Nat} :
    ∀ (d n : Nat) (w : World) (cs : List Value) (S : List Int), S.length + d = 64 → 16 ≤ S.length → d < n → Bk 80 w gw cs → cs.length = 64 → cs.take S.length = ints .u32 S →
      ∃ w' cs', ref01_taken32_l1 K n h3 k5 a6 ⟨gw, 0, none⟩ ((S.length : Nat) : Int) w = some ((), w') ∧ Bk 80 w' gw cs' ∧ cs' = ints .u32 (ext32 d S) ∧ Upd (· = gw) w w' := by
  intro d
  induction d with
  | zero =>
    intro n w cs S hi h16 hn hb hc ht
    obtain ⟨n, rfl⟩ : ∃ m, n = m + 1 := ⟨n - 1, by omega⟩
    have hS : S.length = 64 := by omega
    refine ⟨w, cs, ?_, hb, ?_, Upd.refl _ _⟩
    · show ref01_taken32_l1_b K (ref01_taken32_l1 K n) h3 k5 a6 ⟨gw, 0, none⟩ ((S.length : Nat) : Int) w = _
      rw [hS]
      simp [ref01_taken32_l1_b]
    · rw [hS, List.take_of_length_le (by omega)] at ht; exact ht
  | succ d ih =>
    intro n w cs S hi h16 hn hb hc ht
    obtain ⟨n, rfl⟩ : ∃ m, n = m + 1 := ⟨n - 1, by omega⟩
    have hd : decide (((S.length : Nat) : Int) < 64) = true := by simp; omega
    have e15 : IntKind.i64.wrap (((S.length : Nat) : Int) - 15) = ((S.length - 15 : Nat) : Int) := by rw [w64 (by omega) (by omega)]; omega
    have e2 : IntKind.i64.wrap (((S.length : Nat) : Int) - 2) = ((S.length - 2 : Nat) : Int) := by rw [w64 (by omega) (by omega)]; omega
    have e16 : IntKind.i64.wrap (((S.length : Nat) : Int) - 16) = ((S.length - 16 : Nat) : Int) := by rw [w64 (by omega) (by omega)]; omega
    have e7 : IntKind.i64.wrap (((S.length : Nat) : Int) - 7) = ((S.length - 7 : Nat) : Int) := by rw [w64 (by omega) (by omega)]; omega
    have e1 : IntKind.i64.wrap (((S.length : Nat) : Int) + 1) = ((S.length + 1 : Nat) : Int) := by rw [w64 (by omega) (by omega)]; rfl
    have c15 : (0 : Int) ≤ ((S.length - 15 : Nat) : Int) ∧ ((S.length - 15 : Nat) : Int) < ((64 : Nat) : Int) := by omega
    have c2 : (0 : Int) ≤ ((S.length - 2 : Nat) : Int) ∧ ((S.length - 2 : Nat) : Int) < ((64 : Nat) : Int) := by omega
    have c16 : (0 : Int) ≤ ((S.length - 16 : Nat) : Int) ∧ ((S.length - 16 : Nat) : Int) < ((64 : Nat) : Int) := by omega
    have c7 : (0 : Int) ≤ ((S.length - 7 : Nat) : Int) ∧ ((S.length - 7 : Nat) : Int) < ((64 : Nat) : Int) := by omega
    have c0 : (0 : Int) ≤ ((S.length : Nat) : Int) ∧ ((S.length : Nat) : Int) < ((64 : Nat) : Int) := by omega
    have l15 := hb.ldI (row_front ht (i := S.length - 15) (by omega))
    have l2 := hb.ldI (row_front ht (i := S.length - 2) (by omega))
    have l16 := hb.drew.ldI (row_front ht (i := S.length - 16) (by omega))
    have l7 := hb.drew.ldI (row_front ht (i := S.length - 7) (by omega))
    let x := sch32 (S.getD (S.length - 15) 0) (S.getD (S.length - 2) 0) (S.getD (S.length - 16) 0) (S.getD (S.length - 7) 0)
    obtain ⟨w1, s1, s2, s3⟩ := hb.drew.stC (i := S.length) (by omega) (.int .u32 x)
    have hfs := front_set ht (by omega) x
    have hSl : (S ++ [x]).length = S.length + 1 := by simp
    obtain ⟨w2, cs2, h1, h2, h4, h5⟩ := ih n w1 _ (S ++ [x]) (by rw [hSl]; omega) (by rw [hSl]; omega) (by omega) s2 (by simpa using hc) hfs
    rw [hSl] at h1
    refine ⟨w2, cs2, ?_, h2, by rw [h4]; rfl, s3.predrew.trans' h5 fun _ _ e => e⟩
    show ref01_taken32_l1_b K (ref01_taken32_l1 K n) h3 k5 a6 ⟨gw, 0, none⟩ ((S.length : Nat) : Int) w = _
    unfold ref01_taken32_l1_b
    rw [hd, if_pos rfl, e15, e2, e16, e7]
    simp only [Int.toNat_natCast, add_lit, Nat.mul_one, Nat.zero_add]
    rw [if_pos c15, l15, Option.bind_some, if_pos c2, l2, Option.bind_some, if_pos c7, if_pos c16, l7, Option.bind_some, l16, Option.bind_some, if_pos c0]
    have hx : IntKind.u32.wrap ((IntKind.u32.wrap ((IntKind.u32.wrap ((bits .xor .u32 (bits .xor .u32 (bits .or .u32 (Int.fdiv (S.getD (S.length - 2) 0) (2 ^ 17)) (IntKind.u32.wrap ((S.getD (S.length - 2) 0) * 2 ^ 15))) (bits .or .u32 (Int.fdiv (S.getD (S.length - 2) 0) (2 ^ 19)) (IntKind.u32.wrap ((S.getD (S.length - 2) 0) * 2 ^ 13)))) (Int.fdiv (S.getD (S.length - 2) 0) (2 ^ 10))) + (S.getD (S.length - 7) 0))) + (bits .xor .u32 (bits .xor .u32 (bits .or .u32 (Int.fdiv (S.getD (S.length - 15) 0) (2 ^ 7)) (IntKind.u32.wrap ((S.getD (S.length - 15) 0) * 2 ^ 25))) (bits .or .u32 (Int.fdiv (S.getD (S.length - 15) 0) (2 ^ 18)) (IntKind.u32.wrap ((S.getD (S.length - 15) 0) * 2 ^ 14)))) (Int.fdiv (S.getD (S.length - 15) 0) (2 ^ 3))))) + (S.getD (S.length - 16) 0)) = x := by
      rw [show (15 : Nat) = 32 - 17 from rfl, rr32_or, show (13 : Nat) = 32 - 19 from rfl, rr32_or, show (25 : Nat) = 32 - 7 from rfl, rr32_or, show (14 : Nat) = 32 - 18 from rfl, rr32_or]
      exact sch32_ref _ _ _ _
    rw [hx, s1, Option.bind_some, e1, h1]

theorem ref_l2 (K : Nat) {h3 a6 : Addr} {gk gw : Nat} {W C : List Int} (hW : W.length = 64) (hC : C.length = 80) :
    ∀ (m i n : Nat) (w : World) (a b c d e f g z : Int), i + m = 64 → m < n → Bk 80 w gw (ints .u32 W) → Bk 80 w gk (ints .u32 (kc32 C)) →
      ∃ w', ref01_taken32_l2 K n h3 ⟨gk, 0, none⟩ a6 ⟨gw, 0, none⟩ a b c d e f g z (i : Int) w = some (rounds32 W C m i a b c d e f g z, w') ∧ Upd none_ w w' := by
  intro m
  induction m with
  | zero =>
    intro i n w a b c d e f g z hi hn hb hk
    obtain ⟨n, rfl⟩ : ∃ m, n = m + 1 := ⟨n - 1, by omega⟩
    have : i = 64 := by omega
    subst this
    refine ⟨w, ?_, Upd.refl _ _⟩
    show ref01_taken32_l2_b K (ref01_taken32_l2 K n) h3 ⟨gk, 0, none⟩ a6 ⟨gw, 0, none⟩ a b c d e f g z ((64 : Nat) : Int) w = _
    simp [ref01_taken32_l2_b, rounds32]
  | succ m ih =>
    intro i n w a b c d e f g z hi hn hb hk
    obtain ⟨n, rfl⟩ : ∃ m, n = m + 1 := ⟨n - 1, by omega⟩
    have hd : decide ((i : Int) < 64) = true := by simp; omega
    have e1 : IntKind.i64.wrap ((i : Int) + 1) = ((i + 1 : Nat) : Int) := by rw [w64 (by omega) (by omega)]; rfl
    have c64 : (0 : Int) ≤ (i : Int) ∧ (i : Int) < ((64 : Nat) : Int) := by omega
    have hkl := kc32_len hC
    have lk : ldI .u32 ⟨gk, i, none⟩ w.drew = some (IntKind.u32.wrap (Int.fdiv (C.getD i 0) (2 ^ 32))) := by
      rw [← kc32_get hC (show i < 64 by omega)]
      exact hk.drew.ldI (by
        have h1 : i < (kc32 C).length := by omega
        rw [ints, List.getElem?_map, List.getElem?_eq_getElem h1, List.getD_eq_getElem?_getD, List.getElem?_eq_getElem h1]; rfl)
    have lw : ldI .u32 ⟨gw, i, none⟩ w.drew = some (W.getD i 0) := hb.drew.ldI (by simp [ints, List.getD_eq_getElem?_getD, show i < W.length by omega])
    obtain ⟨w1, h1, h2⟩ := ih (i + 1) n w.drew (IntKind.u32.wrap (t1_32 e f g z (IntKind.u32.wrap (Int.fdiv (C.getD i 0) (2 ^ 32))) (W.getD i 0) + t2_32 a b c)) a b c
      (IntKind.u32.wrap (d + t1_32 e f g z (IntKind.u32.wrap (Int.fdiv (C.getD i 0) (2 ^ 32))) (W.getD i 0))) e f g (by omega) (by omega) hb.drew hk.drew
    refine ⟨w1, ?_, h2.predrew⟩
    show ref01_taken32_l2_b K (ref01_taken32_l2 K n) h3 ⟨gk, 0, none⟩ a6 ⟨gw, 0, none⟩ a b c d e f g z (i : Int) w = _
    unfold ref01_taken32_l2_b
    rw [hd, if_pos rfl, if_pos c64, if_pos c64]
    simp only [Int.toNat_natCast, add_lit, Nat.mul_one, Nat.zero_add]
    rw [lk, Option.bind_some, lw, Option.bind_some, e1]
    have r6 : bits .or .u32 (Int.fdiv e (2 ^ 6)) (IntKind.u32.wrap (e * 2 ^ 26)) = rr32 e 6 := rr32_or e 6
    have r11 : bits .or .u32 (Int.fdiv e (2 ^ 11)) (IntKind.u32.wrap (e * 2 ^ 21)) = rr32 e 11 := rr32_or e 11
    have r25 : bits .or .u32 (Int.fdiv e (2 ^ 25)) (IntKind.u32.wrap (e * 2 ^ 7)) = rr32 e 25 := rr32_or e 25
    have r2 : bits .or .u32 (Int.fdiv a (2 ^ 2)) (IntKind.u32.wrap (a * 2 ^ 30)) = rr32 a 2 := rr32_or a 2
    have r13 : bits .or .u32 (Int.fdiv a (2 ^ 13)) (IntKind.u32.wrap (a * 2 ^ 19)) = rr32 a 13 := rr32_or a 13
    have r22 : bits .or .u32 (Int.fdiv a (2 ^ 22)) (IntKind.u32.wrap (a * 2 ^ 10)) = rr32 a 22 := rr32_or a 22
    rw [r6, r11, r25, r2, r13, r22, ch_or (k := .u32) rfl _ all32, maj_or (k := .u32) rfl]
    exact h1

/-- sums of words of 32 bits -/
def sums32 (v x : List Int) : List Int := (List.range 8).map fun i => IntKind.u32.wrap (v.getD i 0 + x.getD i 0)

/-- a block is taken, of words that are of 32 bits -/
def tk32 (C V bs : List Int) : List Int :=
  sums32 V (list8 (rounds32 (ext32 48 (words32 bs 16)) C 64 0 (V.getD 0 0) (V.getD 1 0) (V.getD 2 0) (V.getD 3 0) (V.getD 4 0) (V.getD 5 0) (V.getD 6 0) (V.getD 7 0)))

theorem tk32_len (C V bs : List Int) : (tk32 C V bs).length = 8 := by simp [tk32, sums32]

theorem taken32_ok {K : Nat} (hK : 18446744073709551616 ≤ K) {w : World} {b : Sl} {bs V C : List Int} (hbl : bs.length = 64) (hV : V.length = 8) (hC : C.length = 80) (hbv : ∀ p, b.a = some p → p.block < w.heap.size) (hr : RdS .u8 w b bs) :
    ∃ w', ref01_taken32 K (ints .u32 V).toArray b (ints .u32 (kc32 C)).toArray w = some (((ints .u32 (tk32 C V bs)).toArray, ()), w') ∧ Upd none_ w w' := by
  obtain ⟨w1, n1, b1, u1, z1⟩ := newB_ok (ints .u32 V).toArray 82 w
  obtain ⟨w2, n2, b2, u2, z2⟩ := newB_ok (ints .u32 (kc32 C)).toArray 80 w1
  obtain ⟨w3, n3, b3, u3, z3⟩ := newB_ok z82 82 w2
  obtain ⟨w4, n4, b4, u4, z4⟩ := newB_ok z80 80 w3
  have b1 : Bk 82 w1 w.heap.size (ints .u32 V) := b1
  have b2 : Bk 80 w2 w1.heap.size (ints .u32 (kc32 C)) := b2
  have b3 : Bk 82 w3 w2.heap.size z82.toList := b3
  have b4 : Bk 80 w4 w3.heap.size z80.toList := b4
  have hr4 : RdS .u8 w4 b bs := (((hr.upd0 u1).upd0 u2).upd0 u3).upd0 u4
  obtain ⟨w5, c5, h5, b5, l5, t5, u5⟩ := ref_l0 K (h3 := ⟨w.heap.size, 0, none⟩) (k5 := ⟨w1.heap.size, 0, none⟩) (a6 := ⟨w2.heap.size, 0, none⟩) hbl (gw := w3.heap.size) (fun p hp e => by have := hbv p hp; omega) 16 0 K w4 _ rfl (by omega) hr4 b4 rfl (by simp [words32])
  have h5 : ref01_taken32_l0 K K b ⟨w.heap.size, 0, none⟩ ⟨w1.heap.size, 0, none⟩ ⟨w2.heap.size, 0, none⟩ ⟨w3.heap.size, 0, none⟩ 0 w4 = _ := h5
  obtain ⟨w6, c6, h6, b6, t6, u6⟩ := ref_l1 K (h3 := ⟨w.heap.size, 0, none⟩) (k5 := ⟨w1.heap.size, 0, none⟩) (a6 := ⟨w2.heap.size, 0, none⟩) 48 K w5 c5 (words32 bs 16) (by rw [words32_len]) (by rw [words32_len]; decide) (by omega) b5 l5 (by rw [words32_len]; exact t5)
  rw [words32_len] at h6
  have h6 : ref01_taken32_l1 K K ⟨w.heap.size, 0, none⟩ ⟨w1.heap.size, 0, none⟩ ⟨w2.heap.size, 0, none⟩ ⟨w3.heap.size, 0, none⟩ 16 w5 = _ := h6
  rw [t6] at b6
  have n13 : ¬ w.heap.size = w3.heap.size := by omega
  have n23 : ¬ w1.heap.size = w3.heap.size := by omega
  have n33 : ¬ w2.heap.size = w3.heap.size := by omega
  have bV : Bk 82 w6 w.heap.size (ints .u32 V) := (((((b1.upd0 u2).upd0 u3).upd0 u4).upd u5 n13).upd u6 n13)
  have bC : Bk 80 w6 w1.heap.size (ints .u32 (kc32 C)) := ((((b2.upd0 u3).upd0 u4).upd u5 n23).upd u6 n23)
  have bO : Bk 82 w6 w2.heap.size z82.toList := (((b3.upd0 u4).upd u5 n33).upd u6 n33)
  have gv : ∀ i, i < 8 → (ints .u32 V)[i]? = some (.int .u32 (V.getD i 0)) := fun i hi => by
    have : i < V.length := by omega
    rw [ints, List.getElem?_map, List.getElem?_eq_getElem this, List.getD_eq_getElem?_getD, List.getElem?_eq_getElem this]; rfl
  have h7x := ref_l2 K (h3 := ⟨w.heap.size, 0, none⟩) (a6 := ⟨w2.heap.size, 0, none⟩) (gk := w1.heap.size) (gw := w3.heap.size) (W := ext32 48 (words32 bs 16)) (C := C) (by rw [ext32_len, words32_len]) hC 64 0 K w6.drew.drew (V.getD 0 0) (V.getD 1 0) (V.getD 2 0) (V.getD 3 0) (V.getD 4 0) (V.getD 5 0) (V.getD 6 0) (V.getD 7 0) rfl (by omega) b6.drew.drew bC.drew.drew
  obtain ⟨y, hy⟩ : ∃ y, rounds32 (ext32 48 (words32 bs 16)) C 64 0 (V.getD 0 0) (V.getD 1 0) (V.getD 2 0) (V.getD 3 0) (V.getD 4 0) (V.getD 5 0) (V.getD 6 0) (V.getD 7 0) = y := ⟨_, rfl⟩
  rw [hy] at h7x
  obtain ⟨w7, h7, u7⟩ := h7x
  have h7 : ref01_taken32_l2 K K ⟨w.heap.size, 0, none⟩ ⟨w1.heap.size, 0, none⟩ ⟨w2.heap.size, 0, none⟩ ⟨w3.heap.size, 0, none⟩ (V.getD 0 0) (V.getD 1 0) (V.getD 2 0) (V.getD 3 0) (V.getD 4 0) (V.getD 5 0) (V.getD 6 0) (V.getD 7 0) 0 w6.drew.drew = some (y, w7) := h7
  have hc : tk32 C V bs = sums32 V (list8 y) := by unfold tk32; rw [hy]
  have hl8 : (ints .u32 (sums32 V (list8 y))).length = 8 := by simp [ints, sums32]
  have bV7 : Bk 82 w7 w.heap.size (ints .u32 V) := bV.drew.drew.upd0 u7
  have bO7 : Bk 82 w7 w2.heap.size z82.toList := bO.drew.drew.upd0 u7
  have hz8 : z82.toList.length = 8 := rfl
  obtain ⟨w8, a1, a2, a3⟩ := bO7.stA (o := 0) (vs := (ints .u32 (sums32 V (list8 y))).toArray) (by rw [List.size_toArray, hl8, hz8]; decide) (fun v hv => ints_one v hv)
  have es : seg z82.toList 0 (ints .u32 (sums32 V (list8 y))) = ints .u32 (sums32 V (list8 y)) := by
    simp only [seg, List.take_zero, List.nil_append, Nat.zero_add]
    rw [List.drop_eq_nil_of_le (by rw [hl8, hz8]; decide), List.append_nil]
  have a2 : Bk 82 w8 w2.heap.size (ints .u32 (sums32 V (list8 y))) := by rw [← es]; exact a2
  have hl := a2.ldA (i := 0) (n := 8) (by rw [hl8]; decide)
  rw [List.drop_zero, List.take_of_length_le (by rw [hl8]; decide)] at hl
  have hsum : [IntKind.u32.wrap (V.getD 0 0 + y.1), IntKind.u32.wrap (V.getD 1 0 + y.2.1), IntKind.u32.wrap (V.getD 2 0 + y.2.2.1), IntKind.u32.wrap (V.getD 3 0 + y.2.2.2.1), IntKind.u32.wrap (V.getD 4 0 + y.2.2.2.2.1), IntKind.u32.wrap (V.getD 5 0 + y.2.2.2.2.2.1), IntKind.u32.wrap (V.getD 6 0 + y.2.2.2.2.2.2.1), IntKind.u32.wrap (V.getD 7 0 + y.2.2.2.2.2.2.2.1)] = sums32 V (list8 y) := rfl
  refine ⟨w8, ?_, ?_⟩
  · unfold ref01_taken32
    rw [n1, bnd_ok, n2, bnd_ok, n3, bnd_ok, n4, bnd_ok, h5, bnd_ok, h6, bnd_ok]
    simp only [add_lit, Nat.zero_mul, Nat.one_mul, Nat.add_zero, Nat.zero_add, Nat.reduceMul]
    rw [bV.drew.ldI (gv 0 (by decide)), Option.bind_some, bV.drew.ldI (gv 1 (by decide)), Option.bind_some, bV.drew.ldI (gv 2 (by decide)), Option.bind_some, bV.drew.ldI (gv 3 (by decide)), Option.bind_some,
      bV.drew.drew.ldI (gv 4 (by decide)), Option.bind_some, bV.drew.drew.ldI (gv 5 (by decide)), Option.bind_some, bV.drew.drew.ldI (gv 6 (by decide)), Option.bind_some, bV.drew.drew.ldI (gv 7 (by decide)), Option.bind_some,
      h7, bnd_ok, bV7.ldI (gv 0 (by decide)), Option.bind_some, bV7.ldI (gv 1 (by decide)), Option.bind_some, bV7.ldI (gv 2 (by decide)), Option.bind_some, bV7.ldI (gv 3 (by decide)), Option.bind_some,
      bV7.ldI (gv 4 (by decide)), Option.bind_some, bV7.ldI (gv 5 (by decide)), Option.bind_some, bV7.ldI (gv 6 (by decide)), Option.bind_some, bV7.ldI (gv 7 (by decide)), Option.bind_some, built82, Option.bind_some, hsum,
      if_pos (by rw [List.size_toArray, hl8]), a1, Option.bind_some, hl, Option.bind_some, hc]
  · have q4 : Upd none_ w w4 := ((u1.and0 u2).and0 u3).and0 u4
    have q6 : Upd none_ w w6 := (q4.trans' u5 fun k hk e => by omega).trans' u6 fun k hk e => by omega
    exact (q6.drew.drew.and0 u7).trans' a3 fun k hk e => by omega

/-- blocks are taken, of words that are of 32 bits -/
def tks32 (C : List Int) : Nat → List Int → List Int → List Int
  | 0, V, _ => V
  | n + 1, V, bs => tks32 C n (tk32 C V bs) (bs.drop 64)

theorem tks32_len (C : List Int) : ∀ (n : Nat) (V bs : List Int), V.length = 8 → (tks32 C n V bs).length = 8
  | 0, _, _, h => h
  | n + 1, V, bs, _ => tks32_len C n _ _ (tk32_len C V bs)

theorem comp_tk (C H bs : List Int) : comp32 C H bs = (tk32 C (H.map IntKind.u32.wrap) bs).map IntKind.u64.wrap ∧ (comp32 C H bs).map IntKind.u32.wrap = tk32 C (H.map IntKind.u32.wrap) bs := by
  refine ⟨?_, ?_⟩
  · unfold comp32 tk32 rv32 sum8 sums32
    rw [List.map_map]; rfl
  · unfold comp32 tk32 rv32 sum8 sums32
    rw [List.map_map]
    apply List.map_congr_left
    intro i _
    simp only [Function.comp, IntKind.wrap_u32, IntKind.wrap_u64]
    omega

theorem comps_tks (C : List Int) : ∀ (n : Nat) (H bs : List Int), comps32 C (n + 1) H bs = (tks32 C (n + 1) (H.map IntKind.u32.wrap) bs).map IntKind.u64.wrap
  | 0, H, bs => (comp_tk C H bs).1
  | n + 1, H, bs => by
    show comps32 C (n + 1) (comp32 C H bs) (bs.drop 64) = (tks32 C (n + 1) (tk32 C (H.map IntKind.u32.wrap) bs) (bs.drop 64)).map IntKind.u64.wrap
    rw [comps_tks C n, (comp_tk C H bs).2]

theorem set_front {κ : IntKind} {cs : List Value} {xs : List Int} {i : Nat} (ht : cs.take i = ints κ (xs.take i)) (hi : i < xs.length) (hc : i < cs.length) : (cs.set i (.int κ (xs.getD i 0))).take (i + 1) = ints κ (xs.take (i + 1)) := by
  have hl : (xs.take i).length = i := by simp; omega
  have h1 : cs.take (xs.take i).length = ints κ (xs.take i) := by rw [hl]; exact ht
  have h2 := front_set h1 (by rw [hl]; exact hc) (xs.getD i 0)
  have h3 : xs.take i ++ [xs.getD i 0] = xs.take (i + 1) := by
    rw [List.take_add_one, List.getElem?_eq_getElem hi, List.getD_eq_getElem?_getD, List.getElem?_eq_getElem hi]; rfl
  rw [hl, h3] at h2
  have h4 : (xs.take (i + 1)).length = i + 1 := by simp; omega
  rw [h4] at h2; exact h2

theorem rn_l0 (K : Nat) {p1 : Sl} {h2 a4 : Addr} {gk : Nat} {C : List Int} (hC : C.length = 80) (hg : gk ≠ 2) :
    ∀ (d i n : Nat) (w : World) (cs : List Value), i + d = 64 → d < n → Rd w ⟨2, 0, none⟩ (ints .u64 C) → Bk 80 w gk cs → cs.length = 64 → cs.take i = ints .u32 ((kc32 C).take i) →
      ∃ w', ref01_narrow_l0 K n p1 h2 a4 ⟨gk, 0, none⟩ (i : Int) w = some ((), w') ∧ Bk 80 w' gk (ints .u32 (kc32 C)) ∧ Upd (· = gk) w w' := by
  intro d
  induction d with
  | zero =>
    intro i n w cs hi hn hT hb hc ht
    obtain ⟨n, rfl⟩ : ∃ m, n = m + 1 := ⟨n - 1, by omega⟩
    have : i = 64 := by omega
    subst this
    rw [List.take_of_length_le (by omega), List.take_of_length_le (by rw [kc32_len hC]; decide)] at ht
    refine ⟨w, ?_, ht ▸ hb, Upd.refl _ _⟩
    show ref01_narrow_l0_b K (ref01_narrow_l0 K n) p1 h2 a4 ⟨gk, 0, none⟩ ((64 : Nat) : Int) w = _
    simp [ref01_narrow_l0_b]
  | succ d ih =>
    intro i n w cs hi hn hT hb hc ht
    obtain ⟨n, rfl⟩ : ∃ m, n = m + 1 := ⟨n - 1, by omega⟩
    have hd : decide ((i : Int) < 64) = true := by simp; omega
    have e1 : IntKind.i64.wrap ((i : Int) + 1) = ((i + 1 : Nat) : Int) := by rw [w64 (by omega) (by omega)]; rfl
    have c80 : (0 : Int) ≤ (i : Int) ∧ (i : Int) < ((80 : Nat) : Int) := by omega
    have c64 : (0 : Int) ≤ (i : Int) ∧ (i : Int) < ((64 : Nat) : Int) := by omega
    have l0 : ldI .u64 ⟨2, i, none⟩ w = some (C.getD i 0) := by
      have := hT i (.int .u64 (C.getD i 0)) (by simp [ints, List.getD_eq_getElem?_getD, show i < C.length by omega])
      rw [add_lit, Nat.zero_add] at this
      simp [ldI, this, asI]
    obtain ⟨w1, s1, s2, s3⟩ := hb.stC (i := i) (by omega) (.int .u32 ((kc32 C).getD i 0))
    obtain ⟨w2, h1, h2', h3⟩ := ih (i + 1) n w1 _ (by omega) (by omega) (hT.upd s3 fun _ e => hg e.symm) s2 (by simpa using hc) (set_front ht (by rw [kc32_len hC]; omega) (by omega))
    refine ⟨w2, ?_, h2', s3.trans' h3 fun _ _ e => e⟩
    show ref01_narrow_l0_b K (ref01_narrow_l0 K n) p1 h2 a4 ⟨gk, 0, none⟩ (i : Int) w = _
    unfold ref01_narrow_l0_b
    rw [hd, if_pos rfl, if_pos c80]
    simp only [Int.toNat_natCast, add_lit, Nat.mul_one, Nat.zero_add]
    rw [l0, Option.bind_some, if_pos c64, ← kc32_get hC (show i < 64 by omega), s1, Option.bind_some, e1, h1]

theorem rn_l1 (K : Nat) {p1 : Sl} {a4 k5 : Addr} {gh gv : Nat} {H : List Int} (hH : H.length = 8) (hne : gh ≠ gv) :
    ∀ (d i n : Nat) (w : World) (cs : List Value), i + d = 8 → d < n → Bk 75 w gh (ints .u64 H) → Bk 82 w gv cs → cs.length = 8 → cs.take i = ints .u32 ((H.map IntKind.u32.wrap).take i) →
      ∃ w', ref01_narrow_l1 K n p1 ⟨gh, 0, none⟩ a4 k5 ⟨gv, 0, none⟩ (i : Int) w = some ((), w') ∧ Bk 82 w' gv (ints .u32 (H.map IntKind.u32.wrap)) ∧ Upd (· = gv) w w' := by
  intro d
  induction d with
  | zero =>
    intro i n w cs hi hn hbh hb hc ht
    obtain ⟨n, rfl⟩ : ∃ m, n = m + 1 := ⟨n - 1, by omega⟩
    have : i = 8 := by omega
    subst this
    rw [List.take_of_length_le (by omega), List.take_of_length_le (by simp [hH])] at ht
    refine ⟨w, ?_, ht ▸ hb, Upd.refl _ _⟩
    show ref01_narrow_l1_b K (ref01_narrow_l1 K n) p1 ⟨gh, 0, none⟩ a4 k5 ⟨gv, 0, none⟩ ((8 : Nat) : Int) w = _
    simp [ref01_narrow_l1_b]
  | succ d ih =>
    intro i n w cs hi hn hbh hb hc ht
    obtain ⟨n, rfl⟩ : ∃ m, n = m + 1 := ⟨n - 1, by omega⟩
    have hd : decide ((i : Int) < 8) = true := by simp; omega
    have e1 : IntKind.i64.wrap ((i : Int) + 1) = ((i + 1 : Nat) : Int) := by rw [w64 (by omega) (by omega)]; rfl
    have c0 : (0 : Int) ≤ (i : Int) ∧ (i : Int) < ((8 : Nat) : Int) := by omega
    have hi8 : i < H.length := by omega
    have l0 : ldI .u64 ⟨gh, i, none⟩ w = some (H.getD i 0) := hbh.ldI (by simp [ints, List.getD_eq_getElem?_getD, hi8])
    have hg : (H.map IntKind.u32.wrap).getD i 0 = IntKind.u32.wrap (H.getD i 0) := by
      rw [List.getD_eq_getElem?_getD, List.getElem?_map, List.getElem?_eq_getElem hi8, List.getD_eq_getElem?_getD, List.getElem?_eq_getElem hi8]; rfl
    obtain ⟨w1, s1, s2, s3⟩ := hb.stC (i := i) (by omega) (.int .u32 ((H.map IntKind.u32.wrap).getD i 0))
    obtain ⟨w2, h1, h2, h3⟩ := ih (i + 1) n w1 _ (by omega) (by omega) (hbh.upd s3 hne) s2 (by simpa using hc) (set_front ht (by simp [hH]; omega) (by omega))
    refine ⟨w2, ?_, h2, s3.trans' h3 fun _ _ e => e⟩
    show ref01_narrow_l1_b K (ref01_narrow_l1 K n) p1 ⟨gh, 0, none⟩ a4 k5 ⟨gv, 0, none⟩ (i : Int) w = _
    unfold ref01_narrow_l1_b
    rw [hd, if_pos rfl, if_pos c0]
    simp only [Int.toNat_natCast, add_lit, Nat.mul_one, Nat.zero_add]
    rw [l0, Option.bind_some, if_pos c0, ← hg, s1, Option.bind_some, e1, h1]

theorem rn_l3 (K : Nat) {a4 : Addr} {gh gv : Nat} {V : List Int} (hV : V.length = 8) (hne : gv ≠ gh) :
    ∀ (d i n : Nat) (w : World) (cs : List Value), i + d = 8 → d < n → Bk 82 w gv (ints .u32 V) → Bk 75 w gh cs → cs.length = 8 → cs.take i = ints .u64 ((V.map IntKind.u64.wrap).take i) →
      ∃ w', ref01_narrow_l3 K n ⟨gh, 0, none⟩ a4 ⟨gv, 0, none⟩ (i : Int) w = some ((), w') ∧ Bk 75 w' gh (ints .u64 (V.map IntKind.u64.wrap)) ∧ Upd (· = gh) w w' := by
  intro d
  induction d with
  | zero =>
    intro i n w cs hi hn hbh hb hc ht
    obtain ⟨n, rfl⟩ : ∃ m, n = m + 1 := ⟨n - 1, by omega⟩
    have : i = 8 := by omega
    subst this
    rw [List.take_of_length_le (by omega), List.take_of_length_le (by simp [hV])] at ht
    refine ⟨w, ?_, ht ▸ hb, Upd.refl _ _⟩
    show ref01_narrow_l3_b K (ref01_narrow_l3 K n) ⟨gh, 0, none⟩ a4 ⟨gv, 0, none⟩ ((8 : Nat) : Int) w = _
    simp [ref01_narrow_l3_b]
  | succ d ih =>
    intro i n w cs hi hn hbh hb hc ht
    obtain ⟨n, rfl⟩ : ∃ m, n = m + 1 := ⟨n - 1, by omega⟩
    have hd : decide ((i : Int) < 8) = true := by simp; omega
    have e1 : IntKind.i64.wrap ((i : Int) + 1) = ((i + 1 : Nat) : Int) := by rw [w64 (by omega) (by omega)]; rfl
    have c0 : (0 : Int) ≤ (i : Int) ∧ (i : Int) < ((8 : Nat) : Int) := by omega
    have hi8 : i < V.length := by omega
    have l0 : ldI .u32 ⟨gv, i, none⟩ w = some (V.getD i 0) := hbh.ldI (by simp [ints, List.getD_eq_getElem?_getD, hi8])
    have hg : (V.map IntKind.u64.wrap).getD i 0 = IntKind.u64.wrap (V.getD i 0) := by
      rw [List.getD_eq_getElem?_getD, List.getElem?_map, List.getElem?_eq_getElem hi8, List.getD_eq_getElem?_getD, List.getElem?_eq_getElem hi8]; rfl
    obtain ⟨w1, s1, s2, s3⟩ := hb.stC (i := i) (by omega) (.int .u64 ((V.map IntKind.u64.wrap).getD i 0))
    obtain ⟨w2, h1, h2, h3⟩ := ih (i + 1) n w1 _ (by omega) (by omega) (hbh.upd s3 hne) s2 (by simpa using hc) (set_front ht (by simp [hV]; omega) (by omega))
    refine ⟨w2, ?_, h2, s3.trans' h3 fun _ _ e => e⟩
    show ref01_narrow_l3_b K (ref01_narrow_l3 K n) ⟨gh, 0, none⟩ a4 ⟨gv, 0, none⟩ (i : Int) w = _
    unfold ref01_narrow_l3_b
    rw [hd, if_pos rfl, if_pos c0]
    simp only [Int.toNat_natCast, add_lit, Nat.mul_one, Nat.zero_add]
    rw [l0, Option.bind_some, if_pos c0, ← hg, s1, Option.bind_some, e1, h1]

theorem lay' {e : TypeId} {w : World} {g : Nat} {cs vs : List Value} (hb : Bk e w g cs) (hl : vs.length = cs.length) (h1 : ∀ v ∈ vs, v.oneCell' = true) :
    ∃ w', stA ⟨g, 0, none⟩ vs.toArray w = some w' ∧ Bk e w' g vs ∧ Upd (· = g) w w' ∧ ldA vs.length ⟨g, 0, none⟩ w' = some vs.toArray := by
  obtain ⟨w', a1, a2, a3⟩ := hb.stA (o := 0) (vs := vs.toArray) (by simp [hl]) (fun v hv => h1 v hv)
  have es : seg cs 0 vs = vs := by
    simp only [seg, List.take_zero, List.nil_append, Nat.zero_add]
    rw [List.drop_eq_nil_of_le (by omega), List.append_nil]
  have a2 : Bk e w' g vs := by rw [← es]; exact a2
  have hl := a2.ldA (i := 0) (n := vs.length) (by omega)
  rw [List.drop_zero, List.take_of_length_le (Nat.le_refl _)] at hl
  exact ⟨w', a1, a2, a3, hl⟩

theorem rn_l2 {K : Nat} (hK : 18446744073709551616 ≤ K) {p1 : Sl} {bs : List Int} {h2 a4 : Addr} {gk gv : Nat} {C : List Int} (hC : C.length = 80) (hkv : gk ≠ gv) (hlim : bs.length ≤ 140737488355328) {m0 : Nat} (hbs : bs.length = 64 * m0)
    (hpb : ∀ p, p1.a = some p → p.block ≠ gv) :
    ∀ (m j n : Nat) (w : World) (V : List Int), m + j = m0 → m < n → V.length = 8 → (∀ p, p1.a = some p → p.block < w.heap.size) → RdS .u8 w p1 bs → Bk 80 w gk (ints .u32 (kc32 C)) → Bk 82 w gv (ints .u32 V) →
      ∃ w', ref01_narrow_l2 K n p1 h2 a4 ⟨gk, 0, none⟩ ⟨gv, 0, none⟩ ((64 * j : Nat) : Int) w = some ((), w') ∧ Bk 82 w' gv (ints .u32 (tks32 C m V (bs.drop (64 * j)))) ∧ Upd (· = gv) w w' := by
  intro m
  induction m with
  | zero =>
    intro j n w V hj hn hV hpl hr hbk hb
    obtain ⟨n, rfl⟩ : ∃ m, n = m + 1 := ⟨n - 1, by omega⟩
    refine ⟨w, ?_, hb, Upd.refl _ _⟩
    have hd : decide ((((64 * j : Nat)) : Int) < ((p1.len : Nat) : Int)) = false := by rw [hr.len, hbs]; simp; omega
    show ref01_narrow_l2_b K (ref01_narrow_l2 K n) p1 h2 a4 ⟨gk, 0, none⟩ ⟨gv, 0, none⟩ ((64 * j : Nat) : Int) w = _
    unfold ref01_narrow_l2_b
    rw [hd, if_neg (by decide)]
  | succ m ih =>
    intro j n w V hj hn hV hpl hr hbk hb
    obtain ⟨n, rfl⟩ : ∃ m, n = m + 1 := ⟨n - 1, by omega⟩
    have hlen := hr.len
    have hcap := hr.cap
    have hd : decide ((((64 * j : Nat)) : Int) < ((p1.len : Nat) : Int)) = true := by rw [hlen, hbs]; simp; omega
    have e64 : IntKind.i64.wrap (((64 * j : Nat) : Int) + 64) = ((64 * j + 64 : Nat) : Int) := by rw [w64 (by omega) (by omega)]; omega
    have c1 : (0 : Int) ≤ ((64 * j + 64 : Nat) : Int) ∧ ((64 * j + 64 : Nat) : Int) ≤ ((p1.cap : Nat) : Int) := by omega
    have c2 : (0 : Int) ≤ ((64 * j : Nat) : Int) ∧ ((64 * j : Nat) : Int) ≤ ((64 * j + 64 : Nat) : Int) := by omega
    have hs := hr.drew.sub (lo := 64 * j) (hi := 64 * j + 64) (by omega) (by omega)
    have hx : ((bs.take (64 * j + 64)).drop (64 * j)).length = 64 := by simp; omega
    have hblk : ∀ q, sla p1.a (64 * j) p1.cap 1 = some q → q.block < w.drew.heap.size := by
      intro q hq
      unfold sla at hq
      split at hq
      · exact hpl q hq
      · cases hb' : p1.a with
        | none => rw [hb'] at hq; simp at hq
        | some p =>
          rw [hb'] at hq; simp at hq
          have : q.block = p.block := by rw [← hq]; unfold Addr.add; split <;> rfl
          rw [this]; exact hpl p hb'
    obtain ⟨w1, h1, u1⟩ := taken32_ok hK (w := w.drew) (b := ⟨sla p1.a (64 * j) p1.cap 1, 64 * j + 64 - 64 * j, p1.cap - 64 * j⟩) hx hV hC hblk hs
    have hwd : words32 ((bs.take (64 * j + 64)).drop (64 * j)) 16 = words32 (bs.drop (64 * j)) 16 := by
      have : ∀ n, n ≤ 16 → words32 ((bs.take (64 * j + 64)).drop (64 * j)) n = words32 (bs.drop (64 * j)) n := by
        intro n
        induction n with
        | zero => intro _; rfl
        | succ n ihn =>
          intro hn
          have g : ∀ q, q < 64 → ((bs.take (64 * j + 64)).drop (64 * j)).getD q 0 = (bs.drop (64 * j)).getD q 0 := fun q hq => by
            simp [List.getD_eq_getElem?_getD, List.getElem?_drop, List.getElem?_take, show 64 * j + q < 64 * j + 64 by omega]
          simp only [words32]
          rw [ihn (by omega), g _ (by omega), g _ (by omega), g _ (by omega), g _ (by omega)]
      exact this 16 (Nat.le_refl _)
    have htk : tk32 C V ((bs.take (64 * j + 64)).drop (64 * j)) = tk32 C V (bs.drop (64 * j)) := by unfold tk32; rw [hwd]
    rw [htk] at h1
    have hl8 : (ints .u32 (tk32 C V (bs.drop (64 * j)))).length = 8 := by rw [ints_length, tk32_len]
    obtain ⟨w2, a1, a2, a3, a4'⟩ := lay' (hb.drew.upd0 u1) (vs := ints .u32 (tk32 C V (bs.drop (64 * j)))) (by rw [hl8, ints_length, hV]) ints_one
    have u2 : Upd (· = gv) w w2 := (u1.predrew.mono fun _ _ e => e.elim).trans' a3 fun _ _ e => e
    obtain ⟨w3, h3, b3, u3⟩ := ih (j + 1) n w2 (tk32 C V (bs.drop (64 * j))) (by omega) (by omega) (tk32_len _ _ _) (fun p hp => by have := hpl p hp; have := u2.size; omega)
      (hr.upd u2 fun p hp e => hpb p hp e) (hbk.upd u2 fun e => hkv e) a2
    have lV := hb.drew.ldA (i := 0) (n := 8) (by rw [ints_length, hV]; decide)
    rw [List.drop_zero, List.take_of_length_le (by rw [ints_length, hV]; decide)] at lV
    have lK := hbk.drew.ldA (i := 0) (n := 64) (by rw [ints_length, kc32_len hC]; decide)
    rw [List.drop_zero, List.take_of_length_le (by rw [ints_length, kc32_len hC]; decide)] at lK
    refine ⟨w3, ?_, ?_, u2.trans' u3 fun _ _ e => e⟩
    · show ref01_narrow_l2_b K (ref01_narrow_l2 K n) p1 h2 a4 ⟨gk, 0, none⟩ ⟨gv, 0, none⟩ ((64 * j : Nat) : Int) w = _
      unfold ref01_narrow_l2_b
      rw [hd, if_pos rfl, e64]
      simp only [Int.toNat_natCast]
      have e64' : ((64 * j + 64 : Nat) : Int) = ((64 * (j + 1) : Nat) : Int) := by omega
      rw [if_pos c1, if_pos c2, lV, Option.bind_some, lK, Option.bind_some, h1, bnd_ok]
      show (if (ints .u32 (tk32 C V (bs.drop (64 * j)))).toArray.size = 8 then _ else none) = _
      rw [if_pos (by rw [List.size_toArray, hl8]), a1, Option.bind_some, e64', h3]
    · have : tks32 C (m + 1) V (bs.drop (64 * j)) = tks32 C m (tk32 C V (bs.drop (64 * j))) (bs.drop (64 * (j + 1))) := by
        show tks32 C m (tk32 C V (bs.drop (64 * j))) ((bs.drop (64 * j)).drop 64) = _
        rw [List.drop_drop]
        rfl
      rw [this]; exact b3

/-- the document's narrow: words of a number of blocks -/
theorem refNarrow_ok {K : Nat} (hK : 18446744073709551616 ≤ K) {w : World} {p1 : Sl} {bs H C : List Int} (hC : C.length = 80) (hH : H.length = 8) (hlim : bs.length ≤ 140737488355328) {m : Nat} (hbs : bs.length = 64 * (m + 1))
    (hpl : ∀ p, p1.a = some p → p.block < w.heap.size) (hr : RdS .u8 w p1 bs) (hT : Rd w ⟨2, 0, none⟩ (ints .u64 C)) :
    ∃ w', ref01_narrow K (ints .u64 H).toArray p1 w = some (((ints .u64 (comps32 C (m + 1) H bs)).toArray, ()), w') ∧ Upd none_ w w' := by
  have hRC : 2 < w.heap.size := hT.lt (fun e => by have := congrArg List.length e; simp [hC] at this)
  obtain ⟨w1, n1, b1, u1, z1⟩ := newB_ok (ints .u64 H).toArray 75 w
  obtain ⟨w2, n2, b2, u2, z2⟩ := newB_ok z75 75 w1
  obtain ⟨w3, n3, b3, u3, z3⟩ := newB_ok z80 80 w2
  have b1 : Bk 75 w1 w.heap.size (ints .u64 H) := b1
  have b2 : Bk 75 w2 w1.heap.size z75.toList := b2
  have b3 : Bk 80 w3 w2.heap.size z80.toList := b3
  have q3 : Upd none_ w w3 := (u1.and0 u2).and0 u3
  obtain ⟨w4, h4, b4, u4⟩ := rn_l0 K (p1 := p1) (h2 := ⟨w.heap.size, 0, none⟩) (a4 := ⟨w1.heap.size, 0, none⟩) (gk := w2.heap.size) hC (by omega) 64 0 K w3 _ rfl (by omega) (hT.upd q3 fun _ => id) b3 rfl (by simp)
  have h4 : ref01_narrow_l0 K K p1 ⟨w.heap.size, 0, none⟩ ⟨w1.heap.size, 0, none⟩ ⟨w2.heap.size, 0, none⟩ 0 w3 = _ := h4
  obtain ⟨w5, n5, b5, u5, z5⟩ := newB_ok z82 82 w4
  have b5 : Bk 82 w5 w4.heap.size z82.toList := b5
  have s4 := u4.size
  have d1 : ¬ w.heap.size = w2.heap.size := by omega
  have d2 : ¬ w1.heap.size = w2.heap.size := by omega
  have bH : Bk 75 w5 w.heap.size (ints .u64 H) := ((((b1.upd0 u2).upd0 u3).upd u4 d1).upd0 u5)
  have bO : Bk 75 w5 w1.heap.size z75.toList := (((b2.upd0 u3).upd u4 d2).upd0 u5)
  have bk : Bk 80 w5 w2.heap.size (ints .u32 (kc32 C)) := b4.upd0 u5
  obtain ⟨w6, h6, b6, u6⟩ := rn_l1 K (p1 := p1) (a4 := ⟨w1.heap.size, 0, none⟩) (k5 := ⟨w2.heap.size, 0, none⟩) (gh := w.heap.size) (gv := w4.heap.size) hH (by omega) 8 0 K w5 _ rfl (by omega) bH b5 rfl (by simp)
  have h6 : ref01_narrow_l1 K K p1 ⟨w.heap.size, 0, none⟩ ⟨w1.heap.size, 0, none⟩ ⟨w2.heap.size, 0, none⟩ ⟨w4.heap.size, 0, none⟩ 0 w5 = _ := h6
  have q6 : Upd none_ w w6 := ((q3.trans' u4 fun k hk e => by omega).and0 u5).trans' u6 fun k hk e => by omega
  have s6 := u6.size
  have d3 : ¬ w2.heap.size = w4.heap.size := by omega
  have d4 : ¬ w.heap.size = w4.heap.size := by omega
  have d5 : ¬ w1.heap.size = w4.heap.size := by omega
  have hVl : (H.map IntKind.u32.wrap).length = 8 := by rw [List.length_map, hH]
  obtain ⟨w7, h7, b7, u7⟩ := rn_l2 hK (p1 := p1) (h2 := ⟨w.heap.size, 0, none⟩) (a4 := ⟨w1.heap.size, 0, none⟩) (gk := w2.heap.size) (gv := w4.heap.size) hC d3 hlim hbs (fun p hp e => by have := hpl p hp; omega) (m + 1) 0 K w6 _ rfl (by omega) hVl
    (fun p hp => by have := hpl p hp; have := q6.size; omega) (hr.upd0 q6) (bk.upd u6 d3) b6
  have h7 : ref01_narrow_l2 K K p1 ⟨w.heap.size, 0, none⟩ ⟨w1.heap.size, 0, none⟩ ⟨w2.heap.size, 0, none⟩ ⟨w4.heap.size, 0, none⟩ 0 w6 = _ := h7
  have b7 : Bk 82 w7 w4.heap.size (ints .u32 (tks32 C (m + 1) (H.map IntKind.u32.wrap) bs)) := b7
  have s7 := u7.size
  obtain ⟨w8, h8, b8, u8⟩ := rn_l3 K (a4 := ⟨w1.heap.size, 0, none⟩) (gh := w.heap.size) (gv := w4.heap.size) (tks32_len C (m + 1) _ bs hVl) (fun e => d4 e.symm) 8 0 K w7 _ rfl (by omega) b7 ((bH.upd u6 d4).upd u7 d4) (by rw [ints_length, hH]) (by simp)
  have h8 : ref01_narrow_l3 K K ⟨w.heap.size, 0, none⟩ ⟨w1.heap.size, 0, none⟩ ⟨w4.heap.size, 0, none⟩ 0 w7 = _ := h8
  rw [← comps_tks] at b8
  have hl8 : (ints .u64 (comps32 C (m + 1) H bs)).length = 8 := by rw [ints_length, comps32_len C (m + 1) H bs hH]
  have lH := b8.ldA (i := 0) (n := 8) (by rw [hl8]; decide)
  rw [List.drop_zero, List.take_of_length_le (by rw [hl8]; decide)] at lH
  have d6 : ¬ w1.heap.size = w.heap.size := by omega
  obtain ⟨w9, a1, a2, a3, a4⟩ := lay' (((bO.upd u6 d5).upd u7 d5).upd u8 d6) (vs := ints .u64 (comps32 C (m + 1) H bs)) (by rw [hl8]; rfl) ints_one
  rw [hl8] at a4
  refine ⟨w9, ?_, ?_⟩
  · unfold ref01_narrow
    rw [n1, bnd_ok, n2, bnd_ok, n3, bnd_ok, h4, bnd_ok, n5, bnd_ok, h6, bnd_ok, h7, bnd_ok, h8, bnd_ok, lH, Option.bind_some, if_pos (by rw [List.size_toArray, hl8]), a1, Option.bind_some, a4, Option.bind_some]
  · exact ((q6.trans' u7 fun k hk e => by omega).trans' u8 fun k hk e => by omega).trans' a3 fun k hk e => by omega

end Go.Sh

/- The document's own answer: taken64: what it computes. -/
set_option linter.unusedVariables false
namespace Go.Sh
open Go.Fw Go.Sha Go.RowKit Go.Proofs.Tryd

theorem ref64_l1 (K : Nat) {b : Sl} {bs : List Int} (hbl : bs.length = 128) {h2 a4 : Addr} {gw i : Nat} (hi16 : i < 16) (hne : ∀ p, b.a = some p → p.block ≠ gw) {v : Int} {ws : List Int} (hws : ws.length = 80) :
    ∀ (d j n : Nat) (w : World), j + d = 8 → d < n → RdS .u8 w b bs → Bk 83 w gw (ints .u64 (ws.set i (word64 v bs (8 * i) j))) →
      ∃ w', ref01_taken64_l1 K n b h2 a4 ⟨gw, 0, none⟩ (i : Int) (j : Int) w = some ((), w') ∧ Bk 83 w' gw (ints .u64 (ws.set i (word64 v bs (8 * i) 8))) ∧ Upd (· = gw) w w' := by
  intro d
  induction d with
  | zero =>
    intro j n w hj hn hr hb
    obtain ⟨n, rfl⟩ : ∃ m, n = m + 1 := ⟨n - 1, by omega⟩
    have : j = 8 := by omega
    subst this
    refine ⟨w, ?_, hb, Upd.refl _ _⟩
    show ref01_taken64_l1_b K (ref01_taken64_l1 K n) b h2 a4 ⟨gw, 0, none⟩ (i : Int) ((8 : Nat) : Int) w = _
    simp [ref01_taken64_l1_b]
  | succ d ih =>
    intro j n w hj hn hr hb
    obtain ⟨n, rfl⟩ : ∃ m, n = m + 1 := ⟨n - 1, by omega⟩
    obtain ⟨p, hp, hl⟩ := rdD hr.drew
    have hxn : bs ≠ [] := fun e => by rw [e] at hbl; cases hbl
    have hlen := hr.len
    have hd : decide ((j : Int) < 8) = true := by simp; omega
    have e1 : IntKind.i64.wrap ((j : Int) + 1) = ((j + 1 : Nat) : Int) := by rw [w64 (by omega) (by omega)]; rfl
    have e8 : IntKind.i64.wrap (8 * (i : Int)) = ((8 * i : Nat) : Int) := by rw [w64 (by omega) (by omega)]; omega
    have e8j : IntKind.i64.wrap (((8 * i : Nat) : Int) + (j : Int)) = ((8 * i + j : Nat) : Int) := by rw [w64 (by omega) (by omega)]; omega
    have c1 : (0 : Int) ≤ ((8 * i + j : Nat) : Int) ∧ ((8 * i + j : Nat) : Int) < ((b.len : Nat) : Int) := by omega
    have c2 : (0 : Int) ≤ (i : Int) ∧ (i : Int) < ((80 : Nat) : Int) := by omega
    have lx := hl (8 * i + j) (by omega)
    have lw : ldI .u64 ⟨gw, i, none⟩ w.drew = some (word64 v bs (8 * i) j) := hb.drew.ldI (by simp [ints, hws, show i < 80 by omega])
    obtain ⟨w1, s1, s2, s3⟩ := hb.drew.stC (i := i) (by rw [ints_length, List.length_set, hws]; omega) (.int .u64 (word64 v bs (8 * i) (j + 1)))
    rw [ints_set, List.set_set] at s2
    obtain ⟨w2, h1, h2', h3⟩ := ih (j + 1) n w1 (by omega) (by omega) (hr.drew.upd s3 fun q hq e => hne q hq e) s2
    refine ⟨w2, ?_, h2', s3.predrew.trans' h3 fun _ _ e => e⟩
    show ref01_taken64_l1_b K (ref01_taken64_l1 K n) b h2 a4 ⟨gw, 0, none⟩ (i : Int) (j : Int) w = _
    unfold ref01_taken64_l1_b
    rw [hd, if_pos rfl, if_pos c2, hp hxn, Option.bind_some, e8, e8j, if_pos c1]
    simp only [Int.toNat_natCast, add_lit, Nat.mul_one, Nat.zero_add]
    rw [lw, Option.bind_some, lx, Option.bind_some, if_pos c2]
    show (stC ⟨gw, i, none⟩ (.int .u64 (word64 v bs (8 * i) (j + 1))) w.drew).bind _ = _
    rw [s1, Option.bind_some, e1, h1]

theorem ref64_l0 {K : Nat} (hK : 18446744073709551616 ≤ K) {b : Sl} {bs : List Int} (hin : ∀ i, InK .u8 (bs.getD i 0)) (hbl : bs.length = 128) {h2 a4 : Addr} {gw : Nat} (hne : ∀ p, b.a = some p → p.block ≠ gw) :
    ∀ (d i n : Nat) (w : World) (ws : List Int), i + d = 16 → d < n → RdS .u8 w b bs → Bk 83 w gw (ints .u64 ws) → ws.length = 80 → ws.take i = words64 bs i →
      ∃ w' ws', ref01_taken64_l0 K n b h2 a4 ⟨gw, 0, none⟩ (i : Int) w = some ((), w') ∧ Bk 83 w' gw (ints .u64 ws') ∧ ws'.length = 80 ∧ ws'.take 16 = words64 bs 16 ∧ Upd (· = gw) w w' := by
  intro d
  induction d with
  | zero =>
    intro i n w ws hi hn hr hb hc ht
    obtain ⟨n, rfl⟩ : ∃ m, n = m + 1 := ⟨n - 1, by omega⟩
    have : i = 16 := by omega
    subst this
    refine ⟨w, ws, ?_, hb, hc, ht, Upd.refl _ _⟩
    show ref01_taken64_l0_b K (ref01_taken64_l0 K n) b h2 a4 ⟨gw, 0, none⟩ ((16 : Nat) : Int) w = _
    simp [ref01_taken64_l0_b]
  | succ d ih =>
    intro i n w ws hi hn hr hb hc ht
    obtain ⟨n, rfl⟩ : ∃ m, n = m + 1 := ⟨n - 1, by omega⟩
    have hd : decide ((i : Int) < 16) = true := by simp; omega
    have e1 : IntKind.i64.wrap ((i : Int) + 1) = ((i + 1 : Nat) : Int) := by rw [w64 (by omega) (by omega)]; rfl
    have hb0 : Bk 83 w gw (ints .u64 (ws.set i (word64 (ws.getD i 0) bs (8 * i) 0))) := by
      have : ws.set i (word64 (ws.getD i 0) bs (8 * i) 0) = ws := by
        show ws.set i (ws.getD i 0) = ws
        rw [List.getD_eq_getElem?_getD, List.getElem?_eq_getElem (show i < ws.length by omega)]
        exact List.set_getElem_self _
      rw [this]; exact hb
    obtain ⟨w1, h1, b1, u1⟩ := ref64_l1 K (h2 := h2) (a4 := a4) hbl (i := i) (by omega) hne (v := ws.getD i 0) hc 8 0 K w rfl (by omega) hr hb0
    have h1 : ref01_taken64_l1 K K b h2 a4 ⟨gw, 0, none⟩ (i : Int) 0 w = _ := h1
    rw [word64_any hin] at b1
    have ht1 : (ws.set i (word64 0 bs (8 * i) 8)).take (i + 1) = words64 bs (i + 1) := by
      rw [List.take_add_one, List.take_set_of_le (Nat.le_refl _), ht]
      simp [words64, show i < ws.length by omega]
    obtain ⟨w2, ws2, h3, b2, l2, t2, u2⟩ := ih (i + 1) n w1 _ (by omega) (by omega) (hr.upd u1 fun q hq e => hne q hq e) b1 (by simpa using hc) ht1
    refine ⟨w2, ws2, ?_, b2, l2, t2, u1.trans' u2 fun _ _ e => e⟩
    show ref01_taken64_l0_b K (ref01_taken64_l0 K n) b h2 a4 ⟨gw, 0, none⟩ (i : Int) w = _
    unfold ref01_taken64_l0_b
    rw [hd, if_pos rfl, h1, bnd_ok, e1, h3]

theorem ref64_l2 (K : Nat) {h2 a4 : Addr} {gw : Nat} :
    ∀ (d n : Nat) (w : World) (cs : List Value) (S : List Int), S.length + d = 80 → 16 ≤ S.length → d < n → Bk 83 w gw cs → cs.length = 80 → cs.take S.length = ints .u64 S →
      ∃ w' cs', ref01_taken64_l2 K n h2 a4 ⟨gw, 0, none⟩ ((S.length : Nat) : Int) w = some ((), w') ∧ Bk 83 w' gw cs' ∧ cs' = ints .u64 (ext64 d S) ∧ Upd (· = gw) w w' := by
  intro d
  induction d with
  | zero =>
    intro n w cs S hi h16 hn hb hc ht
    obtain ⟨n, rfl⟩ : ∃ m, n = m + 1 := ⟨n - 1, by omega⟩
    have hS : S.length = 80 := by omega
    refine ⟨w, cs, ?_, hb, ?_, Upd.refl _ _⟩
    · show ref01_taken64_l2_b K (ref01_taken64_l2 K n) h2 a4 ⟨gw, 0, none⟩ ((S.length : Nat) : Int) w = _
      rw [hS]
      simp [ref01_taken64_l2_b]
    · rw [hS, List.take_of_length_le (by omega)] at ht; exact ht
  | succ d ih =>
    intro n w cs S hi h16 hn hb hc ht
    obtain ⟨n, rfl⟩ : ∃ m, n = m + 1 := ⟨n - 1, by omega⟩
    have hd : decide (((S.length : Nat) : Int) < 80) = true := by simp; omega
    have e15 : IntKind.i64.wrap (((S.length : Nat) : Int) - 15) = ((S.length - 15 : Nat) : Int) := by rw [w64 (by omega) (by omega)]; omega
    have e2 : IntKind.i64.wrap (((S.length : Nat) : Int) - 2) = ((S.length - 2 : Nat) : Int) := by rw [w64 (by omega) (by omega)]; omega
    have e16 : IntKind.i64.wrap (((S.length : Nat) : Int) - 16) = ((S.length - 16 : Nat) : Int) := by rw [w64 (by omega) (by omega)]; omega
    have e7 : IntKind.i64.wrap (((S.length : Nat) : Int) - 7) = ((S.length - 7 : Nat) : Int) := by rw [w64 (by omega) (by omega)]; omega
    have e1 : IntKind.i64.wrap (((S.length : Nat) : Int) + 1) = ((S.length + 1 : Nat) : Int) := by rw [w64 (by omega) (by omega)]; rfl
    have c15 : (0 : Int) ≤ ((S.length - 15 : Nat) : Int) ∧ ((S.length - 15 : Nat) : Int) < ((80 : Nat) : Int) := by omega
    have c2 : (0 : Int) ≤ ((S.length - 2 : Nat) : Int) ∧ ((S.length - 2 : Nat) : Int) < ((80 : Nat) : Int) := by omega
    have c16 : (0 : Int) ≤ ((S.length - 16 : Nat) : Int) ∧ ((S.length - 16 : Nat) : Int) < ((80 : Nat) : Int) := by omega
    have c7 : (0 : Int) ≤ ((S.length - 7 : Nat) : Int) ∧ ((S.length - 7 : Nat) : Int) < ((80 : Nat) : Int) := by omega
    have c0 : (0 : Int) ≤ ((S.length : Nat) : Int) ∧ ((S.length : Nat) : Int) < ((80 : Nat) : Int) := by omega
    have l15 := hb.ldI (row_front ht (i := S.length - 15) (by omega))
    have l2 := hb.ldI (row_front ht (i := S.length - 2) (by omega))
    have l16 := hb.drew.ldI (row_front ht (i := S.length - 16) (by omega))
    have l7 := hb.drew.ldI (row_front ht (i := S.length - 7) (by omega))
    let x := sch64 (S.getD (S.length - 15) 0) (S.getD (S.length - 2) 0) (S.getD (S.length - 16) 0) (S.getD (S.length - 7) 0)
    obtain ⟨w1, s1, s2, s3⟩ := hb.drew.stC (i := S.length) (by omega) (.int .u64 x)
    have hfs := front_set ht (by omega) x
    have hSl : (S ++ [x]).length = S.length + 1 := by simp
    obtain ⟨w2, cs2, h1, b2, h4, h5⟩ := ih n w1 _ (S ++ [x]) (by rw [hSl]; omega) (by rw [hSl]; omega) (by omega) s2 (by simpa using hc) hfs
    rw [hSl] at h1
    refine ⟨w2, cs2, ?_, b2, by rw [h4]; rfl, s3.predrew.trans' h5 fun _ _ e => e⟩
    show ref01_taken64_l2_b K (ref01_taken64_l2 K n) h2 a4 ⟨gw, 0, none⟩ ((S.length : Nat) : Int) w = _
    unfold ref01_taken64_l2_b
    rw [hd, if_pos rfl, e15, e2, e16, e7]
    simp only [Int.toNat_natCast, add_lit, Nat.mul_one, Nat.zero_add]
    rw [if_pos c15, l15, Option.bind_some, if_pos c2, l2, Option.bind_some, if_pos c7, if_pos c16, l7, Option.bind_some, l16, Option.bind_some, if_pos c0]
    have r19 : bits .or .u64 (Int.fdiv (S.getD (S.length - 2) 0) (2 ^ 19)) (IntKind.u64.wrap ((S.getD (S.length - 2) 0) * 2 ^ 45)) = rr64 (S.getD (S.length - 2) 0) 19 := rr64_or _ 19
    have r61 : bits .or .u64 (Int.fdiv (S.getD (S.length - 2) 0) (2 ^ 61)) (IntKind.u64.wrap ((S.getD (S.length - 2) 0) * 2 ^ 3)) = rr64 (S.getD (S.length - 2) 0) 61 := rr64_or _ 61
    have r1 : bits .or .u64 (Int.fdiv (S.getD (S.length - 15) 0) (2 ^ 1)) (IntKind.u64.wrap ((S.getD (S.length - 15) 0) * 2 ^ 63)) = rr64 (S.getD (S.length - 15) 0) 1 := rr64_or _ 1
    have r8 : bits .or .u64 (Int.fdiv (S.getD (S.length - 15) 0) (2 ^ 8)) (IntKind.u64.wrap ((S.getD (S.length - 15) 0) * 2 ^ 56)) = rr64 (S.getD (S.length - 15) 0) 8 := rr64_or _ 8
    rw [r19, r61, r1, r8]
    have hx := sch64_ref (S.getD (S.length - 15) 0) (S.getD (S.length - 2) 0) (S.getD (S.length - 16) 0) (S.getD (S.length - 7) 0)
    rw [hx, s1, Option.bind_some, e1, h1]

theorem ref64_l3 (K : Nat) {h2 a4 : Addr} {gw : Nat} {W C : List Int} (hW : W.length = 80) (hC : C.length = 80) :
    ∀ (m i n : Nat) (w : World) (a b c d e f g z : Int), i + m = 80 → m < n → Bk 83 w gw (ints .u64 W) → Rd w ⟨2, 0, none⟩ (ints .u64 C) →
      ∃ w', ref01_taken64_l3 K n h2 a4 ⟨gw, 0, none⟩ a b c d e f g z (i : Int) w = some (rounds64 W C m i a b c d e f g z, w') ∧ Upd none_ w w' := by
  intro m
  induction m with
  | zero =>
    intro i n w a b c d e f g z hi hn hb hk
    obtain ⟨n, rfl⟩ : ∃ m, n = m + 1 := ⟨n - 1, by omega⟩
    have : i = 80 := by omega
    subst this
    refine ⟨w, ?_, Upd.refl _ _⟩
    show ref01_taken64_l3_b K (ref01_taken64_l3 K n) h2 a4 ⟨gw, 0, none⟩ a b c d e f g z ((80 : Nat) : Int) w = _
    simp [ref01_taken64_l3_b, rounds64]
  | succ m ih =>
    intro i n w a b c d e f g z hi hn hb hk
    obtain ⟨n, rfl⟩ : ∃ m, n = m + 1 := ⟨n - 1, by omega⟩
    have hd : decide ((i : Int) < 80) = true := by simp; omega
    have e1 : IntKind.i64.wrap ((i : Int) + 1) = ((i + 1 : Nat) : Int) := by rw [w64 (by omega) (by omega)]; rfl
    have c64 : (0 : Int) ≤ (i : Int) ∧ (i : Int) < ((80 : Nat) : Int) := by omega
    have lk : ldI .u64 ⟨2, i, none⟩ w.drew = some (C.getD i 0) := by
      have := hk i (.int .u64 (C.getD i 0)) (by simp [ints, List.getD_eq_getElem?_getD, show i < C.length by omega])
      rw [add_lit, Nat.zero_add] at this
      have h9 : w.drew.cell? ⟨2, i, none⟩ = some (.int .u64 (C.getD i 0)) := this
      simp [ldI, h9, asI]
    have lw : ldI .u64 ⟨gw, i, none⟩ w.drew = some (W.getD i 0) := hb.drew.ldI (by simp [ints, List.getD_eq_getElem?_getD, show i < W.length by omega])
    obtain ⟨w1, h1, u1⟩ := ih (i + 1) n w.drew (IntKind.u64.wrap (t1_64 e f g z (C.getD i 0) (W.getD i 0) + t2_64 a b c)) a b c
      (IntKind.u64.wrap (d + t1_64 e f g z (C.getD i 0) (W.getD i 0))) e f g (by omega) (by omega) hb.drew (hk.upd (S := none_) (Upd.refl _ _).drew fun _ => id)
    refine ⟨w1, ?_, u1.predrew⟩
    show ref01_taken64_l3_b K (ref01_taken64_l3 K n) h2 a4 ⟨gw, 0, none⟩ a b c d e f g z (i : Int) w = _
    unfold ref01_taken64_l3_b
    rw [hd, if_pos rfl, if_pos c64, if_pos c64]
    simp only [Int.toNat_natCast, add_lit, Nat.mul_one, Nat.zero_add]
    rw [lk, Option.bind_some, lw, Option.bind_some, e1]
    have r14 : bits .or .u64 (Int.fdiv e (2 ^ 14)) (IntKind.u64.wrap (e * 2 ^ 50)) = rr64 e 14 := rr64_or e 14
    have r18 : bits .or .u64 (Int.fdiv e (2 ^ 18)) (IntKind.u64.wrap (e * 2 ^ 46)) = rr64 e 18 := rr64_or e 18
    have r41 : bits .or .u64 (Int.fdiv e (2 ^ 41)) (IntKind.u64.wrap (e * 2 ^ 23)) = rr64 e 41 := rr64_or e 41
    have r28 : bits .or .u64 (Int.fdiv a (2 ^ 28)) (IntKind.u64.wrap (a * 2 ^ 36)) = rr64 a 28 := rr64_or a 28
    have r34 : bits .or .u64 (Int.fdiv a (2 ^ 34)) (IntKind.u64.wrap (a * 2 ^ 30)) = rr64 a 34 := rr64_or a 34
    have r39 : bits .or .u64 (Int.fdiv a (2 ^ 39)) (IntKind.u64.wrap (a * 2 ^ 25)) = rr64 a 39 := rr64_or a 39
    rw [r14, r18, r41, r28, r34, r39, ch_or (k := .u64) rfl _ all64, maj_or (k := .u64) rfl]
    exact h1

theorem taken64_ok {K : Nat} (hK : 18446744073709551616 ≤ K) {w : World} {b : Sl} {bs V C : List Int} (hin : ∀ i, InK .u8 (bs.getD i 0)) (hbl : bs.length = 128) (hV : V.length = 8) (hC : C.length = 80) (hbv : ∀ p, b.a = some p → p.block < w.heap.size) (hr : RdS .u8 w b bs) (hT : Rd w ⟨2, 0, none⟩ (ints .u64 C)) :
    ∃ w', ref01_taken64 K (ints .u64 V).toArray b w = some (((ints .u64 (comp64 C V bs)).toArray, ()), w') ∧ Upd none_ w w' := by
  have hRC : 2 < w.heap.size := hT.lt (fun e => by have := congrArg List.length e; simp [hC] at this)
  obtain ⟨w1, n1, b1, u1, z1⟩ := newB_ok (ints .u64 V).toArray 75 w
  obtain ⟨w2, n2, b2, u2, z2⟩ := newB_ok z75 75 w1
  obtain ⟨w3, n3, b3, u3, z3⟩ := newB_ok z83 83 w2
  have b1 : Bk 75 w1 w.heap.size (ints .u64 V) := b1
  have b2 : Bk 75 w2 w1.heap.size z75.toList := b2
  have b3 : Bk 83 w3 w2.heap.size (ints .u64 (List.replicate 80 0)) := by
    have e : z83.toList = ints .u64 (List.replicate 80 0) := by simp [z83, ints]
    rw [← e]; exact b3
  have q3 : Upd none_ w w3 := (u1.and0 u2).and0 u3
  obtain ⟨w5, c5, h5, b5, l5, t5, u5⟩ := ref64_l0 hK (h2 := ⟨w.heap.size, 0, none⟩) (a4 := ⟨w1.heap.size, 0, none⟩) hin hbl (gw := w2.heap.size) (fun p hp e => by have := hbv p hp; omega) 16 0 K w3 (List.replicate 80 0) rfl (by omega) (hr.upd0 q3) b3 (by simp) (by simp [words64])
  have h5 : ref01_taken64_l0 K K b ⟨w.heap.size, 0, none⟩ ⟨w1.heap.size, 0, none⟩ ⟨w2.heap.size, 0, none⟩ 0 w3 = _ := h5
  obtain ⟨w6, c6, h6, b6, t6, u6⟩ := ref64_l2 K (h2 := ⟨w.heap.size, 0, none⟩) (a4 := ⟨w1.heap.size, 0, none⟩) 64 K w5 (ints .u64 c5) (words64 bs 16) (by rw [words64_len]) (by rw [words64_len]; decide) (by omega) b5 (by rw [ints_length]; exact l5) (by rw [words64_len, ints_take, t5])
  rw [words64_len] at h6
  have h6 : ref01_taken64_l2 K K ⟨w.heap.size, 0, none⟩ ⟨w1.heap.size, 0, none⟩ ⟨w2.heap.size, 0, none⟩ 16 w5 = _ := h6
  rw [t6] at b6
  have n13 : ¬ w.heap.size = w2.heap.size := by omega
  have n23 : ¬ w1.heap.size = w2.heap.size := by omega
  have bV : Bk 75 w6 w.heap.size (ints .u64 V) := ((((b1.upd0 u2).upd0 u3).upd u5 n13).upd u6 n13)
  have bO : Bk 75 w6 w1.heap.size z75.toList := (((b2.upd0 u3).upd u5 n23).upd u6 n23)
  have q6 : Upd none_ w w6 := (q3.trans' u5 fun k hk e => by omega).trans' u6 fun k hk e => by omega
  have gv : ∀ i, i < 8 → (ints .u64 V)[i]? = some (.int .u64 (V.getD i 0)) := fun i hi => by
    have : i < V.length := by omega
    rw [ints, List.getElem?_map, List.getElem?_eq_getElem this, List.getD_eq_getElem?_getD, List.getElem?_eq_getElem this]; rfl
  have h7x := ref64_l3 K (h2 := ⟨w.heap.size, 0, none⟩) (a4 := ⟨w1.heap.size, 0, none⟩) (gw := w2.heap.size) (W := ext64 64 (words64 bs 16)) (C := C) (by rw [ext64_len, words64_len]) hC 80 0 K w6.drew.drew (V.getD 0 0) (V.getD 1 0) (V.getD 2 0) (V.getD 3 0) (V.getD 4 0) (V.getD 5 0) (V.getD 6 0) (V.getD 7 0) rfl (by omega) b6.drew.drew (hT.upd (S := none_) q6.drew.drew fun _ => id)
  obtain ⟨y, hy⟩ : ∃ y, rv64 C V bs = y := ⟨_, rfl⟩
  unfold rv64 at hy
  rw [hy] at h7x
  obtain ⟨w7, h7, u7⟩ := h7x
  have h7 : ref01_taken64_l3 K K ⟨w.heap.size, 0, none⟩ ⟨w1.heap.size, 0, none⟩ ⟨w2.heap.size, 0, none⟩ (V.getD 0 0) (V.getD 1 0) (V.getD 2 0) (V.getD 3 0) (V.getD 4 0) (V.getD 5 0) (V.getD 6 0) (V.getD 7 0) 0 w6.drew.drew = some (y, w7) := h7
  have hc : comp64 C V bs = sum8w V (list8 y) := by unfold comp64 rv64; rw [hy]
  have hl8 : (ints .u64 (sum8w V (list8 y))).length = 8 := by simp [ints, sum8w]
  have bV7 : Bk 75 w7 w.heap.size (ints .u64 V) := bV.drew.drew.upd0 u7
  have bO7 : Bk 75 w7 w1.heap.size z75.toList := bO.drew.drew.upd0 u7
  obtain ⟨w8, a1, a2, a3, a4⟩ := lay' bO7 (vs := ints .u64 (sum8w V (list8 y))) (by rw [hl8]; rfl) ints_one
  rw [hl8] at a4
  have hsum : [IntKind.u64.wrap (V.getD 0 0 + y.1), IntKind.u64.wrap (V.getD 1 0 + y.2.1), IntKind.u64.wrap (V.getD 2 0 + y.2.2.1), IntKind.u64.wrap (V.getD 3 0 + y.2.2.2.1), IntKind.u64.wrap (V.getD 4 0 + y.2.2.2.2.1), IntKind.u64.wrap (V.getD 5 0 + y.2.2.2.2.2.1), IntKind.u64.wrap (V.getD 6 0 + y.2.2.2.2.2.2.1), IntKind.u64.wrap (V.getD 7 0 + y.2.2.2.2.2.2.2.1)] = sum8w V (list8 y) := rfl
  refine ⟨w8, ?_, ?_⟩
  · unfold ref01_taken64
    rw [n1, bnd_ok, n2, bnd_ok, n3, bnd_ok, h5, bnd_ok, h6, bnd_ok]
    simp only [add_lit, Nat.zero_mul, Nat.one_mul, Nat.add_zero, Nat.zero_add, Nat.reduceMul]
    rw [bV.drew.ldI (gv 0 (by decide)), Option.bind_some, bV.drew.ldI (gv 1 (by decide)), Option.bind_some, bV.drew.ldI (gv 2 (by decide)), Option.bind_some, bV.drew.ldI (gv 3 (by decide)), Option.bind_some,
      bV.drew.drew.ldI (gv 4 (by decide)), Option.bind_some, bV.drew.drew.ldI (gv 5 (by decide)), Option.bind_some, bV.drew.drew.ldI (gv 6 (by decide)), Option.bind_some, bV.drew.drew.ldI (gv 7 (by decide)), Option.bind_some,
      h7, bnd_ok, bV7.ldI (gv 0 (by decide)), Option.bind_some, bV7.ldI (gv 1 (by decide)), Option.bind_some, bV7.ldI (gv 2 (by decide)), Option.bind_some, bV7.ldI (gv 3 (by decide)), Option.bind_some,
      bV7.ldI (gv 4 (by decide)), Option.bind_some, bV7.ldI (gv 5 (by decide)), Option.bind_some, bV7.ldI (gv 6 (by decide)), Option.bind_some, bV7.ldI (gv 7 (by decide)), Option.bind_some, built75, Option.bind_some, hsum,
      if_pos (by rw [List.size_toArray, hl8]), a1, Option.bind_some, a4, Option.bind_some, hc]
  · exact (q6.drew.drew.and0 u7).trans' a3 fun k hk e => by omega

end Go.Sh

/- Kinds of digests: what kindOf, Size and Block of package digest compute; 'cofferlaw01.DigestSizes': what the walk computes. -/
set_option linter.unusedVariables false
namespace Go.Sh
open Go.Fw Go.RowKit Go.Proofs.Tryd

/-- the cells of a kind -/
def kc (h : Int) : List Value :=
  if h = 224 then [.int .i64 28, .int .i64 64, .int .i64 4, .func (.func 37) #[] #[]]
  else if h = 256 then [.int .i64 32, .int .i64 64, .int .i64 4, .func (.func 37) #[] #[]]
  else if h = 384 then [.int .i64 48, .int .i64 128, .int .i64 8, .func (.func 38) #[] #[]]
  else if h = 512 then [.int .i64 64, .int .i64 128, .int .i64 8, .func (.func 38) #[] #[]]
  else [.int .i64 0, .int .i64 0, .int .i64 0, .nilFunc]

def known (h : Int) : Bool := h == 224 || h == 256 || h == 384 || h == 512

theorem kc_len (h : Int) : (kc h).length = 4 := by
  unfold kc; repeat' split
  all_goals rfl
theorem kc_one (h : Int) : ∀ v ∈ kc h, v.oneCell' = true := by
  unfold kc
  repeat' split
  all_goals (intro v hv; simp at hv; rcases hv with rfl | rfl | rfl | rfl <;> rfl)

theorem z77_eq : z56.toList = [.int .i64 0, .int .i64 0, .int .i64 0, .nilFunc] := rfl

theorem built224 : prog.built 56 [(0, (.int .i64 (IntKind.i64.wrap (Int.tdiv 224 8)))), (1, (.int .i64 64)), (2, (.int .i64 4)), (3, (.func (.func 37) #[] #[]))] = some (kc 224).toArray := by kernel_rfl
theorem built256 : prog.built 56 [(0, (.int .i64 (IntKind.i64.wrap (Int.tdiv 256 8)))), (1, (.int .i64 64)), (2, (.int .i64 4)), (3, (.func (.func 37) #[] #[]))] = some (kc 256).toArray := by kernel_rfl
theorem built384 : prog.built 56 [(0, (.int .i64 (IntKind.i64.wrap (Int.tdiv 384 8)))), (1, (.int .i64 128)), (2, (.int .i64 8)), (3, (.func (.func 38) #[] #[]))] = some (kc 384).toArray := by kernel_rfl
theorem built512 : prog.built 56 [(0, (.int .i64 (IntKind.i64.wrap (Int.tdiv 512 8)))), (1, (.int .i64 128)), (2, (.int .i64 8)), (3, (.func (.func 38) #[] #[]))] = some (kc 512).toArray := by kernel_rfl
theorem built0 : prog.built 56 [] = some #[.int .i64 0, .int .i64 0, .int .i64 0, .nilFunc] := by kernel_rfl

theorem kc_other {h : Int} (hk : known h = false) : kc h = [.int .i64 0, .int .i64 0, .int .i64 0, .nilFunc] := by
  simp [known] at hk
  unfold kc
  rw [if_neg hk.1.1.1, if_neg hk.1.1.2, if_neg hk.1.2, if_neg hk.2]

/-- a row of cells laid over a new block of as many -/
theorem lay {e : TypeId} {w : World} {g : Nat} {cs vs : List Value} (hb : Bk e w g cs) (hl : vs.length = cs.length) (h1 : ∀ v ∈ vs, v.oneCell' = true) :
    ∃ w', stA ⟨g, 0, none⟩ vs.toArray w = some w' ∧ Bk e w' g vs ∧ Upd (· = g) w w' ∧ ldA vs.length ⟨g, 0, none⟩ w' = some vs.toArray := by
  obtain ⟨w', a1, a2, a3⟩ := hb.stA (o := 0) (vs := vs.toArray) (by simp [hl]) (fun v hv => h1 v hv)
  have es : seg cs 0 vs = vs := by
    simp only [seg, List.take_zero, List.nil_append, Nat.zero_add]
    rw [List.drop_eq_nil_of_le (by omega), List.append_nil]
  have a2 : Bk e w' g vs := by rw [← es]; exact a2
  have hl := a2.ldA (i := 0) (n := vs.length) (by omega)
  rw [List.drop_zero, List.take_of_length_le (Nat.le_refl _)] at hl
  exact ⟨w', a1, a2, a3, hl⟩

/-- the end of kindOf: the cells are laid and read -/
theorem kindOf_end {w : World} {cs : List Value} (v : List Value) (b : Bool) (hc : cs.length = 4) {g : Nat} (hb : Bk 56 w g cs) (hv : v.length = 4) (h1 : ∀ x ∈ v, x.oneCell' = true) :
    ∃ w', (if (v.toArray).size = 4 then ((stA ⟨g, 0, none⟩ v.toArray w).bind fun w_6 => (ldA 4 ⟨g, 0, none⟩ w_6).bind fun res_7 => some ((res_7, b, ()), w_6)) else none) = some ((v.toArray, b, ()), w') ∧ Upd (· = g) w w' := by
  obtain ⟨w', a1, a2, a3, a4⟩ := lay hb (by omega) h1
  rw [hv] at a4
  refine ⟨w', ?_, a3⟩
  rw [if_pos (by simpa using hv), a1, Option.bind_some, a4, Option.bind_some]

theorem kindOf_ok (h : Int) (w : World) : ∃ w', digest_kindOf h w = some (((kc h).toArray, known h, ()), w') ∧ Upd none_ w w' := by
  obtain ⟨w1, n1, b1, u1, z1⟩ := newB_ok z56 56 w
  have b1 : Bk 56 w1 w.heap.size z56.toList := b1
  obtain ⟨w2, e2, u2⟩ := kindOf_end (kc h) (known h) (by rw [z77_eq]; rfl) b1 (kc_len h) (kc_one h)
  refine ⟨w2, ?_, u1.trans' u2 fun k hk e => by omega⟩
  unfold digest_kindOf
  rw [n1, bnd_ok]
  by_cases c1 : h = 224
  · subst c1
    have s0 : digest_kindOf_s0 224 ((224 : Int) == 224) w1 = some ((true, ()), w1) := rfl
    rw [s0, bnd_ok, if_pos rfl, built224, Option.bind_some]
    exact e2
  by_cases c2 : h = 256
  · subst c2
    have s0 : digest_kindOf_s0 256 ((256 : Int) == 224) w1 = some ((true, ()), w1) := rfl
    rw [s0, bnd_ok, if_pos rfl, built256, Option.bind_some]
    exact e2
  have s0 : digest_kindOf_s0 h (h == 224) w1 = some ((false, ()), w1) := by
    have q1 : (h == 224) = false := by simpa using c1
    have q2 : (h == 256) = false := by simpa using c2
    unfold digest_kindOf_s0; rw [q1, q2]; rfl
  rw [s0, bnd_ok, if_neg (by decide)]
  by_cases c3 : h = 384
  · subst c3
    have s1 : digest_kindOf_s1 384 ((384 : Int) == 384) w1 = some ((true, ()), w1) := rfl
    rw [s1, bnd_ok, if_pos rfl, built384, Option.bind_some]
    exact e2
  by_cases c4 : h = 512
  · subst c4
    have s1 : digest_kindOf_s1 512 ((512 : Int) == 384) w1 = some ((true, ()), w1) := rfl
    rw [s1, bnd_ok, if_pos rfl, built512, Option.bind_some]
    exact e2
  have s1 : digest_kindOf_s1 h (h == 384) w1 = some ((false, ()), w1) := by
    have q1 : (h == 384) = false := by simpa using c3
    have q2 : (h == 512) = false := by simpa using c4
    unfold digest_kindOf_s1; rw [q1, q2]; rfl
  have hk : known h = false := by simp [known, c1, c2, c3, c4]
  rw [s1, bnd_ok, if_neg (by decide), built0, Option.bind_some]
  rw [kc_other hk, hk] at e2 ⊢
  exact e2

/-- size and block of a digest -/
def sizeOfH (h : Int) : Int := if known h = true then h / 8 else 0
def blockOfH (h : Int) : Int := if h = 224 ∨ h = 256 then 64 else if h = 384 ∨ h = 512 then 128 else 0

theorem kc_get (h : Int) : (kc h)[0]? = some (.int .i64 (sizeOfH h)) ∧ (kc h)[1]? = some (.int .i64 (blockOfH h)) := by
  by_cases c1 : h = 224
  · subst c1; exact ⟨rfl, rfl⟩
  by_cases c2 : h = 256
  · subst c2; exact ⟨rfl, rfl⟩
  by_cases c3 : h = 384
  · subst c3; exact ⟨rfl, rfl⟩
  by_cases c4 : h = 512
  · subst c4; exact ⟨rfl, rfl⟩
  have hk : known h = false := by simp [known, c1, c2, c3, c4]
  rw [kc_other hk]
  simp [sizeOfH, blockOfH, hk, c1, c2, c3, c4]

theorem Size_ok (h : Int) (w : World) : ∃ w', digest_Size h w = some ((sizeOfH h, ()), w') ∧ Upd none_ w w' := by
  obtain ⟨w1, h1, u1⟩ := kindOf_ok h w
  obtain ⟨w2, n2, b2, u2, z2⟩ := newB_ok z56 56 w1
  obtain ⟨w3, a1, a2, a3, a4⟩ := lay b2 (vs := kc h) (by rw [kc_len]; rfl) (kc_one h)
  refine ⟨w3, ?_, (u1.and0 u2).trans' a3 fun k hk e => by have := u1.size; omega⟩
  unfold digest_Size
  rw [h1, bnd_ok, n2, bnd_ok]
  show (if (kc h).toArray.size = 4 then (stA ⟨w1.heap.size, 0, none⟩ (kc h).toArray w2).bind _ else none) = _
  rw [if_pos (by simpa using kc_len h), a1, Option.bind_some, add_lit, a2.ldI (kc_get h).1, Option.bind_some]

theorem refSize_ok (h : Int) : ref01_Size h = some (sizeOfH h, ()) := by
  by_cases c1 : h = 224
  · subst c1; rfl
  by_cases c2 : h = 256
  · subst c2; rfl
  by_cases c3 : h = 384
  · subst c3; rfl
  by_cases c4 : h = 512
  · subst c4; rfl
  have hk : known h = false := by simp [known, c1, c2, c3, c4]
  simp [ref01_Size, sizeOfH, hk, c1, c2, c3, c4]

theorem refBlock_ok (h : Int) : ref01_Block h = some (blockOfH h, ()) := by
  by_cases c1 : h = 224
  · subst c1; rfl
  by_cases c2 : h = 256
  · subst c2; rfl
  by_cases c3 : h = 384
  · subst c3; rfl
  by_cases c4 : h = 512
  · subst c4; rfl
  simp [ref01_Block, ref01_Block_s0, blockOfH, c1, c2, c3, c4]

end Go.Sh

/- The words that a digest begins with, by the program and by the document's answer. -/
set_option linter.unusedVariables false
namespace Go.Sh
open Go.Fw Go.Sha Go.RowKit Go.Proofs.Tryd

def fw1 (S : List Int) (h : Int) (i : Nat) : Int :=
  if h = 224 then Int.tmod (S.getD (8 + i) 0) 4294967296 else if h = 256 then Int.fdiv (S.getD i 0) (2 ^ 32) else if h = 384 then S.getD (8 + i) 0 else if h = 512 then S.getD i 0 else 0

def firstH (S : List Int) (h : Int) : List Int := (List.range 8).map (fw1 S h)

theorem firstH_len (S : List Int) (h : Int) : (firstH S h).length = 8 := by simp [firstH]
theorem firstH_get (S : List Int) (h : Int) {i : Nat} (hi : i < 8) : (firstH S h).getD i 0 = fw1 S h i := by
  simp [firstH, List.getD_eq_getElem?_getD, hi]

theorem known_cases {h : Int} (hk : known h = true) : h = 224 ∨ h = 256 ∨ h = 384 ∨ h = 512 := by
  simp [known] at hk
  rcases hk with ((h | h) | h) | h <;> simp [h]

theorem and32 {x : Int} (hx : InK .u64 x) : bits .and .u64 x 4294967295 = Int.tmod x 4294967296 := by
  obtain ⟨n, rfl, hn⟩ := hx.nat
  have h1 := (bits_nats (k := .u64) rfl hn (show 4294967295 < 2 ^ IntKind.u64.bits by decide)).1
  have h2 : n &&& 4294967295 = n % 4294967296 := Nat.and_two_pow_sub_one_eq_mod n 32
  rw [h2] at h1
  exact h1.trans (tmod_nat n 4294967296).symm

theorem rd_ld {w : World} {g : Nat} {S : List Int} (h : Rd w ⟨g, 0, none⟩ (ints .u64 S)) {i : Nat} (hi : i < S.length) : ldI .u64 ⟨g, i, none⟩ w = some (S.getD i 0) := by
  have := h i (.int .u64 (S.getD i 0)) (by simp [ints, List.getD_eq_getElem?_getD, hi])
  rw [add_lit, Nat.zero_add] at this
  simp [ldI, this, asI]

theorem refFirst_loop (K : Nat) {h : Int} (hk : known h = true) {S : List Int} (hS : S.length = 16) {a2 : Addr} {gh : Nat} (hg : gh ≠ 1) :
    ∀ (d i n : Nat) (w : World) (cs : List Value), i + d = 8 → d < n → Rd w ⟨1, 0, none⟩ (ints .u64 S) → Bk 75 w gh cs → cs.length = 8 → cs.take i = ints .u64 ((firstH S h).take i) →
      ∃ w', ref01_first_l0 K n h a2 ⟨gh, 0, none⟩ (i : Int) w = some ((), w') ∧ Bk 75 w' gh (ints .u64 (firstH S h)) ∧ Upd (· = gh) w w' := by
  intro d
  induction d with
  | zero =>
    intro i n w cs hi hn hT hb hc ht
    obtain ⟨n, rfl⟩ : ∃ m, n = m + 1 := ⟨n - 1, by omega⟩
    have : i = 8 := by omega
    subst this
    rw [List.take_of_length_le (by omega), List.take_of_length_le (by rw [firstH_len]; decide)] at ht
    refine ⟨w, ?_, ht ▸ hb, Upd.refl _ _⟩
    show ref01_first_l0_b K (ref01_first_l0 K n) h a2 ⟨gh, 0, none⟩ ((8 : Nat) : Int) w = _
    simp [ref01_first_l0_b]
  | succ d ih =>
    intro i n w cs hi hn hT hb hc ht
    obtain ⟨n, rfl⟩ : ∃ m, n = m + 1 := ⟨n - 1, by omega⟩
    have hd : decide ((i : Int) < 8) = true := by simp; omega
    have e1 : IntKind.i64.wrap ((i : Int) + 1) = ((i + 1 : Nat) : Int) := by rw [w64 (by omega) (by omega)]; rfl
    have e8 : IntKind.i64.wrap (8 + (i : Int)) = ((8 + i : Nat) : Int) := by rw [w64 (by omega) (by omega)]; rfl
    have c8 : (0 : Int) ≤ ((8 + i : Nat) : Int) ∧ ((8 + i : Nat) : Int) < ((16 : Nat) : Int) := by omega
    have c16 : (0 : Int) ≤ (i : Int) ∧ (i : Int) < ((16 : Nat) : Int) := by omega
    have c0 : (0 : Int) ≤ (i : Int) ∧ (i : Int) < ((8 : Nat) : Int) := by omega
    have l8 := rd_ld hT (i := 8 + i) (by omega)
    have l0 := rd_ld hT (i := i) (by omega)
    have hx := firstH_get S h (i := i) (by omega)
    obtain ⟨w1, s1, s2, s3⟩ := hb.stC (i := i) (by omega) (.int .u64 ((firstH S h).getD i 0))
    obtain ⟨w2, h1, h2, h3⟩ := ih (i + 1) n w1 _ (by omega) (by omega) (hT.upd s3 fun _ e => hg e.symm) s2 (by simpa using hc) (set_front ht (by rw [firstH_len]; omega) (by omega))
    refine ⟨w2, ?_, h2, s3.trans' h3 fun _ _ e => e⟩
    show ref01_first_l0_b K (ref01_first_l0 K n) h a2 ⟨gh, 0, none⟩ (i : Int) w = _
    rw [hx] at s1
    unfold ref01_first_l0_b
    rcases known_cases hk with e | e | e | e
    · subst e
      rw [hd, if_pos rfl, if_pos (by decide), e8, if_pos c8]
      simp only [Int.toNat_natCast, add_lit, Nat.mul_one, Nat.zero_add]
      rw [l8, Option.bind_some, if_pos c0]
      have s1 : stC ⟨gh, i, none⟩ (.int .u64 (Int.tmod (S.getD (8 + i) 0) 4294967296)) w = some w1 := s1
      rw [s1, Option.bind_some, e1, h1]
    · subst e
      rw [hd, if_pos rfl, if_neg (by decide), if_pos (by decide), if_pos c16]
      simp only [Int.toNat_natCast, add_lit, Nat.mul_one, Nat.zero_add]
      rw [l0, Option.bind_some, if_pos c0]
      have s1 : stC ⟨gh, i, none⟩ (.int .u64 (Int.fdiv (S.getD i 0) (2 ^ 32))) w = some w1 := s1
      rw [s1, Option.bind_some, e1, h1]
    · subst e
      rw [hd, if_pos rfl, if_neg (by decide), if_neg (by decide), if_pos (by decide), e8, if_pos c8]
      simp only [Int.toNat_natCast, add_lit, Nat.mul_one, Nat.zero_add]
      rw [l8, Option.bind_some, if_pos c0]
      have s1 : stC ⟨gh, i, none⟩ (.int .u64 (S.getD (8 + i) 0)) w = some w1 := s1
      rw [s1, Option.bind_some, e1, h1]
    · subst e
      rw [hd, if_pos rfl, if_neg (by decide), if_neg (by decide), if_neg (by decide), if_pos (by decide), if_pos c16]
      simp only [Int.toNat_natCast, add_lit, Nat.mul_one, Nat.zero_add]
      rw [l0, Option.bind_some, if_pos c0]
      have s1 : stC ⟨gh, i, none⟩ (.int .u64 (S.getD i 0)) w = some w1 := s1
      rw [s1, Option.bind_some, e1, h1]

theorem refFirst_ok {K : Nat} (hK : 18446744073709551616 ≤ K) {h : Int} (hk : known h = true) {S : List Int} (hS : S.length = 16) {w : World} (hT : Rd w ⟨1, 0, none⟩ (ints .u64 S)) :
    ∃ w', ref01_first K h w = some (((ints .u64 (firstH S h)).toArray, ()), w') ∧ Upd none_ w w' := by
  have hR : 1 < w.heap.size := hT.lt (fun e => by have := congrArg List.length e; simp [hS] at this)
  obtain ⟨w1, n1, b1, u1, z1⟩ := newB_ok z75 75 w
  obtain ⟨w2, n2, b2, u2, z2⟩ := newB_ok z75 75 w1
  have b1 : Bk 75 w1 w.heap.size z75.toList := b1
  have b2 : Bk 75 w2 w1.heap.size z75.toList := b2
  obtain ⟨w3, h3, b3, u3⟩ := refFirst_loop K hk hS (a2 := ⟨w.heap.size, 0, none⟩) (gh := w1.heap.size) (by omega) 8 0 K w2 _ rfl (by omega) (hT.upd (u1.and0 u2) fun _ => id) b2 rfl (by simp)
  have h3 : ref01_first_l0 K K h ⟨w.heap.size, 0, none⟩ ⟨w1.heap.size, 0, none⟩ 0 w2 = _ := h3
  have hl8 : (ints .u64 (firstH S h)).length = 8 := by rw [ints_length, firstH_len]
  have l3 := b3.ldA (i := 0) (n := 8) (by rw [hl8]; decide)
  rw [List.drop_zero, List.take_of_length_le (by rw [hl8]; decide)] at l3
  obtain ⟨w4, a1, a2, a3, a4⟩ := lay' ((b1.upd0 u2).upd u3 (by omega)) (vs := ints .u64 (firstH S h)) (by rw [hl8]; rfl) ints_one
  rw [hl8] at a4
  refine ⟨w4, ?_, ((u1.and0 u2).trans' u3 fun k hk e => by omega).trans' a3 fun k hk e => by omega⟩
  unfold ref01_first
  rw [n1, bnd_ok, n2, bnd_ok, h3, bnd_ok, l3, Option.bind_some, if_pos (by rw [List.size_toArray, hl8]), a1, Option.bind_some, a4, Option.bind_some]

theorem first_loop (K : Nat) {h : Int} (hk : known h = true) {S : List Int} (hS : S.length = 16) (hin : ∀ i, InK .u64 (S.getD i 0)) {gh : Nat} (hg : gh ≠ 3) :
    ∀ (d i n : Nat) (w : World) (cs : List Value), i + d = 8 → d < n → Rd w ⟨3, 0, none⟩ (ints .u64 S) → Bk 75 w gh cs → cs.length = 8 → cs.take i = ints .u64 ((firstH S h).take i) →
      ∃ w', digest_first_l0 K n h ⟨gh, 0, none⟩ (i : Int) w = some ((), w') ∧ Bk 75 w' gh (ints .u64 (firstH S h)) ∧ Upd (· = gh) w w' := by
  intro d
  induction d with
  | zero =>
    intro i n w cs hi hn hT hb hc ht
    obtain ⟨n, rfl⟩ : ∃ m, n = m + 1 := ⟨n - 1, by omega⟩
    have : i = 8 := by omega
    subst this
    rw [List.take_of_length_le (by omega), List.take_of_length_le (by rw [firstH_len]; decide)] at ht
    refine ⟨w, ?_, ht ▸ hb, Upd.refl _ _⟩
    show digest_first_l0_b K (digest_first_l0 K n) h ⟨gh, 0, none⟩ ((8 : Nat) : Int) w = _
    simp [digest_first_l0_b]
  | succ d ih =>
    intro i n w cs hi hn hT hb hc ht
    obtain ⟨n, rfl⟩ : ∃ m, n = m + 1 := ⟨n - 1, by omega⟩
    have hd : decide ((i : Int) < 8) = true := by simp; omega
    have e1 : IntKind.i64.wrap ((i : Int) + 1) = ((i + 1 : Nat) : Int) := by rw [w64 (by omega) (by omega)]; rfl
    have e8 : IntKind.i64.wrap (8 + (i : Int)) = ((8 + i : Nat) : Int) := by rw [w64 (by omega) (by omega)]; rfl
    have c8 : (0 : Int) ≤ ((8 + i : Nat) : Int) ∧ ((8 + i : Nat) : Int) < ((16 : Nat) : Int) := by omega
    have c16 : (0 : Int) ≤ (i : Int) ∧ (i : Int) < ((16 : Nat) : Int) := by omega
    have c0 : (0 : Int) ≤ (i : Int) ∧ (i : Int) < ((8 : Nat) : Int) := by omega
    have l8 := rd_ld hT (i := 8 + i) (by omega)
    have l0 := rd_ld hT (i := i) (by omega)
    have hx := firstH_get S h (i := i) (by omega)
    obtain ⟨w1, s1, s2, s3⟩ := hb.stC (i := i) (by omega) (.int .u64 ((firstH S h).getD i 0))
    obtain ⟨w2, h1, h2, h3⟩ := ih (i + 1) n w1 _ (by omega) (by omega) (hT.upd s3 fun _ e => hg e.symm) s2 (by simpa using hc) (set_front ht (by rw [firstH_len]; omega) (by omega))
    refine ⟨w2, ?_, h2, s3.trans' h3 fun _ _ e => e⟩
    show digest_first_l0_b K (digest_first_l0 K n) h ⟨gh, 0, none⟩ (i : Int) w = _
    rw [hx] at s1
    unfold digest_first_l0_b
    rcases known_cases hk with e | e | e | e
    · subst e
      rw [hd, if_pos rfl, if_pos (by decide), e8, if_pos c8]
      simp only [Int.toNat_natCast, add_lit, Nat.mul_one, Nat.zero_add]
      rw [l8, Option.bind_some, if_pos c0]
      have s1 : stC ⟨gh, i, none⟩ (.int .u64 (Int.tmod (S.getD (8 + i) 0) 4294967296)) w = some w1 := s1
      rw [and32 (hin _), s1, Option.bind_some, e1, h1]
    · subst e
      rw [hd, if_pos rfl, if_neg (by decide), if_pos (by decide), if_pos c16]
      simp only [Int.toNat_natCast, add_lit, Nat.mul_one, Nat.zero_add]
      rw [l0, Option.bind_some, if_pos c0]
      have s1 : stC ⟨gh, i, none⟩ (.int .u64 (Int.fdiv (S.getD i 0) (2 ^ 32))) w = some w1 := s1
      rw [s1, Option.bind_some, e1, h1]
    · subst e
      rw [hd, if_pos rfl, if_neg (by decide), if_neg (by decide), if_pos (by decide), e8, if_pos c8]
      simp only [Int.toNat_natCast, add_lit, Nat.mul_one, Nat.zero_add]
      rw [l8, Option.bind_some, if_pos c0]
      have s1 : stC ⟨gh, i, none⟩ (.int .u64 (S.getD (8 + i) 0)) w = some w1 := s1
      rw [s1, Option.bind_some, e1, h1]
    · subst e
      rw [hd, if_pos rfl, if_neg (by decide), if_neg (by decide), if_neg (by decide), if_pos (by decide), if_pos c16]
      simp only [Int.toNat_natCast, add_lit, Nat.mul_one, Nat.zero_add]
      rw [l0, Option.bind_some, if_pos c0]
      have s1 : stC ⟨gh, i, none⟩ (.int .u64 (S.getD i 0)) w = some w1 := s1
      rw [s1, Option.bind_some, e1, h1]

theorem first_ok {K : Nat} (hK : 18446744073709551616 ≤ K) {h : Int} (hk : known h = true) {S : List Int} (hS : S.length = 16) (hin : ∀ i, InK .u64 (S.getD i 0)) {w : World} (hT : Rd w ⟨3, 0, none⟩ (ints .u64 S)) :
    ∃ w', digest_first K h w = some (((ints .u64 (firstH S h)).toArray, ()), w') ∧ Upd none_ w w' := by
  have hR : 3 < w.heap.size := hT.lt (fun e => by have := congrArg List.length e; simp [hS] at this)
  obtain ⟨w1, n1, b1, u1, z1⟩ := newB_ok z75 75 w
  have b1 : Bk 75 w1 w.heap.size z75.toList := b1
  obtain ⟨w3, h3, b3, u3⟩ := first_loop K hk hS hin (gh := w.heap.size) (by omega) 8 0 K w1 _ rfl (by omega) (hT.upd u1 fun _ => id) b1 rfl (by simp)
  have h3 : digest_first_l0 K K h ⟨w.heap.size, 0, none⟩ 0 w1 = _ := h3
  have hl8 : (ints .u64 (firstH S h)).length = 8 := by rw [ints_length, firstH_len]
  have l3 := b3.ldA (i := 0) (n := 8) (by rw [hl8]; decide)
  rw [List.drop_zero, List.take_of_length_le (by rw [hl8]; decide)] at l3
  obtain ⟨w4, a1, a2, a3, a4⟩ := lay' b3 (vs := ints .u64 (firstH S h)) rfl ints_one
  rw [hl8] at a4
  refine ⟨w4, ?_, (u1.trans' u3 fun k hk e => by omega).trans' a3 fun k hk e => by omega⟩
  unfold digest_first
  rw [n1, bnd_ok, h3, bnd_ok, l3, Option.bind_some, if_pos (by rw [List.size_toArray, hl8]), a1, Option.bind_some, a4, Option.bind_some]

end Go.Sh

/- What the helpers of the package cofferbook do. YtcfolhdacolbjaaDoor, Tryd, 22, 5 are filled in for a seat (book.sh). -/
set_option linter.unusedVariables false
namespace Go.Sh
open Go.Fw Go.RowKit Go.Proofs.Tryd

theorem sliceB : OneSlice prog 22 5 (.int .u8 0) 1 := ⟨by kernel_rfl, ⟨t5, by kernel_rfl, by kernel_rfl, by kernel_rfl, by kernel_rfl⟩, by decide, rfl, rfl⟩

/-- A slice of bytes that came in, as the source of a copy. -/
theorem src_row {w : World} {a : Option Addr} {len cap : Nat} {zs : List Int}
    (h : (a = none ∧ len = 0 ∧ cap = 0 ∧ zs = []) ∨
      ∃ x, a = some x ∧ len ≤ cap ∧ cap ≤ 140737488351232 ∧ zs.length = cap ∧ (∀ i, i < zs.length → w.cell? (x.add i) = some (.int .u8 (zs.getD i 0))) ∧ ∀ n ∈ zs, (Lit.int .u8 n).wf = true) :
    ∃ xs, ((∀ x ∈ xs, InK .u8 x) ∧ xs.length ≤ 140737488351232) ∧ Src w ⟨a, len, cap⟩ (ints .u8 xs) := by
  rcases h with ⟨rfl, rfl, rfl, rfl⟩ | ⟨x, rfl, hl, hc, hz, hcell, hwz⟩
  · exact ⟨[], ⟨fun _ h => by simp at h, Nat.zero_le _⟩, rfl, Nat.le_refl _, .inl ⟨rfl, rfl, rfl⟩, ints_one⟩
  · refine ⟨zs.take len, ⟨fun n hn => ?_, by simp; omega⟩, by simp; omega, hl, .inr ⟨x, rfl, fun i v hv => ?_⟩, ints_one⟩
    · have := hwz n (List.mem_of_mem_take hn)
      have h2 : 0 ≤ n ∧ n ≤ 255 := by simpa [Lit.wf, IntKind.bits, IntKind.min, IntKind.max, IntKind.signed] using this
      exact ⟨h2.1, by have := h2.2; simp only [IntKind.bits]; omega⟩
    · have hi : i < zs.length := by
        have := (List.getElem?_eq_some_iff.1 hv).1
        simp at this; omega
      rw [hcell i hi]
      simp only [ints, List.getElem?_map, List.getElem?_take] at hv
      split at hv
      · simpa [List.getD_eq_getElem?_getD, List.getElem?_eq_getElem hi] using hv
      · simp at hv

/-! ### SameBytes -/

theorem SameBytes_loop (K : Nat) {a b : Sl} {xs ys : List Int} (hl : xs.length = ys.length) (hs : xs.length < 9223372036854775807) :
    ∀ (d i : Nat) (n : Nat) (w : World), i + d = xs.length → d < n → RdS .u8 w a xs → RdS .u8 w b ys →
      ∃ w', book_SameBytes_l0 K n a b (i : Int) w = some (if xs.drop i = ys.drop i then .norm () else .ret (false, ()), w') ∧ Upd none_ w w' := by
  intro d
  induction d with
  | zero =>
    intro i n w hi hn ha hb
    obtain ⟨n, rfl⟩ : ∃ m, n = m + 1 := ⟨n - 1, by omega⟩
    refine ⟨w, ?_, Upd.refl _ w⟩
    show book_SameBytes_l0_b K (book_SameBytes_l0 K n) a b (i : Int) w = _
    have e1 : xs.drop i = [] := List.drop_eq_nil_of_le (by omega)
    have e2 : ys.drop i = [] := List.drop_eq_nil_of_le (by omega)
    simp [book_SameBytes_l0_b, ha.len, show ¬ i < xs.length by omega, e1, e2]
  | succ d ih =>
    intro i n w hi hn ha hb
    obtain ⟨n, rfl⟩ : ∃ m, n = m + 1 := ⟨n - 1, by omega⟩
    show ∃ w', book_SameBytes_l0_b K (book_SameBytes_l0 K n) a b (i : Int) w = _ ∧ _
    obtain ⟨p, hp, hpl⟩ := ha.drew.ld
    obtain ⟨q, hq, hql⟩ := hb.drew.ld
    have hx : xs ≠ [] := by rintro rfl; simp at hi
    have hy : ys ≠ [] := fun e => by rw [e] at hl; simp at hl; exact hx hl
    have hil : i < xs.length := by omega
    have hil2 : i < ys.length := by omega
    have hw : IntKind.i64.wrap ((i : Int) + 1) = ((i + 1 : Nat) : Int) := by rw [w64 (by omega) (by omega)]; rfl
    have e1 : xs.drop i = xs[i] :: xs.drop (i + 1) := List.drop_eq_getElem_cons hil
    have e2 : ys.drop i = ys[i] :: ys.drop (i + 1) := List.drop_eq_getElem_cons hil2
    have l1 := hpl i hil
    have l2 := hql i hil2
    by_cases hne : xs[i] = ys[i]
    · obtain ⟨w', h1, h2⟩ := ih (i + 1) n w.drew (by omega) (by omega) ha.drew hb.drew
      refine ⟨w', ?_, ?_⟩
      · simp only [book_SameBytes_l0_b, ha.len, hb.len, Int.ofNat_lt, hil, hil2, decide_true, if_true, hp hx, hq hy, Option.bind_some, Int.natCast_nonneg, and_self, Int.toNat_natCast, Nat.mul_one, l1, l2, hne, bne_self_eq_false, Bool.false_eq_true, if_false, hw, h1, e1, e2, List.cons.injEq, true_and]
      · exact (Upd.refl none_ w).drew.trans' h2 fun _ _ e => e
    · refine ⟨w.drew, ?_, (Upd.refl none_ w).drew⟩
      have hb' : (xs[i] != ys[i]) = true := by simpa using hne
      simp only [book_SameBytes_l0_b, ha.len, hb.len, Int.ofNat_lt, hil, hil2, decide_true, if_true, hp hx, hq hy, Option.bind_some, Int.natCast_nonneg, and_self, Int.toNat_natCast, Nat.mul_one, l1, l2, hb', e1, e2, List.cons.injEq, hne, false_and, if_false]

theorem SameBytes_ok {K : Nat} (hK : 18446744073709551616 ≤ K) {a b : Sl} {xs ys : List Int} {w : World} (ha : RdS .u8 w a xs) (hb : RdS .u8 w b ys) (hs : xs.length < 9223372036854775807) :
    ∃ w', book_SameBytes K a b w = some ((decide (xs = ys), ()), w') ∧ Upd none_ w w' := by
  by_cases hl : xs.length = ys.length
  · obtain ⟨w', h1, h2⟩ := SameBytes_loop K (a := a) (b := b) hl hs xs.length 0 K w (by omega) (by omega) ha hb
    refine ⟨w', ?_, h2⟩
    have h1' : book_SameBytes_l0 K K a b 0 w = _ := h1
    simp only [book_SameBytes, ha.len, hb.len, hl, bne_self_eq_false, Bool.false_eq_true, if_false, h1', bnd_ok, List.drop_zero]
    by_cases h : xs = ys <;> simp [h]
  · refine ⟨w, ?_, Upd.refl _ w⟩
    have h1 : (((xs.length : Nat) : Int) != ((ys.length : Nat) : Int)) = true := by simp; omega
    have h2 : xs ≠ ys := fun e => hl (by rw [e])
    simp only [book_SameBytes, ha.len, hb.len, h1, if_true, h2, decide_false]

end Go.Sh

/- What the helpers of the package cofferbook do. YtcfolhdacolbjaaDoor, Tryd, 22, 5 are filled in for a seat (book.sh). -/
set_option linter.unusedVariables false
namespace Go.Sh
open Go.Fw Go.RowKit Go.Proofs.Tryd

/-! ### Bytes -/

def marks : List Int := (List.range 70).map fun i => (((181 + i) % 256 : Nat) : Int)

theorem marks_len : marks.length = 70 := rfl

theorem mark_at (i : Nat) (hi : i < 70) : IntKind.u8.wrap (IntKind.i64.wrap (181 + (i : Int))) = marks[i]'(by rw [marks_len]; exact hi) := by
  rw [w64 (by omega) (by omega), IntKind.wrap_u8]
  simp [marks]

theorem Bytes_loop (K B : Nat) (l : Sl) :
    ∀ (d i n : Nat) (w : World) (s : Sl) (xs : List Int), i + d = 70 → d < n → OwnS 5 w s (ints .u8 xs) → s.len + d ≤ 140737488355328 → B ≤ w.heap.size → Fresh B s →
      ∃ s' w', book_Bytes_l0 K n l s (i : Int) w = some ((s', ()), w') ∧ OwnS 5 w' s' (ints .u8 (xs ++ marks.drop i)) ∧ Below B w w' ∧ Fresh B s' := by
  intro d
  induction d with
  | zero =>
    intro i n w s xs hi hn ho hs hB hf
    obtain ⟨n, rfl⟩ : ∃ m, n = m + 1 := ⟨n - 1, by omega⟩
    have : i = 70 := by omega
    subst this
    refine ⟨s, w, ?_, ?_, Below.refl B w, hf⟩
    · show book_Bytes_l0_b K (book_Bytes_l0 K n) l s ((70 : Nat) : Int) w = _
      simp [book_Bytes_l0_b]
    · have : marks.drop 70 = [] := rfl
      rw [this, List.append_nil]; exact ho
  | succ d ih =>
    intro i n w s xs hi hn ho hs hB hf
    obtain ⟨n, rfl⟩ : ∃ m, n = m + 1 := ⟨n - 1, by omega⟩
    have hi70 : i < 70 := by omega
    obtain ⟨w1, h1, ho1, u1, hz1⟩ := bldS1_ok sliceB (.int .u8 (marks[i]'(by rw [marks_len]; exact hi70))) rfl w
    have hfr : ∀ k, s.blk = some k → ¬ (none_ k) := fun _ _ => id
    obtain ⟨s2, w2, h2, l2, ho2, u2, b2⟩ := apd_ok sliceB (ho.upd0 u1) (ho1.src (by simp [Value.oneCell'])) (by show (s.len + 1) * 1 ≤ _; omega)
    have bl1 : Below B w w1 := u1.below hB fun _ _ => id
    have bl2 : Below B w w2 := below_upd bl1 u2 (by omega) fun k hk e => by have := hf k e; omega
    have hf2 : Fresh B s2 := by
      intro k hk
      rcases b2 with e | e
      · exact hf k (e ▸ hk)
      · rw [e] at hk; have := Option.some.inj hk; omega
    obtain ⟨s3, w3, h3, ho3, bl3, hf3⟩ := ih (i + 1) n w2 s2 (xs ++ [marks[i]'(by rw [marks_len]; exact hi70)]) (by omega) (by omega) (by simpa using ho2) (by rw [l2]; show s.len + 1 + d ≤ _; omega) (by have := bl2.size; omega) hf2
    refine ⟨s3, w3, ?_, ?_, bl2.trans bl3, hf3⟩
    · show book_Bytes_l0_b K (book_Bytes_l0 K n) l s (i : Int) w = _
      have hw : IntKind.i64.wrap ((i : Int) + 1) = ((i + 1 : Nat) : Int) := by rw [w64 (by omega) (by omega)]; rfl
      have hd : decide ((i : Int) < 70) = true := by simp; omega
      simp only [book_Bytes_l0_b, hd, if_true, mark_at i hi70, h1, bnd_ok, h2, hw, h3]
    · have e : marks.drop i = marks[i]'(by rw [marks_len]; exact hi70) :: marks.drop (i + 1) := List.drop_eq_getElem_cons (by rw [marks_len]; exact hi70)
      rw [e]
      simpa using ho3

/-- Bytes: a copy, the marks behind it. -/
theorem Bytes_ok {K : Nat} (hK : 18446744073709551616 ≤ K) {l : Sl} {bs : List Int} {w : World} (hl : Src w l (ints .u8 bs)) (hb : bs.length ≤ 140737488351232) :
    ∃ g cap w', book_Bytes K l w = some ((⟨some ⟨g, 0, none⟩, bs.length, cap⟩, ()), w') ∧ OwnS 5 w' ⟨some ⟨g, 0, none⟩, bs.length + 70, cap⟩ (ints .u8 (bs ++ marks)) ∧ w.heap.size ≤ g ∧ Upd none_ w w' := by
  have hlen : l.len = bs.length := by simpa using hl.len
  obtain ⟨s1, w1, h1, l1, ho1, u1, b1⟩ := apd_ok sliceB (OwnS.nil 5 w) hl (by show (0 + l.len) * 1 ≤ _; omega)
  have bl1 : Below w.heap.size w w1 := u1.below (Nat.le_refl _) fun k _ e => by cases e
  have hf1 : Fresh w.heap.size s1 := by
    intro k hk
    rcases b1 with e | e
    · rw [e] at hk; cases hk
    · rw [e] at hk; have := Option.some.inj hk; omega
  obtain ⟨s2, w2, h2, ho2, bl2, hf2⟩ := Bytes_loop K w.heap.size l 70 0 K w1 s1 bs (by omega) (by omega) ho1 (by rw [l1]; show 0 + l.len + 70 ≤ _; omega) bl1.size hf1
  have h2' : book_Bytes_l0 K K l s1 0 w1 = _ := h2
  have ho2 : OwnS 5 w2 s2 (ints .u8 (bs ++ marks)) := ho2
  have hl2 : s2.len = bs.length + 70 := by rw [ho2.len]; simp [marks_len]
  obtain ⟨g, hg⟩ : ∃ g, s2.a = some ⟨g, 0, none⟩ := by
    rcases ho2.2 with ⟨a1, a2, _⟩ | ⟨g, cur, a1, _⟩
    · omega
    · exact ⟨g, a1⟩
  refine ⟨g, s2.cap, w2, ?_, ?_, hf2 g (by simp [Sl.blk, hg]), Upd.of_below (bl1.trans bl2)⟩
  · have hc := ho2.cap.1
    have hi : (0 : Int) ≤ ((l.len : Nat) : Int) ∧ ((l.len : Nat) : Int) ≤ ((s2.cap : Nat) : Int) := by omega
    have h1' : apd prog 22 22 (.slice none 0 0) (.slice l.a l.len l.cap) w = some (s1, w1) := h1
    simp only [book_Bytes, h1', bnd_ok, h2', hi, and_self, if_true, sla_zero, hg, Int.toNat_natCast, Nat.sub_zero]
    rw [hlen]
  · have : s2 = ⟨some ⟨g, 0, none⟩, bs.length + 70, s2.cap⟩ := by cases s2; simp_all
    rw [← this]; exact ho2

end Go.Sh

/- What the helpers of the package cofferbook do. YtcfolhdacolbjaaDoor, Tryd, 22, 5 are filled in for a seat (book.sh). -/
set_option linter.unusedVariables false
namespace Go.Sh
open Go.Fw Go.RowKit Go.Proofs.Tryd

/-! ### WholeBytes -/

/-- The front of what Bytes made. -/
theorem marked_front {w : World} {g cap : Nat} {bs : List Int} (h : OwnS 5 w ⟨some ⟨g, 0, none⟩, bs.length + 70, cap⟩ (ints .u8 (bs ++ marks))) :
    OwnS 5 w ⟨some ⟨g, 0, none⟩, bs.length, cap⟩ (ints .u8 bs) := by
  have := h.cut (n := bs.length) (Nat.le_add_right _ _)
  rw [ints_take, List.take_left] at this
  exact this

theorem WholeBytes_loop (K : Nat) {s : Sl} {bs : List Int} (hb : bs.length ≤ 140737488351232) :
    ∀ (d i n : Nat) (w : World), i + d = 70 → d < n → RdS .u8 w s (bs ++ marks) → book_WholeBytes_l0 K n ((bs.length : Nat) : Int) s (i : Int) w = some (.norm (), w) := by
  intro d
  induction d with
  | zero =>
    intro i n w hi hn hr
    obtain ⟨n, rfl⟩ : ∃ m, n = m + 1 := ⟨n - 1, by omega⟩
    have : i = 70 := by omega
    subst this
    show book_WholeBytes_l0_b K (book_WholeBytes_l0 K n) ((bs.length : Nat) : Int) s ((70 : Nat) : Int) w = _
    simp [book_WholeBytes_l0_b]
  | succ d ih =>
    intro i n w hi hn hr
    obtain ⟨n, rfl⟩ : ∃ m, n = m + 1 := ⟨n - 1, by omega⟩
    have hi70 : i < 70 := by omega
    show book_WholeBytes_l0_b K (book_WholeBytes_l0 K n) ((bs.length : Nat) : Int) s (i : Int) w = _
    have hll : s.len = bs.length + 70 := by rw [hr.len]; simp [marks_len]
    obtain ⟨p, hp, hpl⟩ := hr.ld
    have hne : bs ++ marks ≠ [] := by intro e; have := congrArg List.length e; simp [marks_len] at this
    have l1 := hpl (bs.length + i) (by simp [marks_len]; omega)
    have e1 : (bs ++ marks)[bs.length + i]'(by simp [marks_len]; omega) = marks[i]'(by rw [marks_len]; exact hi70) := by simp
    rw [e1] at l1
    have hw : IntKind.i64.wrap ((i : Int) + 1) = ((i + 1 : Nat) : Int) := by rw [w64 (by omega) (by omega)]; rfl
    have hw2 : IntKind.i64.wrap (((bs.length : Nat) : Int) + (i : Int)) = ((bs.length + i : Nat) : Int) := by rw [w64 (by omega) (by omega)]; rfl
    have hd : decide ((i : Int) < 70) = true := by simp; omega
    have hin : (0 : Int) ≤ ((bs.length + i : Nat) : Int) ∧ ((bs.length + i : Nat) : Int) < ((bs.length + 70 : Nat) : Int) := by omega
    simp only [book_WholeBytes_l0_b, hd, if_true, hp hne, Option.bind_some, hw2, hll, hin, and_self, Int.toNat_natCast, Nat.mul_one, l1, mark_at i hi70, bne_self_eq_false, Bool.false_eq_true, if_false, hw]
    exact ih (i + 1) n w (by omega) (by omega) hr

theorem WholeBytes_ok {K : Nat} (hK : 18446744073709551616 ≤ K) {g cap : Nat} {l : Sl} {bs xs : List Int} {w : World}
    (ho : OwnS 5 w ⟨some ⟨g, 0, none⟩, bs.length + 70, cap⟩ (ints .u8 (bs ++ marks))) (hl : RdS .u8 w l xs) (hb : bs.length ≤ 140737488351232) :
    ∃ w', book_WholeBytes K ⟨some ⟨g, 0, none⟩, bs.length, cap⟩ l w = some ((decide (bs = xs), ()), w') ∧ Upd none_ w w' := by
  obtain ⟨w1, h1, u1⟩ := SameBytes_ok hK (marked_front ho).rd hl (by omega)
  by_cases he : bs = xs
  · have hc := ho.cap.1
    have hc : bs.length + 70 ≤ cap := hc
    have ho1 := ho.upd0 u1
    have hlp := WholeBytes_loop K hb 70 0 K w1 (by omega) (by omega) ho1.rd
    have hlp : book_WholeBytes_l0 K K ((bs.length : Nat) : Int) ⟨some ⟨g, 0, none⟩, bs.length + 70, cap⟩ 0 w1 = _ := hlp
    have hw : IntKind.i64.wrap (((bs.length : Nat) : Int) + 70) = ((bs.length + 70 : Nat) : Int) := by rw [w64 (by omega) (by omega)]; rfl
    have hin : (0 : Int) ≤ ((bs.length + 70 : Nat) : Int) ∧ ((bs.length + 70 : Nat) : Int) ≤ ((cap : Nat) : Int) := by omega
    refine ⟨w1, ?_, u1⟩
    simp only [book_WholeBytes, h1, bnd_ok, decide_eq_true he, Bool.not_true, Bool.false_eq_true, if_false, hw, hin, and_self, if_true, sla_zero, Int.toNat_natCast, Nat.sub_zero, hlp]
  · refine ⟨w1, ?_, u1⟩
    simp only [book_WholeBytes, h1, bnd_ok, decide_eq_false he, Bool.not_false, if_true]

end Go.Sh

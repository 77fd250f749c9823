/- A digest that is fed part by part, on lists; nothing of a program stands here. -/
import Derived.Test.YtgmdbhckccmhjaaDoorSpec64
namespace Go.Sha
open Go.Fw

def narrowB (h : Int) : Bool := h == 224 || h == 256
/-- bytes of a block -/
def blk (h : Int) : Nat := if narrowB h = true then 64 else 128

theorem blk_pos (h : Int) : 0 < blk h := by unfold blk; split <;> decide
theorem blk_le (h : Int) : blk h ≤ 128 := by unfold blk; split <;> decide

def compH (h : Int) (C H bs : List Int) : List Int := if narrowB h = true then comp32 C H bs else comp64 C H bs
def compsH (h : Int) (C : List Int) (n : Nat) (H bs : List Int) : List Int := if narrowB h = true then comps32 C n H bs else comps64 C n H bs

theorem compsH_zero (h : Int) (C H bs : List Int) : compsH h C 0 H bs = H := by unfold compsH; split <;> rfl
theorem compsH_succ (h : Int) (C : List Int) (n : Nat) (H bs : List Int) : compsH h C (n + 1) H bs = compsH h C n (compH h C H bs) (bs.drop (blk h)) := by
  unfold compsH compH blk; split <;> rfl
theorem compsH_len (h : Int) (C : List Int) (n : Nat) (H bs : List Int) (hH : H.length = 8) : (compsH h C n H bs).length = 8 := by
  unfold compsH; split
  · exact comps32_len C n H bs hH
  · exact comps64_len C n H bs hH

theorem words32_front {bs : List Int} (k : Nat) (hk : 64 ≤ k) : ∀ n, n ≤ 16 → words32 (bs.take k) n = words32 bs n
  | 0, _ => rfl
  | n + 1, hn => by
    have g : ∀ q, q < 64 → (bs.take k).getD q 0 = bs.getD q 0 := fun q hq => by
      simp [List.getD_eq_getElem?_getD, List.getElem?_take, show q < k by omega]
    simp only [words32]
    rw [words32_front k hk n (by omega), g _ (by omega), g _ (by omega), g _ (by omega), g _ (by omega)]

theorem word64_front {bs : List Int} (k : Nat) (v : Int) (o : Nat) : ∀ n, o + n ≤ k → word64 v (bs.take k) o n = word64 v bs o n
  | 0, _ => rfl
  | n + 1, hn => by
    simp only [word64]
    rw [word64_front k v o n (by omega)]
    congr 1
    simp [List.getD_eq_getElem?_getD, List.getElem?_take, show o + n < k by omega]

theorem words64_front {bs : List Int} (k : Nat) (hk : 128 ≤ k) : ∀ n, n ≤ 16 → words64 (bs.take k) n = words64 bs n
  | 0, _ => rfl
  | n + 1, hn => by
    simp only [words64]
    rw [words64_front k hk n (by omega), word64_front k 0 (8 * n) 8 (by omega)]

/-- of a list the first block alone counts -/
theorem compH_front (h : Int) (C H bs : List Int) (k : Nat) (hk : blk h ≤ k) : compH h C H (bs.take k) = compH h C H bs := by
  unfold compH blk at *
  split
  · rename_i hn
    rw [if_pos hn] at hk
    unfold comp32 rv32
    rw [words32_front k hk 16 (Nat.le_refl _)]
  · rename_i hn
    rw [if_neg hn] at hk
    unfold comp64 rv64
    rw [words64_front k hk 16 (Nat.le_refl _)]

theorem compsH_front (h : Int) (C : List Int) : ∀ (n : Nat) (H bs : List Int) (k : Nat), n * blk h ≤ k → compsH h C n H (bs.take k) = compsH h C n H bs
  | 0, H, bs, k, _ => by rw [compsH_zero, compsH_zero]
  | n + 1, H, bs, k, hk => by
    have h1 : (n + 1) * blk h = n * blk h + blk h := Nat.succ_mul n _
    rw [compsH_succ, compsH_succ, compH_front h C H bs k (by omega), List.drop_take, compsH_front h C n _ _ (k - blk h) (by omega)]

theorem compsH_add (h : Int) (C : List Int) : ∀ (n m : Nat) (H bs : List Int), compsH h C (n + m) H bs = compsH h C m (compsH h C n H bs) (bs.drop (n * blk h))
  | 0, m, H, bs => by rw [compsH_zero, Nat.zero_add, Nat.zero_mul, List.drop_zero]
  | n + 1, m, H, bs => by
    rw [show n + 1 + m = (n + m) + 1 by omega, compsH_succ, compsH_succ, compsH_add h C n m, List.drop_drop, Nat.succ_mul, Nat.add_comm (blk h)]

/-- what is held of what was fed -/
structure Fed (h : Int) (C H0 xs : List Int) (H half : List Int) : Prop where
  words : H = compsH h C (xs.length / blk h) H0 xs
  held : half.take (xs.length % blk h) = xs.drop (xs.length / blk h * blk h)
  len : half.length = 128

theorem Fed.start (h : Int) (C H0 : List Int) : Fed h C H0 [] H0 (List.replicate 128 0) := by
  refine ⟨?_, ?_, by simp⟩
  · simp [compsH_zero]
  · simp

/-- bytes written over a list -/
def over (l : List Int) (o : Nat) (ys : List Int) : List Int := l.take o ++ ys ++ l.drop (o + ys.length)

theorem over_len {l ys : List Int} {o : Nat} (h : o + ys.length ≤ l.length) : (over l o ys).length = l.length := by
  simp [over]; omega

theorem over_front {l ys : List Int} {o : Nat} (h : o + ys.length ≤ l.length) : (over l o ys).take (o + ys.length) = l.take o ++ ys := by
  unfold over
  rw [List.take_append_of_le_length (by simp; omega), List.take_of_length_le (by simp; omega)]

theorem div_add_lt {n m b : Nat} (hb : 0 < b) (h : n % b + m < b) : (n + m) / b = n / b ∧ (n + m) % b = n % b + m := by
  have h1 := Nat.div_add_mod n b
  have h2 : n + m = n % b + m + b * (n / b) := by omega
  constructor
  · rw [h2, Nat.add_mul_div_left _ _ hb, Nat.div_eq_of_lt h, Nat.zero_add]
  · rw [h2, Nat.add_mul_mod_self_left, Nat.mod_eq_of_lt h]

/-- fed less than what fills a block -/
theorem Fed.less {h : Int} {C H0 xs H half ys : List Int} (f : Fed h C H0 xs H half) (hl : xs.length % blk h + ys.length < blk h) : Fed h C H0 (xs ++ ys) H (over half (xs.length % blk h) ys) := by
  have hb := blk_le h
  obtain ⟨d1, d2⟩ := div_add_lt (blk_pos h) hl
  have hle : xs.length / blk h * blk h ≤ xs.length := Nat.div_mul_le_self _ _
  refine ⟨?_, ?_, by rw [over_len (by rw [f.len]; omega)]; exact f.len⟩
  · rw [List.length_append, d1, f.words]
    have := compsH_front h C (xs.length / blk h) H0 (xs ++ ys) xs.length hle
    rw [List.take_left] at this
    exact this
  · rw [List.length_append, d1, d2, over_front (by rw [f.len]; omega), f.held, List.drop_append_of_le_length hle]

/-- a block is filled, and taken -/
theorem Fed.fill {h : Int} {C H0 xs H half ys : List Int} (f : Fed h C H0 xs H half) (hl : xs.length % blk h + ys.length = blk h) :
    Fed h C H0 (xs ++ ys) (compsH h C 1 H ((over half (xs.length % blk h) ys).take (blk h))) (over half (xs.length % blk h) ys) := by
  have hb := blk_le h
  have hp := blk_pos h
  have h1 := Nat.div_add_mod xs.length (blk h)
  have h2 : xs.length + ys.length = (xs.length / blk h + 1) * blk h := by rw [Nat.succ_mul, Nat.mul_comm]; omega
  have d1 : (xs.length + ys.length) / blk h = xs.length / blk h + 1 := by rw [h2]; exact Nat.mul_div_cancel _ hp
  have d2 : (xs.length + ys.length) % blk h = 0 := by rw [h2]; exact Nat.mul_mod_left _ _
  have hle : xs.length / blk h * blk h ≤ xs.length := Nat.div_mul_le_self _ _
  refine ⟨?_, ?_, by rw [over_len (by rw [f.len]; omega)]; exact f.len⟩
  · rw [List.length_append, d1, compsH_add, f.words]
    have e1 := compsH_front h C (xs.length / blk h) H0 (xs ++ ys) xs.length hle
    rw [List.take_left] at e1
    rw [← e1]
    congr 1
    have e2 := over_front (l := half) (ys := ys) (o := xs.length % blk h) (by rw [f.len]; omega)
    rw [hl] at e2
    rw [e2, f.held, List.drop_append_of_le_length hle]
  · rw [List.length_append, d1, d2]
    simp
    omega

/-- whole blocks are taken, what is left is held; nothing was held -/
theorem Fed.whole {h : Int} {C H0 xs H half ys : List Int} (f : Fed h C H0 xs H half) (hz : xs.length % blk h = 0) :
    Fed h C H0 (xs ++ ys) (compsH h C (ys.length / blk h) H (ys.take (ys.length / blk h * blk h))) (over half 0 (ys.drop (ys.length / blk h * blk h))) := by
  have hb := blk_le h
  have hp := blk_pos h
  have h1 := Nat.div_add_mod xs.length (blk h)
  have hx : xs.length = xs.length / blk h * blk h := by rw [Nat.mul_comm]; omega
  have d1 : (xs.length + ys.length) / blk h = xs.length / blk h + ys.length / blk h := by
    have : xs.length + ys.length = ys.length + blk h * (xs.length / blk h) := by omega
    rw [this, Nat.add_mul_div_left _ _ hp, Nat.add_comm]
  have d2 : (xs.length + ys.length) % blk h = ys.length % blk h := by
    have : xs.length + ys.length = ys.length + blk h * (xs.length / blk h) := by omega
    rw [this, Nat.add_mul_mod_self_left]
  have hyl := Nat.div_add_mod ys.length (blk h)
  have hym := Nat.mod_lt ys.length hp
  have hyle : ys.length / blk h * blk h ≤ ys.length := Nat.div_mul_le_self _ _
  have hrl : (ys.drop (ys.length / blk h * blk h)).length = ys.length % blk h := by
    rw [List.length_drop]
    have : blk h * (ys.length / blk h) = ys.length / blk h * blk h := Nat.mul_comm _ _
    omega
  refine ⟨?_, ?_, by rw [over_len (by rw [hrl, f.len]; omega)]; exact f.len⟩
  · rw [List.length_append, d1, compsH_add, f.words]
    have e1 := compsH_front h C (xs.length / blk h) H0 (xs ++ ys) xs.length (by omega)
    rw [List.take_left] at e1
    rw [← e1, compsH_front h C _ _ ys _ (Nat.le_refl _)]
    congr 1
    rw [← hx, List.drop_left]
  · rw [List.length_append, d1, d2]
    have := over_front (l := half) (ys := ys.drop (ys.length / blk h * blk h)) (o := 0) (by rw [hrl, f.len]; omega)
    rw [hrl, Nat.zero_add] at this
    rw [this, List.take_zero, List.nil_append, Nat.add_mul, ← hx, List.drop_append]
    simp

end Go.Sha

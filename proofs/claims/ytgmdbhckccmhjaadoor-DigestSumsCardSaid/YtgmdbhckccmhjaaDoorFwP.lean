/- Strings and bytes; shifts and masks of small numbers; nothing of a program stands here. -/
import Derived.Test.YtgmdbhckccmhjaaDoorFwO
import Derived.Laws.BytesString
import Derived.Laws.Concat
namespace Go.Fw
open Go.RowKit

/-- the string of some bytes -/
def bytesOf (zs : List Int) : ByteArray := ⟨(zs.map fun n => UInt8.ofNat n.toNat).toArray⟩

theorem bytesOf_append (xs ys : List Int) : bytesOf (xs ++ ys) = bytesOf xs ++ bytesOf ys := by
  apply ByteArray.ext
  simp [bytesOf, ByteArray.data_append]

theorem bytesOf_size (xs : List Int) : (bytesOf xs).size = xs.length := by simp [bytesOf, ByteArray.size]

theorem foldl_push (zs : List Int) : ∀ r : ByteArray, zs.foldl (fun r n => r.push (UInt8.ofNat n.toNat)) r = r ++ bytesOf zs := by
  induction zs with
  | nil => intro r; apply ByteArray.ext; simp [bytesOf, ByteArray.data_append]
  | cons z s ih =>
    intro r
    rw [List.foldl_cons, ih]
    apply ByteArray.ext
    simp [bytesOf, ByteArray.data_append, ByteArray.data_push]

theorem b2s_ok {P : Program} {w : World} {s : Sl} {zs : List Int} (h : RdS .u8 w s zs) : b2s P s.a s.len s.cap w = some (bytesOf zs, w) := by
  unfold b2s
  cases ha : s.a with
  | none =>
    have hz : zs = [] := by
      rcases h.rd with e | ⟨p, hp, _⟩
      · exact e
      · rw [ha] at hp; cases hp
    subst hz
    have h0 : s.len = 0 := by rw [h.len]; rfl
    rw [h0]
    simp only [Conv.bytesToString]
    first
      | rfl
      | (simp; rfl)
  | some p =>
    have hl : (loadCells p s.len).run P w = .ok (zs.map (Value.int .u8)).toArray w := by
      have hr : Rd w p (ints .u8 zs) := by
        rcases h.rd with rfl | ⟨q, hq, hr⟩
        · intro i v hv; simp at hv
        · rw [ha] at hq; cases hq; exact hr
      have := run_loadCells_list (P := P) w p (zs.map (Value.int .u8)) hr
      rw [h.len]
      simpa using this
    rw [run_bytesToString (P := P) w p s.len s.cap zs hl]
    simp only [foldl_push]
    have : ByteArray.empty ++ bytesOf zs = bytesOf zs := by
      apply ByteArray.ext
      simp [ByteArray.data_append]
    rw [this]

theorem bop_add_str {P : Program} {t : TypeId} (ox oy : Operand) (a b : ByteArray) (h : a.size + b.size ≤ 9223372036854775807) (w : World) :
    bop P .add t ox oy (.string a) (.string b) w = some (.string (a ++ b), w) := by
  unfold bop
  have hr := run_string_add_sum (P := P) (w := w) a b h
  simp [go_sem, binOp, hr]

/-! ### Small numbers -/

theorem wraps_i64 (n : Int) (h₀ : 0 ≤ n) (h₁ : n < 2 ^ 62) : IntKind.i64.wrap n = n := by rw [IntKind.wrap_i64]; omega
theorem wn64 {n : Nat} (h : n < 9223372036854775808) : IntKind.i64.wrap (n : Int) = (n : Int) := w64 (by omega) (by omega)

theorem and_i64 {n i : Nat} (h : n < 4611686018427387904) (hi : i ≤ 62) : bits .and .i64 (n : Int) (((2 ^ i - 1 : Nat)) : Int) = ((n % 2 ^ i : Nat) : Int) := by
  have hb := (bits_nat .i64 62 (by decide) wraps_i64 n (2 ^ i - 1) (by simpa using h) (by
    have : 2 ^ i ≤ 2 ^ 62 := Nat.pow_le_pow_right (by decide) hi
    omega)).1
  rw [hb, Nat.and_two_pow_sub_one_eq_mod]

theorem or_i64 {a b : Nat} (h : a < 4503599627370496) (i : Nat) (hi : i ≤ 10) (hb : b < 2 ^ i) : bits .or .i64 (((a * 2 ^ i : Nat)) : Int) (b : Int) = ((a * 2 ^ i + b : Nat) : Int) := by
  have hp : 2 ^ i ≤ 2 ^ 10 := Nat.pow_le_pow_right (by decide) hi
  have h1 : a * 2 ^ i < 2 ^ 62 := by
    have := Nat.mul_le_mul (Nat.le_of_lt h) hp
    have h2 : a * 2 ^ i ≤ 4503599627370496 * 2 ^ i := Nat.mul_le_mul_right _ (Nat.le_of_lt h)
    have h3 : a * 2 ^ i < 4503599627370496 * 2 ^ i := Nat.mul_lt_mul_of_pos_right h (Nat.two_pow_pos i)
    have h4 : 4503599627370496 * 2 ^ i ≤ 4503599627370496 * 2 ^ 10 := Nat.mul_le_mul_left _ hp
    omega
  have hbb := (bits_nat .i64 62 (by decide) wraps_i64 (a * 2 ^ i) b h1 (by omega)).2
  rw [hbb]
  congr 1
  rw [Nat.mul_comm, ← Nat.two_pow_add_eq_or_of_lt hb]

theorem fdiv_nat (n m : Nat) : Int.fdiv (n : Int) (m : Int) = ((n / m : Nat) : Int) := (Int.ofNat_fdiv n m).symm
theorem tdiv_nat (n m : Nat) : Int.tdiv (n : Int) (m : Int) = ((n / m : Nat) : Int) := (Int.ofNat_tdiv n m).symm
theorem tmod_nat (n m : Nat) : Int.tmod (n : Int) (m : Int) = ((n % m : Nat) : Int) := (Int.ofNat_tmod n m).symm

theorem and3_i64 {n : Nat} (h : n < 4611686018427387904) : bits .and .i64 (n : Int) 3 = ((n % 4 : Nat) : Int) := and_i64 h (i := 2) (by decide)
theorem and15_i64 {n : Nat} (h : n < 4611686018427387904) : bits .and .i64 (n : Int) 15 = ((n % 16 : Nat) : Int) := and_i64 h (i := 4) (by decide)
theorem fdiv_pow (v k : Nat) : Int.fdiv (v : Int) (2 ^ k) = ((v / 2 ^ k : Nat) : Int) := by
  have : (2 ^ k : Int) = ((2 ^ k : Nat) : Int) := by simp
  rw [this, fdiv_nat]

end Go.Fw

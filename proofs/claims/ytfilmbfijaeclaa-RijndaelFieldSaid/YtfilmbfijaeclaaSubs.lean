/- Substitutions of package rijndael and of the document's answer; 'cofferlaw02.RijndaelField': what the walk computes. -/
import Derived.Test.YtfilmbfijaeclaaField
set_option linter.unusedVariables false
set_option maxRecDepth 100000
namespace Go.Sh
open Go.Fw Go.Gf Go.RowKit Go.Proofs.Try

def rot (b n : Nat) : Nat := (b * 2 ^ n % 256) ||| (b / 2 ^ (8 - n))

theorem rot_lt : ∀ b, b < 256 → rot b 1 < 256 ∧ rot b 2 < 256 ∧ rot b 3 < 256 ∧ rot b 4 < 256 := by decide +kernel

theorem turn_ok : ∀ b : Nat, b < 256 → rijndael_turn (b : Int) 1 = some (((rot b 1 : Nat) : Int), ()) ∧ rijndael_turn (b : Int) 2 = some (((rot b 2 : Nat) : Int), ()) ∧
    rijndael_turn (b : Int) 3 = some (((rot b 3 : Nat) : Int), ()) ∧ rijndael_turn (b : Int) 4 = some (((rot b 4 : Nat) : Int), ()) := by decide +kernel

def sb (q : Nat) : Nat := q ^^^ rot q 1 ^^^ rot q 2 ^^^ rot q 3 ^^^ rot q 4 ^^^ 99

def subRun : Nat → Nat → Nat → List Nat → Option (List Nat)
  | 0, _, _, _ => none
  | n + 1, p, q, t => if mul p 3 = 1 then some (t.set (mul p 3) (sb (mul q 246))) else subRun n (mul p 3) (mul q 246) (t.set (mul p 3) (sb (mul q 246)))

def sbT : List Nat := (subRun 256 1 1 ((List.replicate 256 0).set 0 99)).getD []

theorem sbT_eq : subRun 256 1 1 ((List.replicate 256 0).set 0 99) = some sbT := by
  have h : (subRun 256 1 1 ((List.replicate 256 0).set 0 99)).isSome = true := by decide +kernel
  obtain ⟨t, ht⟩ := Option.isSome_iff_exists.1 h
  unfold sbT
  rw [ht]; rfl

theorem sbT_len : sbT.length = 256 := by decide +kernel
theorem sbT_lt : ∀ i, i < 256 → sbT.getD i 0 < 256 := by decide +kernel

/-- numbers as a row of cells -/
abbrev row (t : List Nat) : List Value := ints .u8 (t.map Int.ofNat)

theorem row_set (t : List Nat) (i x : Nat) : (row t).set i (.int .u8 (x : Int)) = row (t.set i x) := by
  simp only [row, ints, List.map_set, List.map_map]
  rfl

theorem row_len (t : List Nat) : (row t).length = t.length := by simp [row, ints]

theorem row_size (t : List Nat) : (row t).toArray.size = t.length := by rw [List.size_toArray, row_len]

theorem row_get {t : List Nat} {i : Nat} (h : i < t.length) : (row t)[i]? = some (.int .u8 ((t.getD i 0 : Nat) : Int)) := by
  simp [row, ints, h, List.getD_eq_getElem?_getD]

theorem z27_row : z27 = (row (List.replicate 256 0)).toArray := by
  apply Array.ext'
  simp [z27, row, ints]

theorem sb_lt {q : Nat} (hq : q < 256) : sb q < 256 := by
  obtain ⟨h1, h2, h3, h4⟩ := rot_lt q hq
  unfold sb
  exact Nat.xor_lt_two_pow (n := 8) (Nat.xor_lt_two_pow (Nat.xor_lt_two_pow (Nat.xor_lt_two_pow (Nat.xor_lt_two_pow hq h1) h2) h3) h4) (by decide)

theorem sub_loop (K : Nat) (hK : 300 ≤ K) {g0 g : Nat} (hg : g0 ≠ g) (T : List Nat) : ∀ (f n p q : Nat) (t : List Nat) (w : World) (cs : List Value), f ≤ n → p < 256 → q < 256 → t.length = 256 → cs.length = 256 → Bk 27 w g0 cs → Bk 27 w g (row t) →
    subRun f p q t = some T → ∃ w', rijndael_substitutions_l0 K n ⟨g0, 0, none⟩ ⟨g, 0, none⟩ (p : Int) (q : Int) w = some (.ret (⟨g0, 0, none⟩, ()), w') ∧ Bk 27 w' g0 (row T) ∧ Upd (fun k => k = g0 ∨ k = g) w w' := by
  intro f
  induction f with
  | zero => intro n p q t w cs _ _ _ _ _ _ _ h; simp [subRun] at h
  | succ f ih =>
    intro n p q t w cs hn hp hq ht hc hb0 hb h
    obtain ⟨n, rfl⟩ : ∃ m, n = m + 1 := ⟨n - 1, by omega⟩
    have hp2 := mul_lt (b := 3) hp
    have hq2 := mul_lt (b := 246) hq
    have e1 : rijndael_Times K (p : Int) 3 = some (((mul p 3 : Nat) : Int), ()) := Times_ok hK hp (b := 3) (by decide)
    have e2 : rijndael_Times K (q : Int) 246 = some (((mul q 246 : Nat) : Int), ()) := Times_ok hK hq (b := 246) (by decide)
    obtain ⟨t1, t2, t3, t4⟩ := turn_ok _ hq2
    obtain ⟨r1, r2, r3, r4⟩ := rot_lt _ hq2
    have x1 := Nat.xor_lt_two_pow (n := 8) hq2 r1
    have x2 := Nat.xor_lt_two_pow (n := 8) x1 r2
    have x3 := Nat.xor_lt_two_pow (n := 8) x2 r3
    have x4 := Nat.xor_lt_two_pow (n := 8) x3 r4
    have e3 : bits .xor .u8 (((mul q 246 ^^^ rot (mul q 246) 1 ^^^ rot (mul q 246) 2 ^^^ rot (mul q 246) 3 ^^^ rot (mul q 246) 4 : Nat)) : Int) 99 = ((sb (mul q 246) : Nat) : Int) := xor8 x4 (b := 99) (by decide)
    have k1 : (0 : Int) ≤ ((mul p 3 : Nat) : Int) ∧ ((mul p 3 : Nat) : Int) < ((256 : Nat) : Int) := by omega
    obtain ⟨w1, s1, s2, s3⟩ := hb.stC (i := mul p 3) (by rw [row_len]; omega) (.int .u8 ((sb (mul q 246) : Nat) : Int))
    rw [row_set] at s2
    have s1' : stC ((⟨g, 0, none⟩ : Addr).add (mul p 3 * 1)) (.int .u8 ((sb (mul q 246) : Nat) : Int)) w = some w1 := by rw [add_lit, Nat.mul_one, Nat.zero_add]; exact s1
    have hb01 : Bk 27 w1 g0 cs := hb0.upd s3 hg
    have hlen : (t.set (mul p 3) (sb (mul q 246))).length = 256 := by simpa using ht
    show ∃ w', rijndael_substitutions_l0_b K (rijndael_substitutions_l0 K n) ⟨g0, 0, none⟩ ⟨g, 0, none⟩ (p : Int) (q : Int) w = _ ∧ _
    unfold rijndael_substitutions_l0_b
    rw [e1, Option.bind_some, e2, Option.bind_some]
    simp only [t1, t2, t3, t4, Option.bind_some]
    rw [if_pos k1, Int.toNat_natCast, xor8 hq2 r1, xor8 x1 r2, xor8 x2 r3, xor8 x3 r4, e3, s1', Option.bind_some]
    simp only [subRun] at h
    by_cases hp1 : mul p 3 = 1
    · rw [if_pos hp1] at h
      have hT := Option.some.inj h
      have d1 : ((((mul p 3 : Nat) : Int)) == 1) = true := by rw [hp1]; rfl
      have hl := s2.ldA (i := 0) (n := 256) (by rw [row_len, hlen]; decide)
      rw [List.drop_zero, List.take_of_length_le (by rw [row_len, hlen]; decide)] at hl
      obtain ⟨w2, a1, a2, a3⟩ := hb01.stA (o := 0) (vs := (row (t.set (mul p 3) (sb (mul q 246)))).toArray) (by rw [row_size, hlen, hc]; decide) (fun v hv => ints_one v hv)
      refine ⟨w2, ?_, ?_, (s3.mono fun _ _ e => .inr e).trans' a3 fun _ _ e => .inl e⟩
      · rw [d1, if_pos rfl, hl, Option.bind_some, if_pos (by rw [row_size, hlen]), a1, Option.bind_some]
      · have : seg cs 0 (row (t.set (mul p 3) (sb (mul q 246)))) = row T := by
          rw [← hT]
          simp only [seg, List.take_zero, List.nil_append, Nat.zero_add]
          rw [List.drop_eq_nil_of_le (by rw [row_len, hlen, hc]; exact Nat.le_refl _), List.append_nil]
        rw [← this]; exact a2
    · rw [if_neg hp1] at h
      have d1 : ((((mul p 3 : Nat) : Int)) == 1) = false := by simp; omega
      obtain ⟨w2, a1, a2, a3⟩ := ih n (mul p 3) (mul q 246) _ w1 cs (by omega) hp2 hq2 hlen hc hb01 s2 h
      refine ⟨w2, ?_, a2, (s3.mono fun _ _ e => .inr e).trans' a3 fun _ _ e => e⟩
      rw [d1, if_neg (by decide)]
      exact a1

theorem substitutions_ok {K : Nat} (hK : 300 ≤ K) (w : World) : ∃ w', rijndael_substitutions K w = some (((row sbT).toArray, ()), w') ∧ Upd none_ w w' := by
  obtain ⟨w1, n1, b1, u1, z1⟩ := newB_ok z27 27 w
  obtain ⟨w2, n2, b2, u2, z2⟩ := newB_ok z27 27 w1
  rw [z27_row] at b1 b2
  have b1 : Bk 27 w1 w.heap.size (row (List.replicate 256 0)) := b1
  have b2 : Bk 27 w2 w1.heap.size (row (List.replicate 256 0)) := b2
  obtain ⟨w3, s1, s2, s3⟩ := b2.stC (i := 0) (by rw [row_len]; decide) (.int .u8 ((99 : Nat) : Int))
  rw [row_set] at s2
  have hne : w.heap.size ≠ w1.heap.size := by omega
  obtain ⟨w4, h1, h2, h3⟩ := sub_loop K hK (g0 := w.heap.size) (g := w1.heap.size) hne sbT 256 K 1 1 _ w3 _ (by omega) (by decide) (by decide) (by simp) (by rw [row_len]; simp)
    ((b1.upd0 u2).upd s3 hne) s2 sbT_eq
  have h1 : rijndael_substitutions_l0 K K ⟨w.heap.size, 0, none⟩ ⟨w1.heap.size, 0, none⟩ 1 1 w3 = _ := h1
  have hl := h2.ldA (i := 0) (n := 256) (by rw [row_len, sbT_len]; decide)
  rw [List.drop_zero, List.take_of_length_le (by rw [row_len, sbT_len]; decide)] at hl
  refine ⟨w4, ?_, ?_⟩
  · unfold rijndael_substitutions
    rw [n1, bnd_ok, n2, bnd_ok]
    have s1' : stC ((⟨w1.heap.size, 0, none⟩ : Addr).add (0 * 1)) (.int .u8 99) w2 = some w3 := s1
    rw [s1', Option.bind_some, h1, bnd_ok]
    show (ldA 256 ⟨w.heap.size, 0, none⟩ w4).bind _ = _
    rw [hl, Option.bind_some]
  · refine ((u1.and0 u2).trans' s3 fun k hk e => ?_).trans' h3 fun k hk e => ?_
    · omega
    · omega

theorem SBox_ok {K : Nat} (hK : 300 ≤ K) {b : Nat} (hb : b < 256) (w : World) : ∃ w', rijndael_SBox K (b : Int) w = some ((((sbT.getD b 0 : Nat) : Int), ()), w') ∧ Upd none_ w w' := by
  obtain ⟨w1, h1, u1⟩ := substitutions_ok hK w
  refine ⟨w1, ?_, u1⟩
  have k1 : (0 : Int) ≤ (b : Int) ∧ (b : Int) < ((256 : Nat) : Int) := by omega
  have hg : (row sbT).toArray[b]? = some (.int .u8 ((sbT.getD b 0 : Nat) : Int)) := by
    rw [List.getElem?_toArray]; exact row_get (by rw [sbT_len]; exact hb)
  unfold rijndael_SBox
  rw [h1, bnd_ok, if_pos k1, Int.toNat_natCast, Nat.mul_one]
  show ((row sbT).toArray[b]?).bind _ = _
  rw [hg, Option.bind_some]
  rfl

/-! ### The inverse -/

def invT : Nat → List Nat
  | 0 => List.replicate 256 0
  | i + 1 => (invT i).set (sbT.getD i 0) i

theorem invT_len : ∀ i, (invT i).length = 256
  | 0 => by simp [invT]
  | i + 1 => by simp [invT, invT_len i]

theorem inv_loop (K : Nat) {g : Nat} (a2 : Addr) : ∀ (d i n : Nat) (w : World), d + i = 256 → d < n → Bk 27 w g (row (invT i)) →
    ∃ w', rijndael_inverse_l0 K n a2 ⟨g, 0, none⟩ (row sbT).toArray (i : Int) w = some ((), w') ∧ Bk 27 w' g (row (invT 256)) ∧ Upd (· = g) w w' := by
  intro d
  induction d with
  | zero =>
    intro i n w hi hn hb
    obtain ⟨n, rfl⟩ : ∃ m, n = m + 1 := ⟨n - 1, by omega⟩
    have : i = 256 := by omega
    subst this
    refine ⟨w, ?_, hb, Upd.refl _ _⟩
    show rijndael_inverse_l0_b K (rijndael_inverse_l0 K n) a2 ⟨g, 0, none⟩ (row sbT).toArray ((256 : Nat) : Int) w = _
    simp [rijndael_inverse_l0_b]
  | succ d ih =>
    intro i n w hi hn hb
    obtain ⟨n, rfl⟩ : ∃ m, n = m + 1 := ⟨n - 1, by omega⟩
    have hlt := sbT_lt i (by omega)
    have hg : (row sbT).toArray[i]? = some (.int .u8 ((sbT.getD i 0 : Nat) : Int)) := by
      rw [List.getElem?_toArray]; exact row_get (by rw [sbT_len]; omega)
    obtain ⟨w1, s1, s2, s3⟩ := hb.stC (i := sbT.getD i 0) (by rw [row_len, invT_len]; exact hlt) (.int .u8 ((i : Nat) : Int))
    rw [row_set] at s2
    have s1' : stC ((⟨g, 0, none⟩ : Addr).add (sbT.getD i 0 * 1)) (.int .u8 (i : Int)) w = some w1 := by rw [add_lit, Nat.mul_one, Nat.zero_add]; exact s1
    obtain ⟨w2, h1, h2, h3⟩ := ih (i + 1) n w1 (by omega) (by omega) s2
    refine ⟨w2, ?_, h2, s3.trans' h3 fun _ _ e => e⟩
    have hd : decide ((i : Int) < 256) = true := by simp; omega
    have k1 : (0 : Int) ≤ (i : Int) ∧ (i : Int) < ((256 : Nat) : Int) := by omega
    have k2 : (0 : Int) ≤ ((sbT.getD i 0 : Nat) : Int) ∧ ((sbT.getD i 0 : Nat) : Int) < ((256 : Nat) : Int) := by omega
    have hw : IntKind.i64.wrap ((i : Int) + 1) = ((i + 1 : Nat) : Int) := by rw [w64 (by omega) (by omega)]; rfl
    have hw8 : IntKind.u8.wrap (i : Int) = (i : Int) := w8 (by omega) (by omega)
    show rijndael_inverse_l0_b K (rijndael_inverse_l0 K n) a2 ⟨g, 0, none⟩ (row sbT).toArray (i : Int) w = _
    unfold rijndael_inverse_l0_b
    rw [hd, if_pos rfl, if_pos k1, Int.toNat_natCast, Nat.mul_one, hg, Option.bind_some]
    show (some ((sbT.getD i 0 : Nat) : Int)).bind _ = _
    rw [Option.bind_some, if_pos k2, Int.toNat_natCast, hw8, s1', Option.bind_some, hw, h1]

theorem inverse_ok {K : Nat} (hK : 300 ≤ K) (w : World) : ∃ w', rijndael_inverse K (row sbT).toArray w = some (((row (invT 256)).toArray, ()), w') ∧ Upd none_ w w' := by
  obtain ⟨w1, n1, b1, u1, z1⟩ := newB_ok (row sbT).toArray 27 w
  obtain ⟨w2, n2, b2, u2, z2⟩ := newB_ok z27 27 w1
  obtain ⟨w3, n3, b3, u3, z3⟩ := newB_ok z27 27 w2
  rw [z27_row] at b2 b3
  have b1 : Bk 27 w1 w.heap.size (row sbT) := b1
  have b2 : Bk 27 w2 w1.heap.size (row (List.replicate 256 0)) := b2
  have b3 : Bk 27 w3 w2.heap.size (row (invT 0)) := b3
  have hl := ((b1.upd0 u2).upd0 u3).ldA (i := 0) (n := 256) (by rw [row_len, sbT_len]; decide)
  rw [List.drop_zero, List.take_of_length_le (by rw [row_len, sbT_len]; decide)] at hl
  obtain ⟨w4, h1, h2, h3⟩ := inv_loop K ⟨w1.heap.size, 0, none⟩ 256 0 K w3 rfl (by omega) b3
  have h1 : rijndael_inverse_l0 K K ⟨w1.heap.size, 0, none⟩ ⟨w2.heap.size, 0, none⟩ (row sbT).toArray 0 w3 = _ := h1
  have hl2 := h2.ldA (i := 0) (n := 256) (by rw [row_len, invT_len]; decide)
  rw [List.drop_zero, List.take_of_length_le (by rw [row_len, invT_len]; decide)] at hl2
  have hne : ¬ w1.heap.size = w2.heap.size := by omega
  obtain ⟨w5, a1, a2, a3⟩ := ((b2.upd0 u3).upd h3 hne).stA (o := 0) (vs := (row (invT 256)).toArray) (by rw [row_size, invT_len, row_len]; simp) (fun v hv => ints_one v hv)
  have e : seg (row (List.replicate 256 0)) 0 (row (invT 256)) = row (invT 256) := by
    simp only [seg, List.take_zero, List.nil_append, Nat.zero_add]
    rw [List.drop_eq_nil_of_le (by rw [row_len, row_len, invT_len]; simp), List.append_nil]
  have a2 : Bk 27 w5 w1.heap.size (row (invT 256)) := by rw [← e]; exact a2
  have hl3 := a2.ldA (i := 0) (n := 256) (by rw [row_len, invT_len]; decide)
  rw [List.drop_zero, List.take_of_length_le (by rw [row_len, invT_len]; decide)] at hl3
  refine ⟨w5, ?_, ?_⟩
  · unfold rijndael_inverse
    rw [n1, bnd_ok, n2, bnd_ok, n3, bnd_ok, hl, Option.bind_some, h1, bnd_ok, hl2, Option.bind_some, if_pos (by rw [row_size, invT_len]), a1, Option.bind_some, hl3, Option.bind_some]
  · refine (((u1.and0 u2).and0 u3).trans' h3 fun k hk e => ?_).trans' a3 fun k hk e => ?_
    · omega
    · omega

theorem InvSBox_ok {K : Nat} (hK : 300 ≤ K) {b : Nat} (hb : b < 256) (w : World) : ∃ w', rijndael_InvSBox K (b : Int) w = some (((((invT 256).getD b 0 : Nat) : Int), ()), w') ∧ Upd none_ w w' := by
  obtain ⟨w1, h1, u1⟩ := substitutions_ok hK w
  obtain ⟨w2, h2, u2⟩ := inverse_ok hK w1
  refine ⟨w2, ?_, u1.and0 u2⟩
  have k1 : (0 : Int) ≤ (b : Int) ∧ (b : Int) < ((256 : Nat) : Int) := by omega
  have hg : (row (invT 256)).toArray[b]? = some (.int .u8 (((invT 256).getD b 0 : Nat) : Int)) := by
    rw [List.getElem?_toArray]; exact row_get (by rw [invT_len]; exact hb)
  unfold rijndael_InvSBox
  rw [h1, bnd_ok, h2, bnd_ok, if_pos k1, Int.toNat_natCast, Nat.mul_one]
  show ((row (invT 256)).toArray[b]?).bind _ = _
  rw [hg, Option.bind_some]
  rfl

theorem both : ∀ a, a < 256 → (invT 256).getD (sbT.getD a 0) 0 = a ∧ sbT.getD ((invT 256).getD a 0) 0 = a ∧ (invT 256).getD a 0 < 256 := by decide +kernel

/-! ### The document's substitution -/

def powN : Nat → Nat → Nat → Nat
  | 0, _, p => p
  | n + 1, b, p => powN n (mul b b) (mul p (mul b b))

theorem refInv_loop (K : Nat) (hK : 300 ≤ K) : ∀ (d i n b p : Nat), d + i = 7 → d < n → b < 256 → p < 256 → ref02_inverse_l0 K n (b : Int) (p : Int) (i : Int) = some (.norm (((powN d b p : Nat) : Int), ())) := by
  intro d
  induction d with
  | zero =>
    intro i n b p hi hn hb hp
    obtain ⟨n, rfl⟩ : ∃ m, n = m + 1 := ⟨n - 1, by omega⟩
    have : i = 7 := by omega
    subst this
    show ref02_inverse_l0_b K (ref02_inverse_l0 K n) (b : Int) (p : Int) ((7 : Nat) : Int) = _
    simp [ref02_inverse_l0_b, powN]
  | succ d ih =>
    intro i n b p hi hn hb hp
    obtain ⟨n, rfl⟩ : ∃ m, n = m + 1 := ⟨n - 1, by omega⟩
    have hd : decide ((i : Int) < 7) = true := by simp; omega
    have hw : IntKind.i64.wrap ((i : Int) + 1) = ((i + 1 : Nat) : Int) := by rw [w64 (by omega) (by omega)]; rfl
    show ref02_inverse_l0_b K (ref02_inverse_l0 K n) (b : Int) (p : Int) (i : Int) = _
    unfold ref02_inverse_l0_b
    rw [hd, if_pos rfl, refTimes_ok hK hb hb, Option.bind_some]
    show (ref02_Times K (p : Int) ((mul b b : Nat) : Int)).bind _ = _
    rw [refTimes_ok hK hp (mul_lt hb), Option.bind_some]
    show ref02_inverse_l0 K n ((mul b b : Nat) : Int) ((mul p (mul b b) : Nat) : Int) (IntKind.i64.wrap ((i : Int) + 1)) = _
    rw [hw, ih (i + 1) n _ _ (by omega) (by omega) (mul_lt hb) (mul_lt hp)]
    rfl

theorem powN_lt : ∀ a, a < 256 → powN 7 a 1 < 256 := by decide +kernel
theorem bits_ok : ∀ a : Nat, a < 256 → ref02_bits 300 ((powN 7 a 1 : Nat) : Int) = some (((sbT.getD a 0 : Nat) : Int), ()) := by decide +kernel

theorem refSBox_ok {a : Nat} (ha : a < 256) : ref02_SBox 300 (a : Int) = some (((sbT.getD a 0 : Nat) : Int), ()) := by
  have h := refInv_loop 300 (by decide) 7 0 300 a 1 rfl (by decide) ha (by decide)
  have h : ref02_inverse_l0 300 300 (a : Int) 1 0 = _ := h
  have hi : ref02_inverse 300 (a : Int) = some (((powN 7 a 1 : Nat) : Int), ()) := by
    unfold ref02_inverse; rw [h, Option.bind_some]
  have := powN_lt a ha
  unfold ref02_SBox
  rw [hi, Option.bind_some]
  show (ref02_bits 300 (IntKind.i64.wrap ((powN 7 a 1 : Nat) : Int))).bind _ = _
  rw [wn64 (by omega), bits_ok a ha, Option.bind_some]

theorem RijndaelField_ok {a b : Nat} (ha : a < 256) (hb : b < 256) (w : World) : ∃ w', law02_RijndaelField 300 (a : Int) (b : Int) w = some ((true, ()), w') ∧ Upd none_ w w' := by
  obtain ⟨w1, h1, u1⟩ := SBox_ok (K := 300) (by decide) ha w
  obtain ⟨w2, h2, u2⟩ := SBox_ok (K := 300) (by decide) ha w1
  obtain ⟨w3, h3, u3⟩ := InvSBox_ok (K := 300) (by decide) (sbT_lt a ha) w2
  obtain ⟨w4, h4, u4⟩ := InvSBox_ok (K := 300) (by decide) hb w3
  obtain ⟨w5, h5, u5⟩ := SBox_ok (K := 300) (by decide) (both b hb).2.2 w4
  have h23 : rijndael_Times 300 2 3 = some (6, ()) := Times_ok (K := 300) (a := 2) (b := 3) (by decide) (by decide) (by decide)
  have hs : law02_RijndaelField_s0 300 (a : Int) (b : Int) w = some ((false, ()), w1) := by
    unfold law02_RijndaelField_s0
    rw [h23, Option.bind_some, if_neg (by decide), Times_ok (by decide) ha hb, Option.bind_some, refTimes_ok (by decide) ha hb, Option.bind_some, if_neg (by simp), h1, bnd_ok, refSBox_ok ha, Option.bind_some]
    simp
  refine ⟨w5, ?_, (((u1.and0 u2).and0 u3).and0 u4).and0 u5⟩
  unfold law02_RijndaelField
  rw [hs, bnd_ok, if_neg (by decide), h2, bnd_ok]
  show bnd (rijndael_InvSBox 300 ((sbT.getD a 0 : Nat) : Int) w2) _ = _
  rw [h3, bnd_ok]
  have e1 : ((((invT 256).getD (sbT.getD a 0) 0 : Nat) : Int) == (a : Int)) = true := by rw [(both a ha).1]; simp
  show (if ((((invT 256).getD (sbT.getD a 0) 0 : Nat) : Int) == (a : Int)) = true then _ else _) = _
  rw [e1, if_pos rfl, h4, bnd_ok]
  show bnd (rijndael_SBox 300 (((invT 256).getD b 0 : Nat) : Int) w4) _ = _
  rw [h5, bnd_ok, (both b hb).2.1]
  simp

end Go.Sh

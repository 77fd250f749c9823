/- Texts of this claim, put together: Stretches, StrLaw, Prefixes, Strm, Keys -/
import Derived.Test.YtgmdbhckccmhjaaDoorAllLawokinlb
/- DigestStretches: every refusal of Stretch, and the bytes. -/
set_option linter.unusedVariables false
namespace Go.Sh
open Go.Fw Go.Sha Go.RowKit Go.Proofs.Tryd Go.Deep

/-- what Stretch refuses -/
def strErr (h : Int) (p s : Nat) (turns n : Int) : Int :=
  if known h = false then 10 else if p > 33554432 ∨ s > 33554428 then 4 else if turns < 1 ∨ turns > 1048576 then 11 else if n < 1 ∨ n > 65536 ∨ turns * ((cnt h n.toNat : Nat) : Int) > 2097152 then 12 else 0

theorem strErr_10 {h : Int} (hk : known h = false) (p s : Nat) (t n : Int) : strErr h p s t n = 10 := by unfold strErr; rw [if_pos hk]
theorem strErr_4 {h : Int} (hk : known h = true) {p s : Nat} (h1 : p > 33554432 ∨ s > 33554428) (t n : Int) : strErr h p s t n = 4 := by
  unfold strErr; rw [if_neg (by rw [hk]; decide), if_pos h1]
theorem strErr_11 {h : Int} (hk : known h = true) {p s : Nat} (h1 : ¬ (p > 33554432 ∨ s > 33554428)) {t : Int} (h2 : t < 1 ∨ t > 1048576) (n : Int) : strErr h p s t n = 11 := by
  unfold strErr; rw [if_neg (by rw [hk]; decide), if_neg h1, if_pos h2]
theorem strErr_12 {h : Int} (hk : known h = true) {p s : Nat} (h1 : ¬ (p > 33554432 ∨ s > 33554428)) {t n : Int} (h2 : ¬ (t < 1 ∨ t > 1048576)) (h3 : n < 1 ∨ n > 65536 ∨ t * ((cnt h n.toNat : Nat) : Int) > 2097152) : strErr h p s t n = 12 := by
  unfold strErr; rw [if_neg (by rw [hk]; decide), if_neg h1, if_neg h2, if_pos h3]
theorem strErr_0 {h : Int} (hk : known h = true) {p s : Nat} (h1 : ¬ (p > 33554432 ∨ s > 33554428)) {t n : Int} (h2 : ¬ (t < 1 ∨ t > 1048576)) (h3 : ¬ (n < 1 ∨ n > 65536 ∨ t * ((cnt h n.toNat : Nat) : Int) > 2097152)) : strErr h p s t n = 0 := by
  unfold strErr; rw [if_neg (by rw [hk]; decide), if_neg h1, if_neg h2, if_neg h3]

theorem cnt_le {h : Int} (hk : known h = true) {n : Nat} (hn : n ≤ 65536) : cnt h n ≤ 65536 := by
  obtain ⟨_, h28, h64⟩ := szH_ok hk
  unfold cnt
  exact Nat.le_trans (Nat.div_le_div_right (c := szH h) (show n + szH h - 1 ≤ 65536 * szH h by omega)) (by rw [Nat.mul_div_cancel _ (by omega)]; exact Nat.le_refl _)

theorem cnt_reckon {h : Int} (hk : known h = true) {t n : Int} (ht : ¬ (t < 1 ∨ t > 1048576)) (h1 : ¬ n < 1) (h2 : ¬ n > 65536) :
    IntKind.i64.wrap (t * (IntKind.i64.wrap (Int.tdiv (IntKind.i64.wrap ((IntKind.i64.wrap (n + sizeOfH h)) - 1)) (sizeOfH h)))) = t * ((cnt h n.toNat : Nat) : Int) := by
  obtain ⟨e, h28, h64⟩ := szH_ok hk
  obtain ⟨m, rfl⟩ : ∃ m : Nat, n = (m : Int) := ⟨n.toNat, by omega⟩
  obtain ⟨q, rfl⟩ : ∃ q : Nat, t = (q : Int) := ⟨t.toNat, by omega⟩
  have hc := cnt_le hk (n := m) (by omega)
  have hq : q * cnt h m ≤ 1048576 * 65536 := Nat.mul_le_mul (by omega) hc
  rw [e, w64 (n := (m : Int) + _) (by omega) (by omega), w64 (n := (m : Int) + _ - 1) (by omega) (by omega), Int.toNat_natCast]
  have e1 : (m : Int) + ((szH h : Nat) : Int) - 1 = ((m + szH h - 1 : Nat) : Int) := by omega
  have e2 : (m + szH h - 1) / szH h = cnt h m := rfl
  rw [e1, tdiv_nat, e2, wn64 (by omega)]
  have e3 : (q : Int) * ((cnt h m : Nat) : Int) = ((q * cnt h m : Nat) : Int) := by simp
  rw [e3, wn64 (by omega)]

theorem size_ne {h : Int} (hk : known h = true) : sizeOfH h ≠ 0 := by obtain ⟨e, h28, _⟩ := szH_ok hk; omega

theorem Stretch_s0_ok {K : Nat} {h : Int} {pass salt : Sl} {t n : Int} (w : World) :
    digest_Stretch_s0 K pass salt t n (sizeOfH h) w = some (if strErr h pass.len salt.len t n = 0 then .norm () else .ret (⟨none, 0, 0⟩, strErr h pass.len salt.len t n, ()), w) := by
  unfold digest_Stretch_s0
  rw [size_zero]
  cases hk : known h with
  | false => rw [strErr_10 hk]; rfl
  | true =>
    rw [if_neg (by decide)]
    have e1 : digest_Stretch_s1 K pass salt w = some ((decide (pass.len > 33554432 ∨ salt.len > 33554428), ()), w) := by
      unfold digest_Stretch_s1
      by_cases h2 : pass.len > 33554432
      · have hd : decide (((pass.len : Nat) : Int) > 33554432) = true := by simp only [decide_eq_true_eq]; omega
        rw [hd, if_pos rfl, decide_eq_true (show pass.len > 33554432 ∨ salt.len > 33554428 from .inl h2)]
      · have hd : decide (((pass.len : Nat) : Int) > 33554432) = false := by simp only [decide_eq_false_iff_not]; omega
        have hd2 : decide (((salt.len : Nat) : Int) > 33554428) = decide (pass.len > 33554432 ∨ salt.len > 33554428) := by
          by_cases h3 : salt.len > 33554428
          · rw [decide_eq_true (show pass.len > 33554432 ∨ salt.len > 33554428 from .inr h3)]; simp only [decide_eq_true_eq]; omega
          · rw [decide_eq_false (show ¬ (pass.len > 33554432 ∨ salt.len > 33554428) by omega)]; simp only [decide_eq_false_iff_not]; omega
        rw [hd, if_neg (by decide), hd2]
    have e2 : digest_Stretch_s2 K t w = some ((decide (t < 1 ∨ t > 1048576), ()), w) := by
      unfold digest_Stretch_s2
      by_cases h2 : t < 1
      · rw [decide_eq_true h2, if_pos rfl, decide_eq_true (show t < 1 ∨ t > 1048576 from .inl h2)]
      · rw [decide_eq_false h2, if_neg (by decide)]
        by_cases h3 : t > 1048576
        · rw [decide_eq_true h3, decide_eq_true (show t < 1 ∨ t > 1048576 from .inr h3)]
        · rw [decide_eq_false h3, decide_eq_false (show ¬ (t < 1 ∨ t > 1048576) by omega)]
    rw [e1, bnd_ok]
    dsimp only
    by_cases c1 : pass.len > 33554432 ∨ salt.len > 33554428
    · rw [decide_eq_true c1, if_pos rfl, strErr_4 hk c1, if_neg (by decide)]
    · rw [decide_eq_false c1, if_neg (by decide), e2, bnd_ok]
      dsimp only
      by_cases c2 : t < 1 ∨ t > 1048576
      · rw [decide_eq_true c2, if_pos rfl, strErr_11 hk c1 c2, if_neg (by decide)]
      · rw [decide_eq_false c2, if_neg (by decide)]
        by_cases c3 : n < 1
        · rw [decide_eq_true c3, if_pos rfl, strErr_12 hk c1 c2 (.inl c3), if_neg (by decide)]
        · rw [decide_eq_false c3, if_neg (by decide)]
          by_cases c4 : n > 65536
          · rw [decide_eq_true c4, if_pos rfl, strErr_12 hk c1 c2 (.inr (.inl c4)), if_neg (by decide)]
          · rw [decide_eq_false c4, if_neg (by decide), if_pos (size_ne hk), cnt_reckon hk c2 c3 c4]
            by_cases c5 : t * ((cnt h n.toNat : Nat) : Int) > 2097152
            · rw [decide_eq_true c5, if_pos rfl, strErr_12 hk c1 c2 (.inr (.inr c5)), if_neg (by decide)]
            · rw [decide_eq_false c5, if_neg (by decide), strErr_0 hk c1 c2 (fun e => e.elim c3 fun e => e.elim c4 c5), if_pos rfl]

theorem refStretchError_ok (h : Int) (p s : Nat) (t n : Int) : ref01_StretchError h (p : Int) (s : Int) t n = some (strErr h p s t n, ()) := by
  unfold ref01_StretchError
  rw [refSize_ok, Option.bind_some]
  dsimp only
  rw [size_zero]
  cases hk : known h with
  | false => rw [strErr_10 hk]; rfl
  | true =>
    rw [if_neg (by decide)]
    have e1 : ref01_StretchError_s0 (p : Int) (s : Int) = some (.norm (decide (p > 33554432 ∨ s > 33554428), ())) := by
      unfold ref01_StretchError_s0
      by_cases h2 : p > 33554432
      · have hd : decide (((p : Nat) : Int) > 33554432) = true := by simp only [decide_eq_true_eq]; omega
        rw [hd, if_pos rfl, decide_eq_true (show p > 33554432 ∨ s > 33554428 from .inl h2)]
      · have hd : decide (((p : Nat) : Int) > 33554432) = false := by simp only [decide_eq_false_iff_not]; omega
        have hd2 : decide (((s : Nat) : Int) > 33554428) = decide (p > 33554432 ∨ s > 33554428) := by
          by_cases h3 : s > 33554428
          · rw [decide_eq_true (show p > 33554432 ∨ s > 33554428 from .inr h3)]; simp only [decide_eq_true_eq]; omega
          · rw [decide_eq_false (show ¬ (p > 33554432 ∨ s > 33554428) by omega)]; simp only [decide_eq_false_iff_not]; omega
        rw [hd, if_neg (by decide), hd2]
    have e2 : ref01_StretchError_s1 t = some (.norm (decide (t < 1 ∨ t > 1048576), ())) := by
      unfold ref01_StretchError_s1
      by_cases h2 : t < 1
      · rw [decide_eq_true h2, if_pos rfl, decide_eq_true (show t < 1 ∨ t > 1048576 from .inl h2)]
      · rw [decide_eq_false h2, if_neg (by decide)]
        by_cases h3 : t > 1048576
        · rw [decide_eq_true h3, decide_eq_true (show t < 1 ∨ t > 1048576 from .inr h3)]
        · rw [decide_eq_false h3, decide_eq_false (show ¬ (t < 1 ∨ t > 1048576) by omega)]
    rw [e1, Option.bind_some]
    dsimp only
    by_cases c1 : p > 33554432 ∨ s > 33554428
    · rw [decide_eq_true c1, if_pos rfl, strErr_4 hk c1]
    · rw [decide_eq_false c1, if_neg (by decide), e2, Option.bind_some]
      dsimp only
      by_cases c2 : t < 1 ∨ t > 1048576
      · rw [decide_eq_true c2, if_pos rfl, strErr_11 hk c1 c2]
      · rw [decide_eq_false c2, if_neg (by decide)]
        by_cases c3 : n < 1
        · rw [decide_eq_true c3, if_pos rfl, strErr_12 hk c1 c2 (.inl c3)]
        · rw [decide_eq_false c3, if_neg (by decide)]
          by_cases c4 : n > 65536
          · rw [decide_eq_true c4, if_pos rfl, strErr_12 hk c1 c2 (.inr (.inl c4))]
          · rw [decide_eq_false c4, if_neg (by decide), if_pos (size_ne hk), cnt_reckon hk c2 c3 c4]
            by_cases c5 : t * ((cnt h n.toNat : Nat) : Int) > 2097152
            · rw [decide_eq_true c5, if_pos rfl, strErr_12 hk c1 c2 (.inr (.inr c5))]
            · rw [decide_eq_false c5, if_neg (by decide), strErr_0 hk c1 c2 (fun e => e.elim c3 fun e => e.elim c4 c5)]

theorem strErr_zero {h : Int} {p s : Nat} {t n : Int} (he : strErr h p s t n = 0) : known h = true ∧ p ≤ 33554432 ∧ s ≤ 33554428 ∧ (∃ m : Nat, t = ((m + 1 : Nat) : Int) ∧ m ≤ 1048575) ∧ ∃ m : Nat, n = (m : Int) ∧ 0 < m ∧ m ≤ 65536 := by
  cases hk : known h with
  | false => rw [strErr_10 hk] at he; cases he
  | true =>
    by_cases c1 : p > 33554432 ∨ s > 33554428
    · rw [strErr_4 hk c1] at he; cases he
    · by_cases c2 : t < 1 ∨ t > 1048576
      · rw [strErr_11 hk c1 c2] at he; cases he
      · by_cases c3 : n < 1 ∨ n > 65536 ∨ t * ((cnt h n.toNat : Nat) : Int) > 2097152
        · rw [strErr_12 hk c1 c2 c3] at he; cases he
        · have c4 : ¬ n < 1 := fun e => c3 (.inl e)
          have c5 : ¬ n > 65536 := fun e => c3 (.inr (.inl e))
          exact ⟨rfl, by omega, by omega, ⟨(t - 1).toNat, by omega, by omega⟩, n.toNat, by omega, by omega, by omega⟩

/-- what Stretch tells -/
def strOf (C S : List Int) (h : Int) (pass salt : List Int) (t n : Int) : List Int :=
  if strErr h pass.length salt.length t n = 0 then (strO C S h pass salt (t - 1).toNat (cnt h n.toNat)).take n.toNat else []

theorem strOf_len (C S : List Int) (h : Int) (pass salt : List Int) (t n : Int) : (strOf C S h pass salt t n).length ≤ 65536 := by
  unfold strOf
  split
  · rename_i he
    obtain ⟨hk, _, _, _, m, rfl, _, hm⟩ := strErr_zero he
    rw [List.length_take, Int.toNat_natCast]; omega
  · exact Nat.zero_le _

theorem Stretch_any {K : Nat} (hK : 18446744073709551616 ≤ K) (h : Int) {C S pass salt : List Int} {w : World} (T : Tabs w C S) {sp ss : Sl} (hp : PartOk w (sp, pass)) (hs : PartOk w (ss, salt)) (t n : Int) :
    ∃ s' w', digest_Stretch K h sp ss t n w = some ((s', strErr h pass.length salt.length t n, ()), w') ∧ Vw 5 w' s' (ints .u8 (strOf C S h pass salt t n)) ∧ Fresh w.heap.size s' ∧ Upd none_ w w' := by
  have h4 := T.lt
  have hpl : sp.len = pass.length := by rw [hp.1.len, ints_length]
  have hsl : ss.len = salt.length := by rw [hs.1.len, ints_length]
  obtain ⟨w1, h1, u1⟩ := Size_ok h w
  have hs1 := u1.size
  have hs0 := Stretch_s0_ok (K := K) (h := h) (pass := sp) (salt := ss) (t := t) (n := n) w1
  rw [hpl, hsl] at hs0
  unfold strOf
  by_cases he : strErr h pass.length salt.length t n = 0
  · rw [if_pos he] at hs0 ⊢
    obtain ⟨hk, hl1, hl2, ⟨m, rfl, hm⟩, q, rfl, hq0, hq1⟩ := strErr_zero he
    rw [Int.toNat_natCast]
    have em : (((m + 1 : Nat) : Int) - 1).toNat = m := by omega
    rw [em]
    obtain ⟨hsz, hs28, hs64⟩ := szH_ok hk
    obtain ⟨hc1, hc2, hc3⟩ := cnt_ok hk hq0
    have hcl := cnt_le hk hq1
    obtain ⟨cs, w2, h2, kd, u2⟩ := key_ok hK hk (T.upd0 u1) (hp.1.upd0 u1) hp.2.1 (show pass.length ≤ 1099511627776 by omega) (fun q hq => by have := hp.2.2.2 q hq; show q.block < _; omega)
    have hs2 := u2.size
    obtain ⟨w3, n3, b3, u3, z3⟩ := newB_ok z89 89 w2
    obtain ⟨w4, s4, b4, u4, _⟩ := lay b3 (vs := cs) (by rw [kd.len]; kernel_rfl) kd.one
    have hs3 := u3.size
    have hs4 := u4.size
    have q4 : Upd none_ w w4 := ((u1.and0 u2).and0 u3).trans' u4 fun k hk e => by omega
    obtain ⟨out, w5, h5, o5, f5, bl5⟩ := Stretch_l3 hK hk (C := C) (S := S) (pass := pass) (salt := salt) (s := ss) (by omega) hq0 hq1 (m := m) hm (gm := w2.heap.size) (B := w4.heap.size) b4.lt kd (cnt h q) 0 K w4 ⟨none, 0, 0⟩ (by omega) (by omega) (T.upd0 q4) b4
      ⟨hs.1.upd0 q4, hs.2.1, hs.2.2.1, fun q hq => by have := hs.2.2.2 q hq; show q.block < _; omega⟩ (fun q hq => by have := hs.2.2.2 q hq; omega) (Own.nil 5 w4) (fun k hk => by cases hk) (by omega) (Nat.le_refl _)
    have h5 : digest_Stretch_l3 K K ss ((m + 1 : Nat) : Int) (q : Int) ⟨w2.heap.size, 0, none⟩ ⟨none, 0, 0⟩ 1 w4 = _ := h5
    have hol : out.len = cnt h q * szH h := by rw [o5.len, ints_length, strO_len hk]
    have hcap := o5.cap
    have hne : ints .u8 (strO C S h pass salt m (cnt h q)) ≠ [] := fun e => by
      have := congrArg List.length e
      rw [ints_length, strO_len hk] at this
      simp at this; omega
    have hv := o5.front hne (n := q) (c := q) (by omega) (Nat.le_refl _) (by omega)
    rw [ints_take] at hv
    have esl : sla out.a 0 q 1 = out.a := sla_zero ..
    refine ⟨⟨out.a, q, q⟩, w5, ?_, hv, fun k hk => by have := f5 k hk; have := q4.size; omega, q4.and0 (Upd.of_below bl5)⟩
    unfold digest_Stretch
    rw [h1, bnd_ok, hs0, bnd_ok]
    dsimp only
    rw [h2, bnd_ok, n3, bnd_ok]
    dsimp only
    rw [if_pos (by rw [List.size_toArray, kd.len]), s4, Option.bind_some, h5, bnd_ok]
    dsimp only
    rw [if_pos (by omega), Int.toNat_natCast, if_pos (by omega), esl, he, Nat.sub_zero]
  · rw [if_neg he] at hs0 ⊢
    refine ⟨⟨none, 0, 0⟩, w1, ?_, Vw.nil 5 w1, (fun k hk => by cases hk), u1⟩
    unfold digest_Stretch
    rw [h1, bnd_ok, hs0, bnd_ok]

/-! ### The document's answer -/

theorem bigB_4 (i : Int) : bigB i 4 = [IntKind.u8.wrap (Int.fdiv i (2 ^ 24)), IntKind.u8.wrap (Int.fdiv i (2 ^ 16)), IntKind.u8.wrap (Int.fdiv i (2 ^ 8)), IntKind.u8.wrap i] := by
  simp only [bigB]
  have : Int.fdiv i (2 ^ (8 * 0)) = i := by simp
  rw [this]

theorem refStretch_l2 {K : Nat} {p1 p2 p3 : Sl} {h t n : Int} {p12 p16 : Int} {u sum : Sl} {us sm : List Int} (hl : sm.length = us.length) (hl2 : us.length ≤ 64) (hne : ∀ q, u.a = some q → us ≠ [] → sum.blk ≠ some q.block) :
    ∀ (d i k : Nat) (w : World), i + d = us.length → d < k → Src w u (ints .u8 us) → Own 5 w sum (ints .u8 (xp sm us i)) →
      ∃ w', ref01_Stretch_l2 K k h p1 p2 t n p3 p12 u sum p16 (i : Int) w = some ((), w') ∧ Own 5 w' sum (ints .u8 (xorL sm us)) ∧ Upd (fun k => sum.blk = some k) w w' := by
  intro d
  induction d with
  | zero =>
    intro i k w hi hkk hu ho
    obtain ⟨k, rfl⟩ : ∃ q, k = q + 1 := ⟨k - 1, by omega⟩
    have hul : u.len = us.length := by rw [hu.len, ints_length]
    have hd : decide ((i : Int) < ((u.len : Nat) : Int)) = false := by rw [hul]; simp; omega
    have e : xp sm us i = xorL sm us := by rw [show i = sm.length by omega, xp_all hl]
    refine ⟨w, ?_, e ▸ ho, Upd.refl _ _⟩
    have eu : ref01_Stretch_l2 K (k + 1) = ref01_Stretch_l2_b K (ref01_Stretch_l2 K k) := rfl
    rw [eu]
    unfold ref01_Stretch_l2_b
    rw [hd, if_neg (by decide)]
  | succ d ih =>
    intro i k w hi hkk hu ho
    obtain ⟨k, rfl⟩ : ∃ q, k = q + 1 := ⟨k - 1, by omega⟩
    have hul : u.len = us.length := by rw [hu.len, ints_length]
    have hsl : sum.len = us.length := by rw [ho.len, ints_length, xp_len hl (by omega), hl]
    have hd : decide ((i : Int) < ((u.len : Nat) : Int)) = true := by rw [hul]; simp; omega
    have e1 : IntKind.i64.wrap ((i : Int) + 1) = ((i + 1 : Nat) : Int) := by rw [w64 (by omega) (by omega)]; rfl
    have ud : Upd none_ w w.drew := (Upd.refl none_ w).drew
    obtain ⟨q, hq, lq⟩ := src_ld (hu.upd0 ud) (show i < us.length by omega)
    obtain ⟨p, hp, lp⟩ := own_at ho.drew (xp_at hl (show i < sm.length by omega))
    obtain ⟨p', w1, hp', s1, o1, u1'⟩ := ho.drew.st (i := i) (by omega) (.int .u8 (bits .xor .u8 (sm.getD i 0) (us.getD i 0)))
    have u1 := u1'.predrew
    obtain rfl : p = p' := Option.some.inj (hp.symm.trans hp')
    rw [ints_set_, xp_set hl (by omega)] at o1
    have hne0 : us ≠ [] := fun e => by rw [e] at hi; simp at hi
    obtain ⟨w2, h2, o2, u2⟩ := ih (i + 1) k w1 (by omega) (by omega) (src_upd hu u1 fun x hx _ => hne x hx hne0) o1
    refine ⟨w2, ?_, o2, u1.trans' u2 fun _ _ e => e⟩
    have c1 : (0 : Int) ≤ (i : Int) ∧ (i : Int) < ((u.len : Nat) : Int) := by omega
    have c2 : (0 : Int) ≤ (i : Int) ∧ (i : Int) < ((sum.len : Nat) : Int) := by omega
    have eu : ref01_Stretch_l2 K (k + 1) = ref01_Stretch_l2_b K (ref01_Stretch_l2 K k) := rfl
    rw [eu]
    unfold ref01_Stretch_l2_b
    rw [hd, if_pos rfl, hp, Option.bind_some, if_pos c2, hq, Option.bind_some, if_pos c1, Int.toNat_natCast, Nat.mul_one, lp, Option.bind_some, lq, Option.bind_some, Option.bind_some, if_pos c2, s1, Option.bind_some, e1, h2]

theorem refStretch_l1 {K : Nat} (hK : 18446744073709551616 ≤ K) {h : Int} (hk : known h = true) {C S pass x : List Int} {sp : Sl} (hpi : ∀ y ∈ pass, InK .u8 y) (hpl : pass.length ≤ 1099511627776) {B : Nat} (hB4 : 4 ≤ B) {p2 p3 : Sl} {n p12 : Int} {sum : Sl} (hsb : ∀ k, sum.blk = some k → B ≤ k) {m : Nat} (hm : m ≤ 1048576) :
    ∀ (d t k : Nat) (w : World) (u : Sl), t + d = m → d < k → TabsR w C S → Src w sp (ints .u8 pass) → (∀ q, sp.a = some q → ints .u8 pass ≠ [] → q.block < B) → Own 5 w u (ints .u8 (strU C S h pass x t)) → Own 5 w sum (ints .u8 (strF C S h pass x t)) →
      ∃ w', ref01_Stretch_l1 K k h sp p2 ((m + 1 : Nat) : Int) n p3 p12 u sum ((t + 1 : Nat) : Int) w = some ((), w') ∧ Own 5 w' sum (ints .u8 (strF C S h pass x m)) ∧ Upd (fun k => sum.blk = some k) w w' := by
  intro d
  induction d with
  | zero =>
    intro t k w u ht hkk hT hp hpb hu ho
    obtain ⟨k, rfl⟩ : ∃ q, k = q + 1 := ⟨k - 1, by omega⟩
    have htt : t = m := by omega
    have hd : decide (((t + 1 : Nat) : Int) < ((m + 1 : Nat) : Int)) = false := by simp; omega
    refine ⟨w, ?_, htt ▸ ho, Upd.refl _ _⟩
    have eu : ref01_Stretch_l1 K (k + 1) = ref01_Stretch_l1_b K (ref01_Stretch_l1 K k) := rfl
    rw [eu]
    unfold ref01_Stretch_l1_b
    rw [hd, if_neg (by decide)]
  | succ d ih =>
    intro t k w u ht hkk hT hp hpb hu ho
    obtain ⟨k, rfl⟩ : ∃ q, k = q + 1 := ⟨k - 1, by omega⟩
    have hd : decide (((t + 1 : Nat) : Int) < ((m + 1 : Nat) : Int)) = true := by simp; omega
    have e1 : IntKind.i64.wrap (((t + 1 : Nat) : Int) + 1) = ((t + 1 + 1 : Nat) : Int) := by rw [w64 (by omega) (by omega)]; rfl
    obtain ⟨_, h28, h64⟩ := szH_ok hk
    have hul0 := strU_len hk C S pass x t
    obtain ⟨r, w1, h1, or1, u1, fr⟩ := refCode_ok hK h hT hp hpi hpl (hu.src ints_one) (strU_in C S h pass x t) (by omega)
    unfold codeOf at or1
    rw [if_pos hk] at or1
    have or1 : Own 5 w1 r (ints .u8 (strU C S h pass x (t + 1))) := or1
    have hul := strU_len hk C S pass x (t + 1)
    have hsb2 : ∀ k, sum.blk = some k → k < w.heap.size := fun k hk => ho.lt hk
    obtain ⟨w2, h2, o2, u2⟩ := refStretch_l2 (K := K) (p1 := sp) (p2 := p2) (p3 := p3) (h := h) (t := ((m + 1 : Nat) : Int)) (n := n) (p12 := p12) (p16 := ((t + 1 : Nat) : Int)) (u := r) (sum := sum) (sm := strF C S h pass x t) (us := strU C S h pass x (t + 1)) (by rw [strF_len hk, hul]) (by omega)
      (fun q hq _ e => by have := hsb2 _ e; have := fr q.block (by simp [Sl.blk, hq]); omega) (strU C S h pass x (t + 1)).length 0 K w1 (by omega) (by omega) (or1.src ints_one) (by rw [xp_zero]; exact ho.upd0 u1)
    have h2 : ref01_Stretch_l2 K K h sp p2 ((m + 1 : Nat) : Int) n p3 p12 r sum ((t + 1 : Nat) : Int) 0 w1 = _ := h2
    have q : Upd (fun k => sum.blk = some k) w w2 := (u1.mono (T := fun k => sum.blk = some k) fun _ _ e => e.elim).trans' u2 fun _ _ e => e
    obtain ⟨w3, h3, o3, u3⟩ := ih (t + 1) k w2 r (by omega) (by omega) (hT.upd q fun k hk e => by have := hsb k e; omega) (src_upd hp q fun y hy hne e => by have := hsb _ e; have := hpb y hy hne; omega) hpb (or1.upd u2 fun k hk e => by have := hsb2 _ e; have := fr k hk; omega) o2
    refine ⟨w3, ?_, o3, q.trans' u3 fun _ _ e => e⟩
    have eu : ref01_Stretch_l1 K (k + 1) = ref01_Stretch_l1_b K (ref01_Stretch_l1 K k) := rfl
    rw [eu]
    unfold ref01_Stretch_l1_b
    rw [hd, if_pos rfl, h1, bnd_ok]
    dsimp only
    rw [h2, bnd_ok, e1, h3]

theorem refStretch_l0 {K : Nat} (hK : 18446744073709551616 ≤ K) {h : Int} (hk : known h = true) {C S pass salt : List Int} {sp s : Sl} (hpi : ∀ y ∈ pass, InK .u8 y) (hpl : pass.length ≤ 1099511627776) (hsi : ∀ y ∈ salt, InK .u8 y) (hsl : salt.length ≤ 33554432) {n : Nat} (hn : 0 < n) (hn2 : n ≤ 65536) {m : Nat} (hm : m ≤ 1048575) {B : Nat} :
    ∀ (d j k : Nat) (w : World) (out : Sl), j + d = cnt h n → d < k → TabsR w C S → Src w sp (ints .u8 pass) → (∀ q, sp.a = some q → ints .u8 pass ≠ [] → q.block < B) → Src w s (ints .u8 salt) → (∀ q, s.a = some q → ints .u8 salt ≠ [] → q.block < B) → Own 5 w out (ints .u8 (strO C S h pass salt m j)) → Fresh B out → 4 ≤ B → B ≤ w.heap.size →
      ∃ out' w', ref01_Stretch_l0 K k h sp s ((m + 1 : Nat) : Int) (n : Int) out ((j + 1 : Nat) : Int) w = some ((out', ()), w') ∧ Own 5 w' out' (ints .u8 (strO C S h pass salt m (cnt h n))) ∧ Fresh B out' ∧ Below B w w' := by
  obtain ⟨hsz, hs28, hs64⟩ := szH_ok hk
  obtain ⟨hc1, hc2, hc3⟩ := cnt_ok hk hn
  have hcl := cnt_le hk hn2
  intro d
  induction d with
  | zero =>
    intro j k w out hj hkk hT hp hpb hs hsb ho hf h4 hB
    obtain ⟨k, rfl⟩ : ∃ q, k = q + 1 := ⟨k - 1, by omega⟩
    have hol : out.len = j * szH h := by rw [ho.len, ints_length, strO_len hk]
    have hjj : j = cnt h n := by omega
    have hd : decide (((out.len : Nat) : Int) < (n : Int)) = false := by rw [hol, hjj]; simp only [decide_eq_false_iff_not]; omega
    refine ⟨out, w, ?_, hjj ▸ ho, hf, Below.refl B w⟩
    have eu : ref01_Stretch_l0 K (k + 1) = ref01_Stretch_l0_b K (ref01_Stretch_l0 K k) := rfl
    rw [eu]
    unfold ref01_Stretch_l0_b
    rw [hd, if_neg (by decide)]
  | succ d ih =>
    intro j k w out hj hkk hT hp hpb hs hsb ho hf h4 hB
    obtain ⟨k, rfl⟩ : ∃ q, k = q + 1 := ⟨k - 1, by omega⟩
    have hol : out.len = j * szH h := by rw [ho.len, ints_length, strO_len hk]
    have hjl := hc3 j (by omega)
    have hd : decide (((out.len : Nat) : Int) < (n : Int)) = true := by rw [hol]; simp only [decide_eq_true_eq]; omega
    have ei : IntKind.i64.wrap (((j + 1 : Nat) : Int) + 1) = ((j + 1 + 1 : Nat) : Int) := by rw [w64 (by omega) (by omega)]; rfl
    have hssl : s.len = salt.length := by rw [hs.len, ints_length]
    obtain ⟨x1, w1, a1, l1, o1, u1, f1⟩ := apd_ok sliceB (Own.nil 5 w) hs (by show (0 + s.len) * 1 ≤ _; omega)
    rw [List.nil_append] at o1
    have a1 : apd prog 25 25 (.slice none 0 0) (.slice s.a s.len s.cap) w = some (x1, w1) := a1
    have u1' : Upd none_ w w1 := u1.mono fun k _ e => by cases e
    have hs1 := u1'.size
    have fx1 : ∀ k, x1.blk = some k → w.heap.size ≤ k := fun k hk => by
      rcases f1 with e | e
      · rw [e] at hk; cases hk
      · rw [e] at hk; have := Option.some.inj hk; omega
    have hx1 : x1.len = salt.length := by rw [o1.len, ints_length]
    obtain ⟨w2, b1, b2, u2, z2⟩ := bldS_ok sliceB (ints .u8 (bigB ((j + 1 : Nat) : Int) 4)) (fun v hv => by obtain ⟨x, _, rfl⟩ := List.mem_map.1 hv; rfl) (by rw [ints_length, bigB_len]; decide) (by rw [ints_length, bigB_len]; decide) w1
    have hb4 : (ints .u8 (bigB ((j + 1 : Nat) : Int) 4)).length = 4 := by rw [ints_length, bigB_len]
    rw [hb4] at b1 b2
    have b1 : bldS prog 25 4 #[(0, (.int .u8 (IntKind.u8.wrap (Int.fdiv ((j + 1 : Nat) : Int) (2 ^ 24))))), (1, (.int .u8 (IntKind.u8.wrap (Int.fdiv ((j + 1 : Nat) : Int) (2 ^ 16))))), (2, (.int .u8 (IntKind.u8.wrap (Int.fdiv ((j + 1 : Nat) : Int) (2 ^ 8))))), (3, (.int .u8 (IntKind.u8.wrap ((j + 1 : Nat) : Int))))] w1 = some (⟨some ⟨w1.heap.size, 0, none⟩, 4, 4⟩, w2) := by
      rw [bigB_4] at b1; exact b1
    have hs2 := u2.size
    obtain ⟨x3, w3, a3, l3, o3, u3, f3⟩ := apd_ok sliceB (o1.upd0 u2) (b2.src ints_one) (by rw [hx1]; show (salt.length + 4) * 1 ≤ _; omega)
    rw [← ints_append] at o3
    have q3 : Upd none_ w w3 := (u1'.and0 u2).trans' u3 fun k hk e => by have := fx1 k e; omega
    have hs3 := q3.size
    obtain ⟨r, w5, a5, o5, u5, f5⟩ := refCode_ok hK h (hT.upd0 q3) (hp.upd0 q3) hpi hpl (o3.src ints_one) (fun x hx => (List.mem_append.1 hx).elim (hsi x) (bigB_in _ 4 x)) (by rw [List.length_append, bigB_len]; omega)
    unfold codeOf at o5
    rw [if_pos hk] at o5
    have o5 : Own 5 w5 r (ints .u8 (strU C S h pass (salt ++ bigB ((j + 1 : Nat) : Int) 4) 0)) := o5
    have q5 := q3.and0 u5
    have hs5 := u5.size
    have hul := strU_len hk C S pass (salt ++ bigB ((j + 1 : Nat) : Int) 4) 0
    obtain ⟨sm, w6, a6, l6, o6, u6, f6⟩ := apd_ok sliceB (Own.nil 5 w5) (o5.src ints_one) (by rw [o5.len, ints_length, hul]; show (0 + szH h) * 1 ≤ _; omega)
    rw [List.nil_append] at o6
    have a6 : apd prog 25 25 (.slice none 0 0) (.slice r.a r.len r.cap) w5 = some (sm, w6) := a6
    have u6' : Upd none_ w5 w6 := u6.mono fun k _ e => by cases e
    have q6 := q5.and0 u6'
    have hs6 := u6'.size
    have fsm : ∀ k, sm.blk = some k → w5.heap.size ≤ k := fun k hk => by
      rcases f6 with e | e
      · rw [e] at hk; cases hk
      · rw [e] at hk; have := Option.some.inj hk; omega
    obtain ⟨w7, a7, o7, u7⟩ := refStretch_l1 hK hk (x := salt ++ bigB ((j + 1 : Nat) : Int) 4) (sp := sp) hpi hpl (B := w.heap.size) (by omega) (p2 := s) (p3 := out) (n := (n : Int)) (p12 := ((j + 1 : Nat) : Int)) (sum := sm) (fun k hk => by have := fsm k hk; omega) (m := m) (by omega)
      m 0 K w6 r (by omega) (by omega) (hT.upd0 q6) (hp.upd0 q6) (fun q hq hne => by have := hpb q hq hne; omega) (o5.upd0 u6') o6
    have a7 : ref01_Stretch_l1 K K h sp s ((m + 1 : Nat) : Int) (n : Int) out ((j + 1 : Nat) : Int) r sm 1 w6 = _ := a7
    have hs7 := u7.size
    have q7 : Upd none_ w w7 := q6.trans' u7 fun k hk e => by have := fsm k e; omega
    have hfl := strF_len hk C S pass (salt ++ bigB ((j + 1 : Nat) : Int) 4) m
    obtain ⟨s8, w8, a8, l8, o8, u8, f8⟩ := apd_ok sliceB (ho.upd0 q7) (o7.src ints_one) (by rw [hol, o7.len, ints_length, hfl]; omega)
    rw [← ints_append] at o8
    have o8 : Own 5 w8 s8 (ints .u8 (strO C S h pass salt m (j + 1))) := o8
    have q8 : Upd (fun k => out.blk = some k) w w8 := (q7.mono (T := fun k => out.blk = some k) fun _ _ e => e.elim).trans' u8 fun _ _ e => e
    have bl : Below B w w8 := q8.below hB fun k hk e => by have := hf k e; omega
    have hs8 := q8.size
    obtain ⟨out', w', g1, g2, g3, g4⟩ := ih (j + 1) k w8 s8 (by omega) (by omega) (hT.upd q8 fun k hk e => by have := hf k e; omega)
      (src_upd hp q8 fun q hq hne2 e => by have := hf _ e; have := hpb q hq hne2; omega) hpb (src_upd hs q8 fun q hq hne2 e => by have := hf _ e; have := hsb q hq hne2; omega) hsb o8
      (fun k hk => by
        rcases f8 with f8 | f8
        · exact hf k (f8 ▸ hk)
        · rw [f8] at hk; have := Option.some.inj hk; omega) h4 (by omega)
    refine ⟨out', w', ?_, g2, g3, bl.trans g4⟩
    have eu : ref01_Stretch_l0 K (k + 1) = ref01_Stretch_l0_b K (ref01_Stretch_l0 K k) := rfl
    rw [eu]
    unfold ref01_Stretch_l0_b
    rw [hd, if_pos rfl, a1, bnd_ok, b1, bnd_ok]
    dsimp only
    rw [a3, bnd_ok, a5, bnd_ok]
    dsimp only
    rw [a6, bnd_ok, a7, bnd_ok, a8, bnd_ok, ei, g1]

theorem src_lt {w : World} {s : Sl} {xs : List Int} (hs : Src w s (ints .u8 xs)) : ∀ q, s.a = some q → ints .u8 xs ≠ [] → q.block < w.heap.size := by
  intro q hq hne
  rcases hs.rd with ⟨e, _⟩ | ⟨p, e, hr⟩
  · rw [e] at hq; cases hq
  · rw [e] at hq; cases hq; exact hr.lt hne

theorem refStretch_ok {K : Nat} (hK : 18446744073709551616 ≤ K) (h : Int) {C S pass salt : List Int} {w : World} (T : TabsR w C S) {sp ss : Sl} (hp : Src w sp (ints .u8 pass)) (hpi : ∀ x ∈ pass, InK .u8 x) (hs : Src w ss (ints .u8 salt)) (hsi : ∀ x ∈ salt, InK .u8 x) {t n : Int} (he : strErr h pass.length salt.length t n = 0) :
    ∃ s' w', ref01_Stretch K h sp ss t n w = some ((s', ()), w') ∧ Vw 5 w' s' (ints .u8 (strOf C S h pass salt t n)) ∧ Fresh w.heap.size s' ∧ Upd none_ w w' := by
  have h4 := T.lt
  unfold strOf
  rw [if_pos he]
  obtain ⟨hk, hl1, hl2, ⟨m, rfl, hm⟩, q, rfl, hq0, hq1⟩ := strErr_zero he
  rw [Int.toNat_natCast]
  have em : (((m + 1 : Nat) : Int) - 1).toNat = m := by omega
  rw [em]
  obtain ⟨hsz, hs28, hs64⟩ := szH_ok hk
  obtain ⟨hc1, hc2, hc3⟩ := cnt_ok hk hq0
  have hcl := cnt_le hk hq1
  obtain ⟨out, w5, h5, o5, f5, bl5⟩ := refStretch_l0 hK hk (C := C) (S := S) (pass := pass) (salt := salt) (sp := sp) (s := ss) hpi (by omega) hsi (by omega) hq0 hq1 (m := m) hm (B := w.heap.size) (cnt h q) 0 K w ⟨none, 0, 0⟩ (by omega) (by omega) T hp (src_lt hp) hs (src_lt hs) (Own.nil 5 w) (fun k hk => by cases hk) h4 (Nat.le_refl _)
  have h5 : ref01_Stretch_l0 K K h sp ss ((m + 1 : Nat) : Int) (q : Int) ⟨none, 0, 0⟩ 1 w = _ := h5
  have hol : out.len = cnt h q * szH h := by rw [o5.len, ints_length, strO_len hk]
  have hcap := o5.cap
  have hne : ints .u8 (strO C S h pass salt m (cnt h q)) ≠ [] := fun e => by
    have := congrArg List.length e
    rw [ints_length, strO_len hk] at this
    simp at this; omega
  have hv := o5.front hne (n := q) (c := out.cap) (by omega) (by omega) (Nat.le_refl _)
  rw [ints_take] at hv
  have esl : sla out.a 0 out.cap 1 = out.a := sla_zero ..
  refine ⟨⟨out.a, q, out.cap⟩, w5, ?_, hv, fun k hk => f5 k hk, Upd.of_below bl5⟩
  unfold ref01_Stretch
  rw [h5, bnd_ok]
  dsimp only
  rw [if_pos (by omega), Int.toNat_natCast, esl, Nat.sub_zero, Nat.sub_zero]

end Go.Sh

/- DigestStretches, the law. -/
set_option linter.unusedVariables false
namespace Go.Sh
open Go.Fw Go.Sha Go.RowKit Go.Proofs.Tryd Go.Deep

theorem stretch_small {K : Nat} {h : Int} {p s : Nat} {t n : Int} (w : World) :
    ∃ a, law01_DigestStretches_s0 K h t n (strErr h p s t n) w = some ((a, ()), w) ∧ ∃ t' n', law01_DigestStretches_s1 K t n a w = some ((t', n', ()), w) ∧ strErr h p s t' n' = strErr h p s t n := by
  by_cases he : strErr h p s t n = 0
  · obtain ⟨hk, hl1, hl2, ⟨m, rfl, hm⟩, q, rfl, hq0, hq1⟩ := strErr_zero he
    have key : ∃ t' n', law01_DigestStretches_s1 K ((m + 1 : Nat) : Int) (q : Int) true w = some ((t', n', ()), w) ∧ strErr h p s t' n' = 0 := by
      have e1 : IntKind.i64.wrap (1 + (Int.tmod ((m + 1 : Nat) : Int) 4)) = ((1 + (m + 1) % 4 : Nat) : Int) := by
        rw [show (4 : Int) = ((4 : Nat) : Int) from rfl, tmod_nat, w64 (by omega) (by omega)]; omega
      have e2 : IntKind.i64.wrap (1 + (Int.tmod (q : Int) 200)) = ((1 + q % 200 : Nat) : Int) := by
        rw [show (200 : Int) = ((200 : Nat) : Int) from rfl, tmod_nat, w64 (by omega) (by omega)]; omega
      refine ⟨_, _, ?_, strErr_0 hk (by omega) (t := ((1 + (m + 1) % 4 : Nat) : Int)) (n := ((1 + q % 200 : Nat) : Int)) (by omega) ?_⟩
      · unfold law01_DigestStretches_s1
        rw [if_pos rfl, e1, e2]
      · rw [Int.toNat_natCast]
        have hc := cnt_le hk (n := 1 + q % 200) (by omega)
        have h1 : (1 + (m + 1) % 4) * cnt h (1 + q % 200) ≤ 4 * 65536 := Nat.mul_le_mul (by omega) hc
        have h2 : ((1 + (m + 1) % 4 : Nat) : Int) * ((cnt h (1 + q % 200) : Nat) : Int) = (((1 + (m + 1) % 4) * cnt h (1 + q % 200) : Nat) : Int) := by simp
        rw [h2]; omega
    have same : ∃ t' n', law01_DigestStretches_s1 K ((m + 1 : Nat) : Int) (q : Int) false w = some ((t', n', ()), w) ∧ strErr h p s t' n' = strErr h p s ((m + 1 : Nat) : Int) (q : Int) := by
      refine ⟨_, _, ?_, rfl⟩
      unfold law01_DigestStretches_s1
      rw [if_neg (by decide)]
    unfold law01_DigestStretches_s0
    rw [he, if_pos (by decide)]
    by_cases c : ((m + 1 : Nat) : Int) > 600
    · rw [decide_eq_true c, if_pos rfl]
      exact ⟨true, rfl, key⟩
    · rw [decide_eq_false c, if_neg (by decide), refSize_ok, Option.bind_some, Option.bind_some]
      dsimp only
      rw [if_pos (size_ne hk)]
      refine ⟨_, rfl, ?_⟩
      cases hd : decide (IntKind.i64.wrap (((m + 1 : Nat) : Int) * (IntKind.i64.wrap (Int.tdiv (IntKind.i64.wrap ((IntKind.i64.wrap ((q : Int) + sizeOfH h)) - 1)) (sizeOfH h)))) > 600) with
      | true => exact key
      | false => rw [← he]; exact same
  · refine ⟨false, ?_, t, n, ?_, rfl⟩
    · unfold law01_DigestStretches_s0
      rw [if_neg (by simpa using he)]
    · unfold law01_DigestStretches_s1
      rw [if_neg (by decide)]

theorem DigestStretches_ok {K : Nat} (hK : 18446744073709551616 ≤ K) {C S : List Int} {w : World} (T : TabsR w C S) {h turns n : Int} {pass salt info : Sl} {ps ss is : List Int} (hp : BytesIn w pass ps) (hs : BytesIn w salt ss) (hi : BytesIn w info is) :
    ∃ w', law01_DigestStretches K (deriveC h pass salt info turns n) w = some ((true, ()), w') ∧ Upd none_ w w' := by
  obtain ⟨w1, n1, b1, u1, z1⟩ := newB_ok (deriveC h pass salt info turns n) 42 w
  have l0 : ldI .i64 ⟨w.heap.size, 0, none⟩ w1 = some h := b1.ldI rfl
  have l1 : ldS ⟨w.heap.size, 1, none⟩ w1 = some pass := b1.ldS rfl
  have l2 : ldS ⟨w.heap.size, 2, none⟩ w1 = some salt := b1.ldS rfl
  have l4 : ldI .i64 ⟨w.heap.size, 4, none⟩ w1 = some turns := b1.ldI rfl
  have l5 : ldI .i64 ⟨w.heap.size, 5, none⟩ w1 = some n := b1.ldI rfl
  have hs1 := u1.size
  have hpl : pass.len = ps.length := by rw [hp.src.len, ints_length]
  have hsl : salt.len = ss.length := by rw [hs.src.len, ints_length]
  have hp3 := hp.len
  have hs3 := hs.len
  unfold law01_DigestStretches
  rw [n1, bnd_ok]
  simp only [add_lit, Nat.zero_add]
  rw [l0, Option.bind_some, l1, Option.bind_some, l2, Option.bind_some, l4, Option.bind_some, l5, Option.bind_some]
  have ew : IntKind.i64.wrap (((pass.len : Nat) : Int) + ((salt.len : Nat) : Int)) = ((ps.length + ss.length : Nat) : Int) := by rw [hpl, hsl, w64 (by omega) (by omega)]; rfl
  rw [ew]
  by_cases hc : ps.length + ss.length ≤ 65536
  case neg =>
    have hd : decide (((ps.length + ss.length : Nat) : Int) > 65536) = true := by simp only [decide_eq_true_eq]; omega
    rw [hd, if_pos rfl]
    exact ⟨w1, rfl, u1⟩
  have hd : decide (((ps.length + ss.length : Nat) : Int) > 65536) = false := by simp only [decide_eq_false_iff_not]; omega
  rw [hd, if_neg (by decide), hpl, hsl, refStretchError_ok, Option.bind_some]
  dsimp only
  obtain ⟨a, ha, t', n', ht, he⟩ := stretch_small (K := K) (h := h) (p := ps.length) (s := ss.length) (t := turns) (n := n) w1
  rw [ha, bnd_ok]
  dsimp only
  rw [ht, bnd_ok]
  dsimp only
  have px1 := hp.src.upd0 u1
  have sx1 := hs.src.upd0 u1
  obtain ⟨gx, cx, w2, j2, ox, hgx, u2⟩ := Bytes_ok hK px1 hp3
  have hs2 := u2.size
  obtain ⟨gy, cy, w3, j3, oy, hgy, u3⟩ := Bytes_ok hK (sx1.upd0 u2) hs3
  have hs3' := u3.size
  have hgx2 : gx < w2.heap.size := ox.lt (by simp [Sl.blk])
  have hgy2 : gy < w3.heap.size := oy.lt (by simp [Sl.blk])
  have ox3 := ox.upd0 u3
  have px : PartOk w3 (⟨some ⟨gx, 0, none⟩, ps.length, cx⟩, ps) := ⟨(marked_front ox3).src ints_one, hp.inn, hp3, fun q hq => by obtain rfl := Option.some.inj hq; show gx < _; omega⟩
  have py : PartOk w3 (⟨some ⟨gy, 0, none⟩, ss.length, cy⟩, ss) := ⟨(marked_front oy).src ints_one, hs.inn, hs3, fun q hq => by obtain rfl := Option.some.inj hq; show gy < _; omega⟩
  have up : ∀ {w w' : World} {p : Sl × List Int}, PartOk w p → Upd none_ w w' → PartOk w' p := fun hp u => ⟨hp.1.upd0 u, hp.2.1, hp.2.2.1, fun q hq => by have := hp.2.2.2 q hq; have := u.size; omega⟩
  have T3 := ((T.upd0 u1).upd0 u2).upd0 u3
  obtain ⟨x, w4, j4, vx, fx, u4⟩ := Stretch_any hK h T3.to px py t' n'
  have hs4 := u4.size
  obtain ⟨y, w5, j5, vy, fy, u5⟩ := Stretch_any hK h (T3.upd0 u4).to (up px u4) (up py u4) t' n'
  have hs5 := u5.size
  rw [he] at j4 j5
  have q35 := u4.and0 u5
  have q13 := u2.and0 u3
  obtain ⟨w6, k6, u6⟩ := WholeBytes_ok hK (ox3.upd0 q35) ((px1.upd0 q13).upd0 q35).rds hp3
  obtain ⟨w7, k7, u7⟩ := WholeBytes_ok hK ((oy.upd0 q35).upd0 u6) (((sx1.upd0 q13).upd0 q35).upd0 u6).rds hs3
  rw [decide_eq_true rfl] at k6 k7
  have hs6 := u6.size
  have hs7 := u7.size
  have q37 := (q35.and0 u6).and0 u7
  have hs2' : law01_DigestStretches_s2 K pass salt (strErr h ps.length ss.length turns n) ⟨some ⟨gx, 0, none⟩, ps.length, cx⟩ ⟨some ⟨gy, 0, none⟩, ss.length, cy⟩ (strErr h ps.length ss.length turns n) (strErr h ps.length ss.length turns n) w5 = some ((false, ()), w7) := by
    unfold law01_DigestStretches_s2 law01_num
    rw [Option.bind_some]
    dsimp only
    rw [bne_self_eq_false, if_neg (by decide), Option.bind_some, bne_self_eq_false, if_neg (by decide), k6, bnd_ok]
    dsimp only
    rw [if_neg (by decide), k7, bnd_ok]
    rfl
  have hr : ∃ r w8, law01_DigestStretches_s3 K h pass salt t' n' ⟨none, 0, 0⟩ (strErr h ps.length ss.length turns n == 0) w7 = some ((r, ()), w8) ∧ Vw 5 w8 r (ints .u8 (strOf C S h ps ss t' n')) ∧ Fresh w7.heap.size r ∧ Upd none_ w7 w8 := by
    by_cases e0 : strErr h ps.length ss.length turns n = 0
    · obtain ⟨r, w8, h8, v8, f8, u8⟩ := refStretch_ok hK h (T3.upd0 q37) ((px1.upd0 q13).upd0 q37) hp.inn ((sx1.upd0 q13).upd0 q37) hs.inn (t := t') (n := n') (by rw [he, e0])
      refine ⟨r, w8, ?_, v8, f8, u8⟩
      unfold law01_DigestStretches_s3
      rw [e0, if_pos (by decide), h8, bnd_ok]
    · refine ⟨⟨none, 0, 0⟩, w7, ?_, ?_, (fun k hk => by cases hk), Upd.refl _ _⟩
      · unfold law01_DigestStretches_s3
        rw [if_neg (by simpa using e0)]
      · unfold strOf
        rw [he, if_neg e0]; exact Vw.nil 5 w7
  obtain ⟨r, w8, j8, vr, fr, u8⟩ := hr
  have hs8 := u8.size
  have hl := strOf_len C S h ps ss t' n'
  have vx8 := vx.upd0 (((u5.and0 u6).and0 u7).and0 u8)
  have vy8 := vy.upd0 ((u6.and0 u7).and0 u8)
  obtain ⟨w9, k9, u9⟩ := SameBytes_ok hK vx8.rd vr.rd (by omega)
  obtain ⟨w10, k10, u10⟩ := SameBytes_ok hK (vy8.upd0 u9).rd (vr.upd0 u9).rd (by omega)
  rw [decide_eq_true rfl] at k9 k10
  have hs9 := u9.size
  have hs10 := u10.size
  have hs4' : law01_DigestStretches_s4 K x y r w8 = some ((false, ()), w10) := by
    unfold law01_DigestStretches_s4
    rw [k9, bnd_ok]
    dsimp only
    rw [if_neg (by decide), k10, bnd_ok]
    rfl
  obtain ⟨w11, k11, u11⟩ := SpoilBytes_ok hK ((vx8.upd0 u9).upd0 u10) (by omega)
  have hab : ∀ k, x.blk = some k → w3.heap.size ≤ k ∧ k < w4.heap.size := fun k hk => ⟨fx k hk, vx.lt hk⟩
  have vy11 := ((vy8.upd0 u9).upd0 u10).upd u11 fun k hk e => by have := hab k e; have := fy k hk; omega
  have vr11 := ((vr.upd0 u9).upd0 u10).upd u11 fun k hk e => by have := hab k e; have := fr k hk; omega
  obtain ⟨w12, k12, u12⟩ := SameBytes_ok hK vy11.rd vr11.rd (by omega)
  rw [decide_eq_true rfl] at k12
  have q10 : Upd none_ w w10 := (u1.and0 q13).and0 (((q37.and0 u8).and0 u9).and0 u10)
  refine ⟨w12, ?_, (q10.trans' u11 fun k hk e => by have := hab k e; omega).and0 u12⟩
  rw [j2, bnd_ok, j3, bnd_ok]
  dsimp only
  rw [j4, bnd_ok, j5, bnd_ok]
  dsimp only
  rw [hs2', bnd_ok]
  dsimp only
  rw [if_neg (by decide), j8, bnd_ok]
  dsimp only
  rw [hs4', bnd_ok]
  dsimp only
  rw [if_neg (by decide), k11, bnd_ok, k12, bnd_ok]

end Go.Sh

/- DigestPrefixes: fewer bytes begin more. -/
set_option linter.unusedVariables false
namespace Go.Sh
open Go.Fw Go.Sha Go.RowKit Go.Proofs.Tryd Go.Deep

theorem known_ok (h : Int) : law01_known h = some (known h, ()) := by
  unfold law01_known known
  by_cases h1 : h = 224
  · subst h1; rfl
  by_cases h2 : h = 256
  · subst h2; rfl
  by_cases h3 : h = 384
  · subst h3; rfl
  have e1 : (h == 224) = false := by simpa using h1
  have e2 : (h == 256) = false := by simpa using h2
  have e3 : (h == 384) = false := by simpa using h3
  rw [e1, e2, e3]
  rfl

theorem strO_pre (C S : List Int) (h : Int) (pass salt : List Int) (m j : Nat) : ∀ d, ∃ r, strO C S h pass salt m (j + d) = strO C S h pass salt m j ++ r
  | 0 => ⟨[], by simp⟩
  | d + 1 => by
    obtain ⟨r, hr⟩ := strO_pre C S h pass salt m j d
    exact ⟨_, by rw [← Nat.add_assoc]; show strO C S h pass salt m (j + d) ++ _ = _; rw [hr, List.append_assoc]⟩
theorem expO_pre (C S : List Int) (h : Int) (prk info : List Int) (j : Nat) : ∀ d, ∃ r, expO C S h prk info (j + d) = expO C S h prk info j ++ r
  | 0 => ⟨[], by simp⟩
  | d + 1 => by
    obtain ⟨r, hr⟩ := expO_pre C S h prk info j d
    exact ⟨_, by rw [← Nat.add_assoc]; show expO C S h prk info (j + d) ++ _ = _; rw [hr, List.append_assoc]⟩

theorem cnt_mono {h : Int} {n m : Nat} (hnm : n ≤ m) : cnt h n ≤ cnt h m := Nat.div_le_div_right (by omega)

theorem strOf_take {C S pass salt : List Int} {h t : Int} {n m : Nat} (hn : 0 < n) (hnm : n ≤ m) (e1 : strErr h pass.length salt.length t (n : Int) = 0) (e2 : strErr h pass.length salt.length t (m : Int) = 0) :
    (strOf C S h pass salt t (m : Int)).take n = strOf C S h pass salt t (n : Int) ∧ (strOf C S h pass salt t (n : Int)).length = n := by
  obtain ⟨hk, _⟩ := strErr_zero e1
  obtain ⟨c1, _⟩ := cnt_ok hk hn
  unfold strOf
  rw [if_pos e1, if_pos e2, Int.toNat_natCast, Int.toNat_natCast]
  obtain ⟨r, hr⟩ := strO_pre C S h pass salt (t - 1).toNat (cnt h n) (cnt h m - cnt h n)
  have hl := strO_len hk C S pass salt (t - 1).toNat (cnt h n)
  rw [show cnt h n + (cnt h m - cnt h n) = cnt h m by have := cnt_mono (h := h) hnm; omega] at hr
  refine ⟨?_, by rw [List.length_take]; omega⟩
  rw [List.take_take, Nat.min_eq_left hnm, hr, List.take_append_of_le_length (by omega)]

theorem expOf_take {C S prk info : List Int} {h : Int} {n m : Nat} (hn : 0 < n) (hnm : n ≤ m) (e1 : expErr h prk.length info.length (n : Int) = 0) (e2 : expErr h prk.length info.length (m : Int) = 0) :
    (expOf C S h prk info (m : Int)).take n = expOf C S h prk info (n : Int) ∧ (expOf C S h prk info (n : Int)).length = n := by
  obtain ⟨hk, _⟩ := expErr_zero e1
  obtain ⟨c1, _⟩ := cnt_ok hk hn
  unfold expOf
  rw [if_pos e1, if_pos e2, Int.toNat_natCast, Int.toNat_natCast]
  obtain ⟨r, hr⟩ := expO_pre C S h prk info (cnt h n) (cnt h m - cnt h n)
  have hl := expO_len hk C S prk info (cnt h n)
  rw [show cnt h n + (cnt h m - cnt h n) = cnt h m by have := cnt_mono (h := h) hnm; omega] at hr
  refine ⟨?_, by rw [List.length_take]; omega⟩
  rw [List.take_take, Nat.min_eq_left hnm, hr, List.take_append_of_le_length (by omega)]

theorem hash8 {h : Int} (hk : known h = true) : IntKind.i64.wrap (Int.tdiv h 8) = ((szH h : Nat) : Int) := by
  rcases known_cases hk with e | e | e | e <;> subst e <;> rfl

theorem DigestPrefixes_ok {K : Nat} (hK : 18446744073709551616 ≤ K) {C S : List Int} {w : World} (T : Tabs w C S) {h turns n more : Int} {pass salt info : Sl} {ps ss is : List Int} (hp : BytesIn w pass ps) (hs : BytesIn w salt ss) (hpb : ∀ q, pass.a = some q → q.block < w.heap.size) (hsb : ∀ q, salt.a = some q → q.block < w.heap.size) :
    ∃ w', law01_DigestPrefixes K (deriveC h pass salt info turns n) more w = some ((true, ()), w') ∧ Upd none_ w w' := by
  obtain ⟨w1, n1, b1, u1, z1⟩ := newB_ok (deriveC h pass salt info turns n) 42 w
  have l0 : ldI .i64 ⟨w.heap.size, 0, none⟩ w1 = some h := b1.ldI rfl
  have l1 : ldS ⟨w.heap.size, 1, none⟩ w1 = some pass := b1.ldS rfl
  have l2 : ldS ⟨w.heap.size, 2, none⟩ w1 = some salt := b1.ldS rfl
  have l4 : ldI .i64 ⟨w.heap.size, 4, none⟩ w1 = some turns := b1.ldI rfl
  have l5 : ldI .i64 ⟨w.heap.size, 5, none⟩ w1 = some n := b1.ldI rfl
  have hpl : pass.len = ps.length := by rw [hp.src.len, ints_length]
  have hsl : salt.len = ss.length := by rw [hs.src.len, ints_length]
  have hp3 := hp.len
  have hs3 := hs.len
  unfold law01_DigestPrefixes
  rw [n1, bnd_ok]
  simp only [add_lit, Nat.zero_add]
  rw [l0, Option.bind_some, l1, Option.bind_some, l2, Option.bind_some, l4, Option.bind_some, l5, Option.bind_some]
  have ew : IntKind.i64.wrap (((pass.len : Nat) : Int) + ((salt.len : Nat) : Int)) = ((ps.length + ss.length : Nat) : Int) := by rw [hpl, hsl, w64 (by omega) (by omega)]; rfl
  unfold law01_DigestPrefixes_s0
  rw [known_ok, Option.bind_some, ew]
  dsimp only
  cases hk : known h with
  | false =>
    rw [if_pos (show (!false) = true from rfl), bnd_ok]
    exact ⟨w1, rfl, u1⟩
  | true =>
  rw [if_neg (show ¬ (!true) = true by decide)]
  by_cases c1 : turns < 1
  · rw [decide_eq_true c1, if_pos rfl, bnd_ok]; exact ⟨w1, rfl, u1⟩
  rw [decide_eq_false c1, if_neg (by decide)]
  by_cases c2 : turns > 20
  · rw [decide_eq_true c2, if_pos rfl, bnd_ok]; exact ⟨w1, rfl, u1⟩
  rw [decide_eq_false c2, if_neg (by decide)]
  by_cases c3 : n < 1
  · rw [decide_eq_true c3, if_pos rfl, bnd_ok]; exact ⟨w1, rfl, u1⟩
  rw [decide_eq_false c3, if_neg (by decide)]
  by_cases c4 : n > 300
  · rw [decide_eq_true c4, if_pos rfl, bnd_ok]; exact ⟨w1, rfl, u1⟩
  rw [decide_eq_false c4, if_neg (by decide)]
  by_cases c5 : more < 0
  · rw [decide_eq_true c5, if_pos rfl, bnd_ok]; exact ⟨w1, rfl, u1⟩
  rw [decide_eq_false c5, if_neg (by decide)]
  by_cases c6 : more > 300
  · rw [decide_eq_true c6, if_pos rfl, bnd_ok]; exact ⟨w1, rfl, u1⟩
  rw [decide_eq_false c6, if_neg (by decide), bnd_ok]
  dsimp only
  by_cases c7 : ((ps.length + ss.length : Nat) : Int) > 65536
  · rw [decide_eq_true c7, if_pos rfl]; exact ⟨w1, rfl, u1⟩
  rw [decide_eq_false c7, if_neg (by decide)]
  obtain ⟨nn, rfl⟩ : ∃ q : Nat, n = (q : Int) := ⟨n.toNat, by omega⟩
  obtain ⟨mm, rfl⟩ : ∃ q : Nat, more = (q : Int) := ⟨more.toNat, by omega⟩
  have enm : IntKind.i64.wrap ((nn : Int) + (mm : Int)) = ((nn + mm : Nat) : Int) := by rw [w64 (by omega) (by omega)]; rfl
  rw [enm]
  obtain ⟨hsz, h28, h64⟩ := szH_ok hk
  have hse : ∀ q : Nat, 0 < q → q ≤ 600 → strErr h ps.length ss.length turns (q : Int) = 0 := fun q h1 h2 => by
    refine strErr_0 hk (by omega) (by omega) ?_
    rw [Int.toNat_natCast]
    have hc := cnt_le hk (n := q) (by omega)
    obtain ⟨t, rfl⟩ : ∃ t : Nat, turns = (t : Int) := ⟨turns.toNat, by omega⟩
    have h1 : t * cnt h q ≤ 20 * 65536 := Nat.mul_le_mul (by omega) hc
    have h2 : (t : Int) * ((cnt h q : Nat) : Int) = ((t * cnt h q : Nat) : Int) := by simp
    rw [h2]; omega
  have se1 := hse nn (by omega) (by omega)
  have se2 := hse (nn + mm) (by omega) (by omega)
  have pp := (hp.part hpb).up u1
  have sp := (hs.part hsb).up u1
  have T1 := T.upd0 u1
  obtain ⟨a, w2, j2, va, fa, u2⟩ := Stretch_any hK h T1 pp sp turns (nn : Int)
  obtain ⟨b, w3, j3, vb, fb, u3⟩ := Stretch_any hK h (T1.upd0 u2) (pp.up u2) (sp.up u2) turns ((nn + mm : Nat) : Int)
  have se1' : strErr h (pass, ps).2.length (salt, ss).2.length turns (nn : Int) = 0 := se1
  rw [se1] at j2
  rw [se2] at j3
  obtain ⟨t1, t2⟩ := strOf_take (C := C) (S := S) (by omega) (show nn ≤ nn + mm by omega) se1 se2
  obtain ⟨_, t3⟩ := strOf_take (C := C) (S := S) (by omega) (Nat.le_refl (nn + mm)) se2 se2
  have hal : a.len = nn := by rw [va.len, ints_length, t2]
  have hbl : b.len = nn + mm := by rw [vb.len, ints_length, t3]
  have hbc := (vb.src ints_one).cap
  have hbr := vb.rd.sub (lo := 0) (hi := nn) (Nat.zero_le _) (by rw [t3]; omega)
  rw [List.drop_zero, t1] at hbr
  obtain ⟨w4, k4, u4⟩ := SameBytes_ok hK (va.upd0 u3).rd hbr (by rw [t2]; omega)
  rw [decide_eq_true rfl] at k4
  have hs1' : law01_DigestPrefixes_s1 K (mm : Int) (nn : Int) a 0 b 0 w3 = some ((false, ()), w4) := by
    unfold law01_DigestPrefixes_s1 law01_num
    rw [Option.bind_some]
    dsimp only
    rw [if_neg (by decide), Option.bind_some, if_neg (by decide), hal, bne_self_eq_false, if_neg (by decide), enm, hbl, bne_self_eq_false, if_neg (by decide), if_pos (by omega), Int.toNat_natCast, k4, bnd_ok]
    rfl
  have q14 := (u2.and0 u3).and0 u4
  obtain ⟨w5, j5, P5, u5⟩ := one_part (pp.up q14).1 hp.inn hp3 (pp.up q14).2.2.2
  have ek : ([ps] : List (List Int)).flatten = ps := by simp
  obtain ⟨k, w6, j6, vk, fk, u6⟩ := Code_any hK h ((T1.upd0 q14).upd0 u5) (sp.up (q14.and0 u5)).1 hs.inn (show ss.length ≤ 33554432 by omega) (sp.up (q14.and0 u5)).2.2.2 P5 (fun k hk => hk) (by rw [ek]; omega)
  rw [ek] at vk
  have j6 : digest_Code K h salt ⟨some ⟨w4.heap.size, 0, none⟩, 1, 1⟩ w5 = some ((k, (if known h = true then 0 else 10), ()), w6) := j6
  rw [hk, if_pos rfl] at j6
  have hcm : codeOf C S h ss ps = macOf C S h ss ps := by unfold codeOf; rw [if_pos hk]
  have vk : Vw 5 w6 k (ints .u8 (macOf C S h ss ps)) := by
    have vk : Vw 5 w6 k (ints .u8 (codeOf C S h ss ps)) := vk
    rw [hcm] at vk; exact vk
  have hml := macOf_size hk C S ss ps
  have hkl : k.len = szH h := by rw [vk.len, ints_length, hml]
  have hs2' : law01_DigestPrefixes_s2 K h 0 k w6 = some ((false, ()), w6) := by
    unfold law01_DigestPrefixes_s2 law01_num
    rw [Option.bind_some]
    dsimp only
    rw [if_neg (by decide), hkl, hash8 hk, bne_self_eq_false]
  have q16 := (q14.and0 u5).and0 u6
  have pk : PartOk w6 (k, macOf C S h ss ps) := ⟨vk.src ints_one, macOf_in C S h ss ps, by show (macOf C S h ss ps).length ≤ _; omega, lt_of_blk fun q hq => vk.lt hq⟩
  have hee : ∀ q : Nat, 0 < q → q ≤ 600 → expErr h (macOf C S h ss ps).length ss.length (q : Int) = 0 := fun q h1 h2 => by
    refine expErr_0 hk (by rw [hml, hsz]; omega) (by omega) ?_
    rw [hsz]; omega
  have ee1 := hee nn (by omega) (by omega)
  have ee2 := hee (nn + mm) (by omega) (by omega)
  obtain ⟨x, w7, j7, vx, fx, u7⟩ := Expand_any hK h (T1.upd0 q16) pk (sp.up q16) (nn : Int)
  obtain ⟨y, w8, j8, vy, fy, u8⟩ := Expand_any hK h ((T1.upd0 q16).upd0 u7) (pk.up u7) ((sp.up q16).up u7) ((nn + mm : Nat) : Int)
  have j7 : digest_Expand K h k salt (nn : Int) w6 = some ((x, expErr h (macOf C S h ss ps).length ss.length (nn : Int), ()), w7) := j7
  have j8 : digest_Expand K h k salt ((nn + mm : Nat) : Int) w7 = some ((y, expErr h (macOf C S h ss ps).length ss.length ((nn + mm : Nat) : Int), ()), w8) := j8
  rw [ee1] at j7
  rw [ee2] at j8
  obtain ⟨r1, r2⟩ := expOf_take (C := C) (S := S) (by omega) (show nn ≤ nn + mm by omega) ee1 ee2
  obtain ⟨_, r3⟩ := expOf_take (C := C) (S := S) (by omega) (Nat.le_refl (nn + mm)) ee2 ee2
  have hxl : x.len = nn := by rw [vx.len, ints_length]; exact r2
  have hyl : y.len = nn + mm := by rw [vy.len, ints_length]; exact r3
  have hyc := (vy.src ints_one).cap
  have vy : Vw 5 w8 y (ints .u8 (expOf C S h (macOf C S h ss ps) ss ((nn + mm : Nat) : Int))) := vy
  have vx : Vw 5 w7 x (ints .u8 (expOf C S h (macOf C S h ss ps) ss (nn : Int))) := vx
  have hyr := vy.rd.sub (lo := 0) (hi := nn) (Nat.zero_le _) (by rw [r3]; omega)
  rw [List.drop_zero, r1] at hyr
  obtain ⟨w9, k9, u9⟩ := SameBytes_ok hK (vx.upd0 u8).rd hyr (by rw [r2]; omega)
  rw [decide_eq_true rfl] at k9
  refine ⟨w9, ?_, u1.and0 (((q16.and0 u7).and0 u8).and0 u9)⟩
  have j2 : digest_Stretch K h pass salt turns (nn : Int) w1 = _ := j2
  have j3 : digest_Stretch K h pass salt turns ((nn + mm : Nat) : Int) w2 = _ := j3
  rw [j2, bnd_ok, j3, bnd_ok]
  dsimp only
  rw [hs1', bnd_ok]
  dsimp only
  rw [if_neg (by decide)]
  unfold digest_Extract law01_num
  have j5 : bldS prog 24 1 #[(0, (.slice pass.a pass.len pass.cap))] w4 = _ := j5
  rw [j5, bnd_ok, j6, bnd_ok, bnd_ok]
  dsimp only
  rw [hs2', bnd_ok]
  dsimp only
  rw [if_neg (by decide), j7, bnd_ok, j8, bnd_ok, Option.bind_some]
  dsimp only
  rw [if_pos (by decide), Option.bind_some, if_pos (by decide), hxl, if_pos (by simp), hyl, if_pos (by simp), if_pos (by omega), Int.toNat_natCast, k9, bnd_ok]

end Go.Sh

/- Streams and Macs as objects: written, told, counted, copied, begun anew. -/
set_option linter.unusedVariables false
namespace Go.Sh
open Go.Fw Go.Sha Go.RowKit Go.Proofs.Tryd

/-- A stream in a block: what it was fed. -/
structure StrmAt (w : World) (g : Nat) (C S : List Int) (h : Int) (xs : List Int) : Prop where
  ex : ∃ cs, Bk 99 w g cs ∧ StC C S h xs cs

theorem StrmAt.upd {w w' : World} {g : Nat} {C S : List Int} {h : Int} {xs : List Int} {X : Nat → Prop} (m : StrmAt w g C S h xs) (u : Upd X w w') (hn : ¬ X g) : StrmAt w' g C S h xs := by
  obtain ⟨cs, h1, h2⟩ := m.ex
  exact ⟨cs, h1.upd u hn, h2⟩
theorem StrmAt.upd0 {w w' : World} {g : Nat} {C S : List Int} {h : Int} {xs : List Int} (m : StrmAt w g C S h xs) (u : Upd none_ w w') : StrmAt w' g C S h xs := m.upd u id
theorem StrmAt.lt {w : World} {g : Nat} {C S : List Int} {h : Int} {xs : List Int} (m : StrmAt w g C S h xs) : g < w.heap.size := by
  obtain ⟨cs, h1, _⟩ := m.ex
  exact h1.lt

theorem StrmAt.st {w : World} {g : Nat} {C S : List Int} {h : Int} {xs : List Int} (m : StrmAt w g C S h xs) : ∃ H half, StAt w 99 g 0 (stCells h xs.length H half) h xs.length H half ∧ Fed h C (firstH S h) xs H half := by
  obtain ⟨cs, h1, h2⟩ := m.ex
  obtain ⟨H, half, rfl, f, hi⟩ := h2.ex
  have := st_mk (pre := []) (post := []) (o := 0) f.H8 f.len hi rfl (by rw [List.nil_append, List.append_nil]; exact h1)
  rw [List.nil_append, List.append_nil] at this
  exact ⟨H, half, this, f⟩
theorem StrmAt.mk' {w : World} {g : Nat} {C S : List Int} {h : Int} {xs H half cs0 : List Int} {c0 : List Value} (st : StAt w 99 g 0 c0 h xs.length H half) (f : Fed h C (firstH S h) xs H half) (hl : c0.length = 142) : StrmAt w g C S h xs := by
  have hsl := stCells_len h xs.length st.words st.len
  have e : seg c0 0 (stCells h xs.length H half) = stCells h xs.length H half := seg_all (by omega)
  have hb := st.bk
  rw [e] at hb
  exact ⟨_, hb, H, half, rfl, f, st.inn⟩

theorem New_strm {K : Nat} (hK : 18446744073709551616 ≤ K) {h : Int} (hk : known h = true) {C S : List Int} {w : World} (T : Tabs w C S) :
    ∃ w' g, digest_New K h w = some ((some ⟨g, 0, none⟩, 0, ()), w') ∧ StrmAt w' g C S h [] ∧ w.heap.size ≤ g ∧ Upd none_ w w' := by
  obtain ⟨w1, g, h1, u1, hg, st, f⟩ := New_st hK hk T
  exact ⟨w1, g, h1, StrmAt.mk' (cs0 := []) st f (stCells_len h 0 (firstH_len S h) (List.length_replicate ..)), hg, u1⟩

theorem New_nil {K : Nat} (hK : 18446744073709551616 ≤ K) {h : Int} (hk : known h = false) {C S : List Int} {w : World} (T : Tabs w C S) : ∃ w', digest_New K h w = some ((none, 10, ()), w') ∧ Upd none_ w w' := by
  obtain ⟨w1, g, h1, h2, h3, h4⟩ := New_ok hK h T.sl T.sin T.gs
  rw [hk, if_neg (by decide), if_neg (by decide)] at h1
  exact ⟨w1, h1, h2⟩

theorem strm_write {K : Nat} (hK : 18446744073709551616 ≤ K) {w : World} {g : Nat} {h : Int} (hk : known h = true) {C S xs : List Int} (T : Tabs w C S) (hg : 4 ≤ g) (m : StrmAt w g C S h xs) {s : Sl} {xss : List (List Int)} {Q : Nat → Prop} (hQ : ¬ Q g) (hp : Parts w s xss Q) (hl : xs.length + xss.flatten.length ≤ 33554432) :
    ∃ w', digest_Stream_Write K (some ⟨g, 0, none⟩) s w = some ((0, ()), w') ∧ StrmAt w' g C S h (xs ++ xss.flatten) ∧ Upd (· = g) w w' := by
  obtain ⟨H, half, st, f⟩ := m.st
  obtain ⟨w', H', half', h1, h2, h3, h4⟩ := Write_ok hK hk T.cl (show g ≠ 2 by omega) st f T.gc hQ hp hl
  exact ⟨w', h1, StrmAt.mk' (cs0 := []) h2 h3 (stCells_len h _ st.words st.len), h4⟩

theorem strm_long {K : Nat} (hK : 18446744073709551616 ≤ K) {w : World} {g : Nat} {h : Int} (hk : known h = true) {C S xs : List Int} (m : StrmAt w g C S h xs) (hn : xs.length ≤ 33554432) {s : Sl} {xss : List (List Int)} {Q : Nat → Prop} (hp : Parts w s xss Q) (hl : ¬ xs.length + xss.flatten.length ≤ 33554432) :
    digest_Stream_Write K (some ⟨g, 0, none⟩) s w = some ((4, ()), w.drew) := by
  obtain ⟨H, half, st, f⟩ := m.st
  exact Write_long hK hk st hn hp hl

theorem strm_sum {K : Nat} (hK : 18446744073709551616 ≤ K) {w : World} {g : Nat} {h : Int} (hk : known h = true) {C S xs : List Int} (T : Tabs w C S) (m : StrmAt w g C S h xs) (hl : xs.length ≤ 1099511627776) :
    ∃ s' w', digest_Stream_Sum K (some ⟨g, 0, none⟩) w = some ((s', ()), w') ∧ Ans w.heap.size w' s' (digestOf h C (firstH S h) xs) ∧ Upd none_ w w' := by
  obtain ⟨H, half, st, f⟩ := m.st
  exact StreamSum_ok hK hk T.cl st f T.gc hl

theorem strm_ask {w : World} {g : Nat} {h : Int} (hk : known h = true) {C S xs : List Int} (m : StrmAt w g C S h xs) :
    digest_Stream_Hash (some ⟨g, 0, none⟩) w = some (h, ()) ∧ digest_Stream_Size (some ⟨g, 0, none⟩) w = some (sizeOfH h, ()) ∧ digest_Stream_Block (some ⟨g, 0, none⟩) w = some (((blk h : Nat) : Int), ()) ∧ digest_Stream_Count (some ⟨g, 0, none⟩) w = some (((xs.length : Nat) : Int), ()) := by
  obtain ⟨cs, hb, sc⟩ := m.ex
  obtain ⟨H, half, rfl, f, hi⟩ := sc.ex
  have l0 : ldI .i64 ⟨g, 0, none⟩ w = some (sizeOfH h) := hb.ldI (by rcases known_cases hk with e | e | e | e <;> subst e <;> rfl)
  have l1 : ldI .i64 ⟨g, 1, none⟩ w = some (((blk h : Nat) : Int)) := hb.ldI (by rcases known_cases hk with e | e | e | e <;> subst e <;> rfl)
  have l4 : ldI .i64 ⟨g, 4, none⟩ w = some h := hb.ldI (by rcases known_cases hk with e | e | e | e <;> subst e <;> rfl)
  have l5 : ldI .u64 ⟨g, 5, none⟩ w = some (((xs.length : Nat) : Int)) := hb.ldI (by rcases known_cases hk with e | e | e | e <;> subst e <;> rfl)
  refine ⟨?_, ?_, ?_, ?_⟩
  · unfold digest_Stream_Hash; rw [if_neg (by simp), Option.bind_some]; simp only [add_lit, Nat.zero_add]; rw [l4, Option.bind_some]
  · unfold digest_Stream_Size; rw [if_neg (by simp), Option.bind_some]; simp only [add_lit, Nat.zero_add]; rw [l0, Option.bind_some]
  · unfold digest_Stream_Block; rw [if_neg (by simp), Option.bind_some]; simp only [add_lit, Nat.zero_add]; rw [l1, Option.bind_some]
  · unfold digest_Stream_Count; rw [if_neg (by simp), Option.bind_some]; simp only [add_lit, Nat.zero_add]; rw [l5, Option.bind_some]

theorem strm_copy {w : World} {g : Nat} {h : Int} {C S xs : List Int} (m : StrmAt w g C S h xs) :
    ∃ w' g', digest_Stream_Copy (some ⟨g, 0, none⟩) w = some ((some ⟨g', 0, none⟩, ()), w') ∧ StrmAt w' g' C S h xs ∧ g' = w.heap.size ∧ Upd none_ w w' := by
  obtain ⟨cs, hb, sc⟩ := m.ex
  have hl := sc.len
  have lA := hb.ldA (i := 0) (n := 142) (by rw [hl]; decide)
  rw [List.drop_zero, List.take_of_length_le (by rw [hl]; decide)] at lA
  obtain ⟨w1, n1, b1, u1, z1⟩ := newB_ok z99 99 w
  obtain ⟨w2, s2, b2, u2, _⟩ := lay b1 (vs := cs) (by rw [hl]; rfl) sc.one
  refine ⟨w2, w.heap.size, ?_, ⟨cs, b2, sc⟩, rfl, u1.trans' u2 fun k hk e => by omega⟩
  unfold digest_Stream_Copy
  rw [if_neg (by simp), Option.bind_some, lA, Option.bind_some, n1, bnd_ok, if_pos (by rw [List.size_toArray, hl]), s2, Option.bind_some]

theorem strm_reset {K : Nat} (hK : 18446744073709551616 ≤ K) {w : World} {g : Nat} {h : Int} (hk : known h = true) {C S xs : List Int} (T : Tabs w C S) (m : StrmAt w g C S h xs) :
    ∃ w', digest_Stream_Reset K (some ⟨g, 0, none⟩) w = some ((0, ()), w') ∧ StrmAt w' g C S h [] ∧ Upd (· = g) w w' := by
  obtain ⟨cs, hb, sc⟩ := m.ex
  have hl := sc.len
  have l4 : ldI .i64 ⟨g, 4, none⟩ w = some h := by
    obtain ⟨H, half, rfl, f, hi⟩ := sc.ex
    exact hb.ldI (by rcases known_cases hk with e | e | e | e <;> subst e <;> rfl)
  obtain ⟨w1, h1, u1⟩ := begin_ok hK h T.sl T.sin T.gs
  have hcl := stCells_len h 0 (firstH_len S h) (List.length_replicate (n := 128) (a := (0 : Int)))
  obtain ⟨w2, s2, b2, u2, _⟩ := lay (hb.upd0 u1) (vs := stCells h 0 (firstH S h) half0) (by rw [hcl, hl]) (stCells_one _ _ _ _)
  refine ⟨w2, ?_, ⟨_, b2, StC.start C S h⟩, (u1.mono (T := (· = g)) fun _ _ e => e.elim).trans' u2 fun _ _ e => e⟩
  unfold digest_Stream_Reset
  rw [if_neg (by simp), Option.bind_some]
  simp only [add_lit, Nat.zero_add]
  rw [l4, Option.bind_some, h1, bnd_ok, Option.bind_some, if_pos (by rw [List.size_toArray, hcl])]
  simp only [add_lit, Nat.zero_add]
  rw [s2, Option.bind_some]

theorem mac_copy {w : World} {g : Nat} {h : Int} {C S ks xs : List Int} (m : MacAt w g C S h ks xs) :
    ∃ w' g', digest_Mac_Copy (some ⟨g, 0, none⟩) w = some ((some ⟨g', 0, none⟩, ()), w') ∧ MacAt w' g' C S h ks xs ∧ g' = w.heap.size ∧ Upd none_ w w' := by
  obtain ⟨cs, cs0, hb, k1, k2⟩ := m.ex
  have hl : (cs ++ cs0).length = 568 := by rw [List.length_append, k1.len, k2.len]
  have lA := hb.ldA (i := 0) (n := 568) (by rw [hl]; decide)
  rw [List.drop_zero, List.take_of_length_le (by rw [hl]; decide)] at lA
  obtain ⟨w1, n1, b1, u1, z1⟩ := newB_ok z101 101 w
  obtain ⟨w2, s2, b2, u2, _⟩ := lay b1 (vs := cs ++ cs0) (by rw [hl]; kernel_rfl) (fun v hv => (List.mem_append.1 hv).elim (k1.one v) (k2.one v))
  refine ⟨w2, w.heap.size, ?_, ⟨cs, cs0, b2, k1, k2⟩, rfl, u1.trans' u2 fun k hk e => by omega⟩
  unfold digest_Mac_Copy
  rw [if_neg (by simp), Option.bind_some, lA, Option.bind_some, n1, bnd_ok, if_pos (by rw [List.size_toArray, hl]), s2, Option.bind_some]

theorem mac_reset {w : World} {g : Nat} {h : Int} {C S ks xs : List Int} (m : MacAt w g C S h ks xs) :
    ∃ w', digest_Mac_Reset (some ⟨g, 0, none⟩) w = some ((0, ()), w') ∧ MacAt w' g C S h ks [] ∧ Upd (· = g) w w' := by
  obtain ⟨cs, cs0, hb, k1, k2⟩ := m.ex
  have hl : (cs ++ cs0).length = 568 := by rw [List.length_append, k1.len, k2.len]
  have lA := hb.ldA (i := 284) (n := 284) (by rw [hl]; decide)
  rw [← k1.len, List.drop_left, k1.len, List.take_of_length_le (by rw [k2.len]; decide)] at lA
  obtain ⟨w2, s2, b2, u2⟩ := hb.stA (o := 0) (vs := cs0.toArray) (by rw [List.size_toArray, k2.len, hl]; decide) (by simpa using k2.one)
  have e : seg (cs ++ cs0) 0 cs0.toArray.toList = cs0 ++ cs0 := by
    show seg (cs ++ cs0) 0 cs0 = _
    unfold seg
    rw [List.take_zero, List.nil_append, Nat.zero_add, k2.len, ← k1.len, List.drop_left]
  rw [e] at b2
  refine ⟨w2, ?_, ⟨cs0, cs0, b2, k2, k2⟩, u2⟩
  unfold digest_Mac_Reset
  rw [if_neg (by simp), Option.bind_some]
  simp only [add_lit, Nat.zero_add]
  rw [lA, Option.bind_some, Option.bind_some, if_pos (by rw [List.size_toArray, k2.len])]
  simp only [add_lit, Nat.zero_add]
  rw [s2, Option.bind_some]

theorem mac_size {w : World} {g : Nat} {h : Int} (hk : known h = true) {C S ks xs : List Int} (m : MacAt w g C S h ks xs) : digest_Mac_Size (some ⟨g, 0, none⟩) w = some (sizeOfH h, ()) := by
  obtain ⟨cs, cs0, hb, k1, k2⟩ := m.ex
  obtain ⟨a, b, rfl, sa, _⟩ := k1.ex
  obtain ⟨H, half, rfl, f, hi⟩ := sa.ex
  have l0 : ldI .i64 ⟨g, 0, none⟩ w = some (sizeOfH h) := hb.ldI (by rcases known_cases hk with e | e | e | e <;> subst e <;> rfl)
  unfold digest_Mac_Size
  rw [if_neg (by simp), Option.bind_some]
  simp only [add_lit, Nat.zero_add]
  rw [l0, Option.bind_some]

end Go.Sh

/- DigestKeys: keys with zeros behind, long keys. -/
set_option linter.unusedVariables false
namespace Go.Sh
open Go.Fw Go.Sha Go.RowKit Go.Proofs.Tryd Go.Deep

theorem macOf_pad {C S : List Int} {h : Int} {ks os : List Int} (e : padK h (keyH C S h os) = padK h (keyH C S h ks)) (xs : List Int) : macOf C S h os xs = macOf C S h ks xs := by
  unfold macOf ipad opad; rw [e]

theorem pad_zeros {C S : List Int} {h : Int} {ks : List Int} {z : Nat} (hl : ks.length + z ≤ blk h) : padK h (keyH C S h (ks ++ List.replicate z 0)) = padK h (keyH C S h ks) := by
  have e1 : keyH C S h (ks ++ List.replicate z 0) = ks ++ List.replicate z 0 := by
    unfold keyH; rw [if_neg (by rw [List.length_append, List.length_replicate]; omega)]
  have e2 : keyH C S h ks = ks := by unfold keyH; rw [if_neg (by omega)]
  rw [e1, e2]
  unfold padK
  rw [List.append_assoc, List.replicate_append_replicate, List.length_append, List.length_replicate]
  congr 2; omega

theorem pad_digest {C S : List Int} {h : Int} (hk : known h = true) {ks : List Int} (hl : ks.length > blk h) : padK h (keyH C S h (digestOf h C (firstH S h) ks)) = padK h (keyH C S h ks) := by
  have e1 : keyH C S h (digestOf h C (firstH S h) ks) = digestOf h C (firstH S h) ks := by
    unfold keyH; rw [if_neg (by have := digestOf_lt hk C (firstH S h) ks; omega)]
  have e2 : keyH C S h ks = digestOf h C (firstH S h) ks := by unfold keyH; rw [if_pos hl]
  rw [e1, e2]

theorem keys_l3 {K : Nat} {B : Nat} {h zeros e9 : Int} {ks : List Int} (hb : blk h ≤ 128) :
    ∀ (d i k : Nat) (w : World) (o : Sl), ks.length + i + d = blk h → d < k → Own 5 w o (ints .u8 (ks ++ List.replicate i 0)) → B ≤ w.heap.size → Fresh B o →
      ∃ z o' w', law01_DigestKeys_l3 K k h zeros ((blk h : Nat) : Int) e9 o (i : Int) w = some ((o', ()), w') ∧ Own 5 w' o' (ints .u8 (ks ++ List.replicate z 0)) ∧ ks.length + z ≤ blk h ∧ Below B w w' ∧ Fresh B o' := by
  intro d
  induction d with
  | zero =>
    intro i k w o hi hkk ho hB hf
    obtain ⟨k, rfl⟩ : ∃ q, k = q + 1 := ⟨k - 1, by omega⟩
    have hol : o.len = ks.length + i := by rw [ho.len, ints_length, List.length_append, List.length_replicate]
    refine ⟨i, o, w, ?_, ho, by omega, Below.refl B w, hf⟩
    have eu : law01_DigestKeys_l3 K (k + 1) = law01_DigestKeys_l3_b K (law01_DigestKeys_l3 K k) := rfl
    rw [eu]
    unfold law01_DigestKeys_l3_b law01_DigestKeys_s4
    have hd : decide (((o.len : Nat) : Int) < ((blk h : Nat) : Int)) = false := by rw [hol]; simp only [decide_eq_false_iff_not]; omega
    rw [hd]
    cases decide ((i : Int) < zeros) <;> rfl
  | succ d ih =>
    intro i k w o hi hkk ho hB hf
    obtain ⟨k, rfl⟩ : ∃ q, k = q + 1 := ⟨k - 1, by omega⟩
    have hol : o.len = ks.length + i := by rw [ho.len, ints_length, List.length_append, List.length_replicate]
    have eu : law01_DigestKeys_l3 K (k + 1) = law01_DigestKeys_l3_b K (law01_DigestKeys_l3 K k) := rfl
    have hd : decide (((o.len : Nat) : Int) < ((blk h : Nat) : Int)) = true := by rw [hol]; simp only [decide_eq_true_eq]; omega
    have e1 : IntKind.i64.wrap ((i : Int) + 1) = ((i + 1 : Nat) : Int) := by rw [w64 (by omega) (by omega)]; rfl
    rw [eu]
    unfold law01_DigestKeys_l3_b law01_DigestKeys_s4
    rw [hd]
    cases hz : decide ((i : Int) < zeros) with
    | false => exact ⟨i, o, w, rfl, ho, by omega, Below.refl B w, hf⟩
    | true =>
      obtain ⟨w1, s2, w2, h1, h2, o2, l2, bl2, hf2⟩ := push1 0 ho (by omega) hB hf
      have er : ks ++ List.replicate i 0 ++ [(0 : Int)] = ks ++ List.replicate (i + 1) 0 := by rw [List.append_assoc, List.replicate_succ']
      rw [er] at o2
      obtain ⟨z, o', w', g1, g2, g3, g4, g5⟩ := ih (i + 1) k w2 s2 (by omega) (by omega) o2 (by have := bl2.size; omega) hf2
      refine ⟨z, o', w', ?_, g2, g3, bl2.trans g4, g5⟩
      rw [if_pos rfl, bnd_ok]
      dsimp only
      rw [if_pos rfl, h1, bnd_ok]
      dsimp only
      rw [h2, bnd_ok, e1, g1]

theorem block_ne {h : Int} (hk : known h = true) : (if ((blockOfH h) != 64) = true then some (((blockOfH h) != 128), ()) else some (false, ())) = some (false, ()) := by
  rcases known_cases hk with e | e | e | e <;> subst e <;> rfl

theorem DigestKeys_ok {K : Nat} (hK : 18446744073709551616 ≤ K) {C S : List Int} {w : World} (T : Tabs w C S) {h zeros : Int} {key bytes cuts : Sl} {ks bs : List Int} (hp : BytesIn w key ks) (hs : BytesIn w bytes bs) (hpb : ∀ q, key.a = some q → q.block < w.heap.size) (hsb : ∀ q, bytes.a = some q → q.block < w.heap.size) :
    ∃ w', law01_DigestKeys K (feedC h key bytes cuts zeros) w = some ((true, ()), w') ∧ Upd none_ w w' := by
  obtain ⟨w1, n1, b1, u1, z1⟩ := newB_ok (feedC h key bytes cuts zeros) 64 w
  have l0 : ldI .i64 ⟨w.heap.size, 0, none⟩ w1 = some h := b1.ldI rfl
  have l1 : ldS ⟨w.heap.size, 1, none⟩ w1 = some key := b1.ldS rfl
  have l2 : ldS ⟨w.heap.size, 2, none⟩ w1 = some bytes := b1.ldS rfl
  have l4 : ldI .i64 ⟨w.heap.size, 4, none⟩ w1 = some zeros := b1.ldI rfl
  have hkl : key.len = ks.length := by rw [hp.src.len, ints_length]
  have hbl : bytes.len = bs.length := by rw [hs.src.len, ints_length]
  unfold law01_DigestKeys
  rw [n1, bnd_ok]
  simp only [add_lit, Nat.zero_add]
  rw [l0, Option.bind_some, l1, Option.bind_some, l2, Option.bind_some, l4, Option.bind_some]
  unfold law01_DigestKeys_s0
  rw [known_ok, Option.bind_some]
  dsimp only
  cases hk : known h with
  | false =>
    rw [if_pos (show (!false) = true from rfl), bnd_ok]
    exact ⟨w1, rfl, u1⟩
  | true =>
  rw [if_neg (show ¬ (!true) = true by decide)]
  by_cases c1 : bs.length > 65536
  · have hd : decide (((bytes.len : Nat) : Int) > 65536) = true := by rw [hbl]; simp only [decide_eq_true_eq]; omega
    rw [hd, if_pos rfl, bnd_ok]; exact ⟨w1, rfl, u1⟩
  have hd : decide (((bytes.len : Nat) : Int) > 65536) = false := by rw [hbl]; simp only [decide_eq_false_iff_not]; omega
  rw [hd, if_neg (by decide), bnd_ok]
  dsimp only
  by_cases c2 : ks.length > 65536
  · have hd : decide (((key.len : Nat) : Int) > 65536) = true := by rw [hkl]; simp only [decide_eq_true_eq]; omega
    rw [hd, if_pos rfl]; exact ⟨w1, rfl, u1⟩
  have hd : decide (((key.len : Nat) : Int) > 65536) = false := by rw [hkl]; simp only [decide_eq_false_iff_not]; omega
  rw [hd, if_neg (by decide)]
  obtain ⟨hsz, h28, h64⟩ := szH_ok hk
  have hbk := blk_le h
  have hbO : blockOfH h = ((blk h : Nat) : Int) := by rcases known_cases hk with e | e | e | e <;> subst e <;> rfl
  obtain ⟨w2, j2, u2⟩ := Block_ok h w1
  have q2 := u1.and0 u2
  have pk := (hp.part hpb).up q2
  have pb := (hs.part hsb).up q2
  have T2 := T.upd0 q2
  obtain ⟨w3, j3, P3, u3⟩ := one_part pb.1 hs.inn hs.len pb.2.2.2
  have j3 : bldS prog 24 1 #[(0, (.slice bytes.a bytes.len bytes.cap))] w2 = _ := j3
  have ek : ([bs] : List (List Int)).flatten = bs := by simp
  obtain ⟨a, w4, j4, va, fa, u4⟩ := Code_any hK h (T2.upd0 u3) (pk.up u3).1 hp.inn (show ks.length ≤ 33554432 by omega) (pk.up u3).2.2.2 P3 (fun k hk => hk) (by rw [ek]; omega)
  rw [ek] at va
  have j4 : digest_Code K h key ⟨some ⟨w2.heap.size, 0, none⟩, 1, 1⟩ w3 = some ((a, (if known h = true then 0 else 10), ()), w4) := j4
  rw [hk, if_pos rfl] at j4
  have hcm : ∀ ks, codeOf C S h ks bs = macOf C S h ks bs := fun ks => by unfold codeOf; rw [if_pos hk]
  have va : Vw 5 w4 a (ints .u8 (macOf C S h ks bs)) := by rw [← hcm]; exact va
  have hml := macOf_size hk C S ks bs
  have hal : a.len = szH h := by rw [va.len, ints_length, hml]
  have hs1' : law01_DigestKeys_s1 K h (blockOfH h) a 0 w4 = some ((false, ()), w4) := by
    unfold law01_DigestKeys_s1 law01_num
    rw [Option.bind_some]
    dsimp only
    rw [if_neg (by decide), hal, hash8 hk, bne_self_eq_false, if_neg (by decide)]
    rcases known_cases hk with e | e | e | e <;> subst e <;> rfl
  have q24 := u3.and0 u4
  have hs3 := u3.size
  have hs4 := u4.size
  -- the other key
  have hother : ∃ o os w5, law01_DigestKeys_s2 K h key zeros ((blk h : Nat) : Int) 0 ⟨none, 0, 0⟩ (decide (((key.len : Nat) : Int) > ((blk h : Nat) : Int))) w4 = some ((0, o, ()), w5) ∧ PartOk w5 (o, os) ∧ os.length ≤ 33554432 ∧ padK h (keyH C S h os) = padK h (keyH C S h ks) ∧ Upd none_ w4 w5 := by
    by_cases hl : ks.length > blk h
    · have hd : decide (((key.len : Nat) : Int) > ((blk h : Nat) : Int)) = true := by rw [hkl]; simp only [decide_eq_true_eq]; omega
      have pk4 := pk.up q24
      obtain ⟨w5, j5, P5, u5⟩ := one_part pk4.1 hp.inn hp.len pk4.2.2.2
      have j5 : bldS prog 24 1 #[(0, (.slice key.a key.len key.cap))] w4 = _ := j5
      have ek2 : ([ks] : List (List Int)).flatten = ks := by simp
      obtain ⟨s, w6, j6, a6, u6⟩ := Sum_ok hK hk ((T2.upd0 q24).upd0 u5) P5 (fun k hk => hk) (by rw [ek2]; omega)
      rw [ek2] at a6
      have hdl := digestOf_len h C (firstH S h) ks
      refine ⟨s, digestOf h C (firstH S h) ks, w6, ?_, ⟨a6.src, digestOf_in h C _ ks, by show (digestOf h C (firstH S h) ks).length ≤ _; omega, a6.own⟩, by omega, pad_digest hk hl, u5.and0 u6⟩
      unfold law01_DigestKeys_s2
      rw [hd, if_pos rfl, j5, bnd_ok, j6, bnd_ok]
    · have hd : decide (((key.len : Nat) : Int) > ((blk h : Nat) : Int)) = false := by rw [hkl]; simp only [decide_eq_false_iff_not]; omega
      have pk4 := pk.up q24
      obtain ⟨x, w5, j5, l5, o5, u5, f5⟩ := apd_ok sliceB (Own.nil 5 w4) pk4.1 (by show (0 + key.len) * 1 ≤ _; omega)
      have o5 : Own 5 w5 x (ints .u8 (ks ++ List.replicate 0 0)) := by simpa using o5
      have j5 : apd prog 25 25 (.slice none 0 0) (.slice key.a key.len key.cap) w4 = some (x, w5) := j5
      have u5' : Upd none_ w4 w5 := u5.mono fun k _ e => by cases e
      have hs5 := u5'.size
      have fx : Fresh w4.heap.size x := fun k hk => by
        rcases f5 with e | e
        · rw [e] at hk; cases hk
        · rw [e] at hk; have := Option.some.inj hk; omega
      obtain ⟨z, o', w6, j6, o6, hz, bl6, f6⟩ := keys_l3 (K := K) (B := w4.heap.size) (h := h) (zeros := zeros) (e9 := 0) (ks := ks) hbk (blk h - ks.length) 0 K w5 x (by omega) (by omega) o5 hs5 fx
      have j6 : law01_DigestKeys_l3 K K h zeros ((blk h : Nat) : Int) 0 x 0 w5 = _ := j6
      have hrl : (ks ++ List.replicate z (0 : Int)).length ≤ 128 := by rw [List.length_append, List.length_replicate]; omega
      refine ⟨o', ks ++ List.replicate z 0, w6, ?_, ⟨o6.src ints_one, fun x hx => (List.mem_append.1 hx).elim (hp.inn x) fun hx => by rw [(List.mem_replicate.1 hx).2]; exact in0, by show (ks ++ List.replicate z (0 : Int)).length ≤ _; omega, lt_of_blk fun k hk => o6.lt hk⟩, by omega, pad_zeros hz, ?_⟩
      · unfold law01_DigestKeys_s2
        rw [hd, if_neg (by decide), j5, bnd_ok, j6, bnd_ok]
      · exact Upd.of_below (S := none_) ((u5'.below (Nat.le_refl _) fun _ _ => id).trans bl6)
  obtain ⟨o, os, w5, j5, po, hol, hpad, u5⟩ := hother
  have hs5 := u5.size
  have q25 := q24.and0 u5
  have pb5 := pb.up q25
  obtain ⟨w6, j6, P6, u6⟩ := one_part pb5.1 hs.inn hs.len pb5.2.2.2
  have j6 : bldS prog 24 1 #[(0, (.slice bytes.a bytes.len bytes.cap))] w5 = _ := j6
  have hs6 := u6.size
  have q26 := q25.and0 u6
  obtain ⟨b, w7, j7, vb, fb, u7⟩ := Code_any hK h (T2.upd0 q26) (po.up u6).1 po.2.1 hol (po.up u6).2.2.2 P6 (fun k hk => hk) (by rw [ek]; omega)
  rw [ek] at vb
  have j7 : digest_Code K h o ⟨some ⟨w5.heap.size, 0, none⟩, 1, 1⟩ w6 = some ((b, (if known h = true then 0 else 10), ()), w7) := j7
  rw [hk, if_pos rfl] at j7
  have vb : Vw 5 w7 b (ints .u8 (macOf C S h ks bs)) := by rw [← macOf_pad hpad bs, ← hcm]; exact vb
  have hs7 := u7.size
  have q27 := q26.and0 u7
  have po7 := (po.up u6).up u7
  obtain ⟨w8, g, j8, m8, hg, u8⟩ := NewMac_ok hK hk (T2.upd0 q27) po7.1 po.2.1 hol po7.2.2.2
  have hs8 := u8.size
  have j8 : digest_NewMac K h o w7 = _ := j8
  have q28 := q27.and0 u8
  have q47 := (u5.and0 u6).and0 u7
  obtain ⟨w9, k9, u9⟩ := SameBytes_ok hK (va.upd0 (q47.and0 u8)).rd (vb.upd0 u8).rd (by omega)
  rw [decide_eq_true rfl] at k9
  have hs9 := u9.size
  have hs5' : law01_DigestKeys_s5 K a 0 b 0 (some ⟨g, 0, none⟩) 0 w8 = some ((false, ()), w9) := by
    unfold law01_DigestKeys_s5 law01_num
    rw [Option.bind_some]
    dsimp only
    rw [if_neg (by decide), Option.bind_some, if_neg (by decide), Option.bind_some, if_neg (by decide), if_neg (by simp), k9, bnd_ok]
    rfl
  have q29 := q28.and0 u9
  have h4 := T.lt
  have hs2 := q2.size
  -- what is fed is put away, what is fed again is told
  obtain ⟨wa, ja, oa, ua, za⟩ := bldS_ok sliceB (ints .u8 [1, 2, 3]) (fun v hv => by obtain ⟨x, _, rfl⟩ := List.mem_map.1 hv; rfl) (by decide) (by decide) w9
  have ja : bldS prog 25 3 #[(0, (.int .u8 1)), (1, (.int .u8 2)), (2, (.int .u8 3))] w9 = _ := ja
  have oa : Own 5 wa ⟨some ⟨w9.heap.size, 0, none⟩, 3, 3⟩ (ints .u8 [1, 2, 3]) := oa
  have i123 : ∀ x ∈ ([1, 2, 3] : List Int), InK .u8 x := by
    intro x hx
    simp only [List.mem_cons, List.not_mem_nil, or_false] at hx
    rcases hx with rfl | rfl | rfl <;> exact ⟨by decide, by decide⟩
  have hsa := ua.size
  obtain ⟨wb, jb, Pb, ub⟩ := one_part (oa.src ints_one) i123 (by decide) (lt_of_blk fun k hk => oa.lt hk)
  have jb : bldS prog 24 1 #[(0, (.slice (some ⟨w9.heap.size, 0, none⟩) 3 3))] wa = some (⟨some ⟨wa.heap.size, 0, none⟩, 1, 1⟩, wb) := jb
  have hsb' := ub.size
  have q9b := ua.and0 ub
  have e123 : ([[1, 2, 3]] : List (List Int)).flatten = [1, 2, 3] := rfl
  -- the parts do not lie in the Mac's block
  have Pb' : Parts wb ⟨some ⟨wa.heap.size, 0, none⟩, 1, 1⟩ [[1, 2, 3]] (fun k => w9.heap.size ≤ k) := by
    refine ⟨Pb.len, Pb.cap, Pb.inn, Pb.lens, Pb.many, .inr ⟨⟨wa.heap.size, 0, none⟩, [⟨some ⟨w9.heap.size, 0, none⟩, 3, 3⟩], rfl, rfl, hsa, ?_, ?_⟩⟩
    · rcases Pb.rd with e | ⟨p, ss, e1, e2, e3, e4, e5⟩
      · cases e
      · obtain rfl := Option.some.inj e1
        obtain ⟨w2', c1, c2, _⟩ := bldS1_ok sliceSS (.slice (some ⟨w9.heap.size, 0, none⟩) 3 3) rfl wa
        obtain ⟨_, hw⟩ := Prod.mk.inj (Option.some.inj (c1.symm.trans jb))
        subst hw
        rcases (c2.src (by simp [Value.oneCell'])).rd with ⟨b1, _⟩ | ⟨p, b1, b2⟩
        · cases b1
        · obtain rfl := Option.some.inj b1; exact b2
    · intro i hi
      have : i = 0 := by simp at hi; omega
      subst this
      exact ⟨(oa.upd0 ub).src ints_one, fun q hq => by obtain rfl := Option.some.inj hq; exact ⟨Nat.le_refl _, by show w9.heap.size < wb.heap.size; omega⟩⟩
  have m9 := (m8.upd0 u9).upd0 q9b
  have hgl := m8.lt
  obtain ⟨wc, jc, mc, uc⟩ := MacWrite_ok hK hk ((T2.upd0 q29).upd0 q9b) (by omega) m9 (show ¬ w9.heap.size ≤ g by omega) Pb' (by rw [e123]; decide)
  have hsc := uc.size
  obtain ⟨wd, jd, md, ud⟩ := mac_reset mc
  have hsd := ud.size
  have ucd : Upd (· = g) wb wd := uc.trans' ud fun _ _ e => e
  have pbd := ((pb.up q29).up q9b).upd ucd fun q hq e => by have := pb.2.2.2 q hq; omega
  obtain ⟨we, je, Pe, ue⟩ := one_part pbd.1 hs.inn hs.len pbd.2.2.2
  have je : bldS prog 24 1 #[(0, (.slice bytes.a bytes.len bytes.cap))] wd = some (⟨some ⟨wd.heap.size, 0, none⟩, 1, 1⟩, we) := je
  have hse := ue.size
  have Pe' : Parts we ⟨some ⟨wd.heap.size, 0, none⟩, 1, 1⟩ [bs] (fun k => k ≠ g) := by
    refine ⟨Pe.len, Pe.cap, Pe.inn, Pe.lens, Pe.many, .inr ⟨⟨wd.heap.size, 0, none⟩, [bytes], rfl, rfl, (show wd.heap.size ≠ g by omega), ?_, ?_⟩⟩
    · obtain ⟨w2', c1, c2, _⟩ := bldS1_ok sliceSS (.slice bytes.a bytes.len bytes.cap) rfl wd
      obtain ⟨_, hw⟩ := Prod.mk.inj (Option.some.inj (c1.symm.trans je))
      subst hw
      rcases (c2.src (by simp [Value.oneCell'])).rd with ⟨b1, _⟩ | ⟨p, b1, b2⟩
      · cases b1
      · obtain rfl := Option.some.inj b1; exact b2
    · intro i hi
      have : i = 0 := by simp at hi; omega
      subst this
      exact ⟨(pbd.up ue).1, fun q hq => ⟨fun e => by have := pb.2.2.2 q hq; omega, (pbd.up ue).2.2.2 q hq⟩⟩
  obtain ⟨wf, jf, mf, uf⟩ := MacWrite_ok hK hk ((((T2.upd0 q29).upd0 q9b).upd ucd fun k hk e => by omega).upd0 ue) (by omega) (md.upd0 ue) (fun e => e rfl) Pe' (by rw [ek]; simp; omega)
  rw [ek, List.nil_append] at mf
  have hsf := uf.size
  have hs6' : law01_DigestKeys_s6 K bytes (some ⟨g, 0, none⟩) w9 = some ((false, ()), wf) := by
    unfold law01_DigestKeys_s6 law01_num
    rw [ja, bnd_ok]
    have ja2 : (⟨some ⟨w9.heap.size, 0, none⟩, (ints .u8 [1, 2, 3]).length, (ints .u8 [1, 2, 3]).length⟩ : Sl) = ⟨some ⟨w9.heap.size, 0, none⟩, 3, 3⟩ := rfl
    rw [ja2]
    dsimp only
    rw [jb, bnd_ok, jc, bnd_ok, Option.bind_some]
    dsimp only
    rw [if_neg (by decide), jd, bnd_ok, Option.bind_some]
    dsimp only
    rw [if_neg (by decide), je, bnd_ok, jf, bnd_ok, Option.bind_some]
    rfl
  have uce : Upd (· = g) wb wf := (ucd.and0 ue).trans' uf fun _ _ e => e
  obtain ⟨x, wg, jg, ax, ug⟩ := MacSum_ok hK hk (((T2.upd0 q29).upd0 q9b).upd uce fun k hk e => by omega) mf (by omega)
  rw [macOf_pad hpad bs] at ax
  have va9 : Vw 5 wg a (ints .u8 (macOf C S h ks bs)) := ((((va.upd0 (q47.and0 u8)).upd0 u9).upd0 q9b).upd uce fun k hk e => by have := va.lt hk; omega).upd0 ug
  obtain ⟨wh, jh, uh⟩ := SameBytes_ok hK ax.rd va9.rd (by omega)
  rw [decide_eq_true rfl] at jh
  have qall : Upd none_ w wf := ((q2.and0 q29).and0 q9b).trans' uce fun k hk e => by omega
  refine ⟨wh, ?_, (qall.and0 ug).and0 uh⟩
  rw [j2, bnd_ok, j3, bnd_ok, j4, bnd_ok]
  dsimp only
  rw [hs1', bnd_ok]
  dsimp only
  rw [if_neg (by decide), hbO, j5, bnd_ok]
  dsimp only
  rw [j6, bnd_ok, j7, bnd_ok, j8, bnd_ok]
  dsimp only
  rw [hs5', bnd_ok]
  dsimp only
  rw [if_neg (by decide), hs6', bnd_ok]
  dsimp only
  rw [if_neg (by decide), jg, bnd_ok, jh, bnd_ok]

end Go.Sh

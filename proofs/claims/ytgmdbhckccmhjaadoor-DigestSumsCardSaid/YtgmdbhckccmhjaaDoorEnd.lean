/- A digest is told: big, end of package digest; the document's Sum. -/
import Derived.Test.YtgmdbhckccmhjaaDoorTakeOk
set_option linter.unusedVariables false
namespace Go.Sh
open Go.Fw Go.Sha Go.RowKit Go.Proofs.Tryd

/-- the bytes of a word, the great ones first -/
def bigB (x : Int) : Nat → List Int
  | 0 => []
  | n + 1 => IntKind.u8.wrap (Int.fdiv x (2 ^ (8 * n))) :: bigB x n

theorem bigB_len (x : Int) : ∀ n, (bigB x n).length = n
  | 0 => rfl
  | n + 1 => by simp [bigB, bigB_len x n]

/-- one byte is appended -/
theorem push1 {w : World} {s : Sl} {xs : List Int} (x : Int) {B : Nat} (ho : Own 5 w s (ints .u8 xs)) (hs : s.len + 1 ≤ 140737488355328) (hB : B ≤ w.heap.size) (hf : Fresh B s) :
    ∃ w1 s2 w2, bldS prog 25 1 #[(0, (.int .u8 x))] w = some (⟨some ⟨w.heap.size, 0, none⟩, 1, 1⟩, w1) ∧ apd prog 25 25 (.slice s.a s.len s.cap) (.slice (some ⟨w.heap.size, 0, none⟩) 1 1) w1 = some (s2, w2) ∧
      Own 5 w2 s2 (ints .u8 (xs ++ [x])) ∧ s2.len = s.len + 1 ∧ Below B w w2 ∧ Fresh B s2 := by
  obtain ⟨w1, h1, o1, u1, z1⟩ := bldS1_ok sliceB (.int .u8 x) rfl w
  obtain ⟨s2, w2, h2, l2, o2, u2, b2⟩ := apd_ok sliceB (ho.upd0 u1) (o1.src (by simp [Value.oneCell'])) (by show (s.len + 1) * 1 ≤ _; omega)
  have bl1 : Below B w w1 := u1.below hB fun _ _ => id
  have bl2 : Below B w w2 := below_upd bl1 u2 (by omega) fun k hk e => by have := hf k e; omega
  refine ⟨w1, s2, w2, h1, h2, by simpa using o2, l2, bl2, ?_⟩
  intro k hk
  rcases b2 with e | e
  · exact hf k (e ▸ hk)
  · rw [e] at hk; have := Option.some.inj hk; omega

theorem big_loop (K B : Nat) (x : Int) : ∀ (m n : Nat) (w : World) (s : Sl) (xs : List Int), m ≤ 8 → m < n → Own 5 w s (ints .u8 xs) → s.len + m ≤ 140737488355328 → B ≤ w.heap.size → Fresh B s →
    ∃ s' w', digest_big_l0 K n s x ((m : Int) - 1) w = some ((s', ()), w') ∧ Own 5 w' s' (ints .u8 (xs ++ bigB x m)) ∧ Below B w w' ∧ Fresh B s' := by
  intro m
  induction m with
  | zero =>
    intro n w s xs hm hn ho hs hB hf
    obtain ⟨n, rfl⟩ : ∃ k, n = k + 1 := ⟨n - 1, by omega⟩
    refine ⟨s, w, ?_, by simpa [bigB] using ho, Below.refl B w, hf⟩
    show digest_big_l0_b K (digest_big_l0 K n) s x (((0 : Nat) : Int) - 1) w = _
    simp [digest_big_l0_b]
  | succ m ih =>
    intro n w s xs hm hn ho hs hB hf
    obtain ⟨n, rfl⟩ : ∃ k, n = k + 1 := ⟨n - 1, by omega⟩
    obtain ⟨w1, s2, w2, h1, h2, o2, l2, bl2, hf2⟩ := push1 (IntKind.u8.wrap (Int.fdiv x (2 ^ (8 * m)))) ho (by omega) hB hf
    obtain ⟨s3, w3, h3, o3, bl3, hf3⟩ := ih n w2 s2 _ (by omega) (by omega) o2 (by omega) (by have := bl2.size; omega) hf2
    refine ⟨s3, w3, ?_, by simpa [bigB] using o3, bl2.trans bl3, hf3⟩
    show digest_big_l0_b K (digest_big_l0 K n) s x (((m + 1 : Nat) : Int) - 1) w = _
    have e0 : (((m + 1 : Nat) : Int) - 1) = (m : Int) := by omega
    have hd : decide ((m : Int) ≥ 0) = true := by simp
    have e8 : IntKind.i64.wrap (8 * (m : Int)) = ((8 * m : Nat) : Int) := by rw [w64 (by omega) (by omega)]; omega
    have e1 : IntKind.i64.wrap ((m : Int) - 1) = (m : Int) - 1 := w64 (by omega) (by omega)
    have hmin : min (8 * m) IntKind.u64.bits = 8 * m := Nat.min_eq_left (by simp only [IntKind.bits]; omega)
    unfold digest_big_l0_b
    rw [e0, hd, if_pos rfl, e8, if_pos (Int.natCast_nonneg _), Int.toNat_natCast, hmin, h1, bnd_ok]
    show bnd (apd prog 25 25 (.slice s.a s.len s.cap) (.slice (some ⟨w.heap.size, 0, none⟩) 1 1) w1) _ = _
    rw [h2, bnd_ok, e1, h3]

theorem big_ok {K : Nat} (hK : 18446744073709551616 ≤ K) {B : Nat} (x : Int) {m : Nat} (hm : m ≤ 8) {w : World} {s : Sl} {xs : List Int} (ho : Own 5 w s (ints .u8 xs)) (hs : s.len + m ≤ 140737488355328) (hB : B ≤ w.heap.size) (hf : Fresh B s) :
    ∃ s' w', digest_big K s x (m : Int) w = some ((s', ()), w') ∧ Own 5 w' s' (ints .u8 (xs ++ bigB x m)) ∧ Below B w w' ∧ Fresh B s' := by
  obtain ⟨s', w', h1, h2, h3, h4⟩ := big_loop K B x m K w s xs hm (by omega) ho hs hB hf
  refine ⟨s', w', ?_, h2, h3, h4⟩
  have e1 : IntKind.i64.wrap ((m : Int) - 1) = (m : Int) - 1 := w64 (by omega) (by omega)
  unfold digest_big
  rw [e1, h1, bnd_ok]

/-- the zeros behind the mark, as many as it takes till a whole number of blocks comes out -/
def padZ (b m len : Nat) : Nat := (b - (len + 1 + m) % b) % b

theorem padZ_spec {b m len j : Nat} (hb : b = 64 ∨ b = 128) (hj : j ≤ padZ b m len) : (len % b + (1 + j) + m) % b = 0 ↔ j = padZ b m len := by
  unfold padZ at *
  rcases hb with rfl | rfl <;> omega

theorem padZ_lt {b m len : Nat} (hb : b = 64 ∨ b = 128) : padZ b m len < b := by
  unfold padZ
  rcases hb with rfl | rfl <;> omega

theorem padZ_whole {b m len : Nat} (hb : b = 64 ∨ b = 128) : (len + 1 + padZ b m len + m) % b = 0 := by
  unfold padZ
  rcases hb with rfl | rfl <;> omega

/-- bytes of a digest's word -/
def wordB (h : Int) : Nat := if narrowB h = true then 4 else 8
theorem wordB_blk (h : Int) : (wordB h = 4 ∧ blk h = 64) ∨ (wordB h = 8 ∧ blk h = 128) := by unfold wordB blk; split <;> simp

theorem st_word {h : Int} (hk : known h = true) (cnt : Nat) (H half : List Int) : (stCells h cnt H half)[2]? = some (.int .i64 ((wordB h : Nat) : Int)) ∧ (stCells h cnt H half)[0]? = some (.int .i64 (h / 8)) := by
  rcases known_cases hk with e | e | e | e <;> subst e <;> exact ⟨rfl, rfl⟩

theorem StAt.ld2 {w : World} {e : TypeId} {g o : Nat} {cs0 : List Value} {h : Int} {cnt : Nat} {H half : List Int} (s : StAt w e g o cs0 h cnt H half) (hk : known h = true) :
    ldI .i64 ⟨g, o + 2, none⟩ w = some ((wordB h : Nat) : Int) ∧ ldI .i64 ⟨g, o + 0, none⟩ w = some (h / 8) := by
  obtain ⟨h1, h2⟩ := st_word hk cnt H half
  exact ⟨s.bk.ldI ((st_get s.words s.len s.room (by decide)).trans h1), s.bk.ldI ((st_get s.words s.len s.room (by decide)).trans h2)⟩

theorem end_l0 (K : Nat) {e : TypeId} {g : Nat} {cs0 : List Value} {h : Int} (hk : known h = true) {cnt : Nat} (hcnt : cnt ≤ 140737488355328) {H half : List Int} {bits3 : Int} {pad4 : Addr} :
    ∀ (d j n : Nat) (w : World), j + d = padZ (blk h) (2 * wordB h) cnt → d < n → StAt w e g 0 cs0 h cnt H half →
      ∃ w', digest_state_end_l0 K n ⟨g, 0, none⟩ bits3 pad4 ((1 + j : Nat) : Int) w = some ((((1 + padZ (blk h) (2 * wordB h) cnt : Nat) : Int), ()), w') ∧ Upd none_ w w' := by
  have hbp := blk_pos h
  have hw := wordB_blk h
  have hbk : blk h = 64 ∨ blk h = 128 := known_blk hk
  have hzl := padZ_lt (m := 2 * wordB h) (len := cnt) hbk
  intro d
  induction d with
  | zero =>
    intro j n w hj hn s
    obtain ⟨n, rfl⟩ : ∃ m, n = m + 1 := ⟨n - 1, by omega⟩
    have hj : j = padZ (blk h) (2 * wordB h) cnt := by omega
    obtain ⟨l1, l5, l3⟩ := s.drew.ld hk
    obtain ⟨l2, l0⟩ := s.drew.ld2 hk
    simp only [Nat.zero_add] at l1 l2 l5
    have eb : IntKind.u64.wrap ((blk h : Nat) : Int) = ((blk h : Nat) : Int) := by rw [IntKind.wrap_u64]; omega
    have hne : ((blk h : Nat) : Int) ≠ 0 := by omega
    have hat := Nat.mod_lt cnt hbp
    have ea : IntKind.i64.wrap (Int.tmod (cnt : Int) ((blk h : Nat) : Int)) = ((cnt % blk h : Nat) : Int) := by rw [tmod_nat, wn64 (by omega)]
    have e2 : IntKind.i64.wrap (2 * ((wordB h : Nat) : Int)) = ((2 * wordB h : Nat) : Int) := by rw [w64 (by omega) (by omega)]; omega
    have e3 : IntKind.i64.wrap (((cnt % blk h : Nat) : Int) + ((1 + j : Nat) : Int)) = ((cnt % blk h + (1 + j) : Nat) : Int) := by rw [w64 (by omega) (by omega)]; omega
    have e4 : IntKind.i64.wrap (((cnt % blk h + (1 + j) : Nat) : Int) + ((2 * wordB h : Nat) : Int)) = ((cnt % blk h + (1 + j) + 2 * wordB h : Nat) : Int) := by rw [w64 (by omega) (by omega)]; omega
    have hz := (padZ_spec (m := 2 * wordB h) (len := cnt) (j := j) hbk (by omega)).2 hj
    refine ⟨w.drew, ?_, (Upd.refl none_ w).drew⟩
    show digest_state_end_l0_b K (digest_state_end_l0 K n) ⟨g, 0, none⟩ bits3 pad4 ((1 + j : Nat) : Int) w = _
    unfold digest_state_end_l0_b
    simp only [add_lit, Nat.zero_add, Nat.add_zero]
    rw [l5, Option.bind_some, l1, Option.bind_some, eb, if_pos hne, l2, Option.bind_some, Option.bind_some, if_pos hne, ea, e2, e3, e4, tmod_nat, hz]
    rw [if_neg (by simp), hj]
  | succ d ih =>
    intro j n w hj hn s
    obtain ⟨n, rfl⟩ : ∃ m, n = m + 1 := ⟨n - 1, by omega⟩
    obtain ⟨l1, l5, l3⟩ := s.drew.ld hk
    obtain ⟨l2, l0⟩ := s.drew.ld2 hk
    simp only [Nat.zero_add] at l1 l2 l5
    have eb : IntKind.u64.wrap ((blk h : Nat) : Int) = ((blk h : Nat) : Int) := by rw [IntKind.wrap_u64]; omega
    have hne : ((blk h : Nat) : Int) ≠ 0 := by omega
    have hat := Nat.mod_lt cnt hbp
    have ea : IntKind.i64.wrap (Int.tmod (cnt : Int) ((blk h : Nat) : Int)) = ((cnt % blk h : Nat) : Int) := by rw [tmod_nat, wn64 (by omega)]
    have e2 : IntKind.i64.wrap (2 * ((wordB h : Nat) : Int)) = ((2 * wordB h : Nat) : Int) := by rw [w64 (by omega) (by omega)]; omega
    have e3 : IntKind.i64.wrap (((cnt % blk h : Nat) : Int) + ((1 + j : Nat) : Int)) = ((cnt % blk h + (1 + j) : Nat) : Int) := by rw [w64 (by omega) (by omega)]; omega
    have e4 : IntKind.i64.wrap (((cnt % blk h + (1 + j) : Nat) : Int) + ((2 * wordB h : Nat) : Int)) = ((cnt % blk h + (1 + j) + 2 * wordB h : Nat) : Int) := by rw [w64 (by omega) (by omega)]; omega
    have hz : ¬ (cnt % blk h + (1 + j) + 2 * wordB h) % blk h = 0 := fun e0 => by
      have := (padZ_spec (m := 2 * wordB h) (len := cnt) (j := j) hbk (by omega)).1 e0
      omega
    have e1 : IntKind.i64.wrap (((1 + j : Nat) : Int) + 1) = ((1 + (j + 1) : Nat) : Int) := by rw [w64 (by omega) (by omega)]; omega
    obtain ⟨w1, h1, u1⟩ := ih (j + 1) n w.drew (by omega) (by omega) s.drew
    refine ⟨w1, ?_, u1.predrew⟩
    show digest_state_end_l0_b K (digest_state_end_l0 K n) ⟨g, 0, none⟩ bits3 pad4 ((1 + j : Nat) : Int) w = _
    have hnz : ((((cnt % blk h + (1 + j) + 2 * wordB h) % blk h : Nat) : Int) != 0) = true := by rw [bne_iff_ne]; exact fun e0 => hz (Int.natCast_eq_zero.1 e0)
    unfold digest_state_end_l0_b
    simp only [add_lit, Nat.zero_add, Nat.add_zero]
    rw [l5, Option.bind_some, l1, Option.bind_some, eb, if_pos hne, l2, Option.bind_some, Option.bind_some, if_pos hne, ea, e2, e3, e4, tmod_nat, hnz, if_pos rfl, e1, h1]

theorem seg_cons {cs vs : List Value} {o : Nat} (h : o + 1 + vs.length ≤ cs.length) (v : Value) : (seg cs (o + 1) vs).set o v = seg cs o (v :: vs) := by
  apply List.ext_getElem?
  intro i
  rw [List.getElem?_set, seg_length h, seg_get h, seg_get (by simp; omega)]
  simp only [List.length_cons]
  by_cases h1 : o = i
  · subst h1
    rw [if_pos rfl, if_pos (by omega), if_neg (by omega), if_pos (by omega)]
    simp
  · rw [if_neg h1]
    by_cases h2 : i < o
    · rw [if_pos (by omega), if_pos h2]
    · rw [if_neg (by omega), if_neg h2]
      by_cases h3 : i < o + 1 + vs.length
      · rw [if_pos h3, if_pos (by omega), show i - o = (i - (o + 1)) + 1 by omega]; rfl
      · rw [if_neg h3, if_neg (by omega)]

theorem end_l1 (K : Nat) {s1 : Addr} {bits : Int} {gp n0 : Nat} {ep : TypeId} {ps : List Value} (hps : ps.length = 256) (hn8 : 8 ≤ n0) (hn0 : n0 ≤ 256) :
    ∀ (d i n : Nat) (w : World), i + d = 8 → d < n → Bk ep w gp (seg ps (n0 - i) (ints .u8 (bigB bits i))) →
      ∃ w', digest_state_end_l1 K n s1 bits ⟨gp, 0, none⟩ (n0 : Int) (i : Int) w = some ((), w') ∧ Bk ep w' gp (seg ps (n0 - 8) (ints .u8 (bigB bits 8))) ∧ Upd (· = gp) w w' := by
  intro d
  induction d with
  | zero =>
    intro i n w hi hn hb
    obtain ⟨n, rfl⟩ : ∃ m, n = m + 1 := ⟨n - 1, by omega⟩
    have : i = 8 := by omega
    subst this
    refine ⟨w, ?_, hb, Upd.refl _ _⟩
    show digest_state_end_l1_b K (digest_state_end_l1 K n) s1 bits ⟨gp, 0, none⟩ (n0 : Int) ((8 : Nat) : Int) w = _
    simp [digest_state_end_l1_b]
  | succ d ih =>
    intro i n w hi hn hb
    obtain ⟨n, rfl⟩ : ∃ m, n = m + 1 := ⟨n - 1, by omega⟩
    have hd : decide ((i : Int) < 8) = true := by simp; omega
    have e1 : IntKind.i64.wrap ((i : Int) + 1) = ((i + 1 : Nat) : Int) := by rw [w64 (by omega) (by omega)]; rfl
    have e8 : IntKind.i64.wrap (8 * (i : Int)) = ((8 * i : Nat) : Int) := by rw [w64 (by omega) (by omega)]; omega
    have en : IntKind.i64.wrap ((n0 : Int) - 1) = ((n0 - 1 : Nat) : Int) := by rw [w64 (by omega) (by omega)]; omega
    have eni : IntKind.i64.wrap (((n0 - 1 : Nat) : Int) - (i : Int)) = ((n0 - (i + 1) : Nat) : Int) := by rw [w64 (by omega) (by omega)]; omega
    have hmin : min (8 * i) IntKind.u64.bits = 8 * i := Nat.min_eq_left (by simp only [IntKind.bits]; omega)
    have c0 : (0 : Int) ≤ ((n0 - (i + 1) : Nat) : Int) ∧ ((n0 - (i + 1) : Nat) : Int) < ((256 : Nat) : Int) := by omega
    have hbl := bigB_len bits i
    obtain ⟨w1, s1', s2, s3⟩ := hb.stC (i := n0 - (i + 1)) (by rw [seg_length (by rw [ints_length, hbl]; omega)]; omega) (.int .u8 (IntKind.u8.wrap (Int.fdiv bits (2 ^ (8 * i)))))
    have hst : (seg ps (n0 - i) (ints .u8 (bigB bits i))).set (n0 - (i + 1)) (.int .u8 (IntKind.u8.wrap (Int.fdiv bits (2 ^ (8 * i))))) = seg ps (n0 - (i + 1)) (ints .u8 (bigB bits (i + 1))) := by
      have := seg_cons (cs := ps) (vs := ints .u8 (bigB bits i)) (o := n0 - (i + 1)) (by rw [ints_length, hbl]; omega) (.int .u8 (IntKind.u8.wrap (Int.fdiv bits (2 ^ (8 * i)))))
      rw [show n0 - (i + 1) + 1 = n0 - i by omega] at this
      rw [this]; rfl
    rw [hst] at s2
    obtain ⟨w2, h1, h2, h3⟩ := ih (i + 1) n w1 (by omega) (by omega) s2
    refine ⟨w2, ?_, h2, s3.trans' h3 fun _ _ e => e⟩
    show digest_state_end_l1_b K (digest_state_end_l1 K n) s1 bits ⟨gp, 0, none⟩ (n0 : Int) (i : Int) w = _
    unfold digest_state_end_l1_b
    rw [hd, if_pos rfl, e8, if_pos (Int.natCast_nonneg _), en, eni, if_pos c0]
    simp only [Int.toNat_natCast, add_lit, Nat.mul_one, Nat.zero_add]
    rw [hmin, s1', Option.bind_some, e1, h1]

/-- the bytes of words -/
def outW (H : List Int) (m : Nat) : Nat → List Int
  | 0 => []
  | i + 1 => outW H m i ++ bigB (H.getD i 0) m

theorem outW_len (H : List Int) (m : Nat) : ∀ i, (outW H m i).length = i * m
  | 0 => by simp [outW]
  | i + 1 => by simp [outW, outW_len H m i, bigB_len, Nat.succ_mul]

theorem end_l2 {K : Nat} (hK : 18446744073709551616 ≤ K) (B : Nat) {e : TypeId} {g : Nat} {cs0 : List Value} {h : Int} (hk : known h = true) {cnt : Nat} {H half X : List Int} (hX : X.length = 8) (hgB : g < B) :
    ∀ (d i n : Nat) (w : World) (s : Sl), i + d = 8 → d < n → StAt w e g 0 cs0 h cnt H half → Own 5 w s (ints .u8 (outW X (wordB h) i)) → B ≤ w.heap.size → Fresh B s →
      ∃ s' w', digest_state_end_l2 K n ⟨g, 0, none⟩ s (ints .u64 X).toArray (i : Int) w = some ((s', ()), w') ∧ Own 5 w' s' (ints .u8 (outW X (wordB h) 8)) ∧ Below B w w' ∧ Fresh B s' := by
  have hw := wordB_blk h
  intro d
  induction d with
  | zero =>
    intro i n w s hi hn st ho hB hf
    obtain ⟨n, rfl⟩ : ∃ m, n = m + 1 := ⟨n - 1, by omega⟩
    have : i = 8 := by omega
    subst this
    refine ⟨s, w, ?_, ho, Below.refl B w, hf⟩
    show digest_state_end_l2_b K (digest_state_end_l2 K n) ⟨g, 0, none⟩ s (ints .u64 X).toArray ((8 : Nat) : Int) w = _
    simp [digest_state_end_l2_b]
  | succ d ih =>
    intro i n w s hi hn st ho hB hf
    obtain ⟨n, rfl⟩ : ∃ m, n = m + 1 := ⟨n - 1, by omega⟩
    have hd : decide ((i : Int) < 8) = true := by simp; omega
    have e1 : IntKind.i64.wrap ((i : Int) + 1) = ((i + 1 : Nat) : Int) := by rw [w64 (by omega) (by omega)]; rfl
    have c0 : (0 : Int) ≤ (i : Int) ∧ (i : Int) < ((8 : Nat) : Int) := by omega
    have hxi : i < X.length := by omega
    have hg : (ints .u64 X).toArray[i]? = some (.int .u64 (X.getD i 0)) := by
      rw [List.getElem?_toArray]; simp [ints, List.getD_eq_getElem?_getD, hxi]
    obtain ⟨l2, l0⟩ := st.ld2 hk
    simp only [Nat.zero_add] at l2
    have hsl : s.len = i * wordB h := by rw [ho.len, ints_length, outW_len]
    have him : i * wordB h ≤ 7 * 8 := Nat.mul_le_mul (by omega) (by omega)
    obtain ⟨s2, w2, h2, o2, bl2, f2⟩ := big_ok hK (X.getD i 0) (m := wordB h) (by omega) ho (by omega) hB hf
    obtain ⟨s3, w3, h3, o3, bl3, f3⟩ := ih (i + 1) n w2 s2 (by omega) (by omega) (st.upd (upd_of_below bl2) (by omega)) o2 (by have := bl2.size; omega) f2
    refine ⟨s3, w3, ?_, o3, bl2.trans bl3, f3⟩
    show digest_state_end_l2_b K (digest_state_end_l2 K n) ⟨g, 0, none⟩ s (ints .u64 X).toArray (i : Int) w = _
    unfold digest_state_end_l2_b
    rw [hd, if_pos rfl, if_pos c0]
    simp only [Int.toNat_natCast, Nat.mul_one]
    rw [hg, Option.bind_some]
    simp only [asI, if_true, Option.bind_some, add_lit, Nat.zero_add, Nat.add_zero]
    rw [l2, Option.bind_some, h2, bnd_ok, e1, h3]

/-- what is put behind what is digested -/
def pads (h : Int) (len : Nat) : List Int := [128] ++ List.replicate (padZ (blk h) (2 * wordB h) len + (2 * wordB h - 8)) 0 ++ bigB (IntKind.u64.wrap ((len : Int) * 8)) 8

theorem pads_len (h : Int) (len : Nat) : (pads h len).length = 1 + padZ (blk h) (2 * wordB h) len + 2 * wordB h := by
  have := wordB_blk h
  simp [pads, bigB_len]; omega

theorem pads_whole (h : Int) (hk : known h = true) (xs : List Int) : (xs ++ pads h xs.length).length % blk h = 0 := by
  rw [List.length_append, pads_len]
  have := padZ_whole (m := 2 * wordB h) (len := xs.length) (known_blk hk)
  rw [← this]; congr 1; omega

theorem bigB_in (x : Int) : ∀ n, ∀ y ∈ bigB x n, InK .u8 y
  | 0, y, hy => by simp [bigB] at hy
  | n + 1, y, hy => by
    simp only [bigB, List.mem_cons] at hy
    rcases hy with rfl | hy
    · rw [IntKind.wrap_u8]; exact ⟨by omega, by simp only [IntKind.bits]; omega⟩
    · exact bigB_in x n y hy

theorem pads_in (h : Int) (len : Nat) : ∀ y ∈ pads h len, InK .u8 y := by
  intro y hy
  unfold pads at hy
  simp only [List.mem_append, List.mem_cons, List.not_mem_nil, or_false, List.mem_replicate] at hy
  rcases hy with (rfl | ⟨_, rfl⟩) | hy
  · exact ⟨by decide, by decide⟩
  · exact ⟨by decide, by decide⟩
  · exact bigB_in _ 8 y hy

/-- the digest of bytes -/
def digestOf (h : Int) (C H0 xs : List Int) : List Int := (outW (compsH h C ((xs ++ pads h xs.length).length / blk h) H0 (xs ++ pads h xs.length)) (wordB h) 8).take (h / 8).toNat

/-- a slice as it is answered: of new memory, no room behind it -/
structure Ans (B : Nat) (w : World) (s : Sl) (zs : List Int) : Prop where
  ex : ∃ g cs, s.a = some ⟨g, 0, none⟩ ∧ B ≤ g ∧ Bk 5 w g cs ∧ cs.take zs.length = ints .u8 zs ∧ zs.length ≤ cs.length
  len : s.len = zs.length
  cap : s.cap = zs.length

end Go.Sh

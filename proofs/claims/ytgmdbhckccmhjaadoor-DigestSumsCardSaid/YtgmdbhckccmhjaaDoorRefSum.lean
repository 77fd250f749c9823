/- The document's answer's Sum, whole: it is the digest that the program tells. -/
import Derived.Test.YtgmdbhckccmhjaaDoorSum
set_option linter.unusedVariables false
namespace Go.Sh
open Go.Fw Go.Sha Go.RowKit Go.Proofs.Tryd

theorem padZ_iff {b len j : Nat} (hb : b = 64 ∨ b = 128) (hj : j ≤ padZ b (b / 8) len) : (len + 1 + j + b / 8) % b = 0 ↔ j = padZ b (b / 8) len := by
  unfold padZ at *
  rcases hb with rfl | rfl <;> omega

theorem laid_l0 (K B : Nat) {b0 : Sl} {bk : Nat} (hb : bk = 64 ∨ bk = 128) {len0 : Nat} (hl0 : len0 ≤ 1099511627776) {zs : List Int} (hz : zs.length = len0 + 1) :
    ∀ (d j n : Nat) (w : World) (p : Sl), j + d = padZ bk (bk / 8) len0 → d < n → Own 5 w p (ints .u8 (zs ++ List.replicate j 0)) → B ≤ w.heap.size → Fresh B p →
      ∃ p' w', ref01_laid_l0 K n b0 (bk : Int) p w = some ((p', ()), w') ∧ Own 5 w' p' (ints .u8 (zs ++ List.replicate (padZ bk (bk / 8) len0) 0)) ∧ Below B w w' ∧ Fresh B p' := by
  have hzl := padZ_lt (m := bk / 8) (len := len0) hb
  have hbk : bk ≤ 128 := by omega
  have e0 : IntKind.i64.wrap (Int.tdiv (bk : Int) 8) = ((bk / 8 : Nat) : Int) := by rw [show (8 : Int) = ((8 : Nat) : Int) from rfl, tdiv_nat, wn64 (by omega)]
  intro d
  induction d with
  | zero =>
    intro j n w p hj hn ho hB hf
    obtain ⟨n, rfl⟩ : ∃ m, n = m + 1 := ⟨n - 1, by omega⟩
    have hpl : p.len = len0 + 1 + j := by rw [ho.len, ints_length, List.length_append, List.length_replicate]; omega
    have e1 : IntKind.i64.wrap (((p.len : Nat) : Int) + ((bk / 8 : Nat) : Int)) = ((len0 + 1 + j + bk / 8 : Nat) : Int) := by rw [hpl, w64 (by omega) (by omega)]; omega
    have hd : (Int.tmod ((len0 + 1 + j + bk / 8 : Nat) : Int) (bk : Int) != 0) = false := by
      rw [tmod_nat]
      have := (padZ_iff hb (by omega)).2 (show j = padZ bk (bk / 8) len0 by omega)
      rw [this]; rfl
    refine ⟨p, w, ?_, by rw [show padZ bk (bk / 8) len0 = j by omega]; exact ho, Below.refl B w, hf⟩
    show ref01_laid_l0_b K (ref01_laid_l0 K n) b0 (bk : Int) p w = _
    unfold ref01_laid_l0_b
    rw [if_pos (by omega), e0, e1, hd, if_neg (by decide)]
  | succ d ih =>
    intro j n w p hj hn ho hB hf
    obtain ⟨n, rfl⟩ : ∃ m, n = m + 1 := ⟨n - 1, by omega⟩
    have hpl : p.len = len0 + 1 + j := by rw [ho.len, ints_length, List.length_append, List.length_replicate]; omega
    have e1 : IntKind.i64.wrap (((p.len : Nat) : Int) + ((bk / 8 : Nat) : Int)) = ((len0 + 1 + j + bk / 8 : Nat) : Int) := by rw [hpl, w64 (by omega) (by omega)]; omega
    have hd : (Int.tmod ((len0 + 1 + j + bk / 8 : Nat) : Int) (bk : Int) != 0) = true := by
      rw [tmod_nat]
      have := (padZ_iff hb (show j ≤ padZ bk (bk / 8) len0 by omega)).1
      simp only [bne_iff_ne, ne_eq]
      intro e
      have := this (by omega)
      omega
    obtain ⟨w1, s2, w2, h1, h2, o2, l2, bl2, hf2⟩ := push1 0 ho (by omega) hB hf
    have er : zs ++ List.replicate j 0 ++ [(0 : Int)] = zs ++ List.replicate (j + 1) 0 := by rw [List.append_assoc, List.replicate_succ']
    rw [er] at o2
    obtain ⟨s3, w3, h3, o3, bl3, hf3⟩ := ih (j + 1) n w2 s2 (by omega) (by omega) o2 (by have := bl2.size; omega) hf2
    refine ⟨s3, w3, ?_, o3, bl2.trans bl3, hf3⟩
    show ref01_laid_l0_b K (ref01_laid_l0 K n) b0 (bk : Int) p w = _
    unfold ref01_laid_l0_b
    rw [if_pos (by omega), e0, e1, hd, if_pos rfl, h1, bnd_ok]
    show bnd (apd prog 25 25 (.slice p.a p.len p.cap) (.slice (some ⟨w.heap.size, 0, none⟩) 1 1) w1) _ = _
    rw [h2, bnd_ok, h3]

/-- the number of bits, in so many bytes -/
def tailB (x : Int) : Nat → List Int
  | 0 => []
  | n + 1 => (if n ≥ 8 then 0 else IntKind.u8.wrap (Int.fdiv x (2 ^ (8 * n)))) :: tailB x n

theorem tailB_len (x : Int) : ∀ n, (tailB x n).length = n
  | 0 => rfl
  | n + 1 => by simp [tailB, tailB_len x n]
theorem tailB_8 (x : Int) : tailB x 8 = bigB x 8 := rfl
theorem tailB_16 (x : Int) : tailB x 16 = List.replicate 8 0 ++ bigB x 8 := rfl

theorem laid_l1 (K B : Nat) {bits : Int} : ∀ (m n : Nat) (w : World) (p : Sl) (xs : List Int), m ≤ 16 → m < n → Own 5 w p (ints .u8 xs) → p.len + m ≤ 140737488355328 → B ≤ w.heap.size → Fresh B p →
    ∃ p' w', ref01_laid_l1 K n p bits ((m : Int) - 1) w = some ((p', ()), w') ∧ Own 5 w' p' (ints .u8 (xs ++ tailB bits m)) ∧ Below B w w' ∧ Fresh B p' := by
  intro m
  induction m with
  | zero =>
    intro n w s xs hm hn ho hs hB hf
    obtain ⟨n, rfl⟩ : ∃ k, n = k + 1 := ⟨n - 1, by omega⟩
    refine ⟨s, w, ?_, by simpa [tailB] using ho, Below.refl B w, hf⟩
    show ref01_laid_l1_b K (ref01_laid_l1 K n) s bits (((0 : Nat) : Int) - 1) w = _
    simp [ref01_laid_l1_b]
  | succ m ih =>
    intro n w s xs hm hn ho hs hB hf
    obtain ⟨n, rfl⟩ : ∃ k, n = k + 1 := ⟨n - 1, by omega⟩
    have e0 : (((m + 1 : Nat) : Int) - 1) = (m : Int) := by omega
    have hd : decide ((m : Int) ≥ 0) = true := by simp
    have e8 : IntKind.u64.wrap (IntKind.i64.wrap (8 * (m : Int))) = ((8 * m : Nat) : Int) := by rw [w64 (by omega) (by omega), IntKind.wrap_u64]; omega
    have e1 : IntKind.i64.wrap ((m : Int) - 1) = (m : Int) - 1 := w64 (by omega) (by omega)
    obtain ⟨w1, s2, w2, h1, h2, o2, l2, bl2, hf2⟩ := push1 (if m ≥ 8 then 0 else IntKind.u8.wrap (Int.fdiv bits (2 ^ (8 * m)))) ho (by omega) hB hf
    obtain ⟨s3, w3, h3, o3, bl3, hf3⟩ := ih n w2 s2 _ (by omega) (by omega) o2 (by omega) (by have := bl2.size; omega) hf2
    refine ⟨s3, w3, ?_, by simpa [tailB] using o3, bl2.trans bl3, hf3⟩
    show ref01_laid_l1_b K (ref01_laid_l1 K n) s bits (((m + 1 : Nat) : Int) - 1) w = _
    unfold ref01_laid_l1_b
    rw [e0, hd, if_pos rfl]
    by_cases h8 : m ≥ 8
    · have hd8 : decide ((m : Int) ≥ 8) = true := by simp; omega
      rw [if_pos h8] at h1
      rw [hd8, if_pos rfl, h1, bnd_ok]
      show bnd (apd prog 25 25 (.slice s.a s.len s.cap) (.slice (some ⟨w.heap.size, 0, none⟩) 1 1) w1) _ = _
      rw [h2, bnd_ok, e1, h3]
    · have hd8 : decide ((m : Int) ≥ 8) = false := by simp; omega
      have hmin : min (8 * m) IntKind.u64.bits = 8 * m := Nat.min_eq_left (by simp only [IntKind.bits]; omega)
      rw [if_neg h8] at h1
      rw [hd8, if_neg (by decide), e8, if_pos (Int.natCast_nonneg _), Int.toNat_natCast, hmin, h1, bnd_ok]
      show bnd (apd prog 25 25 (.slice s.a s.len s.cap) (.slice (some ⟨w.heap.size, 0, none⟩) 1 1) w1) _ = _
      rw [h2, bnd_ok, e1, h3]

theorem laid_ok {K : Nat} (hK : 18446744073709551616 ≤ K) {h : Int} (hk : known h = true) {w : World} {b : Sl} {xs : List Int} (hx : Src w b (ints .u8 xs)) (hl : xs.length ≤ 1099511627776) :
    ∃ p w', ref01_laid K b ((blk h : Nat) : Int) w = some ((p, ()), w') ∧ Own 5 w' p (ints .u8 (xs ++ pads h xs.length)) ∧ Upd none_ w w' ∧ Fresh w.heap.size p := by
  have hbl : b.len = xs.length := by rw [hx.len, ints_length]
  have hbk := known_blk hk
  have hwb := wordB_blk h
  have hzl := padZ_lt (m := blk h / 8) (len := xs.length) hbk
  obtain ⟨s1, w1, h1, l1, o1, u1, f1⟩ := apd_ok sliceB (Own.nil 5 w) hx (by show (0 + b.len) * 1 ≤ _; omega)
  rw [List.nil_append] at o1
  have h1 : apd prog 25 25 (.slice none 0 0) (.slice b.a b.len b.cap) w = some (s1, w1) := h1
  have u1' : Upd none_ w w1 := u1.mono fun k _ e => by cases e
  have hf1 : Fresh w.heap.size s1 := by
    intro k hk
    rcases f1 with e | e
    · rw [e] at hk; cases hk
    · rw [e] at hk; have := Option.some.inj hk; omega
  have l1 : s1.len = xs.length := by rw [o1.len, ints_length]
  obtain ⟨w2, s3, w3, h2, h3, o3, l3, bl3, hf3⟩ := push1 128 o1 (by omega) u1'.size hf1
  have hz : (xs ++ [(128 : Int)]).length = xs.length + 1 := by simp
  obtain ⟨s4, w4, h4, o4, bl4, hf4⟩ := laid_l0 K w.heap.size (b0 := b) hbk hl hz (padZ (blk h) (blk h / 8) xs.length) 0 K w3 s3 (by omega) (by omega) (by simpa using o3) (by have := bl3.size; have := u1'.size; omega) hf3
  have l4 : s4.len = xs.length + 1 + padZ (blk h) (blk h / 8) xs.length := by rw [o4.len, ints_length, List.length_append, List.length_replicate, hz]
  obtain ⟨s5, w5, h5, o5, bl5, hf5⟩ := laid_l1 K w.heap.size (bits := IntKind.u64.wrap (((xs.length : Nat) : Int) * 8)) (blk h / 8) K w4 s4 _ (by omega) (by omega) o4 (by omega) (by have := bl3.size; have := u1'.size; have := bl4.size; omega) hf4
  have b1 : Below w.heap.size w w1 := u1'.below (Nat.le_refl _) fun _ _ => id
  refine ⟨s5, w5, ?_, ?_, Upd.of_below (((b1.trans bl3).trans bl4).trans bl5), hf5⟩
  · have ed : IntKind.i64.wrap (Int.tdiv ((blk h : Nat) : Int) 8) = ((blk h / 8 : Nat) : Int) := by rw [show (8 : Int) = ((8 : Nat) : Int) from rfl, tdiv_nat, wn64 (by omega)]
    have em : IntKind.i64.wrap (((blk h / 8 : Nat) : Int) - 1) = ((blk h / 8 : Nat) : Int) - 1 := w64 (by omega) (by omega)
    have el : IntKind.u64.wrap ((b.len : Nat) : Int) = ((xs.length : Nat) : Int) := by rw [hbl, IntKind.wrap_u64]; omega
    unfold ref01_laid
    rw [h1, bnd_ok, h2, bnd_ok]
    dsimp only
    rw [h3, bnd_ok, h4, bnd_ok, ed, em, el, h5, bnd_ok]
  · have e8 : 2 * wordB h = blk h / 8 := by omega
    have : xs ++ pads h xs.length = xs ++ [128] ++ List.replicate (padZ (blk h) (blk h / 8) xs.length) 0 ++ tailB (IntKind.u64.wrap (((xs.length : Nat) : Int) * 8)) (blk h / 8) := by
      unfold pads
      rw [e8]
      rcases hbk with e | e <;> rw [e]
      · rw [show 64 / 8 = 8 from rfl, tailB_8]; simp [List.append_assoc]
      · rw [show 128 / 8 = 16 from rfl, tailB_16, show 16 - 8 = 8 from rfl, ← List.replicate_append_replicate]
        simp [List.append_assoc]
    rw [this]; exact o5

theorem refWide_l1 {K : Nat} (hK : 18446744073709551616 ≤ K) {p : Sl} {bs C : List Int} (hin : ∀ x ∈ bs, InK .u8 x) (hC : C.length = 80) {gh : Nat} (hgR : gh ≠ 1) (hlim : bs.length ≤ 140737488355328) {m0 : Nat} (hbs : bs.length = 128 * m0)
    (hpb : ∀ q, p.a = some q → q.block ≠ gh) {e : TypeId} :
    ∀ (m j n : Nat) (w : World) (V : List Int), m + j = m0 → m < n → V.length = 8 → (∀ q, p.a = some q → q.block < w.heap.size) → RdS .u8 w p bs → Bk e w gh (ints .u64 V) → Rd w ⟨1, 0, none⟩ (ints .u64 C) →
      ∃ w', ref01_Sum_l1 K n ⟨gh, 0, none⟩ p ((128 * j : Nat) : Int) w = some ((), w') ∧ Bk e w' gh (ints .u64 (comps64 C m V (bs.drop (128 * j)))) ∧ Upd (· = gh) w w' := by
  intro m
  induction m with
  | zero =>
    intro j n w V hj hn hV hpl hr hb hT
    obtain ⟨n, rfl⟩ : ∃ m, n = m + 1 := ⟨n - 1, by omega⟩
    refine ⟨w, ?_, hb, Upd.refl _ _⟩
    have hd : decide ((((128 * j : Nat)) : Int) < ((p.len : Nat) : Int)) = false := by rw [hr.len, hbs]; simp; omega
    show ref01_Sum_l1_b K (ref01_Sum_l1 K n) ⟨gh, 0, none⟩ p ((128 * j : Nat) : Int) w = _
    unfold ref01_Sum_l1_b
    rw [hd, if_neg (by decide)]
  | succ m ih =>
    intro j n w V hj hn hV hpl hr hb hT
    obtain ⟨n, rfl⟩ : ∃ m, n = m + 1 := ⟨n - 1, by omega⟩
    have hd : decide ((((128 * j : Nat)) : Int) < ((p.len : Nat) : Int)) = true := by rw [hr.len, hbs]; simp; omega
    have hpl2 := hr.len
    have hpc := hr.cap
    have e1 : IntKind.i64.wrap (((128 * j : Nat) : Int) + 128) = ((128 * (j + 1) : Nat) : Int) := by rw [w64 (by omega) (by omega)]; omega
    have c1 : (0 : Int) ≤ ((128 * (j + 1) : Nat) : Int) ∧ ((128 * (j + 1) : Nat) : Int) ≤ ((p.cap : Nat) : Int) := by omega
    have c2 : (0 : Int) ≤ ((128 * j : Nat) : Int) ∧ ((128 * j : Nat) : Int) ≤ ((128 * (j + 1) : Nat) : Int) := by omega
    have hsub := hr.drew.sub (lo := 128 * j) (hi := 128 * (j + 1)) (by omega) (by omega)
    have hl1 : ((bs.take (128 * (j + 1))).drop (128 * j)).length = 128 := by simp; omega
    have lA := hb.drew.ldA (i := 0) (n := 8) (by rw [ints_length, hV]; decide)
    rw [List.drop_zero, List.take_of_length_le (by rw [ints_length, hV]; decide)] at lA
    obtain ⟨w1, t1, u1⟩ := taken64_ok hK (V := V) (inD fun x hx => hin x (List.mem_of_mem_take (List.mem_of_mem_drop hx))) hl1 hV hC (fun q hq => by obtain ⟨r, hr1, hr2⟩ := sla_blk hq; have := hpl r hr1; rw [hr2]; exact this) hsub (hT.upd (S := none_) (Upd.refl _ _).drew fun _ => id)
    have hcl := comp64_len C V ((bs.take (128 * (j + 1))).drop (128 * j))
    obtain ⟨w2, s2, b2, u2⟩ := (hb.drew.upd0 u1).stA (o := 0) (vs := (ints .u64 (comp64 C V ((bs.take (128 * (j + 1))).drop (128 * j)))).toArray) (by rw [List.size_toArray, ints_length, ints_length, hcl, hV]; decide) (by simpa using ints_one)
    have b2 : Bk e w2 gh (ints .u64 (comp64 C V ((bs.take (128 * (j + 1))).drop (128 * j)))) := by
      have hs : seg (ints .u64 V) 0 (ints .u64 (comp64 C V ((bs.take (128 * (j + 1))).drop (128 * j)))) = ints .u64 (comp64 C V ((bs.take (128 * (j + 1))).drop (128 * j))) := seg_all (by rw [ints_length, ints_length, hcl, hV])
      rw [← hs]; exact b2
    have u12 : Upd (· = gh) w w2 := ((Upd.refl (· = gh) w).drew.and0 u1).trans' u2 fun _ _ e => e
    obtain ⟨w3, h3, b3, u3⟩ := ih (j + 1) n w2 _ (by omega) (by omega) hcl (fun q hq => by have := hpl q hq; have := u12.size; omega) (hr.upd u12 fun q hq => hpb q hq) b2 (hT.upd u12 fun _ e => hgR e.symm)
    have ec : comps64 C m (comp64 C V ((bs.take (128 * (j + 1))).drop (128 * j))) (bs.drop (128 * (j + 1))) = comps64 C (m + 1) V (bs.drop (128 * j)) := by
      have hf := compH_front 512 C V (bs.drop (128 * j)) 128 (by decide)
      have e5 : compH 512 C = comp64 C := by funext a b; rfl
      rw [e5] at hf
      show _ = comps64 C m (comp64 C V (bs.drop (128 * j))) ((bs.drop (128 * j)).drop 128)
      rw [List.drop_take, show 128 * (j + 1) - 128 * j = 128 by omega, hf, List.drop_drop, show 128 * j + 128 = 128 * (j + 1) by omega]
    rw [ec] at b3
    refine ⟨w3, ?_, b3, u12.trans' u3 fun _ _ e => e⟩
    show ref01_Sum_l1_b K (ref01_Sum_l1 K n) ⟨gh, 0, none⟩ p ((128 * j : Nat) : Int) w = _
    unfold ref01_Sum_l1_b
    rw [hd, if_pos rfl, e1, if_pos c1]
    simp only [Int.toNat_natCast]
    rw [if_pos c2, lA, Option.bind_some, t1, bnd_ok, if_pos (by rw [List.size_toArray, ints_length, hcl]), s2, Option.bind_some, h3]

theorem outW_take (H : List Int) (m : Nat) : ∀ k i, i ≤ k → (outW H m k).take (i * m) = outW H m i
  | 0, i, h => by have : i = 0 := by omega
                  subst this; simp [outW]
  | k + 1, i, h => by
    by_cases hk : i = k + 1
    · subst hk; rw [List.take_of_length_le (by rw [outW_len]; exact Nat.le_refl _)]
    · show ((outW H m k ++ bigB (H.getD k 0) m).take (i * m)) = _
      rw [List.take_append_of_le_length (by rw [outW_len]; exact Nat.mul_le_mul_right _ (by omega)), outW_take H m k i (by omega)]

theorem refOut_l3 (K B : Nat) {h : Int} {H : List Int} {gh : Nat} {e : TypeId} (hH : H.length = 8) (hgB : gh < B) {m0 i q : Nat} (hi : i < 8) (hq : sizeOfH h = (q : Int)) (hq2 : q ≤ 64) {n8 : Int} :
    ∀ (m n : Nat) (w : World) (s : Sl) (xs : List Int), m ≤ 8 → m < n → Bk e w gh (ints .u64 H) → Own 5 w s (ints .u8 xs) → xs.length + m ≤ q → B ≤ w.heap.size → Fresh B s →
      ∃ s' w', ref01_Sum_l3 K n h ⟨gh, 0, none⟩ n8 s (i : Int) ((m : Int) - 1) w = some ((s', ()), w') ∧ Own 5 w' s' (ints .u8 (xs ++ bigB (H.getD i 0) m)) ∧ Below B w w' ∧ Fresh B s' := by
  intro m
  induction m with
  | zero =>
    intro n w s xs hm hn hb ho hl hB hf
    obtain ⟨n, rfl⟩ : ∃ k, n = k + 1 := ⟨n - 1, by omega⟩
    refine ⟨s, w, ?_, by simpa [bigB] using ho, Below.refl B w, hf⟩
    show ref01_Sum_l3_b K (ref01_Sum_l3 K n) h ⟨gh, 0, none⟩ n8 s (i : Int) (((0 : Nat) : Int) - 1) w = _
    simp [ref01_Sum_l3_b, ref01_Sum_s4]
  | succ m ih =>
    intro n w s xs hm hn hb ho hl hB hf
    obtain ⟨n, rfl⟩ : ∃ k, n = k + 1 := ⟨n - 1, by omega⟩
    have hsl : s.len = xs.length := by rw [ho.len, ints_length]
    have e0 : (((m + 1 : Nat) : Int) - 1) = (m : Int) := by omega
    have hd : decide ((m : Int) ≥ 0) = true := by simp
    have hd2 : decide (((s.len : Nat) : Int) < (q : Int)) = true := by rw [hsl]; simp; omega
    have e8 : IntKind.u64.wrap (IntKind.i64.wrap (8 * (m : Int))) = ((8 * m : Nat) : Int) := by rw [w64 (by omega) (by omega), IntKind.wrap_u64]; omega
    have e1 : IntKind.i64.wrap ((m : Int) - 1) = (m : Int) - 1 := w64 (by omega) (by omega)
    have hmin : min (8 * m) IntKind.u64.bits = 8 * m := Nat.min_eq_left (by simp only [IntKind.bits]; omega)
    have c : (0 : Int) ≤ (i : Int) ∧ (i : Int) < ((8 : Nat) : Int) := by omega
    have lI : ldI .u64 ⟨gh, i, none⟩ w = some (H.getD i 0) := hb.ldI (by rw [ints_get (by omega)]; simp [List.getD_eq_getElem?_getD, show i < H.length by omega])
    obtain ⟨w1, s2, w2, h1, h2, o2, l2, bl2, hf2⟩ := push1 (IntKind.u8.wrap (Int.fdiv (H.getD i 0) (2 ^ (8 * m)))) ho (by omega) hB hf
    obtain ⟨s3, w3, h3, o3, bl3, hf3⟩ := ih n w2 s2 _ (by omega) (by omega) (hb.upd (upd_of_below bl2) (by omega)) o2 (by rw [List.length_append, List.length_singleton]; omega) (by have := bl2.size; omega) hf2
    refine ⟨s3, w3, ?_, by simpa [bigB] using o3, bl2.trans bl3, hf3⟩
    show ref01_Sum_l3_b K (ref01_Sum_l3 K n) h ⟨gh, 0, none⟩ n8 s (i : Int) (((m + 1 : Nat) : Int) - 1) w = _
    unfold ref01_Sum_l3_b ref01_Sum_s4
    rw [e0, hd, if_pos rfl, refSize_ok, Option.bind_some, hq, hd2, bnd_ok]
    dsimp only
    rw [if_pos rfl, if_pos c]
    simp only [Int.toNat_natCast, add_lit, Nat.mul_one, Nat.zero_add]
    rw [lI, Option.bind_some, e8, if_pos (Int.natCast_nonneg _), Int.toNat_natCast, hmin, h1, bnd_ok]
    dsimp only
    rw [h2, bnd_ok, e1, h3]

theorem refOut_l2 {K : Nat} (hK : 18446744073709551616 ≤ K) (B : Nat) {h : Int} {H : List Int} {gh : Nat} {e : TypeId} (hH : H.length = 8) (hgB : gh < B) {m0 i0 : Nat} (hm : 0 < m0) (hm8 : m0 ≤ 8) (hq : sizeOfH h = ((i0 * m0 : Nat) : Int)) (hi0 : i0 ≤ 8) (hq2 : i0 * m0 ≤ 64) :
    ∀ (d i n : Nat) (w : World) (s : Sl), i + d = i0 → d < n → Bk e w gh (ints .u64 H) → Own 5 w s (ints .u8 (outW H m0 i)) → B ≤ w.heap.size → Fresh B s →
      ∃ s' w', ref01_Sum_l2 K n h ⟨gh, 0, none⟩ (m0 : Int) s (i : Int) w = some ((s', ()), w') ∧ Own 5 w' s' (ints .u8 (outW H m0 i0)) ∧ Below B w w' ∧ Fresh B s' := by
  intro d
  induction d with
  | zero =>
    intro i n w s hi hn hb ho hB hf
    obtain ⟨n, rfl⟩ : ∃ k, n = k + 1 := ⟨n - 1, by omega⟩
    have hsl : s.len = i * m0 := by rw [ho.len, ints_length, outW_len]
    have hii : i = i0 := by omega
    subst hii
    have hd : decide (((s.len : Nat) : Int) < ((i * m0 : Nat) : Int)) = false := by rw [hsl]; simp
    refine ⟨s, w, ?_, ho, Below.refl B w, hf⟩
    show ref01_Sum_l2_b K (ref01_Sum_l2 K n) h ⟨gh, 0, none⟩ (m0 : Int) s (i : Int) w = _
    unfold ref01_Sum_l2_b
    rw [refSize_ok, Option.bind_some, hq, hd, if_neg (by decide)]
  | succ d ih =>
    intro i n w s hi hn hb ho hB hf
    obtain ⟨n, rfl⟩ : ∃ k, n = k + 1 := ⟨n - 1, by omega⟩
    have hsl : s.len = i * m0 := by rw [ho.len, ints_length, outW_len]
    have hlt : i * m0 + m0 ≤ i0 * m0 := by rw [← Nat.succ_mul]; exact Nat.mul_le_mul_right _ (by omega)
    have hd : decide (((s.len : Nat) : Int) < ((i0 * m0 : Nat) : Int)) = true := by rw [hsl]; simp only [decide_eq_true_eq]; omega
    have em : IntKind.i64.wrap ((m0 : Int) - 1) = (m0 : Int) - 1 := w64 (by omega) (by omega)
    have e1 : IntKind.i64.wrap ((i : Int) + 1) = ((i + 1 : Nat) : Int) := by rw [w64 (by omega) (by omega)]; rfl
    obtain ⟨s2, w2, h2, o2, bl2, hf2⟩ := refOut_l3 K B (h := h) hH hgB (m0 := m0) (i := i) (by omega) hq hq2 (n8 := (m0 : Int)) m0 K w s _ hm8 (by omega) hb ho (by rw [outW_len]; omega) hB hf
    obtain ⟨s3, w3, h3, o3, bl3, hf3⟩ := ih (i + 1) n w2 s2 (by omega) (by omega) (hb.upd (upd_of_below bl2) (by omega)) o2 (by have := bl2.size; omega) hf2
    refine ⟨s3, w3, ?_, o3, bl2.trans bl3, hf3⟩
    show ref01_Sum_l2_b K (ref01_Sum_l2 K n) h ⟨gh, 0, none⟩ (m0 : Int) s (i : Int) w = _
    unfold ref01_Sum_l2_b
    rw [refSize_ok, Option.bind_some, hq, hd, if_pos rfl, em, h2, bnd_ok, e1, h3]

theorem refSum_ok {K : Nat} (hK : 18446744073709551616 ≤ K) {h : Int} {C S : List Int} {w : World} (T : TabsR w C S) {b : Sl} {xs : List Int} (hx : Src w b (ints .u8 xs)) (hin : ∀ x ∈ xs, InK .u8 x) (hl : xs.length ≤ 1099511627776) :
    ∃ s' w', ref01_Sum K h b w = some ((s', ()), w') ∧ Own 5 w' s' (ints .u8 (sumOf C S h xs)) ∧ Upd none_ w w' ∧ Fresh w.heap.size s' := by
  unfold sumOf
  cases hk : known h with
  | false =>
    have hb0 : blockOfH h = 0 := by
      have q : h ≠ 224 ∧ h ≠ 256 ∧ h ≠ 384 ∧ h ≠ 512 := by simp [known] at hk; omega
      unfold blockOfH
      rw [if_neg (by omega), if_neg (by omega)]
    refine ⟨⟨none, 0, 0⟩, w, ?_, by simpa using Own.nil 5 w, Upd.refl _ _, fun k hk => by cases hk⟩
    unfold ref01_Sum
    rw [refBlock_ok, Option.bind_some, hb0]
    rfl
  | true =>
    have hb0 : blockOfH h = ((blk h : Nat) : Int) := by rcases known_cases hk with e | e | e | e <;> subst e <;> rfl
    have hbk := known_blk hk
    have hwb := wordB_blk h
    have hbp := blk_pos h
    obtain ⟨i0, hi0, hi8⟩ : ∃ i0 : Nat, sizeOfH h = ((i0 * wordB h : Nat) : Int) ∧ i0 ≤ 8 := by
      rcases known_cases hk with e | e | e | e <;> subst e
      · exact ⟨7, rfl, by decide⟩
      · exact ⟨8, rfl, by decide⟩
      · exact ⟨6, rfl, by decide⟩
      · exact ⟨8, rfl, by decide⟩
    have hsz : h / 8 = ((i0 * wordB h : Nat) : Int) := by rw [← hi0]; unfold sizeOfH; rw [if_pos hk]
    have hq2 : i0 * wordB h ≤ 64 := by
      have : i0 * wordB h ≤ 8 * 8 := Nat.mul_le_mul hi8 (by omega)
      omega
    obtain ⟨w1, h1, u1⟩ := refFirst_ok hK hk T.to.sl T.rs
    obtain ⟨w2, n2, b2, u2, z2⟩ := newB_ok z80 80 w1
    have b2 : Bk 80 w2 w1.heap.size z80.toList := b2
    have hfl : (ints .u64 (firstH S h)).length = 8 := by rw [ints_length, firstH_len]
    obtain ⟨w3, s3, b3, u3, _⟩ := lay' b2 (vs := ints .u64 (firstH S h)) (by rw [hfl]; rfl) ints_one
    have hz1 := u1.size
    have q3 : Upd none_ w w3 := (u1.and0 u2).trans' u3 fun k hk e => by omega
    have hz3 : w.heap.size ≤ w3.heap.size := q3.size
    have hxs3 := hx.upd0 q3
    obtain ⟨p, w4, h4, o4, u4, f4⟩ := laid_ok hK hk hxs3 hl
    have hlen := pads_len h xs.length
    have hzl := padZ_lt (m := 2 * wordB h) (len := xs.length) hbk
    have hin2 : ∀ x ∈ xs ++ pads h xs.length, InK .u8 x := fun x hx => (List.mem_append.1 hx).elim (hin x) (pads_in h _ x)
    have hpb : ∀ q, p.a = some q → q.block ≠ w1.heap.size := fun q hq e => by have := f4 q.block (by simp [Sl.blk, hq]); have := b3.lt; omega
    have hpl : ∀ q, p.a = some q → q.block < w4.heap.size := fun q hq => o4.lt (by simp [Sl.blk, hq])
    have b4 := b3.upd0 u4
    have T4 := T.upd0 (q3.and0 u4)
    have h4T := T.lt
    -- the words behind all blocks
    have key : ∃ w5, ref01_Sum_s0 K ⟨w1.heap.size, 0, none⟩ p ((IntKind.i64.wrap (Int.tdiv ((blk h : Nat) : Int) 16)) == 4) w4 = some ((), w5) ∧
        Bk 80 w5 w1.heap.size (ints .u64 (compsH h C ((xs ++ pads h xs.length).length / blk h) (firstH S h) (xs ++ pads h xs.length))) ∧ Upd (· = w1.heap.size) w4 w5 := by
      have hwhole := pads_whole h hk xs
      have hdm := Nat.div_add_mod (xs ++ pads h xs.length).length (blk h)
      obtain ⟨M, hM⟩ : ∃ M, (xs ++ pads h xs.length).length / blk h = M := ⟨_, rfl⟩
      rw [hwhole, hM, Nat.add_zero] at hdm
      rw [hM]
      have hlt : (xs ++ pads h xs.length).length ≤ 140737488355328 := by rw [List.length_append, hlen]; omega
      rcases hbk with e | e
      · have hn : narrowB h = true := by unfold blk at e; split at e <;> simp_all
        have hd : ((IntKind.i64.wrap (Int.tdiv ((blk h : Nat) : Int) 16)) == 4) = true := by rw [e]; rfl
        rw [e] at hdm
        obtain ⟨m, rfl⟩ : ∃ m, M = m + 1 := ⟨M - 1, by
          have : 0 < (xs ++ pads h xs.length).length := by rw [List.length_append, hlen]; omega
          omega⟩
        have lA := b4.ldA (i := 0) (n := 8) (by rw [hfl]; decide)
        rw [List.drop_zero, List.take_of_length_le (by rw [hfl]; decide)] at lA
        obtain ⟨w5, h5, u5⟩ := refNarrow_ok hK T.to.cl (firstH_len S h) hlt hdm.symm hpl o4.rd T4.rc
        have hcl := comps32_len C (m + 1) (firstH S h) (xs ++ pads h xs.length) (firstH_len S h)
        obtain ⟨w6, s6, b6, u6, _⟩ := lay' (b4.upd0 u5) (vs := ints .u64 (comps32 C (m + 1) (firstH S h) (xs ++ pads h xs.length))) (by rw [hfl, ints_length, hcl]) ints_one
        refine ⟨w6, ?_, ?_, (u5.mono fun _ _ e => e.elim).trans' u6 fun _ _ e => e⟩
        · unfold ref01_Sum_s0
          rw [hd, if_pos rfl, lA, Option.bind_some, h5, bnd_ok, if_pos (by rw [List.size_toArray, ints_length, hcl]), s6, Option.bind_some]
        · have : compsH h C (m + 1) (firstH S h) (xs ++ pads h xs.length) = comps32 C (m + 1) (firstH S h) (xs ++ pads h xs.length) := by unfold compsH; rw [if_pos hn]
          rw [this]; exact b6
      · have hn : ¬ narrowB h = true := by unfold blk at e; split at e <;> simp_all
        have hd : ((IntKind.i64.wrap (Int.tdiv ((blk h : Nat) : Int) 16)) == 4) = false := by rw [e]; rfl
        rw [e] at hdm
        obtain ⟨w5, h5, b5, u5⟩ := refWide_l1 hK hin2 T.to.cl (gh := w1.heap.size) (by omega) hlt hdm.symm hpb M 0 K w4 (firstH S h) (by omega) (by omega) (firstH_len S h) hpl o4.rd b4 T4.rc
        have h5 : ref01_Sum_l1 K K ⟨w1.heap.size, 0, none⟩ p 0 w4 = _ := h5
        rw [Nat.mul_zero, List.drop_zero] at b5
        refine ⟨w5, ?_, ?_, u5⟩
        · unfold ref01_Sum_s0
          rw [hd, if_neg (by decide), h5, bnd_ok]
        · have : compsH h C M (firstH S h) (xs ++ pads h xs.length) = comps64 C M (firstH S h) (xs ++ pads h xs.length) := by unfold compsH; rw [if_neg hn]
          rw [this]; exact b5
    obtain ⟨w5, h5, b5, u5⟩ := key
    have hcl := compsH_len h C ((xs ++ pads h xs.length).length / blk h) (firstH S h) (xs ++ pads h xs.length) (firstH_len S h)
    have hg5 : w1.heap.size < w5.heap.size := b5.lt
    obtain ⟨s6, w6, h6, o6, bl6, f6⟩ := refOut_l2 hK w5.heap.size hcl hg5 (by omega) (by omega) hi0 hi8 hq2 i0 0 K w5 ⟨none, 0, 0⟩ (by omega) (by omega) b5 (by simpa [outW] using Own.nil 5 w5) (Nat.le_refl _) (fun k hk => by cases hk)
    have h6 : ref01_Sum_l2 K K h ⟨w1.heap.size, 0, none⟩ ((wordB h : Nat) : Int) ⟨none, 0, 0⟩ 0 w5 = _ := h6
    have q5 : Upd none_ w w5 := (q3.and0 u4).trans' u5 fun k hk e => by omega
    have hz5 := q5.size
    refine ⟨s6, w6, ?_, ?_, q5.and0 (Upd.of_below bl6), fun k hk => by have := f6 k hk; omega⟩
    · have en : IntKind.i64.wrap (Int.tdiv ((blk h : Nat) : Int) 16) = ((wordB h : Nat) : Int) := by
        rw [show (16 : Int) = ((16 : Nat) : Int) from rfl, tdiv_nat, wn64 (by omega)]; omega
      have hne : (((blk h : Nat) : Int) == 0) = false := by simp; omega
      unfold ref01_Sum
      rw [refBlock_ok, Option.bind_some, hb0]
      dsimp only
      rw [hne, if_neg (by decide), h1, bnd_ok, n2, bnd_ok]
      dsimp only
      rw [if_pos (by rw [List.size_toArray, hfl]), s3, Option.bind_some, h4, bnd_ok, h5, bnd_ok, en, h6, bnd_ok]
    · rw [if_pos rfl]
      unfold digestOf
      rw [hsz, Int.toNat_natCast, outW_take _ _ 8 i0 hi8]; exact o6

end Go.Sh

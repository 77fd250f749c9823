/- 'cofferlaw11.EscrowWords': what the walk computes. -/
import Derived.Test.YteomkfcfhlljkaaBookC
import Derived.Test.YteomkfcfhlljkaaFwP
set_option linter.unusedVariables false
namespace Go.Sh
open Go.Fw Go.RowKit Go.Proofs.Try

def letC (k : Nat) : Int := (((str1[k]?).getD 0).toNat : Int)
def letV (k : Nat) : Int := (((str2[k]?).getD 0).toNat : Int)

theorem letC_at {k : Nat} (h : k < 16) : ∃ b : UInt8, str1[k]? = some b ∧ ((b.toNat : Nat) : Int) = letC k := by
  have : k < str1.size := h
  exact ⟨str1[k], getElem?_pos str1 k this, by rw [letC, getElem?_pos str1 k this]; rfl⟩
theorem letV_at {k : Nat} (h : k < 4) : ∃ b : UInt8, str2[k]? = some b ∧ ((b.toNat : Nat) : Int) = letV k := by
  have : k < str2.size := h
  exact ⟨str2[k], getElem?_pos str2 k this, by rw [letV, getElem?_pos str2 k this]; rfl⟩

/-- the letters of a number of sixteen bits -/
def five (v : Nat) : List Int := [letC (v / 4096), letV (v / 1024 % 4), letC (v / 64 % 16), letV (v / 16 % 4), letC (v % 16)]

def wordsL (bs : List Nat) : Nat → Nat → List Int → List Int
  | 0, _, acc => acc
  | d + 1, i, acc => if i + 1 < bs.length then wordsL bs d (i + 2) (acc ++ (if 0 < i then [32] else []) ++ five (bs.getD i 0 * 256 + bs.getD (i + 1) 0)) else acc

theorem five_len (v : Nat) : (five v).length = 5 := rfl

theorem word_v {a b : Nat} (ha : a < 256) (hb : b < 256) : bits .or .i64 (IntKind.i64.wrap ((IntKind.i64.wrap (a : Int)) * 2 ^ 8)) (IntKind.i64.wrap (b : Int)) = ((a * 256 + b : Nat) : Int) := by
  rw [wn64 (by omega), wn64 (by omega)]
  have e : ((a : Nat) : Int) * 2 ^ 8 = ((a * 2 ^ 8 : Nat) : Int) := by simp
  rw [e, wn64 (by omega), or_i64 (by omega) 8 (by decide) (by omega)]

theorem word_w {a b : Nat} (ha : a < 256) (hb : b < 256) : IntKind.i64.wrap ((IntKind.i64.wrap ((IntKind.i64.wrap (a : Int)) * 256)) + (IntKind.i64.wrap (b : Int))) = ((a * 256 + b : Nat) : Int) := by
  rw [wn64 (by omega), wn64 (by omega)]
  have e : ((a : Nat) : Int) * 256 = ((a * 256 : Nat) : Int) := by simp
  rw [e, wn64 (by omega)]
  have e : ((a * 256 : Nat) : Int) + (b : Int) = ((a * 256 + b : Nat) : Int) := by simp
  rw [e, wn64 (by omega)]

theorem Words_space (K B : Nat) {s : Sl} {acc : List Int} {w : World} (i : Nat) (ho : Own 5 w s (ints .u8 acc)) (ha : acc.length ≤ 4398046511104) (hB : B ≤ w.heap.size) (hf : Fresh B s) :
    ∃ s' w', escrow_Words_s1 K s (decide ((i : Int) > 0)) w = some ((s', ()), w') ∧ Own 5 w' s' (ints .u8 (acc ++ if 0 < i then [32] else [])) ∧ Below B w w' ∧ Fresh B s' := by
  have hl : s.len = acc.length := by rw [ho.len]; simp
  by_cases hi : 0 < i
  · obtain ⟨w1, h1, o1, u1, z1⟩ := bldS_ok sliceB (ints .u8 [32]) (by simp [ints, Value.cells]) (by simp) (by simp) w
    obtain ⟨s2, w2, h2, l2, o2, u2, b2⟩ := apd_ok sliceB (ho.upd0 u1) (o1.src ints_one) (by show (s.len + 1) * 1 ≤ _; omega)
    rw [← ints_append] at o2
    have bl1 : Below B w w1 := u1.below hB fun _ _ => id
    refine ⟨s2, w2, ?_, by simpa [hi] using o2, below_upd bl1 u2 (by omega) fun k hk e => (by have := hf k e; omega), ?_⟩
    · have hd : decide ((i : Int) > 0) = true := by simp; omega
      have h1' : bldS prog 25 1 #[(0, (.int .u8 32))] w = _ := h1
      have h2' : apd prog 25 25 (.slice s.a s.len s.cap) (.slice (some ⟨w.heap.size, 0, none⟩) 1 1) w1 = _ := h2
      unfold escrow_Words_s1
      rw [hd, if_pos rfl, h1', bnd_ok]
      show bnd (apd prog 25 25 (.slice s.a s.len s.cap) (.slice (some ⟨w.heap.size, 0, none⟩) 1 1) w1) _ = _
      rw [h2', bnd_ok]
    · intro k hk
      rcases b2 with e | e
      · exact hf k (e ▸ hk)
      · rw [e] at hk; have := Option.some.inj hk; omega
  · refine ⟨s, w, ?_, by simpa [hi] using ho, Below.refl B w, hf⟩
    have hd : decide ((i : Int) > 0) = false := by simp; omega
    unfold escrow_Words_s1
    rw [hd, if_neg (by decide)]

theorem Words_loop (K B : Nat) {b : Sl} {bs : List Nat} (hb : ∀ x ∈ bs, x < 256) (hs : bs.length ≤ 1099511627776) :
    ∀ (d i n : Nat) (w : World) (s : Sl) (acc : List Int), bs.length ≤ i + d → i ≤ bs.length + 1 → d + 1 < n → RdS .u8 w b (bs.map Int.ofNat) → (∀ p, b.a = some p → p.block < B) → Own 5 w s (ints .u8 acc) → acc.length ≤ 3 * i → B ≤ w.heap.size → Fresh B s →
      ∃ s' w', escrow_Words_l0 K n b s (i : Int) w = some ((s', ()), w') ∧ Own 5 w' s' (ints .u8 (wordsL bs (d + 1) i acc)) ∧ Below B w w' := by
  intro d
  induction d using Nat.strongRecOn with
  | _ d ih =>
  intro i n w s acc hd hib hn hr hp ho ha hB hf
  obtain ⟨n, rfl⟩ : ∃ m, n = m + 1 := ⟨n - 1, by omega⟩
  have hlen : (bs.map Int.ofNat).length = bs.length := List.length_map ..
  have hw1 : IntKind.i64.wrap ((i : Int) + 1) = ((i + 1 : Nat) : Int) := by rw [w64 (by omega) (by omega)]; rfl
  have hw2 : IntKind.i64.wrap ((i : Int) + 2) = ((i + 2 : Nat) : Int) := by rw [w64 (by omega) (by omega)]; rfl
  by_cases hc : i + 1 < bs.length
  · have i1 : i < bs.length := by omega
    obtain ⟨s1, w1, h1, o1, bl1, hf1⟩ := Words_space K B i ho (by omega) hB hf
    have hr1 := (hr.belowB bl1 hp).drew
    obtain ⟨p, hpa, hpl⟩ := hr1.ld
    have hne : bs.map Int.ofNat ≠ [] := by intro e; have := congrArg List.length e; simp at this; subst this; simp at i1
    have hA : bs[i] < 256 := hb _ (List.getElem_mem i1)
    have hC : bs[i + 1] < 256 := hb _ (List.getElem_mem hc)
    have l1 : ldI .u8 (p.add i) w1.drew = some ((bs[i] : Nat) : Int) := by have := hpl i (by omega); simpa using this
    have l2 : ldI .u8 (p.add (i + 1)) w1.drew = some ((bs[i + 1] : Nat) : Int) := by have := hpl (i + 1) (by omega); simpa using this
    have hv : bs.getD i 0 * 256 + bs.getD (i + 1) 0 = bs[i] * 256 + bs[i + 1] := by
      rw [List.getD_eq_getElem?_getD, List.getD_eq_getElem?_getD, List.getElem?_eq_getElem i1, List.getElem?_eq_getElem hc]; rfl
    obtain ⟨v, hvv⟩ : ∃ v, bs[i] * 256 + bs[i + 1] = v := ⟨_, rfl⟩
    rw [hvv] at hv
    have hv16 : v < 65536 := by omega
    obtain ⟨c1, e1, d1⟩ := letC_at (k := v / 2 ^ 12) (by omega)
    obtain ⟨c2, e2, d2⟩ := letV_at (k := v / 2 ^ 10 % 4) (by omega)
    obtain ⟨c3, e3, d3⟩ := letC_at (k := v / 2 ^ 6 % 16) (by omega)
    obtain ⟨c4, e4, d4⟩ := letV_at (k := v / 2 ^ 4 % 4) (by omega)
    obtain ⟨c5, e5, d5⟩ := letC_at (k := v % 16) (by omega)
    obtain ⟨w2, h2, o2, u2, z2⟩ := bldS_ok sliceB (ints .u8 (five v)) (by simp [ints, five, Value.cells]) (by simp [five]) (by simp [five]) w1.drew.drew
    have hl1 : s1.len ≤ acc.length + 1 := by rw [o1.len]; simp; split <;> simp
    obtain ⟨s3, w3, h3, l3, o3, u3, b3⟩ := apd_ok sliceB (o1.drew.drew.upd0 u2) (o2.src ints_one) (by show (s1.len + 5) * 1 ≤ _; omega)
    rw [← ints_append] at o3
    have bl2 : Below B w w2 := bl1.trans ((Below.refl B w1).drew.drew.trans (u2.below (by have := bl1.size; exact Nat.le_trans hB this) fun _ _ => id))
    have bl3 : Below B w w3 := below_upd bl2 u3 (by have := bl2.size; omega) fun k hk e => (by have := hf1 k e; omega)
    have hf3 : Fresh B s3 := by
      intro k hk
      rcases b3 with e | e
      · exact hf1 k (e ▸ hk)
      · rw [e] at hk; have := Option.some.inj hk; have := bl2.size; omega
    obtain ⟨d', rfl⟩ : ∃ m, d = m + 1 := ⟨d - 1, by omega⟩
    obtain ⟨s4, w4, h4, o4, bl4⟩ := ih d' (by omega) (i + 2) n w3 s3 (acc ++ (if 0 < i then [32] else []) ++ five v) (by omega) (by omega) (by omega) (hr.belowB bl3 hp) hp o3
      (by simp [five_len]; split <;> simp <;> omega) (by have := bl3.size; omega) hf3
    refine ⟨s4, w4, ?_, ?_, bl3.trans bl4⟩
    · show escrow_Words_l0_b K (escrow_Words_l0 K n) b s (i : Int) w = _
      unfold escrow_Words_l0_b
      have k1 : decide (((i + 1 : Nat) : Int) < ((bs.length : Nat) : Int)) = true := by simp; omega
      have k2 : (0 : Int) ≤ (i : Int) ∧ (i : Int) < ((bs.length : Nat) : Int) := by omega
      have k3 : (0 : Int) ≤ ((i + 1 : Nat) : Int) ∧ ((i + 1 : Nat) : Int) < ((bs.length : Nat) : Int) := by omega
      have h2' : bldS prog 25 5 #[(0, (.int .u8 (letC (v / 2 ^ 12)))), (1, (.int .u8 (letV (v / 2 ^ 10 % 4)))), (2, (.int .u8 (letC (v / 2 ^ 6 % 16)))), (3, (.int .u8 (letV (v / 2 ^ 4 % 4)))), (4, (.int .u8 (letC (v % 16))))] w1.drew.drew = _ := h2
      have h3' : apd prog 25 25 (.slice s1.a s1.len s1.cap) (.slice (some ⟨w1.drew.drew.heap.size, 0, none⟩) 5 5) w2 = _ := h3
      rw [hw1, hr.len, hlen, k1, if_pos rfl, h1, bnd_ok, hpa hne, Option.bind_some, if_pos k2, Option.bind_some, if_pos k3]
      simp only [Int.toNat_natCast, Nat.mul_one, l1, l2, Option.bind_some, word_v hA hC, hvv, fdiv_pow]
      rw [and3_i64 (by omega), and15_i64 (by omega), and3_i64 (by omega), and15_i64 (by omega)]
      simp only [Int.toNat_natCast, e1, e2, e3, e4, e5, Option.bind_some, d1, d2, d3, d4, d5, Int.natCast_nonneg, if_true]
      rw [h2', bnd_ok]
      show bnd (apd prog 25 25 (.slice s1.a s1.len s1.cap) (.slice (some ⟨w1.drew.drew.heap.size, 0, none⟩) 5 5) w2) _ = _
      rw [h3', bnd_ok, hw2, h4]
    · rw [wordsL, if_pos hc, hv]; exact o4
  · refine ⟨s, w, ?_, ?_, Below.refl B w⟩
    · show escrow_Words_l0_b K (escrow_Words_l0 K n) b s (i : Int) w = _
      unfold escrow_Words_l0_b
      rw [hw1, hr.len, hlen, if_neg (by simp; omega)]
    · simp only [wordsL, hc, if_false]; exact ho

theorem ref_space (K : Nat) {acc : List Int} {w : World} (i : Nat) (ha : acc.length ≤ 4398046511104) :
    ref11_Words_s1 K (bytesOf acc) (decide ((i : Int) > 0)) w = some ((bytesOf (acc ++ if 0 < i then [32] else []), ()), w) := by
  by_cases hi : 0 < i
  · have hd : decide ((i : Int) > 0) = true := by simp; omega
    have h3 : str3 = bytesOf [32] := rfl
    unfold ref11_Words_s1
    rw [hd, if_pos rfl, h3, bop_add_str _ _ _ _ (by rw [bytesOf_size, bytesOf_size]; simp; omega), bnd_ok]
    simp [asStr, hi, bytesOf_append]
  · have hd : decide ((i : Int) > 0) = false := by simp; omega
    unfold ref11_Words_s1
    rw [hd, if_neg (by decide)]
    simp [hi]

theorem ref_loop (K : Nat) {b : Sl} {bs : List Nat} (hb : ∀ x ∈ bs, x < 256) (hs : bs.length ≤ 1099511627776) :
    ∀ (d i n : Nat) (w : World) (acc : List Int), bs.length ≤ i + d → i ≤ bs.length + 1 → d + 1 < n → RdS .u8 w b (bs.map Int.ofNat) → acc.length ≤ 3 * i →
      ∃ w', ref11_Words_l0 K n b (bytesOf acc) (i : Int) w = some ((bytesOf (wordsL bs (d + 1) i acc), ()), w') ∧ Upd none_ w w' := by
  intro d
  induction d using Nat.strongRecOn with
  | _ d ih =>
  intro i n w acc hd hib hn hr ha
  obtain ⟨n, rfl⟩ : ∃ m, n = m + 1 := ⟨n - 1, by omega⟩
  have hlen : (bs.map Int.ofNat).length = bs.length := List.length_map ..
  have hw1 : IntKind.i64.wrap ((i : Int) + 1) = ((i + 1 : Nat) : Int) := by rw [w64 (by omega) (by omega)]; rfl
  have hw2 : IntKind.i64.wrap ((i : Int) + 2) = ((i + 2 : Nat) : Int) := by rw [w64 (by omega) (by omega)]; rfl
  by_cases hc : i + 1 < bs.length
  · have i1 : i < bs.length := by omega
    have hr1 := hr.drew
    obtain ⟨p, hpa, hpl⟩ := hr1.ld
    have hne : bs.map Int.ofNat ≠ [] := by intro e; have := congrArg List.length e; simp at this; subst this; simp at i1
    have hA : bs[i] < 256 := hb _ (List.getElem_mem i1)
    have hC : bs[i + 1] < 256 := hb _ (List.getElem_mem hc)
    have l1 : ldI .u8 (p.add i) w.drew = some ((bs[i] : Nat) : Int) := by have := hpl i (by omega); simpa using this
    have l2 : ldI .u8 (p.add (i + 1)) w.drew = some ((bs[i + 1] : Nat) : Int) := by have := hpl (i + 1) (by omega); simpa using this
    have hv : bs.getD i 0 * 256 + bs.getD (i + 1) 0 = bs[i] * 256 + bs[i + 1] := by
      rw [List.getD_eq_getElem?_getD, List.getD_eq_getElem?_getD, List.getElem?_eq_getElem i1, List.getElem?_eq_getElem hc]; rfl
    obtain ⟨v, hvv⟩ : ∃ v, bs[i] * 256 + bs[i + 1] = v := ⟨_, rfl⟩
    rw [hvv] at hv
    have hv16 : v < 65536 := by omega
    obtain ⟨c1, e1, d1⟩ := letC_at (k := v / 4096) (by omega)
    obtain ⟨c2, e2, d2⟩ := letV_at (k := v / 1024 % 4) (by omega)
    obtain ⟨c3, e3, d3⟩ := letC_at (k := v / 64 % 16) (by omega)
    obtain ⟨c4, e4, d4⟩ := letV_at (k := v / 16 % 4) (by omega)
    obtain ⟨c5, e5, d5⟩ := letC_at (k := v % 16) (by omega)
    obtain ⟨w2, h2, o2, u2, z2⟩ := bldS_ok sliceB (ints .u8 (five v)) (by simp [ints, five, Value.cells]) (by simp [five]) (by simp [five]) w.drew.drew
    have hal : (acc ++ if 0 < i then [32] else [] : List Int).length ≤ acc.length + 1 := by split <;> simp
    obtain ⟨d', rfl⟩ : ∃ m, d = m + 1 := ⟨d - 1, by omega⟩
    obtain ⟨w4, h4, u4⟩ := ih d' (by omega) (i + 2) n w2 (acc ++ (if 0 < i then [32] else []) ++ five v) (by omega) (by omega) (by omega) (hr.drew.drew.upd0 u2)
      (by simp [five_len]; split <;> simp <;> omega)
    refine ⟨w4, ?_, u2.predrew.predrew.and0 u4⟩
    · show ref11_Words_l0_b K (ref11_Words_l0 K n) b (bytesOf acc) (i : Int) w = _
      unfold ref11_Words_l0_b
      have k1 : decide (((i + 1 : Nat) : Int) < ((bs.length : Nat) : Int)) = true := by simp; omega
      have k2 : (0 : Int) ≤ (i : Int) ∧ (i : Int) < ((bs.length : Nat) : Int) := by omega
      have k3 : (0 : Int) ≤ ((i + 1 : Nat) : Int) ∧ ((i + 1 : Nat) : Int) < ((bs.length : Nat) : Int) := by omega
      have h2' : bldS prog 25 5 #[(0, (.int .u8 (letC (v / 4096)))), (1, (.int .u8 (letV (v / 1024 % 4)))), (2, (.int .u8 (letC (v / 64 % 16)))), (3, (.int .u8 (letV (v / 16 % 4)))), (4, (.int .u8 (letC (v % 16))))] w.drew.drew = _ := h2
      have t1 : Int.tdiv (v : Int) 4096 = ((v / 4096 : Nat) : Int) := tdiv_nat v 4096
      have t2 : Int.tdiv (v : Int) 1024 = ((v / 1024 : Nat) : Int) := tdiv_nat v 1024
      have t3 : Int.tdiv (v : Int) 64 = ((v / 64 : Nat) : Int) := tdiv_nat v 64
      have t4 : Int.tdiv (v : Int) 16 = ((v / 16 : Nat) : Int) := tdiv_nat v 16
      have m2 : Int.tmod ((v / 1024 : Nat) : Int) 4 = ((v / 1024 % 4 : Nat) : Int) := tmod_nat (v / 1024) 4
      have m3 : Int.tmod ((v / 64 : Nat) : Int) 16 = ((v / 64 % 16 : Nat) : Int) := tmod_nat (v / 64) 16
      have m4 : Int.tmod ((v / 16 : Nat) : Int) 4 = ((v / 16 % 4 : Nat) : Int) := tmod_nat (v / 16) 4
      have m5 : Int.tmod (v : Int) 16 = ((v % 16 : Nat) : Int) := tmod_nat v 16
      have n1 : IntKind.i64.wrap ((v / 4096 : Nat) : Int) = ((v / 4096 : Nat) : Int) := wn64 (by omega)
      have n2 : IntKind.i64.wrap ((v / 1024 : Nat) : Int) = ((v / 1024 : Nat) : Int) := wn64 (by omega)
      have n3 : IntKind.i64.wrap ((v / 64 : Nat) : Int) = ((v / 64 : Nat) : Int) := wn64 (by omega)
      have n4 : IntKind.i64.wrap ((v / 16 : Nat) : Int) = ((v / 16 : Nat) : Int) := wn64 (by omega)
      rw [hw1, hr.len, hlen, k1, if_pos rfl, hpa hne, Option.bind_some, if_pos k2, Option.bind_some, if_pos k3]
      simp only [Int.toNat_natCast, Nat.mul_one, l1, l2, Option.bind_some, word_w hA hC, hvv]
      simp only [t1, t2, t3, t4, n1, n2, n3, n4, m2, m3, m4, m5, Int.toNat_natCast, e1, e2, e3, e4, e5, Option.bind_some, d1, d2, d3, d4, d5, Int.natCast_nonneg, if_true]
      rw [h2', bnd_ok, ref_space K i (by omega), bnd_ok]
      have hb5 : b2s prog (some ⟨w.drew.drew.heap.size, 0, none⟩) 5 5 w2 = some (bytesOf (five v), w2) := b2s_ok o2.rd
      show bnd (b2s prog (some ⟨w.drew.drew.heap.size, 0, none⟩) 5 5 w2) _ = _
      rw [hb5, bnd_ok, bop_add_str _ _ _ _ (by rw [bytesOf_size, bytesOf_size, five_len]; omega), bnd_ok]
      simp only [asStr, Option.bind_some]
      have hW : wordsL bs (d' + 1 + 1) i acc = wordsL bs (d' + 1) (i + 2) (acc ++ (if 0 < i then [32] else []) ++ five v) := by rw [wordsL, if_pos hc, hv]
      rw [← bytesOf_append, hw2, h4, hW]
  · refine ⟨w, ?_, Upd.refl _ w⟩
    show ref11_Words_l0_b K (ref11_Words_l0 K n) b (bytesOf acc) (i : Int) w = _
    unfold ref11_Words_l0_b
    rw [hw1, hr.len, hlen, if_neg (by simp; omega)]
    simp only [wordsL, hc, if_false]

theorem nats {xs : List Int} (h : ∀ x ∈ xs, InK .u8 x) : ∃ bs : List Nat, xs = bs.map Int.ofNat ∧ ∀ x ∈ bs, x < 256 := by
  induction xs with
  | nil => exact ⟨[], rfl, fun _ h => by simp at h⟩
  | cons x r ih =>
    obtain ⟨bs, h1, h2⟩ := ih fun y hy => h y (List.mem_cons_of_mem _ hy)
    obtain ⟨n, h3, h4⟩ := (h x (List.mem_cons_self ..)).nat
    refine ⟨n :: bs, by rw [h1, h3]; rfl, fun y hy => ?_⟩
    rcases List.mem_cons.1 hy with rfl | hy
    · exact h4
    · exact h2 y hy

theorem EscrowWords_ok {K : Nat} (hK : 18446744073709551616 ≤ K) {b : Sl} {xs : List Int} {w : World} (hx : ∀ x ∈ xs, InK .u8 x) (hb : Src w b (ints .u8 xs)) (hl : xs.length ≤ 140737488351232) :
    ∃ w', law11_EscrowWords K b w = some ((true, ()), w') ∧ Upd none_ w w' := by
  -- what is cut off
  obtain ⟨c, ys, h0, hc, hy, hyl⟩ : ∃ c ys, law11_cut b 3000 = some (c, ()) ∧ Src w c (ints .u8 ys) ∧ (∀ x ∈ ys, InK .u8 x) ∧ ys.length ≤ 3000 := by
    have hlen : b.len = xs.length := by simpa using hb.len
    by_cases h : xs.length > 3000
    · refine ⟨⟨b.a, 3000, b.cap⟩, xs.take 3000, ?_, ?_, fun x hx' => hx x (List.mem_of_mem_take hx'), by simp; omega⟩
      · have hcap := hb.cap
        have k1 : decide (((b.len : Nat) : Int) > 3000) = true := by simp; omega
        have k2 : (0 : Int) ≤ 3000 ∧ (3000 : Int) ≤ ((b.cap : Nat) : Int) := by omega
        unfold law11_cut
        rw [k1, if_pos rfl, if_pos k2]
        simp
      · have := hb.cut (n := 3000) (by omega)
        rw [ints_take] at this; exact this
    · refine ⟨b, xs, ?_, hb, hx, by omega⟩
      have k1 : decide (((b.len : Nat) : Int) > 3000) = false := by simp; omega
      unfold law11_cut
      rw [k1, if_neg (by decide)]
  obtain ⟨bs, rfl, hbs⟩ := nats hy
  have hbl : (bs.map Int.ofNat).length = bs.length := List.length_map ..
  rw [hbl] at hyl
  obtain ⟨g, cap, w1, h1, o1, hg, u1⟩ := Bytes_ok hK hc (by rw [hbl]; omega)
  have hfr := marked_front o1
  obtain ⟨s2, w2, h2, o2, bl2⟩ := Words_loop K w1.heap.size hbs (by omega) bs.length 0 K w1 ⟨none, 0, 0⟩ [] (by omega) (by omega) (by omega) hfr.rd
    (fun p hp => by
      have e : p = ⟨g, 0, none⟩ := by simpa using hp.symm
      subst e
      exact hfr.lt rfl) (Own.nil _ _) (by simp) (Nat.le_refl _) (fun k hk => by cases hk)
  have h2 : escrow_Words_l0 K K ⟨some ⟨g, 0, none⟩, (bs.map Int.ofNat).length, cap⟩ ⟨none, 0, 0⟩ 0 w1 = _ := h2
  have h3 := b2s_ok (P := prog) o2.rd
  have u2 : Upd none_ w1 w2 := Upd.of_below bl2
  obtain ⟨w3, h4, u3⟩ := ref_loop K hbs (by omega) bs.length 0 K w2 [] (by omega) (by omega) (by omega) (((hc.upd0 u1).upd0 u2).rds) (by simp)
  have h4 : ref11_Words_l0 K K c str0 0 w2 = _ := h4
  obtain ⟨w4, h5, u4⟩ := WholeBytes_ok hK ((o1.upd0 u2).upd0 u3) (((hc.upd0 u1).upd0 u2).upd0 u3).rds (by rw [hbl]; omega)
  refine ⟨w4, ?_, ((u1.and0 u2).and0 u3).and0 u4⟩
  have e2 : escrow_Words K ⟨some ⟨g, 0, none⟩, (bs.map Int.ofNat).length, cap⟩ w1 = some ((bytesOf (wordsL bs (bs.length + 1) 0 []), ()), w2) := by
    unfold escrow_Words; rw [h2, bnd_ok, h3, bnd_ok]
  have e4 : ref11_Words K c w2 = some ((bytesOf (wordsL bs (bs.length + 1) 0 []), ()), w3) := by
    unfold ref11_Words; rw [h4, bnd_ok]
  unfold law11_EscrowWords
  rw [h0, Option.bind_some, h1, bnd_ok, e2, bnd_ok, e4, bnd_ok, if_pos (beq_self_eq_true _), h5, bnd_ok]
  simp

end Go.Sh

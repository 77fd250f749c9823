/- Package digest: narrow takes blocks: what it computes. -/
import Derived.Test.YtgmdbhckccmhjaaDoorSpec32
import Derived.Test.YtgmdbhckccmhjaaDoorSh1
set_option linter.unusedVariables false
namespace Go.Sh
open Go.Fw Go.Sha Go.RowKit Go.Proofs.Tryd

theorem neg_and31 : ∀ n : Nat, n < 32 → 0 < n → bits .and .u64 (IntKind.u64.wrap (-(n : Int))) 31 = ((32 - n : Nat) : Int) := by decide +kernel

theorem RL32 (x : Int) {n : Nat} (h0 : 0 < n) (h1 : n < 32) : bits_RotateLeft32 x (-(n : Int)) = some (rr32 x n, ()) := by
  have e1 := neg_and31 n h1 h0
  have e2 : IntKind.u64.wrap (32 - ((32 - n : Nat) : Int)) = (n : Int) := by rw [IntKind.wrap_u64]; omega
  have m1 : min (32 - n) IntKind.u32.bits = 32 - n := Nat.min_eq_left (by simp only [IntKind.bits]; omega)
  have m2 : min n IntKind.u32.bits = n := Nat.min_eq_left (by simp only [IntKind.bits]; omega)
  unfold bits_RotateLeft32
  rw [e1, e2]
  simp only [Int.toNat_natCast, m1, m2, Int.natCast_nonneg, if_true, rr32]

theorem add_add (p : Addr) (a b : Nat) : (p.add a).add b = p.add (a + b) := by
  unfold Addr.add
  by_cases h1 : a = 0 <;> by_cases h2 : b = 0 <;> simp [h1, h2, Nat.add_assoc]

theorem rdD {κ : IntKind} {w : World} {s : Sl} {zs : List Int} (h : RdS κ w s zs) : ∃ p, (zs ≠ [] → s.a = some p) ∧ ∀ i, i < zs.length → ldI κ (p.add i) w = some (zs.getD i 0) := by
  obtain ⟨p, h1, h2⟩ := h.ld
  refine ⟨p, h1, fun i hi => ?_⟩
  rw [h2 i hi, List.getD_eq_getElem?_getD, List.getElem?_eq_getElem hi]; rfl

/-- the row of a block's cells from its front on -/
theorem row_front {κ : IntKind} {cs : List Value} {xs : List Int} {i : Nat} (h : cs.take xs.length = ints κ xs) (hi : i < xs.length) : cs[i]? = some (.int κ (xs.getD i 0)) := by
  have h1 : (cs.take xs.length)[i]? = (ints κ xs)[i]? := by rw [h]
  rw [List.getElem?_take, if_pos hi] at h1
  rw [h1, List.getD_eq_getElem?_getD, List.getElem?_eq_getElem hi]
  simp [ints, hi]

theorem front_set {κ : IntKind} {cs : List Value} {xs : List Int} (h : cs.take xs.length = ints κ xs) (hl : xs.length < cs.length) (x : Int) :
    (cs.set xs.length (.int κ x)).take (xs ++ [x]).length = ints κ (xs ++ [x]) := by
  rw [ints_append, ← h]
  simp only [List.length_append, List.length_cons, List.length_nil, Nat.zero_add]
  rw [List.take_add_one, List.take_set_of_le (Nat.le_refl _)]
  simp [hl]

theorem narrow_l1 (K : Nat) (h0 : Option Addr) {b : Sl} {bs : List Int} (hbl : 64 ≤ bs.length) (hlim : bs.length ≤ 140737488355328) {gw : Nat} (hne : ∀ p, b.a = some p → p.block ≠ gw) :
    ∀ (d i n : Nat) (w : World) (cs : List Value), i + d = 16 → d < n → RdS .u8 w b bs → Bk 124 w gw cs → cs.length = 64 → cs.take i = ints .u32 (words32 bs i) →
      ∃ w' cs', digest_narrow_l1 K n h0 b ⟨gw, 0, none⟩ (i : Int) w = some ((), w') ∧ Bk 124 w' gw cs' ∧ cs'.length = 64 ∧ cs'.take 16 = ints .u32 (words32 bs 16) ∧ Upd (· = gw) w w' := by
  intro d
  induction d with
  | zero =>
    intro i n w cs hi hn hr hb hc ht
    obtain ⟨n, rfl⟩ : ∃ m, n = m + 1 := ⟨n - 1, by omega⟩
    have : i = 16 := by omega
    subst this
    refine ⟨w, cs, ?_, hb, hc, ht, Upd.refl _ _⟩
    show digest_narrow_l1_b K (digest_narrow_l1 K n) h0 b ⟨gw, 0, none⟩ ((16 : Nat) : Int) w = _
    simp [digest_narrow_l1_b]
  | succ d ih =>
    intro i n w cs hi hn hr hb hc ht
    obtain ⟨n, rfl⟩ : ∃ m, n = m + 1 := ⟨n - 1, by omega⟩
    have hbn : bs ≠ [] := fun e => by rw [e] at hbl; simp at hbl
    obtain ⟨p, hp, hl⟩ := rdD hr.drew
    have hcap := hr.cap
    have hlen := hr.len
    have hd : decide ((i : Int) < 16) = true := by simp; omega
    have e4 : IntKind.i64.wrap (4 * (i : Int)) = ((4 * i : Nat) : Int) := by rw [w64 (by omega) (by omega)]; omega
    have e44 : IntKind.i64.wrap (((4 * i : Nat) : Int) + 4) = ((4 * i + 4 : Nat) : Int) := by rw [w64 (by omega) (by omega)]; omega
    have e1 : IntKind.i64.wrap ((i : Int) + 1) = ((i + 1 : Nat) : Int) := by rw [w64 (by omega) (by omega)]; rfl
    have c1 : (0 : Int) ≤ ((4 * i + 4 : Nat) : Int) ∧ ((4 * i + 4 : Nat) : Int) ≤ ((b.cap : Nat) : Int) := by omega
    have c2 : (0 : Int) ≤ ((4 * i : Nat) : Int) ∧ ((4 * i : Nat) : Int) ≤ ((4 * i + 4 : Nat) : Int) := by omega
    have e5 : 4 * i + 4 - 4 * i = 4 := by omega
    have hsl : sla b.a (4 * i) b.cap 1 = some (p.add (4 * i)) := by
      have : b.cap ≠ 4 * i := by omega
      simp [sla, hp hbn, this]
    have l0 := hl (4 * i) (by omega)
    have l1 := hl (4 * i + 1) (by omega)
    have l2 := hl (4 * i + 2) (by omega)
    have l3 := hl (4 * i + 3) (by omega)
    have c3 : (0 : Int) ≤ (i : Int) ∧ (i : Int) < ((64 : Nat) : Int) := by omega
    have k0 : (0 : Int) ≤ 0 ∧ (0 : Int) < ((4 : Nat) : Int) := by decide
    have k1 : (0 : Int) ≤ 1 ∧ (1 : Int) < ((4 : Nat) : Int) := by decide
    have k2 : (0 : Int) ≤ 2 ∧ (2 : Int) < ((4 : Nat) : Int) := by decide
    have k3 : (0 : Int) ≤ 3 ∧ (3 : Int) < ((4 : Nat) : Int) := by decide
    obtain ⟨w1, s1, s2, s3⟩ := hb.drew.stC (i := i) (by omega) (.int .u32 (word32 (bs.getD (4 * i) 0) (bs.getD (4 * i + 1) 0) (bs.getD (4 * i + 2) 0) (bs.getD (4 * i + 3) 0)))
    have s1' : stC ((⟨gw, 0, none⟩ : Addr).add (i * 1)) (.int .u32 (word32 (bs.getD (4 * i) 0) (bs.getD (4 * i + 1) 0) (bs.getD (4 * i + 2) 0) (bs.getD (4 * i + 3) 0))) w.drew = some w1 := by
      rw [add_lit, Nat.mul_one, Nat.zero_add]; exact s1
    have ht' : cs.take (words32 bs i).length = ints .u32 (words32 bs i) := by rw [words32_len]; exact ht
    have hfs := front_set ht' (by rw [words32_len]; omega) (word32 (bs.getD (4 * i) 0) (bs.getD (4 * i + 1) 0) (bs.getD (4 * i + 2) 0) (bs.getD (4 * i + 3) 0))
    rw [words32_len] at hfs
    have hfs' : (cs.set i (.int .u32 (word32 (bs.getD (4 * i) 0) (bs.getD (4 * i + 1) 0) (bs.getD (4 * i + 2) 0) (bs.getD (4 * i + 3) 0)))).take (i + 1) = ints .u32 (words32 bs (i + 1)) := by
      have : (words32 bs i ++ [word32 (bs.getD (4 * i) 0) (bs.getD (4 * i + 1) 0) (bs.getD (4 * i + 2) 0) (bs.getD (4 * i + 3) 0)]).length = i + 1 := by simp [words32_len]
      rw [this] at hfs; exact hfs
    obtain ⟨w2, cs2, h1, h2, h3, h4, h5⟩ := ih (i + 1) n w1 _ (by omega) (by omega) (hr.drew.upd s3 (fun q hq e => hne q hq e)) s2 (by simpa using hc) hfs'
    refine ⟨w2, cs2, ?_, h2, h3, h4, (s3.predrew).trans' h5 fun _ _ e => e⟩
    show digest_narrow_l1_b K (digest_narrow_l1 K n) h0 b ⟨gw, 0, none⟩ (i : Int) w = _
    unfold digest_narrow_l1_b
    rw [hd, if_pos rfl, e4, e44]
    simp only [Int.toNat_natCast, e5]
    rw [if_pos c1, if_pos c2, hsl]
    simp only [Option.bind_some]
    rw [if_pos k0, if_pos k1, if_pos k2, if_pos k3]
    simp only [add_add, Nat.zero_mul, Nat.one_mul, Nat.add_zero, Nat.reduceMul, l0, l1, l2, l3, Option.bind_some]
    rw [if_pos c3]
    show (stC ((⟨gw, 0, none⟩ : Addr).add (i * 1)) (.int .u32 (word32 (bs.getD (4 * i) 0) (bs.getD (4 * i + 1) 0) (bs.getD (4 * i + 2) 0) (bs.getD (4 * i + 3) 0))) w.drew).bind _ = _
    rw [s1', Option.bind_some, e1, h1]

theorem narrow_l2 (K : Nat) (h0 : Option Addr) {b : Sl} {gw : Nat} :
    ∀ (d n : Nat) (w : World) (cs : List Value) (S : List Int), S.length + d = 64 → 16 ≤ S.length → d < n → Bk 124 w gw cs → cs.length = 64 → cs.take S.length = ints .u32 S →
      ∃ w' cs', digest_narrow_l2 K n h0 b ⟨gw, 0, none⟩ ((S.length : Nat) : Int) w = some ((), w') ∧ Bk 124 w' gw cs' ∧ cs' = ints .u32 (ext32 d S) ∧ Upd (· = gw) w w' := by
  intro d
  induction d with
  | zero =>
    intro n w cs S hi h16 hn hb hc ht
    obtain ⟨n, rfl⟩ : ∃ m, n = m + 1 := ⟨n - 1, by omega⟩
    have hS : S.length = 64 := by omega
    refine ⟨w, cs, ?_, hb, ?_, Upd.refl _ _⟩
    · show digest_narrow_l2_b K (digest_narrow_l2 K n) h0 b ⟨gw, 0, none⟩ ((S.length : Nat) : Int) w = _
      rw [hS]
      simp [digest_narrow_l2_b]
    · rw [hS, List.take_of_length_le (by omega)] at ht; exact ht
  | succ d ih =>
    intro n w cs S hi h16 hn hb hc ht
    obtain ⟨n, rfl⟩ : ∃ m, n = m + 1 := ⟨n - 1, by omega⟩
    have hd : decide (((S.length : Nat) : Int) < 64) = true := by simp; omega
    have e15 : IntKind.i64.wrap (((S.length : Nat) : Int) - 15) = ((S.length - 15 : Nat) : Int) := by rw [w64 (by omega) (by omega)]; omega
    have e2 : IntKind.i64.wrap (((S.length : Nat) : Int) - 2) = ((S.length - 2 : Nat) : Int) := by rw [w64 (by omega) (by omega)]; omega
    have e16 : IntKind.i64.wrap (((S.length : Nat) : Int) - 16) = ((S.length - 16 : Nat) : Int) := by rw [w64 (by omega) (by omega)]; omega
    have e7 : IntKind.i64.wrap (((S.length : Nat) : Int) - 7) = ((S.length - 7 : Nat) : Int) := by rw [w64 (by omega) (by omega)]; omega
    have e1 : IntKind.i64.wrap (((S.length : Nat) : Int) + 1) = ((S.length + 1 : Nat) : Int) := by rw [w64 (by omega) (by omega)]; rfl
    have c15 : (0 : Int) ≤ ((S.length - 15 : Nat) : Int) ∧ ((S.length - 15 : Nat) : Int) < ((64 : Nat) : Int) := by omega
    have c2 : (0 : Int) ≤ ((S.length - 2 : Nat) : Int) ∧ ((S.length - 2 : Nat) : Int) < ((64 : Nat) : Int) := by omega
    have c16 : (0 : Int) ≤ ((S.length - 16 : Nat) : Int) ∧ ((S.length - 16 : Nat) : Int) < ((64 : Nat) : Int) := by omega
    have c7 : (0 : Int) ≤ ((S.length - 7 : Nat) : Int) ∧ ((S.length - 7 : Nat) : Int) < ((64 : Nat) : Int) := by omega
    have c0 : (0 : Int) ≤ ((S.length : Nat) : Int) ∧ ((S.length : Nat) : Int) < ((64 : Nat) : Int) := by omega
    have l15 := hb.drew.ldI (row_front ht (i := S.length - 15) (by omega))
    have l2 := hb.drew.ldI (row_front ht (i := S.length - 2) (by omega))
    have l16 := hb.drew.drew.ldI (row_front ht (i := S.length - 16) (by omega))
    have l7 := hb.drew.drew.ldI (row_front ht (i := S.length - 7) (by omega))
    have r7 := RL32 (S.getD (S.length - 15) 0) (n := 7) (by decide) (by decide)
    have r18 := RL32 (S.getD (S.length - 15) 0) (n := 18) (by decide) (by decide)
    have r17 := RL32 (S.getD (S.length - 2) 0) (n := 17) (by decide) (by decide)
    have r19 := RL32 (S.getD (S.length - 2) 0) (n := 19) (by decide) (by decide)
    have r7 : bits_RotateLeft32 (S.getD (S.length - 15) 0) (-7) = some (rr32 (S.getD (S.length - 15) 0) 7, ()) := r7
    have r18 : bits_RotateLeft32 (S.getD (S.length - 15) 0) (-18) = some (rr32 (S.getD (S.length - 15) 0) 18, ()) := r18
    have r17 : bits_RotateLeft32 (S.getD (S.length - 2) 0) (-17) = some (rr32 (S.getD (S.length - 2) 0) 17, ()) := r17
    have r19 : bits_RotateLeft32 (S.getD (S.length - 2) 0) (-19) = some (rr32 (S.getD (S.length - 2) 0) 19, ()) := r19
    let x := sch32 (S.getD (S.length - 15) 0) (S.getD (S.length - 2) 0) (S.getD (S.length - 16) 0) (S.getD (S.length - 7) 0)
    obtain ⟨w1, s1, s2, s3⟩ := hb.drew.drew.stC (i := S.length) (by omega) (.int .u32 x)
    have s1' : stC ((⟨gw, 0, none⟩ : Addr).add (S.length * 1)) (.int .u32 x) w.drew.drew = some w1 := by rw [add_lit, Nat.mul_one, Nat.zero_add]; exact s1
    have hfs := front_set ht (by omega) x
    have hSl : (S ++ [x]).length = S.length + 1 := by simp
    obtain ⟨w2, cs2, h1, h2, h3, h5⟩ := ih n w1 _ (S ++ [x]) (by rw [hSl]; omega) (by rw [hSl]; omega) (by omega) s2 (by simpa using hc) hfs
    rw [hSl] at h1
    refine ⟨w2, cs2, ?_, h2, by rw [h3]; rfl, (s3.predrew.predrew).trans' h5 fun _ _ e => e⟩
    show digest_narrow_l2_b K (digest_narrow_l2 K n) h0 b ⟨gw, 0, none⟩ ((S.length : Nat) : Int) w = _
    unfold digest_narrow_l2_b
    rw [hd, if_pos rfl, e15, e2, e16, e7]
    simp only [Int.toNat_natCast]
    rw [if_pos c15, if_pos c2]
    simp only [add_lit, Nat.mul_one, Nat.zero_add]
    rw [l15, Option.bind_some, l2, Option.bind_some, if_pos c16, if_pos c7, l16, Option.bind_some, l7, Option.bind_some, r7, Option.bind_some, r18, Option.bind_some, r17, Option.bind_some, r19, Option.bind_some, if_pos c0]
    show (stC ⟨gw, S.length, none⟩ (.int .u32 x) w.drew.drew).bind _ = _
    rw [s1, Option.bind_some, e1, h1]

/-- a row of words, eight of them, in some place of a block -/
def At (e : TypeId) (w : World) (g o : Nat) (cs : List Value) (κ : IntKind) (xs : List Int) : Prop := Bk e w g cs ∧ (cs.drop o).take xs.length = ints κ xs ∧ o + xs.length ≤ cs.length

theorem at_get {κ : IntKind} {cs : List Value} {xs : List Int} {o i : Nat} (h : (cs.drop o).take xs.length = ints κ xs) (hi : i < xs.length) : cs[o + i]? = some (.int κ (xs.getD i 0)) := by
  have := row_front h hi
  rwa [List.getElem?_drop] at this

theorem narrow_l3 (K : Nat) {gh oh gv : Nat} {b : Sl} {w4 : Addr} {eh : TypeId} {H : List Int} (hH : H.length = 8) {ch : List Value} (hne : gh ≠ gv) (hAt : (ch.drop oh).take 8 = ints .u64 H) :
    ∀ (d i n : Nat) (w : World) (cs : List Value), i + d = 8 → d < n → Bk eh w gh ch → Bk 126 w gv cs → cs.length = 8 → cs.take i = ints .u32 ((H.map IntKind.u32.wrap).take i) →
      ∃ w', digest_narrow_l3 K n (some ⟨gh, oh, none⟩) b w4 ⟨gv, 0, none⟩ (i : Int) w = some ((), w') ∧ Bk 126 w' gv (ints .u32 (H.map IntKind.u32.wrap)) ∧ Upd (· = gv) w w' := by
  intro d
  induction d with
  | zero =>
    intro i n w cs hi hn hbh hb hc ht
    obtain ⟨n, rfl⟩ : ∃ m, n = m + 1 := ⟨n - 1, by omega⟩
    have : i = 8 := by omega
    subst this
    rw [List.take_of_length_le (by omega), List.take_of_length_le (by simp [hH])] at ht
    refine ⟨w, ?_, ht ▸ hb, Upd.refl _ _⟩
    show digest_narrow_l3_b K (digest_narrow_l3 K n) (some ⟨gh, oh, none⟩) b w4 ⟨gv, 0, none⟩ ((8 : Nat) : Int) w = _
    simp [digest_narrow_l3_b]
  | succ d ih =>
    intro i n w cs hi hn hbh hb hc ht
    obtain ⟨n, rfl⟩ : ∃ m, n = m + 1 := ⟨n - 1, by omega⟩
    have hd : decide ((i : Int) < 8) = true := by simp; omega
    have e1 : IntKind.i64.wrap ((i : Int) + 1) = ((i + 1 : Nat) : Int) := by rw [w64 (by omega) (by omega)]; rfl
    have c0 : (0 : Int) ≤ (i : Int) ∧ (i : Int) < ((8 : Nat) : Int) := by omega
    have hAt' : (ch.drop oh).take H.length = ints .u64 H := by rw [hH]; exact hAt
    have l0 := hbh.ldI (at_get hAt' (i := i) (by omega))
    obtain ⟨w1, s1, s2, s3⟩ := hb.stC (i := i) (by omega) (.int .u32 (IntKind.u32.wrap (H.getD i 0)))
    have hlen : ((H.map IntKind.u32.wrap).take i).length = i := by simp [hH]; omega
    have ht' : cs.take ((H.map IntKind.u32.wrap).take i).length = ints .u32 ((H.map IntKind.u32.wrap).take i) := by rw [hlen]; exact ht
    have hfs := front_set ht' (by rw [hlen]; omega) (IntKind.u32.wrap (H.getD i 0))
    have hstep : (H.map IntKind.u32.wrap).take i ++ [IntKind.u32.wrap (H.getD i 0)] = (H.map IntKind.u32.wrap).take (i + 1) := by
      have hi8 : i < H.length := by omega
      rw [List.take_add_one, List.getElem?_map, List.getElem?_eq_getElem hi8, List.getD_eq_getElem?_getD, List.getElem?_eq_getElem hi8]
      rfl
    rw [hlen, hstep] at hfs
    have hfs' : (cs.set i (.int .u32 (IntKind.u32.wrap (H.getD i 0)))).take (i + 1) = ints .u32 ((H.map IntKind.u32.wrap).take (i + 1)) := by
      have : ((H.map IntKind.u32.wrap).take (i + 1)).length = i + 1 := by simp [hH]; omega
      rw [this] at hfs; exact hfs
    obtain ⟨w2, h1, h2, h3⟩ := ih (i + 1) n w1 _ (by omega) (by omega) (hbh.upd s3 hne) s2 (by simpa using hc) hfs'
    refine ⟨w2, ?_, h2, s3.trans' h3 fun _ _ e => e⟩
    show digest_narrow_l3_b K (digest_narrow_l3 K n) (some ⟨gh, oh, none⟩) b w4 ⟨gv, 0, none⟩ (i : Int) w = _
    unfold digest_narrow_l3_b
    rw [hd, if_pos rfl, Option.bind_some, if_pos c0]
    simp only [Int.toNat_natCast, add_lit, Nat.mul_one, Nat.zero_add]
    rw [l0, Option.bind_some, if_pos c0, s1, Option.bind_some, e1, h1]

theorem narrow_l4 (K : Nat) {h0 : Option Addr} {b : Sl} {gw : Nat} {v10 : Addr} {W C : List Int} (hW : W.length = 64) (hC : C.length = 80) :
    ∀ (m i n : Nat) (w : World) (a b1 c d e f g k : Int), i + m = 64 → m < n → Bk 124 w gw (ints .u32 W) → Rd w ⟨2, 0, none⟩ (ints .u64 C) →
      ∃ w', digest_narrow_l4 K n h0 b ⟨gw, 0, none⟩ v10 a b1 c d e f g k (i : Int) w = some (rounds32 W C m i a b1 c d e f g k, w') ∧ Upd none_ w w' := by
  intro m
  induction m with
  | zero =>
    intro i n w a b1 c d e f g k hi hn hb hr
    obtain ⟨n, rfl⟩ : ∃ m, n = m + 1 := ⟨n - 1, by omega⟩
    have : i = 64 := by omega
    subst this
    refine ⟨w, ?_, Upd.refl _ _⟩
    show digest_narrow_l4_b K (digest_narrow_l4 K n) h0 b ⟨gw, 0, none⟩ v10 a b1 c d e f g k ((64 : Nat) : Int) w = _
    simp [digest_narrow_l4_b, rounds32]
  | succ m ih =>
    intro i n w a b1 c d e f g k hi hn hb hr
    obtain ⟨n, rfl⟩ : ∃ m, n = m + 1 := ⟨n - 1, by omega⟩
    have hd : decide ((i : Int) < 64) = true := by simp; omega
    have e1 : IntKind.i64.wrap ((i : Int) + 1) = ((i + 1 : Nat) : Int) := by rw [w64 (by omega) (by omega)]; rfl
    have c80 : (0 : Int) ≤ (i : Int) ∧ (i : Int) < ((80 : Nat) : Int) := by omega
    have c64 : (0 : Int) ≤ (i : Int) ∧ (i : Int) < ((64 : Nat) : Int) := by omega
    have l0 : ldI .u64 ⟨2, i, none⟩ w = some (C.getD i 0) := by
      have := hr i (.int .u64 (C.getD i 0)) (by simp [ints, List.getD_eq_getElem?_getD, show i < C.length by omega])
      rw [add_lit, Nat.zero_add] at this
      simp [ldI, this, asI]
    have l1 : ldI .u32 ⟨gw, i, none⟩ w.drew = some (W.getD i 0) := hb.drew.ldI (by simp [ints, List.getD_eq_getElem?_getD, show i < W.length by omega])
    have r6 : bits_RotateLeft32 e (-6) = some (rr32 e 6, ()) := RL32 e (n := 6) (by decide) (by decide)
    have r11 : bits_RotateLeft32 e (-11) = some (rr32 e 11, ()) := RL32 e (n := 11) (by decide) (by decide)
    have r25 : bits_RotateLeft32 e (-25) = some (rr32 e 25, ()) := RL32 e (n := 25) (by decide) (by decide)
    have r2 : bits_RotateLeft32 a (-2) = some (rr32 a 2, ()) := RL32 a (n := 2) (by decide) (by decide)
    have r13 : bits_RotateLeft32 a (-13) = some (rr32 a 13, ()) := RL32 a (n := 13) (by decide) (by decide)
    have r22 : bits_RotateLeft32 a (-22) = some (rr32 a 22, ()) := RL32 a (n := 22) (by decide) (by decide)
    obtain ⟨w1, h1, h2⟩ := ih (i + 1) n w.drew (IntKind.u32.wrap (t1_32 e f g k (IntKind.u32.wrap (Int.fdiv (C.getD i 0) (2 ^ 32))) (W.getD i 0) + t2_32 a b1 c)) a b1 c
      (IntKind.u32.wrap (d + t1_32 e f g k (IntKind.u32.wrap (Int.fdiv (C.getD i 0) (2 ^ 32))) (W.getD i 0))) e f g (by omega) (by omega) hb.drew (hr.upd (S := none_) (Upd.refl _ _).drew fun _ => id)
    refine ⟨w1, ?_, h2.predrew⟩
    show digest_narrow_l4_b K (digest_narrow_l4 K n) h0 b ⟨gw, 0, none⟩ v10 a b1 c d e f g k (i : Int) w = _
    unfold digest_narrow_l4_b
    rw [hd, if_pos rfl, if_pos c80]
    simp only [Int.toNat_natCast, add_lit, Nat.mul_one, Nat.zero_add]
    rw [l0, Option.bind_some, if_pos c64, r6, Option.bind_some, r11, Option.bind_some, r25, Option.bind_some, l1, Option.bind_some, r2, Option.bind_some, r13, Option.bind_some, r22, Option.bind_some, e1]
    exact h1

theorem built126 (x0 x1 x2 x3 x4 x5 x6 x7 : Int) : prog.built 126 [(0, (.int .u32 x0)), (1, (.int .u32 x1)), (2, (.int .u32 x2)), (3, (.int .u32 x3)), (4, (.int .u32 x4)), (5, (.int .u32 x5)), (6, (.int .u32 x6)), (7, (.int .u32 x7))] =
    some (ints .u32 [x0, x1, x2, x3, x4, x5, x6, x7]).toArray := by kernel_rfl

theorem seg_snoc {cs vs : List Value} {o : Nat} (h : o + vs.length < cs.length) (v : Value) : (seg cs o vs).set (o + vs.length) v = seg cs o (vs ++ [v]) := by
  apply List.ext_getElem?
  intro i
  rw [List.getElem?_set, seg_length (by omega), seg_get (by omega), seg_get (by simp; omega)]
  simp only [List.length_append, List.length_cons, List.length_nil, Nat.zero_add]
  by_cases h1 : o + vs.length = i
  · subst h1
    rw [if_pos rfl, if_pos h, if_neg (by omega), if_pos (by omega)]
    simp
  · rw [if_neg h1]
    by_cases h2 : i < o
    · simp [h2]
    · rw [if_neg h2, if_neg h2]
      by_cases h3 : i < o + vs.length
      · rw [if_pos h3, if_pos (by omega), List.getElem?_append_left (by omega)]
      · rw [if_neg h3, if_neg (by omega)]

theorem seg_nil (cs : List Value) (o : Nat) : seg cs o [] = cs := by simp [seg]

theorem narrow_l5 (K : Nat) {gh oh gv : Nat} {b : Sl} {w4 : Addr} {eh : TypeId} {v x : List Int} (hv : v.length = 8) (hx : x.length = 8) {ch : List Value} (hne : gh ≠ gv) (hch : oh + 8 ≤ ch.length) :
    ∀ (d i n : Nat) (w : World), i + d = 8 → d < n → Bk eh w gh (seg ch oh (ints .u64 ((sum8 v x).take i))) → Bk 126 w gv (ints .u32 v) →
      ∃ w', digest_narrow_l5 K n (some ⟨gh, oh, none⟩) b w4 ⟨gv, 0, none⟩ (ints .u32 x).toArray (i : Int) w = some ((), w') ∧
        Bk eh w' gh (seg ch oh (ints .u64 (sum8 v x))) ∧ Upd (· = gh) w w' := by
  intro d
  induction d with
  | zero =>
    intro i n w hi hn hb hbv
    obtain ⟨n, rfl⟩ : ∃ m, n = m + 1 := ⟨n - 1, by omega⟩
    have : i = 8 := by omega
    subst this
    rw [List.take_of_length_le (by simp [sum8])] at hb
    refine ⟨w, ?_, hb, Upd.refl _ _⟩
    show digest_narrow_l5_b K (digest_narrow_l5 K n) (some ⟨gh, oh, none⟩) b w4 ⟨gv, 0, none⟩ (ints .u32 x).toArray ((8 : Nat) : Int) w = _
    simp [digest_narrow_l5_b]
  | succ d ih =>
    intro i n w hi hn hb hbv
    obtain ⟨n, rfl⟩ : ∃ m, n = m + 1 := ⟨n - 1, by omega⟩
    have hd : decide ((i : Int) < 8) = true := by simp; omega
    have e1 : IntKind.i64.wrap ((i : Int) + 1) = ((i + 1 : Nat) : Int) := by rw [w64 (by omega) (by omega)]; rfl
    have c0 : (0 : Int) ≤ (i : Int) ∧ (i : Int) < ((8 : Nat) : Int) := by omega
    have hxi : i < x.length := by omega
    have hvi : i < v.length := by omega
    have hg : (ints .u32 x).toArray[i]? = some (.int .u32 (x.getD i 0)) := by
      rw [List.getElem?_toArray]; simp [ints, List.getD_eq_getElem?_getD, hxi]
    have l0 : ldI .u32 ⟨gv, i, none⟩ w.drew = some (v.getD i 0) := hbv.drew.ldI (by simp [ints, List.getD_eq_getElem?_getD, hvi])
    let out := sum8 v x
    have hol : (ints .u64 (out.take i)).length = i := by simp [ints, out, sum8]; omega
    have hsl : (seg ch oh (ints .u64 (out.take i))).length = ch.length := seg_length (by rw [hol]; omega)
    obtain ⟨w1, s1, s2, s3⟩ := hb.drew.stC (i := oh + i) (by rw [hsl]; omega) (.int .u64 (IntKind.u64.wrap (IntKind.u32.wrap (v.getD i 0 + x.getD i 0))))
    have hstep : (seg ch oh (ints .u64 (out.take i))).set (oh + i) (.int .u64 (IntKind.u64.wrap (IntKind.u32.wrap (v.getD i 0 + x.getD i 0)))) = seg ch oh (ints .u64 (out.take (i + 1))) := by
      have h1 := seg_snoc (cs := ch) (vs := ints .u64 (out.take i)) (o := oh) (by rw [hol]; omega) (.int .u64 (IntKind.u64.wrap (IntKind.u32.wrap (v.getD i 0 + x.getD i 0))))
      rw [hol] at h1
      rw [h1]
      congr 1
      rw [List.take_add_one, ints_append]
      congr 1
      have : out[i]? = some (IntKind.u64.wrap (IntKind.u32.wrap (v.getD i 0 + x.getD i 0))) := by
        simp only [out, sum8, List.getElem?_map, List.getElem?_range (show i < 8 by omega)]; rfl
      rw [this]; rfl
    rw [hstep] at s2
    obtain ⟨w2, h1, h2, h3⟩ := ih (i + 1) n w1 (by omega) (by omega) s2 (hbv.drew.upd s3 (fun e => hne e.symm))
    refine ⟨w2, ?_, h2, s3.predrew.trans' h3 fun _ _ e => e⟩
    show digest_narrow_l5_b K (digest_narrow_l5 K n) (some ⟨gh, oh, none⟩) b w4 ⟨gv, 0, none⟩ (ints .u32 x).toArray (i : Int) w = _
    unfold digest_narrow_l5_b
    rw [hd, if_pos rfl, if_pos c0]
    simp only [Int.toNat_natCast, add_lit, Nat.mul_one, Nat.zero_add]
    rw [hg, Option.bind_some]
    simp only [asI, if_true, Option.bind_some]
    rw [if_pos c0, l0, Option.bind_some, if_pos c0, add_lit, s1, Option.bind_some, e1, h1]

/-- ONE BLOCK: of a slice of at least 64 bytes that lies in another block than the words, or whose bytes do. -/
theorem narrow_block {K : Nat} (hK : 18446744073709551616 ≤ K) (rec : Option Addr → Sl → Addr → World → Option (Unit × World)) {gh oh gw : Nat} {b : Sl} {eh : TypeId} {bs H C : List Int} (hH : H.length = 8) (hC : C.length = 80) {ch : List Value}
    (hbl : 64 ≤ bs.length) (hlim : bs.length ≤ 140737488355328) (hbw : ∀ p, b.a = some p → p.block ≠ gw) (hhw : gh ≠ gw) (hch : oh + 8 ≤ ch.length) (hAt : (ch.drop oh).take 8 = ints .u64 H)
    {w : World} {cw : List Value} (hr : RdS .u8 w b bs) (hbh : Bk eh w gh ch) (hb : Bk 124 w gw cw) (hcw : cw.length = 64) (hT : Rd w ⟨2, 0, none⟩ (ints .u64 C)) (hg2 : gw ≠ 2) :
    ∃ w' cw', digest_narrow_l0_b K rec (some ⟨gh, oh, none⟩) b ⟨gw, 0, none⟩ w = rec (some ⟨gh, oh, none⟩) ⟨sla b.a 64 b.cap 1, b.len - 64, b.cap - 64⟩ ⟨gw, 0, none⟩ w' ∧
      Bk eh w' gh (seg ch oh (ints .u64 (comp32 C H bs))) ∧ Bk 124 w' gw cw' ∧ cw'.length = 64 ∧ Upd (fun k => k = gh ∨ k = gw) w w' := by
  obtain ⟨w1, c1, h1, b1, l1, t1, u1⟩ := narrow_l1 K (some ⟨gh, oh, none⟩) hbl hlim hbw 16 0 K w cw rfl (by omega) hr hb hcw (by simp [words32])
  have h1 : digest_narrow_l1 K K (some ⟨gh, oh, none⟩) b ⟨gw, 0, none⟩ 0 w = _ := h1
  obtain ⟨w2, c2, h2, b2, t2, u2⟩ := narrow_l2 K (some ⟨gh, oh, none⟩) (b := b) 48 K w1 c1 (words32 bs 16) (by rw [words32_len]) (by rw [words32_len]; decide) (by omega) b1 l1 (by rw [words32_len]; exact t1)
  rw [words32_len] at h2
  have h2 : digest_narrow_l2 K K (some ⟨gh, oh, none⟩) b ⟨gw, 0, none⟩ 16 w1 = _ := h2
  rw [t2] at b2
  obtain ⟨w3, n3, b3, u3, z3⟩ := newB_ok z126 126 w2
  have b3 : Bk 126 w3 w2.heap.size z126.toList := b3
  have hbh2 : Bk eh w2 gh ch := (hbh.upd u1 hhw).upd u2 hhw
  have hgv : gh ≠ w2.heap.size := fun e => by have := hbh2.lt; omega
  have hgwv : gw ≠ w2.heap.size := fun e => by have := b2.lt; omega
  obtain ⟨w4, h4, b4, u4⟩ := narrow_l3 K (b := b) (w4 := ⟨gw, 0, none⟩) hH hgv hAt 8 0 K w3 _ rfl (by omega) (hbh2.upd0 u3) b3 rfl (by simp)
  have h4 : digest_narrow_l3 K K (some ⟨gh, oh, none⟩) b ⟨gw, 0, none⟩ ⟨w2.heap.size, 0, none⟩ 0 w3 = _ := h4
  have hT4 : Rd w4 ⟨2, 0, none⟩ (ints .u64 C) := by
    have hlt := hT.lt (fun e => by have := congrArg List.length e; simp [hC] at this)
    have hlt : 2 < w.heap.size := hlt
    have := u1.size; have := u2.size
    exact (((hT.upd u1 fun _ e => hg2 e.symm).upd u2 fun _ e => hg2 e.symm).upd u3 fun _ => id).upd u4 fun _ e => (by have e : 2 = w2.heap.size := e; omega)
  have b4w : Bk 124 w4 gw (ints .u32 (ext32 48 (words32 bs 16))) := (b2.upd0 u3).upd u4 hgwv
  have hvl : (H.map IntKind.u32.wrap).length = 8 := by rw [List.length_map, hH]
  have lv : ∀ i, i < 8 → ldI .u32 ⟨w2.heap.size, i, none⟩ w4.drew = some ((H.map IntKind.u32.wrap).getD i 0) := fun i hi => b4.drew.ldI (by
    have : i < (H.map IntKind.u32.wrap).length := by omega
    rw [ints, List.getElem?_map, List.getElem?_eq_getElem this, List.getD_eq_getElem?_getD, List.getElem?_eq_getElem this]; rfl)
  have h5x := narrow_l4 K (h0 := some ⟨gh, oh, none⟩) (b := b) (v10 := ⟨w2.heap.size, 0, none⟩) (W := ext32 48 (words32 bs 16)) (by rw [ext32_len, words32_len]) hC 64 0 K w4.drew ((H.map IntKind.u32.wrap).getD 0 0) ((H.map IntKind.u32.wrap).getD 1 0) ((H.map IntKind.u32.wrap).getD 2 0) ((H.map IntKind.u32.wrap).getD 3 0) ((H.map IntKind.u32.wrap).getD 4 0) ((H.map IntKind.u32.wrap).getD 5 0) ((H.map IntKind.u32.wrap).getD 6 0) ((H.map IntKind.u32.wrap).getD 7 0) rfl (by omega) b4w.drew
    (hT4.upd (S := none_) (Upd.refl _ _).drew fun _ => id)
  obtain ⟨y, hy⟩ : ∃ y, rv32 C H bs = y := ⟨_, rfl⟩
  unfold rv32 at hy
  rw [hy] at h5x
  obtain ⟨w5, h5, u5⟩ := h5x
  have hc : comp32 C H bs = sum8 (H.map IntKind.u32.wrap) (list8 y) := by unfold comp32 rv32; rw [hy]
  rw [hc]
  have b5v := (b4.drew).upd0 u5
  have b5h : Bk eh w5 gh (seg ch oh (ints .u64 ((sum8 (H.map IntKind.u32.wrap) (list8 y)).take 0))) := by
    rw [List.take_zero]
    show Bk eh w5 gh (seg ch oh [])
    rw [seg_nil]
    exact ((((hbh2.upd0 u3).upd u4 hgv).drew).upd0 u5)
  obtain ⟨w6, h6, b6, u6⟩ := narrow_l5 K (b := b) (w4 := ⟨gw, 0, none⟩) hvl (x := list8 y) rfl hgv hch 8 0 K w5 rfl (by omega) b5h b5v
  refine ⟨w6, _, ?_, b6, ((((b4w).drew).upd0 u5)).upd u6 (fun e => hhw e.symm), by simp [ints, ext32_len, words32_len], ?_⟩
  · have hlen := hr.len
    have hd : decide (((b.len : Nat) : Int) ≥ 64) = true := by simp; omega
    have k64 : (0 : Int) ≤ 64 ∧ (64 : Int) ≤ ((b.len : Nat) : Int) := by omega
    unfold digest_narrow_l0_b
    rw [hd, if_pos rfl, h1, bnd_ok, h2, bnd_ok, n3, bnd_ok, h4, bnd_ok]
    simp only [add_lit, Nat.zero_mul, Nat.one_mul, Nat.add_zero, Nat.zero_add, Nat.reduceMul]
    rw [lv 0 (by decide), Option.bind_some, lv 1 (by decide), Option.bind_some, lv 2 (by decide), Option.bind_some, lv 3 (by decide), Option.bind_some, lv 4 (by decide), Option.bind_some, lv 5 (by decide), Option.bind_some, lv 6 (by decide), Option.bind_some, lv 7 (by decide), Option.bind_some]
    have h5' : digest_narrow_l4 K K (some ⟨gh, oh, none⟩) b ⟨gw, 0, none⟩ ⟨w2.heap.size, 0, none⟩ ((H.map IntKind.u32.wrap).getD 0 0) ((H.map IntKind.u32.wrap).getD 1 0) ((H.map IntKind.u32.wrap).getD 2 0) ((H.map IntKind.u32.wrap).getD 3 0) ((H.map IntKind.u32.wrap).getD 4 0) ((H.map IntKind.u32.wrap).getD 5 0) ((H.map IntKind.u32.wrap).getD 6 0) ((H.map IntKind.u32.wrap).getD 7 0) 0 w4.drew = some (y, w5) := h5
    have h6' : digest_narrow_l5 K K (some ⟨gh, oh, none⟩) b ⟨gw, 0, none⟩ ⟨w2.heap.size, 0, none⟩ (ints .u32 [y.1, y.2.1, y.2.2.1, y.2.2.2.1, y.2.2.2.2.1, y.2.2.2.2.2.1, y.2.2.2.2.2.2.1, y.2.2.2.2.2.2.2.1]).toArray 0 w5 = some ((), w6) := h6
    rw [h5', bnd_ok, built126, Option.bind_some, h6', bnd_ok, if_pos k64]
  · have q1 : Upd (fun k => k = gh ∨ k = gw) w w2 := (u1.trans' u2 fun _ _ e => e).mono fun _ _ e => .inr e
    have q2 : Upd (fun k => k = gh ∨ k = gw) w w4 := (q1.and0 u3).trans' u4 fun k hk e => by
      have := u1.size; have := u2.size; omega
    exact (q2.drew.and0 u5).trans' u6 fun _ _ e => .inl e

theorem seg_seg {cs a b : List Value} {o : Nat} (h : a.length = b.length) (hl : o + a.length ≤ cs.length) : seg (seg cs o a) o b = seg cs o b := by
  apply List.ext_getElem?
  intro i
  have h1 : (seg cs o a).length = cs.length := seg_length hl
  rw [seg_get (cs := seg cs o a) (by omega), seg_get (cs := cs) (vs := b) (by omega), seg_get hl]
  by_cases c1 : i < o
  · simp [c1]
  · by_cases c2 : i < o + b.length
    · simp [c1, c2]
    · simp [c1, c2, h]

theorem seg_at {cs a : List Value} {o : Nat} (hl : o + a.length ≤ cs.length) : ((seg cs o a).drop o).take a.length = a := by
  simp only [seg, List.append_assoc]
  rw [List.drop_left' (by simp; omega), List.take_left]

theorem narrow_loop {K : Nat} (hK : 18446744073709551616 ≤ K) {gh oh gw : Nat} {eh : TypeId} {C : List Int} (hC : C.length = 80) (hhw : gh ≠ gw) (hg2 : gw ≠ 2) (hg3 : gh ≠ 2) :
    ∀ (m n : Nat) (w : World) (b : Sl) (bs H : List Int) (ch cw : List Value), bs.length / 64 = m → m < n → bs.length ≤ 140737488355328 → H.length = 8 → oh + 8 ≤ ch.length → (ch.drop oh).take 8 = ints .u64 H →
      (∀ p, b.a = some p → p.block ≠ gw) → ((∀ p, b.a = some p → p.block ≠ gh) ∨ bs.length < 128) → RdS .u8 w b bs → Bk eh w gh ch → Bk 124 w gw cw → cw.length = 64 → Rd w ⟨2, 0, none⟩ (ints .u64 C) →
      ∃ w', digest_narrow_l0 K n (some ⟨gh, oh, none⟩) b ⟨gw, 0, none⟩ w = some ((), w') ∧ Bk eh w' gh (seg ch oh (ints .u64 (comps32 C m H bs))) ∧ Upd (fun k => k = gh ∨ k = gw) w w' := by
  intro m
  induction m with
  | zero =>
    intro n w b bs H ch cw hm hn hlim hH hch hAt hbw hbh hr hb hw hcw hT
    obtain ⟨n, rfl⟩ : ∃ k, n = k + 1 := ⟨n - 1, by omega⟩
    refine ⟨w, ?_, ?_, Upd.refl _ _⟩
    · show digest_narrow_l0_b K (digest_narrow_l0 K n) (some ⟨gh, oh, none⟩) b ⟨gw, 0, none⟩ w = _
      have hd : decide (((b.len : Nat) : Int) ≥ 64) = false := by rw [hr.len]; simp; omega
      unfold digest_narrow_l0_b
      rw [hd, if_neg (by decide)]
    · have : seg ch oh (ints .u64 (comps32 C 0 H bs)) = ch := by
        show seg ch oh (ints .u64 H) = ch
        rw [← hAt]
        apply List.ext_getElem?
        intro i
        have hl : ((ch.drop oh).take 8).length = 8 := by simp; omega
        rw [seg_get (by omega), hl]
        by_cases c1 : i < oh
        · simp [c1]
        · by_cases c2 : i < oh + 8
          · rw [if_neg c1, if_pos c2, List.getElem?_take, if_pos (by omega), List.getElem?_drop]; congr 1; omega
          · rw [if_neg c1, if_neg c2]
      rw [this]; exact hb
  | succ m ih =>
    intro n w b bs H ch cw hm hn hlim hH hch hAt hbw hbh hr hb hw hcw hT
    obtain ⟨n, rfl⟩ : ∃ k, n = k + 1 := ⟨n - 1, by omega⟩
    have h64 : 64 ≤ bs.length := by omega
    obtain ⟨w1, cw1, h1, b1, bw1, l1, u1⟩ := narrow_block hK (digest_narrow_l0 K n) hH hC h64 hlim hbw hhw hch hAt hr hb hw hcw hT hg2
    have hcl : (ints .u64 (comp32 C H bs)).length = 8 := by rw [ints_length, comp32_len]
    have hT1 := hT.upd u1 fun _ e => by rcases e with e | e; exact hg3 e.symm; exact hg2 e.symm
    have hlen := hr.len
    have hcap := hr.cap
    by_cases hz : bs.length < 128
    · -- the last one: what is left is not read
      have hm0 : m = 0 := by omega
      subst hm0
      obtain ⟨n, rfl⟩ : ∃ k, n = k + 1 := ⟨n - 1, by omega⟩
      refine ⟨w1, ?_, b1, u1⟩
      show digest_narrow_l0_b K (digest_narrow_l0 K (n + 1)) (some ⟨gh, oh, none⟩) b ⟨gw, 0, none⟩ w = _
      rw [h1]
      show digest_narrow_l0_b K (digest_narrow_l0 K n) (some ⟨gh, oh, none⟩) ⟨sla b.a 64 b.cap 1, b.len - 64, b.cap - 64⟩ ⟨gw, 0, none⟩ w1 = _
      have hd : decide (((b.len - 64 : Nat) : Int) ≥ 64) = false := by rw [hlen]; simp; omega
      unfold digest_narrow_l0_b
      rw [hd, if_neg (by decide)]
    · have hbg : ∀ p, b.a = some p → p.block ≠ gh := by
        rcases hbh with h | h
        · exact h
        · omega
      have hr1 := (hr.upd u1 fun p hp e => by rcases e with e | e; exact hbg p hp e; exact hbw p hp e).sub (lo := 64) (hi := bs.length) h64 (Nat.le_refl _)
      rw [List.take_length] at hr1
      have hblk : ∀ q, sla b.a 64 b.cap 1 = some q → ∃ p, b.a = some p ∧ q.block = p.block := by
        intro q hq
        unfold sla at hq
        split at hq
        · exact ⟨q, hq, rfl⟩
        · cases hb' : b.a with
          | none => rw [hb'] at hq; simp at hq
          | some p => rw [hb'] at hq; simp at hq; exact ⟨p, rfl, by rw [← hq]; unfold Addr.add; split <;> rfl⟩
      obtain ⟨w2, h2, b2, u2⟩ := ih n w1 ⟨sla b.a 64 b.cap 1, bs.length - 64, b.cap - 64⟩ (bs.drop 64) (comp32 C H bs) (seg ch oh (ints .u64 (comp32 C H bs))) cw1 (by simp; omega) (by omega) (by simp; omega) (comp32_len C H bs)
        (by rw [seg_length (by omega)]; exact hch) (by have := seg_at (cs := ch) (a := ints .u64 (comp32 C H bs)) (o := oh) (by omega); rwa [hcl] at this)
        (fun q hq => by obtain ⟨p, hp, e⟩ := hblk q hq; rw [e]; exact hbw p hp) (.inl fun q hq => by obtain ⟨p, hp, e⟩ := hblk q hq; rw [e]; exact hbg p hp) hr1 b1 bw1 l1 hT1
      refine ⟨w2, ?_, ?_, u1.trans' u2 fun _ _ e => e⟩
      · show digest_narrow_l0_b K (digest_narrow_l0 K n) (some ⟨gh, oh, none⟩) b ⟨gw, 0, none⟩ w = _
        rw [h1, hlen, h2]
      · rw [seg_seg (by rw [hcl, ints_length, comps32_len C m _ _ (comp32_len C H bs)]) (by omega)] at b2
        exact b2

/-- narrow: the blocks of a slice are taken. -/
theorem narrow_ok {K : Nat} (hK : 18446744073709551616 ≤ K) {gh oh : Nat} {eh : TypeId} {C : List Int} (hC : C.length = 80) (hg3 : gh ≠ 2) {w : World} {b : Sl} {bs H : List Int} {ch : List Value}
    (hlim : bs.length ≤ 140737488355328) (hH : H.length = 8) (hch : oh + 8 ≤ ch.length) (hAt : (ch.drop oh).take 8 = ints .u64 H)
    (hbv : ∀ p, b.a = some p → p.block < w.heap.size) (hbh : (∀ p, b.a = some p → p.block ≠ gh) ∨ bs.length < 128) (hr : RdS .u8 w b bs) (hb : Bk eh w gh ch) (hT : Rd w ⟨2, 0, none⟩ (ints .u64 C)) :
    ∃ w', digest_narrow K (some ⟨gh, oh, none⟩) b w = some ((), w') ∧ Bk eh w' gh (seg ch oh (ints .u64 (comps32 C (bs.length / 64) H bs))) ∧ Upd (· = gh) w w' := by
  obtain ⟨w1, n1, b1, u1, z1⟩ := newB_ok z124 124 w
  have b1 : Bk 124 w1 w.heap.size z124.toList := b1
  have hlt : 2 < w.heap.size := hT.lt (fun e => by have := congrArg List.length e; simp [hC] at this)
  obtain ⟨w2, h2, b2, u2⟩ := narrow_loop hK hC (gw := w.heap.size) (fun e => by have := hb.lt; omega) (by omega) hg3 (bs.length / 64) K w1 b bs H ch _ rfl (by omega) hlim hH hch hAt
    (fun p hp e => by have := hbv p hp; omega) hbh (hr.upd0 u1) (hb.upd0 u1) b1 rfl (hT.upd u1 fun _ => id)
  refine ⟨w2, ?_, b2, (u1.mono fun _ _ e => e.elim).trans' u2 fun k hk e => by rcases e with e | e; exact e; omega⟩
  unfold digest_narrow
  rw [n1, bnd_ok, h2, bnd_ok]

end Go.Sh

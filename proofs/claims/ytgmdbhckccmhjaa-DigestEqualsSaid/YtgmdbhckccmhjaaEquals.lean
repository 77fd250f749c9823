/- 'cofferlaw01.DigestEquals' returns true, whatever the two slices: what the walk computes. -/
import Derived.Test.YtgmdbhckccmhjaaBook
set_option linter.unusedVariables false
namespace Go.Sh
open Go.Fw Go.RowKit Go.Proofs.Try

theorem Equal_loop (K : Nat) {a b : Sl} {xs ys : List Int} (hx : ∀ x ∈ xs, InK .u8 x) (hy : ∀ x ∈ ys, InK .u8 x) (hl : xs.length = ys.length) (hs : xs.length < 9223372036854775807) :
    ∀ (d i n : Nat) (u : Int) (w : World), i + d = xs.length → d < n → InK .u8 u → RdS .u8 w a xs → RdS .u8 w b ys →
      ∃ v w', digest_Equal_l0 K n a b u ((xs.length : Nat) : Int) (i : Int) w = some ((v, ()), w') ∧ (v = 0 ↔ u = 0 ∧ xs.drop i = ys.drop i) ∧ Upd none_ w w' := by
  intro d
  induction d with
  | zero =>
    intro i n u w hi hn hu ha hb
    obtain ⟨n, rfl⟩ : ∃ m, n = m + 1 := ⟨n - 1, by omega⟩
    refine ⟨u, w, ?_, ?_, Upd.refl _ w⟩
    · show digest_Equal_l0_b K (digest_Equal_l0 K n) a b u ((xs.length : Nat) : Int) (i : Int) w = _
      simp [digest_Equal_l0_b, show ¬ i < xs.length by omega]
    · have e1 : xs.drop i = [] := List.drop_eq_nil_of_le (by omega)
      have e2 : ys.drop i = [] := List.drop_eq_nil_of_le (by omega)
      simp [e1, e2]
  | succ d ih =>
    intro i n u w hi hn hu ha hb
    obtain ⟨n, rfl⟩ : ∃ m, n = m + 1 := ⟨n - 1, by omega⟩
    obtain ⟨p, hp, hpl⟩ := ha.drew.ld
    obtain ⟨q, hq, hql⟩ := hb.drew.ld
    have hxn : xs ≠ [] := by rintro rfl; simp at hi
    have hyn : ys ≠ [] := fun e => by rw [e] at hl; simp at hl; exact hxn hl
    have hil : i < xs.length := by omega
    have hil2 : i < ys.length := by omega
    have hw : IntKind.i64.wrap ((i : Int) + 1) = ((i + 1 : Nat) : Int) := by rw [w64 (by omega) (by omega)]; rfl
    have e1 : xs.drop i = xs[i] :: xs.drop (i + 1) := List.drop_eq_getElem_cons hil
    have e2 : ys.drop i = ys[i] :: ys.drop (i + 1) := List.drop_eq_getElem_cons hil2
    have l1 := hpl i hil
    have l2 := hql i hil2
    have k1 := hx _ (List.getElem_mem hil)
    have k2 := hy _ (List.getElem_mem hil2)
    obtain ⟨v, w', h1, h2, h3⟩ := ih (i + 1) n (bits .or .u8 u (bits .xor .u8 xs[i] ys[i])) w.drew (by omega) (by omega) (hu.or rfl (k1.xor rfl k2)) ha.drew hb.drew
    refine ⟨v, w', ?_, ?_, (Upd.refl none_ w).drew.trans' h3 fun _ _ e => e⟩
    · show digest_Equal_l0_b K (digest_Equal_l0 K n) a b u ((xs.length : Nat) : Int) (i : Int) w = _
      have hd : decide ((i : Int) < ((xs.length : Nat) : Int)) = true := by simp; omega
      simp only [digest_Equal_l0_b, decide_true, if_true, ha.len, hb.len, Int.ofNat_lt, hil, hil2, hp hxn, hq hyn, Option.bind_some, Int.natCast_nonneg, and_self, Int.toNat_natCast, Nat.mul_one, l1, l2, hw, h1]
    · rw [h2, or_xor_zero rfl hu k1 k2, e1, e2, List.cons.injEq, and_assoc]

theorem Equal_ok {K : Nat} (hK : 18446744073709551616 ≤ K) {a b : Sl} {xs ys : List Int} {w : World} (hx : ∀ x ∈ xs, InK .u8 x) (hy : ∀ x ∈ ys, InK .u8 x) (ha : RdS .u8 w a xs) (hb : RdS .u8 w b ys)
    (hs : xs.length < 9223372036854775807) : ∃ w', digest_Equal K a b w = some ((decide (xs = ys), ()), w') ∧ Upd none_ w w' := by
  by_cases hl : xs.length = ys.length
  · obtain ⟨v, w', h1, h2, h3⟩ := Equal_loop K (a := a) (b := b) hx hy hl hs xs.length 0 K 0 w (by omega) (by omega) ⟨by decide, by decide⟩ ha hb
    refine ⟨w', ?_, h3⟩
    have h1' : digest_Equal_l0 K K a b 0 ((xs.length : Nat) : Int) 0 w = _ := h1
    have hb' : (((xs.length : Nat) : Int) != ((ys.length : Nat) : Int)) = false := by simp [hl]
    have hv : (v == 0) = decide (xs = ys) := by
      rw [Bool.eq_iff_iff]; simp [h2]
    simp only [digest_Equal, ha.len, hb.len, hb', Bool.false_eq_true, if_false, h1', bnd_ok, hv]
  · refine ⟨w, ?_, Upd.refl _ w⟩
    have h1 : (((xs.length : Nat) : Int) != ((ys.length : Nat) : Int)) = true := by simp; omega
    have h2 : xs ≠ ys := fun e => hl (by rw [e])
    simp only [digest_Equal, ha.len, hb.len, h1, if_true, h2, decide_false]

theorem DigestEquals_ok {K : Nat} (hK : 18446744073709551616 ≤ K) {a b : Sl} {xs ys : List Int} {w : World} (hx : ∀ x ∈ xs, InK .u8 x) (hy : ∀ x ∈ ys, InK .u8 x)
    (ha : Src w a (ints .u8 xs)) (hb : Src w b (ints .u8 ys)) (hl : xs.length ≤ 140737488351232) (hm : ys.length ≤ 140737488351232) :
    ∃ w', law01_DigestEquals K a b w = some ((true, ()), w') ∧ Upd none_ w w' := by
  obtain ⟨g, c, w1, h1, ho1, hg1, u1⟩ := Bytes_ok hK ha hl
  obtain ⟨g2, c2, w2, h2, ho2, hg2, u2⟩ := Bytes_ok hK (hb.upd0 u1) hm
  obtain ⟨w3, h3, u3⟩ := SameBytes_ok hK (((ha.upd0 u1).upd0 u2).rds) (((hb.upd0 u1).upd0 u2).rds) (by omega)
  have p1 := (ho1.upd0 u2).upd0 u3
  have p2 := ho2.upd0 u3
  obtain ⟨w4, h4, u4⟩ := Equal_ok hK hx hy (marked_front p1).rd (marked_front p2).rd (by omega)
  obtain ⟨w5, h5, u5⟩ := Equal_ok hK hy hx ((marked_front p2).upd0 u4).rd ((marked_front p1).upd0 u4).rd (by omega)
  have p1 := (p1.upd0 u4).upd0 u5
  have p2 := (p2.upd0 u4).upd0 u5
  have ra := (((((ha.upd0 u1).upd0 u2).upd0 u3).upd0 u4).upd0 u5)
  have rb := (((((hb.upd0 u1).upd0 u2).upd0 u3).upd0 u4).upd0 u5)
  obtain ⟨w6, h6, u6⟩ := Equal_ok hK hx hx (marked_front p1).rd ra.rds (by omega)
  obtain ⟨w7, h7, u7⟩ := WholeBytes_ok hK (p1.upd0 u6) (ra.upd0 u6).rds hl
  obtain ⟨w8, h8, u8⟩ := WholeBytes_ok hK ((p2.upd0 u6).upd0 u7) ((rb.upd0 u6).upd0 u7).rds hm
  refine ⟨w8, ?_, (((((((u1.and0 u2).and0 u3).and0 u4).and0 u5).and0 u6).and0 u7).and0 u8)⟩
  have hc : decide (ys = xs) = decide (xs = ys) := by
    rw [decide_eq_decide]; exact eq_comm
  simp only [law01_DigestEquals, h1, h2, h3, h4, h5, h6, h7, h8, bnd_ok, hc, beq_self_eq_true, decide_true, if_true]

end Go.Sh

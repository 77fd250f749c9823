/- Texts of this claim, put together: StrLaw -/
import Derived.Test.YtgmdbhckccmhjaaDoorAllLawpmfacd
/- DigestStretches, the law. -/
set_option linter.unusedVariables false
namespace Go.Sh
open Go.Fw Go.Sha Go.RowKit Go.Proofs.Tryd Go.Deep

theorem stretch_small {K : Nat} {h : Int} {p s : Nat} {t n : Int} (w : World) :
    ∃ a, law01_DigestStretches_s0 K h t n (strErr h p s t n) w = some ((a, ()), w) ∧ ∃ t' n', law01_DigestStretches_s1 K t n a w = some ((t', n', ()), w) ∧ strErr h p s t' n' = strErr h p s t n := by
  by_cases he : strErr h p s t n = 0
  · obtain ⟨hk, hl1, hl2, ⟨m, rfl, hm⟩, q, rfl, hq0, hq1⟩ := strErr_zero he
    have key : ∃ t' n', law01_DigestStretches_s1 K ((m + 1 : Nat) : Int) (q : Int) true w = some ((t', n', ()), w) ∧ strErr h p s t' n' = 0 := by
      have e1 : IntKind.i64.wrap (1 + (Int.tmod ((m + 1 : Nat) : Int) 4)) = ((1 + (m + 1) % 4 : Nat) : Int) := by
        rw [show (4 : Int) = ((4 : Nat) : Int) from rfl, tmod_nat, w64 (by omega) (by omega)]; omega
      have e2 : IntKind.i64.wrap (1 + (Int.tmod (q : Int) 200)) = ((1 + q % 200 : Nat) : Int) := by
        rw [show (200 : Int) = ((200 : Nat) : Int) from rfl, tmod_nat, w64 (by omega) (by omega)]; omega
      refine ⟨_, _, ?_, strErr_0 hk (by omega) (t := ((1 + (m + 1) % 4 : Nat) : Int)) (n := ((1 + q % 200 : Nat) : Int)) (by omega) ?_⟩
      · unfold law01_DigestStretches_s1
        rw [if_pos rfl, e1, e2]
      · rw [Int.toNat_natCast]
        have hc := cnt_le hk (n := 1 + q % 200) (by omega)
        have h1 : (1 + (m + 1) % 4) * cnt h (1 + q % 200) ≤ 4 * 65536 := Nat.mul_le_mul (by omega) hc
        have h2 : ((1 + (m + 1) % 4 : Nat) : Int) * ((cnt h (1 + q % 200) : Nat) : Int) = (((1 + (m + 1) % 4) * cnt h (1 + q % 200) : Nat) : Int) := by simp
        rw [h2]; omega
    have same : ∃ t' n', law01_DigestStretches_s1 K ((m + 1 : Nat) : Int) (q : Int) false w = some ((t', n', ()), w) ∧ strErr h p s t' n' = strErr h p s ((m + 1 : Nat) : Int) (q : Int) := by
      refine ⟨_, _, ?_, rfl⟩
      unfold law01_DigestStretches_s1
      rw [if_neg (by decide)]
    unfold law01_DigestStretches_s0
    rw [he, if_pos (by decide)]
    by_cases c : ((m + 1 : Nat) : Int) > 600
    · rw [decide_eq_true c, if_pos rfl]
      exact ⟨true, rfl, key⟩
    · rw [decide_eq_false c, if_neg (by decide), refSize_ok, Option.bind_some, Option.bind_some]
      dsimp only
      rw [if_pos (size_ne hk)]
      refine ⟨_, rfl, ?_⟩
      cases hd : decide (IntKind.i64.wrap (((m + 1 : Nat) : Int) * (IntKind.i64.wrap (Int.tdiv (IntKind.i64.wrap ((IntKind.i64.wrap ((q : Int) + sizeOfH h)) - 1)) (sizeOfH h)))) > 600) with
      | true => exact key
      | false => rw [← he]; exact same
  · refine ⟨false, ?_, t, n, ?_, rfl⟩
    · unfold law01_DigestStretches_s0
      rw [if_neg (by simpa using he)]
    · unfold law01_DigestStretches_s1
      rw [if_neg (by decide)]

theorem DigestStretches_ok {K : Nat} (hK : 18446744073709551616 ≤ K) {C S : List Int} {w : World} (T : TabsR w C S) {h turns n : Int} {pass salt info : Sl} {ps ss is : List Int} (hp : BytesIn w pass ps) (hs : BytesIn w salt ss) (hi : BytesIn w info is) :
    ∃ w', law01_DigestStretches K (deriveC h pass salt info turns n) w = some ((true, ()), w') ∧ Upd none_ w w' := by
  obtain ⟨w1, n1, b1, u1, z1⟩ := newB_ok (deriveC h pass salt info turns n) 42 w
  have l0 : ldI .i64 ⟨w.heap.size, 0, none⟩ w1 = some h := b1.ldI rfl
  have l1 : ldS ⟨w.heap.size, 1, none⟩ w1 = some pass := b1.ldS rfl
  have l2 : ldS ⟨w.heap.size, 2, none⟩ w1 = some salt := b1.ldS rfl
  have l4 : ldI .i64 ⟨w.heap.size, 4, none⟩ w1 = some turns := b1.ldI rfl
  have l5 : ldI .i64 ⟨w.heap.size, 5, none⟩ w1 = some n := b1.ldI rfl
  have hs1 := u1.size
  have hpl : pass.len = ps.length := by rw [hp.src.len, ints_length]
  have hsl : salt.len = ss.length := by rw [hs.src.len, ints_length]
  have hp3 := hp.len
  have hs3 := hs.len
  unfold law01_DigestStretches
  rw [n1, bnd_ok]
  simp only [add_lit, Nat.zero_add]
  rw [l0, Option.bind_some, l1, Option.bind_some, l2, Option.bind_some, l4, Option.bind_some, l5, Option.bind_some]
  have ew : IntKind.i64.wrap (((pass.len : Nat) : Int) + ((salt.len : Nat) : Int)) = ((ps.length + ss.length : Nat) : Int) := by rw [hpl, hsl, w64 (by omega) (by omega)]; rfl
  rw [ew]
  by_cases hc : ps.length + ss.length ≤ 65536
  case neg =>
    have hd : decide (((ps.length + ss.length : Nat) : Int) > 65536) = true := by simp only [decide_eq_true_eq]; omega
    rw [hd, if_pos rfl]
    exact ⟨w1, rfl, u1⟩
  have hd : decide (((ps.length + ss.length : Nat) : Int) > 65536) = false := by simp only [decide_eq_false_iff_not]; omega
  rw [hd, if_neg (by decide), hpl, hsl, refStretchError_ok, Option.bind_some]
  dsimp only
  obtain ⟨a, ha, t', n', ht, he⟩ := stretch_small (K := K) (h := h) (p := ps.length) (s := ss.length) (t := turns) (n := n) w1
  rw [ha, bnd_ok]
  dsimp only
  rw [ht, bnd_ok]
  dsimp only
  have px1 := hp.src.upd0 u1
  have sx1 := hs.src.upd0 u1
  obtain ⟨gx, cx, w2, j2, ox, hgx, u2⟩ := Bytes_ok hK px1 hp3
  have hs2 := u2.size
  obtain ⟨gy, cy, w3, j3, oy, hgy, u3⟩ := Bytes_ok hK (sx1.upd0 u2) hs3
  have hs3' := u3.size
  have hgx2 : gx < w2.heap.size := ox.lt (by simp [Sl.blk])
  have hgy2 : gy < w3.heap.size := oy.lt (by simp [Sl.blk])
  have ox3 := ox.upd0 u3
  have px : PartOk w3 (⟨some ⟨gx, 0, none⟩, ps.length, cx⟩, ps) := ⟨(marked_front ox3).src ints_one, hp.inn, hp3, fun q hq => by obtain rfl := Option.some.inj hq; show gx < _; omega⟩
  have py : PartOk w3 (⟨some ⟨gy, 0, none⟩, ss.length, cy⟩, ss) := ⟨(marked_front oy).src ints_one, hs.inn, hs3, fun q hq => by obtain rfl := Option.some.inj hq; show gy < _; omega⟩
  have up : ∀ {w w' : World} {p : Sl × List Int}, PartOk w p → Upd none_ w w' → PartOk w' p := fun hp u => ⟨hp.1.upd0 u, hp.2.1, hp.2.2.1, fun q hq => by have := hp.2.2.2 q hq; have := u.size; omega⟩
  have T3 := ((T.upd0 u1).upd0 u2).upd0 u3
  obtain ⟨x, w4, j4, vx, fx, u4⟩ := Stretch_any hK h T3.to px py t' n'
  have hs4 := u4.size
  obtain ⟨y, w5, j5, vy, fy, u5⟩ := Stretch_any hK h (T3.upd0 u4).to (up px u4) (up py u4) t' n'
  have hs5 := u5.size
  rw [he] at j4 j5
  have q35 := u4.and0 u5
  have q13 := u2.and0 u3
  obtain ⟨w6, k6, u6⟩ := WholeBytes_ok hK (ox3.upd0 q35) ((px1.upd0 q13).upd0 q35).rds hp3
  obtain ⟨w7, k7, u7⟩ := WholeBytes_ok hK ((oy.upd0 q35).upd0 u6) (((sx1.upd0 q13).upd0 q35).upd0 u6).rds hs3
  rw [decide_eq_true rfl] at k6 k7
  have hs6 := u6.size
  have hs7 := u7.size
  have q37 := (q35.and0 u6).and0 u7
  have hs2' : law01_DigestStretches_s2 K pass salt (strErr h ps.length ss.length turns n) ⟨some ⟨gx, 0, none⟩, ps.length, cx⟩ ⟨some ⟨gy, 0, none⟩, ss.length, cy⟩ (strErr h ps.length ss.length turns n) (strErr h ps.length ss.length turns n) w5 = some ((false, ()), w7) := by
    unfold law01_DigestStretches_s2 law01_num
    rw [Option.bind_some]
    dsimp only
    rw [bne_self_eq_false, if_neg (by decide), Option.bind_some, bne_self_eq_false, if_neg (by decide), k6, bnd_ok]
    dsimp only
    rw [if_neg (by decide), k7, bnd_ok]
    rfl
  have hr : ∃ r w8, law01_DigestStretches_s3 K h pass salt t' n' ⟨none, 0, 0⟩ (strErr h ps.length ss.length turns n == 0) w7 = some ((r, ()), w8) ∧ Vw 5 w8 r (ints .u8 (strOf C S h ps ss t' n')) ∧ Fresh w7.heap.size r ∧ Upd none_ w7 w8 := by
    by_cases e0 : strErr h ps.length ss.length turns n = 0
    · obtain ⟨r, w8, h8, v8, f8, u8⟩ := refStretch_ok hK h (T3.upd0 q37) ((px1.upd0 q13).upd0 q37) hp.inn ((sx1.upd0 q13).upd0 q37) hs.inn (t := t') (n := n') (by rw [he, e0])
      refine ⟨r, w8, ?_, v8, f8, u8⟩
      unfold law01_DigestStretches_s3
      rw [e0, if_pos (by decide), h8, bnd_ok]
    · refine ⟨⟨none, 0, 0⟩, w7, ?_, ?_, (fun k hk => by cases hk), Upd.refl _ _⟩
      · unfold law01_DigestStretches_s3
        rw [if_neg (by simpa using e0)]
      · unfold strOf
        rw [he, if_neg e0]; exact Vw.nil 5 w7
  obtain ⟨r, w8, j8, vr, fr, u8⟩ := hr
  have hs8 := u8.size
  have hl := strOf_len C S h ps ss t' n'
  have vx8 := vx.upd0 (((u5.and0 u6).and0 u7).and0 u8)
  have vy8 := vy.upd0 ((u6.and0 u7).and0 u8)
  obtain ⟨w9, k9, u9⟩ := SameBytes_ok hK vx8.rd vr.rd (by omega)
  obtain ⟨w10, k10, u10⟩ := SameBytes_ok hK (vy8.upd0 u9).rd (vr.upd0 u9).rd (by omega)
  rw [decide_eq_true rfl] at k9 k10
  have hs9 := u9.size
  have hs10 := u10.size
  have hs4' : law01_DigestStretches_s4 K x y r w8 = some ((false, ()), w10) := by
    unfold law01_DigestStretches_s4
    rw [k9, bnd_ok]
    dsimp only
    rw [if_neg (by decide), k10, bnd_ok]
    rfl
  obtain ⟨w11, k11, u11⟩ := SpoilBytes_ok hK ((vx8.upd0 u9).upd0 u10) (by omega)
  have hab : ∀ k, x.blk = some k → w3.heap.size ≤ k ∧ k < w4.heap.size := fun k hk => ⟨fx k hk, vx.lt hk⟩
  have vy11 := ((vy8.upd0 u9).upd0 u10).upd u11 fun k hk e => by have := hab k e; have := fy k hk; omega
  have vr11 := ((vr.upd0 u9).upd0 u10).upd u11 fun k hk e => by have := hab k e; have := fr k hk; omega
  obtain ⟨w12, k12, u12⟩ := SameBytes_ok hK vy11.rd vr11.rd (by omega)
  rw [decide_eq_true rfl] at k12
  have q10 : Upd none_ w w10 := (u1.and0 q13).and0 (((q37.and0 u8).and0 u9).and0 u10)
  refine ⟨w12, ?_, (q10.trans' u11 fun k hk e => by have := hab k e; omega).and0 u12⟩
  rw [j2, bnd_ok, j3, bnd_ok]
  dsimp only
  rw [j4, bnd_ok, j5, bnd_ok]
  dsimp only
  rw [hs2', bnd_ok]
  dsimp only
  rw [if_neg (by decide), j8, bnd_ok]
  dsimp only
  rw [hs4', bnd_ok]
  dsimp only
  rw [if_neg (by decide), k11, bnd_ok, k12, bnd_ok]

end Go.Sh

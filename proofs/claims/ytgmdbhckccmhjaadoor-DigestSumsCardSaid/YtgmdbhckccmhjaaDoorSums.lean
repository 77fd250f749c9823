/- DigestSums: every Sum of any parts. -/
import Derived.Test.YtgmdbhckccmhjaaDoorLent
set_option linter.unusedVariables false
namespace Go.Sh
open Go.Fw Go.Sha Go.RowKit Go.Proofs.Tryd

theorem size_zero (h : Int) : (sizeOfH h == 0) = !known h := by
  unfold sizeOfH
  cases hk : known h with
  | false => rw [if_neg (by decide)]; rfl
  | true =>
    rw [if_pos rfl]
    rcases known_cases hk with e | e | e | e <;> subst e <;> rfl

theorem known256 : known 256 = true := rfl

theorem lt_of_blk {w : World} {s : Sl} (h : ∀ k, s.blk = some k → k < w.heap.size) : ∀ q, s.a = some q → q.block < w.heap.size := fun q hq => h q.block (by simp [Sl.blk, hq])

abbrev abcB : List Int := [97, 98, 99]
theorem abcB_in : ∀ x ∈ abcB, InK .u8 x := by
  intro x hx
  simp only [List.mem_cons, List.not_mem_nil, or_false] at hx
  rcases hx with rfl | rfl | rfl <;> exact ⟨by decide, by decide⟩

theorem DigestSums_ok {K : Nat} (hK : 18446744073709551616 ≤ K) (h : Int) {C S : List Int} {w : World} (T : TabsR w C S) {s : Sl} {xss : List (List Int)} {Q : Nat → Prop} (hp : PartsW w s xss Q) (hQ : ∀ k, Q k → k < w.heap.size) :
    ∃ w', law01_DigestSums K h s w = some ((true, ()), w') ∧ Upd none_ w w' := by
  obtain ⟨sJ, w1, j1, oJ, u1, fJ⟩ := joined_ok hK hp hQ
  have hjl : sJ.len = (jn [] xss).length := by rw [oJ.len, ints_length]
  unfold law01_DigestSums
  rw [j1, bnd_ok]
  dsimp only
  by_cases hc : (jn [] xss).length ≤ 65536
  case neg =>
    have hd : decide (((sJ.len : Nat) : Int) > 65536) = true := by rw [hjl]; simp only [decide_eq_true_eq]; omega
    rw [hd, if_pos rfl]
    exact ⟨w1, rfl, u1⟩
  have hd : decide (((sJ.len : Nat) : Int) > 65536) = false := by rw [hjl]; simp only [decide_eq_false_iff_not]; omega
  have hj := jn_le xss [] hc
  rw [List.nil_append] at hj
  rw [hj] at oJ hjl hc
  have hxin : ∀ x ∈ xss.flatten, InK .u8 x := fun x hx => by
    obtain ⟨l, hl, hx⟩ := List.mem_flatten.1 hx
    exact hp.inn l hl x hx
  rw [hd, if_neg (by decide)]
  have hs1 := u1.size
  obtain ⟨l, w2, j2, L, u2⟩ := lent_ok hK (hp.upd0 u1) (fun k hk => by have := hQ k hk; omega)
  have hs2 := u2.size
  have hLN := L.nn
  have P2 := L.parts hp
  have T2 := (T.upd0 u1).upd0 u2
  obtain ⟨a, w3, j3, va, fa, u3⟩ := Sum_any hK h T2.to P2 (fun k hk => hk.2) (by omega)
  have hs3 := u3.size
  obtain ⟨w4, w5, j4, j5, s5, u5, z5⟩ := bytesC (P := prog) sliceB (by kernel_rfl) abcB (by decide) (by decide) w3
  have j4 : bldS prog 25 3 #[(0, (.int .u8 97)), (1, (.int .u8 98)), (2, (.int .u8 99))] w3 = _ := j4
  have hs5 := u5.size
  obtain ⟨w6, j6, P6, u6⟩ := one_part s5 abcB_in (by decide) (fun q hq => by obtain rfl := Option.some.inj hq; exact z5)
  have hs6 := u6.size
  have T6 := ((T2.upd0 u3).upd0 u5).upd0 u6
  obtain ⟨c, w7, j7, vc, fc, u7⟩ := Sum_any hK 256 T6.to P6 (fun k hk => hk) (by decide)
  have hs7 := u7.size
  rw [known256, if_pos rfl] at j7
  have ec : ([abcB] : List (List Int)).flatten = abcB := rfl
  rw [ec] at vc
  have q27 : Upd none_ w2 w7 := ((u3.and0 u5).and0 u6).and0 u7
  obtain ⟨b, w8, j8, vb, fb, u8⟩ := Sum_any hK h (T2.upd0 q27).to (P2.upd0 q27) (fun k hk => by omega) (by omega)
  have hs8 := u8.size
  have q28 := q27.and0 u8
  obtain ⟨r, w9, j9, or9, u9, fr⟩ := refSum_ok hK (h := h) (T2.upd0 q28) (((oJ.upd0 u2).upd0 q28).src ints_one) hxin (by omega)
  have hs9 := u9.size
  have hal := sumOf_len C S h xss.flatten
  -- the checks
  obtain ⟨w10, k10, u10⟩ := SameBytes_ok hK ((va.upd0 (((u5.and0 u6).and0 u7).and0 (u8.and0 u9))).rd) or9.rd (by omega)
  obtain ⟨w11, k11, u11⟩ := SameBytes_ok hK ((vb.upd0 u9).upd0 u10).rd (or9.upd0 u10).rd (by omega)
  have q211 := ((q28.and0 u9).and0 u10).and0 u11
  obtain ⟨w12, k12, u12⟩ := whole_ok hK (((hp.upd0 u1).upd0 u2).upd0 q211) (L.upd0 q211)
  rw [decide_eq_true rfl] at k10 k11
  have hs10 := u10.size
  have hs11 := u11.size
  have hs12 := u12.size
  have hs1 : ∀ want : Int, want = (if known h = true then 0 else 10) → law01_DigestSums_s1 K s l a (if known h = true then 0 else 10) 0 b (if known h = true then 0 else 10) r want w9 = some ((false, ()), w12) := by
    intro want hw
    unfold law01_DigestSums_s1 law01_num
    rw [hw, Option.bind_some]
    dsimp only
    rw [bne_self_eq_false, if_neg (by decide), Option.bind_some, bne_self_eq_false, if_neg (by decide), Option.bind_some, if_neg (by decide), k10, bnd_ok]
    dsimp only
    rw [if_neg (by decide), k11, bnd_ok]
    dsimp only
    rw [if_neg (by decide), k12, bnd_ok]
    rfl
  obtain ⟨w13, w14, j13, j14, s14, u14, z14⟩ := bytesC (P := prog) sliceB (by kernel_rfl) abcB (by decide) (by decide) w12
  have j13 : bldS prog 25 3 #[(0, (.int .u8 97)), (1, (.int .u8 98)), (2, (.int .u8 99))] w12 = _ := j13
  have q212 := q211.and0 u12
  have q214 := q212.and0 u14
  have hs14 := u14.size
  obtain ⟨g, w15, j15, og, u15, fg⟩ := refSum_ok hK (h := 256) (T2.upd0 q214) s14 abcB_in (by decide)
  have hs15 := u15.size
  have q315 : Upd none_ w3 w15 := (((((((((u5.and0 u6).and0 u7).and0 u8).and0 u9).and0 u10).and0 u11).and0 u12).and0 u14).and0 u15)
  obtain ⟨w16, j16, u16⟩ := SpoilBytes_ok hK (va.upd0 q315) (by omega)
  have hs16 := u16.size
  have hab : ∀ k, a.blk = some k → w2.heap.size ≤ k ∧ k < w3.heap.size := fun k hk => ⟨fa k hk, va.lt hk⟩
  -- all but a is as it was
  have vb16 := (vb.upd0 ((((((u9.and0 u10).and0 u11).and0 u12).and0 u14).and0 u15))).upd u16 fun k hk e => by have := hab k e; have := fb k hk; omega
  have vc16 := (vc.upd0 (((((((u8.and0 u9).and0 u10).and0 u11).and0 u12).and0 u14).and0 u15))).upd u16 fun k hk e => by have := hab k e; have := fc k hk; omega
  have or16 := (or9.upd0 (((((u10.and0 u11).and0 u12).and0 u14).and0 u15))).upd u16 fun k hk e => by have := hab k e; have := fr k hk; omega
  have og16 := og.upd u16 fun k hk e => by have := hab k e; have := fg k hk; omega
  have q215 := q214.and0 u15
  have T16 := (T2.upd0 q215).upd u16 fun k hk e => by have := hab k e; have := T2.lt; omega
  have P16 := (P2.upd0 q215).upd u16 fun k hk e => by have := hab k e; omega
  obtain ⟨w17, k17, u17⟩ := SameBytes_ok hK vb16.rd or16.rd (by omega)
  have hcl := sumOf_len C S 256 abcB
  obtain ⟨w18, k18, u18⟩ := SameBytes_ok hK (vc16.upd0 u17).rd (og16.upd0 u17).rd (by omega)
  rw [decide_eq_true rfl] at k17 k18
  have hs17 := u17.size
  have hs18 := u18.size
  have hs2' : law01_DigestSums_s2 K c b r g w16 = some ((false, ()), w18) := by
    unfold law01_DigestSums_s2
    rw [k17, bnd_ok]
    dsimp only
    rw [if_neg (by decide), k18, bnd_ok]
    rfl
  obtain ⟨d, w19, j19, vd, fd, u19⟩ := Sum_any hK h ((T16.upd0 u17).upd0 u18).to ((P16.upd0 u17).upd0 u18) (fun k hk => by omega) (by omega)
  have hs19 := u19.size
  obtain ⟨w20, k20, u20⟩ := SameBytes_ok hK vd.rd (((or16.upd0 u17).upd0 u18).upd0 u19).rd (by omega)
  rw [decide_eq_true rfl] at k20
  have q02 : Upd none_ w w2 := u1.and0 u2
  have q015 : Upd none_ w w15 := q02.and0 q215
  have q016 : Upd none_ w w16 := q015.trans' u16 fun k hk e => by have := hab k e; omega
  refine ⟨w20, ?_, ((q016.and0 u17).and0 u18).and0 (u19.and0 u20)⟩
  rw [j2, bnd_ok]
  dsimp only
  rw [j3, bnd_ok, j4, bnd_ok]
  dsimp only
  rw [j5, bnd_ok]
  dsimp only [asS]
  rw [Option.bind_some]
  dsimp only
  rw [j6, bnd_ok, j7, bnd_ok, j8, bnd_ok, j9, bnd_ok, refSize_ok, Option.bind_some]
  dsimp only
  have hs0 : law01_DigestSums_s0 K 0 (sizeOfH h == 0) w9 = some (((if known h = true then 0 else 10), ()), w9) := by
    unfold law01_DigestSums_s0
    rw [size_zero]
    cases known h <;> rfl
  rw [hs0, bnd_ok]
  dsimp only
  rw [hs1 _ rfl, bnd_ok]
  dsimp only
  rw [if_neg (by decide), j13, bnd_ok]
  dsimp only
  rw [j14, bnd_ok]
  dsimp only [asS]
  rw [Option.bind_some, j15, bnd_ok, j16, bnd_ok, hs2', bnd_ok]
  dsimp only
  rw [if_neg (by decide), j19, bnd_ok]
  dsimp only
  unfold law01_num
  rw [Option.bind_some]
  dsimp only
  rw [if_pos (by simp), k20, bnd_ok]

end Go.Sh
